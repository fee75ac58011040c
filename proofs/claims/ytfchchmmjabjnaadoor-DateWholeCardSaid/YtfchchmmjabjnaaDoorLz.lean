/- The walk of DateWhole. -/
import Derived.Test.YtfchchmmjabjnaaDoorLe
import Derived.Test.YtfchchmmjabjnaaDoorY2
import Derived.Test.YtfchchmmjabjnaaDoorWk
namespace Go.Proofs.YtfchchmmjabjnaaDoor
open Go Go.RowKit
attribute [local go_sem] gv_yes

theorem eqIntsAt (w : World) {sx sy : Value} {l : List Int} (h : IntsAt w sx l) (h' : IntsAt w sy l) : Calls Tryd.prog 64 #[sx, sy] w fun e w' => e = .returned (.bool true) ∧ Ext w w' := by
  obtain ⟨A, ca, rfl, hA, h1, h2⟩ := h
  obtain ⟨B, cb, rfl, hB, _, _⟩ := h'
  exact eqInts_any A B l.length ca cb (fun i => l.getD i 0) w hA hB (by unfold maxLen at h2; omega)
theorem ints_new (w : World) (x : Int) (t : TypeId) : IntsAt (w.alloc (.cells #[.int .i64 x] t)) (.slice (some ⟨w.heap.size, 0, none⟩) 1 1) [x] := by
  have h := Held.new w t #[.int .i64 x]
  refine ⟨_, 1, rfl, fun _ => ⟨w.heap.size, 0, rfl, h.lt, fun i j v hi hv => ?_⟩, Nat.le_refl _, by decide⟩
  obtain rfl : i = 0 := by have : i < 1 := hi; omega
  have hj : j < 1 := (List.getElem?_eq_some_iff.1 hv).1
  rw [show 0 + 0 * 1 + j = j by omega, h.cell j, List.getElem?_toArray]
  exact hv
theorem spans_new (w : World) (x : Int) (t : TypeId) : SpansAt (w.alloc (.cells #[.int .i64 x, .int .i64 x] t)) (.slice (some ⟨w.heap.size, 0, none⟩) 1 1) [⟨x, x⟩] := by
  have h := Held.new w t #[.int .i64 x, .int .i64 x]
  refine ⟨_, 1, rfl, fun _ => ⟨w.heap.size, 0, rfl, h.lt, fun i j v hi hv => ?_⟩, Nat.le_refl _, by decide⟩
  obtain rfl : i = 0 := by have : i < 1 := hi; omega
  have hj : j < 2 := (List.getElem?_eq_some_iff.1 hv).1
  rw [show 0 + 0 * 2 + j = j by omega, h.cell j, List.getElem?_toArray]
  exact hv
theorem whole_sum {c : Cal} {d : Dt} (h : c.inE d = 0) : ∃ (t : Tr) (N : Int) (y : Nat), c.wholeV d = t ∧ c.numV d = N ∧ d.y = (y : Int) ∧ y < c.ny ∧ t.ok = true ∧ c.spE t = 0 ∧ c.spV t = [⟨N, N⟩] ∧ c.yearE (y : Int) = 0 ∧ c.reignS (y : Int) = t.kg ∧
    c.yofE t.kg (c.reignN (y : Int)) = 0 ∧ c.yofV t.kg (c.reignN (y : Int)) = (y : Int) ∧ c.namedV t.nm t.kg = [y] ∧ c.chk = 0 ∧ t.nm.size ≤ maxLen ∧ 0 ≤ c.reignN (y : Int) ∧ c.reignN (y : Int) ≤ 401 := by
  obtain ⟨hv, hh⟩ := inE_yes h
  have ok := valid_iff.1 hv
  obtain ⟨⟨hy0, hy1⟩, _⟩ := has_iff.1 hh
  obtain ⟨y, hy⟩ := Int.eq_ofNat_of_zero_le hy0
  have hyn : y < c.ny := by omega
  have hE : c.yearE (y : Int) = 0 := by unfold Cal.yearE; rw [if_pos hv, if_pos (by omega)]
  have hyr : c.yrI d.y = c.yr y := by rw [hy]; rfl
  have hkg : (c.wholeT d).kg = c.kingOf y := by show c.kg (c.yrI d.y).k.toNat = _; rw [hyr]; rfl
  have hnm : (c.wholeT d).nm = (c.yr y).nm := by show (c.yrI d.y).nm = _; rw [hyr]
  have hrs : c.reignS (y : Int) = c.kingOf y := by unfold Cal.reignS; rw [if_pos hE]; rfl
  have hrn : c.reignN (y : Int) = (c.ofKing (c.yr y).k (y + 1) : Int) := by unfold Cal.reignN; rw [if_pos hE]; rfl
  have hle := ofKing_le c (c.yr y).k (y + 1)
  obtain ⟨b1, b2⟩ := reign_back hv hyn
  have hny := ok.ny.2
  refine ⟨c.wholeT d, (c.num d).1, y, by unfold Cal.wholeV; rw [if_pos h], by unfold Cal.numV; rw [if_pos h], hy, hyn, whole_ok hv hh, ?_, ?_, hE, by rw [hrs, hkg], by rw [hkg, ← hrs]; exact b1, by rw [hkg, ← hrs]; exact b2, by rw [hnm, hkg]; exact named_alone hv hyn, chk_yes hv, ?_, by rw [hrn]; omega, by rw [hrn]; omega⟩
  · unfold Cal.spE trChk; rw [if_pos hv, if_pos (whole_ok hv hh)]
  · have : c.spE (c.wholeT d) = 0 := by unfold Cal.spE trChk; rw [if_pos hv, if_pos (whole_ok hv hh)]
    unfold Cal.spV
    rw [if_pos this]
    exact whole_spans hv hh
  · have := ok.yname y hyn
    simp only [isName, Bool.and_eq_true, decide_eq_true_eq] at this
    have h2 := this.1.1.2
    rw [hnm]
    unfold maxLen; omega
set_option maxRecDepth 100000 in
set_option maxHeartbeats 4000000 in
theorem dateWhole_walk (hwk : WorksOk) (A A' : Option Addr) (ca cb : Nat) (c : Cal) (d : Dt) (w : World) (hC : CalAt w A ca A' cb c) :
    Calls Tryd.prog 21 #[.agg #[.slice A c.nk ca, .slice A' c.ny cb], .agg #[.int .i64 d.y, .int .i64 d.m, .bool d.s, .int .i64 d.d]] w fun e w' => e = .returned (.bool true) ∧ Ext w w' := by
  have hwk : ∀ w : World, Calls Tryd.prog 28 #[] w fun e w' => e = .returned (.bool true) ∧ Ext w w' := hwk
  have N1 := fun v (h : CalAt v A ca A' cb c) => whole_any A A' ca cb c d v h
  have N2 := fun v (h : CalAt v A ca A' cb c) => numberX_any A A' ca cb c d v h
  by_cases hE : c.inE d = 0
  · obtain ⟨t, N, y, e1, e2, e3, hy, ht, e4, e5, e6, e7, e8, e9, e10, e11, hsz, hr0, hr1⟩ := whole_sum hE
    have hts := text_small ht
    have hpt := parse_text ht
    obtain ⟨dy, dm, ds, dd⟩ := d
    simp only at e3
    subst e3
    rw [hE] at N1 N2
    rw [e1] at N1
    rw [e2] at N2
    unfold Tr.val at N1
    have N3 := fun v (h : CalAt v A ca A' cb c) => spansX_any A A' ca cb c t v h
    rw [e4, e5] at N3
    have N4 := fun w => textX_any t w
    simp only [ht, if_true] at N4
    have N5 : ∀ w, Calls Tryd.prog 50 #[.string (textS t)] w fun e w' => e = .returned (.tuple #[.agg #[.int .i64 t.d, .bool t.more, .int .i64 t.m, .bool t.s, .string t.nm, .int .i64 t.af, .string t.kg], .int .i64 0]) ∧ Ext w w' := fun w => by
      have := parseX_any (textS t) w (by omega)
      unfold parseV parseE at this
      rw [hpt] at this
      exact this
    have N6 := fun v (h : CalAt v A ca A' cb c) => reign_any A A' ca cb c (y : Int) (by omega) (by have := h.ny_le; omega) v h
    rw [e6, e7] at N6
    have N7 := fun v (h : CalAt v A ca A' cb c) => yearOf_any A A' ca cb c t.kg (c.reignN (y : Int)) (by omega) (by omega) v h
    rw [e8, e9] at N7
    have N8 := fun v (h : CalAt v A ca A' cb c) => named_any A A' ca cb c t.nm t.kg hsz v h
    rw [e10, e11] at N8
    have NSS := fun w {a b : Value} (h : SpansAt w a [⟨N, N⟩]) (h' : SpansAt w b [⟨N, N⟩]) => same_any a b [⟨N, N⟩] [⟨N, N⟩] w h h'
    simp only [decide_true] at NSS
    have NEQ := fun w {a b : Value} (h : IntsAt w a [(y : Int)]) (h' : IntsAt w b [(y : Int)]) => eqIntsAt w h h'
    have NE := fun w => trace_neq t w
    have hny := hC.ny_le
    generalize textS t = tx at *
    generalize c.reignN (y : Int) = rn at *
    clear hE e1 e2 e4 e5 e6 e7 e8 e9 e10 e11 ht hpt hts hsz
    go_enter Tryd.func21, Tryd.ntmps21
    go_upto_region 1 with (fail)
    obtain ⟨v, hv⟩ : ∃ v, v = ((w.alloc (.cells #[.slice A c.nk ca, .slice A' c.ny cb] 25)).alloc (.cells #[.int .i64 (y : Int), .int .i64 dm, .bool ds, .int .i64 dd] 39)) := ⟨_, rfl⟩
    rw [← hv]
    have E : Ext w v := by rw [hv]; exact ((Ext.refl _).alloc _).alloc _
    have B1 : Held v w.heap.size 25 #[.slice A c.nk ca, .slice A' c.ny cb] := by rw [hv]; exact (Held.new _ _ _).alloc _
    have B2 : Held v (w.heap.size + 1) 39 #[.int .i64 (y : Int), .int .i64 dm, .bool ds, .int .i64 dd] := by rw [hv]; exact Held.at _ _ _ _ (by simp)
    clear hv
    have C := hC.ext E
    clear hC
    generalize w.heap.size = b1 at *
    obtain ⟨k0, k1⟩ := B1.c2; have lk := B1.lt
    obtain ⟨p0, p1, p2, p3⟩ := B2.c4; have lp := B2.lt
    go_upto_region 2 with (go_at_call 56; (with_reducible refine Calls.mono (N1 _ C) ?_); rintro e v2 ⟨rfl, h⟩)
    replace E := Ext.trans E h
    replace C := C.ext h
    replace B1 := B1.ext h
    replace B2 := B2.ext h
    clear h
    clear k0 k1 lk
    clear p0 p1 p2 p3 lp
    obtain ⟨k0, k1⟩ := B1.c2; have lk := B1.lt
    obtain ⟨p0, p1, p2, p3⟩ := B2.c4; have lp := B2.lt
    obtain ⟨v3, hv⟩ : ∃ v, v = v2.alloc (.cells #[.int .i64 t.d, .bool t.more, .int .i64 t.m, .bool t.s, .string t.nm, .int .i64 t.af, .string t.kg] 33) := ⟨_, rfl⟩
    rw [← hv]
    have h : Ext v2 v3 := by rw [hv]; exact (Ext.refl _).alloc _
    have B3 : Held v3 v2.heap.size 33 #[.int .i64 t.d, .bool t.more, .int .i64 t.m, .bool t.s, .string t.nm, .int .i64 t.af, .string t.kg] := by rw [hv]; exact Held.new _ _ _
    clear hv
    generalize v2.heap.size = b3 at *
    replace E := Ext.trans E h
    replace C := C.ext h
    replace B1 := B1.ext h
    replace B2 := B2.ext h
    clear h
    clear k0 k1 lk
    clear p0 p1 p2 p3 lp
    obtain ⟨k0, k1⟩ := B1.c2; have lk := B1.lt
    obtain ⟨p0, p1, p2, p3⟩ := B2.c4; have lp := B2.lt
    obtain ⟨q0, q1, q2, q3, q4, q5, q6⟩ := B3.c7; have lq := B3.lt
    go_upto_region 3 with (go_at_call 29; (with_reducible refine Calls.mono (N2 _ C) ?_); rintro e v4 ⟨rfl, h⟩)
    replace E := Ext.trans E h
    replace C := C.ext h
    replace B1 := B1.ext h
    replace B2 := B2.ext h
    replace B3 := B3.ext h
    clear h
    clear k0 k1 lk
    clear p0 p1 p2 p3 lp
    clear q0 q1 q2 q3 q4 q5 q6 lq
    obtain ⟨k0, k1⟩ := B1.c2; have lk := B1.lt
    obtain ⟨p0, p1, p2, p3⟩ := B2.c4; have lp := B2.lt
    obtain ⟨q0, q1, q2, q3, q4, q5, q6⟩ := B3.c7; have lq := B3.lt
    go_upto_region 6 with (go_at_call 33; (with_reducible refine Calls.mono (N3 _ C) ?_); rintro e v5 ⟨l, rfl, h, SL⟩)
    replace E := Ext.trans E h
    replace C := C.ext h
    replace B1 := B1.ext h
    replace B2 := B2.ext h
    replace B3 := B3.ext h
    clear h
    clear k0 k1 lk
    clear p0 p1 p2 p3 lp
    clear q0 q1 q2 q3 q4 q5 q6 lq
    obtain ⟨k0, k1⟩ := B1.c2; have lk := B1.lt
    obtain ⟨p0, p1, p2, p3⟩ := B2.c4; have lp := B2.lt
    obtain ⟨q0, q1, q2, q3, q4, q5, q6⟩ := B3.c7; have lq := B3.lt
    go_upto_region 7 with (go_at_call 46; (with_reducible refine Calls.mono (N4 _) ?_); rintro e v6 ⟨rfl, h⟩)
    replace SL := SL.ext h
    replace E := Ext.trans E h
    replace C := C.ext h
    replace B1 := B1.ext h
    replace B2 := B2.ext h
    replace B3 := B3.ext h
    clear h
    clear k0 k1 lk
    clear p0 p1 p2 p3 lp
    clear q0 q1 q2 q3 q4 q5 q6 lq
    obtain ⟨k0, k1⟩ := B1.c2; have lk := B1.lt
    obtain ⟨p0, p1, p2, p3⟩ := B2.c4; have lp := B2.lt
    obtain ⟨q0, q1, q2, q3, q4, q5, q6⟩ := B3.c7; have lq := B3.lt
    go_upto_region 8 with (go_at_call 50; (with_reducible refine Calls.mono (N5 _) ?_); rintro e v7 ⟨rfl, h⟩)
    replace SL := SL.ext h
    replace E := Ext.trans E h
    replace C := C.ext h
    replace B1 := B1.ext h
    replace B2 := B2.ext h
    replace B3 := B3.ext h
    clear h
    clear k0 k1 lk
    clear p0 p1 p2 p3 lp
    clear q0 q1 q2 q3 q4 q5 q6 lq
    obtain ⟨k0, k1⟩ := B1.c2; have lk := B1.lt
    obtain ⟨p0, p1, p2, p3⟩ := B2.c4; have lp := B2.lt
    obtain ⟨q0, q1, q2, q3, q4, q5, q6⟩ := B3.c7; have lq := B3.lt
    obtain ⟨v8, hv⟩ : ∃ v, v = v7.alloc (.cells #[.int .i64 t.d, .bool t.more, .int .i64 t.m, .bool t.s, .string t.nm, .int .i64 t.af, .string t.kg] 33) := ⟨_, rfl⟩
    rw [← hv]
    have h : Ext v7 v8 := by rw [hv]; exact (Ext.refl _).alloc _
    have B4 : Held v8 v7.heap.size 33 #[.int .i64 t.d, .bool t.more, .int .i64 t.m, .bool t.s, .string t.nm, .int .i64 t.af, .string t.kg] := by rw [hv]; exact Held.new _ _ _
    clear hv
    generalize v7.heap.size = b4 at *
    replace E := Ext.trans E h
    replace C := C.ext h
    replace B1 := B1.ext h
    replace B2 := B2.ext h
    replace B3 := B3.ext h
    replace SL := SL.ext h
    clear h
    clear k0 k1 lk
    clear p0 p1 p2 p3 lp
    clear q0 q1 q2 q3 q4 q5 q6 lq
    obtain ⟨k0, k1⟩ := B1.c2; have lk := B1.lt
    obtain ⟨p0, p1, p2, p3⟩ := B2.c4; have lp := B2.lt
    obtain ⟨q0, q1, q2, q3, q4, q5, q6⟩ := B3.c7; have lq := B3.lt
    obtain ⟨r0, r1, r2, r3, r4, r5, r6⟩ := B4.c7; have lr := B4.lt
    go_upto_region 10 with (go_at_call 26; (with_reducible refine Calls.mono (NSS _ (SL.ext ((Ext.refl _).alloc _)) (spans_new _ _ _)) ?_); rintro e v9 ⟨rfl, h9⟩; have h : Ext v8 v9 := ((Ext.refl _).alloc _).trans h9; clear q0 q1 q2 q3 q4 q5 q6 lq r0 r1 r2 r3 r4 r5 r6 lr; obtain ⟨q0, q1, q2, q3, q4, q5, q6⟩ := (B3.ext h).c7; have lq := (B3.ext h).lt; obtain ⟨r0, r1, r2, r3, r4, r5, r6⟩ := (B4.ext h).c7; have lr := (B4.ext h).lt)
    clear SL h9
    replace E := Ext.trans E h
    replace C := C.ext h
    replace B1 := B1.ext h
    replace B2 := B2.ext h
    replace B3 := B3.ext h
    replace B4 := B4.ext h
    clear h
    clear k0 k1 lk
    clear p0 p1 p2 p3 lp
    clear q0 q1 q2 q3 q4 q5 q6 lq
    clear r0 r1 r2 r3 r4 r5 r6 lr
    obtain ⟨k0, k1⟩ := B1.c2; have lk := B1.lt
    obtain ⟨p0, p1, p2, p3⟩ := B2.c4; have lp := B2.lt
    obtain ⟨q0, q1, q2, q3, q4, q5, q6⟩ := B3.c7; have lq := B3.lt
    obtain ⟨r0, r1, r2, r3, r4, r5, r6⟩ := B4.c7; have lr := B4.lt
    go_upto_region 11 with (go_at_call 68; (with_reducible refine Calls.mono (N6 _ C) ?_); rintro e v10 ⟨rfl, h⟩)
    replace E := Ext.trans E h
    replace C := C.ext h
    replace B1 := B1.ext h
    replace B2 := B2.ext h
    replace B3 := B3.ext h
    replace B4 := B4.ext h
    clear h
    clear k0 k1 lk
    clear p0 p1 p2 p3 lp
    clear q0 q1 q2 q3 q4 q5 q6 lq
    clear r0 r1 r2 r3 r4 r5 r6 lr
    obtain ⟨k0, k1⟩ := B1.c2; have lk := B1.lt
    obtain ⟨p0, p1, p2, p3⟩ := B2.c4; have lp := B2.lt
    obtain ⟨q0, q1, q2, q3, q4, q5, q6⟩ := B3.c7; have lq := B3.lt
    obtain ⟨r0, r1, r2, r3, r4, r5, r6⟩ := B4.c7; have lr := B4.lt
    go_upto_region 12 with (go_at_call 60; (with_reducible refine Calls.mono (N7 _ C) ?_); rintro e v11 ⟨rfl, h⟩)
    replace E := Ext.trans E h
    replace C := C.ext h
    replace B1 := B1.ext h
    replace B2 := B2.ext h
    replace B3 := B3.ext h
    replace B4 := B4.ext h
    clear h
    clear k0 k1 lk
    clear p0 p1 p2 p3 lp
    clear q0 q1 q2 q3 q4 q5 q6 lq
    clear r0 r1 r2 r3 r4 r5 r6 lr
    obtain ⟨k0, k1⟩ := B1.c2; have lk := B1.lt
    obtain ⟨p0, p1, p2, p3⟩ := B2.c4; have lp := B2.lt
    obtain ⟨q0, q1, q2, q3, q4, q5, q6⟩ := B3.c7; have lq := B3.lt
    obtain ⟨r0, r1, r2, r3, r4, r5, r6⟩ := B4.c7; have lr := B4.lt
    go_upto_region 13 with (go_at_call 62; (with_reducible refine Calls.mono (N8 _ C) ?_); rintro e v12 ⟨yl, rfl, h, SY⟩)
    replace E := Ext.trans E h
    replace C := C.ext h
    replace B1 := B1.ext h
    replace B2 := B2.ext h
    replace B3 := B3.ext h
    replace B4 := B4.ext h
    clear h
    clear k0 k1 lk
    clear p0 p1 p2 p3 lp
    clear q0 q1 q2 q3 q4 q5 q6 lq
    clear r0 r1 r2 r3 r4 r5 r6 lr
    obtain ⟨k0, k1⟩ := B1.c2; have lk := B1.lt
    obtain ⟨p0, p1, p2, p3⟩ := B2.c4; have lp := B2.lt
    obtain ⟨q0, q1, q2, q3, q4, q5, q6⟩ := B3.c7; have lq := B3.lt
    obtain ⟨r0, r1, r2, r3, r4, r5, r6⟩ := B4.c7; have lr := B4.lt
    go_wp2_with (first | (go_at_call 64; (with_reducible refine Calls.mono (NEQ _ (SY.ext ((Ext.refl _).alloc _)) (ints_new _ _ _)) ?_); rintro e v13 ⟨rfl, h7⟩) | (go_at_call 28; (with_reducible refine Calls.mono (hwk _) ?_); rintro e v14 ⟨rfl, h9⟩))
    go_ret
    exact ⟨rfl, E.trans (((Ext.refl _).alloc _).trans (h7.trans h9))⟩
  · have he : (c.inE d == 0) = false := beq_eq_false_iff_ne.2 hE
    have e1 : c.wholeV d = zTr := by unfold Cal.wholeV; rw [if_neg hE]; rfl
    rw [e1] at N1
    unfold Tr.val zTr at N1
    clear e1 hE
    generalize c.numV d = N at *
    generalize c.inE d = ee at *
    go_enter Tryd.func21, Tryd.ntmps21
    go_upto_region 1 with (fail)
    obtain ⟨v, hv⟩ : ∃ v, v = ((w.alloc (.cells #[.slice A c.nk ca, .slice A' c.ny cb] 25)).alloc (.cells #[.int .i64 d.y, .int .i64 d.m, .bool d.s, .int .i64 d.d] 39)) := ⟨_, rfl⟩
    rw [← hv]
    have E : Ext w v := by rw [hv]; exact ((Ext.refl _).alloc _).alloc _
    have B1 : Held v w.heap.size 25 #[.slice A c.nk ca, .slice A' c.ny cb] := by rw [hv]; exact (Held.new _ _ _).alloc _
    have B2 : Held v (w.heap.size + 1) 39 #[.int .i64 d.y, .int .i64 d.m, .bool d.s, .int .i64 d.d] := by rw [hv]; exact Held.at _ _ _ _ (by simp)
    clear hv
    have C := hC.ext E
    clear hC
    generalize w.heap.size = b1 at *
    obtain ⟨k0, k1⟩ := B1.c2; have lk := B1.lt
    obtain ⟨p0, p1, p2, p3⟩ := B2.c4; have lp := B2.lt
    go_upto_region 2 with (go_at_call 56; (with_reducible refine Calls.mono (N1 _ C) ?_); rintro e v2 ⟨rfl, h⟩)
    replace E := Ext.trans E h
    replace C := C.ext h
    replace B1 := B1.ext h
    replace B2 := B2.ext h
    clear h
    clear k0 k1 lk
    clear p0 p1 p2 p3 lp
    obtain ⟨k0, k1⟩ := B1.c2; have lk := B1.lt
    obtain ⟨p0, p1, p2, p3⟩ := B2.c4; have lp := B2.lt
    obtain ⟨v3, hv⟩ : ∃ v, v = v2.alloc (.cells #[.int .i64 0, .bool false, .int .i64 0, .bool false, .string ⟨#[]⟩, .int .i64 0, .string ⟨#[]⟩] 33) := ⟨_, rfl⟩
    rw [← hv]
    have h : Ext v2 v3 := by rw [hv]; exact (Ext.refl _).alloc _
    have B3 : Held v3 v2.heap.size 33 #[.int .i64 0, .bool false, .int .i64 0, .bool false, .string ⟨#[]⟩, .int .i64 0, .string ⟨#[]⟩] := by rw [hv]; exact Held.new _ _ _
    clear hv
    generalize v2.heap.size = b3 at *
    replace E := Ext.trans E h
    replace C := C.ext h
    replace B1 := B1.ext h
    replace B2 := B2.ext h
    clear h
    clear k0 k1 lk
    clear p0 p1 p2 p3 lp
    obtain ⟨k0, k1⟩ := B1.c2; have lk := B1.lt
    obtain ⟨p0, p1, p2, p3⟩ := B2.c4; have lp := B2.lt
    obtain ⟨q0, q1, q2, q3, q4, q5, q6⟩ := B3.c7; have lq := B3.lt
    go_upto_region 3 with (go_at_call 29; (with_reducible refine Calls.mono (N2 _ C) ?_); rintro e v4 ⟨rfl, h⟩)
    replace E := Ext.trans E h
    replace C := C.ext h
    replace B1 := B1.ext h
    replace B2 := B2.ext h
    replace B3 := B3.ext h
    clear h
    clear k0 k1 lk
    clear p0 p1 p2 p3 lp
    clear q0 q1 q2 q3 q4 q5 q6 lq
    obtain ⟨k0, k1⟩ := B1.c2; have lk := B1.lt
    obtain ⟨p0, p1, p2, p3⟩ := B2.c4; have lp := B2.lt
    obtain ⟨q0, q1, q2, q3, q4, q5, q6⟩ := B3.c7; have lq := B3.lt
    go_wp2_with (go_at_call 28; (with_reducible refine Calls.mono (hwk _) ?_); rintro e v5 ⟨rfl, h⟩)
    go_ret
    exact ⟨rfl, E.trans h⟩
end Go.Proofs.YtfchchmmjabjnaaDoor
