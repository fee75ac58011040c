/- The walk of DateOrder. -/
import Derived.Test.YtfchchmmjabjnaaDoorWs
import Derived.Test.YtfchchmmjabjnaaDoorPl3
import Derived.Test.YtfchchmmjabjnaaDoorEq
namespace Go.Proofs.YtfchchmmjabjnaaDoor
open Go Go.RowKit
attribute [local go_sem] gv_yes

def WorksOk : Prop := ∀ w : World, Calls Tryd.prog 28 #[] w fun e w' => e = .returned (.bool true) ∧ Ext w w'
theorem Held.c8 {W : World} {b : Nat} {t : TypeId} {v0 v1 v2 v3 v4 v5 v6 v7 : Value} (h : Held W b t #[v0, v1, v2, v3, v4, v5, v6, v7]) : W.cell? ⟨b, 0, none⟩ = some v0 ∧ W.cell? ⟨b, 1, none⟩ = some v1 ∧ W.cell? ⟨b, 2, none⟩ = some v2 ∧ W.cell? ⟨b, 3, none⟩ = some v3 ∧ W.cell? ⟨b, 4, none⟩ = some v4 ∧ W.cell? ⟨b, 5, none⟩ = some v5 ∧ W.cell? ⟨b, 6, none⟩ = some v6 ∧ W.cell? ⟨b, 7, none⟩ = some v7 :=
  ⟨h.cell 0, h.cell 1, h.cell 2, h.cell 3, h.cell 4, h.cell 5, h.cell 6, h.cell 7⟩
theorem date_eql (a b : Dt) (w : World) : (binOp .eql 39 (.agg #[.int .i64 a.y, .int .i64 a.m, .bool a.s, .int .i64 a.d]) (.agg #[.int .i64 b.y, .int .i64 b.m, .bool b.s, .int .i64 b.d])).run Tryd.prog w = .ok (.bool (decide (a = b))) w := by
  rw [eql_date]
  congr 2
  rw [Bool.eq_iff_iff]
  obtain ⟨a0, a1, a2, a3⟩ := a
  obtain ⟨b0, b1, b2, b3⟩ := b
  simp
theorem less_any (a b : Dt) (w : World) : Calls Tryd.prog 30 #[.agg #[.int .i64 a.y, .int .i64 a.m, .bool a.s, .int .i64 a.d], .agg #[.int .i64 b.y, .int .i64 b.m, .bool b.s, .int .i64 b.d]] w fun e w' => e = .returned (.bool (a.less b)) ∧ Ext w w' := by
  have HR : Hid (a.less b = if a.y = b.y then (if a.m = b.m then (if a.s = b.s then decide (a.d < b.d) else b.s) else decide (a.m < b.m)) else decide (a.y < b.y)) := rfl
  generalize a.less b = r at *
  obtain ⟨a0, a1, a2, a3⟩ := a
  obtain ⟨b0, b1, b2, b3⟩ := b
  simp only at HR
  by_cases h0 : a0 = b0
  · subst h0
    by_cases h1 : a1 = b1
    · subst h1
      cases a2 <;> cases b2
      all_goals
        go_enter Tryd.func30, Tryd.ntmps30
        go_wp2
        go_ret
        exact ⟨ret_bool (by rw [HR.out]; simp), (by repeat (first | exact Ext.refl _ | (refine Ext.alloc ?_ _) | (refine Ext.trans ?_ (by assumption))))⟩
    · have HH := Lib.hid h1
      have h1' : (a1 == b1) = false := beq_eq_false_iff_ne.2 h1
      go_enter Tryd.func30, Tryd.ntmps30
      go_wp2
      go_ret
      exact ⟨ret_bool (by rw [HR.out]; simp [HH.out]), (by repeat (first | exact Ext.refl _ | (refine Ext.alloc ?_ _) | (refine Ext.trans ?_ (by assumption))))⟩
  · have HH := Lib.hid h0
    have h0' : (a0 == b0) = false := beq_eq_false_iff_ne.2 h0
    go_enter Tryd.func30, Tryd.ntmps30
    go_wp2
    go_ret
    exact ⟨ret_bool (by rw [HR.out]; simp [HH.out]), (by repeat (first | exact Ext.refl _ | (refine Ext.alloc ?_ _) | (refine Ext.trans ?_ (by assumption))))⟩
theorem inE_ok {c : Cal} {d : Dt} (h : c.inE d = 0) : c.valid = true ∧ c.has d = true := by
  rcases inE_cases c d with ⟨_, hE⟩ | ⟨_, _, hE⟩ | ⟨hv, hh, _⟩
  · rw [hE] at h; cases h
  · rw [hE] at h; cases h
  · exact ⟨hv, hh⟩
theorem order_sum {c : Cal} {a b : Dt} (ha : c.inE a = 0) (hb : c.inE b = 0) : ∃ x y s : Int, c.numV a = x ∧ c.numV b = y ∧ c.in2E a b = 0 ∧ c.betV a b = y - x ∧ c.schV a b = s ∧ a.less b = decide (x < y) ∧ (x = y ↔ a = b) ∧ (x < y → 0 < s) ∧ (x = y → s = 0) ∧ 0 ≤ x ∧ x ≤ 156000 ∧ 0 ≤ y ∧ y ≤ 156000 := by
  obtain ⟨hv, ka⟩ := inE_ok ha
  obtain ⟨_, kb⟩ := inE_ok hb
  have h2 : c.in2E a b = 0 := by unfold Cal.in2E; rw [hv, ka, kb]; rfl
  obtain ⟨o1, o2, o3, o4⟩ := order ka kb
  have hny := valid_ny hv
  have hd := dayAt_bd c c.ny
  have na := num_in ka
  have nb := num_in kb
  exact ⟨(c.num a).1, (c.num b).1, 30 * ((c.num b).2 - (c.num a).2) + b.d - a.d, by unfold Cal.numV; rw [if_pos ha], by unfold Cal.numV; rw [if_pos hb], h2, by unfold Cal.betV; rw [if_pos h2], by unfold Cal.schV; rw [if_pos h2], o1, o2, o3, o4, by omega, by omega, by omega, by omega⟩
set_option maxRecDepth 100000 in
set_option maxHeartbeats 4000000 in
theorem dateOrder_walk (hwk : WorksOk) (A A' : Option Addr) (ca cb : Nat) (c : Cal) (a b : Dt) (w : World) (hC : CalAt w A ca A' cb c) :
    Calls Tryd.prog 4 #[.agg #[.slice A c.nk ca, .slice A' c.ny cb], .agg #[.int .i64 a.y, .int .i64 a.m, .bool a.s, .int .i64 a.d, .int .i64 b.y, .int .i64 b.m, .bool b.s, .int .i64 b.d]] w fun e w' => e = .returned (.bool true) ∧ Ext w w' := by
  have hwk : ∀ w : World, Calls Tryd.prog 28 #[] w fun e w' => e = .returned (.bool true) ∧ Ext w w' := hwk
  have NA := fun v (h : CalAt v A ca A' cb c) => numberX_any A A' ca cb c a v h
  have NB := fun v (h : CalAt v A ca A' cb c) => numberX_any A A' ca cb c b v h
  by_cases ha : c.inE a = 0
  · by_cases hb : c.inE b = 0
    · obtain ⟨x, y, s, e1, e2, e3, e4, e5, e6, e7, e8, e9, x1, x2, y1, y2⟩ := order_sum ha hb
      have NL := fun v => less_any a b v
      have NT := fun v (h : CalAt v A ca A' cb c) => betweenX_any A A' ca cb c a b v h
      have NS := fun v (h : CalAt v A ca A' cb c) => schemeX_any A A' ca cb c a b v h
      have ND := fun v => date_eql a b v
      simp only [e1, ha] at NA
      simp only [e2, hb] at NB
      simp only [e6] at NL
      simp only [e4, e3] at NT
      simp only [e5, e3] at NS
      clear ha hb e1 e2 e3 e4 e5 e6
      rcases Int.lt_trichotomy x y with h | h | h
      · have hs := e8 h
        have hne : ¬ x = y := by omega
        have hd : decide (a = b) = false := decide_eq_false fun e => hne (e7.2 e)
        simp only [decide_eq_true h] at NL
        simp only [hd] at ND
        have h1 : (x == y) = false := beq_eq_false_iff_ne.2 hne
        clear e7 e8 e9 hd
        go_enter Tryd.func4, Tryd.ntmps4
        go_upto_region 1 with (fail)
        obtain ⟨v, hv⟩ : ∃ v, v = ((w.alloc (.cells #[.slice A c.nk ca, .slice A' c.ny cb] 25)).alloc (.cells #[.int .i64 a.y, .int .i64 a.m, .bool a.s, .int .i64 a.d, .int .i64 b.y, .int .i64 b.m, .bool b.s, .int .i64 b.d] 41)) := ⟨_, rfl⟩
        rw [← hv]
        have E : Ext w v := by rw [hv]; exact ((Ext.refl _).alloc _).alloc _
        have B1 : Held v w.heap.size 25 #[.slice A c.nk ca, .slice A' c.ny cb] := by rw [hv]; exact (Held.new _ _ _).alloc _
        have B2 : Held v (w.heap.size + 1) 41 #[.int .i64 a.y, .int .i64 a.m, .bool a.s, .int .i64 a.d, .int .i64 b.y, .int .i64 b.m, .bool b.s, .int .i64 b.d] := by rw [hv]; exact Held.at _ _ _ _ (by simp)
        clear hv
        have C := hC.ext E
        clear hC
        generalize w.heap.size = b1 at *
        obtain ⟨k0, k1⟩ := B1.c2; have lk := B1.lt
        obtain ⟨p0, p1, p2, p3, p4, p5, p6, p7⟩ := B2.c8; have lp := B2.lt
        go_upto_region 2 with (go_at_call 29; (with_reducible refine Calls.mono (NA _ C) ?_); rintro e v2 ⟨rfl, h⟩)
        replace E := Ext.trans E h
        replace C := C.ext h
        replace B1 := B1.ext h
        replace B2 := B2.ext h
        clear h
        clear k0 k1 lk
        clear p0 p1 p2 p3 p4 p5 p6 p7 lp
        obtain ⟨k0, k1⟩ := B1.c2; have lk := B1.lt
        obtain ⟨p0, p1, p2, p3, p4, p5, p6, p7⟩ := B2.c8; have lp := B2.lt
        go_upto_region 3 with (go_at_call 29; (with_reducible refine Calls.mono (NB _ C) ?_); rintro e v3 ⟨rfl, h⟩)
        replace E := Ext.trans E h
        replace C := C.ext h
        replace B1 := B1.ext h
        replace B2 := B2.ext h
        clear h
        clear k0 k1 lk
        clear p0 p1 p2 p3 p4 p5 p6 p7 lp
        obtain ⟨k0, k1⟩ := B1.c2; have lk := B1.lt
        obtain ⟨p0, p1, p2, p3, p4, p5, p6, p7⟩ := B2.c8; have lp := B2.lt
        go_upto_region 7 with (go_at_call 30; (with_reducible refine Calls.mono (NL _) ?_); rintro e v4 ⟨rfl, h⟩; clear p0 p1 p2 p3 p4 p5 p6 p7 lp; obtain ⟨p0, p1, p2, p3, p4, p5, p6, p7⟩ := (B2.ext h).c8; have lp := (B2.ext h).lt)
        replace E := Ext.trans E h
        replace C := C.ext h
        replace B1 := B1.ext h
        replace B2 := B2.ext h
        clear h
        clear k0 k1 lk
        clear p0 p1 p2 p3 p4 p5 p6 p7 lp
        obtain ⟨k0, k1⟩ := B1.c2; have lk := B1.lt
        obtain ⟨p0, p1, p2, p3, p4, p5, p6, p7⟩ := B2.c8; have lp := B2.lt
        go_upto_region 8 with (go_at_call 31; (with_reducible refine Calls.mono (NT _ C) ?_); rintro e v5 ⟨rfl, h⟩)
        replace E := Ext.trans E h
        replace C := C.ext h
        replace B1 := B1.ext h
        replace B2 := B2.ext h
        clear h
        clear k0 k1 lk
        clear p0 p1 p2 p3 p4 p5 p6 p7 lp
        obtain ⟨k0, k1⟩ := B1.c2; have lk := B1.lt
        obtain ⟨p0, p1, p2, p3, p4, p5, p6, p7⟩ := B2.c8; have lp := B2.lt
        go_upto_region 9 with (go_at_call 32; (with_reducible refine Calls.mono (NS _ C) ?_); rintro e v6 ⟨rfl, h⟩)
        replace E := Ext.trans E h
        replace C := C.ext h
        replace B1 := B1.ext h
        replace B2 := B2.ext h
        clear h
        clear k0 k1 lk
        clear p0 p1 p2 p3 p4 p5 p6 p7 lp
        obtain ⟨k0, k1⟩ := B1.c2; have lk := B1.lt
        obtain ⟨p0, p1, p2, p3, p4, p5, p6, p7⟩ := B2.c8; have lp := B2.lt
        go_wp2_with (go_at_call 28; (with_reducible refine Calls.mono (hwk _) ?_); rintro e v7 ⟨rfl, h⟩)
        go_ret
        exact ⟨rfl, E.trans h⟩
      · have hs := e9 h
        have hd : decide (a = b) = true := decide_eq_true (e7.1 h)
        simp only [decide_eq_false (show ¬ x < y by omega)] at NL
        simp only [hd] at ND
        clear e7 e8 e9 hd
        subst h
        subst hs
        go_enter Tryd.func4, Tryd.ntmps4
        go_upto_region 1 with (fail)
        obtain ⟨v, hv⟩ : ∃ v, v = ((w.alloc (.cells #[.slice A c.nk ca, .slice A' c.ny cb] 25)).alloc (.cells #[.int .i64 a.y, .int .i64 a.m, .bool a.s, .int .i64 a.d, .int .i64 b.y, .int .i64 b.m, .bool b.s, .int .i64 b.d] 41)) := ⟨_, rfl⟩
        rw [← hv]
        have E : Ext w v := by rw [hv]; exact ((Ext.refl _).alloc _).alloc _
        have B1 : Held v w.heap.size 25 #[.slice A c.nk ca, .slice A' c.ny cb] := by rw [hv]; exact (Held.new _ _ _).alloc _
        have B2 : Held v (w.heap.size + 1) 41 #[.int .i64 a.y, .int .i64 a.m, .bool a.s, .int .i64 a.d, .int .i64 b.y, .int .i64 b.m, .bool b.s, .int .i64 b.d] := by rw [hv]; exact Held.at _ _ _ _ (by simp)
        clear hv
        have C := hC.ext E
        clear hC
        generalize w.heap.size = b1 at *
        obtain ⟨k0, k1⟩ := B1.c2; have lk := B1.lt
        obtain ⟨p0, p1, p2, p3, p4, p5, p6, p7⟩ := B2.c8; have lp := B2.lt
        go_upto_region 2 with (go_at_call 29; (with_reducible refine Calls.mono (NA _ C) ?_); rintro e v2 ⟨rfl, h⟩)
        replace E := Ext.trans E h
        replace C := C.ext h
        replace B1 := B1.ext h
        replace B2 := B2.ext h
        clear h
        clear k0 k1 lk
        clear p0 p1 p2 p3 p4 p5 p6 p7 lp
        obtain ⟨k0, k1⟩ := B1.c2; have lk := B1.lt
        obtain ⟨p0, p1, p2, p3, p4, p5, p6, p7⟩ := B2.c8; have lp := B2.lt
        go_upto_region 3 with (go_at_call 29; (with_reducible refine Calls.mono (NB _ C) ?_); rintro e v3 ⟨rfl, h⟩)
        replace E := Ext.trans E h
        replace C := C.ext h
        replace B1 := B1.ext h
        replace B2 := B2.ext h
        clear h
        clear k0 k1 lk
        clear p0 p1 p2 p3 p4 p5 p6 p7 lp
        obtain ⟨k0, k1⟩ := B1.c2; have lk := B1.lt
        obtain ⟨p0, p1, p2, p3, p4, p5, p6, p7⟩ := B2.c8; have lp := B2.lt
        go_upto_region 7 with (go_at_call 30; (with_reducible refine Calls.mono (NL _) ?_); rintro e v4 ⟨rfl, h⟩; clear p0 p1 p2 p3 p4 p5 p6 p7 lp; obtain ⟨p0, p1, p2, p3, p4, p5, p6, p7⟩ := (B2.ext h).c8; have lp := (B2.ext h).lt)
        replace E := Ext.trans E h
        replace C := C.ext h
        replace B1 := B1.ext h
        replace B2 := B2.ext h
        clear h
        clear k0 k1 lk
        clear p0 p1 p2 p3 p4 p5 p6 p7 lp
        obtain ⟨k0, k1⟩ := B1.c2; have lk := B1.lt
        obtain ⟨p0, p1, p2, p3, p4, p5, p6, p7⟩ := B2.c8; have lp := B2.lt
        go_upto_region 8 with (go_at_call 31; (with_reducible refine Calls.mono (NT _ C) ?_); rintro e v5 ⟨rfl, h⟩)
        replace E := Ext.trans E h
        replace C := C.ext h
        replace B1 := B1.ext h
        replace B2 := B2.ext h
        clear h
        clear k0 k1 lk
        clear p0 p1 p2 p3 p4 p5 p6 p7 lp
        obtain ⟨k0, k1⟩ := B1.c2; have lk := B1.lt
        obtain ⟨p0, p1, p2, p3, p4, p5, p6, p7⟩ := B2.c8; have lp := B2.lt
        go_upto_region 9 with (go_at_call 32; (with_reducible refine Calls.mono (NS _ C) ?_); rintro e v6 ⟨rfl, h⟩)
        replace E := Ext.trans E h
        replace C := C.ext h
        replace B1 := B1.ext h
        replace B2 := B2.ext h
        clear h
        clear k0 k1 lk
        clear p0 p1 p2 p3 p4 p5 p6 p7 lp
        obtain ⟨k0, k1⟩ := B1.c2; have lk := B1.lt
        obtain ⟨p0, p1, p2, p3, p4, p5, p6, p7⟩ := B2.c8; have lp := B2.lt
        go_wp2_with (go_at_call 28; (with_reducible refine Calls.mono (hwk _) ?_); rintro e v7 ⟨rfl, h⟩)
        go_ret
        exact ⟨rfl, E.trans h⟩
      · have hne : ¬ x = y := by omega
        have hlt : ¬ x < y := by omega
        have hd : decide (a = b) = false := decide_eq_false fun e => hne (e7.2 e)
        simp only [decide_eq_false hlt] at NL
        simp only [hd] at ND
        have h1 : (x == y) = false := beq_eq_false_iff_ne.2 hne
        clear e7 e8 e9 hd
        go_enter Tryd.func4, Tryd.ntmps4
        go_upto_region 1 with (fail)
        obtain ⟨v, hv⟩ : ∃ v, v = ((w.alloc (.cells #[.slice A c.nk ca, .slice A' c.ny cb] 25)).alloc (.cells #[.int .i64 a.y, .int .i64 a.m, .bool a.s, .int .i64 a.d, .int .i64 b.y, .int .i64 b.m, .bool b.s, .int .i64 b.d] 41)) := ⟨_, rfl⟩
        rw [← hv]
        have E : Ext w v := by rw [hv]; exact ((Ext.refl _).alloc _).alloc _
        have B1 : Held v w.heap.size 25 #[.slice A c.nk ca, .slice A' c.ny cb] := by rw [hv]; exact (Held.new _ _ _).alloc _
        have B2 : Held v (w.heap.size + 1) 41 #[.int .i64 a.y, .int .i64 a.m, .bool a.s, .int .i64 a.d, .int .i64 b.y, .int .i64 b.m, .bool b.s, .int .i64 b.d] := by rw [hv]; exact Held.at _ _ _ _ (by simp)
        clear hv
        have C := hC.ext E
        clear hC
        generalize w.heap.size = b1 at *
        obtain ⟨k0, k1⟩ := B1.c2; have lk := B1.lt
        obtain ⟨p0, p1, p2, p3, p4, p5, p6, p7⟩ := B2.c8; have lp := B2.lt
        go_upto_region 2 with (go_at_call 29; (with_reducible refine Calls.mono (NA _ C) ?_); rintro e v2 ⟨rfl, h⟩)
        replace E := Ext.trans E h
        replace C := C.ext h
        replace B1 := B1.ext h
        replace B2 := B2.ext h
        clear h
        clear k0 k1 lk
        clear p0 p1 p2 p3 p4 p5 p6 p7 lp
        obtain ⟨k0, k1⟩ := B1.c2; have lk := B1.lt
        obtain ⟨p0, p1, p2, p3, p4, p5, p6, p7⟩ := B2.c8; have lp := B2.lt
        go_upto_region 3 with (go_at_call 29; (with_reducible refine Calls.mono (NB _ C) ?_); rintro e v3 ⟨rfl, h⟩)
        replace E := Ext.trans E h
        replace C := C.ext h
        replace B1 := B1.ext h
        replace B2 := B2.ext h
        clear h
        clear k0 k1 lk
        clear p0 p1 p2 p3 p4 p5 p6 p7 lp
        obtain ⟨k0, k1⟩ := B1.c2; have lk := B1.lt
        obtain ⟨p0, p1, p2, p3, p4, p5, p6, p7⟩ := B2.c8; have lp := B2.lt
        go_upto_region 7 with (go_at_call 30; (with_reducible refine Calls.mono (NL _) ?_); rintro e v4 ⟨rfl, h⟩; clear p0 p1 p2 p3 p4 p5 p6 p7 lp; obtain ⟨p0, p1, p2, p3, p4, p5, p6, p7⟩ := (B2.ext h).c8; have lp := (B2.ext h).lt)
        replace E := Ext.trans E h
        replace C := C.ext h
        replace B1 := B1.ext h
        replace B2 := B2.ext h
        clear h
        clear k0 k1 lk
        clear p0 p1 p2 p3 p4 p5 p6 p7 lp
        obtain ⟨k0, k1⟩ := B1.c2; have lk := B1.lt
        obtain ⟨p0, p1, p2, p3, p4, p5, p6, p7⟩ := B2.c8; have lp := B2.lt
        go_upto_region 8 with (go_at_call 31; (with_reducible refine Calls.mono (NT _ C) ?_); rintro e v5 ⟨rfl, h⟩)
        replace E := Ext.trans E h
        replace C := C.ext h
        replace B1 := B1.ext h
        replace B2 := B2.ext h
        clear h
        clear k0 k1 lk
        clear p0 p1 p2 p3 p4 p5 p6 p7 lp
        obtain ⟨k0, k1⟩ := B1.c2; have lk := B1.lt
        obtain ⟨p0, p1, p2, p3, p4, p5, p6, p7⟩ := B2.c8; have lp := B2.lt
        go_upto_region 9 with (go_at_call 32; (with_reducible refine Calls.mono (NS _ C) ?_); rintro e v6 ⟨rfl, h⟩)
        replace E := Ext.trans E h
        replace C := C.ext h
        replace B1 := B1.ext h
        replace B2 := B2.ext h
        clear h
        clear k0 k1 lk
        clear p0 p1 p2 p3 p4 p5 p6 p7 lp
        obtain ⟨k0, k1⟩ := B1.c2; have lk := B1.lt
        obtain ⟨p0, p1, p2, p3, p4, p5, p6, p7⟩ := B2.c8; have lp := B2.lt
        go_wp2_with (go_at_call 28; (with_reducible refine Calls.mono (hwk _) ?_); rintro e v7 ⟨rfl, h⟩)
        go_ret
        exact ⟨rfl, E.trans h⟩
    · simp only [ha] at NA
      clear ha
      generalize c.numV a = x at *
      generalize c.numV b = y at *
      generalize c.inE b = e at *
      have he : (e == 0) = false := beq_eq_false_iff_ne.2 hb
      go_enter Tryd.func4, Tryd.ntmps4
      go_upto_region 1 with (fail)
      obtain ⟨v, hv⟩ : ∃ v, v = ((w.alloc (.cells #[.slice A c.nk ca, .slice A' c.ny cb] 25)).alloc (.cells #[.int .i64 a.y, .int .i64 a.m, .bool a.s, .int .i64 a.d, .int .i64 b.y, .int .i64 b.m, .bool b.s, .int .i64 b.d] 41)) := ⟨_, rfl⟩
      rw [← hv]
      have E : Ext w v := by rw [hv]; exact ((Ext.refl _).alloc _).alloc _
      have B1 : Held v w.heap.size 25 #[.slice A c.nk ca, .slice A' c.ny cb] := by rw [hv]; exact (Held.new _ _ _).alloc _
      have B2 : Held v (w.heap.size + 1) 41 #[.int .i64 a.y, .int .i64 a.m, .bool a.s, .int .i64 a.d, .int .i64 b.y, .int .i64 b.m, .bool b.s, .int .i64 b.d] := by rw [hv]; exact Held.at _ _ _ _ (by simp)
      clear hv
      have C := hC.ext E
      clear hC
      generalize w.heap.size = b1 at *
      obtain ⟨k0, k1⟩ := B1.c2; have lk := B1.lt
      obtain ⟨p0, p1, p2, p3, p4, p5, p6, p7⟩ := B2.c8; have lp := B2.lt
      go_upto_region 2 with (go_at_call 29; (with_reducible refine Calls.mono (NA _ C) ?_); rintro e v2 ⟨rfl, h⟩)
      replace E := Ext.trans E h
      replace C := C.ext h
      replace B1 := B1.ext h
      replace B2 := B2.ext h
      clear h
      clear k0 k1 lk
      clear p0 p1 p2 p3 p4 p5 p6 p7 lp
      obtain ⟨k0, k1⟩ := B1.c2; have lk := B1.lt
      obtain ⟨p0, p1, p2, p3, p4, p5, p6, p7⟩ := B2.c8; have lp := B2.lt
      go_upto_region 3 with (go_at_call 29; (with_reducible refine Calls.mono (NB _ C) ?_); rintro e v3 ⟨rfl, h⟩)
      replace E := Ext.trans E h
      replace C := C.ext h
      replace B1 := B1.ext h
      replace B2 := B2.ext h
      clear h
      clear k0 k1 lk
      clear p0 p1 p2 p3 p4 p5 p6 p7 lp
      obtain ⟨k0, k1⟩ := B1.c2; have lk := B1.lt
      obtain ⟨p0, p1, p2, p3, p4, p5, p6, p7⟩ := B2.c8; have lp := B2.lt
      go_wp2_with (go_at_call 28; (with_reducible refine Calls.mono (hwk _) ?_); rintro e v4 ⟨rfl, h⟩)
      go_ret
      exact ⟨rfl, E.trans h⟩
  · generalize c.numV a = x at *
    generalize c.numV b = y at *
    generalize c.inE b = f at *
    generalize c.inE a = e at *
    have he : (e == 0) = false := beq_eq_false_iff_ne.2 ha
    go_enter Tryd.func4, Tryd.ntmps4
    go_upto_region 1 with (fail)
    obtain ⟨v, hv⟩ : ∃ v, v = ((w.alloc (.cells #[.slice A c.nk ca, .slice A' c.ny cb] 25)).alloc (.cells #[.int .i64 a.y, .int .i64 a.m, .bool a.s, .int .i64 a.d, .int .i64 b.y, .int .i64 b.m, .bool b.s, .int .i64 b.d] 41)) := ⟨_, rfl⟩
    rw [← hv]
    have E : Ext w v := by rw [hv]; exact ((Ext.refl _).alloc _).alloc _
    have B1 : Held v w.heap.size 25 #[.slice A c.nk ca, .slice A' c.ny cb] := by rw [hv]; exact (Held.new _ _ _).alloc _
    have B2 : Held v (w.heap.size + 1) 41 #[.int .i64 a.y, .int .i64 a.m, .bool a.s, .int .i64 a.d, .int .i64 b.y, .int .i64 b.m, .bool b.s, .int .i64 b.d] := by rw [hv]; exact Held.at _ _ _ _ (by simp)
    clear hv
    have C := hC.ext E
    clear hC
    generalize w.heap.size = b1 at *
    obtain ⟨k0, k1⟩ := B1.c2; have lk := B1.lt
    obtain ⟨p0, p1, p2, p3, p4, p5, p6, p7⟩ := B2.c8; have lp := B2.lt
    go_upto_region 2 with (go_at_call 29; (with_reducible refine Calls.mono (NA _ C) ?_); rintro e v2 ⟨rfl, h⟩)
    replace E := Ext.trans E h
    replace C := C.ext h
    replace B1 := B1.ext h
    replace B2 := B2.ext h
    clear h
    clear k0 k1 lk
    clear p0 p1 p2 p3 p4 p5 p6 p7 lp
    obtain ⟨k0, k1⟩ := B1.c2; have lk := B1.lt
    obtain ⟨p0, p1, p2, p3, p4, p5, p6, p7⟩ := B2.c8; have lp := B2.lt
    go_upto_region 3 with (go_at_call 29; (with_reducible refine Calls.mono (NB _ C) ?_); rintro e v3 ⟨rfl, h⟩)
    replace E := Ext.trans E h
    replace C := C.ext h
    replace B1 := B1.ext h
    replace B2 := B2.ext h
    clear h
    clear k0 k1 lk
    clear p0 p1 p2 p3 p4 p5 p6 p7 lp
    obtain ⟨k0, k1⟩ := B1.c2; have lk := B1.lt
    obtain ⟨p0, p1, p2, p3, p4, p5, p6, p7⟩ := B2.c8; have lp := B2.lt
    go_wp2_with (go_at_call 28; (with_reducible refine Calls.mono (hwk _) ?_); rintro e v4 ⟨rfl, h⟩)
    go_ret
    exact ⟨rfl, E.trans h⟩
end Go.Proofs.YtfchchmmjabjnaaDoor
