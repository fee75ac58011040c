/- Whole, Reign, YearOf and Named, of the program and of the reference; regions by steps over any predicate. -/
import Derived.Test.YtfchchmmjabjnaaDoorRh
import Derived.Test.YtfchchmmjabjnaaDoorY1
import Derived.Test.YtfchchmmjabjnaaDoorWz
import Derived.Test.YtfchchmmjabjnaaDoorPlA
import Derived.Test.YtfchchmmjabjnaaDoorWp
import Derived.Maps.OwnRows
import Derived.Maps.GroupsBeside
import Derived.Maps.Views
namespace Go.Proofs.YtfchchmmjabjnaaDoor
open Go Go.RowKit

section
variable {P : Program} {ops : Array Oper} {md : Region.Mode} {C : World → Prop} {R : Act → World → Prop}
theorem still_valsC {W : World} (hW : C W) {A : Act} {o : Oper} {l : List Oper} {a : Act} (hb : dstsB (o :: l) = true) (hz : ∀ d, o.dst = some d → d < a.tmps.size) (h : ∀ u, C u → wpQuiet P ops (fun w' => w' = u) (fun a' => a' = A) (o :: l) a) :
    ∃ v, StillIn P ops C o v a ∧ ∀ u, C u → wpQuiet P ops (fun w' => w' = u) (fun a' => a' = A) l (a.put o.dst v) := by
  simp only [dstsB, Bool.and_eq_true] at hb
  obtain ⟨⟨hg, hd⟩, _⟩ := hb
  cases ho : o.dst with
  | none => rw [ho] at hd; cases hd
  | some d =>
    rw [ho] at hd
    have hw : Region.wanted o (yielded ops a.tmps) = true := by
      unfold Region.wanted
      cases hgo : o.guard with
      | none => rfl
      | some g => rw [hgo] at hg; cases hg
    have each : ∀ u, C u → ∃ v, o.quietAt P a (fun w' => w' = u) u v ∧ A.tmps[d]? = some v ∧ wpQuiet P ops (fun w' => w' = u) (fun a' => a' = A) l (a.put (some d) v) := fun u hu => by
      have h1 := h u hu
      unfold wpQuiet at h1
      rw [if_pos hw] at h1
      obtain ⟨v, h2, h3⟩ := h1
      rw [ho] at h3
      refine ⟨v, h2 _ rfl, ?_, h3⟩
      rw [quiet_keeps l _ hd h3]
      simp [Act.put, hz d ho]
    obtain ⟨v, _, hv, _⟩ := each W hW
    have same : ∀ u, C u → o.quietAt P a (fun w' => w' = u) u v ∧ wpQuiet P ops (fun w' => w' = u) (fun a' => a' = A) l (a.put (some d) v) := fun u hu => by
      obtain ⟨v', h1, h2, h3⟩ := each u hu
      have e : v' = v := Option.some.inj (h2.symm.trans hv)
      subst e
      exact ⟨h1, h3⟩
    exact ⟨v, ⟨hw, fun w hw => (same w hw).1⟩, fun u hu => (same u hu).2⟩
theorem any_stills_goC {W : World} (hW : C W) {A : Act} {g : Nat} (hs : Region.noSelect ops = true) : ∀ (ks : List Nat) (l : List Oper) (L : Array Bool) (a : Act), l.map some = ks.map (fun k => ops[k]?) → dstsB l = true → sizesB a l = true →
    stillKs md ops ks L = true → (∀ u, C u → wpQuiet P ops (fun w' => w' = u) (fun a' => a' = A) l a) → wpAnyC P md ops C R g (setAll ks L) A W → wpAnyC P md ops C R (l.length + g) L a W
  | [], [], L, a, _, _, _, _, h, H => by
    have e : a = A := h W hW
    subst e
    rw [List.length_nil, Nat.zero_add]
    exact H
  | k :: ks, o :: l, L, a, hl, hd, hz, hB, h, H => by
    simp only [List.map_cons, List.cons.injEq] at hl
    have h0 : ops[k]? = some o := hl.1.symm
    simp only [stillKs, Bool.and_eq_true] at hB
    obtain ⟨⟨hr, hf⟩, hB'⟩ := hB
    have hzo := hz
    simp only [sizesB, List.all_cons, Bool.and_eq_true] at hzo
    obtain ⟨v, hy, hn⟩ := still_valsC hW hd (fun d he => by have := hzo.1; rw [he] at this; simpa using this) h
    have hd' : dstsB l = true := by simp only [dstsB, Bool.and_eq_true] at hd; exact hd.2
    have hsz : (a.put o.dst v).tmps.size = a.tmps.size := by cases o.dst <;> simp [Act.put]
    rw [show (o :: l).length + g = (l.length + g) + 1 by simp only [List.length_cons]; omega]
    exact wpAnyC_first h0 (Region.noSelect_spec hs) _ L a W (Region.free_spec h0 hf) (by simpa using hr) hW hy
      (any_stills_goC hW hs ks l _ _ hl.2 hd' (by unfold sizesB; rw [hsz]; exact hzo.2) hB' hn H)
  | [], _ :: _, _, _, hl, _, _, _, _, _ => by simp at hl
  | _ :: _, [], _, _, hl, _, _, _, _, _ => by simp at hl
theorem any_stillsC {g f : Nat} {L : Array Bool} {a : Act} {w : World} (ks : List Nat) (l : List Oper) (hl : Picks ops ks l) (hB : (Region.noSelect ops && dstsB l && stillKs md ops ks L && decide (f = l.length + g)) = true) (hz : sizesB a l = true) (hw : C w)
    (h : ∃ A, (∀ u, C u → wpQuiet P ops (fun w' => w' = u) (fun a' => a' = A) l a) ∧ wpAnyC P md ops C R g (setAll ks L) A w) : wpAnyC P md ops C R f L a w := by
  obtain ⟨A, h1, h2⟩ := h
  simp only [Bool.and_eq_true, decide_eq_true_eq] at hB
  obtain ⟨⟨⟨hs, hd⟩, hk⟩, rfl⟩ := hB
  exact any_stills_goC hw hs ks l L a (picks_map hl) hd hz hk h1 h2
end
theorem wp_region_stepsC {P : Program} {id : Nat} {Q : Exit → Act → World → Prop} {a : Act} {w : World} {l : List Oper} (n : Nat) (C : World → Prop) (hm : P.follows .mixedOrders = true) (hn : n = l.length)
    (h : ∀ w', Ext w w' → wpAnyC P .any l.toArray C (fun a w => Q .normal a w) n (Array.replicate n false) a w') : (Code.region id l.toArray true).wp P Q a w := by
  have H := h { w with drawn := w.drawn + 1 } ⟨rfl, rfl, rfl, Nat.le_refl _, fun _ _ => rfl⟩
  refine Code.wp_mono (Q := onQ fun a w => Q .normal a w) (fun e a' w' h' => by cases e <;> first | exact h' | exact False.elim h') (wp_region_any hm (wpAny_of_C (C := C) _ _ _ _ ?_))
  subst hn
  simpa using H
end Go.Proofs.YtfchchmmjabjnaaDoor

namespace Go.Proofs.YtfchchmmjabjnaaDoor
open Go Go.RowKit
attribute [local go_sem] gv_yes

theorem inE_yes {c : Cal} {d : Dt} (h : c.inE d = 0) : c.valid = true ∧ c.has d = true := by
  rcases inE_cases c d with ⟨_, hE⟩ | ⟨_, _, hE⟩ | ⟨hv, hh, _⟩
  · rw [hE] at h; cases h
  · rw [hE] at h; cases h
  · exact ⟨hv, hh⟩
set_option maxRecDepth 100000 in
set_option maxHeartbeats 4000000 in
theorem whole_any (A A' : Option Addr) (ca cb : Nat) (c : Cal) (d : Dt) (w : World) (hC : CalAt w A ca A' cb c) :
    Calls Tryd.prog 56 #[.agg #[.slice A c.nk ca, .slice A' c.ny cb], .agg #[.int .i64 d.y, .int .i64 d.m, .bool d.s, .int .i64 d.d]] w fun e w' => e = .returned (.tuple #[(c.wholeV d).val, .int .i64 (c.inE d)]) ∧ Ext w w' := by
  have NT := fun v {Bx : Option Addr} (h : CalAt v A ca A' cb c) (h' : RowsAt v Bx 1 4 (fun _ => dcells d)) => checks_any A A' ca cb c Bx 1 1 (fun _ => d) v h h' (by omega)
  simp only [checks_one] at NT
  by_cases hE : c.inE d = 0
  · obtain ⟨hv, hh⟩ := inE_yes hE
    have HR : Hid (c.wholeV d = c.wholeT d ∧ c.inE d = 0) := ⟨by unfold Cal.wholeV; rw [if_pos hE], hE⟩
    obtain ⟨⟨hy0, hy1⟩, _⟩ := has_iff.1 hh
    have ok := valid_iff.1 hv
    have hkk0 : 0 ≤ (c.yrI d.y).k := ok.k0 (i := d.y.toNat) (by omega)
    have hkk1 : (c.yrI d.y).k < c.nk := (ok.yk d.y.toNat (by omega)).2
    have hny := ok.ny.2
    have hnk := ok.nk.2
    simp only [hE] at NT
    clear hv hh hE ok
    go_enter Tryd.func56, Tryd.ntmps56
    go_upto_region 1 with (fail)
    obtain ⟨v, hv⟩ : ∃ v, v = (((w.alloc (.cells #[.slice A c.nk ca, .slice A' c.ny cb] 25)).alloc (.cells #[.int .i64 d.y, .int .i64 d.m, .bool d.s, .int .i64 d.d] 39)).alloc (.cells #[.int .i64 0, .bool false, .int .i64 0, .bool false, .string ⟨#[]⟩, .int .i64 0, .string ⟨#[]⟩] 33)) := ⟨_, rfl⟩
    rw [← hv]
    have E : Ext w v := by rw [hv]; exact (((Ext.refl _).alloc _).alloc _).alloc _
    have B1 : Held v w.heap.size 25 #[.slice A c.nk ca, .slice A' c.ny cb] := by rw [hv]; exact ((Held.new _ _ _).alloc _).alloc _
    have B2 : Held v (w.heap.size + 1) 39 #[.int .i64 d.y, .int .i64 d.m, .bool d.s, .int .i64 d.d] := by rw [hv]; exact (Held.at _ _ _ _ (by simp)).alloc _
    have B3 : Held v (w.heap.size + 1 + 1) 33 #[.int .i64 0, .bool false, .int .i64 0, .bool false, .string ⟨#[]⟩, .int .i64 0, .string ⟨#[]⟩] := by rw [hv]; exact Held.at _ _ _ _ (by simp)
    clear hv
    have C := hC.ext E
    clear hC
    generalize hb1 : w.heap.size = b1 at *
    replace hb1 := Lib.hid hb1
    obtain ⟨k0, k1⟩ := B1.c2; have lk := B1.lt
    obtain ⟨p0, p1, p2, p3⟩ := B2.c4; have lp := B2.lt
    obtain ⟨q0, q1, q2, q3, q4, q5, q6⟩ := B3.c7; have lq := B3.lt
    go_upto_region 2 with (go_at_call 75; (with_reducible refine Calls.mono (NT _ (C.ext ((Ext.refl _).alloc _)) (rows_one (t := 39) (Held.new _ _ _))) ?_); rintro e v2 ⟨rfl, hq⟩)
    have h : Ext v v2 := Ext.trans ((Ext.refl _).alloc _) hq
    clear hq
    replace E := Ext.trans E h
    replace C := C.ext h
    replace B1 := B1.ext h
    replace B2 := B2.ext h
    replace B3 := B3.ext h
    clear h
    clear k0 k1 lk
    clear p0 p1 p2 p3 lp
    clear q0 q1 q2 q3 q4 q5 q6 lq
    obtain ⟨k0, k1⟩ := B1.c2; have lk := B1.lt
    obtain ⟨p0, p1, p2, p3⟩ := B2.c4; have lp := B2.lt
    obtain ⟨q0, q1, q2, q3, q4, q5, q6⟩ := B3.c7; have lq := B3.lt
    obtain ⟨yb, yo, hA', hyb, y0, y1, y2, y3⟩ := C.yearI hy0 hy1
    subst hA'
    go_upto_region 5 with (fail)
    obtain ⟨v3, hv⟩ : ∃ v, v = v2.alloc (.cells #[.int .i64 (c.yrI d.y).k, .string (c.yrI d.y).nm, .int .i64 (c.yrI d.y).lg, .int .i64 (c.yrI d.y).db] 99) := ⟨_, rfl⟩
    rw [← hv]
    have h : Ext v2 v3 := by rw [hv]; exact (Ext.refl _).alloc _
    have B4 : Held v3 v2.heap.size 99 #[.int .i64 (c.yrI d.y).k, .string (c.yrI d.y).nm, .int .i64 (c.yrI d.y).lg, .int .i64 (c.yrI d.y).db] := by rw [hv]; exact Held.new _ _ _
    clear hv
    generalize v2.heap.size = b4 at *
    replace E := Ext.trans E h
    replace C := C.ext h
    replace B1 := B1.ext h
    replace B2 := B2.ext h
    replace B3 := B3.ext h
    clear h
    clear k0 k1 lk
    clear p0 p1 p2 p3 lp
    clear q0 q1 q2 q3 q4 q5 q6 lq
    obtain ⟨k0, k1⟩ := B1.c2; have lk := B1.lt
    obtain ⟨p0, p1, p2, p3⟩ := B2.c4; have lp := B2.lt
    obtain ⟨q0, q1, q2, q3, q4, q5, q6⟩ := B3.c7; have lq := B3.lt
    obtain ⟨r0, r1, r2, r3⟩ := B4.c4; have lr := B4.lt
    obtain ⟨kb, ko, hA, hkb, q9⟩ := C.kingI hkk0 hkk1
    subst hA
    clear y0 y1 y2 y3
    obtain ⟨f0, f1, f2, f3, f4, f5, f6⟩ := frozen7 B3
    refine wp_region_xs 15 v3 mixed (by kernel_rfl) (by repeat (first | exact Ext.refl _ | (refine Ext.alloc ?_ _) | (refine Ext.trans ?_ (by assumption)))) ?_
    intro hne hrx hry
    try simp only []
    try simp only [List.append_eq, List.cons_append, List.nil_append]
    simp only [List.take_succ_cons, List.take_zero, List.drop_succ_cons, List.drop_zero]
    skip
    repeat (first
      | go_big_quiet_skip
      | (go_big_quiet_want; go_big_quiet_op; go_big_quiet_on))
    clear hne hry hrx
    refine wpQuiet_nil ?_
    intro v4 h
    obtain ⟨hcv4, hfv4, hzv4⟩ := Ext.rules h
    try simp only [World.size_alloc] at hzv4
    obtain ⟨hcbv4, hfbv4, hzbv4⟩ := Ext.rules (show Ext v3 v4 from (by repeat (first | exact Ext.refl _ | (refine Ext.alloc ?_ _) | (refine Ext.trans ?_ (by assumption)))))
    clear hcv4 hfv4
    have hrb := B3.ext h
    have lq4 := hrb.lt
    go_wp2
    obtain ⟨hs, gE⟩ := seven_set hrb (.int .i64 d.d) (.bool false) (.int .i64 d.m) (.bool d.s) (.string (c.yrI d.y).nm) (.int .i64 0) (.string (c.kg (c.yrI d.y).k.toNat))
    obtain ⟨g0, g1, g2, g3, g4, g5, g6⟩ := hs.c7
    refine bodyPost_ret (v := .tuple #[.agg #[.int .i64 d.d, .bool false, .int .i64 d.m, .bool d.s, .string (c.yrI d.y).nm, .int .i64 0, .string (c.kg (c.yrI d.y).k.toNat)], .int .i64 0]) (by simp [results, Tryd.results56, go_sem, g0, g1, g2, g3, g4, g5, g6]) rfl ⟨by rw [HR.out.1, HR.out.2]; rfl, gE w (E.trans h) (by have := hb1.out; omega)⟩
  · have hne : (c.inE d == 0) = false := beq_eq_false_iff_ne.2 hE
    have HR : Hid (c.wholeV d = zTrace) := by unfold Hid Cal.wholeV; rw [if_neg hE]
    clear hE
    generalize c.inE d = ee at *
    go_enter Tryd.func56, Tryd.ntmps56
    go_upto_region 1 with (fail)
    obtain ⟨v, hv⟩ : ∃ v, v = (((w.alloc (.cells #[.slice A c.nk ca, .slice A' c.ny cb] 25)).alloc (.cells #[.int .i64 d.y, .int .i64 d.m, .bool d.s, .int .i64 d.d] 39)).alloc (.cells #[.int .i64 0, .bool false, .int .i64 0, .bool false, .string ⟨#[]⟩, .int .i64 0, .string ⟨#[]⟩] 33)) := ⟨_, rfl⟩
    rw [← hv]
    have E : Ext w v := by rw [hv]; exact (((Ext.refl _).alloc _).alloc _).alloc _
    have B1 : Held v w.heap.size 25 #[.slice A c.nk ca, .slice A' c.ny cb] := by rw [hv]; exact ((Held.new _ _ _).alloc _).alloc _
    have B2 : Held v (w.heap.size + 1) 39 #[.int .i64 d.y, .int .i64 d.m, .bool d.s, .int .i64 d.d] := by rw [hv]; exact (Held.at _ _ _ _ (by simp)).alloc _
    have B3 : Held v (w.heap.size + 1 + 1) 33 #[.int .i64 0, .bool false, .int .i64 0, .bool false, .string ⟨#[]⟩, .int .i64 0, .string ⟨#[]⟩] := by rw [hv]; exact Held.at _ _ _ _ (by simp)
    clear hv
    have C := hC.ext E
    clear hC
    generalize hb1 : w.heap.size = b1 at *
    replace hb1 := Lib.hid hb1
    obtain ⟨k0, k1⟩ := B1.c2; have lk := B1.lt
    obtain ⟨p0, p1, p2, p3⟩ := B2.c4; have lp := B2.lt
    obtain ⟨q0, q1, q2, q3, q4, q5, q6⟩ := B3.c7; have lq := B3.lt
    go_upto_region 2 with (go_at_call 75; (with_reducible refine Calls.mono (NT _ (C.ext ((Ext.refl _).alloc _)) (rows_one (t := 39) (Held.new _ _ _))) ?_); rintro e v2 ⟨rfl, hq⟩)
    have h : Ext v v2 := Ext.trans ((Ext.refl _).alloc _) hq
    clear hq
    replace E := Ext.trans E h
    replace C := C.ext h
    replace B1 := B1.ext h
    replace B2 := B2.ext h
    replace B3 := B3.ext h
    clear h
    clear k0 k1 lk
    clear p0 p1 p2 p3 lp
    clear q0 q1 q2 q3 q4 q5 q6 lq
    obtain ⟨k0, k1⟩ := B1.c2; have lk := B1.lt
    obtain ⟨p0, p1, p2, p3⟩ := B2.c4; have lp := B2.lt
    obtain ⟨q0, q1, q2, q3, q4, q5, q6⟩ := B3.c7; have lq := B3.lt
    obtain ⟨f0, f1, f2, f3, f4, f5, f6⟩ := frozen7 B3
    go_wp2
    obtain ⟨hs, gE⟩ := seven_set B3 (.int .i64 0) (.bool false) (.int .i64 0) (.bool false) (.string ⟨#[]⟩) (.int .i64 0) (.string ⟨#[]⟩)
    obtain ⟨g0, g1, g2, g3, g4, g5, g6⟩ := hs.c7
    refine bodyPost_ret (v := .tuple #[.agg #[.int .i64 0, .bool false, .int .i64 0, .bool false, .string ⟨#[]⟩, .int .i64 0, .string ⟨#[]⟩], .int .i64 ee]) (by simp [results, Tryd.results56, go_sem, g0, g1, g2, g3, g4, g5, g6]) rfl ⟨by rw [HR.out]; rfl, gE w E (by have := hb1.out; omega)⟩
set_option maxRecDepth 100000 in
set_option maxHeartbeats 4000000 in
theorem whole_any_r (A A' : Option Addr) (ca cb : Nat) (c : Cal) (d : Dt) (w : World) (hC : CalAt w A ca A' cb c) :
    Calls Tryd.prog 57 #[.agg #[.slice A c.nk ca, .slice A' c.ny cb], .agg #[.int .i64 d.y, .int .i64 d.m, .bool d.s, .int .i64 d.d]] w fun e w' => e = .returned (.tuple #[(c.wholeV d).val, .int .i64 (c.inE d)]) ∧ Ext w w' := by
  have NT := fun v (h : CalAt v A ca A' cb c) => two_any_r A A' ca cb c d d v h
  simp only [in2E_same] at NT
  by_cases hE : c.inE d = 0
  · obtain ⟨hv, hh⟩ := inE_yes hE
    have HR : Hid (c.wholeV d = c.wholeT d ∧ c.inE d = 0) := ⟨by unfold Cal.wholeV; rw [if_pos hE], hE⟩
    obtain ⟨⟨hy0, hy1⟩, _⟩ := has_iff.1 hh
    have ok := valid_iff.1 hv
    have hkk0 : 0 ≤ (c.yrI d.y).k := ok.k0 (i := d.y.toNat) (by omega)
    have hkk1 : (c.yrI d.y).k < c.nk := (ok.yk d.y.toNat (by omega)).2
    have hny := ok.ny.2
    have hnk := ok.nk.2
    simp only [hE] at NT
    clear hv hh hE ok
    go_enter Tryd.func57, Tryd.ntmps57
    go_upto_region 1 with (fail)
    obtain ⟨v, hv⟩ : ∃ v, v = (((w.alloc (.cells #[.slice A c.nk ca, .slice A' c.ny cb] 25)).alloc (.cells #[.int .i64 d.y, .int .i64 d.m, .bool d.s, .int .i64 d.d] 39)).alloc (.cells #[.int .i64 0, .bool false, .int .i64 0, .bool false, .string ⟨#[]⟩, .int .i64 0, .string ⟨#[]⟩] 33)) := ⟨_, rfl⟩
    rw [← hv]
    have E : Ext w v := by rw [hv]; exact (((Ext.refl _).alloc _).alloc _).alloc _
    have B1 : Held v w.heap.size 25 #[.slice A c.nk ca, .slice A' c.ny cb] := by rw [hv]; exact ((Held.new _ _ _).alloc _).alloc _
    have B2 : Held v (w.heap.size + 1) 39 #[.int .i64 d.y, .int .i64 d.m, .bool d.s, .int .i64 d.d] := by rw [hv]; exact (Held.at _ _ _ _ (by simp)).alloc _
    have B3 : Held v (w.heap.size + 1 + 1) 33 #[.int .i64 0, .bool false, .int .i64 0, .bool false, .string ⟨#[]⟩, .int .i64 0, .string ⟨#[]⟩] := by rw [hv]; exact Held.at _ _ _ _ (by simp)
    clear hv
    have C := hC.ext E
    clear hC
    generalize hb1 : w.heap.size = b1 at *
    replace hb1 := Lib.hid hb1
    obtain ⟨k0, k1⟩ := B1.c2; have lk := B1.lt
    obtain ⟨p0, p1, p2, p3⟩ := B2.c4; have lp := B2.lt
    obtain ⟨q0, q1, q2, q3, q4, q5, q6⟩ := B3.c7; have lq := B3.lt
    go_upto_region 2 with (go_at_call 87; (with_reducible refine Calls.mono (NT _ C) ?_); rintro e v2 ⟨rfl, h⟩)
    replace E := Ext.trans E h
    replace C := C.ext h
    replace B1 := B1.ext h
    replace B2 := B2.ext h
    replace B3 := B3.ext h
    clear h
    clear k0 k1 lk
    clear p0 p1 p2 p3 lp
    clear q0 q1 q2 q3 q4 q5 q6 lq
    obtain ⟨k0, k1⟩ := B1.c2; have lk := B1.lt
    obtain ⟨p0, p1, p2, p3⟩ := B2.c4; have lp := B2.lt
    obtain ⟨q0, q1, q2, q3, q4, q5, q6⟩ := B3.c7; have lq := B3.lt
    obtain ⟨yb, yo, hA', hyb, y0, y1, y2, y3⟩ := C.yearI hy0 hy1
    subst hA'
    go_upto_region 5 with (fail)
    obtain ⟨v3, hv⟩ : ∃ v, v = v2.alloc (.cells #[.int .i64 (c.yrI d.y).k, .string (c.yrI d.y).nm, .int .i64 (c.yrI d.y).lg, .int .i64 (c.yrI d.y).db] 99) := ⟨_, rfl⟩
    rw [← hv]
    have h : Ext v2 v3 := by rw [hv]; exact (Ext.refl _).alloc _
    have B4 : Held v3 v2.heap.size 99 #[.int .i64 (c.yrI d.y).k, .string (c.yrI d.y).nm, .int .i64 (c.yrI d.y).lg, .int .i64 (c.yrI d.y).db] := by rw [hv]; exact Held.new _ _ _
    clear hv
    generalize v2.heap.size = b4 at *
    replace E := Ext.trans E h
    replace C := C.ext h
    replace B1 := B1.ext h
    replace B2 := B2.ext h
    replace B3 := B3.ext h
    clear h
    clear k0 k1 lk
    clear p0 p1 p2 p3 lp
    clear q0 q1 q2 q3 q4 q5 q6 lq
    obtain ⟨k0, k1⟩ := B1.c2; have lk := B1.lt
    obtain ⟨p0, p1, p2, p3⟩ := B2.c4; have lp := B2.lt
    obtain ⟨q0, q1, q2, q3, q4, q5, q6⟩ := B3.c7; have lq := B3.lt
    obtain ⟨r0, r1, r2, r3⟩ := B4.c4; have lr := B4.lt
    obtain ⟨kb, ko, hA, hkb, q9⟩ := C.kingI hkk0 hkk1
    subst hA
    clear y0 y1 y2 y3
    obtain ⟨f0, f1, f2, f3, f4, f5, f6⟩ := frozen7 B3
    refine wp_region_xs 15 v3 mixed (by kernel_rfl) (by repeat (first | exact Ext.refl _ | (refine Ext.alloc ?_ _) | (refine Ext.trans ?_ (by assumption)))) ?_
    intro hne hrx hry
    try simp only []
    try simp only [List.append_eq, List.cons_append, List.nil_append]
    simp only [List.take_succ_cons, List.take_zero, List.drop_succ_cons, List.drop_zero]
    skip
    repeat (first
      | go_big_quiet_skip
      | (go_big_quiet_want; go_big_quiet_op; go_big_quiet_on))
    clear hne hry hrx
    refine wpQuiet_nil ?_
    intro v4 h
    obtain ⟨hcv4, hfv4, hzv4⟩ := Ext.rules h
    try simp only [World.size_alloc] at hzv4
    obtain ⟨hcbv4, hfbv4, hzbv4⟩ := Ext.rules (show Ext v3 v4 from (by repeat (first | exact Ext.refl _ | (refine Ext.alloc ?_ _) | (refine Ext.trans ?_ (by assumption)))))
    clear hcv4 hfv4
    have hrb := B3.ext h
    have lq4 := hrb.lt
    go_wp2
    obtain ⟨hs, gE⟩ := seven_set hrb (.int .i64 d.d) (.bool false) (.int .i64 d.m) (.bool d.s) (.string (c.yrI d.y).nm) (.int .i64 0) (.string (c.kg (c.yrI d.y).k.toNat))
    obtain ⟨g0, g1, g2, g3, g4, g5, g6⟩ := hs.c7
    refine bodyPost_ret (v := .tuple #[.agg #[.int .i64 d.d, .bool false, .int .i64 d.m, .bool d.s, .string (c.yrI d.y).nm, .int .i64 0, .string (c.kg (c.yrI d.y).k.toNat)], .int .i64 0]) (by simp [results, Tryd.results57, go_sem, g0, g1, g2, g3, g4, g5, g6]) rfl ⟨by rw [HR.out.1, HR.out.2]; rfl, gE w (E.trans h) (by have := hb1.out; omega)⟩
  · have hne : (c.inE d == 0) = false := beq_eq_false_iff_ne.2 hE
    have HR : Hid (c.wholeV d = zTrace) := by unfold Hid Cal.wholeV; rw [if_neg hE]
    clear hE
    generalize c.inE d = ee at *
    go_enter Tryd.func57, Tryd.ntmps57
    go_upto_region 1 with (fail)
    obtain ⟨v, hv⟩ : ∃ v, v = (((w.alloc (.cells #[.slice A c.nk ca, .slice A' c.ny cb] 25)).alloc (.cells #[.int .i64 d.y, .int .i64 d.m, .bool d.s, .int .i64 d.d] 39)).alloc (.cells #[.int .i64 0, .bool false, .int .i64 0, .bool false, .string ⟨#[]⟩, .int .i64 0, .string ⟨#[]⟩] 33)) := ⟨_, rfl⟩
    rw [← hv]
    have E : Ext w v := by rw [hv]; exact (((Ext.refl _).alloc _).alloc _).alloc _
    have B1 : Held v w.heap.size 25 #[.slice A c.nk ca, .slice A' c.ny cb] := by rw [hv]; exact ((Held.new _ _ _).alloc _).alloc _
    have B2 : Held v (w.heap.size + 1) 39 #[.int .i64 d.y, .int .i64 d.m, .bool d.s, .int .i64 d.d] := by rw [hv]; exact (Held.at _ _ _ _ (by simp)).alloc _
    have B3 : Held v (w.heap.size + 1 + 1) 33 #[.int .i64 0, .bool false, .int .i64 0, .bool false, .string ⟨#[]⟩, .int .i64 0, .string ⟨#[]⟩] := by rw [hv]; exact Held.at _ _ _ _ (by simp)
    clear hv
    have C := hC.ext E
    clear hC
    generalize hb1 : w.heap.size = b1 at *
    replace hb1 := Lib.hid hb1
    obtain ⟨k0, k1⟩ := B1.c2; have lk := B1.lt
    obtain ⟨p0, p1, p2, p3⟩ := B2.c4; have lp := B2.lt
    obtain ⟨q0, q1, q2, q3, q4, q5, q6⟩ := B3.c7; have lq := B3.lt
    go_upto_region 2 with (go_at_call 87; (with_reducible refine Calls.mono (NT _ C) ?_); rintro e v2 ⟨rfl, h⟩)
    replace E := Ext.trans E h
    replace C := C.ext h
    replace B1 := B1.ext h
    replace B2 := B2.ext h
    replace B3 := B3.ext h
    clear h
    clear k0 k1 lk
    clear p0 p1 p2 p3 lp
    clear q0 q1 q2 q3 q4 q5 q6 lq
    obtain ⟨k0, k1⟩ := B1.c2; have lk := B1.lt
    obtain ⟨p0, p1, p2, p3⟩ := B2.c4; have lp := B2.lt
    obtain ⟨q0, q1, q2, q3, q4, q5, q6⟩ := B3.c7; have lq := B3.lt
    obtain ⟨f0, f1, f2, f3, f4, f5, f6⟩ := frozen7 B3
    go_wp2
    obtain ⟨hs, gE⟩ := seven_set B3 (.int .i64 0) (.bool false) (.int .i64 0) (.bool false) (.string ⟨#[]⟩) (.int .i64 0) (.string ⟨#[]⟩)
    obtain ⟨g0, g1, g2, g3, g4, g5, g6⟩ := hs.c7
    refine bodyPost_ret (v := .tuple #[.agg #[.int .i64 0, .bool false, .int .i64 0, .bool false, .string ⟨#[]⟩, .int .i64 0, .string ⟨#[]⟩], .int .i64 ee]) (by simp [results, Tryd.results57, go_sem, g0, g1, g2, g3, g4, g5, g6]) rfl ⟨by rw [HR.out]; rfl, gE w E (by have := hb1.out; omega)⟩
end Go.Proofs.YtfchchmmjabjnaaDoor

namespace Go.Proofs.YtfchchmmjabjnaaDoor
open Go Go.RowKit
attribute [local go_sem] gv_yes

theorem yearE_cases (c : Cal) (y : Int) : (c.valid = false ∧ c.yearE y = 70) ∨ (c.valid = true ∧ ¬ (0 ≤ y ∧ y < c.ny) ∧ c.yearE y = 8) ∨ (c.valid = true ∧ (0 ≤ y ∧ y < c.ny) ∧ c.yearE y = 0) := by
  unfold Cal.yearE
  cases hv : c.valid
  · exact .inl ⟨rfl, rfl⟩
  · by_cases h : 0 ≤ y ∧ y < c.ny
    · rw [if_pos rfl, if_pos h]; exact .inr (.inr ⟨rfl, h, rfl⟩)
    · rw [if_pos rfl, if_neg h]; exact .inr (.inl ⟨rfl, h, rfl⟩)
theorem checksNone_any (A A' : Option Addr) (ca cb : Nat) (c : Cal) (w : World) (hC : CalAt w A ca A' cb c) :
    Calls Tryd.prog 75 #[.agg #[.slice A c.nk ca, .slice A' c.ny cb], .slice none 0 0] w fun e w' => e = .returned (.int .i64 c.chk) ∧ Ext w w' := by
  have := checks_any A A' ca cb c none 0 0 (fun _ => ⟨0, 0, false, 0⟩) w hC (rows_none _ _ _) (by omega)
  rwa [checks_none] at this
set_option maxRecDepth 100000 in
set_option maxHeartbeats 4000000 in
theorem reign_any (A A' : Option Addr) (ca cb : Nat) (c : Cal) (y : Int) (hi1 : -9223372036854775808 ≤ y) (hi2 : y ≤ 9223372036854775807) (w : World) (hC : CalAt w A ca A' cb c) :
    Calls Tryd.prog 68 #[.agg #[.slice A c.nk ca, .slice A' c.ny cb], .int .i64 y] w fun e w' => e = .returned (.tuple #[.string (c.reignS y), .int .i64 (c.reignN y), .int .i64 (c.yearE y)]) ∧ Ext w w' := by
  have hnyle := hC.ny_le
  have NT := fun v (h : CalAt v A ca A' cb c) => checksNone_any A A' ca cb c v h
  have NH := fun v => hasYear_any A A' ca cb c y v hnyle
  rcases yearE_cases c y with ⟨hv, hE⟩ | ⟨hv, hy, hE⟩ | ⟨hv, hy, hE⟩
  · have HR : Hid (c.reignS y = ⟨#[]⟩ ∧ c.reignN y = 0 ∧ c.yearE y = 70) := by unfold Hid Cal.reignS Cal.reignN; rw [hE]; exact ⟨rfl, rfl, rfl⟩
    simp only [chk_no hv] at NT
    clear hv hE
    go_enter Tryd.func68, Tryd.ntmps68
    go_upto_region 1 with (fail)
    obtain ⟨v, hv⟩ : ∃ v, v = (w.alloc (.cells #[.slice A c.nk ca, .slice A' c.ny cb] 25)) := ⟨_, rfl⟩
    rw [← hv]
    have E : Ext w v := by rw [hv]; exact (Ext.refl _).alloc _
    have B1 : Held v w.heap.size 25 #[.slice A c.nk ca, .slice A' c.ny cb] := by rw [hv]; exact (Held.new _ _ _)
    clear hv
    have C := hC.ext E
    clear hC
    generalize w.heap.size = b1 at *
    obtain ⟨k0, k1⟩ := B1.c2; have lk := B1.lt
    go_upto_region 2 with (go_at_call 75; (with_reducible refine Calls.mono (NT _ C) ?_); rintro e v2 ⟨rfl, h⟩)
    replace E := Ext.trans E h
    replace C := C.ext h
    replace B1 := B1.ext h
    clear h
    clear k0 k1 lk
    obtain ⟨k0, k1⟩ := B1.c2; have lk := B1.lt
    go_wp2
    go_ret3
    exact ⟨by rw [HR.out.1, HR.out.2.1, HR.out.2.2]; rfl, E⟩
  · have HR : Hid (c.reignS y = ⟨#[]⟩ ∧ c.reignN y = 0 ∧ c.yearE y = 8) := by unfold Hid Cal.reignS Cal.reignN; rw [hE]; exact ⟨rfl, rfl, rfl⟩
    simp only [chk_yes hv] at NT
    simp only [decide_eq_false hy] at NH
    clear hv hE
    go_enter Tryd.func68, Tryd.ntmps68
    go_upto_region 1 with (fail)
    obtain ⟨v, hv⟩ : ∃ v, v = (w.alloc (.cells #[.slice A c.nk ca, .slice A' c.ny cb] 25)) := ⟨_, rfl⟩
    rw [← hv]
    have E : Ext w v := by rw [hv]; exact (Ext.refl _).alloc _
    have B1 : Held v w.heap.size 25 #[.slice A c.nk ca, .slice A' c.ny cb] := by rw [hv]; exact (Held.new _ _ _)
    clear hv
    have C := hC.ext E
    clear hC
    generalize w.heap.size = b1 at *
    obtain ⟨k0, k1⟩ := B1.c2; have lk := B1.lt
    go_upto_region 2 with (go_at_call 75; (with_reducible refine Calls.mono (NT _ C) ?_); rintro e v2 ⟨rfl, h⟩)
    replace E := Ext.trans E h
    replace C := C.ext h
    replace B1 := B1.ext h
    clear h
    clear k0 k1 lk
    obtain ⟨k0, k1⟩ := B1.c2; have lk := B1.lt
    go_wp2_with (go_at_call 102; (with_reducible refine Calls.mono (NH _) ?_); rintro e v3 ⟨rfl, h⟩)
    go_ret3
    exact ⟨by rw [HR.out.1, HR.out.2.1, HR.out.2.2]; rfl, E.trans h⟩
  · obtain ⟨Y, rfl⟩ : ∃ Y : Nat, y = (Y : Int) := ⟨y.toNat, by omega⟩
    have hYn : Y < c.ny := by omega
    have HR : Hid (c.reignS (Y : Int) = c.kg (c.yr Y).k.toNat ∧ c.reignN (Y : Int) = (c.ofKing (c.yr Y).k (Y + 1) : Int) ∧ c.yearE (Y : Int) = 0) := by unfold Hid Cal.reignS Cal.reignN; rw [hE]; exact ⟨rfl, rfl, rfl⟩
    have ok := valid_iff.1 hv
    have hkk0 : 0 ≤ (c.yr Y).k := ok.k0 hYn
    have hkk1 : (c.yr Y).k < c.nk := (ok.yk Y hYn).2
    have hny := ok.ny.2
    have hnk := ok.nk.2
    have hS : ∀ j, c.ofKing (c.yr Y).k (j + 1) = c.ofKing (c.yr Y).k j + (if (c.yr j).k = (c.yr Y).k then 1 else 0) := fun _ => rfl
    have hL := ofKing_le c (c.yr Y).k
    have hZ : c.ofKing (c.yr Y).k 0 = 0 := rfl
    generalize c.ofKing (c.yr Y).k = N at *
    simp only [chk_yes hv] at NT
    simp only [decide_eq_true hy] at NH
    clear hv hE ok hy
    go_enter Tryd.func68, Tryd.ntmps68
    go_upto_region 1 with (fail)
    obtain ⟨v, hv⟩ : ∃ v, v = (w.alloc (.cells #[.slice A c.nk ca, .slice A' c.ny cb] 25)) := ⟨_, rfl⟩
    rw [← hv]
    have E : Ext w v := by rw [hv]; exact (Ext.refl _).alloc _
    have B1 : Held v w.heap.size 25 #[.slice A c.nk ca, .slice A' c.ny cb] := by rw [hv]; exact (Held.new _ _ _)
    clear hv
    have C := hC.ext E
    clear hC
    generalize w.heap.size = b1 at *
    obtain ⟨k0, k1⟩ := B1.c2; have lk := B1.lt
    go_upto_region 4 with (go_at_call 75; (with_reducible refine Calls.mono (NT _ C) ?_); rintro e v2 ⟨rfl, h⟩)
    replace E := Ext.trans E h
    replace C := C.ext h
    replace B1 := B1.ext h
    clear h
    clear k0 k1 lk
    obtain ⟨k0, k1⟩ := B1.c2; have lk := B1.lt
    go_upto_region 6 with (go_at_call 102; (with_reducible refine Calls.mono (NH _) ?_); rintro e v3 ⟨rfl, h⟩)
    replace E := Ext.trans E h
    replace C := C.ext h
    replace B1 := B1.ext h
    clear h
    clear k0 k1 lk
    obtain ⟨k0, k1⟩ := B1.c2; have lk := B1.lt
    obtain ⟨yb, yo, hA', hyb, y0, y1, y2, y3⟩ := C.year hYn
    have hcb := C.ny_cap
    subst hA'
    go_wp2
    clear y0 y1 y2 y3
    go_loopw [5, 32] (fun nv iv wr => ∃ j : Nat, j ≤ Y + 1 ∧ iv = .int .i64 (j : Int) ∧ nv = .int .i64 (N j : Int) ∧ Ext v3 wr) (fun _ iv _ => Y + 1 - (intOf iv).toNat)
    case atStart => exact ⟨0, Nat.zero_le _, rfl, by rw [hZ]; rfl, Ext.refl _⟩
    case round =>
      obtain ⟨j, hj, rfl, rfl, hE2⟩ := hrel
      obtain ⟨wo, rfl⟩ : ∃ wo : World, wo = wr := ⟨_, rfl⟩
      have Co := C.ext hE2
      obtain ⟨k0, k1⟩ := (B1.ext hE2).c2
      have lk := (B1.ext hE2).lt
      have hLj := hL j
      by_cases hlt : j < Y + 1
      · have hjb : decide ((j : Int) < (Y : Int) + 1) = true := decide_eq_true (by omega)
        have hjb2 : decide ((j : Int) ≤ (Y : Int)) = true := decide_eq_true (by omega)
        obtain ⟨yb, yo, hA', hyb, y0, y1, y2, y3⟩ := Co.year (show j < c.ny by omega)
        obtain ⟨yb', yo', hA'', hyb', z0, z1, z2, z3⟩ := Co.year hYn
        skip
        cases hA'
        cases hA''
        by_cases hq : (c.yr j).k = (c.yr Y).k
        · have hqb : ((c.yr j).k == (c.yr Y).k) = true := beq_iff_eq.2 hq
          have hs : N (j + 1) = N j + 1 := by rw [hS, if_pos hq]
          clear hq
          go_wp2
          exact ⟨⟨j + 1, by omega, by go_num, by rw [hs]; go_num, (by repeat (first | exact Ext.refl _ | (refine Ext.alloc ?_ _) | (refine Ext.trans ?_ (by assumption))))⟩, by simp [intOf]; omega⟩
        · have hqb : ((c.yr j).k == (c.yr Y).k) = false := beq_eq_false_iff_ne.2 hq
          have hs : N (j + 1) = N j := by rw [hS, if_neg hq]; rfl
          clear hq
          go_wp2
          exact ⟨⟨j + 1, by omega, by go_num, by rw [hs], (by repeat (first | exact Ext.refl _ | (refine Ext.alloc ?_ _) | (refine Ext.trans ?_ (by assumption))))⟩, by simp [intOf]; omega⟩
      · obtain rfl : j = Y + 1 := by omega
        have hjb : decide (((Y + 1 : Nat) : Int) < (Y : Int) + 1) = false := decide_eq_false (by omega)
        have hjb2 : decide (((Y + 1 : Nat) : Int) ≤ (Y : Int)) = false := decide_eq_false (by omega)
        obtain ⟨kb, ko, hA, hkb, q9⟩ := Co.kingI hkk0 hkk1
        subst hA
        go_wp2
        go_ret3
        exact ⟨by rw [HR.out.1, HR.out.2.1, HR.out.2.2]; rfl, (by repeat (first | exact Ext.refl _ | (refine Ext.alloc ?_ _) | (refine Ext.trans ?_ (by assumption))))⟩
set_option maxRecDepth 100000 in
set_option maxHeartbeats 4000000 in
theorem reign_any_r (A A' : Option Addr) (ca cb : Nat) (c : Cal) (y : Int) (hi1 : -9223372036854775808 ≤ y) (hi2 : y ≤ 9223372036854775807) (w : World) (hC : CalAt w A ca A' cb c) :
    Calls Tryd.prog 69 #[.agg #[.slice A c.nk ca, .slice A' c.ny cb], .int .i64 y] w fun e w' => e = .returned (.tuple #[.string (c.reignS y), .int .i64 (c.reignN y), .int .i64 (c.yearE y)]) ∧ Ext w w' := by
  have hnyle := hC.ny_le
  have NT := fun v (h : CalAt v A ca A' cb c) => validR_any A A' ca cb c v h
  rcases yearE_cases c y with ⟨hv, hE⟩ | ⟨hv, hy, hE⟩ | ⟨hv, hy, hE⟩
  · have HR : Hid (c.reignS y = ⟨#[]⟩ ∧ c.reignN y = 0 ∧ c.yearE y = 70) := by unfold Hid Cal.reignS Cal.reignN; rw [hE]; exact ⟨rfl, rfl, rfl⟩
    simp only [hv] at NT
    clear hv hE
    go_enter Tryd.func69, Tryd.ntmps69
    go_upto_region 1 with (fail)
    obtain ⟨v, hv⟩ : ∃ v, v = (w.alloc (.cells #[.slice A c.nk ca, .slice A' c.ny cb] 25)) := ⟨_, rfl⟩
    rw [← hv]
    have E : Ext w v := by rw [hv]; exact (Ext.refl _).alloc _
    have B1 : Held v w.heap.size 25 #[.slice A c.nk ca, .slice A' c.ny cb] := by rw [hv]; exact (Held.new _ _ _)
    clear hv
    have C := hC.ext E
    clear hC
    generalize w.heap.size = b1 at *
    obtain ⟨k0, k1⟩ := B1.c2; have lk := B1.lt
    go_upto_region 2 with (go_at_call 78; (with_reducible refine Calls.mono (NT _ C) ?_); rintro e v2 ⟨rfl, h⟩)
    replace E := Ext.trans E h
    replace C := C.ext h
    replace B1 := B1.ext h
    clear h
    clear k0 k1 lk
    obtain ⟨k0, k1⟩ := B1.c2; have lk := B1.lt
    go_wp2
    go_ret3
    exact ⟨by rw [HR.out.1, HR.out.2.1, HR.out.2.2]; rfl, E⟩
  · have HR : Hid (c.reignS y = ⟨#[]⟩ ∧ c.reignN y = 0 ∧ c.yearE y = 8) := by unfold Hid Cal.reignS Cal.reignN; rw [hE]; exact ⟨rfl, rfl, rfl⟩
    simp only [hv] at NT
    clear hv hE
    by_cases h0 : y < 0
    · have h0b : decide (y < 0) = true := decide_eq_true h0
      go_enter Tryd.func69, Tryd.ntmps69
      go_upto_region 1 with (fail)
      obtain ⟨v, hv⟩ : ∃ v, v = (w.alloc (.cells #[.slice A c.nk ca, .slice A' c.ny cb] 25)) := ⟨_, rfl⟩
      rw [← hv]
      have E : Ext w v := by rw [hv]; exact (Ext.refl _).alloc _
      have B1 : Held v w.heap.size 25 #[.slice A c.nk ca, .slice A' c.ny cb] := by rw [hv]; exact (Held.new _ _ _)
      clear hv
      have C := hC.ext E
      clear hC
      generalize w.heap.size = b1 at *
      obtain ⟨k0, k1⟩ := B1.c2; have lk := B1.lt
      go_upto_region 3 with (go_at_call 78; (with_reducible refine Calls.mono (NT _ C) ?_); rintro e v2 ⟨rfl, h⟩)
      replace E := Ext.trans E h
      replace C := C.ext h
      replace B1 := B1.ext h
      clear h
      clear k0 k1 lk
      obtain ⟨k0, k1⟩ := B1.c2; have lk := B1.lt
      go_wp2
      go_ret3
      exact ⟨by rw [HR.out.1, HR.out.2.1, HR.out.2.2]; rfl, E⟩

    · have h0b : decide (y < 0) = false := decide_eq_false h0
      have h1b : decide ((c.ny : Int) ≤ y) = true := decide_eq_true (by omega)
      go_enter Tryd.func69, Tryd.ntmps69
      go_upto_region 1 with (fail)
      obtain ⟨v, hv⟩ : ∃ v, v = (w.alloc (.cells #[.slice A c.nk ca, .slice A' c.ny cb] 25)) := ⟨_, rfl⟩
      rw [← hv]
      have E : Ext w v := by rw [hv]; exact (Ext.refl _).alloc _
      have B1 : Held v w.heap.size 25 #[.slice A c.nk ca, .slice A' c.ny cb] := by rw [hv]; exact (Held.new _ _ _)
      clear hv
      have C := hC.ext E
      clear hC
      generalize w.heap.size = b1 at *
      obtain ⟨k0, k1⟩ := B1.c2; have lk := B1.lt
      go_upto_region 3 with (go_at_call 78; (with_reducible refine Calls.mono (NT _ C) ?_); rintro e v2 ⟨rfl, h⟩)
      replace E := Ext.trans E h
      replace C := C.ext h
      replace B1 := B1.ext h
      clear h
      clear k0 k1 lk
      obtain ⟨k0, k1⟩ := B1.c2; have lk := B1.lt
      go_wp2
      go_ret3
      exact ⟨by rw [HR.out.1, HR.out.2.1, HR.out.2.2]; rfl, E⟩
  · obtain ⟨Y, rfl⟩ : ∃ Y : Nat, y = (Y : Int) := ⟨y.toNat, by omega⟩
    have hYn : Y < c.ny := by omega
    have HR : Hid (c.reignS (Y : Int) = c.kg (c.yr Y).k.toNat ∧ c.reignN (Y : Int) = (c.ofKing (c.yr Y).k (Y + 1) : Int) ∧ c.yearE (Y : Int) = 0) := by unfold Hid Cal.reignS Cal.reignN; rw [hE]; exact ⟨rfl, rfl, rfl⟩
    have ok := valid_iff.1 hv
    have hkk0 : 0 ≤ (c.yr Y).k := ok.k0 hYn
    have hkk1 : (c.yr Y).k < c.nk := (ok.yk Y hYn).2
    have hny := ok.ny.2
    have hnk := ok.nk.2
    have hS : ∀ j, c.ofKing (c.yr Y).k (j + 1) = c.ofKing (c.yr Y).k j + (if (c.yr j).k = (c.yr Y).k then 1 else 0) := fun _ => rfl
    have hL := ofKing_le c (c.yr Y).k
    have hZ : c.ofKing (c.yr Y).k 0 = 0 := rfl
    generalize c.ofKing (c.yr Y).k = N at *
    simp only [hv] at NT
    clear hv hE ok hy
    have h0b : decide ((Y : Int) < 0) = false := decide_eq_false (by omega)
    have h1b : decide ((c.ny : Int) ≤ (Y : Int)) = false := decide_eq_false (by omega)
    go_enter Tryd.func69, Tryd.ntmps69
    go_upto_region 1 with (fail)
    obtain ⟨v, hv⟩ : ∃ v, v = (w.alloc (.cells #[.slice A c.nk ca, .slice A' c.ny cb] 25)) := ⟨_, rfl⟩
    rw [← hv]
    have E : Ext w v := by rw [hv]; exact (Ext.refl _).alloc _
    have B1 : Held v w.heap.size 25 #[.slice A c.nk ca, .slice A' c.ny cb] := by rw [hv]; exact (Held.new _ _ _)
    clear hv
    have C := hC.ext E
    clear hC
    generalize w.heap.size = b1 at *
    obtain ⟨k0, k1⟩ := B1.c2; have lk := B1.lt
    go_upto_region 3 with (go_at_call 78; (with_reducible refine Calls.mono (NT _ C) ?_); rintro e v2 ⟨rfl, h⟩)
    replace E := Ext.trans E h
    replace C := C.ext h
    replace B1 := B1.ext h
    clear h
    clear k0 k1 lk
    obtain ⟨k0, k1⟩ := B1.c2; have lk := B1.lt
    have hcb := C.ny_cap

    go_wp2
    go_loopw [7, 8] (fun nv iv wr => ∃ j : Nat, j ≤ Y + 1 ∧ iv = .int .i64 (j : Int) ∧ nv = .int .i64 (N j : Int) ∧ Ext v2 wr) (fun _ iv _ => Y + 1 - (intOf iv).toNat)
    case atStart => exact ⟨0, Nat.zero_le _, rfl, by rw [hZ]; rfl, Ext.refl _⟩
    case round =>
      obtain ⟨j, hj, rfl, rfl, hE2⟩ := hrel
      obtain ⟨wo, rfl⟩ : ∃ wo : World, wo = wr := ⟨_, rfl⟩
      have Co := C.ext hE2
      obtain ⟨k0, k1⟩ := (B1.ext hE2).c2
      have lk := (B1.ext hE2).lt
      have hLj := hL j
      by_cases hlt : j < Y + 1
      · have hjb : decide ((j : Int) < (Y : Int) + 1) = true := decide_eq_true (by omega)
        have hjb2 : decide ((j : Int) ≤ (Y : Int)) = true := decide_eq_true (by omega)
        obtain ⟨yb, yo, hA', hyb, y0, y1, y2, y3⟩ := Co.year (show j < c.ny by omega)
        obtain ⟨yb', yo', hA'', hyb', z0, z1, z2, z3⟩ := Co.year hYn
        skip
        cases hA'
        cases hA''
        by_cases hq : (c.yr j).k = (c.yr Y).k
        · have hqb : ((c.yr j).k == (c.yr Y).k) = true := beq_iff_eq.2 hq
          have hs : N (j + 1) = N j + 1 := by rw [hS, if_pos hq]
          clear hq
          go_upto_region 9 with (fail)
          refine wp_region_xw wo mixed (by kernel_rfl) (by repeat (first | exact Ext.refl _ | (refine Ext.alloc ?_ _) | (refine Ext.trans ?_ (by assumption)))) ?_
          intro hne hrx hry
          try simp only []
          try simp only [List.append_eq, List.cons_append, List.nil_append]
          skip
          repeat (first
            | go_big_quiet_skip
            | (go_big_quiet_want; go_big_quiet_op; go_big_quiet_on))
          clear hne hry hrx
          refine wpQuiet_nil ?_
          intro wn hwn
          obtain ⟨hcwn, hfwn, hzwn⟩ := Ext.rules hwn
          try simp only [World.size_alloc] at hzwn
          obtain ⟨hcbwn, hfbwn, hzbwn⟩ := Ext.rules (show Ext wo wn from (by repeat (first | exact Ext.refl _ | (refine Ext.alloc ?_ _) | (refine Ext.trans ?_ (by assumption)))))
          clear hcwn hfwn
          go_wp2
          exact ⟨⟨j + 1, by omega, by go_num, by rw [hs]; go_num, hE2.trans hwn⟩, by simp [intOf]; omega⟩
        · have hqb : ((c.yr j).k == (c.yr Y).k) = false := beq_eq_false_iff_ne.2 hq
          have hs : N (j + 1) = N j := by rw [hS, if_neg hq]; rfl
          clear hq
          go_upto_region 9 with (fail)
          refine wp_region_xw wo mixed (by kernel_rfl) (by repeat (first | exact Ext.refl _ | (refine Ext.alloc ?_ _) | (refine Ext.trans ?_ (by assumption)))) ?_
          intro hne hrx hry
          try simp only []
          try simp only [List.append_eq, List.cons_append, List.nil_append]
          skip
          repeat (first
            | go_big_quiet_skip
            | (go_big_quiet_want; go_big_quiet_op; go_big_quiet_on))
          clear hne hry hrx
          refine wpQuiet_nil ?_
          intro wn hwn
          obtain ⟨hcwn, hfwn, hzwn⟩ := Ext.rules hwn
          try simp only [World.size_alloc] at hzwn
          obtain ⟨hcbwn, hfbwn, hzbwn⟩ := Ext.rules (show Ext wo wn from (by repeat (first | exact Ext.refl _ | (refine Ext.alloc ?_ _) | (refine Ext.trans ?_ (by assumption)))))
          clear hcwn hfwn
          go_wp2
          exact ⟨⟨j + 1, by omega, by go_num, by rw [hs], hE2.trans hwn⟩, by simp [intOf]; omega⟩
      · obtain rfl : j = Y + 1 := by omega
        have hjb : decide (((Y + 1 : Nat) : Int) < (Y : Int) + 1) = false := decide_eq_false (by omega)
        have hjb2 : decide (((Y + 1 : Nat) : Int) ≤ (Y : Int)) = false := decide_eq_false (by omega)
        obtain ⟨kb, ko, hA, hkb, q9⟩ := Co.kingI hkk0 hkk1
        subst hA
        obtain ⟨yb', yo', hA'', hyb', z0, z1, z2, z3⟩ := Co.year hYn
        subst hA''
        go_upto_region 11 with (fail)
        refine wp_region_xw wo mixed (by kernel_rfl) (by repeat (first | exact Ext.refl _ | (refine Ext.alloc ?_ _) | (refine Ext.trans ?_ (by assumption)))) ?_
        intro hne hrx hry
        try simp only []
        try simp only [List.append_eq, List.cons_append, List.nil_append]
        skip
        repeat (first
          | go_big_quiet_skip
          | (go_big_quiet_want; go_big_quiet_op; go_big_quiet_on))
        clear hne hry hrx
        refine wpQuiet_nil ?_
        intro wn hwn
        obtain ⟨hcwn, hfwn, hzwn⟩ := Ext.rules hwn
        try simp only [World.size_alloc] at hzwn
        obtain ⟨hcbwn, hfbwn, hzbwn⟩ := Ext.rules (show Ext wo wn from (by repeat (first | exact Ext.refl _ | (refine Ext.alloc ?_ _) | (refine Ext.trans ?_ (by assumption)))))
        clear hcwn hfwn
        go_wp2
        go_ret3
        exact ⟨by rw [HR.out.1, HR.out.2.1, HR.out.2.2]; rfl, E.trans (hE2.trans hwn)⟩
end Go.Proofs.YtfchchmmjabjnaaDoor

namespace Go.Proofs.YtfchchmmjabjnaaDoor
open Go Go.RowKit
attribute [local go_sem] gv_yes

theorem king_dec (c : Cal) (s : ByteArray) (j : Nat) : ((c.kg (c.yr j).k.toNat).toList == s.toList) = decide (c.kingOf j = s) := by
  rw [same_eq]; rfl
set_option maxRecDepth 100000 in
set_option maxHeartbeats 4000000 in
theorem yearOf_any (A A' : Option Addr) (ca cb : Nat) (c : Cal) (s : ByteArray) (n : Int) (hi1 : -9223372036854775808 ≤ n) (hi2 : n ≤ 9223372036854775807) (w : World) (hC : CalAt w A ca A' cb c) :
    Calls Tryd.prog 60 #[.agg #[.slice A c.nk ca, .slice A' c.ny cb], .string s, .int .i64 n] w fun e w' => e = .returned (.tuple #[.int .i64 (c.yofV s n), .int .i64 (c.yofE s n)]) ∧ Ext w w' := by
  have NT := fun v (h : CalAt v A ca A' cb c) => checksNone_any A A' ca cb c v h
  cases hv : c.valid
  · have HR : Hid (c.yofV s n = 0 ∧ c.yofE s n = 70) := by unfold Hid Cal.yofV Cal.yofE; rw [hv]; exact ⟨rfl, rfl⟩
    simp only [chk_no hv] at NT
    clear hv
    go_enter Tryd.func60, Tryd.ntmps60
    go_upto_region 1 with (fail)
    obtain ⟨v, hv⟩ : ∃ v, v = (w.alloc (.cells #[.slice A c.nk ca, .slice A' c.ny cb] 25)) := ⟨_, rfl⟩
    rw [← hv]
    have E : Ext w v := by rw [hv]; exact (Ext.refl _).alloc _
    have B1 : Held v w.heap.size 25 #[.slice A c.nk ca, .slice A' c.ny cb] := by rw [hv]; exact (Held.new _ _ _)
    clear hv
    have C := hC.ext E
    clear hC
    generalize w.heap.size = b1 at *
    obtain ⟨k0, k1⟩ := B1.c2; have lk := B1.lt
    go_upto_region 2 with (go_at_call 75; (with_reducible refine Calls.mono (NT _ C) ?_); rintro e v2 ⟨rfl, h⟩)
    replace E := Ext.trans E h
    replace C := C.ext h
    replace B1 := B1.ext h
    clear h
    clear k0 k1 lk
    obtain ⟨k0, k1⟩ := B1.c2; have lk := B1.lt
    go_wp2
    go_ret2
    exact ⟨by rw [HR.out.1, HR.out.2]; rfl, E⟩
  · have HR : Hid (c.yofV s n = ((c.nth? s n).getD 0 : Nat) ∧ c.yofE s n = if (c.nth? s n).isSome then 0 else 4) := by unfold Hid Cal.yofV Cal.yofE; rw [hv]; exact ⟨rfl, rfl⟩
    have HH := fun k (hk : k < c.ny) (h : ∀ j, j < k → ¬ (c.kingOf j = s ∧ (c.ofName s (j + 1) : Int) = n)) (h1 : c.kingOf k = s) (h2 : (c.ofName s (k + 1) : Int) = n) => nth_hit hk h h1 h2
    have HM := fun (h : ∀ j, j < c.ny → ¬ (c.kingOf j = s ∧ (c.ofName s (j + 1) : Int) = n)) => nth_miss h
    have HK := Lib.hid (king_dec c s)
    have ok := valid_iff.1 hv
    have hny := ok.ny.2
    have hnk := ok.nk.2
    have hkk : ∀ j, j < c.ny → 0 ≤ (c.yr j).k ∧ (c.yr j).k < c.nk := fun j hj => ⟨ok.k0 hj, (ok.yk j hj).2⟩
    have hS : ∀ j, c.ofName s (j + 1) = c.ofName s j + (if c.kingOf j = s then 1 else 0) := fun _ => rfl
    have hL := ofName_le c s
    have hZ : c.ofName s 0 = 0 := rfl
    generalize c.ofName s = N at *
    generalize c.nth? s n = res at *
    simp only [chk_yes hv] at NT
    clear hv ok
    go_enter Tryd.func60, Tryd.ntmps60
    go_upto_region 1 with (fail)
    obtain ⟨v, hv⟩ : ∃ v, v = (w.alloc (.cells #[.slice A c.nk ca, .slice A' c.ny cb] 25)) := ⟨_, rfl⟩
    rw [← hv]
    have E : Ext w v := by rw [hv]; exact (Ext.refl _).alloc _
    have B1 : Held v w.heap.size 25 #[.slice A c.nk ca, .slice A' c.ny cb] := by rw [hv]; exact (Held.new _ _ _)
    clear hv
    have C := hC.ext E
    clear hC
    generalize w.heap.size = b1 at *
    obtain ⟨k0, k1⟩ := B1.c2; have lk := B1.lt
    go_upto_region 4 with (go_at_call 75; (with_reducible refine Calls.mono (NT _ C) ?_); rintro e v2 ⟨rfl, h⟩)
    replace E := Ext.trans E h
    replace C := C.ext h
    replace B1 := B1.ext h
    clear h
    clear k0 k1 lk
    obtain ⟨k0, k1⟩ := B1.c2; have lk := B1.lt
    have hcy := C.ny_cap
    go_wp2
    go_loopw [2, 19] (fun kv iv wr => ∃ (j : Nat) (m : Int), j ≤ c.ny ∧ iv = .int .i64 (j : Int) ∧ kv = .int .i64 m ∧ (-9223372036854775808 ≤ m ∧ m ≤ 9223372036854775807) ∧ Hid (m = n - (N j : Int) ∨ m = n - (N j : Int) + 18446744073709551616) ∧ Hid (∀ i, i < j → ¬ (c.kingOf i = s ∧ (N (i + 1) : Int) = n)) ∧ Ext v2 wr) (fun _ iv _ => c.ny - (intOf iv).toNat)
    case atStart => exact ⟨0, n, Nat.zero_le _, rfl, rfl, ⟨hi1, hi2⟩, .inl (by rw [hZ]; omega), fun i hi => absurd hi (by omega), Ext.refl _⟩
    case round =>
      obtain ⟨j, m, hj, rfl, rfl, hmr, hm, hno, hE2⟩ := hrel
      obtain ⟨wo, rfl⟩ : ∃ wo : World, wo = wr := ⟨_, rfl⟩
      have Co := C.ext hE2
      obtain ⟨k0, k1⟩ := (B1.ext hE2).c2
      have lk := (B1.ext hE2).lt
      have hLj := hL j
      by_cases hlt : j < c.ny
      · obtain ⟨hkk0, hkk1⟩ := hkk j hlt
        obtain ⟨kb, ko, hA, hkb, q9⟩ := Co.kingI hkk0 hkk1
        obtain ⟨yb, yo, hA', hyb, y0, y1, y2, y3⟩ := Co.year hlt
        cases hA
        cases hA'
        by_cases hq : c.kingOf j = s
        · have hqb : ((c.kg (c.yr j).k.toNat).toList == s.toList) = true := by rw [HK.out, decide_eq_true hq]
          have hs : N (j + 1) = N j + 1 := by rw [hS, if_pos hq]
          obtain ⟨m', hm', hmb, hmw⟩ : ∃ m', IntKind.i64.wrap (m - 1) = m' ∧ (-9223372036854775808 ≤ m' ∧ m' ≤ 9223372036854775807) ∧ Hid (m' = n - (N (j + 1) : Int) ∨ m' = n - (N (j + 1) : Int) + 18446744073709551616) := by
            refine ⟨_, rfl, ?_, ?_⟩
            · rw [IntKind.wrap_i64]; omega
            · show _ ∨ _
              have := hm.out
              rw [IntKind.wrap_i64, hs]; omega
          by_cases hz : (N (j + 1) : Int) = n
          · have hm0 : m' = 0 := by have := hmw.out; omega
            subst hm0
            have hr := Lib.hid (HH j hlt hno.out hq hz)
            clear hq hz hmw hmb
            go_wp2
            go_ret2
            exact ⟨by rw [HR.out.1, HR.out.2, hr.out]; rfl, (by repeat (first | exact Ext.refl _ | (refine Ext.alloc ?_ _) | (refine Ext.trans ?_ (by assumption))))⟩
          · have hzb : (m' == 0) = false := beq_eq_false_iff_ne.2 (fun e => hz (by have := hmw.out; omega))
            have hnx : ∀ i, i < j + 1 → ¬ (c.kingOf i = s ∧ (N (i + 1) : Int) = n) := fun i hi => by
              by_cases e : i = j
              · subst e; exact fun h => hz h.2
              · exact hno.out i (by omega)
            clear hq hz
            go_wp2
            exact ⟨⟨j + 1, m', by omega, by go_num, rfl, hmb, hmw, hnx, (by repeat (first | exact Ext.refl _ | (refine Ext.alloc ?_ _) | (refine Ext.trans ?_ (by assumption))))⟩, by simp [intOf]; omega⟩
        · have hqb : ((c.kg (c.yr j).k.toNat).toList == s.toList) = false := by rw [HK.out, decide_eq_false hq]
          have hs : N (j + 1) = N j := by rw [hS, if_neg hq]; rfl
          have hnx : ∀ i, i < j + 1 → ¬ (c.kingOf i = s ∧ (N (i + 1) : Int) = n) := fun i hi => by
            by_cases e : i = j
            · subst e; exact fun h => hq h.1
            · exact hno.out i (by omega)
          clear hq
          go_wp2
          exact ⟨⟨j + 1, m, by omega, by go_num, rfl, hmr, by rw [hs]; exact hm, hnx, (by repeat (first | exact Ext.refl _ | (refine Ext.alloc ?_ _) | (refine Ext.trans ?_ (by assumption))))⟩, by simp [intOf]; omega⟩
      · obtain rfl : j = c.ny := by omega
        go_wp2
        go_ret2
        have hr := HM (fun i hi => hno.out i (by omega))
        exact ⟨by rw [HR.out.1, HR.out.2, hr]; rfl, (by repeat (first | exact Ext.refl _ | (refine Ext.alloc ?_ _) | (refine Ext.trans ?_ (by assumption))))⟩
set_option maxRecDepth 100000 in
set_option maxHeartbeats 4000000 in
theorem yearOf_any_r (A A' : Option Addr) (ca cb : Nat) (c : Cal) (s : ByteArray) (n : Int) (_hi1 : -9223372036854775808 ≤ n) (_hi2 : n ≤ 9223372036854775807) (w : World) (hC : CalAt w A ca A' cb c) :
    Calls Tryd.prog 61 #[.agg #[.slice A c.nk ca, .slice A' c.ny cb], .string s, .int .i64 n] w fun e w' => e = .returned (.tuple #[.int .i64 (c.yofV s n), .int .i64 (c.yofE s n)]) ∧ Ext w w' := by
  have NT := fun v (h : CalAt v A ca A' cb c) => validR_any A A' ca cb c v h
  cases hv : c.valid
  · have HR : Hid (c.yofV s n = 0 ∧ c.yofE s n = 70) := by unfold Hid Cal.yofV Cal.yofE; rw [hv]; exact ⟨rfl, rfl⟩
    simp only [hv] at NT
    clear hv
    go_enter Tryd.func61, Tryd.ntmps61
    go_upto_region 1 with (fail)
    obtain ⟨v, hv⟩ : ∃ v, v = (w.alloc (.cells #[.slice A c.nk ca, .slice A' c.ny cb] 25)) := ⟨_, rfl⟩
    rw [← hv]
    have E : Ext w v := by rw [hv]; exact (Ext.refl _).alloc _
    have B1 : Held v w.heap.size 25 #[.slice A c.nk ca, .slice A' c.ny cb] := by rw [hv]; exact (Held.new _ _ _)
    clear hv
    have C := hC.ext E
    clear hC
    generalize w.heap.size = b1 at *
    obtain ⟨k0, k1⟩ := B1.c2; have lk := B1.lt
    go_upto_region 2 with (go_at_call 78; (with_reducible refine Calls.mono (NT _ C) ?_); rintro e v2 ⟨rfl, h⟩)
    replace E := Ext.trans E h
    replace C := C.ext h
    replace B1 := B1.ext h
    clear h
    clear k0 k1 lk
    obtain ⟨k0, k1⟩ := B1.c2; have lk := B1.lt
    go_wp2
    go_ret2
    exact ⟨by rw [HR.out.1, HR.out.2]; rfl, E⟩
  · have HR : Hid (c.yofV s n = ((c.nth? s n).getD 0 : Nat) ∧ c.yofE s n = if (c.nth? s n).isSome then 0 else 4) := by unfold Hid Cal.yofV Cal.yofE; rw [hv]; exact ⟨rfl, rfl⟩
    have HH := fun k (hk : k < c.ny) (h : ∀ j, j < k → ¬ (c.kingOf j = s ∧ (c.ofName s (j + 1) : Int) = n)) (h1 : c.kingOf k = s) (h2 : (c.ofName s (k + 1) : Int) = n) => nth_hit hk h h1 h2
    have HM := fun (h : ∀ j, j < c.ny → ¬ (c.kingOf j = s ∧ (c.ofName s (j + 1) : Int) = n)) => nth_miss h
    have HK := Lib.hid (king_dec c s)
    have ok := valid_iff.1 hv
    have hny := ok.ny.2
    have hnk := ok.nk.2
    have hkk : ∀ j, j < c.ny → 0 ≤ (c.yr j).k ∧ (c.yr j).k < c.nk := fun j hj => ⟨ok.k0 hj, (ok.yk j hj).2⟩
    have hS : ∀ j, c.ofName s (j + 1) = c.ofName s j + (if c.kingOf j = s then 1 else 0) := fun _ => rfl
    have hL := ofName_le c s
    have hZ : c.ofName s 0 = 0 := rfl
    generalize c.ofName s = N at *
    generalize c.nth? s n = res at *
    simp only [hv] at NT
    clear hv ok
    go_enter Tryd.func61, Tryd.ntmps61
    go_upto_region 1 with (fail)
    obtain ⟨v, hv⟩ : ∃ v, v = (w.alloc (.cells #[.slice A c.nk ca, .slice A' c.ny cb] 25)) := ⟨_, rfl⟩
    rw [← hv]
    have E : Ext w v := by rw [hv]; exact (Ext.refl _).alloc _
    have B1 : Held v w.heap.size 25 #[.slice A c.nk ca, .slice A' c.ny cb] := by rw [hv]; exact (Held.new _ _ _)
    clear hv
    have C := hC.ext E
    clear hC
    generalize w.heap.size = b1 at *
    obtain ⟨k0, k1⟩ := B1.c2; have lk := B1.lt
    go_upto_region 3 with (go_at_call 78; (with_reducible refine Calls.mono (NT _ C) ?_); rintro e v2 ⟨rfl, h⟩)
    replace E := Ext.trans E h
    replace C := C.ext h
    replace B1 := B1.ext h
    clear h
    clear k0 k1 lk
    obtain ⟨k0, k1⟩ := B1.c2; have lk := B1.lt
    go_wp2
    go_loopw [8, 9] (fun kv iv wr => ∃ j : Nat, j ≤ c.ny ∧ iv = .int .i64 (j : Int) ∧ kv = .int .i64 (N j : Int) ∧ Hid (∀ i, i < j → ¬ (c.kingOf i = s ∧ (N (i + 1) : Int) = n)) ∧ Ext v2 wr) (fun _ iv _ => c.ny - (intOf iv).toNat)
    case atStart => exact ⟨0, Nat.zero_le _, rfl, by rw [hZ]; rfl, fun i hi => absurd hi (by omega), Ext.refl _⟩
    case round =>
      obtain ⟨j, hj, rfl, rfl, hno, hE2⟩ := hrel
      obtain ⟨wo, rfl⟩ : ∃ wo : World, wo = wr := ⟨_, rfl⟩
      have Co := C.ext hE2
      obtain ⟨k0, k1⟩ := (B1.ext hE2).c2
      have lk := (B1.ext hE2).lt
      have hLj := hL j
      by_cases hlt : j < c.ny
      · obtain ⟨hkk0, hkk1⟩ := hkk j hlt
        obtain ⟨kb, ko, hA, hkb, q9⟩ := Co.kingI hkk0 hkk1
        obtain ⟨yb, yo, hA', hyb, y0, y1, y2, y3⟩ := Co.year hlt
        cases hA
        cases hA'
        by_cases hq : c.kingOf j = s
        · have hqb : ((c.kg (c.yr j).k.toNat).toList == s.toList) = true := by rw [HK.out, decide_eq_true hq]
          have hs : N (j + 1) = N j + 1 := by rw [hS, if_pos hq]
          by_cases hz : (N j : Int) + 1 = n
          · have hzb : ((N j : Int) + 1 == n) = true := beq_iff_eq.2 hz
            have hr := Lib.hid (HH j hlt hno.out hq (by rw [hs]; omega))
            clear hq hz
            go_upto_region 7 with (fail)
            refine wp_region_xw wo mixed (by kernel_rfl) (by repeat (first | exact Ext.refl _ | (refine Ext.alloc ?_ _) | (refine Ext.trans ?_ (by assumption)))) ?_
            intro hne hrx hry
            try simp only []
            try simp only [List.append_eq, List.cons_append, List.nil_append]
            skip
            repeat (first
              | go_big_quiet_skip
              | (go_big_quiet_want; go_big_quiet_op; go_big_quiet_on))
            clear hne hry hrx
            refine wpQuiet_nil ?_
            intro wn hwn
            obtain ⟨hcwn, hfwn, hzwn⟩ := Ext.rules hwn
            try simp only [World.size_alloc] at hzwn
            obtain ⟨hcbwn, hfbwn, hzbwn⟩ := Ext.rules (show Ext wo wn from (by repeat (first | exact Ext.refl _ | (refine Ext.alloc ?_ _) | (refine Ext.trans ?_ (by assumption)))))
            clear hcwn hfwn
            go_wp2
            go_ret2
            exact ⟨by rw [HR.out.1, HR.out.2, hr.out]; rfl, E.trans (hE2.trans hwn)⟩
          · have hzb : ((N j : Int) + 1 == n) = false := beq_eq_false_iff_ne.2 hz
            have hnx : ∀ i, i < j + 1 → ¬ (c.kingOf i = s ∧ (N (i + 1) : Int) = n) := fun i hi => by
              by_cases e : i = j
              · subst e; rw [hs]; exact fun h => hz (by have := h.2; omega)
              · exact hno.out i (by omega)
            clear hq
            go_upto_region 7 with (fail)
            refine wp_region_xw wo mixed (by kernel_rfl) (by repeat (first | exact Ext.refl _ | (refine Ext.alloc ?_ _) | (refine Ext.trans ?_ (by assumption)))) ?_
            intro hne hrx hry
            try simp only []
            try simp only [List.append_eq, List.cons_append, List.nil_append]
            skip
            repeat (first
              | go_big_quiet_skip
              | (go_big_quiet_want; go_big_quiet_op; go_big_quiet_on))
            clear hne hry hrx
            refine wpQuiet_nil ?_
            intro wn hwn
            obtain ⟨hcwn, hfwn, hzwn⟩ := Ext.rules hwn
            try simp only [World.size_alloc] at hzwn
            obtain ⟨hcbwn, hfbwn, hzbwn⟩ := Ext.rules (show Ext wo wn from (by repeat (first | exact Ext.refl _ | (refine Ext.alloc ?_ _) | (refine Ext.trans ?_ (by assumption)))))
            clear hcwn hfwn
            go_wp2
            exact ⟨⟨j + 1, by omega, by go_num, by rw [hs]; go_num, hnx, hE2.trans hwn⟩, by simp [intOf]; omega⟩
        · have hqb : ((c.kg (c.yr j).k.toNat).toList == s.toList) = false := by rw [HK.out, decide_eq_false hq]
          have hs : N (j + 1) = N j := by rw [hS, if_neg hq]; rfl
          have hnx : ∀ i, i < j + 1 → ¬ (c.kingOf i = s ∧ (N (i + 1) : Int) = n) := fun i hi => by
            by_cases e : i = j
            · subst e; exact fun h => hq h.1
            · exact hno.out i (by omega)
          clear hq
          go_upto_region 7 with (fail)
          refine wp_region_xw wo mixed (by kernel_rfl) (by repeat (first | exact Ext.refl _ | (refine Ext.alloc ?_ _) | (refine Ext.trans ?_ (by assumption)))) ?_
          intro hne hrx hry
          try simp only []
          try simp only [List.append_eq, List.cons_append, List.nil_append]
          skip
          repeat (first
            | go_big_quiet_skip
            | (go_big_quiet_want; go_big_quiet_op; go_big_quiet_on))
          clear hne hry hrx
          refine wpQuiet_nil ?_
          intro wn hwn
          obtain ⟨hcwn, hfwn, hzwn⟩ := Ext.rules hwn
          try simp only [World.size_alloc] at hzwn
          obtain ⟨hcbwn, hfbwn, hzbwn⟩ := Ext.rules (show Ext wo wn from (by repeat (first | exact Ext.refl _ | (refine Ext.alloc ?_ _) | (refine Ext.trans ?_ (by assumption)))))
          clear hcwn hfwn
          go_wp2
          exact ⟨⟨j + 1, by omega, by go_num, by rw [hs], hnx, hE2.trans hwn⟩, by simp [intOf]; omega⟩
      · obtain rfl : j = c.ny := by omega
        go_wp2
        go_ret2
        have hr := HM (fun i hi => hno.out i (by omega))
        exact ⟨by rw [HR.out.1, HR.out.2, hr]; rfl, E.trans hE2⟩
end Go.Proofs.YtfchchmmjabjnaaDoor

namespace Go.Proofs.YtfchchmmjabjnaaDoor
open Go Go.RowKit Go.Maps
attribute [local go_sem] gv_yes

/-! ### What the map holds -/
def itemsD : DataW Unit → List (DataW Unit)
  | .slice es _ => es
  | _ => []
def keyL (s : ByteArray) : Lit := .string s.data.toList
def Cal.fitsKing (c : Cal) (king : ByteArray) (k : Nat) : Bool := emptyB king || decide (c.kingOf k = king)
def namedD (c : Cal) (king : ByteArray) : Nat → DataW Unit
  | 0 => .map []
  | k + 1 => if c.fitsKing king k then (namedD c king k).put (keyL (c.yr k).nm) (.slice (itemsD ((namedD c king k).atKey (keyL (c.yr k).nm) .nil) ++ [.lit (.int .i64 (k : Int))]) []) else namedD c king k
theorem namedD_map (c : Cal) (king : ByteArray) : ∀ k, IsMap (namedD c king k)
  | 0 => ⟨_, rfl⟩
  | k + 1 => by
    rw [namedD]
    split
    · exact (namedD_map c king k).put _ _
    · exact namedD_map c king k
theorem keyL_inj {s t : ByteArray} (h : keyL s = keyL t) : s = t := by
  obtain ⟨⟨s⟩⟩ := s
  obtain ⟨⟨t⟩⟩ := t
  simpa [keyL] using h
def litsI (l : List Nat) : List (DataW Unit) := l.map fun (i : Nat) => DataW.lit (.int .i64 (i : Int))
theorem namedD_at (c : Cal) (king s : ByteArray) : ∀ k, itemsD ((namedD c king k).atKey (keyL s) .nil) = litsI (c.namedTo s king k)
  | 0 => rfl
  | k + 1 => by
    have ih := namedD_at c king s k
    rw [namedD, namedTo_succ]
    cases hf : c.fitsKing king k
    · have : c.isNamed s king k = false := by unfold Cal.isNamed; unfold Cal.fitsKing at hf; rw [hf, Bool.and_false]
      rw [if_neg (by simp), if_neg (by simp [this])]
      exact ih
    · rw [if_pos rfl]
      by_cases hn : (c.yr k).nm = s
      · have : c.isNamed s king k = true := by unfold Cal.isNamed; unfold Cal.fitsKing at hf; rw [hf, decide_eq_true hn]; rfl
        rw [if_pos this, hn, atKey_put_same (namedD_map c king k) (by first | trivial | (simp [keyL, WideAt.IsKeyLit]))]
        show itemsD _ ++ _ = _
        rw [ih]
        simp [litsI]
      · have : c.isNamed s king k = false := by unfold Cal.isNamed; rw [decide_eq_false hn]; rfl
        rw [if_neg (by simp [this]), atKey_put_other (fun e => hn (keyL_inj e).symm)]
        exact ih
theorem litsI_eq {zs : List Int} {l : List Nat} (h : ChangeShapes.lits (H := Unit) .i64 zs = litsI l) : zs = l.map fun (i : Nat) => (i : Int) := by
  have : zs.map (fun z => DataW.lit (H := Unit) (.int .i64 z)) = (l.map fun (i : Nat) => (i : Int)).map (fun z => DataW.lit (H := Unit) (.int .i64 z)) := by
    rw [List.map_map]; exact h
  exact (List.map_inj_right (fun a b hab => by cases hab; rfl)).1 this
/-- What the look-up has found. -/
theorem named_found {c : Cal} {king s : ByteArray} {w : World} {base : Nat} {e : TypeId} {v : Value} {zs : List Int} {k : Nat} (hat : (namedD c king k).atKey (keyL s) .nil = rowDatum .i64 v zs) (ho : w.ownsInts base e .i64 v zs) : zs = (c.namedTo s king k).map fun (i : Nat) => (i : Int) := by
  have h := namedD_at c king s k
  rw [hat] at h
  rcases ho.datum (H := Unit) with ⟨h1, rfl⟩ | h1
  · rw [h1] at h
    exact litsI_eq h
  · rw [h1] at h
    exact litsI_eq h
theorem namedD_step {c : Cal} {king : ByteArray} {w : World} {base : Nat} {e : TypeId} {v : Value} {zs : List Int} {k : Nat} (hf : c.fitsKing king k = true) (hat : (namedD c king k).atKey (keyL (c.yr k).nm) .nil = rowDatum .i64 v zs) (ho : w.ownsInts base e .i64 v zs) :
    namedD c king (k + 1) = (namedD c king k).put (keyL (c.yr k).nm) (.slice (ChangeShapes.lits .i64 (zs ++ [(k : Int)])) []) := by
  rw [namedD, if_pos hf, hat]
  rcases ho.datum (H := Unit) with ⟨h1, rfl⟩ | h1 <;> rw [h1] <;> simp [itemsD, ChangeShapes.lits]
theorem groups_mono {w : World} {P : Program} {k e : TypeId} {base b n n' : Nat} {q : IntKind} {D : DataW Unit} (h : w.ownsGroups P k base e q b n D) (hn : n ≤ n') : w.ownsGroups P k base e q b n' D := by
  obtain ⟨es, clock, hb, F, hs, hD, hbb, hlen, hap⟩ := h
  exact ⟨es, clock, hb, F, by omega, hD, hbb, fun x hx zs h => by have := hlen x hx zs h; omega, hap⟩
theorem groups_ext {w w' : World} {P : Program} {k e : TypeId} {base b n : Nat} {q : IntKind} {D : DataW Unit} (h : w.ownsGroups P k base e q b n D) (x : Ext w w') : w'.ownsGroups P k base e q b n D :=
  h.kept (grown_of_ext x) (by simp) (fun es clock _ x _ => by cases hx : x.val.ownBlock <;> simp)
/-- A slice that reads as some numbers. -/
def IntsAt (w : World) (v : Value) (l : List Int) : Prop := ∃ A cap, v = .slice A l.length cap ∧ RowsAt w A l.length 1 (fun i => [.int .i64 (l.getD i 0)]) ∧ l.length ≤ cap ∧ cap ≤ maxLen
theorem IntsAt.ext {w w' : World} {v : Value} {l : List Int} (h : IntsAt w v l) (e : Ext w w') : IntsAt w' v l := by
  obtain ⟨A, cap, hv, hr, hc, hm⟩ := h
  exact ⟨A, cap, hv, hr.ext e, hc, hm⟩
theorem intsAt_nil (w : World) : IntsAt w (.slice none 0 0) [] := ⟨none, 0, rfl, fun h => absurd h (by simp), Nat.le_refl _, Nat.zero_le _⟩
theorem intsAt_own {w : World} {base : Nat} {e : TypeId} {v : Value} {zs : List Int} (h : w.ownsInts base e .i64 v zs) : IntsAt w v zs := by
  have h0 := h.1
  rcases h0.2 with ⟨rfl, hz⟩ | ⟨g, cap, cur, rfl, hb, hg, hn, hm, _⟩
  · exact ⟨none, 0, by rw [hz], fun hp => by omega, by omega, by decide⟩
  · refine ⟨_, _, rfl, fun _ => ⟨g, 0, rfl, (Array.getElem?_eq_some_iff.1 hg).1, fun i j v hi hv => ?_⟩, hn, hm⟩
    have hj : j < 1 := (List.getElem?_eq_some_iff.1 hv).1
    obtain rfl : j = 0 := by omega
    rw [Nat.zero_add, Nat.mul_one, Nat.add_zero, World.ownsRow.cellAt h0 i (by omega)]
    rw [List.getElem?_map, List.getElem?_eq_getElem hi]
    have e : zs.getD i 0 = zs[i] := by rw [List.getD_eq_getElem?_getD, List.getElem?_eq_getElem hi]; rfl
    simp only [List.getElem?_cons_zero, Option.some.injEq] at hv
    rw [← hv, e]; rfl
theorem namedTo_length (c : Cal) (s king : ByteArray) (k : Nat) : (c.namedTo s king k).length ≤ k := by
  unfold Cal.namedTo
  exact Nat.le_trans (List.length_filter_le _ _) (by simp)
theorem law_str : Keyed Tryd.prog 9 := string_keyed Tryd.underlying9
theorem zero_ints (w : World) : (zeroValue 63).run Tryd.prog w = .ok (.slice none 0 0) w := by kernel_rfl
theorem info_int : (Tryd.prog.info? 3).map (fun i => (i.zero, i.size, i.bytes)) = some (some (.int .i64 0), 1, 8) := by kernel_rfl
set_option maxRecDepth 100000 in
set_option maxHeartbeats 4000000 in
theorem named_any (A A' : Option Addr) (ca cb : Nat) (c : Cal) (name king : ByteArray) (hnm : name.size ≤ maxLen) (w : World) (hC : CalAt w A ca A' cb c) :
    Calls Tryd.prog 62 #[.agg #[.slice A c.nk ca, .slice A' c.ny cb], .string name, .string king] w fun e w' => ∃ v, e = .returned (.tuple #[v, .int .i64 c.chk]) ∧ Ext w w' ∧ IntsAt w' v ((c.namedV name king).map fun (i : Nat) => (i : Int)) := by
  have NT := fun v (h : CalAt v A ca A' cb c) => checksNone_any A A' ca cb c v h
  cases hv : c.valid
  · have HR : Hid (c.namedV name king = [] ∧ c.chk = 70) := ⟨by unfold Cal.namedV; rw [hv]; rfl, chk_no hv⟩
    simp only [chk_no hv] at NT
    clear hv
    go_enter Tryd.func62, Tryd.ntmps62
    go_upto_region 1 with (fail)
    obtain ⟨v, hv⟩ : ∃ v, v = (w.alloc (.cells #[.slice A c.nk ca, .slice A' c.ny cb] 25)) := ⟨_, rfl⟩
    rw [← hv]
    have E : Ext w v := by rw [hv]; exact (Ext.refl _).alloc _
    have B1 : Held v w.heap.size 25 #[.slice A c.nk ca, .slice A' c.ny cb] := by rw [hv]; exact (Held.new _ _ _)
    clear hv
    have C := hC.ext E
    clear hC
    generalize w.heap.size = b1 at *
    obtain ⟨k0, k1⟩ := B1.c2; have lk := B1.lt
    go_upto_region 2 with (go_at_call 75; (with_reducible refine Calls.mono (NT _ C) ?_); rintro e v2 ⟨rfl, h⟩)
    replace E := Ext.trans E h
    replace C := C.ext h
    replace B1 := B1.ext h
    clear h
    clear k0 k1 lk
    obtain ⟨k0, k1⟩ := B1.c2; have lk := B1.lt
    go_wp2
    go_ret2
    exact ⟨_, by rw [HR.out.2]; rfl, E, by rw [HR.out.1]; exact intsAt_nil _⟩
  · have HR : Hid (c.namedV name king = c.namedTo name king c.ny ∧ c.chk = 0) := ⟨by unfold Cal.namedV; rw [if_pos hv], chk_yes hv⟩
    simp only [chk_yes hv] at NT
    have ok := valid_iff.1 hv
    have hny := ok.ny.2
    have hnk := ok.nk.2
    have hkk : ∀ j, j < c.ny → 0 ≤ (c.yr j).k ∧ (c.yr j).k < c.nk := fun j hj => ⟨ok.k0 hj, (ok.yk j hj).2⟩
    have hns : ∀ j, j < c.ny → (c.yr j).nm.size ≤ maxLen := fun j hj => by
      have := ok.yname j hj
      simp only [isName, Bool.and_eq_true, decide_eq_true_eq] at this
      have h2 := this.1.1.2
      unfold maxLen; omega
    have hmm := @run_makeMap Tryd.prog
    obtain ⟨i0, hi, hz0, hz1, hz2⟩ := info_parts info_int
    clear hv ok
    go_enter Tryd.func62, Tryd.ntmps62
    go_upto_region 1 with (fail)
    obtain ⟨v, hv⟩ : ∃ v, v = (w.alloc (.cells #[.slice A c.nk ca, .slice A' c.ny cb] 25)) := ⟨_, rfl⟩
    rw [← hv]
    have E : Ext w v := by rw [hv]; exact (Ext.refl _).alloc _
    have B1 : Held v w.heap.size 25 #[.slice A c.nk ca, .slice A' c.ny cb] := by rw [hv]; exact (Held.new _ _ _)
    clear hv
    have C := hC.ext E
    clear hC
    generalize w.heap.size = b1 at *
    obtain ⟨k0, k1⟩ := B1.c2; have lk := B1.lt
    go_upto_region 4 with (go_at_call 75; (with_reducible refine Calls.mono (NT _ C) ?_); rintro e v2 ⟨rfl, h⟩)
    replace E := Ext.trans E h
    replace C := C.ext h
    replace B1 := B1.ext h
    clear h
    clear k0 k1 lk
    obtain ⟨k0, k1⟩ := B1.c2; have lk := B1.lt
    have hcy := C.ny_cap
    go_upto_region 5 with (fail)
    obtain ⟨v3, hv⟩ : ∃ x, x = v2.alloc (.map #[] 0) := ⟨_, rfl⟩
    rw [← hv]
    have h : Ext v2 v3 := by rw [hv]; exact (Ext.refl _).alloc _
    have hG0 : v3.ownsGroups (H := Unit) Tryd.prog 9 (v2.heap.size + 1) 3 .i64 v2.heap.size 0 (.map []) := by rw [hv]; exact World.ownsGroups_made _ _ _ _ _
    have hz3 : v2.heap.size + 1 ≤ v3.heap.size := by rw [hv]; simp
    clear hv hmm
    have hbm : b1 < v2.heap.size := lk
    have hE3 : Ext v2 v3 := h
    have C2 := C
    have B12 := B1
    have E2 := E
    generalize hbmm : v2.heap.size = bm at *
    replace E := Ext.trans E h
    replace C := C.ext h
    replace B1 := B1.ext h
    clear h
    clear k0 k1 lk
    obtain ⟨k0, k1⟩ := B1.c2; have lk := B1.lt
    go_upto_region 6 with (fail)
    go_loopw [21] (fun iv wr => ∃ k : Nat, k ≤ c.ny ∧ iv = .int .i64 (k : Int) ∧ wr.ownsGroups Tryd.prog 9 (bm + 1) 3 .i64 bm k (namedD c king k) ∧ Ext v2 wr ∧ bm + 1 ≤ wr.heap.size) (fun iv _ => c.ny - (intOf iv).toNat)
    case atStart => exact ⟨0, Nat.zero_le _, rfl, hG0, hE3, hz3⟩
    case round =>
      clear hG0 hz3
      obtain ⟨k, hk, rfl, hG, hE, hz⟩ := hrel
      obtain ⟨wo, rfl⟩ : ∃ wo : World, wo = wr := ⟨_, rfl⟩
      by_cases hlt : k < c.ny
      · have Co := C2.ext hE
        obtain ⟨k0, k1⟩ := (B12.ext hE).c2
        have lk := (B12.ext hE).lt
        obtain ⟨hkk0, hkk1⟩ := hkk k hlt
        obtain ⟨kb, ko, hA, hkb, q9⟩ := Co.kingI hkk0 hkk1
        obtain ⟨yb, yo, hA', hyb, y0, y1, y2, y3⟩ := Co.year hlt
        cases hA
        cases hA'
        have hF : Hid (c.fitsKing king k = (king.toList.isEmpty || ((c.kg (c.yr k).k.toNat).toList == king.toList))) := by
          unfold Hid Cal.fitsKing
          rw [emptyB_eq, same_eq]; rfl
        generalize h1 : king.toList.isEmpty = e1 at *
        generalize h2 : ((c.kg (c.yr k).k.toNat).toList == king.toList) = e2 at *
        have hkey := WideMaps.keyOf_string_mk (P := Tryd.prog) Tryd.underlying9 (hns k hlt)
        by_cases hfit : (e1 || e2) = true
        · have hf := hF.out.trans hfit
          have hst := fun (w : World) (v : Value) (zs : List Int) hat ho => namedD_step (w := w) (v := v) (zs := zs) (base := bm + 1) (e := 3) (c := c) (king := king) (k := k) hf hat ho
          have HST := Lib.hid hst
          clear hst
          have hfe : e1 = true ∨ (e1 = false ∧ e2 = true) := by cases e1 <;> cases e2 <;> simp_all
          clear hf hfit hF
          generalize namedD c king k = DK at *
          rcases hfe with rfl | ⟨rfl, rfl⟩
          all_goals
            go_upto_region 9 with (fail)
            obtain ⟨wy, hwy⟩ : ∃ x, x = wo.alloc (.cells #[.int .i64 (c.yr k).k, .string (c.yr k).nm, .int .i64 (c.yr k).lg, .int .i64 (c.yr k).db] 99) := ⟨_, rfl⟩
            rw [← hwy]
            have hEy : Ext wo wy := by rw [hwy]; exact (Ext.refl _).alloc _
            have HB : Held wy wo.heap.size 99 #[.int .i64 (c.yr k).k, .string (c.yr k).nm, .int .i64 (c.yr k).lg, .int .i64 (c.yr k).db] := by rw [hwy]; exact Held.new _ _ _
            have hzy : wo.heap.size < wy.heap.size := HB.lt
            have hGy := groups_ext hG hEy
            clear hwy k0 k1 lk q9 y0 y1 y2 y3 hkb hyb Co
            generalize wo.heap.size = by_ at *
            have hEw := hE.trans hEy
            refine wp_region_stepsC 11 (fun x => Ext v2 x ∧ Held x by_ 99 #[.int .i64 (c.yr k).k, .string (c.yr k).nm, .int .i64 (c.yr k).lg, .int .i64 (c.yr k).db]) mixed rfl ?_
            intro vz hvz
            have hGz := groups_ext hGy hvz
            have hEz := hEw.trans hvz
            have HBz := HB.ext hvz
            have hsz := hvz.size
            clear hGy HB hvz
            refine any_stillsC (g := 4) [0, 1, 2, 3, 4, 5, 7] [_, _, _, _, _, _, _] ⟨rfl, rfl, rfl, rfl, rfl, rfl, rfl, trivial⟩ (by kernel_rfl) (by kernel_rfl) ⟨hEz, HBz⟩ ?_
            simp only [List.getElem_toArray, List.getElem_cons_succ, List.getElem_cons_zero]
            apply Exists.intro
            refine ⟨fun u hu => ?_, ?_⟩
            · obtain ⟨y0, y1, y2, y3⟩ := hu.2.c4
              repeat (first | go_big_quiet_skip | (go_big_quiet_want; go_big_quiet_op; go_big_quiet_on))
              refine wpQuiet_nil ?_
              rfl
            refine any_fork 6 8 rfl rfl (by kernel_rfl) ?_ ?_
            · simp only [List.getElem_toArray, List.getElem_cons_succ, List.getElem_cons_zero]
              go_wp2_with (at_lookup; refine wpList_lookup_groups _ rfl _ _ 136 rfl 9 63 3 .i64 law_str Tryd.underlying136 (zero_ints _) (bm + 1) bm k _ rfl hGz (by unfold maxLen; omega) _ _ rfl hkey ?_; intro v zs hat hoi hzl hback)
              refine onQ_in ⟨hEz, HBz⟩ ?_
              refine any_one 8 rfl (by kernel_rfl) ?_
              simp only [List.getElem_toArray, List.getElem_cons_succ, List.getElem_cons_zero]
              go_wp2
              refine onQ_in ⟨hEz.alloc _, HBz.alloc _⟩ ?_
              refine any_one 9 rfl (by kernel_rfl) ?_
              simp only [List.getElem_toArray, List.getElem_cons_succ, List.getElem_cons_zero]
              go_wp2_with (at_builtin; refine wpList_append_own_at _ rfl _ _ 63 rfl (bm + 1) 3 i0 (.int .i64 0) 1 8 Tryd.underlying63 hi hz0 hz1 hz2 rfl (by decide) _ _ _ rfl (hoi.1.alloc _) ⟨vz.heap.size, 0, none⟩ 1 1 [.int .i64 (k : Int)] rfl rfl (cell_one_new _ _ _) (ints_oneCell .i64 [(k : Int)]) (by unfold maxLen; omega) (by omega) (by simp; omega) ?_; intro v' w1 hown' hgrow hnil hloc)
              have hE1 : Ext v2 w1 := (hEz.alloc _).grown hgrow (fun q hq => by have := (hoi.1.lt q hq).1; omega)
              have HB1 : Held w1 by_ 99 #[.int .i64 (c.yr k).k, .string (c.yr k).nm, .int .i64 (c.yr k).lg, .int .i64 (c.yr k).db] := Held.kept (HBz.alloc _) hgrow (HBz.not_row (by decide) hoi.1)
              refine onQ_in ⟨hE1, HB1⟩ ?_
              refine any_one 10 rfl (by kernel_rfl) ?_
              simp only [List.getElem_toArray, List.getElem_cons_succ, List.getElem_cons_zero]
              go_wp2_with (at_mapUpdate; refine wpList_mapUpdate_back _ rfl _ _ _ 136 rfl hback rfl rfl rfl ((World.grownBy_alloc _ _ _).trans hgrow) (hoi.appended hown' (WalkArith.wf_i64 (by omega))) (by simp; omega) (hloc.imp id (fun h => ⟨_, h, by simp⟩)) ?_; intro w2 hown2 hgrow2)
              have hE2 : Ext v2 w2 := hE1.grown hgrow2 (fun q hq => by cases hq; omega)
              have HB2 := HB1.kept hgrow2 (fun e => by cases e; omega)
              refine onQ_in ⟨hE2, HB2⟩ ?_
              refine any_done (by kernel_rfl) ?_
              have hs2 := hgrow2.size
              have hs1 := hgrow.size
              try simp only [World.size_alloc] at hs1
              go_wp2
              exact ⟨⟨k + 1, by omega, by go_num, by rw [HST.out _ _ _ hat hoi, ← (hoi.appended hown' (WalkArith.wf_i64 (by omega))).datum_pos (by simp)]; exact hown2, hE2, by omega⟩, by simp [intOf]; omega⟩
            · simp only [List.getElem_toArray, List.getElem_cons_succ, List.getElem_cons_zero]
              go_wp2
              refine onQ_in ⟨hEz.alloc _, HBz.alloc _⟩ ?_
              refine any_one 6 rfl (by kernel_rfl) ?_
              simp only [List.getElem_toArray, List.getElem_cons_succ, List.getElem_cons_zero]
              go_wp2_with (at_lookup; refine wpList_lookup_groups _ rfl _ _ 136 rfl 9 63 3 .i64 law_str Tryd.underlying136 (zero_ints _) (bm + 1) bm k _ rfl (groups_ext hGz ((Ext.refl _).alloc _)) (by unfold maxLen; omega) _ _ rfl hkey ?_; intro v zs hat hoi hzl hback)
              refine onQ_in ⟨hEz.alloc _, HBz.alloc _⟩ ?_
              refine any_one 9 rfl (by kernel_rfl) ?_
              simp only [List.getElem_toArray, List.getElem_cons_succ, List.getElem_cons_zero]
              go_wp2_with (at_builtin; refine wpList_append_own_at _ rfl _ _ 63 rfl (bm + 1) 3 i0 (.int .i64 0) 1 8 Tryd.underlying63 hi hz0 hz1 hz2 rfl (by decide) _ _ _ rfl hoi.1 ⟨vz.heap.size, 0, none⟩ 1 1 [.int .i64 (k : Int)] rfl rfl (cell_one_new _ _ _) (ints_oneCell .i64 [(k : Int)]) (by unfold maxLen; omega) (by omega) (by simp; omega) ?_; intro v' w1 hown' hgrow hnil hloc)
              have hE1 : Ext v2 w1 := (hEz.alloc _).grown hgrow (fun q hq => by have := (hoi.1.lt q hq).1; omega)
              have HB1 := (HBz.alloc _).kept hgrow ((HBz.alloc _).not_row (by decide) hoi.1)
              refine onQ_in ⟨hE1, HB1⟩ ?_
              refine any_one 10 rfl (by kernel_rfl) ?_
              simp only [List.getElem_toArray, List.getElem_cons_succ, List.getElem_cons_zero]
              go_wp2_with (at_mapUpdate; refine wpList_mapUpdate_back _ rfl _ _ _ 136 rfl hback rfl rfl rfl (hgrow) (hoi.appended hown' (WalkArith.wf_i64 (by omega))) (by simp; omega) (hloc.imp id (fun h => ⟨_, h, Nat.le_refl _⟩)) ?_; intro w2 hown2 hgrow2)
              have hE2 : Ext v2 w2 := hE1.grown hgrow2 (fun q hq => by cases hq; omega)
              have HB2 := HB1.kept hgrow2 (fun e => by cases e; omega)
              refine onQ_in ⟨hE2, HB2⟩ ?_
              refine any_done (by kernel_rfl) ?_
              have hs2 := hgrow2.size
              have hs1 := hgrow.size
              try simp only [World.size_alloc] at hs1
              go_wp2
              exact ⟨⟨k + 1, by omega, by go_num, by rw [HST.out _ _ _ hat hoi, ← (hoi.appended hown' (WalkArith.wf_i64 (by omega))).datum_pos (by simp)]; exact hown2, hE2, by omega⟩, by simp [intOf]; omega⟩
        · have hfe : e1 = false ∧ e2 = false := by cases e1 <;> cases e2 <;> simp_all
          obtain ⟨rfl, rfl⟩ := hfe
          have hD : namedD c king (k + 1) = namedD c king k := by rw [namedD, hF.out]; rfl
          have HD := Lib.hid hD
          clear hD hF hfit
          go_wp2
          exact ⟨⟨k + 1, by omega, by go_num, by rw [HD.out]; exact groups_mono (groups_ext hG ((Ext.refl _).alloc _)) (Nat.le_succ k), hE.alloc _, by simp; omega⟩, by simp [intOf]; omega⟩
      · obtain rfl : k = c.ny := by omega
        have hkey := WideMaps.keyOf_string_mk (P := Tryd.prog) Tryd.underlying9 hnm
        have HF := Lib.hid (fun (v : Value) (zs : List Int) hat ho => named_found (w := wo) (v := v) (zs := zs) (base := bm + 1) (e := 3) (c := c) (king := king) (s := name) (k := c.ny) hat ho)
        generalize namedD c king c.ny = DK at *
        go_wp2_with (at_lookup; refine wpList_lookup_groups _ rfl _ _ 136 rfl 9 63 3 .i64 law_str Tryd.underlying136 (zero_ints _) (bm + 1) bm c.ny _ rfl hG (by unfold maxLen; omega) _ _ rfl hkey ?_; intro v zs hat hoi hzl _)
        go_ret2
        refine ⟨v, by rw [HR.out.2]; rfl, E2.trans hE, ?_⟩
        rw [HR.out.1, ← HF.out v zs hat hoi]
        exact intsAt_own hoi
set_option maxRecDepth 100000 in
set_option maxHeartbeats 4000000 in
theorem named_any_r (A A' : Option Addr) (ca cb : Nat) (c : Cal) (name king : ByteArray) (w : World) (hC : CalAt w A ca A' cb c) :
    Calls Tryd.prog 63 #[.agg #[.slice A c.nk ca, .slice A' c.ny cb], .string name, .string king] w fun e w' => ∃ v, e = .returned (.tuple #[v, .int .i64 c.chk]) ∧ Ext w w' ∧ IntsAt w' v ((c.namedV name king).map fun (i : Nat) => (i : Int)) := by
  have NT := fun v (h : CalAt v A ca A' cb c) => validR_any A A' ca cb c v h
  cases hv : c.valid
  · have HR : Hid (c.namedV name king = [] ∧ c.chk = 70) := ⟨by unfold Cal.namedV; rw [hv]; rfl, chk_no hv⟩
    simp only [hv] at NT
    clear hv
    go_enter Tryd.func63, Tryd.ntmps63
    go_upto_region 1 with (fail)
    obtain ⟨v, hv⟩ : ∃ v, v = (w.alloc (.cells #[.slice A c.nk ca, .slice A' c.ny cb] 25)) := ⟨_, rfl⟩
    rw [← hv]
    have E : Ext w v := by rw [hv]; exact (Ext.refl _).alloc _
    have B1 : Held v w.heap.size 25 #[.slice A c.nk ca, .slice A' c.ny cb] := by rw [hv]; exact (Held.new _ _ _)
    clear hv
    have C := hC.ext E
    clear hC
    generalize w.heap.size = b1 at *
    obtain ⟨k0, k1⟩ := B1.c2; have lk := B1.lt
    go_upto_region 2 with (go_at_call 78; (with_reducible refine Calls.mono (NT _ C) ?_); rintro e v2 ⟨rfl, h⟩)
    replace E := Ext.trans E h
    replace C := C.ext h
    replace B1 := B1.ext h
    clear h
    clear k0 k1 lk
    obtain ⟨k0, k1⟩ := B1.c2; have lk := B1.lt
    go_wp2
    go_ret2
    exact ⟨_, by rw [HR.out.2]; rfl, E, by rw [HR.out.1]; exact intsAt_nil _⟩
  · have HR : Hid (c.namedV name king = c.namedTo name king c.ny ∧ c.chk = 0) := ⟨by unfold Cal.namedV; rw [if_pos hv], chk_yes hv⟩
    simp only [hv] at NT
    have ok := valid_iff.1 hv
    have hny := ok.ny.2
    have hnk := ok.nk.2
    have hkk : ∀ j, j < c.ny → 0 ≤ (c.yr j).k ∧ (c.yr j).k < c.nk := fun j hj => ⟨ok.k0 hj, (ok.yk j hj).2⟩
    obtain ⟨i0, hi, hz0, hz1, hz2⟩ := info_parts info_int
    clear hv ok
    go_enter Tryd.func63, Tryd.ntmps63
    go_upto_region 1 with (fail)
    obtain ⟨v, hv⟩ : ∃ v, v = (w.alloc (.cells #[.slice A c.nk ca, .slice A' c.ny cb] 25)) := ⟨_, rfl⟩
    rw [← hv]
    have E : Ext w v := by rw [hv]; exact (Ext.refl _).alloc _
    have B1 : Held v w.heap.size 25 #[.slice A c.nk ca, .slice A' c.ny cb] := by rw [hv]; exact (Held.new _ _ _)
    clear hv
    have C := hC.ext E
    clear hC
    generalize w.heap.size = b1 at *
    obtain ⟨k0, k1⟩ := B1.c2; have lk := B1.lt
    go_upto_region 3 with (go_at_call 78; (with_reducible refine Calls.mono (NT _ C) ?_); rintro e v2 ⟨rfl, h⟩)
    replace E := Ext.trans E h
    replace C := C.ext h
    replace B1 := B1.ext h
    clear h
    clear k0 k1 lk
    obtain ⟨k0, k1⟩ := B1.c2; have lk := B1.lt
    go_upto_region 5 with (fail)
    clear k0 k1 lk
    go_loopw [8, 9] (fun ov iv wr => ∃ k : Nat, k ≤ c.ny ∧ iv = .int .i64 (k : Int) ∧ Ext v2 wr ∧ wr.ownsInts v2.heap.size 3 .i64 ov ((c.namedTo name king k).map fun (i : Nat) => (i : Int))) (fun _ iv _ => c.ny - (intOf iv).toNat)
    case atStart => exact ⟨0, Nat.zero_le _, rfl, Ext.refl _, World.ownsInts_nil _ _ _ _⟩
    case round =>
      obtain ⟨k, hk, rfl, hE, hO⟩ := hrel
      obtain ⟨wo, rfl⟩ : ∃ wo : World, wo = wr := ⟨_, rfl⟩
      obtain ⟨k0, k1⟩ := (B1.ext hE).c2
      have lk := (B1.ext hE).lt
      by_cases hlt : k < c.ny
      · have Co := C.ext hE
        obtain ⟨hkk0, hkk1⟩ := hkk k hlt
        obtain ⟨kb, ko, hA, hkb, q9⟩ := Co.kingI hkk0 hkk1
        obtain ⟨yb, yo, hA', hyb, y0, y1, y2, y3⟩ := Co.year hlt
        cases hA
        cases hA'
        have hF : Hid (c.isNamed name king k = (((c.yr k).nm.toList == name.toList) && (king.toList.isEmpty || ((c.kg (c.yr k).k.toNat).toList == king.toList)))) := by
          unfold Hid Cal.isNamed
          rw [emptyB_eq, same_eq, same_eq]; rfl
        have hS := Lib.hid (namedTo_succ c name king k)
        have hlen : ((c.namedTo name king k).map fun (i : Nat) => (i : Int)).length ≤ k := by rw [List.length_map]; exact namedTo_length c name king k
        clear Co
        generalize h1 : king.toList.isEmpty = e1 at *
        generalize h2 : ((c.kg (c.yr k).k.toNat).toList == king.toList) = e2 at *
        generalize h3 : ((c.yr k).nm.toList == name.toList) = e3 at *
        generalize hl : ((c.namedTo name king k).map fun (i : Nat) => (i : Int)) = zs at *
        by_cases hfit : (e3 && (e1 || e2)) = true
        · have hnx : Hid (((c.namedTo name king (k + 1)).map fun (i : Nat) => (i : Int)) = zs ++ [(k : Int)]) := by
            unfold Hid
            rw [hS.out, if_pos (hF.out.trans hfit), List.map_append, hl]; rfl
          have hfe : (e3 = true ∧ e1 = true) ∨ (e3 = true ∧ e1 = false ∧ e2 = true) := by cases e1 <;> cases e2 <;> cases e3 <;> simp_all
          clear hfit hF hS hl
          rcases hfe with ⟨rfl, rfl⟩ | ⟨rfl, rfl, rfl⟩
          all_goals
            go_upto_region 7 with (fail)
            refine wp_region_xw wo mixed (by kernel_rfl) (by repeat (first | exact Ext.refl _ | (refine Ext.alloc ?_ _) | (refine Ext.trans ?_ (by assumption)))) ?_
            intro hne hrx hry
            try simp only []
            try simp only [List.append_eq, List.cons_append, List.nil_append]
            skip
            repeat (first
              | go_big_quiet_skip
              | (go_big_quiet_want; go_big_quiet_op; go_big_quiet_on))
            clear hne hry hrx
            refine wpQuiet_nil ?_
            intro wn hwn
            obtain ⟨hcwn, hfwn, hzwn⟩ := Ext.rules hwn
            try simp only [World.size_alloc] at hzwn
            obtain ⟨hcbwn, hfbwn, hzbwn⟩ := Ext.rules (show Ext wo wn from (by repeat (first | exact Ext.refl _ | (refine Ext.alloc ?_ _) | (refine Ext.trans ?_ (by assumption)))))
            clear hcwn hfwn
            have hOn : wn.ownsInts v2.heap.size 3 .i64 u8 zs := ⟨ownsRow_ext hO.1 hwn, hO.2⟩
            have hs := (hE.trans hwn).size
            go_wp2_with (at_builtin; refine wpList_append_own _ rfl _ _ 63 rfl v2.heap.size 3 i0 (.int .i64 0) 1 8 Tryd.underlying63 hi hz0 hz1 hz2 rfl (by decide) _ _ _ rfl (hOn.1.alloc _) ⟨wn.heap.size, 0, none⟩ 1 1 [.int .i64 (k : Int)] rfl rfl (cell_one_new _ _ _) (ints_oneCell .i64 [(k : Int)]) (by unfold maxLen; omega) (by omega) (by simp; omega) ?_; intro v' w1 hown' hgrow hnil)
            have hE1 : Ext v2 w1 := ((hE.trans hwn).alloc _).grown hgrow (fun q hq => (hOn.1.lt q hq).1)
            exact ⟨⟨k + 1, by omega, by go_num, hE1, by rw [hnx.out]; exact hOn.appended hown' (WalkArith.wf_i64 (by omega))⟩, by simp [intOf]; omega⟩
        · have hnx : Hid (((c.namedTo name king (k + 1)).map fun (i : Nat) => (i : Int)) = zs) := by
            unfold Hid
            rw [hS.out, if_neg (fun h => hfit (hF.out.symm.trans h)), hl]
          have hfe : e3 = false ∨ (e3 = true ∧ e1 = false ∧ e2 = false) := by cases e1 <;> cases e2 <;> cases e3 <;> simp_all
          clear hfit hF hS hl
          rcases hfe with rfl | ⟨rfl, rfl, rfl⟩
          all_goals
            go_upto_region 7 with (fail)
            refine wp_region_xw wo mixed (by kernel_rfl) (by repeat (first | exact Ext.refl _ | (refine Ext.alloc ?_ _) | (refine Ext.trans ?_ (by assumption)))) ?_
            intro hne hrx hry
            try simp only []
            try simp only [List.append_eq, List.cons_append, List.nil_append]
            skip
            repeat (first
              | go_big_quiet_skip
              | (go_big_quiet_want; go_big_quiet_op; go_big_quiet_on))
            clear hne hry hrx
            refine wpQuiet_nil ?_
            intro wn hwn
            obtain ⟨hcwn, hfwn, hzwn⟩ := Ext.rules hwn
            try simp only [World.size_alloc] at hzwn
            obtain ⟨hcbwn, hfbwn, hzbwn⟩ := Ext.rules (show Ext wo wn from (by repeat (first | exact Ext.refl _ | (refine Ext.alloc ?_ _) | (refine Ext.trans ?_ (by assumption)))))
            clear hcwn hfwn
            go_wp2
            exact ⟨⟨k + 1, by omega, by go_num, hE.trans hwn, by rw [hnx.out]; exact ⟨ownsRow_ext hO.1 hwn, hO.2⟩⟩, by simp [intOf]; omega⟩
      · obtain rfl : k = c.ny := by omega
        go_wp2
        go_ret2
        exact ⟨_, by rw [HR.out.2]; rfl, E.trans hE, by rw [HR.out.1]; exact intsAt_own hO⟩
end Go.Proofs.YtfchchmmjabjnaaDoor
