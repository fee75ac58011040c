/- Whole, of the program and of the reference. -/
import Derived.Test.YtfchchmmjabjnaaDoorY1
import Derived.Test.YtfchchmmjabjnaaDoorWz
import Derived.Test.YtfchchmmjabjnaaDoorPlA
namespace Go.Proofs.YtfchchmmjabjnaaDoor
open Go Go.RowKit
attribute [local go_sem] gv_yes

theorem inE_yes {c : Cal} {d : Dt} (h : c.inE d = 0) : c.valid = true ∧ c.has d = true := by
  rcases inE_cases c d with ⟨_, hE⟩ | ⟨_, _, hE⟩ | ⟨hv, hh, _⟩
  · rw [hE] at h; cases h
  · rw [hE] at h; cases h
  · exact ⟨hv, hh⟩
set_option maxRecDepth 100000 in
set_option maxHeartbeats 4000000 in
theorem whole_any (A A' : Option Addr) (ca cb : Nat) (c : Cal) (d : Dt) (w : World) (hC : CalAt w A ca A' cb c) :
    Calls Tryd.prog 56 #[.agg #[.slice A c.nk ca, .slice A' c.ny cb], .agg #[.int .i64 d.y, .int .i64 d.m, .bool d.s, .int .i64 d.d]] w fun e w' => e = .returned (.tuple #[(c.wholeV d).val, .int .i64 (c.inE d)]) ∧ Ext w w' := by
  have NT := fun v {Bx : Option Addr} (h : CalAt v A ca A' cb c) (h' : RowsAt v Bx 1 4 (fun _ => dcells d)) => checks_any A A' ca cb c Bx 1 1 (fun _ => d) v h h' (by omega)
  simp only [checks_one] at NT
  by_cases hE : c.inE d = 0
  · obtain ⟨hv, hh⟩ := inE_yes hE
    have HR : Hid (c.wholeV d = c.wholeT d ∧ c.inE d = 0) := ⟨by unfold Cal.wholeV; rw [if_pos hE], hE⟩
    obtain ⟨⟨hy0, hy1⟩, _⟩ := has_iff.1 hh
    have ok := valid_iff.1 hv
    have hkk0 : 0 ≤ (c.yrI d.y).k := ok.k0 (i := d.y.toNat) (by omega)
    have hkk1 : (c.yrI d.y).k < c.nk := (ok.yk d.y.toNat (by omega)).2
    have hny := ok.ny.2
    have hnk := ok.nk.2
    simp only [hE] at NT
    clear hv hh hE ok
    go_enter Tryd.func56, Tryd.ntmps56
    go_upto_region 1 with (fail)
    obtain ⟨v, hv⟩ : ∃ v, v = (((w.alloc (.cells #[.slice A c.nk ca, .slice A' c.ny cb] 25)).alloc (.cells #[.int .i64 d.y, .int .i64 d.m, .bool d.s, .int .i64 d.d] 39)).alloc (.cells #[.int .i64 0, .bool false, .int .i64 0, .bool false, .string ⟨#[]⟩, .int .i64 0, .string ⟨#[]⟩] 33)) := ⟨_, rfl⟩
    rw [← hv]
    have E : Ext w v := by rw [hv]; exact (((Ext.refl _).alloc _).alloc _).alloc _
    have B1 : Held v w.heap.size 25 #[.slice A c.nk ca, .slice A' c.ny cb] := by rw [hv]; exact ((Held.new _ _ _).alloc _).alloc _
    have B2 : Held v (w.heap.size + 1) 39 #[.int .i64 d.y, .int .i64 d.m, .bool d.s, .int .i64 d.d] := by rw [hv]; exact (Held.at _ _ _ _ (by simp)).alloc _
    have B3 : Held v (w.heap.size + 1 + 1) 33 #[.int .i64 0, .bool false, .int .i64 0, .bool false, .string ⟨#[]⟩, .int .i64 0, .string ⟨#[]⟩] := by rw [hv]; exact Held.at _ _ _ _ (by simp)
    clear hv
    have C := hC.ext E
    clear hC
    generalize hb1 : w.heap.size = b1 at *
    replace hb1 := Lib.hid hb1
    obtain ⟨k0, k1⟩ := B1.c2; have lk := B1.lt
    obtain ⟨p0, p1, p2, p3⟩ := B2.c4; have lp := B2.lt
    obtain ⟨q0, q1, q2, q3, q4, q5, q6⟩ := B3.c7; have lq := B3.lt
    go_upto_region 2 with (go_at_call 75; (with_reducible refine Calls.mono (NT _ (C.ext ((Ext.refl _).alloc _)) (rows_one (t := 39) (Held.new _ _ _))) ?_); rintro e v2 ⟨rfl, hq⟩)
    have h : Ext v v2 := Ext.trans ((Ext.refl _).alloc _) hq
    clear hq
    replace E := Ext.trans E h
    replace C := C.ext h
    replace B1 := B1.ext h
    replace B2 := B2.ext h
    replace B3 := B3.ext h
    clear h
    clear k0 k1 lk
    clear p0 p1 p2 p3 lp
    clear q0 q1 q2 q3 q4 q5 q6 lq
    obtain ⟨k0, k1⟩ := B1.c2; have lk := B1.lt
    obtain ⟨p0, p1, p2, p3⟩ := B2.c4; have lp := B2.lt
    obtain ⟨q0, q1, q2, q3, q4, q5, q6⟩ := B3.c7; have lq := B3.lt
    obtain ⟨yb, yo, hA', hyb, y0, y1, y2, y3⟩ := C.yearI hy0 hy1
    subst hA'
    go_upto_region 5 with (fail)
    obtain ⟨v3, hv⟩ : ∃ v, v = v2.alloc (.cells #[.int .i64 (c.yrI d.y).k, .string (c.yrI d.y).nm, .int .i64 (c.yrI d.y).lg, .int .i64 (c.yrI d.y).db] 99) := ⟨_, rfl⟩
    rw [← hv]
    have h : Ext v2 v3 := by rw [hv]; exact (Ext.refl _).alloc _
    have B4 : Held v3 v2.heap.size 99 #[.int .i64 (c.yrI d.y).k, .string (c.yrI d.y).nm, .int .i64 (c.yrI d.y).lg, .int .i64 (c.yrI d.y).db] := by rw [hv]; exact Held.new _ _ _
    clear hv
    generalize v2.heap.size = b4 at *
    replace E := Ext.trans E h
    replace C := C.ext h
    replace B1 := B1.ext h
    replace B2 := B2.ext h
    replace B3 := B3.ext h
    clear h
    clear k0 k1 lk
    clear p0 p1 p2 p3 lp
    clear q0 q1 q2 q3 q4 q5 q6 lq
    obtain ⟨k0, k1⟩ := B1.c2; have lk := B1.lt
    obtain ⟨p0, p1, p2, p3⟩ := B2.c4; have lp := B2.lt
    obtain ⟨q0, q1, q2, q3, q4, q5, q6⟩ := B3.c7; have lq := B3.lt
    obtain ⟨r0, r1, r2, r3⟩ := B4.c4; have lr := B4.lt
    obtain ⟨kb, ko, hA, hkb, q9⟩ := C.kingI hkk0 hkk1
    subst hA
    clear y0 y1 y2 y3
    obtain ⟨f0, f1, f2, f3, f4, f5, f6⟩ := frozen7 B3
    refine wp_region_xs 15 v3 mixed (by kernel_rfl) (by repeat (first | exact Ext.refl _ | (refine Ext.alloc ?_ _) | (refine Ext.trans ?_ (by assumption)))) ?_
    intro hne hrx hry
    try simp only []
    try simp only [List.append_eq, List.cons_append, List.nil_append]
    simp only [List.take_succ_cons, List.take_zero, List.drop_succ_cons, List.drop_zero]
    skip
    repeat (first
      | go_big_quiet_skip
      | (go_big_quiet_want; go_big_quiet_op; go_big_quiet_on))
    clear hne hry hrx
    refine wpQuiet_nil ?_
    intro v4 h
    obtain ⟨hcv4, hfv4, hzv4⟩ := Ext.rules h
    try simp only [World.size_alloc] at hzv4
    obtain ⟨hcbv4, hfbv4, hzbv4⟩ := Ext.rules (show Ext v3 v4 from (by repeat (first | exact Ext.refl _ | (refine Ext.alloc ?_ _) | (refine Ext.trans ?_ (by assumption)))))
    clear hcv4 hfv4
    have hrb := B3.ext h
    have lq4 := hrb.lt
    go_wp2
    obtain ⟨hs, gE⟩ := seven_set hrb (.int .i64 d.d) (.bool false) (.int .i64 d.m) (.bool d.s) (.string (c.yrI d.y).nm) (.int .i64 0) (.string (c.kg (c.yrI d.y).k.toNat))
    obtain ⟨g0, g1, g2, g3, g4, g5, g6⟩ := hs.c7
    refine bodyPost_ret (v := .tuple #[.agg #[.int .i64 d.d, .bool false, .int .i64 d.m, .bool d.s, .string (c.yrI d.y).nm, .int .i64 0, .string (c.kg (c.yrI d.y).k.toNat)], .int .i64 0]) (by simp [results, Tryd.results56, go_sem, g0, g1, g2, g3, g4, g5, g6]) rfl ⟨by rw [HR.out.1, HR.out.2]; rfl, gE w (E.trans h) (by have := hb1.out; omega)⟩
  · have hne : (c.inE d == 0) = false := beq_eq_false_iff_ne.2 hE
    have HR : Hid (c.wholeV d = zTrace) := by unfold Hid Cal.wholeV; rw [if_neg hE]
    clear hE
    generalize c.inE d = ee at *
    go_enter Tryd.func56, Tryd.ntmps56
    go_upto_region 1 with (fail)
    obtain ⟨v, hv⟩ : ∃ v, v = (((w.alloc (.cells #[.slice A c.nk ca, .slice A' c.ny cb] 25)).alloc (.cells #[.int .i64 d.y, .int .i64 d.m, .bool d.s, .int .i64 d.d] 39)).alloc (.cells #[.int .i64 0, .bool false, .int .i64 0, .bool false, .string ⟨#[]⟩, .int .i64 0, .string ⟨#[]⟩] 33)) := ⟨_, rfl⟩
    rw [← hv]
    have E : Ext w v := by rw [hv]; exact (((Ext.refl _).alloc _).alloc _).alloc _
    have B1 : Held v w.heap.size 25 #[.slice A c.nk ca, .slice A' c.ny cb] := by rw [hv]; exact ((Held.new _ _ _).alloc _).alloc _
    have B2 : Held v (w.heap.size + 1) 39 #[.int .i64 d.y, .int .i64 d.m, .bool d.s, .int .i64 d.d] := by rw [hv]; exact (Held.at _ _ _ _ (by simp)).alloc _
    have B3 : Held v (w.heap.size + 1 + 1) 33 #[.int .i64 0, .bool false, .int .i64 0, .bool false, .string ⟨#[]⟩, .int .i64 0, .string ⟨#[]⟩] := by rw [hv]; exact Held.at _ _ _ _ (by simp)
    clear hv
    have C := hC.ext E
    clear hC
    generalize hb1 : w.heap.size = b1 at *
    replace hb1 := Lib.hid hb1
    obtain ⟨k0, k1⟩ := B1.c2; have lk := B1.lt
    obtain ⟨p0, p1, p2, p3⟩ := B2.c4; have lp := B2.lt
    obtain ⟨q0, q1, q2, q3, q4, q5, q6⟩ := B3.c7; have lq := B3.lt
    go_upto_region 2 with (go_at_call 75; (with_reducible refine Calls.mono (NT _ (C.ext ((Ext.refl _).alloc _)) (rows_one (t := 39) (Held.new _ _ _))) ?_); rintro e v2 ⟨rfl, hq⟩)
    have h : Ext v v2 := Ext.trans ((Ext.refl _).alloc _) hq
    clear hq
    replace E := Ext.trans E h
    replace C := C.ext h
    replace B1 := B1.ext h
    replace B2 := B2.ext h
    replace B3 := B3.ext h
    clear h
    clear k0 k1 lk
    clear p0 p1 p2 p3 lp
    clear q0 q1 q2 q3 q4 q5 q6 lq
    obtain ⟨k0, k1⟩ := B1.c2; have lk := B1.lt
    obtain ⟨p0, p1, p2, p3⟩ := B2.c4; have lp := B2.lt
    obtain ⟨q0, q1, q2, q3, q4, q5, q6⟩ := B3.c7; have lq := B3.lt
    obtain ⟨f0, f1, f2, f3, f4, f5, f6⟩ := frozen7 B3
    go_wp2
    obtain ⟨hs, gE⟩ := seven_set B3 (.int .i64 0) (.bool false) (.int .i64 0) (.bool false) (.string ⟨#[]⟩) (.int .i64 0) (.string ⟨#[]⟩)
    obtain ⟨g0, g1, g2, g3, g4, g5, g6⟩ := hs.c7
    refine bodyPost_ret (v := .tuple #[.agg #[.int .i64 0, .bool false, .int .i64 0, .bool false, .string ⟨#[]⟩, .int .i64 0, .string ⟨#[]⟩], .int .i64 ee]) (by simp [results, Tryd.results56, go_sem, g0, g1, g2, g3, g4, g5, g6]) rfl ⟨by rw [HR.out]; rfl, gE w E (by have := hb1.out; omega)⟩
set_option maxRecDepth 100000 in
set_option maxHeartbeats 4000000 in
theorem whole_any_r (A A' : Option Addr) (ca cb : Nat) (c : Cal) (d : Dt) (w : World) (hC : CalAt w A ca A' cb c) :
    Calls Tryd.prog 57 #[.agg #[.slice A c.nk ca, .slice A' c.ny cb], .agg #[.int .i64 d.y, .int .i64 d.m, .bool d.s, .int .i64 d.d]] w fun e w' => e = .returned (.tuple #[(c.wholeV d).val, .int .i64 (c.inE d)]) ∧ Ext w w' := by
  have NT := fun v (h : CalAt v A ca A' cb c) => two_any_r A A' ca cb c d d v h
  simp only [in2E_same] at NT
  by_cases hE : c.inE d = 0
  · obtain ⟨hv, hh⟩ := inE_yes hE
    have HR : Hid (c.wholeV d = c.wholeT d ∧ c.inE d = 0) := ⟨by unfold Cal.wholeV; rw [if_pos hE], hE⟩
    obtain ⟨⟨hy0, hy1⟩, _⟩ := has_iff.1 hh
    have ok := valid_iff.1 hv
    have hkk0 : 0 ≤ (c.yrI d.y).k := ok.k0 (i := d.y.toNat) (by omega)
    have hkk1 : (c.yrI d.y).k < c.nk := (ok.yk d.y.toNat (by omega)).2
    have hny := ok.ny.2
    have hnk := ok.nk.2
    simp only [hE] at NT
    clear hv hh hE ok
    go_enter Tryd.func57, Tryd.ntmps57
    go_upto_region 1 with (fail)
    obtain ⟨v, hv⟩ : ∃ v, v = (((w.alloc (.cells #[.slice A c.nk ca, .slice A' c.ny cb] 25)).alloc (.cells #[.int .i64 d.y, .int .i64 d.m, .bool d.s, .int .i64 d.d] 39)).alloc (.cells #[.int .i64 0, .bool false, .int .i64 0, .bool false, .string ⟨#[]⟩, .int .i64 0, .string ⟨#[]⟩] 33)) := ⟨_, rfl⟩
    rw [← hv]
    have E : Ext w v := by rw [hv]; exact (((Ext.refl _).alloc _).alloc _).alloc _
    have B1 : Held v w.heap.size 25 #[.slice A c.nk ca, .slice A' c.ny cb] := by rw [hv]; exact ((Held.new _ _ _).alloc _).alloc _
    have B2 : Held v (w.heap.size + 1) 39 #[.int .i64 d.y, .int .i64 d.m, .bool d.s, .int .i64 d.d] := by rw [hv]; exact (Held.at _ _ _ _ (by simp)).alloc _
    have B3 : Held v (w.heap.size + 1 + 1) 33 #[.int .i64 0, .bool false, .int .i64 0, .bool false, .string ⟨#[]⟩, .int .i64 0, .string ⟨#[]⟩] := by rw [hv]; exact Held.at _ _ _ _ (by simp)
    clear hv
    have C := hC.ext E
    clear hC
    generalize hb1 : w.heap.size = b1 at *
    replace hb1 := Lib.hid hb1
    obtain ⟨k0, k1⟩ := B1.c2; have lk := B1.lt
    obtain ⟨p0, p1, p2, p3⟩ := B2.c4; have lp := B2.lt
    obtain ⟨q0, q1, q2, q3, q4, q5, q6⟩ := B3.c7; have lq := B3.lt
    go_upto_region 2 with (go_at_call 87; (with_reducible refine Calls.mono (NT _ C) ?_); rintro e v2 ⟨rfl, h⟩)
    replace E := Ext.trans E h
    replace C := C.ext h
    replace B1 := B1.ext h
    replace B2 := B2.ext h
    replace B3 := B3.ext h
    clear h
    clear k0 k1 lk
    clear p0 p1 p2 p3 lp
    clear q0 q1 q2 q3 q4 q5 q6 lq
    obtain ⟨k0, k1⟩ := B1.c2; have lk := B1.lt
    obtain ⟨p0, p1, p2, p3⟩ := B2.c4; have lp := B2.lt
    obtain ⟨q0, q1, q2, q3, q4, q5, q6⟩ := B3.c7; have lq := B3.lt
    obtain ⟨yb, yo, hA', hyb, y0, y1, y2, y3⟩ := C.yearI hy0 hy1
    subst hA'
    go_upto_region 5 with (fail)
    obtain ⟨v3, hv⟩ : ∃ v, v = v2.alloc (.cells #[.int .i64 (c.yrI d.y).k, .string (c.yrI d.y).nm, .int .i64 (c.yrI d.y).lg, .int .i64 (c.yrI d.y).db] 99) := ⟨_, rfl⟩
    rw [← hv]
    have h : Ext v2 v3 := by rw [hv]; exact (Ext.refl _).alloc _
    have B4 : Held v3 v2.heap.size 99 #[.int .i64 (c.yrI d.y).k, .string (c.yrI d.y).nm, .int .i64 (c.yrI d.y).lg, .int .i64 (c.yrI d.y).db] := by rw [hv]; exact Held.new _ _ _
    clear hv
    generalize v2.heap.size = b4 at *
    replace E := Ext.trans E h
    replace C := C.ext h
    replace B1 := B1.ext h
    replace B2 := B2.ext h
    replace B3 := B3.ext h
    clear h
    clear k0 k1 lk
    clear p0 p1 p2 p3 lp
    clear q0 q1 q2 q3 q4 q5 q6 lq
    obtain ⟨k0, k1⟩ := B1.c2; have lk := B1.lt
    obtain ⟨p0, p1, p2, p3⟩ := B2.c4; have lp := B2.lt
    obtain ⟨q0, q1, q2, q3, q4, q5, q6⟩ := B3.c7; have lq := B3.lt
    obtain ⟨r0, r1, r2, r3⟩ := B4.c4; have lr := B4.lt
    obtain ⟨kb, ko, hA, hkb, q9⟩ := C.kingI hkk0 hkk1
    subst hA
    clear y0 y1 y2 y3
    obtain ⟨f0, f1, f2, f3, f4, f5, f6⟩ := frozen7 B3
    refine wp_region_xs 15 v3 mixed (by kernel_rfl) (by repeat (first | exact Ext.refl _ | (refine Ext.alloc ?_ _) | (refine Ext.trans ?_ (by assumption)))) ?_
    intro hne hrx hry
    try simp only []
    try simp only [List.append_eq, List.cons_append, List.nil_append]
    simp only [List.take_succ_cons, List.take_zero, List.drop_succ_cons, List.drop_zero]
    skip
    repeat (first
      | go_big_quiet_skip
      | (go_big_quiet_want; go_big_quiet_op; go_big_quiet_on))
    clear hne hry hrx
    refine wpQuiet_nil ?_
    intro v4 h
    obtain ⟨hcv4, hfv4, hzv4⟩ := Ext.rules h
    try simp only [World.size_alloc] at hzv4
    obtain ⟨hcbv4, hfbv4, hzbv4⟩ := Ext.rules (show Ext v3 v4 from (by repeat (first | exact Ext.refl _ | (refine Ext.alloc ?_ _) | (refine Ext.trans ?_ (by assumption)))))
    clear hcv4 hfv4
    have hrb := B3.ext h
    have lq4 := hrb.lt
    go_wp2
    obtain ⟨hs, gE⟩ := seven_set hrb (.int .i64 d.d) (.bool false) (.int .i64 d.m) (.bool d.s) (.string (c.yrI d.y).nm) (.int .i64 0) (.string (c.kg (c.yrI d.y).k.toNat))
    obtain ⟨g0, g1, g2, g3, g4, g5, g6⟩ := hs.c7
    refine bodyPost_ret (v := .tuple #[.agg #[.int .i64 d.d, .bool false, .int .i64 d.m, .bool d.s, .string (c.yrI d.y).nm, .int .i64 0, .string (c.kg (c.yrI d.y).k.toNat)], .int .i64 0]) (by simp [results, Tryd.results57, go_sem, g0, g1, g2, g3, g4, g5, g6]) rfl ⟨by rw [HR.out.1, HR.out.2]; rfl, gE w (E.trans h) (by have := hb1.out; omega)⟩
  · have hne : (c.inE d == 0) = false := beq_eq_false_iff_ne.2 hE
    have HR : Hid (c.wholeV d = zTrace) := by unfold Hid Cal.wholeV; rw [if_neg hE]
    clear hE
    generalize c.inE d = ee at *
    go_enter Tryd.func57, Tryd.ntmps57
    go_upto_region 1 with (fail)
    obtain ⟨v, hv⟩ : ∃ v, v = (((w.alloc (.cells #[.slice A c.nk ca, .slice A' c.ny cb] 25)).alloc (.cells #[.int .i64 d.y, .int .i64 d.m, .bool d.s, .int .i64 d.d] 39)).alloc (.cells #[.int .i64 0, .bool false, .int .i64 0, .bool false, .string ⟨#[]⟩, .int .i64 0, .string ⟨#[]⟩] 33)) := ⟨_, rfl⟩
    rw [← hv]
    have E : Ext w v := by rw [hv]; exact (((Ext.refl _).alloc _).alloc _).alloc _
    have B1 : Held v w.heap.size 25 #[.slice A c.nk ca, .slice A' c.ny cb] := by rw [hv]; exact ((Held.new _ _ _).alloc _).alloc _
    have B2 : Held v (w.heap.size + 1) 39 #[.int .i64 d.y, .int .i64 d.m, .bool d.s, .int .i64 d.d] := by rw [hv]; exact (Held.at _ _ _ _ (by simp)).alloc _
    have B3 : Held v (w.heap.size + 1 + 1) 33 #[.int .i64 0, .bool false, .int .i64 0, .bool false, .string ⟨#[]⟩, .int .i64 0, .string ⟨#[]⟩] := by rw [hv]; exact Held.at _ _ _ _ (by simp)
    clear hv
    have C := hC.ext E
    clear hC
    generalize hb1 : w.heap.size = b1 at *
    replace hb1 := Lib.hid hb1
    obtain ⟨k0, k1⟩ := B1.c2; have lk := B1.lt
    obtain ⟨p0, p1, p2, p3⟩ := B2.c4; have lp := B2.lt
    obtain ⟨q0, q1, q2, q3, q4, q5, q6⟩ := B3.c7; have lq := B3.lt
    go_upto_region 2 with (go_at_call 87; (with_reducible refine Calls.mono (NT _ C) ?_); rintro e v2 ⟨rfl, h⟩)
    replace E := Ext.trans E h
    replace C := C.ext h
    replace B1 := B1.ext h
    replace B2 := B2.ext h
    replace B3 := B3.ext h
    clear h
    clear k0 k1 lk
    clear p0 p1 p2 p3 lp
    clear q0 q1 q2 q3 q4 q5 q6 lq
    obtain ⟨k0, k1⟩ := B1.c2; have lk := B1.lt
    obtain ⟨p0, p1, p2, p3⟩ := B2.c4; have lp := B2.lt
    obtain ⟨q0, q1, q2, q3, q4, q5, q6⟩ := B3.c7; have lq := B3.lt
    obtain ⟨f0, f1, f2, f3, f4, f5, f6⟩ := frozen7 B3
    go_wp2
    obtain ⟨hs, gE⟩ := seven_set B3 (.int .i64 0) (.bool false) (.int .i64 0) (.bool false) (.string ⟨#[]⟩) (.int .i64 0) (.string ⟨#[]⟩)
    obtain ⟨g0, g1, g2, g3, g4, g5, g6⟩ := hs.c7
    refine bodyPost_ret (v := .tuple #[.agg #[.int .i64 0, .bool false, .int .i64 0, .bool false, .string ⟨#[]⟩, .int .i64 0, .string ⟨#[]⟩], .int .i64 ee]) (by simp [results, Tryd.results57, go_sem, g0, g1, g2, g3, g4, g5, g6]) rfl ⟨by rw [HR.out]; rfl, gE w E (by have := hb1.out; omega)⟩
end Go.Proofs.YtfchchmmjabjnaaDoor
