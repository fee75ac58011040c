/- Walks of the program's functions and plain facts, packed; proved: the lemmas below; no conditions but those that each states. -/
import Derived.Test.YtoflcheopfppoaaGreatDoorJ15
set_option maxRecDepth 100000
set_option maxHeartbeats 4000000
namespace Go.Proofs.YtoflcheopfppoaaGreatDoor
section
open Go Go.RowKit Go.Shelf
attribute [local go_sem] Zq
attribute [local go_sem high] Qej Qeh Qei
theorem Qfp {w : World} {b : Nat} (h : Qb w b 108 #[.int .i64 10, .int .i64 1, .int .i64 1, .int .i64 3, .int .i64 5, .int .i64 1, .int .i64 1, .int .i64 1]) : Qo w (some ⟨b, 0, none⟩) 2 4 (Yl t8) := by
 refine V6 h ?_
 intro i j v hi hv
 have hj : j < 4 := (List.getElem?_eq_some_iff.1 hv).1
 rw [← hv]
 have h1 : i = 0 ∨ i = 1 := by omega
 have h2 : j = 0 ∨ j = 1 ∨ j = 2 ∨ j = 3 := by omega
 rcases h1 with rfl | rfl <;> rcases h2 with rfl | rfl | rfl | rfl <;> rfl
theorem Kz {w : World} {b : Nat} (h : Qb w b 112 #[.int .i64 2, .int .i64 1, .int .i64 2, .int .i64 0, .int .i64 1, .bool false, .int .i64 1, .int .i64 0, .int .i64 1, .bool false, .int .i64 30]) : Qo w (some ⟨b, 0, none⟩) 1 11 (Zj w8) := by
 refine V6 h ?_
 intro i j v hi hv
 obtain rfl : i = 0 := by omega
 have hj : j < 11 := (List.getElem?_eq_some_iff.1 hv).1
 rw [← hv]
 have : j = 0 ∨ j = 1 ∨ j = 2 ∨ j = 3 ∨ j = 4 ∨ j = 5 ∨ j = 6 ∨ j = 7 ∨ j = 8 ∨ j = 9 ∨ j = 10 := by omega
 rcases this with rfl | rfl | rfl | rfl | rfl | rfl | rfl | rfl | rfl | rfl | rfl <;> rfl
theorem Tl {A A' : Option Addr} {ca cb : Nat} {w : World} (hC : Zg w A ca A' cb Y3) {bp : Nat} (hB : Qo w (some ⟨bp, 0, none⟩) 1 6 (Ye p8)) (hZ : Zu w) : Calls Tryz.prog 23 #[.agg #[.slice A 1 ca, .slice A' 3 cb], .agg #[.int .i64 60, .int .i64 1, .int .i64 1, .int .i64 5, .int .i64 0, .int .i64 1, .bool false, .int .i64 1], .slice (some ⟨bp, 0, none⟩) 1 1, .agg #[.int .i64 1, .int .i64 7, .bool false, .int .i64 1]] w fun e w' => e = .returned (.tuple #[.agg #[.int .i64 56, .int .i64 1, .int .i64 56, .int .i64 5, .int .i64 0, .int .i64 1], .int .i64 0]) ∧ Qa w w' := by
 have := Bm A A' ca cb Y3 (some ⟨bp, 0, none⟩) 1 1 l8 p8 (by unfold Rt.In; decide) (by unfold Rt.In; decide) (fun i _ => show (Rt.mk 10 1).In by unfold Rt.In; decide) w hC hB (by decide) hZ d8
 rw [Qbi] at this
 exact this
theorem Tm {A A' : Option Addr} {ca cb : Nat} {w : World} (hC : Zg w A ca A' cb Y3) {bp : Nat} (hB : Qo w (some ⟨bp, 0, none⟩) 1 6 (Ye p8)) (hZ : Zu w) : Calls Tryz.prog 39 #[.agg #[.slice A 1 ca, .slice A' 3 cb], .agg #[.int .i64 60, .int .i64 1, .int .i64 1, .int .i64 5, .int .i64 0, .int .i64 1, .bool false, .int .i64 1], .slice (some ⟨bp, 0, none⟩) 1 1, .agg #[.int .i64 1, .int .i64 7, .bool false, .int .i64 1]] w fun e w' => e = .returned (.tuple #[.agg #[.int .i64 336, .int .i64 5], .int .i64 0]) ∧ Qa w w' := by
 have := Qfz A A' ca cb Y3 (some ⟨bp, 0, none⟩) 1 1 l8 p8 (by unfold Rt.In; decide) (by unfold Rt.In; decide) (fun i _ => show (Rt.mk 10 1).In by unfold Rt.In; decide) w hC hB (by decide) hZ d8
 rw [Qbj] at this
 exact this
theorem Ai : ∀ i, i < 2 → (t8 i).a.In ∧ (t8 i).r.In := fun i hi => by
 have : i = 0 ∨ i = 1 := by omega
 rcases this with rfl | rfl <;> (unfold Rt.In; decide)
theorem K8 {A A' : Option Addr} {ca cb : Nat} {w : World} (hC : Zg w A ca A' cb Y3) {bt bc : Nat} (hT : Qo w (some ⟨bt, 0, none⟩) 2 4 (Yl t8)) (hS : Qo w (some ⟨bc, 0, none⟩) 1 11 (Zj w8)) (hZ : Zu w) : Calls Tryz.prog 40 #[.agg #[.slice A 1 ca, .slice A' 3 cb], .slice (some ⟨bt, 0, none⟩) 2 2, .slice (some ⟨bc, 0, none⟩) 1 1] w fun e w' => e = .returned (.tuple #[.agg #[.int .i64 (-5), .int .i64 1], .int .i64 0]) ∧ Qa w w' := by
 have := I3 A A' ca cb Y3 (some ⟨bt, 0, none⟩) 2 2 t8 (some ⟨bc, 0, none⟩) 1 1 w8 w hC Ai hT (by decide) (fun i _ => ⟨show (Rt.mk 1 2).In by unfold Rt.In; decide, show (-9223372036854775808 : Int) ≤ 2 by decide, show (2 : Int) ≤ 9223372036854775807 by decide⟩) hS (by decide) hZ
 rw [e8_bal] at this
 exact this
theorem w8_few {A A' : Option Addr} {ca cb : Nat} {w : World} (hC : Zg w A ca A' cb Y3) {bt : Nat} (hT : Qo w (some ⟨bt, 0, none⟩) 2 4 (Yl t8)) (hZ : Zu w) : Calls Tryz.prog 41 #[.agg #[.slice A 1 ca, .slice A' 3 cb], .slice (some ⟨bt, 0, none⟩) 2 2, .agg #[.int .i64 1, .int .i64 2], .agg #[.int .i64 0, .int .i64 1, .bool false, .int .i64 1], .agg #[.int .i64 0, .int .i64 1, .bool false, .int .i64 30]] w fun e w' => e = .returned (.tuple #[.int .i64 3, .int .i64 0]) ∧ Qa w w' := by
 have := Qbw A A' ca cb Y3 (some ⟨bt, 0, none⟩) 2 2 t8 ⟨1, 2⟩ (by unfold Rt.In; decide) f8 u8' w hC Ai hT (by decide) hZ
 rw [e8_few] at this
 exact this
theorem Qgt (w : World) : Calls Tryz.prog 42 #[.agg #[.int .i64 10, .int .i64 2, .int .i64 5], .agg #[.int .i64 4, .int .i64 5], .agg #[.int .i64 1, .int .i64 10], .int .i64 1] w fun e w' => e = .returned (.tuple #[.agg #[.int .i64 12, .int .i64 4, .int .i64 7], .int .i64 0]) ∧ Qa w w' := by
 have := Qb2 h8 ⟨4, 5⟩ ⟨1, 10⟩ 1 (by unfold Rt.In; decide) (by unfold Rt.In; decide) (by decide) (by decide) w
 rw [Qbh] at this
 exact this
theorem Qgs {A A' : Option Addr} {ca cb : Nat} {w : World} (hC : Zg w A ca A' cb Y3) {o x y d : Nat} (hO : Zt w (.slice (some ⟨o, 0, none⟩) 1 1) [⟨X9, 10⟩]) (hX : Zt w (.slice (some ⟨x, 0, none⟩) 1 1) [⟨X9, 5⟩]) (hY : Zt w (.slice (some ⟨y, 0, none⟩) 1 1) [⟨X9, 20⟩]) (hD : Qb w d 57 #[.int .i64 0, .int .i64 1, .bool false, .int .i64 2, .bool true, .string ⟨#[98]⟩, .slice (some ⟨x, 0, none⟩) 1 1, .int .i64 0, .int .i64 1, .bool false, .int .i64 2, .bool false, .string ⟨#[98]⟩, .slice (some ⟨y, 0, none⟩) 1 1]) :
  Calls Tryz.prog 43 #[.agg #[.slice A 1 ca, .slice A' 3 cb], .agg #[.string ⟨#[97]⟩, .int .i64 0, .int .i64 1, .bool false, .int .i64 1, .int .i64 0, .int .i64 1, .bool false, .int .i64 30, .slice (some ⟨o, 0, none⟩) 1 1, .slice (some ⟨d, 0, none⟩) 2 2, .slice none 0 0]] w fun e w' => ∃ v, e = .returned (.tuple #[v, .int .i64 0]) ∧ Qa w w' ∧ Zt w' v [⟨X9, -5⟩] := by
 have hDl : Vl w (.slice (some ⟨d, 0, none⟩) 2 2) pd8.d := by
  refine ⟨some ⟨d, 0, none⟩, 2, fun i => if i = 0 then .slice (some ⟨x, 0, none⟩) 1 1 else .slice (some ⟨y, 0, none⟩) 1 1, rfl, ?_, Nat.le_refl _, by decide, fun h => (by cases h), ?_⟩
  ·refine V6 hD ?_
   intro i j v hi hv
   have hi : i < 2 := hi
   have hj : j < 7 := (List.getElem?_eq_some_iff.1 hv).1
   rw [← hv]
   have h1 : i = 0 ∨ i = 1 := by omega
   have h2 : j = 0 ∨ j = 1 ∨ j = 2 ∨ j = 3 ∨ j = 4 ∨ j = 5 ∨ j = 6 := by omega
   rcases h1 with rfl | rfl <;> rcases h2 with rfl | rfl | rfl | rfl | rfl | rfl | rfl <;> rfl
  ·intro i hi
   have hi : i < 2 := hi
   have h1 : i = 0 ∨ i = 1 := by omega
   rcases h1 with rfl | rfl
   ·exact hX
   ·exact hY
 have := Qav A A' ca cb Y3 pd8 _ _ _ w hC ⟨hO, hDl, Ly w⟩
 rw [Qbg] at this
 exact this
theorem Kb (w : World) (hZ : Zu w) :
  Calls Tryz.prog 12 #[] w fun e w' => e = .returned (.bool true) ∧ Qa w w' := by
 go_enter Tryz.func12, Tryz.ntmps12
 go_upto_region 2 with (go_at_call 21; (with_reducible refine Calls.mono (Qad _) ?_); rintro e w1 ⟨A, A', ca, cb, rfl, h1, C⟩)
 obtain ⟨v1, hv⟩ := Qg (w1.alloc (.cells #[.slice A 1 ca, .slice A' 3 cb] 25))
 rw [← hv]
 have h2 : Qa w1 v1 := by rw [hv]; exact (Qa.refl _).alloc _
 have B1 : Qb v1 w1.heap.size 25 #[.slice A 1 ca, .slice A' 3 cb] := by rw [hv]; exact Qb.new _ _ _
 clear hv
 generalize w1.heap.size = b1 at *
 have E := h1.trans h2
 replace C := C.ext h2
 have Z := hZ.ext E
 clear h1 h2 hZ
 have NI := fun w hz => Py ⟨60, 1⟩ ⟨1, 5⟩ 180 (by unfold Rt.In; decide) (by unfold Rt.In; decide) (by decide) (by decide) w hz
 simp only [e8_int] at NI
 go_upto_region 3 with (first | (go_at_call 25; (with_reducible refine Calls.mono (Wt _ _ _) ?_); rintro e wa ⟨rfl, hx⟩; replace E := E.trans hx; replace C := C.ext hx; replace Z := Z.ext hx; replace B1 := B1.ext hx; clear hx) | (go_at_call 28; (with_reducible refine Calls.mono (NI _ Z) ?_); rintro e w2 ⟨rfl, hx⟩; replace E := E.trans hx; replace C := C.ext hx; replace Z := Z.ext hx; replace B1 := B1.ext hx; clear hx))
 obtain ⟨v2, hv⟩ := Qg (w2.alloc (.cells #[.int .i64 6, .int .i64 1] 65))
 rw [← hv]
 have h2 : Qa w2 v2 := by rw [hv]; exact (Qa.refl _).alloc _
 have B2 : Qb v2 w2.heap.size 65 #[.int .i64 6, .int .i64 1] := by rw [hv]; exact Qb.new _ _ _
 clear hv
 generalize w2.heap.size = b2 at *
 replace E := E.trans h2
 replace C := C.ext h2
 replace Z := Z.ext h2
 replace B1 := B1.ext h2
 clear h2
 have ND := fun w => Qbf ⟨1, 3⟩ (by unfold Rt.In; decide) w
 simp only [e8_dbl] at ND
 clear NI
 go_upto_region 4 with (first | (go_at_call 25; (with_reducible refine Calls.mono (Wt _ _ _) ?_); rintro e wa ⟨rfl, hx⟩; replace E := E.trans hx; replace C := C.ext hx; replace Z := Z.ext hx; replace B1 := B1.ext hx; replace B2 := B2.ext hx; clear hx) | (go_at_call 26; (with_reducible refine Calls.mono (ND _) ?_); rintro e w3 ⟨rfl, hx⟩; replace E := E.trans hx; replace C := C.ext hx; replace Z := Z.ext hx; replace B1 := B1.ext hx; replace B2 := B2.ext hx; clear hx))
 clear ND
 go_upto_region 5 with (go_at_call 22; (with_reducible refine Calls.mono (Qc5 _) ?_); rintro e w4 ⟨bp, rfl, hx, PR⟩; replace E := E.trans hx; replace C := C.ext hx; replace Z := Z.ext hx; replace B1 := B1.ext hx; replace B2 := B2.ext hx; clear hx)
 obtain ⟨v4, hv⟩ := Qg (w4.alloc (.cells #[.int .i64 60, .int .i64 1, .int .i64 1, .int .i64 5, .int .i64 0, .int .i64 1, .bool false, .int .i64 1] 67))
 rw [← hv]
 have h2 : Qa w4 v4 := by rw [hv]; exact (Qa.refl _).alloc _
 have B4 : Qb v4 w4.heap.size 67 #[.int .i64 60, .int .i64 1, .int .i64 1, .int .i64 5, .int .i64 0, .int .i64 1, .bool false, .int .i64 1] := by rw [hv]; exact Qb.new _ _ _
 clear hv
 generalize w4.heap.size = b4 at *
 replace E := E.trans h2
 replace PR := PR.ext h2
 replace C := C.ext h2
 replace Z := Z.ext h2
 replace B1 := B1.ext h2
 replace B2 := B2.ext h2
 clear h2
 go_upto_region 5 with (fail)
 apply Vf (S := fun w' r => Qa v4 w' ∧ Qb w' r 72 #[.int .i64 56, .int .i64 1, .int .i64 56, .int .i64 5, .int .i64 0, .int .i64 1])
 ·refine Q1 11 [6, 7, 9, 10] (fun x => Qa v4 x) Qq rfl ?_
  intro vz hvz
  have HC := hvz
  refine Qr (g := 8) [0, 1, 2] [_, _, _] ⟨rfl, rfl, rfl, trivial⟩ (by kernel_rfl) (by kernel_rfl) HC ?_
  simp only [Qc, Qd, Qe]
  apply Exists.intro
  refine ⟨fun u hu => ?_, ?_⟩
  ·obtain ⟨k0, k1⟩ := (B1.ext hu).c2
   have lk := (B1.ext hu).lt
   obtain ⟨p0, p1, p2, p3, p4, p5, p6, p7⟩ := (B4.ext hu).c8
   have lp := (B4.ext hu).lt
   repeat (first | go_big_quiet_skip | (go_big_quiet_want; go_big_quiet_op; go_big_quiet_on))
   refine wpQuiet_nil ?_
   rfl
  refine Q8 3 8 rfl rfl (by kernel_rfl) ?_ ?_
  ·simp only [Qc, Qd, Qe]
   go_wp2_with (go_at_call 24; (with_reducible refine Calls.mono (Yw _ _ _ _) ?_); rintro e wa ⟨rfl, hx⟩)
   replace HC := HC.trans hx
   try replace H5 := H5.ext hx
   clear hx
   refine Qh HC ?_
   refine Q8 4 8 rfl rfl (by kernel_rfl) ?_ ?_
   ·simp only [Qc, Qd, Qe]
    go_wp2_with (go_at_call 23; (with_reducible refine Calls.mono (Tl (C.ext HC) (PR.ext HC) (Z.ext HC)) ?_); rintro e wa ⟨rfl, hx⟩)
    replace HC := HC.trans hx
    try replace H5 := H5.ext hx
    clear hx
    refine Qh HC ?_
    refine Qr (g := 5) [5] [_] ⟨rfl, trivial⟩ (by kernel_rfl) (by kernel_rfl) HC ?_
    simp only [Qc, Qd, Qe]
    apply Exists.intro
    refine ⟨fun u hu => ?_, ?_⟩
    ·obtain ⟨k0, k1⟩ := (B1.ext hu).c2
     have lk := (B1.ext hu).lt
     obtain ⟨p0, p1, p2, p3, p4, p5, p6, p7⟩ := (B4.ext hu).c8
     have lp := (B4.ext hu).lt
     repeat (first | go_big_quiet_skip | (go_big_quiet_want; go_big_quiet_op; go_big_quiet_on))
     refine wpQuiet_nil ?_
     rfl
    refine Jw (g := 3) [6, 7] [_, _] ⟨rfl, rfl, trivial⟩ (by kernel_rfl) (by kernel_rfl) ?_
    simp only [Qc, Qd, Qe]
    apply Exists.intro
    refine ⟨fun u hu => ?_, ?_⟩
    ·repeat (first | go_big_quiet_skip | (go_big_quiet_want; go_big_quiet_op; go_big_quiet_on))
     refine wpQuiet_nil ?_
     rfl
    refine Qk 8 rfl (by kernel_rfl) ?_
    simp only [Qc, Qd, Qe]
    go_wp2
    obtain ⟨b9, wb, hbq, hwb, H5, HC', hx, g5⟩ := Qp HC 72 #[.int .i64 0, .int .i64 0, .int .i64 0, .int .i64 0, .int .i64 0, .int .i64 0]
    rw [← hbq, ← hwb]
    replace HC := HC'
    clear hbq hwb hx HC'
    refine Qh HC ?_
    refine Qm 9 rfl (by kernel_rfl) ?_
    simp only [Qc, Qd, Qe]
    have z0 := H5.frozen 0
    have z1 := H5.frozen 1
    have z2 := H5.frozen 2
    have z3 := H5.frozen 3
    have z4 := H5.frozen 4
    have z5 := H5.frozen 5
    obtain ⟨x0, x1, x2, x3, x4, x5⟩ := H5.c6
    have lx := H5.lt
    go_wp2
    have H6 := Yv H5 (.int .i64 56) (.int .i64 1) (.int .i64 56) (.int .i64 5) (.int .i64 0) (.int .i64 1)
    replace HC := Yu HC g5 (.int .i64 56) (.int .i64 1) (.int .i64 56) (.int .i64 5) (.int .i64 0) (.int .i64 1)
    clear z0 x0 z1 x1 z2 x2 z3 x3 z4 x4 z5 x5 lx H5
    generalize World.setCell _ _ _ = wq at *
    refine Ql ?_
    refine Qm 10 rfl (by kernel_rfl) ?_
    simp only [Qc, Qd, Qe]
    go_wp2
    refine Ql ?_
    refine Qs (by kernel_rfl) ?_
    exact J8 b9 ⟨HC, H6⟩ rfl
   ·simp only [Qc, Qd, Qe]
    go_wp2
    obtain ⟨b9, wb, hbq, hwb, H5, HC', hx, g5⟩ := Qp HC 72 #[.int .i64 0, .int .i64 0, .int .i64 0, .int .i64 0, .int .i64 0, .int .i64 0]
    rw [← hbq, ← hwb]
    replace HC := HC'
    clear hbq hwb hx HC'
    refine Qh HC ?_
    refine Qk 4 rfl (by kernel_rfl) ?_
    simp only [Qc, Qd, Qe]
    go_wp2_with (go_at_call 23; (with_reducible refine Calls.mono (Tl (C.ext HC) (PR.ext HC) (Z.ext HC)) ?_); rintro e wa ⟨rfl, hx⟩)
    replace HC := HC.trans hx
    try replace H5 := H5.ext hx
    clear hx
    refine Qh HC ?_
    refine Qr (g := 4) [5] [_] ⟨rfl, trivial⟩ (by kernel_rfl) (by kernel_rfl) HC ?_
    simp only [Qc, Qd, Qe]
    apply Exists.intro
    refine ⟨fun u hu => ?_, ?_⟩
    ·obtain ⟨k0, k1⟩ := (B1.ext hu).c2
     have lk := (B1.ext hu).lt
     obtain ⟨p0, p1, p2, p3, p4, p5, p6, p7⟩ := (B4.ext hu).c8
     have lp := (B4.ext hu).lt
     repeat (first | go_big_quiet_skip | (go_big_quiet_want; go_big_quiet_op; go_big_quiet_on))
     refine wpQuiet_nil ?_
     rfl
    refine Jw (g := 2) [6, 7] [_, _] ⟨rfl, rfl, trivial⟩ (by kernel_rfl) (by kernel_rfl) ?_
    simp only [Qc, Qd, Qe]
    apply Exists.intro
    refine ⟨fun u hu => ?_, ?_⟩
    ·repeat (first | go_big_quiet_skip | (go_big_quiet_want; go_big_quiet_op; go_big_quiet_on))
     refine wpQuiet_nil ?_
     rfl
    refine Qm 9 rfl (by kernel_rfl) ?_
    simp only [Qc, Qd, Qe]
    have z0 := H5.frozen 0
    have z1 := H5.frozen 1
    have z2 := H5.frozen 2
    have z3 := H5.frozen 3
    have z4 := H5.frozen 4
    have z5 := H5.frozen 5
    obtain ⟨x0, x1, x2, x3, x4, x5⟩ := H5.c6
    have lx := H5.lt
    go_wp2
    have H6 := Yv H5 (.int .i64 56) (.int .i64 1) (.int .i64 56) (.int .i64 5) (.int .i64 0) (.int .i64 1)
    replace HC := Yu HC g5 (.int .i64 56) (.int .i64 1) (.int .i64 56) (.int .i64 5) (.int .i64 0) (.int .i64 1)
    clear z0 x0 z1 x1 z2 x2 z3 x3 z4 x4 z5 x5 lx H5
    generalize World.setCell _ _ _ = wq at *
    refine Ql ?_
    refine Qm 10 rfl (by kernel_rfl) ?_
    simp only [Qc, Qd, Qe]
    go_wp2
    refine Ql ?_
    refine Qs (by kernel_rfl) ?_
    exact J8 b9 ⟨HC, H6⟩ rfl
  ·simp only [Qc, Qd, Qe]
   go_wp2
   obtain ⟨b9, wb, hbq, hwb, H5, HC', hx, g5⟩ := Qp HC 72 #[.int .i64 0, .int .i64 0, .int .i64 0, .int .i64 0, .int .i64 0, .int .i64 0]
   rw [← hbq, ← hwb]
   replace HC := HC'
   clear hbq hwb hx HC'
   refine Qh HC ?_
   refine Qk 3 rfl (by kernel_rfl) ?_
   simp only [Qc, Qd, Qe]
   go_wp2_with (go_at_call 24; (with_reducible refine Calls.mono (Yw _ _ _ _) ?_); rintro e wa ⟨rfl, hx⟩)
   replace HC := HC.trans hx
   try replace H5 := H5.ext hx
   clear hx
   refine Qh HC ?_
   refine Qk 4 rfl (by kernel_rfl) ?_
   simp only [Qc, Qd, Qe]
   go_wp2_with (go_at_call 23; (with_reducible refine Calls.mono (Tl (C.ext HC) (PR.ext HC) (Z.ext HC)) ?_); rintro e wa ⟨rfl, hx⟩)
   replace HC := HC.trans hx
   try replace H5 := H5.ext hx
   clear hx
   refine Qh HC ?_
   refine Qr (g := 4) [5] [_] ⟨rfl, trivial⟩ (by kernel_rfl) (by kernel_rfl) HC ?_
   simp only [Qc, Qd, Qe]
   apply Exists.intro
   refine ⟨fun u hu => ?_, ?_⟩
   ·obtain ⟨k0, k1⟩ := (B1.ext hu).c2
    have lk := (B1.ext hu).lt
    obtain ⟨p0, p1, p2, p3, p4, p5, p6, p7⟩ := (B4.ext hu).c8
    have lp := (B4.ext hu).lt
    repeat (first | go_big_quiet_skip | (go_big_quiet_want; go_big_quiet_op; go_big_quiet_on))
    refine wpQuiet_nil ?_
    rfl
   refine Jw (g := 2) [6, 7] [_, _] ⟨rfl, rfl, trivial⟩ (by kernel_rfl) (by kernel_rfl) ?_
   simp only [Qc, Qd, Qe]
   apply Exists.intro
   refine ⟨fun u hu => ?_, ?_⟩
   ·repeat (first | go_big_quiet_skip | (go_big_quiet_want; go_big_quiet_op; go_big_quiet_on))
    refine wpQuiet_nil ?_
    rfl
   refine Qm 9 rfl (by kernel_rfl) ?_
   simp only [Qc, Qd, Qe]
   have z0 := H5.frozen 0
   have z1 := H5.frozen 1
   have z2 := H5.frozen 2
   have z3 := H5.frozen 3
   have z4 := H5.frozen 4
   have z5 := H5.frozen 5
   obtain ⟨x0, x1, x2, x3, x4, x5⟩ := H5.c6
   have lx := H5.lt
   go_wp2
   have H6 := Yv H5 (.int .i64 56) (.int .i64 1) (.int .i64 56) (.int .i64 5) (.int .i64 0) (.int .i64 1)
   replace HC := Yu HC g5 (.int .i64 56) (.int .i64 1) (.int .i64 56) (.int .i64 5) (.int .i64 0) (.int .i64 1)
   clear z0 x0 z1 x1 z2 x2 z3 x3 z4 x4 z5 x5 lx H5
   generalize World.setCell _ _ _ = wq at *
   refine Ql ?_
   refine Qm 10 rfl (by kernel_rfl) ?_
   simp only [Qc, Qd, Qe]
   go_wp2
   refine Ql ?_
   refine Qs (by kernel_rfl) ?_
   exact J8 b9 ⟨HC, H6⟩ rfl
 rintro b5 v5 ⟨h2, B5⟩
 replace E := E.trans h2
 replace C := C.ext h2
 replace Z := Z.ext h2
 replace B1 := B1.ext h2
 replace B2 := B2.ext h2
 replace PR := PR.ext h2
 replace B4 := B4.ext h2
 clear h2
 go_upto_region 6 with (fail)
 apply Vf (S := fun w' r => Qa v5 w' ∧ Qb w' r 65 #[.int .i64 336, .int .i64 5])
 ·refine Q1 11 [6, 7, 9, 10] (fun x => Qa v5 x) Qq rfl ?_
  intro vz hvz
  have HC := hvz
  refine Qr (g := 8) [0, 1, 2] [_, _, _] ⟨rfl, rfl, rfl, trivial⟩ (by kernel_rfl) (by kernel_rfl) HC ?_
  simp only [Qc, Qd, Qe]
  apply Exists.intro
  refine ⟨fun u hu => ?_, ?_⟩
  ·obtain ⟨k0, k1⟩ := (B1.ext hu).c2
   have lk := (B1.ext hu).lt
   obtain ⟨p0, p1, p2, p3, p4, p5, p6, p7⟩ := (B4.ext hu).c8
   have lp := (B4.ext hu).lt
   repeat (first | go_big_quiet_skip | (go_big_quiet_want; go_big_quiet_op; go_big_quiet_on))
   refine wpQuiet_nil ?_
   rfl
  refine Q8 3 8 rfl rfl (by kernel_rfl) ?_ ?_
  ·simp only [Qc, Qd, Qe]
   go_wp2_with (go_at_call 24; (with_reducible refine Calls.mono (Yw _ _ _ _) ?_); rintro e wa ⟨rfl, hx⟩)
   replace HC := HC.trans hx
   try replace H5 := H5.ext hx
   clear hx
   refine Qh HC ?_
   refine Q8 4 8 rfl rfl (by kernel_rfl) ?_ ?_
   ·simp only [Qc, Qd, Qe]
    go_wp2_with (go_at_call 39; (with_reducible refine Calls.mono (Tm (C.ext HC) (PR.ext HC) (Z.ext HC)) ?_); rintro e wa ⟨rfl, hx⟩)
    replace HC := HC.trans hx
    try replace H5 := H5.ext hx
    clear hx
    refine Qh HC ?_
    refine Qr (g := 5) [5] [_] ⟨rfl, trivial⟩ (by kernel_rfl) (by kernel_rfl) HC ?_
    simp only [Qc, Qd, Qe]
    apply Exists.intro
    refine ⟨fun u hu => ?_, ?_⟩
    ·obtain ⟨k0, k1⟩ := (B1.ext hu).c2
     have lk := (B1.ext hu).lt
     obtain ⟨p0, p1, p2, p3, p4, p5, p6, p7⟩ := (B4.ext hu).c8
     have lp := (B4.ext hu).lt
     repeat (first | go_big_quiet_skip | (go_big_quiet_want; go_big_quiet_op; go_big_quiet_on))
     refine wpQuiet_nil ?_
     rfl
    refine Jw (g := 3) [6, 7] [_, _] ⟨rfl, rfl, trivial⟩ (by kernel_rfl) (by kernel_rfl) ?_
    simp only [Qc, Qd, Qe]
    apply Exists.intro
    refine ⟨fun u hu => ?_, ?_⟩
    ·repeat (first | go_big_quiet_skip | (go_big_quiet_want; go_big_quiet_op; go_big_quiet_on))
     refine wpQuiet_nil ?_
     rfl
    refine Qk 8 rfl (by kernel_rfl) ?_
    simp only [Qc, Qd, Qe]
    go_wp2
    obtain ⟨b9, wb, hbq, hwb, H5, HC', hx, g5⟩ := Qp HC 65 #[.int .i64 0, .int .i64 0]
    rw [← hbq, ← hwb]
    replace HC := HC'
    clear hbq hwb hx HC'
    refine Qh HC ?_
    refine Qm 9 rfl (by kernel_rfl) ?_
    simp only [Qc, Qd, Qe]
    have z0 := H5.frozen 0
    have z1 := H5.frozen 1
    obtain ⟨x0, x1⟩ := H5.c2
    have lx := H5.lt
    go_wp2
    have H6 := Qn H5 (.int .i64 336) (.int .i64 5)
    replace HC := (HC.setCell (p := ⟨b9, 0, none⟩) g5 (.int .i64 336)).setCell (p := ⟨b9, 1, none⟩) g5 (.int .i64 5)
    clear z0 x0 z1 x1 lx H5
    generalize World.setCell _ _ _ = wq at *
    refine Ql ?_
    refine Qm 10 rfl (by kernel_rfl) ?_
    simp only [Qc, Qd, Qe]
    go_wp2
    refine Ql ?_
    refine Qs (by kernel_rfl) ?_
    exact J8 b9 ⟨HC, H6⟩ rfl
   ·simp only [Qc, Qd, Qe]
    go_wp2
    obtain ⟨b9, wb, hbq, hwb, H5, HC', hx, g5⟩ := Qp HC 65 #[.int .i64 0, .int .i64 0]
    rw [← hbq, ← hwb]
    replace HC := HC'
    clear hbq hwb hx HC'
    refine Qh HC ?_
    refine Qk 4 rfl (by kernel_rfl) ?_
    simp only [Qc, Qd, Qe]
    go_wp2_with (go_at_call 39; (with_reducible refine Calls.mono (Tm (C.ext HC) (PR.ext HC) (Z.ext HC)) ?_); rintro e wa ⟨rfl, hx⟩)
    replace HC := HC.trans hx
    try replace H5 := H5.ext hx
    clear hx
    refine Qh HC ?_
    refine Qr (g := 4) [5] [_] ⟨rfl, trivial⟩ (by kernel_rfl) (by kernel_rfl) HC ?_
    simp only [Qc, Qd, Qe]
    apply Exists.intro
    refine ⟨fun u hu => ?_, ?_⟩
    ·obtain ⟨k0, k1⟩ := (B1.ext hu).c2
     have lk := (B1.ext hu).lt
     obtain ⟨p0, p1, p2, p3, p4, p5, p6, p7⟩ := (B4.ext hu).c8
     have lp := (B4.ext hu).lt
     repeat (first | go_big_quiet_skip | (go_big_quiet_want; go_big_quiet_op; go_big_quiet_on))
     refine wpQuiet_nil ?_
     rfl
    refine Jw (g := 2) [6, 7] [_, _] ⟨rfl, rfl, trivial⟩ (by kernel_rfl) (by kernel_rfl) ?_
    simp only [Qc, Qd, Qe]
    apply Exists.intro
    refine ⟨fun u hu => ?_, ?_⟩
    ·repeat (first | go_big_quiet_skip | (go_big_quiet_want; go_big_quiet_op; go_big_quiet_on))
     refine wpQuiet_nil ?_
     rfl
    refine Qm 9 rfl (by kernel_rfl) ?_
    simp only [Qc, Qd, Qe]
    have z0 := H5.frozen 0
    have z1 := H5.frozen 1
    obtain ⟨x0, x1⟩ := H5.c2
    have lx := H5.lt
    go_wp2
    have H6 := Qn H5 (.int .i64 336) (.int .i64 5)
    replace HC := (HC.setCell (p := ⟨b9, 0, none⟩) g5 (.int .i64 336)).setCell (p := ⟨b9, 1, none⟩) g5 (.int .i64 5)
    clear z0 x0 z1 x1 lx H5
    generalize World.setCell _ _ _ = wq at *
    refine Ql ?_
    refine Qm 10 rfl (by kernel_rfl) ?_
    simp only [Qc, Qd, Qe]
    go_wp2
    refine Ql ?_
    refine Qs (by kernel_rfl) ?_
    exact J8 b9 ⟨HC, H6⟩ rfl
  ·simp only [Qc, Qd, Qe]
   go_wp2
   obtain ⟨b9, wb, hbq, hwb, H5, HC', hx, g5⟩ := Qp HC 65 #[.int .i64 0, .int .i64 0]
   rw [← hbq, ← hwb]
   replace HC := HC'
   clear hbq hwb hx HC'
   refine Qh HC ?_
   refine Qk 3 rfl (by kernel_rfl) ?_
   simp only [Qc, Qd, Qe]
   go_wp2_with (go_at_call 24; (with_reducible refine Calls.mono (Yw _ _ _ _) ?_); rintro e wa ⟨rfl, hx⟩)
   replace HC := HC.trans hx
   try replace H5 := H5.ext hx
   clear hx
   refine Qh HC ?_
   refine Qk 4 rfl (by kernel_rfl) ?_
   simp only [Qc, Qd, Qe]
   go_wp2_with (go_at_call 39; (with_reducible refine Calls.mono (Tm (C.ext HC) (PR.ext HC) (Z.ext HC)) ?_); rintro e wa ⟨rfl, hx⟩)
   replace HC := HC.trans hx
   try replace H5 := H5.ext hx
   clear hx
   refine Qh HC ?_
   refine Qr (g := 4) [5] [_] ⟨rfl, trivial⟩ (by kernel_rfl) (by kernel_rfl) HC ?_
   simp only [Qc, Qd, Qe]
   apply Exists.intro
   refine ⟨fun u hu => ?_, ?_⟩
   ·obtain ⟨k0, k1⟩ := (B1.ext hu).c2
    have lk := (B1.ext hu).lt
    obtain ⟨p0, p1, p2, p3, p4, p5, p6, p7⟩ := (B4.ext hu).c8
    have lp := (B4.ext hu).lt
    repeat (first | go_big_quiet_skip | (go_big_quiet_want; go_big_quiet_op; go_big_quiet_on))
    refine wpQuiet_nil ?_
    rfl
   refine Jw (g := 2) [6, 7] [_, _] ⟨rfl, rfl, trivial⟩ (by kernel_rfl) (by kernel_rfl) ?_
   simp only [Qc, Qd, Qe]
   apply Exists.intro
   refine ⟨fun u hu => ?_, ?_⟩
   ·repeat (first | go_big_quiet_skip | (go_big_quiet_want; go_big_quiet_op; go_big_quiet_on))
    refine wpQuiet_nil ?_
    rfl
   refine Qm 9 rfl (by kernel_rfl) ?_
   simp only [Qc, Qd, Qe]
   have z0 := H5.frozen 0
   have z1 := H5.frozen 1
   obtain ⟨x0, x1⟩ := H5.c2
   have lx := H5.lt
   go_wp2
   have H6 := Qn H5 (.int .i64 336) (.int .i64 5)
   replace HC := (HC.setCell (p := ⟨b9, 0, none⟩) g5 (.int .i64 336)).setCell (p := ⟨b9, 1, none⟩) g5 (.int .i64 5)
   clear z0 x0 z1 x1 lx H5
   generalize World.setCell _ _ _ = wq at *
   refine Ql ?_
   refine Qm 10 rfl (by kernel_rfl) ?_
   simp only [Qc, Qd, Qe]
   go_wp2
   refine Ql ?_
   refine Qs (by kernel_rfl) ?_
   exact J8 b9 ⟨HC, H6⟩ rfl
 rintro b6 v6 ⟨h2, B6⟩
 replace E := E.trans h2
 replace C := C.ext h2
 replace Z := Z.ext h2
 replace B1 := B1.ext h2
 replace B2 := B2.ext h2
 replace PR := PR.ext h2
 replace B4 := B4.ext h2
 replace B5 := B5.ext h2
 clear h2
 clear PR B4
 go_upto_region 7 with (fail)
 obtain ⟨k0, k1⟩ := B2.c2
 have lk := B2.lt
 obtain ⟨x0, x1, x2, x3, x4, x5⟩ := B5.c6
 have lx := B5.lt
 obtain ⟨y0, y1⟩ := B6.c2
 have ly := B6.lt
 refine Zb v6 Qq (by kernel_rfl) (by repeat (first | exact Qa.refl _ | (refine Qa.alloc ?_ _) | (refine Qa.trans ?_ (by assumption)))) ?_
 intro hne hrx hry
 try simp only []
 try simp only [List.append_eq, List.cons_append, List.nil_append]
 skip
 repeat (first
  | go_big_quiet_skip
  | (go_big_quiet_want; go_big_quiet_op; go_big_quiet_on)
  | (go_big_quiet_want; go_big_quiet_op; apply Exists.intro; refine ⟨fun u => ?_, ?_⟩
     ·first
       | (go_at_call 25; (with_reducible refine Calls.mono (Wt _ _ _) ?_); rintro e w' ⟨rfl, hb⟩; exact ⟨rfl, u.back hb⟩)
     go_big_quiet_on))
 clear hne hry hrx
 refine wpQuiet_nil ?_
 intro v7 h2
 obtain ⟨hcv7, hfv7, hzv7⟩ := Qa.rules h2
 try simp only [World.size_alloc] at hzv7
 obtain ⟨hcbv7, hfbv7, hzbv7⟩ := Qa.rules (show Qa v6 v7 from (by repeat (first | exact Qa.refl _ | (refine Qa.alloc ?_ _) | (refine Qa.trans ?_ (by assumption)))))
 clear hcv7 hfv7
 replace E := E.trans h2
 replace C := C.ext h2
 replace Z := Z.ext h2
 replace B1 := B1.ext h2
 replace B2 := B2.ext h2
 replace B5 := B5.ext h2
 replace B6 := B6.ext h2
 clear h2
 clear k0 k1 lk x0 x1 x2 x3 x4 x5 lx y0 y1 ly B2 B5 B6
 go_upto_region 10 with (go_at_call 25; (with_reducible refine Calls.mono (Wt _ _ _) ?_); rintro e wa ⟨rfl, hx⟩; replace E := E.trans hx; replace C := C.ext hx; replace Z := Z.ext hx; replace B1 := B1.ext hx; clear hx)
 obtain ⟨v9, hv⟩ := Qg (wa.alloc (.cells #[.int .i64 10, .int .i64 1, .int .i64 1, .int .i64 3, .int .i64 5, .int .i64 1, .int .i64 1, .int .i64 1] 108))
 rw [← hv]
 have h2 : Qa wa v9 := by rw [hv]; exact (Qa.refl _).alloc _
 have B7 : Qb v9 wa.heap.size 108 #[.int .i64 10, .int .i64 1, .int .i64 1, .int .i64 3, .int .i64 5, .int .i64 1, .int .i64 1, .int .i64 1] := by rw [hv]; exact Qb.new _ _ _
 clear hv
 generalize wa.heap.size = b7 at *
 have PT := Qfp B7
 clear B7
 replace E := E.trans h2
 replace C := C.ext h2
 replace Z := Z.ext h2
 replace B1 := B1.ext h2
 clear h2
 go_upto_region 10 with (fail)
 apply Vg (S := fun w' r _ => Qa v9 w' ∧ Qb w' r 65 #[.int .i64 (-5), .int .i64 1])
 ·refine Q1 14 [9, 10, 12, 13] (fun x => Qa v9 x) Qq rfl ?_
  intro vz hvz
  have HC := hvz
  refine Qr (g := 12) [0, 1] [_, _] ⟨rfl, rfl, trivial⟩ (by kernel_rfl) (by kernel_rfl) HC ?_
  simp only [Qc, Qd, Qe]
  apply Exists.intro
  refine ⟨fun u hu => ?_, ?_⟩
  ·obtain ⟨k0, k1⟩ := (B1.ext hu).c2
   have lk := (B1.ext hu).lt
   repeat (first | go_big_quiet_skip | (go_big_quiet_want; go_big_quiet_op; go_big_quiet_on))
   refine wpQuiet_nil ?_
   rfl
  refine Q8 2 11 rfl rfl (by kernel_rfl) ?_ ?_
  ·simp only [Qc, Qd, Qe]
   go_wp2_with (go_at_call 25; (with_reducible refine Calls.mono (Wt _ _ _) ?_); rintro e wa ⟨rfl, hx⟩)
   replace HC := HC.trans hx
   try replace H5 := H5.ext hx
   clear hx
   refine Qh HC ?_
   refine Q8 3 11 rfl rfl (by kernel_rfl) ?_ ?_
   ·simp only [Qc, Qd, Qe]
    go_wp2_with (go_at_call 24; (with_reducible refine Calls.mono (Yw _ _ _ _) ?_); rintro e wa ⟨rfl, hx⟩)
    replace HC := HC.trans hx
    try replace H5 := H5.ext hx
    clear hx
    refine Qh HC ?_
    refine Q8 4 11 rfl rfl (by kernel_rfl) ?_ ?_
    ·simp only [Qc, Qd, Qe]
     go_wp2_with (go_at_call 24; (with_reducible refine Calls.mono (Yw _ _ _ _) ?_); rintro e wa ⟨rfl, hx⟩)
     replace HC := HC.trans hx
     try replace H5 := H5.ext hx
     clear hx
     refine Qh HC ?_
     refine Qr (g := 8) [5] [_] ⟨rfl, trivial⟩ (by kernel_rfl) (by kernel_rfl) HC ?_
     simp only [Qc, Qd, Qe]
     apply Exists.intro
     refine ⟨fun u hu => ?_, ?_⟩
     ·obtain ⟨k0, k1⟩ := (B1.ext hu).c2
      have lk := (B1.ext hu).lt
      repeat (first | go_big_quiet_skip | (go_big_quiet_want; go_big_quiet_op; go_big_quiet_on))
      refine wpQuiet_nil ?_
      rfl
     refine Q8 6 11 rfl rfl (by kernel_rfl) ?_ ?_
     ·simp only [Qc, Qd, Qe]
      go_wp2
      obtain ⟨bc, wb, hbq, hwb, HCW, HC', hx, _⟩ := Qp HC 112 #[.int .i64 2, .int .i64 1, .int .i64 2, .int .i64 0, .int .i64 1, .bool false, .int .i64 1, .int .i64 0, .int .i64 1, .bool false, .int .i64 30]
      rw [← hbq, ← hwb]
      replace HC := HC'
      try replace H5 := H5.ext hx
      clear hbq hwb hx HC'
      refine Qh HC ?_
      refine Q8 7 11 rfl rfl (by kernel_rfl) ?_ ?_
      ·simp only [Qc, Qd, Qe]
       go_wp2_with (go_at_call 40; (with_reducible refine Calls.mono (K8 (C.ext HC) (PT.ext HC) (Kz HCW) (Z.ext HC)) ?_); rintro e wa ⟨rfl, hx⟩)
       replace HC := HC.trans hx
       try replace H5 := H5.ext hx
       clear hx
       refine Qh HC ?_
       refine Qr (g := 5) [8] [_] ⟨rfl, trivial⟩ (by kernel_rfl) (by kernel_rfl) HC ?_
       simp only [Qc, Qd, Qe]
       apply Exists.intro
       refine ⟨fun u hu => ?_, ?_⟩
       ·obtain ⟨k0, k1⟩ := (B1.ext hu).c2
        have lk := (B1.ext hu).lt
        repeat (first | go_big_quiet_skip | (go_big_quiet_want; go_big_quiet_op; go_big_quiet_on))
        refine wpQuiet_nil ?_
        rfl
       refine Jw (g := 3) [9, 10] [_, _] ⟨rfl, rfl, trivial⟩ (by kernel_rfl) (by kernel_rfl) ?_
       simp only [Qc, Qd, Qe]
       apply Exists.intro
       refine ⟨fun u hu => ?_, ?_⟩
       ·repeat (first | go_big_quiet_skip | (go_big_quiet_want; go_big_quiet_op; go_big_quiet_on))
        refine wpQuiet_nil ?_
        rfl
       refine Qk 11 rfl (by kernel_rfl) ?_
       simp only [Qc, Qd, Qe]
       go_wp2
       obtain ⟨b9, wb, hbq, hwb, H5, HC', hx, g5⟩ := Qp HC 65 #[.int .i64 0, .int .i64 0]
       rw [← hbq, ← hwb]
       replace HC := HC'
       try replace HCW := HCW.ext hx
       clear hbq hwb hx HC'
       refine Qh HC ?_
       refine Qm 12 rfl (by kernel_rfl) ?_
       simp only [Qc, Qd, Qe]
       have z0 := H5.frozen 0
       have z1 := H5.frozen 1
       obtain ⟨x0, x1⟩ := H5.c2
       have lx := H5.lt
       go_wp2
       have H6 := Qn H5 (.int .i64 (-5)) (.int .i64 1)
       replace HC := (HC.setCell (p := ⟨b9, 0, none⟩) g5 (.int .i64 (-5))).setCell (p := ⟨b9, 1, none⟩) g5 (.int .i64 1)
       clear z0 x0 z1 x1 lx H5
       generalize World.setCell _ _ _ = wq at *
       refine Ql ?_
       refine Qm 13 rfl (by kernel_rfl) ?_
       simp only [Qc, Qd, Qe]
       go_wp2
       refine Ql ?_
       refine Qs (by kernel_rfl) ?_
       exact Jm b9 bc ⟨HC, H6⟩ rfl
      ·simp only [Qc, Qd, Qe]
       go_wp2
       obtain ⟨b9, wb, hbq, hwb, H5, HC', hx, g5⟩ := Qp HC 65 #[.int .i64 0, .int .i64 0]
       rw [← hbq, ← hwb]
       replace HC := HC'
       try replace HCW := HCW.ext hx
       clear hbq hwb hx HC'
       refine Qh HC ?_
       refine Qk 7 rfl (by kernel_rfl) ?_
       simp only [Qc, Qd, Qe]
       go_wp2_with (go_at_call 40; (with_reducible refine Calls.mono (K8 (C.ext HC) (PT.ext HC) (Kz HCW) (Z.ext HC)) ?_); rintro e wa ⟨rfl, hx⟩)
       replace HC := HC.trans hx
       try replace H5 := H5.ext hx
       clear hx
       refine Qh HC ?_
       refine Qr (g := 4) [8] [_] ⟨rfl, trivial⟩ (by kernel_rfl) (by kernel_rfl) HC ?_
       simp only [Qc, Qd, Qe]
       apply Exists.intro
       refine ⟨fun u hu => ?_, ?_⟩
       ·obtain ⟨k0, k1⟩ := (B1.ext hu).c2
        have lk := (B1.ext hu).lt
        repeat (first | go_big_quiet_skip | (go_big_quiet_want; go_big_quiet_op; go_big_quiet_on))
        refine wpQuiet_nil ?_
        rfl
       refine Jw (g := 2) [9, 10] [_, _] ⟨rfl, rfl, trivial⟩ (by kernel_rfl) (by kernel_rfl) ?_
       simp only [Qc, Qd, Qe]
       apply Exists.intro
       refine ⟨fun u hu => ?_, ?_⟩
       ·repeat (first | go_big_quiet_skip | (go_big_quiet_want; go_big_quiet_op; go_big_quiet_on))
        refine wpQuiet_nil ?_
        rfl
       refine Qm 12 rfl (by kernel_rfl) ?_
       simp only [Qc, Qd, Qe]
       have z0 := H5.frozen 0
       have z1 := H5.frozen 1
       obtain ⟨x0, x1⟩ := H5.c2
       have lx := H5.lt
       go_wp2
       have H6 := Qn H5 (.int .i64 (-5)) (.int .i64 1)
       replace HC := (HC.setCell (p := ⟨b9, 0, none⟩) g5 (.int .i64 (-5))).setCell (p := ⟨b9, 1, none⟩) g5 (.int .i64 1)
       clear z0 x0 z1 x1 lx H5
       generalize World.setCell _ _ _ = wq at *
       refine Ql ?_
       refine Qm 13 rfl (by kernel_rfl) ?_
       simp only [Qc, Qd, Qe]
       go_wp2
       refine Ql ?_
       refine Qs (by kernel_rfl) ?_
       exact Jm b9 bc ⟨HC, H6⟩ rfl
     ·simp only [Qc, Qd, Qe]
      go_wp2
      obtain ⟨b9, wb, hbq, hwb, H5, HC', hx, g5⟩ := Qp HC 65 #[.int .i64 0, .int .i64 0]
      rw [← hbq, ← hwb]
      replace HC := HC'
      try replace HCW := HCW.ext hx
      clear hbq hwb hx HC'
      refine Qh HC ?_
      refine Qk 6 rfl (by kernel_rfl) ?_
      simp only [Qc, Qd, Qe]
      go_wp2
      obtain ⟨bc, wb, hbq, hwb, HCW, HC', hx, _⟩ := Qp HC 112 #[.int .i64 2, .int .i64 1, .int .i64 2, .int .i64 0, .int .i64 1, .bool false, .int .i64 1, .int .i64 0, .int .i64 1, .bool false, .int .i64 30]
      rw [← hbq, ← hwb]
      replace HC := HC'
      try replace H5 := H5.ext hx
      clear hbq hwb hx HC'
      refine Qh HC ?_
      refine Qk 7 rfl (by kernel_rfl) ?_
      simp only [Qc, Qd, Qe]
      go_wp2_with (go_at_call 40; (with_reducible refine Calls.mono (K8 (C.ext HC) (PT.ext HC) (Kz HCW) (Z.ext HC)) ?_); rintro e wa ⟨rfl, hx⟩)
      replace HC := HC.trans hx
      try replace H5 := H5.ext hx
      clear hx
      refine Qh HC ?_
      refine Qr (g := 4) [8] [_] ⟨rfl, trivial⟩ (by kernel_rfl) (by kernel_rfl) HC ?_
      simp only [Qc, Qd, Qe]
      apply Exists.intro
      refine ⟨fun u hu => ?_, ?_⟩
      ·obtain ⟨k0, k1⟩ := (B1.ext hu).c2
       have lk := (B1.ext hu).lt
       repeat (first | go_big_quiet_skip | (go_big_quiet_want; go_big_quiet_op; go_big_quiet_on))
       refine wpQuiet_nil ?_
       rfl
      refine Jw (g := 2) [9, 10] [_, _] ⟨rfl, rfl, trivial⟩ (by kernel_rfl) (by kernel_rfl) ?_
      simp only [Qc, Qd, Qe]
      apply Exists.intro
      refine ⟨fun u hu => ?_, ?_⟩
      ·repeat (first | go_big_quiet_skip | (go_big_quiet_want; go_big_quiet_op; go_big_quiet_on))
       refine wpQuiet_nil ?_
       rfl
      refine Qm 12 rfl (by kernel_rfl) ?_
      simp only [Qc, Qd, Qe]
      have z0 := H5.frozen 0
      have z1 := H5.frozen 1
      obtain ⟨x0, x1⟩ := H5.c2
      have lx := H5.lt
      go_wp2
      have H6 := Qn H5 (.int .i64 (-5)) (.int .i64 1)
      replace HC := (HC.setCell (p := ⟨b9, 0, none⟩) g5 (.int .i64 (-5))).setCell (p := ⟨b9, 1, none⟩) g5 (.int .i64 1)
      clear z0 x0 z1 x1 lx H5
      generalize World.setCell _ _ _ = wq at *
      refine Ql ?_
      refine Qm 13 rfl (by kernel_rfl) ?_
      simp only [Qc, Qd, Qe]
      go_wp2
      refine Ql ?_
      refine Qs (by kernel_rfl) ?_
      exact Jm b9 bc ⟨HC, H6⟩ rfl
    ·simp only [Qc, Qd, Qe]
     go_wp2
     obtain ⟨b9, wb, hbq, hwb, H5, HC', hx, g5⟩ := Qp HC 65 #[.int .i64 0, .int .i64 0]
     rw [← hbq, ← hwb]
     replace HC := HC'
     try replace HCW := HCW.ext hx
     clear hbq hwb hx HC'
     refine Qh HC ?_
     refine Qk 4 rfl (by kernel_rfl) ?_
     simp only [Qc, Qd, Qe]
     go_wp2_with (go_at_call 24; (with_reducible refine Calls.mono (Yw _ _ _ _) ?_); rintro e wa ⟨rfl, hx⟩)
     replace HC := HC.trans hx
     try replace H5 := H5.ext hx
     clear hx
     refine Qh HC ?_
     refine Qr (g := 7) [5] [_] ⟨rfl, trivial⟩ (by kernel_rfl) (by kernel_rfl) HC ?_
     simp only [Qc, Qd, Qe]
     apply Exists.intro
     refine ⟨fun u hu => ?_, ?_⟩
     ·obtain ⟨k0, k1⟩ := (B1.ext hu).c2
      have lk := (B1.ext hu).lt
      repeat (first | go_big_quiet_skip | (go_big_quiet_want; go_big_quiet_op; go_big_quiet_on))
      refine wpQuiet_nil ?_
      rfl
     refine Qk 6 rfl (by kernel_rfl) ?_
     simp only [Qc, Qd, Qe]
     go_wp2
     obtain ⟨bc, wb, hbq, hwb, HCW, HC', hx, _⟩ := Qp HC 112 #[.int .i64 2, .int .i64 1, .int .i64 2, .int .i64 0, .int .i64 1, .bool false, .int .i64 1, .int .i64 0, .int .i64 1, .bool false, .int .i64 30]
     rw [← hbq, ← hwb]
     replace HC := HC'
     try replace H5 := H5.ext hx
     clear hbq hwb hx HC'
     refine Qh HC ?_
     refine Qk 7 rfl (by kernel_rfl) ?_
     simp only [Qc, Qd, Qe]
     go_wp2_with (go_at_call 40; (with_reducible refine Calls.mono (K8 (C.ext HC) (PT.ext HC) (Kz HCW) (Z.ext HC)) ?_); rintro e wa ⟨rfl, hx⟩)
     replace HC := HC.trans hx
     try replace H5 := H5.ext hx
     clear hx
     refine Qh HC ?_
     refine Qr (g := 4) [8] [_] ⟨rfl, trivial⟩ (by kernel_rfl) (by kernel_rfl) HC ?_
     simp only [Qc, Qd, Qe]
     apply Exists.intro
     refine ⟨fun u hu => ?_, ?_⟩
     ·obtain ⟨k0, k1⟩ := (B1.ext hu).c2
      have lk := (B1.ext hu).lt
      repeat (first | go_big_quiet_skip | (go_big_quiet_want; go_big_quiet_op; go_big_quiet_on))
      refine wpQuiet_nil ?_
      rfl
     refine Jw (g := 2) [9, 10] [_, _] ⟨rfl, rfl, trivial⟩ (by kernel_rfl) (by kernel_rfl) ?_
     simp only [Qc, Qd, Qe]
     apply Exists.intro
     refine ⟨fun u hu => ?_, ?_⟩
     ·repeat (first | go_big_quiet_skip | (go_big_quiet_want; go_big_quiet_op; go_big_quiet_on))
      refine wpQuiet_nil ?_
      rfl
     refine Qm 12 rfl (by kernel_rfl) ?_
     simp only [Qc, Qd, Qe]
     have z0 := H5.frozen 0
     have z1 := H5.frozen 1
     obtain ⟨x0, x1⟩ := H5.c2
     have lx := H5.lt
     go_wp2
     have H6 := Qn H5 (.int .i64 (-5)) (.int .i64 1)
     replace HC := (HC.setCell (p := ⟨b9, 0, none⟩) g5 (.int .i64 (-5))).setCell (p := ⟨b9, 1, none⟩) g5 (.int .i64 1)
     clear z0 x0 z1 x1 lx H5
     generalize World.setCell _ _ _ = wq at *
     refine Ql ?_
     refine Qm 13 rfl (by kernel_rfl) ?_
     simp only [Qc, Qd, Qe]
     go_wp2
     refine Ql ?_
     refine Qs (by kernel_rfl) ?_
     exact Jm b9 bc ⟨HC, H6⟩ rfl
   ·simp only [Qc, Qd, Qe]
    go_wp2
    obtain ⟨b9, wb, hbq, hwb, H5, HC', hx, g5⟩ := Qp HC 65 #[.int .i64 0, .int .i64 0]
    rw [← hbq, ← hwb]
    replace HC := HC'
    try replace HCW := HCW.ext hx
    clear hbq hwb hx HC'
    refine Qh HC ?_
    refine Qk 3 rfl (by kernel_rfl) ?_
    simp only [Qc, Qd, Qe]
    go_wp2_with (go_at_call 24; (with_reducible refine Calls.mono (Yw _ _ _ _) ?_); rintro e wa ⟨rfl, hx⟩)
    replace HC := HC.trans hx
    try replace H5 := H5.ext hx
    clear hx
    refine Qh HC ?_
    refine Qk 4 rfl (by kernel_rfl) ?_
    simp only [Qc, Qd, Qe]
    go_wp2_with (go_at_call 24; (with_reducible refine Calls.mono (Yw _ _ _ _) ?_); rintro e wa ⟨rfl, hx⟩)
    replace HC := HC.trans hx
    try replace H5 := H5.ext hx
    clear hx
    refine Qh HC ?_
    refine Qr (g := 7) [5] [_] ⟨rfl, trivial⟩ (by kernel_rfl) (by kernel_rfl) HC ?_
    simp only [Qc, Qd, Qe]
    apply Exists.intro
    refine ⟨fun u hu => ?_, ?_⟩
    ·obtain ⟨k0, k1⟩ := (B1.ext hu).c2
     have lk := (B1.ext hu).lt
     repeat (first | go_big_quiet_skip | (go_big_quiet_want; go_big_quiet_op; go_big_quiet_on))
     refine wpQuiet_nil ?_
     rfl
    refine Qk 6 rfl (by kernel_rfl) ?_
    simp only [Qc, Qd, Qe]
    go_wp2
    obtain ⟨bc, wb, hbq, hwb, HCW, HC', hx, _⟩ := Qp HC 112 #[.int .i64 2, .int .i64 1, .int .i64 2, .int .i64 0, .int .i64 1, .bool false, .int .i64 1, .int .i64 0, .int .i64 1, .bool false, .int .i64 30]
    rw [← hbq, ← hwb]
    replace HC := HC'
    try replace H5 := H5.ext hx
    clear hbq hwb hx HC'
    refine Qh HC ?_
    refine Qk 7 rfl (by kernel_rfl) ?_
    simp only [Qc, Qd, Qe]
    go_wp2_with (go_at_call 40; (with_reducible refine Calls.mono (K8 (C.ext HC) (PT.ext HC) (Kz HCW) (Z.ext HC)) ?_); rintro e wa ⟨rfl, hx⟩)
    replace HC := HC.trans hx
    try replace H5 := H5.ext hx
    clear hx
    refine Qh HC ?_
    refine Qr (g := 4) [8] [_] ⟨rfl, trivial⟩ (by kernel_rfl) (by kernel_rfl) HC ?_
    simp only [Qc, Qd, Qe]
    apply Exists.intro
    refine ⟨fun u hu => ?_, ?_⟩
    ·obtain ⟨k0, k1⟩ := (B1.ext hu).c2
     have lk := (B1.ext hu).lt
     repeat (first | go_big_quiet_skip | (go_big_quiet_want; go_big_quiet_op; go_big_quiet_on))
     refine wpQuiet_nil ?_
     rfl
    refine Jw (g := 2) [9, 10] [_, _] ⟨rfl, rfl, trivial⟩ (by kernel_rfl) (by kernel_rfl) ?_
    simp only [Qc, Qd, Qe]
    apply Exists.intro
    refine ⟨fun u hu => ?_, ?_⟩
    ·repeat (first | go_big_quiet_skip | (go_big_quiet_want; go_big_quiet_op; go_big_quiet_on))
     refine wpQuiet_nil ?_
     rfl
    refine Qm 12 rfl (by kernel_rfl) ?_
    simp only [Qc, Qd, Qe]
    have z0 := H5.frozen 0
    have z1 := H5.frozen 1
    obtain ⟨x0, x1⟩ := H5.c2
    have lx := H5.lt
    go_wp2
    have H6 := Qn H5 (.int .i64 (-5)) (.int .i64 1)
    replace HC := (HC.setCell (p := ⟨b9, 0, none⟩) g5 (.int .i64 (-5))).setCell (p := ⟨b9, 1, none⟩) g5 (.int .i64 1)
    clear z0 x0 z1 x1 lx H5
    generalize World.setCell _ _ _ = wq at *
    refine Ql ?_
    refine Qm 13 rfl (by kernel_rfl) ?_
    simp only [Qc, Qd, Qe]
    go_wp2
    refine Ql ?_
    refine Qs (by kernel_rfl) ?_
    exact Jm b9 bc ⟨HC, H6⟩ rfl
  ·simp only [Qc, Qd, Qe]
   go_wp2
   obtain ⟨b9, wb, hbq, hwb, H5, HC', hx, g5⟩ := Qp HC 65 #[.int .i64 0, .int .i64 0]
   rw [← hbq, ← hwb]
   replace HC := HC'
   try replace HCW := HCW.ext hx
   clear hbq hwb hx HC'
   refine Qh HC ?_
   refine Qk 2 rfl (by kernel_rfl) ?_
   simp only [Qc, Qd, Qe]
   go_wp2_with (go_at_call 25; (with_reducible refine Calls.mono (Wt _ _ _) ?_); rintro e wa ⟨rfl, hx⟩)
   replace HC := HC.trans hx
   try replace H5 := H5.ext hx
   clear hx
   refine Qh HC ?_
   refine Qk 3 rfl (by kernel_rfl) ?_
   simp only [Qc, Qd, Qe]
   go_wp2_with (go_at_call 24; (with_reducible refine Calls.mono (Yw _ _ _ _) ?_); rintro e wa ⟨rfl, hx⟩)
   replace HC := HC.trans hx
   try replace H5 := H5.ext hx
   clear hx
   refine Qh HC ?_
   refine Qk 4 rfl (by kernel_rfl) ?_
   simp only [Qc, Qd, Qe]
   go_wp2_with (go_at_call 24; (with_reducible refine Calls.mono (Yw _ _ _ _) ?_); rintro e wa ⟨rfl, hx⟩)
   replace HC := HC.trans hx
   try replace H5 := H5.ext hx
   clear hx
   refine Qh HC ?_
   refine Qr (g := 7) [5] [_] ⟨rfl, trivial⟩ (by kernel_rfl) (by kernel_rfl) HC ?_
   simp only [Qc, Qd, Qe]
   apply Exists.intro
   refine ⟨fun u hu => ?_, ?_⟩
   ·obtain ⟨k0, k1⟩ := (B1.ext hu).c2
    have lk := (B1.ext hu).lt
    repeat (first | go_big_quiet_skip | (go_big_quiet_want; go_big_quiet_op; go_big_quiet_on))
    refine wpQuiet_nil ?_
    rfl
   refine Qk 6 rfl (by kernel_rfl) ?_
   simp only [Qc, Qd, Qe]
   go_wp2
   obtain ⟨bc, wb, hbq, hwb, HCW, HC', hx, _⟩ := Qp HC 112 #[.int .i64 2, .int .i64 1, .int .i64 2, .int .i64 0, .int .i64 1, .bool false, .int .i64 1, .int .i64 0, .int .i64 1, .bool false, .int .i64 30]
   rw [← hbq, ← hwb]
   replace HC := HC'
   try replace H5 := H5.ext hx
   clear hbq hwb hx HC'
   refine Qh HC ?_
   refine Qk 7 rfl (by kernel_rfl) ?_
   simp only [Qc, Qd, Qe]
   go_wp2_with (go_at_call 40; (with_reducible refine Calls.mono (K8 (C.ext HC) (PT.ext HC) (Kz HCW) (Z.ext HC)) ?_); rintro e wa ⟨rfl, hx⟩)
   replace HC := HC.trans hx
   try replace H5 := H5.ext hx
   clear hx
   refine Qh HC ?_
   refine Qr (g := 4) [8] [_] ⟨rfl, trivial⟩ (by kernel_rfl) (by kernel_rfl) HC ?_
   simp only [Qc, Qd, Qe]
   apply Exists.intro
   refine ⟨fun u hu => ?_, ?_⟩
   ·obtain ⟨k0, k1⟩ := (B1.ext hu).c2
    have lk := (B1.ext hu).lt
    repeat (first | go_big_quiet_skip | (go_big_quiet_want; go_big_quiet_op; go_big_quiet_on))
    refine wpQuiet_nil ?_
    rfl
   refine Jw (g := 2) [9, 10] [_, _] ⟨rfl, rfl, trivial⟩ (by kernel_rfl) (by kernel_rfl) ?_
   simp only [Qc, Qd, Qe]
   apply Exists.intro
   refine ⟨fun u hu => ?_, ?_⟩
   ·repeat (first | go_big_quiet_skip | (go_big_quiet_want; go_big_quiet_op; go_big_quiet_on))
    refine wpQuiet_nil ?_
    rfl
   refine Qm 12 rfl (by kernel_rfl) ?_
   simp only [Qc, Qd, Qe]
   have z0 := H5.frozen 0
   have z1 := H5.frozen 1
   obtain ⟨x0, x1⟩ := H5.c2
   have lx := H5.lt
   go_wp2
   have H6 := Qn H5 (.int .i64 (-5)) (.int .i64 1)
   replace HC := (HC.setCell (p := ⟨b9, 0, none⟩) g5 (.int .i64 (-5))).setCell (p := ⟨b9, 1, none⟩) g5 (.int .i64 1)
   clear z0 x0 z1 x1 lx H5
   generalize World.setCell _ _ _ = wq at *
   refine Ql ?_
   refine Qm 13 rfl (by kernel_rfl) ?_
   simp only [Qc, Qd, Qe]
   go_wp2
   refine Ql ?_
   refine Qs (by kernel_rfl) ?_
   exact Jm b9 bc ⟨HC, H6⟩ rfl
 rintro b10 bc v10 ⟨h2, B10⟩
 replace E := E.trans h2
 replace C := C.ext h2
 replace Z := Z.ext h2
 replace B1 := B1.ext h2
 replace PT := PT.ext h2
 clear h2
 go_upto_region 11 with (fail)
 obtain ⟨k0, k1⟩ := B1.c2
 have lk := B1.lt
 refine Zb v10 Qq (by kernel_rfl) (by repeat (first | exact Qa.refl _ | (refine Qa.alloc ?_ _) | (refine Qa.trans ?_ (by assumption)))) ?_
 intro hne hrx hry
 try simp only []
 try simp only [List.append_eq, List.cons_append, List.nil_append]
 skip
 repeat (first
  | go_big_quiet_skip
  | (go_big_quiet_want; go_big_quiet_op; go_big_quiet_on)
  | (go_big_quiet_want; go_big_quiet_op; apply Exists.intro; refine ⟨fun u => ?_, ?_⟩
     ·first
       | (go_at_call 25; (with_reducible refine Calls.mono (Wt _ _ _) ?_); rintro e w' ⟨rfl, hb⟩; exact ⟨rfl, u.back hb⟩)
       | (go_at_call 24; (with_reducible refine Calls.mono (Yw _ _ _ _) ?_); rintro e w' ⟨rfl, hb⟩; exact ⟨rfl, u.back hb⟩)
       | (go_at_call 41; (with_reducible refine Calls.mono (w8_few (C.ext u.e) (PT.ext u.e) (Z.ext u.e)) ?_); rintro e w' ⟨rfl, hb⟩; exact ⟨rfl, u.back hb⟩)
     go_big_quiet_on))
 clear hne hry hrx
 refine wpQuiet_nil ?_
 intro v11 h2
 obtain ⟨hcv11, hfv11, hzv11⟩ := Qa.rules h2
 try simp only [World.size_alloc] at hzv11
 obtain ⟨hcbv11, hfbv11, hzbv11⟩ := Qa.rules (show Qa v10 v11 from (by repeat (first | exact Qa.refl _ | (refine Qa.alloc ?_ _) | (refine Qa.trans ?_ (by assumption)))))
 clear hcv11 hfv11
 replace E := E.trans h2
 replace C := C.ext h2
 replace Z := Z.ext h2
 replace B1 := B1.ext h2
 replace PT := PT.ext h2
 replace B10 := B10.ext h2
 clear h2
 clear k0 k1 lk PT
 go_upto_region 13 with (first | (go_at_call 25; (with_reducible refine Calls.mono (Wt _ _ _) ?_); rintro e wa ⟨rfl, hx⟩; replace E := E.trans hx; replace C := C.ext hx; replace Z := Z.ext hx; replace B1 := B1.ext hx; replace B10 := B10.ext hx; clear hx) | (go_at_call 42; (with_reducible refine Calls.mono (Qgt _) ?_); rintro e w12 ⟨rfl, hx⟩; replace E := E.trans hx; replace C := C.ext hx; replace Z := Z.ext hx; replace B1 := B1.ext hx; replace B10 := B10.ext hx; clear hx))
 obtain ⟨v12, hv⟩ := Qg (w12.alloc (.cells #[.int .i64 12, .int .i64 4, .int .i64 7] 116))
 rw [← hv]
 have h2 : Qa w12 v12 := by rw [hv]; exact (Qa.refl _).alloc _
 have B12 : Qb v12 w12.heap.size 116 #[.int .i64 12, .int .i64 4, .int .i64 7] := by rw [hv]; exact Qb.new _ _ _
 clear hv
 generalize w12.heap.size = b12 at *
 replace E := E.trans h2
 replace C := C.ext h2
 replace Z := Z.ext h2
 replace B1 := B1.ext h2
 replace B10 := B10.ext h2
 clear h2
 obtain ⟨x0, x1⟩ := B10.c2
 have lx := B10.lt
 obtain ⟨y0, y1, y2⟩ := B12.c3
 have ly := B12.lt
 refine Zb v12 Qq (by kernel_rfl) (by repeat (first | exact Qa.refl _ | (refine Qa.alloc ?_ _) | (refine Qa.trans ?_ (by assumption)))) ?_
 intro hne hrx hry
 try simp only []
 try simp only [List.append_eq, List.cons_append, List.nil_append]
 skip
 repeat (first
  | go_big_quiet_skip
  | (go_big_quiet_want; go_big_quiet_op; go_big_quiet_on)
  | (go_big_quiet_want; go_big_quiet_op; apply Exists.intro; refine ⟨fun u => ?_, ?_⟩
     ·first
       | (go_at_call 25; (with_reducible refine Calls.mono (Wt _ _ _) ?_); rintro e w' ⟨rfl, hb⟩; exact ⟨rfl, u.back hb⟩)
     go_big_quiet_on))
 clear hne hry hrx
 refine wpQuiet_nil ?_
 intro v13 h2
 obtain ⟨hcv13, hfv13, hzv13⟩ := Qa.rules h2
 try simp only [World.size_alloc] at hzv13
 obtain ⟨hcbv13, hfbv13, hzbv13⟩ := Qa.rules (show Qa v12 v13 from (by repeat (first | exact Qa.refl _ | (refine Qa.alloc ?_ _) | (refine Qa.trans ?_ (by assumption)))))
 clear hcv13 hfv13
 clear x0 x1 lx y0 y1 y2 ly B10 B12
 replace E := E.trans h2
 replace C := C.ext h2
 replace Z := Z.ext h2
 replace B1 := B1.ext h2
 clear h2
 go_upto_region 15 with (fail)
 refine Q1 18 [14, 15, 16, 17] (fun x => Qa v13 x) Qq rfl ?_
 intro vz hvz
 have HC := hvz
 refine Qr (g := 17) [0] [_] ⟨rfl, trivial⟩ (by kernel_rfl) (by kernel_rfl) HC ?_
 simp only [List.getElem_toArray, List.getElem_cons_zero]
 apply Exists.intro
 refine ⟨fun u hu => ?_, ?_⟩
 ·obtain ⟨k0, k1⟩ := (B1.ext hu).c2
  have lk := (B1.ext hu).lt
  repeat (first | go_big_quiet_skip | (go_big_quiet_want; go_big_quiet_op; go_big_quiet_on))
  refine wpQuiet_nil ?_
  rfl
 refine Qk 1 rfl (by kernel_rfl) ?_
 simp only [Qc, Qd, Qe]
 go_wp2_with (go_at_call 24; (with_reducible refine Calls.mono (Yw _ _ _ _) ?_); rintro e wa ⟨rfl, hx⟩)
 replace HC := HC.trans hx
 try replace LO := LO.ext hx
 try replace LX := LX.ext hx
 try replace LY := LY.ext hx
 clear hx
 refine Qh HC ?_
 refine Qk 2 rfl (by kernel_rfl) ?_
 simp only [Qc, Qd, Qe]
 go_wp2_with (go_at_call 24; (with_reducible refine Calls.mono (Yw _ _ _ _) ?_); rintro e wa ⟨rfl, hx⟩)
 replace HC := HC.trans hx
 try replace LO := LO.ext hx
 try replace LX := LX.ext hx
 try replace LY := LY.ext hx
 clear hx
 refine Qh HC ?_
 refine Qk 3 rfl (by kernel_rfl) ?_
 simp only [Qc, Qd, Qe]
 go_wp2_with (go_at_call 20; (with_reducible refine Calls.mono (Nl _ _ _) ?_); rintro e wa ⟨bo, rfl, hx, LO⟩)
 replace HC := HC.trans hx
 try replace LX := LX.ext hx
 try replace LY := LY.ext hx
 clear hx
 refine Qh HC ?_
 refine Qk 4 rfl (by kernel_rfl) ?_
 simp only [Qc, Qd, Qe]
 go_wp2_with (go_at_call 24; (with_reducible refine Calls.mono (Yw _ _ _ _) ?_); rintro e wa ⟨rfl, hx⟩)
 replace HC := HC.trans hx
 try replace LO := LO.ext hx
 try replace LX := LX.ext hx
 try replace LY := LY.ext hx
 clear hx
 refine Qh HC ?_
 refine Qk 5 rfl (by kernel_rfl) ?_
 simp only [Qc, Qd, Qe]
 go_wp2_with (go_at_call 20; (with_reducible refine Calls.mono (Nl _ _ _) ?_); rintro e wa ⟨bx, rfl, hx, LX⟩)
 replace HC := HC.trans hx
 try replace LO := LO.ext hx
 try replace LY := LY.ext hx
 clear hx
 refine Qh HC ?_
 refine Qr (g := 11) [6] [_] ⟨rfl, trivial⟩ (by kernel_rfl) (by kernel_rfl) HC ?_
 simp only [Qc, Qd, Qe]
 apply Exists.intro
 refine ⟨fun u hu => ?_, ?_⟩
 ·obtain ⟨k0, k1⟩ := (B1.ext hu).c2
  have lk := (B1.ext hu).lt
  repeat (first | go_big_quiet_skip | (go_big_quiet_want; go_big_quiet_op; go_big_quiet_on))
  refine wpQuiet_nil ?_
  rfl
 refine Qk 7 rfl (by kernel_rfl) ?_
 simp only [Qc, Qd, Qe]
 go_wp2_with (go_at_call 24; (with_reducible refine Calls.mono (Yw _ _ _ _) ?_); rintro e wa ⟨rfl, hx⟩)
 replace HC := HC.trans hx
 try replace LO := LO.ext hx
 try replace LX := LX.ext hx
 try replace LY := LY.ext hx
 clear hx
 refine Qh HC ?_
 refine Qk 8 rfl (by kernel_rfl) ?_
 simp only [Qc, Qd, Qe]
 go_wp2_with (go_at_call 20; (with_reducible refine Calls.mono (Nl _ _ _) ?_); rintro e wa ⟨by', rfl, hx, LY⟩)
 replace HC := HC.trans hx
 try replace LO := LO.ext hx
 try replace LX := LX.ext hx
 clear hx
 refine Qh HC ?_
 refine Qr (g := 8) [9] [_] ⟨rfl, trivial⟩ (by kernel_rfl) (by kernel_rfl) HC ?_
 simp only [Qc, Qd, Qe]
 apply Exists.intro
 refine ⟨fun u hu => ?_, ?_⟩
 ·obtain ⟨k0, k1⟩ := (B1.ext hu).c2
  have lk := (B1.ext hu).lt
  repeat (first | go_big_quiet_skip | (go_big_quiet_want; go_big_quiet_op; go_big_quiet_on))
  refine wpQuiet_nil ?_
  rfl
 refine Qk 10 rfl (by kernel_rfl) ?_
 simp only [Qc, Qd, Qe]
 go_wp2
 obtain ⟨bd, wb, hbq, hwb, HD, HC', hx, _⟩ := Qp HC 57 #[.int .i64 0, .int .i64 1, .bool false, .int .i64 2, .bool true, .string ⟨#[98]⟩, .slice (some ⟨bx, 0, none⟩) 1 1, .int .i64 0, .int .i64 1, .bool false, .int .i64 2, .bool false, .string ⟨#[98]⟩, .slice (some ⟨by', 0, none⟩) 1 1]
 rw [← hbq, ← hwb]
 replace HC := HC'
 try replace LO := LO.ext hx
 try replace LX := LX.ext hx
 try replace LY := LY.ext hx
 clear hbq hwb hx HC'
 refine Qh HC ?_
 refine Qr (g := 6) [11] [_] ⟨rfl, trivial⟩ (by kernel_rfl) (by kernel_rfl) HC ?_
 simp only [Qc, Qd, Qe]
 apply Exists.intro
 refine ⟨fun u hu => ?_, ?_⟩
 ·obtain ⟨k0, k1⟩ := (B1.ext hu).c2
  have lk := (B1.ext hu).lt
  repeat (first | go_big_quiet_skip | (go_big_quiet_want; go_big_quiet_op; go_big_quiet_on))
  refine wpQuiet_nil ?_
  rfl
 refine Qk 12 rfl (by kernel_rfl) ?_
 simp only [Qc, Qd, Qe]
 have NC := Qgs (C.ext HC) LO LX LY HD
 go_wp2_with (go_at_call 43; (with_reducible refine Calls.mono (NC) ?_); rintro e wa ⟨v16, rfl, hx, L16⟩)
 replace HC := HC.trans hx
 clear hx NC
 refine Qh HC ?_
 refine Qr (g := 4) [13] [_] ⟨rfl, trivial⟩ (by kernel_rfl) (by kernel_rfl) HC ?_
 simp only [Qc, Qd, Qe]
 apply Exists.intro
 refine ⟨fun u hu => ?_, ?_⟩
 ·obtain ⟨k0, k1⟩ := (B1.ext hu).c2
  have lk := (B1.ext hu).lt
  repeat (first | go_big_quiet_skip | (go_big_quiet_want; go_big_quiet_op; go_big_quiet_on))
  refine wpQuiet_nil ?_
  rfl
 refine Jw (g := 2) [14, 15] [_, _] ⟨rfl, rfl, trivial⟩ (by kernel_rfl) (by kernel_rfl) ?_
 simp only [Qc, Qd, Qe]
 apply Exists.intro
 refine ⟨fun u hu => ?_, ?_⟩
 ·repeat (first | go_big_quiet_skip | (go_big_quiet_want; go_big_quiet_op; go_big_quiet_on))
  refine wpQuiet_nil ?_
  rfl
 refine Qm 16 rfl (by kernel_rfl) ?_
 simp only [Qc, Qd, Qe]
 go_wp2
 refine Ql ?_
 refine Qm 17 rfl (by kernel_rfl) ?_
 simp only [Qc, Qd, Qe]
 go_wp2
 refine Ql ?_
 refine Qs (by kernel_rfl) ?_
 replace E := E.trans HC
 clear HC LO LX LY HD
 go_wp2_with (first | (go_at_call 20; (with_reducible refine Calls.mono (Nl _ _ _) ?_); rintro e wa ⟨bl, rfl, hx, LL⟩; have NS := C5 _ _ [⟨X9, -5⟩] [⟨X9, -5⟩] _ (L16.ext hx) LL; rw [decide_eq_true (rfl : ([⟨X9, -5⟩] : List Lt) = [⟨X9, -5⟩])] at NS) | (go_at_call 29; (with_reducible refine Calls.mono (NS) ?_); rintro e wz ⟨rfl, hz⟩))
 go_ret
 exact ⟨rfl, (E.trans hx).trans hz⟩
end
end Go.Proofs.YtoflcheopfppoaaGreatDoor
