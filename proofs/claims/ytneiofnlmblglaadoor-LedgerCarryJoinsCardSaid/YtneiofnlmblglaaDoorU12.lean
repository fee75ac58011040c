/- Walks of the program's functions and plain facts, packed; proved: the lemmas below; no conditions but those that each states. -/
import Derived.Test.YtneiofnlmblglaaDoorU11
import Derived.Test.YtneiofnlmblglaaDoorU1
import Derived.SizedLaws
import Derived.LaidSub
import Derived.Test.YtneiofnlmblglaaDoorU9
import Derived.Test.YtneiofnlmblglaaDoorU10
import Derived.Test.YtneiofnlmblglaaDoorU2
import Derived.Deep.OwnRows
import Derived.Laws.MakeOwn
import Derived.Test.YtneiofnlmblglaaDoorU4
import Derived.Test.YtneiofnlmblglaaDoorU3
set_option maxRecDepth 100000
set_option maxHeartbeats 4000000
namespace Go.Proofs.YtneiofnlmblglaaDoor
section
open Go Go.RowKit Go.Shelf
attribute [local go_sem] Zi
attribute [local go_sem high] Qc0 Qcy Qcz
theorem Qd3 {w : World} {b : Nat} (h : Qb w b 90 #[.int .i64 10, .int .i64 1, .int .i64 1, .int .i64 3, .int .i64 5, .int .i64 1, .int .i64 1, .int .i64 1]) : Qo w (some ⟨b, 0, none⟩) 2 4 (J9 t8) := by
 refine Vg h ?_
 intro i j v hi hv
 have hj : j < 4 := (List.getElem?_eq_some_iff.1 hv).1
 rw [← hv]
 have h1 : i = 0 ∨ i = 1 := by omega
 have h2 : j = 0 ∨ j = 1 ∨ j = 2 ∨ j = 3 := by omega
 rcases h1 with rfl | rfl <;> rcases h2 with rfl | rfl | rfl | rfl <;> rfl
theorem V6 {w : World} {b : Nat} (h : Qb w b 94 #[.int .i64 2, .int .i64 1, .int .i64 2, .int .i64 0, .int .i64 1, .bool false, .int .i64 1, .int .i64 0, .int .i64 1, .bool false, .int .i64 30]) : Qo w (some ⟨b, 0, none⟩) 1 11 (Zg w8) := by
 refine Vg h ?_
 intro i j v hi hv
 obtain rfl : i = 0 := by omega
 have hj : j < 11 := (List.getElem?_eq_some_iff.1 hv).1
 rw [← hv]
 have : j = 0 ∨ j = 1 ∨ j = 2 ∨ j = 3 ∨ j = 4 ∨ j = 5 ∨ j = 6 ∨ j = 7 ∨ j = 8 ∨ j = 9 ∨ j = 10 := by omega
 rcases this with rfl | rfl | rfl | rfl | rfl | rfl | rfl | rfl | rfl | rfl | rfl <;> rfl
theorem Fe {A A' : Option Addr} {ca cb : Nat} {w : World} (hC : Q8 w A ca A' cb Yn) {bp : Nat} (hB : Qo w (some ⟨bp, 0, none⟩) 1 6 (J5 p8)) (hZ : Zl w) : Calls Tryd.prog 34 #[.agg #[.slice A 1 ca, .slice A' 3 cb], .agg #[.int .i64 60, .int .i64 1, .int .i64 1, .int .i64 5, .int .i64 0, .int .i64 1, .bool false, .int .i64 1], .slice (some ⟨bp, 0, none⟩) 1 1, .agg #[.int .i64 1, .int .i64 7, .bool false, .int .i64 1]] w fun e w' => e = .returned (.tuple #[.agg #[.int .i64 56, .int .i64 1, .int .i64 56, .int .i64 5, .int .i64 0, .int .i64 1], .int .i64 0]) ∧ Qa w w' := by
 have := Dh A A' ca cb Yn (some ⟨bp, 0, none⟩) 1 1 l8 p8 (by unfold Rt.In; decide) (by unfold Rt.In; decide) (fun i _ => show (Rt.mk 10 1).In by unfold Rt.In; decide) w hC hB (by decide) hZ d8
 rw [Qaj] at this
 exact this
theorem Ff {A A' : Option Addr} {ca cb : Nat} {w : World} (hC : Q8 w A ca A' cb Yn) {bp : Nat} (hB : Qo w (some ⟨bp, 0, none⟩) 1 6 (J5 p8)) (hZ : Zl w) : Calls Tryd.prog 36 #[.agg #[.slice A 1 ca, .slice A' 3 cb], .agg #[.int .i64 60, .int .i64 1, .int .i64 1, .int .i64 5, .int .i64 0, .int .i64 1, .bool false, .int .i64 1], .slice (some ⟨bp, 0, none⟩) 1 1, .agg #[.int .i64 1, .int .i64 7, .bool false, .int .i64 1]] w fun e w' => e = .returned (.tuple #[.agg #[.int .i64 336, .int .i64 5], .int .i64 0]) ∧ Qa w w' := by
 have := Qec A A' ca cb Yn (some ⟨bp, 0, none⟩) 1 1 l8 p8 (by unfold Rt.In; decide) (by unfold Rt.In; decide) (fun i _ => show (Rt.mk 10 1).In by unfold Rt.In; decide) w hC hB (by decide) hZ d8
 rw [Qak] at this
 exact this
theorem Bw : ∀ i, i < 2 → (t8 i).a.In ∧ (t8 i).r.In := fun i hi => by
 have : i = 0 ∨ i = 1 := by omega
 rcases this with rfl | rfl <;> (unfold Rt.In; decide)
theorem Kb {A A' : Option Addr} {ca cb : Nat} {w : World} (hC : Q8 w A ca A' cb Yn) {bt bc : Nat} (hT : Qo w (some ⟨bt, 0, none⟩) 2 4 (J9 t8)) (hS : Qo w (some ⟨bc, 0, none⟩) 1 11 (Zg w8)) (hZ : Zl w) : Calls Tryd.prog 37 #[.agg #[.slice A 1 ca, .slice A' 3 cb], .slice (some ⟨bt, 0, none⟩) 2 2, .slice (some ⟨bc, 0, none⟩) 1 1] w fun e w' => e = .returned (.tuple #[.agg #[.int .i64 (-5), .int .i64 1], .int .i64 0]) ∧ Qa w w' := by
 have := Aw A A' ca cb Yn (some ⟨bt, 0, none⟩) 2 2 t8 (some ⟨bc, 0, none⟩) 1 1 w8 w hC Bw hT (by decide) (fun i _ => ⟨show (Rt.mk 1 2).In by unfold Rt.In; decide, show (-9223372036854775808 : Int) ≤ 2 by decide, show (2 : Int) ≤ 9223372036854775807 by decide⟩) hS (by decide) hZ
 rw [e8_bal] at this
 exact this
theorem w8_few {A A' : Option Addr} {ca cb : Nat} {w : World} (hC : Q8 w A ca A' cb Yn) {bt : Nat} (hT : Qo w (some ⟨bt, 0, none⟩) 2 4 (J9 t8)) (hZ : Zl w) : Calls Tryd.prog 38 #[.agg #[.slice A 1 ca, .slice A' 3 cb], .slice (some ⟨bt, 0, none⟩) 2 2, .agg #[.int .i64 1, .int .i64 2], .agg #[.int .i64 0, .int .i64 1, .bool false, .int .i64 1], .agg #[.int .i64 0, .int .i64 1, .bool false, .int .i64 30]] w fun e w' => e = .returned (.tuple #[.int .i64 3, .int .i64 0]) ∧ Qa w w' := by
 have := Qav A A' ca cb Yn (some ⟨bt, 0, none⟩) 2 2 t8 ⟨1, 2⟩ (by unfold Rt.In; decide) f8 u8' w hC Bw hT (by decide) hZ
 rw [e8_few] at this
 exact this
theorem Qe2 (w : World) : Calls Tryd.prog 39 #[.agg #[.int .i64 10, .int .i64 2, .int .i64 5], .agg #[.int .i64 4, .int .i64 5], .agg #[.int .i64 1, .int .i64 10], .int .i64 1] w fun e w' => e = .returned (.tuple #[.agg #[.int .i64 12, .int .i64 4, .int .i64 7], .int .i64 0]) ∧ Qa w w' := by
 have := Qa1 h8 ⟨4, 5⟩ ⟨1, 10⟩ 1 (by unfold Rt.In; decide) (by unfold Rt.In; decide) (by decide) (by decide) w
 rw [Qai] at this
 exact this
theorem Qe1 {A A' : Option Addr} {ca cb : Nat} {w : World} (hC : Q8 w A ca A' cb Yn) {o x y d : Nat} (hO : Zf w (.slice (some ⟨o, 0, none⟩) 1 1) [⟨Xt, 10⟩]) (hX : Zf w (.slice (some ⟨x, 0, none⟩) 1 1) [⟨Xt, 5⟩]) (hY : Zf w (.slice (some ⟨y, 0, none⟩) 1 1) [⟨Xt, 20⟩]) (hD : Qb w d 67 #[.int .i64 0, .int .i64 1, .bool false, .int .i64 2, .bool true, .string ⟨#[98]⟩, .slice (some ⟨x, 0, none⟩) 1 1, .int .i64 0, .int .i64 1, .bool false, .int .i64 2, .bool false, .string ⟨#[98]⟩, .slice (some ⟨y, 0, none⟩) 1 1]) :
  Calls Tryd.prog 6 #[.agg #[.slice A 1 ca, .slice A' 3 cb], .agg #[.string ⟨#[97]⟩, .int .i64 0, .int .i64 1, .bool false, .int .i64 1, .int .i64 0, .int .i64 1, .bool false, .int .i64 30, .slice (some ⟨o, 0, none⟩) 1 1, .slice (some ⟨d, 0, none⟩) 2 2, .slice none 0 0]] w fun e w' => ∃ v, e = .returned (.tuple #[v, .int .i64 0]) ∧ Qa w w' ∧ Zf w' v [⟨Xt, -5⟩] := by
 have hDl : J2 w (.slice (some ⟨d, 0, none⟩) 2 2) pd8.d := by
  refine ⟨some ⟨d, 0, none⟩, 2, fun i => if i = 0 then .slice (some ⟨x, 0, none⟩) 1 1 else .slice (some ⟨y, 0, none⟩) 1 1, rfl, ?_, Nat.le_refl _, by decide, fun h => (by cases h), ?_⟩
  ·refine Vg hD ?_
   intro i j v hi hv
   have hi : i < 2 := hi
   have hj : j < 7 := (List.getElem?_eq_some_iff.1 hv).1
   rw [← hv]
   have h1 : i = 0 ∨ i = 1 := by omega
   have h2 : j = 0 ∨ j = 1 ∨ j = 2 ∨ j = 3 ∨ j = 4 ∨ j = 5 ∨ j = 6 := by omega
   rcases h1 with rfl | rfl <;> rcases h2 with rfl | rfl | rfl | rfl | rfl | rfl | rfl <;> rfl
  ·intro i hi
   have hi : i < 2 := hi
   have h1 : i = 0 ∨ i = 1 := by omega
   rcases h1 with rfl | rfl
   ·exact hX
   ·exact hY
 have := Kr A A' ca cb Yn pd8 _ _ _ w hC ⟨hO, hDl, Vw w⟩
 rw [Qah] at this
 exact this
theorem Kc (w : World) (hZ : Zl w) :
  Calls Tryd.prog 13 #[] w fun e w' => e = .returned (.bool true) ∧ Qa w w' := by
 go_enter Tryd.func13, Tryd.ntmps13
 go_upto_region 2 with (go_at_call 30; (with_reducible refine Calls.mono (Ef _) ?_); rintro e w1 ⟨A, A', ca, cb, rfl, h1, C⟩)
 obtain ⟨v1, hv⟩ := Qg (w1.alloc (.cells #[.slice A 1 ca, .slice A' 3 cb] 25))
 rw [← hv]
 have h2 : Qa w1 v1 := by rw [hv]; exact (Qa.refl _).alloc _
 have B1 : Qb v1 w1.heap.size 25 #[.slice A 1 ca, .slice A' 3 cb] := by rw [hv]; exact Qb.new _ _ _
 clear hv
 generalize w1.heap.size = b1 at *
 have E := h1.trans h2
 replace C := C.ext h2
 have Z := hZ.ext E
 clear h1 h2 hZ
 have NI := fun w hz => Oz ⟨60, 1⟩ ⟨1, 5⟩ 180 (by unfold Rt.In; decide) (by unfold Rt.In; decide) (by decide) (by decide) w hz
 simp only [e8_int] at NI
 go_upto_region 3 with (first | (go_at_call 31; (with_reducible refine Calls.mono (Wa _ _ _) ?_); rintro e wa ⟨rfl, hx⟩; replace E := E.trans hx; replace C := C.ext hx; replace Z := Z.ext hx; replace B1 := B1.ext hx; clear hx) | (go_at_call 19; (with_reducible refine Calls.mono (NI _ Z) ?_); rintro e w2 ⟨rfl, hx⟩; replace E := E.trans hx; replace C := C.ext hx; replace Z := Z.ext hx; replace B1 := B1.ext hx; clear hx))
 obtain ⟨v2, hv⟩ := Qg (w2.alloc (.cells #[.int .i64 6, .int .i64 1] 61))
 rw [← hv]
 have h2 : Qa w2 v2 := by rw [hv]; exact (Qa.refl _).alloc _
 have B2 : Qb v2 w2.heap.size 61 #[.int .i64 6, .int .i64 1] := by rw [hv]; exact Qb.new _ _ _
 clear hv
 generalize w2.heap.size = b2 at *
 replace E := E.trans h2
 replace C := C.ext h2
 replace Z := Z.ext h2
 replace B1 := B1.ext h2
 clear h2
 have ND := fun w => Qaf ⟨1, 3⟩ (by unfold Rt.In; decide) w
 simp only [e8_dbl] at ND
 clear NI
 go_upto_region 4 with (first | (go_at_call 31; (with_reducible refine Calls.mono (Wa _ _ _) ?_); rintro e wa ⟨rfl, hx⟩; replace E := E.trans hx; replace C := C.ext hx; replace Z := Z.ext hx; replace B1 := B1.ext hx; replace B2 := B2.ext hx; clear hx) | (go_at_call 32; (with_reducible refine Calls.mono (ND _) ?_); rintro e w3 ⟨rfl, hx⟩; replace E := E.trans hx; replace C := C.ext hx; replace Z := Z.ext hx; replace B1 := B1.ext hx; replace B2 := B2.ext hx; clear hx))
 clear ND
 go_upto_region 5 with (go_at_call 33; (with_reducible refine Calls.mono (Qb3 _) ?_); rintro e w4 ⟨bp, rfl, hx, PR⟩; replace E := E.trans hx; replace C := C.ext hx; replace Z := Z.ext hx; replace B1 := B1.ext hx; replace B2 := B2.ext hx; clear hx)
 obtain ⟨v4, hv⟩ := Qg (w4.alloc (.cells #[.int .i64 60, .int .i64 1, .int .i64 1, .int .i64 5, .int .i64 0, .int .i64 1, .bool false, .int .i64 1] 79))
 rw [← hv]
 have h2 : Qa w4 v4 := by rw [hv]; exact (Qa.refl _).alloc _
 have B4 : Qb v4 w4.heap.size 79 #[.int .i64 60, .int .i64 1, .int .i64 1, .int .i64 5, .int .i64 0, .int .i64 1, .bool false, .int .i64 1] := by rw [hv]; exact Qb.new _ _ _
 clear hv
 generalize w4.heap.size = b4 at *
 replace E := E.trans h2
 replace PR := PR.ext h2
 replace C := C.ext h2
 replace Z := Z.ext h2
 replace B1 := B1.ext h2
 replace B2 := B2.ext h2
 clear h2
 go_upto_region 5 with (fail)
 apply Ut (S := fun w' r => Qa v4 w' ∧ Qb w' r 84 #[.int .i64 56, .int .i64 1, .int .i64 56, .int .i64 5, .int .i64 0, .int .i64 1])
 ·refine Q5 11 [6, 7, 9, 10] (fun x => Qa v4 x) Qr rfl ?_
  intro vz hvz
  have HC := hvz
  refine Qp (g := 8) [0, 1, 2] [_, _, _] ⟨rfl, rfl, rfl, trivial⟩ (by kernel_rfl) (by kernel_rfl) HC ?_
  simp only [Qd, Qe, Qf]
  apply Exists.intro
  refine ⟨fun u hu => ?_, ?_⟩
  ·obtain ⟨k0, k1⟩ := (B1.ext hu).c2
   have lk := (B1.ext hu).lt
   obtain ⟨p0, p1, p2, p3, p4, p5, p6, p7⟩ := (B4.ext hu).c8
   have lp := (B4.ext hu).lt
   repeat (first | go_big_quiet_skip | (go_big_quiet_want; go_big_quiet_op; go_big_quiet_on))
   refine wpQuiet_nil ?_
   rfl
  refine Zn 3 8 rfl rfl (by kernel_rfl) ?_ ?_
  ·simp only [Qd, Qe, Qf]
   go_wp2_with (go_at_call 35; (with_reducible refine Calls.mono (Yh _ _ _ _) ?_); rintro e wa ⟨rfl, hx⟩)
   replace HC := HC.trans hx
   try replace H5 := H5.ext hx
   clear hx
   refine Qi HC ?_
   refine Zn 4 8 rfl rfl (by kernel_rfl) ?_ ?_
   ·simp only [Qd, Qe, Qf]
    go_wp2_with (go_at_call 34; (with_reducible refine Calls.mono (Fe (C.ext HC) (PR.ext HC) (Z.ext HC)) ?_); rintro e wa ⟨rfl, hx⟩)
    replace HC := HC.trans hx
    try replace H5 := H5.ext hx
    clear hx
    refine Qi HC ?_
    refine Qp (g := 5) [5] [_] ⟨rfl, trivial⟩ (by kernel_rfl) (by kernel_rfl) HC ?_
    simp only [Qd, Qe, Qf]
    apply Exists.intro
    refine ⟨fun u hu => ?_, ?_⟩
    ·obtain ⟨k0, k1⟩ := (B1.ext hu).c2
     have lk := (B1.ext hu).lt
     obtain ⟨p0, p1, p2, p3, p4, p5, p6, p7⟩ := (B4.ext hu).c8
     have lp := (B4.ext hu).lt
     repeat (first | go_big_quiet_skip | (go_big_quiet_want; go_big_quiet_op; go_big_quiet_on))
     refine wpQuiet_nil ?_
     rfl
    refine Jg (g := 3) [6, 7] [_, _] ⟨rfl, rfl, trivial⟩ (by kernel_rfl) (by kernel_rfl) ?_
    simp only [Qd, Qe, Qf]
    apply Exists.intro
    refine ⟨fun u hu => ?_, ?_⟩
    ·repeat (first | go_big_quiet_skip | (go_big_quiet_want; go_big_quiet_op; go_big_quiet_on))
     refine wpQuiet_nil ?_
     rfl
    refine Qj 8 rfl (by kernel_rfl) ?_
    simp only [Qd, Qe, Qf]
    go_wp2
    obtain ⟨b9, wb, hbq, hwb, H5, HC', hx, g5⟩ := Q0 HC 84 #[.int .i64 0, .int .i64 0, .int .i64 0, .int .i64 0, .int .i64 0, .int .i64 0]
    rw [← hbq, ← hwb]
    replace HC := HC'
    clear hbq hwb hx HC'
    refine Qi HC ?_
    refine Qn 9 rfl (by kernel_rfl) ?_
    simp only [Qd, Qe, Qf]
    have z0 := H5.frozen 0
    have z1 := H5.frozen 1
    have z2 := H5.frozen 2
    have z3 := H5.frozen 3
    have z4 := H5.frozen 4
    have z5 := H5.frozen 5
    obtain ⟨x0, x1, x2, x3, x4, x5⟩ := H5.c6
    have lx := H5.lt
    go_wp2
    have H6 := Yg H5 (.int .i64 56) (.int .i64 1) (.int .i64 56) (.int .i64 5) (.int .i64 0) (.int .i64 1)
    replace HC := Yf HC g5 (.int .i64 56) (.int .i64 1) (.int .i64 56) (.int .i64 5) (.int .i64 0) (.int .i64 1)
    clear z0 x0 z1 x1 z2 x2 z3 x3 z4 x4 z5 x5 lx H5
    generalize World.setCell _ _ _ = wq at *
    refine Qm ?_
    refine Qn 10 rfl (by kernel_rfl) ?_
    simp only [Qd, Qe, Qf]
    go_wp2
    refine Qm ?_
    refine Qt (by kernel_rfl) ?_
    exact Jw b9 ⟨HC, H6⟩ rfl
   ·simp only [Qd, Qe, Qf]
    go_wp2
    obtain ⟨b9, wb, hbq, hwb, H5, HC', hx, g5⟩ := Q0 HC 84 #[.int .i64 0, .int .i64 0, .int .i64 0, .int .i64 0, .int .i64 0, .int .i64 0]
    rw [← hbq, ← hwb]
    replace HC := HC'
    clear hbq hwb hx HC'
    refine Qi HC ?_
    refine Qj 4 rfl (by kernel_rfl) ?_
    simp only [Qd, Qe, Qf]
    go_wp2_with (go_at_call 34; (with_reducible refine Calls.mono (Fe (C.ext HC) (PR.ext HC) (Z.ext HC)) ?_); rintro e wa ⟨rfl, hx⟩)
    replace HC := HC.trans hx
    try replace H5 := H5.ext hx
    clear hx
    refine Qi HC ?_
    refine Qp (g := 4) [5] [_] ⟨rfl, trivial⟩ (by kernel_rfl) (by kernel_rfl) HC ?_
    simp only [Qd, Qe, Qf]
    apply Exists.intro
    refine ⟨fun u hu => ?_, ?_⟩
    ·obtain ⟨k0, k1⟩ := (B1.ext hu).c2
     have lk := (B1.ext hu).lt
     obtain ⟨p0, p1, p2, p3, p4, p5, p6, p7⟩ := (B4.ext hu).c8
     have lp := (B4.ext hu).lt
     repeat (first | go_big_quiet_skip | (go_big_quiet_want; go_big_quiet_op; go_big_quiet_on))
     refine wpQuiet_nil ?_
     rfl
    refine Jg (g := 2) [6, 7] [_, _] ⟨rfl, rfl, trivial⟩ (by kernel_rfl) (by kernel_rfl) ?_
    simp only [Qd, Qe, Qf]
    apply Exists.intro
    refine ⟨fun u hu => ?_, ?_⟩
    ·repeat (first | go_big_quiet_skip | (go_big_quiet_want; go_big_quiet_op; go_big_quiet_on))
     refine wpQuiet_nil ?_
     rfl
    refine Qn 9 rfl (by kernel_rfl) ?_
    simp only [Qd, Qe, Qf]
    have z0 := H5.frozen 0
    have z1 := H5.frozen 1
    have z2 := H5.frozen 2
    have z3 := H5.frozen 3
    have z4 := H5.frozen 4
    have z5 := H5.frozen 5
    obtain ⟨x0, x1, x2, x3, x4, x5⟩ := H5.c6
    have lx := H5.lt
    go_wp2
    have H6 := Yg H5 (.int .i64 56) (.int .i64 1) (.int .i64 56) (.int .i64 5) (.int .i64 0) (.int .i64 1)
    replace HC := Yf HC g5 (.int .i64 56) (.int .i64 1) (.int .i64 56) (.int .i64 5) (.int .i64 0) (.int .i64 1)
    clear z0 x0 z1 x1 z2 x2 z3 x3 z4 x4 z5 x5 lx H5
    generalize World.setCell _ _ _ = wq at *
    refine Qm ?_
    refine Qn 10 rfl (by kernel_rfl) ?_
    simp only [Qd, Qe, Qf]
    go_wp2
    refine Qm ?_
    refine Qt (by kernel_rfl) ?_
    exact Jw b9 ⟨HC, H6⟩ rfl
  ·simp only [Qd, Qe, Qf]
   go_wp2
   obtain ⟨b9, wb, hbq, hwb, H5, HC', hx, g5⟩ := Q0 HC 84 #[.int .i64 0, .int .i64 0, .int .i64 0, .int .i64 0, .int .i64 0, .int .i64 0]
   rw [← hbq, ← hwb]
   replace HC := HC'
   clear hbq hwb hx HC'
   refine Qi HC ?_
   refine Qj 3 rfl (by kernel_rfl) ?_
   simp only [Qd, Qe, Qf]
   go_wp2_with (go_at_call 35; (with_reducible refine Calls.mono (Yh _ _ _ _) ?_); rintro e wa ⟨rfl, hx⟩)
   replace HC := HC.trans hx
   try replace H5 := H5.ext hx
   clear hx
   refine Qi HC ?_
   refine Qj 4 rfl (by kernel_rfl) ?_
   simp only [Qd, Qe, Qf]
   go_wp2_with (go_at_call 34; (with_reducible refine Calls.mono (Fe (C.ext HC) (PR.ext HC) (Z.ext HC)) ?_); rintro e wa ⟨rfl, hx⟩)
   replace HC := HC.trans hx
   try replace H5 := H5.ext hx
   clear hx
   refine Qi HC ?_
   refine Qp (g := 4) [5] [_] ⟨rfl, trivial⟩ (by kernel_rfl) (by kernel_rfl) HC ?_
   simp only [Qd, Qe, Qf]
   apply Exists.intro
   refine ⟨fun u hu => ?_, ?_⟩
   ·obtain ⟨k0, k1⟩ := (B1.ext hu).c2
    have lk := (B1.ext hu).lt
    obtain ⟨p0, p1, p2, p3, p4, p5, p6, p7⟩ := (B4.ext hu).c8
    have lp := (B4.ext hu).lt
    repeat (first | go_big_quiet_skip | (go_big_quiet_want; go_big_quiet_op; go_big_quiet_on))
    refine wpQuiet_nil ?_
    rfl
   refine Jg (g := 2) [6, 7] [_, _] ⟨rfl, rfl, trivial⟩ (by kernel_rfl) (by kernel_rfl) ?_
   simp only [Qd, Qe, Qf]
   apply Exists.intro
   refine ⟨fun u hu => ?_, ?_⟩
   ·repeat (first | go_big_quiet_skip | (go_big_quiet_want; go_big_quiet_op; go_big_quiet_on))
    refine wpQuiet_nil ?_
    rfl
   refine Qn 9 rfl (by kernel_rfl) ?_
   simp only [Qd, Qe, Qf]
   have z0 := H5.frozen 0
   have z1 := H5.frozen 1
   have z2 := H5.frozen 2
   have z3 := H5.frozen 3
   have z4 := H5.frozen 4
   have z5 := H5.frozen 5
   obtain ⟨x0, x1, x2, x3, x4, x5⟩ := H5.c6
   have lx := H5.lt
   go_wp2
   have H6 := Yg H5 (.int .i64 56) (.int .i64 1) (.int .i64 56) (.int .i64 5) (.int .i64 0) (.int .i64 1)
   replace HC := Yf HC g5 (.int .i64 56) (.int .i64 1) (.int .i64 56) (.int .i64 5) (.int .i64 0) (.int .i64 1)
   clear z0 x0 z1 x1 z2 x2 z3 x3 z4 x4 z5 x5 lx H5
   generalize World.setCell _ _ _ = wq at *
   refine Qm ?_
   refine Qn 10 rfl (by kernel_rfl) ?_
   simp only [Qd, Qe, Qf]
   go_wp2
   refine Qm ?_
   refine Qt (by kernel_rfl) ?_
   exact Jw b9 ⟨HC, H6⟩ rfl
 rintro b5 v5 ⟨h2, B5⟩
 replace E := E.trans h2
 replace C := C.ext h2
 replace Z := Z.ext h2
 replace B1 := B1.ext h2
 replace B2 := B2.ext h2
 replace PR := PR.ext h2
 replace B4 := B4.ext h2
 clear h2
 go_upto_region 6 with (fail)
 apply Ut (S := fun w' r => Qa v5 w' ∧ Qb w' r 61 #[.int .i64 336, .int .i64 5])
 ·refine Q5 11 [6, 7, 9, 10] (fun x => Qa v5 x) Qr rfl ?_
  intro vz hvz
  have HC := hvz
  refine Qp (g := 8) [0, 1, 2] [_, _, _] ⟨rfl, rfl, rfl, trivial⟩ (by kernel_rfl) (by kernel_rfl) HC ?_
  simp only [Qd, Qe, Qf]
  apply Exists.intro
  refine ⟨fun u hu => ?_, ?_⟩
  ·obtain ⟨k0, k1⟩ := (B1.ext hu).c2
   have lk := (B1.ext hu).lt
   obtain ⟨p0, p1, p2, p3, p4, p5, p6, p7⟩ := (B4.ext hu).c8
   have lp := (B4.ext hu).lt
   repeat (first | go_big_quiet_skip | (go_big_quiet_want; go_big_quiet_op; go_big_quiet_on))
   refine wpQuiet_nil ?_
   rfl
  refine Zn 3 8 rfl rfl (by kernel_rfl) ?_ ?_
  ·simp only [Qd, Qe, Qf]
   go_wp2_with (go_at_call 35; (with_reducible refine Calls.mono (Yh _ _ _ _) ?_); rintro e wa ⟨rfl, hx⟩)
   replace HC := HC.trans hx
   try replace H5 := H5.ext hx
   clear hx
   refine Qi HC ?_
   refine Zn 4 8 rfl rfl (by kernel_rfl) ?_ ?_
   ·simp only [Qd, Qe, Qf]
    go_wp2_with (go_at_call 36; (with_reducible refine Calls.mono (Ff (C.ext HC) (PR.ext HC) (Z.ext HC)) ?_); rintro e wa ⟨rfl, hx⟩)
    replace HC := HC.trans hx
    try replace H5 := H5.ext hx
    clear hx
    refine Qi HC ?_
    refine Qp (g := 5) [5] [_] ⟨rfl, trivial⟩ (by kernel_rfl) (by kernel_rfl) HC ?_
    simp only [Qd, Qe, Qf]
    apply Exists.intro
    refine ⟨fun u hu => ?_, ?_⟩
    ·obtain ⟨k0, k1⟩ := (B1.ext hu).c2
     have lk := (B1.ext hu).lt
     obtain ⟨p0, p1, p2, p3, p4, p5, p6, p7⟩ := (B4.ext hu).c8
     have lp := (B4.ext hu).lt
     repeat (first | go_big_quiet_skip | (go_big_quiet_want; go_big_quiet_op; go_big_quiet_on))
     refine wpQuiet_nil ?_
     rfl
    refine Jg (g := 3) [6, 7] [_, _] ⟨rfl, rfl, trivial⟩ (by kernel_rfl) (by kernel_rfl) ?_
    simp only [Qd, Qe, Qf]
    apply Exists.intro
    refine ⟨fun u hu => ?_, ?_⟩
    ·repeat (first | go_big_quiet_skip | (go_big_quiet_want; go_big_quiet_op; go_big_quiet_on))
     refine wpQuiet_nil ?_
     rfl
    refine Qj 8 rfl (by kernel_rfl) ?_
    simp only [Qd, Qe, Qf]
    go_wp2
    obtain ⟨b9, wb, hbq, hwb, H5, HC', hx, g5⟩ := Q0 HC 61 #[.int .i64 0, .int .i64 0]
    rw [← hbq, ← hwb]
    replace HC := HC'
    clear hbq hwb hx HC'
    refine Qi HC ?_
    refine Qn 9 rfl (by kernel_rfl) ?_
    simp only [Qd, Qe, Qf]
    have z0 := H5.frozen 0
    have z1 := H5.frozen 1
    obtain ⟨x0, x1⟩ := H5.c2
    have lx := H5.lt
    go_wp2
    have H6 := Ql H5 (.int .i64 336) (.int .i64 5)
    replace HC := (HC.setCell (p := ⟨b9, 0, none⟩) g5 (.int .i64 336)).setCell (p := ⟨b9, 1, none⟩) g5 (.int .i64 5)
    clear z0 x0 z1 x1 lx H5
    generalize World.setCell _ _ _ = wq at *
    refine Qm ?_
    refine Qn 10 rfl (by kernel_rfl) ?_
    simp only [Qd, Qe, Qf]
    go_wp2
    refine Qm ?_
    refine Qt (by kernel_rfl) ?_
    exact Jw b9 ⟨HC, H6⟩ rfl
   ·simp only [Qd, Qe, Qf]
    go_wp2
    obtain ⟨b9, wb, hbq, hwb, H5, HC', hx, g5⟩ := Q0 HC 61 #[.int .i64 0, .int .i64 0]
    rw [← hbq, ← hwb]
    replace HC := HC'
    clear hbq hwb hx HC'
    refine Qi HC ?_
    refine Qj 4 rfl (by kernel_rfl) ?_
    simp only [Qd, Qe, Qf]
    go_wp2_with (go_at_call 36; (with_reducible refine Calls.mono (Ff (C.ext HC) (PR.ext HC) (Z.ext HC)) ?_); rintro e wa ⟨rfl, hx⟩)
    replace HC := HC.trans hx
    try replace H5 := H5.ext hx
    clear hx
    refine Qi HC ?_
    refine Qp (g := 4) [5] [_] ⟨rfl, trivial⟩ (by kernel_rfl) (by kernel_rfl) HC ?_
    simp only [Qd, Qe, Qf]
    apply Exists.intro
    refine ⟨fun u hu => ?_, ?_⟩
    ·obtain ⟨k0, k1⟩ := (B1.ext hu).c2
     have lk := (B1.ext hu).lt
     obtain ⟨p0, p1, p2, p3, p4, p5, p6, p7⟩ := (B4.ext hu).c8
     have lp := (B4.ext hu).lt
     repeat (first | go_big_quiet_skip | (go_big_quiet_want; go_big_quiet_op; go_big_quiet_on))
     refine wpQuiet_nil ?_
     rfl
    refine Jg (g := 2) [6, 7] [_, _] ⟨rfl, rfl, trivial⟩ (by kernel_rfl) (by kernel_rfl) ?_
    simp only [Qd, Qe, Qf]
    apply Exists.intro
    refine ⟨fun u hu => ?_, ?_⟩
    ·repeat (first | go_big_quiet_skip | (go_big_quiet_want; go_big_quiet_op; go_big_quiet_on))
     refine wpQuiet_nil ?_
     rfl
    refine Qn 9 rfl (by kernel_rfl) ?_
    simp only [Qd, Qe, Qf]
    have z0 := H5.frozen 0
    have z1 := H5.frozen 1
    obtain ⟨x0, x1⟩ := H5.c2
    have lx := H5.lt
    go_wp2
    have H6 := Ql H5 (.int .i64 336) (.int .i64 5)
    replace HC := (HC.setCell (p := ⟨b9, 0, none⟩) g5 (.int .i64 336)).setCell (p := ⟨b9, 1, none⟩) g5 (.int .i64 5)
    clear z0 x0 z1 x1 lx H5
    generalize World.setCell _ _ _ = wq at *
    refine Qm ?_
    refine Qn 10 rfl (by kernel_rfl) ?_
    simp only [Qd, Qe, Qf]
    go_wp2
    refine Qm ?_
    refine Qt (by kernel_rfl) ?_
    exact Jw b9 ⟨HC, H6⟩ rfl
  ·simp only [Qd, Qe, Qf]
   go_wp2
   obtain ⟨b9, wb, hbq, hwb, H5, HC', hx, g5⟩ := Q0 HC 61 #[.int .i64 0, .int .i64 0]
   rw [← hbq, ← hwb]
   replace HC := HC'
   clear hbq hwb hx HC'
   refine Qi HC ?_
   refine Qj 3 rfl (by kernel_rfl) ?_
   simp only [Qd, Qe, Qf]
   go_wp2_with (go_at_call 35; (with_reducible refine Calls.mono (Yh _ _ _ _) ?_); rintro e wa ⟨rfl, hx⟩)
   replace HC := HC.trans hx
   try replace H5 := H5.ext hx
   clear hx
   refine Qi HC ?_
   refine Qj 4 rfl (by kernel_rfl) ?_
   simp only [Qd, Qe, Qf]
   go_wp2_with (go_at_call 36; (with_reducible refine Calls.mono (Ff (C.ext HC) (PR.ext HC) (Z.ext HC)) ?_); rintro e wa ⟨rfl, hx⟩)
   replace HC := HC.trans hx
   try replace H5 := H5.ext hx
   clear hx
   refine Qi HC ?_
   refine Qp (g := 4) [5] [_] ⟨rfl, trivial⟩ (by kernel_rfl) (by kernel_rfl) HC ?_
   simp only [Qd, Qe, Qf]
   apply Exists.intro
   refine ⟨fun u hu => ?_, ?_⟩
   ·obtain ⟨k0, k1⟩ := (B1.ext hu).c2
    have lk := (B1.ext hu).lt
    obtain ⟨p0, p1, p2, p3, p4, p5, p6, p7⟩ := (B4.ext hu).c8
    have lp := (B4.ext hu).lt
    repeat (first | go_big_quiet_skip | (go_big_quiet_want; go_big_quiet_op; go_big_quiet_on))
    refine wpQuiet_nil ?_
    rfl
   refine Jg (g := 2) [6, 7] [_, _] ⟨rfl, rfl, trivial⟩ (by kernel_rfl) (by kernel_rfl) ?_
   simp only [Qd, Qe, Qf]
   apply Exists.intro
   refine ⟨fun u hu => ?_, ?_⟩
   ·repeat (first | go_big_quiet_skip | (go_big_quiet_want; go_big_quiet_op; go_big_quiet_on))
    refine wpQuiet_nil ?_
    rfl
   refine Qn 9 rfl (by kernel_rfl) ?_
   simp only [Qd, Qe, Qf]
   have z0 := H5.frozen 0
   have z1 := H5.frozen 1
   obtain ⟨x0, x1⟩ := H5.c2
   have lx := H5.lt
   go_wp2
   have H6 := Ql H5 (.int .i64 336) (.int .i64 5)
   replace HC := (HC.setCell (p := ⟨b9, 0, none⟩) g5 (.int .i64 336)).setCell (p := ⟨b9, 1, none⟩) g5 (.int .i64 5)
   clear z0 x0 z1 x1 lx H5
   generalize World.setCell _ _ _ = wq at *
   refine Qm ?_
   refine Qn 10 rfl (by kernel_rfl) ?_
   simp only [Qd, Qe, Qf]
   go_wp2
   refine Qm ?_
   refine Qt (by kernel_rfl) ?_
   exact Jw b9 ⟨HC, H6⟩ rfl
 rintro b6 v6 ⟨h2, B6⟩
 replace E := E.trans h2
 replace C := C.ext h2
 replace Z := Z.ext h2
 replace B1 := B1.ext h2
 replace B2 := B2.ext h2
 replace PR := PR.ext h2
 replace B4 := B4.ext h2
 replace B5 := B5.ext h2
 clear h2
 clear PR B4
 go_upto_region 7 with (fail)
 obtain ⟨k0, k1⟩ := B2.c2
 have lk := B2.lt
 obtain ⟨x0, x1, x2, x3, x4, x5⟩ := B5.c6
 have lx := B5.lt
 obtain ⟨y0, y1⟩ := B6.c2
 have ly := B6.lt
 refine Zr v6 Qr (by kernel_rfl) (by repeat (first | exact Qa.refl _ | (refine Qa.alloc ?_ _) | (refine Qa.trans ?_ (by assumption)))) ?_
 intro hne hrx hry
 try simp only []
 try simp only [List.append_eq, List.cons_append, List.nil_append]
 skip
 repeat (first
  | go_big_quiet_skip
  | (go_big_quiet_want; go_big_quiet_op; go_big_quiet_on)
  | (go_big_quiet_want; go_big_quiet_op; apply Exists.intro; refine ⟨fun u => ?_, ?_⟩
     ·first
       | (go_at_call 31; (with_reducible refine Calls.mono (Wa _ _ _) ?_); rintro e w' ⟨rfl, hb⟩; exact ⟨rfl, u.back hb⟩)
     go_big_quiet_on))
 clear hne hry hrx
 refine wpQuiet_nil ?_
 intro v7 h2
 obtain ⟨hcv7, hfv7, hzv7⟩ := Qa.rules h2
 try simp only [World.size_alloc] at hzv7
 obtain ⟨hcbv7, hfbv7, hzbv7⟩ := Qa.rules (show Qa v6 v7 from (by repeat (first | exact Qa.refl _ | (refine Qa.alloc ?_ _) | (refine Qa.trans ?_ (by assumption)))))
 clear hcv7 hfv7
 replace E := E.trans h2
 replace C := C.ext h2
 replace Z := Z.ext h2
 replace B1 := B1.ext h2
 replace B2 := B2.ext h2
 replace B5 := B5.ext h2
 replace B6 := B6.ext h2
 clear h2
 clear k0 k1 lk x0 x1 x2 x3 x4 x5 lx y0 y1 ly B2 B5 B6
 go_upto_region 10 with (go_at_call 31; (with_reducible refine Calls.mono (Wa _ _ _) ?_); rintro e wa ⟨rfl, hx⟩; replace E := E.trans hx; replace C := C.ext hx; replace Z := Z.ext hx; replace B1 := B1.ext hx; clear hx)
 obtain ⟨v9, hv⟩ := Qg (wa.alloc (.cells #[.int .i64 10, .int .i64 1, .int .i64 1, .int .i64 3, .int .i64 5, .int .i64 1, .int .i64 1, .int .i64 1] 90))
 rw [← hv]
 have h2 : Qa wa v9 := by rw [hv]; exact (Qa.refl _).alloc _
 have B7 : Qb v9 wa.heap.size 90 #[.int .i64 10, .int .i64 1, .int .i64 1, .int .i64 3, .int .i64 5, .int .i64 1, .int .i64 1, .int .i64 1] := by rw [hv]; exact Qb.new _ _ _
 clear hv
 generalize wa.heap.size = b7 at *
 have PT := Qd3 B7
 clear B7
 replace E := E.trans h2
 replace C := C.ext h2
 replace Z := Z.ext h2
 replace B1 := B1.ext h2
 clear h2
 go_upto_region 10 with (fail)
 apply W9 (S := fun w' r _ => Qa v9 w' ∧ Qb w' r 61 #[.int .i64 (-5), .int .i64 1])
 ·refine Q5 14 [9, 10, 12, 13] (fun x => Qa v9 x) Qr rfl ?_
  intro vz hvz
  have HC := hvz
  refine Qp (g := 12) [0, 1] [_, _] ⟨rfl, rfl, trivial⟩ (by kernel_rfl) (by kernel_rfl) HC ?_
  simp only [Qd, Qe, Qf]
  apply Exists.intro
  refine ⟨fun u hu => ?_, ?_⟩
  ·obtain ⟨k0, k1⟩ := (B1.ext hu).c2
   have lk := (B1.ext hu).lt
   repeat (first | go_big_quiet_skip | (go_big_quiet_want; go_big_quiet_op; go_big_quiet_on))
   refine wpQuiet_nil ?_
   rfl
  refine Zn 2 11 rfl rfl (by kernel_rfl) ?_ ?_
  ·simp only [Qd, Qe, Qf]
   go_wp2_with (go_at_call 31; (with_reducible refine Calls.mono (Wa _ _ _) ?_); rintro e wa ⟨rfl, hx⟩)
   replace HC := HC.trans hx
   try replace H5 := H5.ext hx
   clear hx
   refine Qi HC ?_
   refine Zn 3 11 rfl rfl (by kernel_rfl) ?_ ?_
   ·simp only [Qd, Qe, Qf]
    go_wp2_with (go_at_call 35; (with_reducible refine Calls.mono (Yh _ _ _ _) ?_); rintro e wa ⟨rfl, hx⟩)
    replace HC := HC.trans hx
    try replace H5 := H5.ext hx
    clear hx
    refine Qi HC ?_
    refine Zn 4 11 rfl rfl (by kernel_rfl) ?_ ?_
    ·simp only [Qd, Qe, Qf]
     go_wp2_with (go_at_call 35; (with_reducible refine Calls.mono (Yh _ _ _ _) ?_); rintro e wa ⟨rfl, hx⟩)
     replace HC := HC.trans hx
     try replace H5 := H5.ext hx
     clear hx
     refine Qi HC ?_
     refine Qp (g := 8) [5] [_] ⟨rfl, trivial⟩ (by kernel_rfl) (by kernel_rfl) HC ?_
     simp only [Qd, Qe, Qf]
     apply Exists.intro
     refine ⟨fun u hu => ?_, ?_⟩
     ·obtain ⟨k0, k1⟩ := (B1.ext hu).c2
      have lk := (B1.ext hu).lt
      repeat (first | go_big_quiet_skip | (go_big_quiet_want; go_big_quiet_op; go_big_quiet_on))
      refine wpQuiet_nil ?_
      rfl
     refine Zn 6 11 rfl rfl (by kernel_rfl) ?_ ?_
     ·simp only [Qd, Qe, Qf]
      go_wp2
      obtain ⟨bc, wb, hbq, hwb, HCW, HC', hx, _⟩ := Q0 HC 94 #[.int .i64 2, .int .i64 1, .int .i64 2, .int .i64 0, .int .i64 1, .bool false, .int .i64 1, .int .i64 0, .int .i64 1, .bool false, .int .i64 30]
      rw [← hbq, ← hwb]
      replace HC := HC'
      try replace H5 := H5.ext hx
      clear hbq hwb hx HC'
      refine Qi HC ?_
      refine Zn 7 11 rfl rfl (by kernel_rfl) ?_ ?_
      ·simp only [Qd, Qe, Qf]
       go_wp2_with (go_at_call 37; (with_reducible refine Calls.mono (Kb (C.ext HC) (PT.ext HC) (V6 HCW) (Z.ext HC)) ?_); rintro e wa ⟨rfl, hx⟩)
       replace HC := HC.trans hx
       try replace H5 := H5.ext hx
       clear hx
       refine Qi HC ?_
       refine Qp (g := 5) [8] [_] ⟨rfl, trivial⟩ (by kernel_rfl) (by kernel_rfl) HC ?_
       simp only [Qd, Qe, Qf]
       apply Exists.intro
       refine ⟨fun u hu => ?_, ?_⟩
       ·obtain ⟨k0, k1⟩ := (B1.ext hu).c2
        have lk := (B1.ext hu).lt
        repeat (first | go_big_quiet_skip | (go_big_quiet_want; go_big_quiet_op; go_big_quiet_on))
        refine wpQuiet_nil ?_
        rfl
       refine Jg (g := 3) [9, 10] [_, _] ⟨rfl, rfl, trivial⟩ (by kernel_rfl) (by kernel_rfl) ?_
       simp only [Qd, Qe, Qf]
       apply Exists.intro
       refine ⟨fun u hu => ?_, ?_⟩
       ·repeat (first | go_big_quiet_skip | (go_big_quiet_want; go_big_quiet_op; go_big_quiet_on))
        refine wpQuiet_nil ?_
        rfl
       refine Qj 11 rfl (by kernel_rfl) ?_
       simp only [Qd, Qe, Qf]
       go_wp2
       obtain ⟨b9, wb, hbq, hwb, H5, HC', hx, g5⟩ := Q0 HC 61 #[.int .i64 0, .int .i64 0]
       rw [← hbq, ← hwb]
       replace HC := HC'
       try replace HCW := HCW.ext hx
       clear hbq hwb hx HC'
       refine Qi HC ?_
       refine Qn 12 rfl (by kernel_rfl) ?_
       simp only [Qd, Qe, Qf]
       have z0 := H5.frozen 0
       have z1 := H5.frozen 1
       obtain ⟨x0, x1⟩ := H5.c2
       have lx := H5.lt
       go_wp2
       have H6 := Ql H5 (.int .i64 (-5)) (.int .i64 1)
       replace HC := (HC.setCell (p := ⟨b9, 0, none⟩) g5 (.int .i64 (-5))).setCell (p := ⟨b9, 1, none⟩) g5 (.int .i64 1)
       clear z0 x0 z1 x1 lx H5
       generalize World.setCell _ _ _ = wq at *
       refine Qm ?_
       refine Qn 13 rfl (by kernel_rfl) ?_
       simp only [Qd, Qe, Qf]
       go_wp2
       refine Qm ?_
       refine Qt (by kernel_rfl) ?_
       exact Ja b9 bc ⟨HC, H6⟩ rfl
      ·simp only [Qd, Qe, Qf]
       go_wp2
       obtain ⟨b9, wb, hbq, hwb, H5, HC', hx, g5⟩ := Q0 HC 61 #[.int .i64 0, .int .i64 0]
       rw [← hbq, ← hwb]
       replace HC := HC'
       try replace HCW := HCW.ext hx
       clear hbq hwb hx HC'
       refine Qi HC ?_
       refine Qj 7 rfl (by kernel_rfl) ?_
       simp only [Qd, Qe, Qf]
       go_wp2_with (go_at_call 37; (with_reducible refine Calls.mono (Kb (C.ext HC) (PT.ext HC) (V6 HCW) (Z.ext HC)) ?_); rintro e wa ⟨rfl, hx⟩)
       replace HC := HC.trans hx
       try replace H5 := H5.ext hx
       clear hx
       refine Qi HC ?_
       refine Qp (g := 4) [8] [_] ⟨rfl, trivial⟩ (by kernel_rfl) (by kernel_rfl) HC ?_
       simp only [Qd, Qe, Qf]
       apply Exists.intro
       refine ⟨fun u hu => ?_, ?_⟩
       ·obtain ⟨k0, k1⟩ := (B1.ext hu).c2
        have lk := (B1.ext hu).lt
        repeat (first | go_big_quiet_skip | (go_big_quiet_want; go_big_quiet_op; go_big_quiet_on))
        refine wpQuiet_nil ?_
        rfl
       refine Jg (g := 2) [9, 10] [_, _] ⟨rfl, rfl, trivial⟩ (by kernel_rfl) (by kernel_rfl) ?_
       simp only [Qd, Qe, Qf]
       apply Exists.intro
       refine ⟨fun u hu => ?_, ?_⟩
       ·repeat (first | go_big_quiet_skip | (go_big_quiet_want; go_big_quiet_op; go_big_quiet_on))
        refine wpQuiet_nil ?_
        rfl
       refine Qn 12 rfl (by kernel_rfl) ?_
       simp only [Qd, Qe, Qf]
       have z0 := H5.frozen 0
       have z1 := H5.frozen 1
       obtain ⟨x0, x1⟩ := H5.c2
       have lx := H5.lt
       go_wp2
       have H6 := Ql H5 (.int .i64 (-5)) (.int .i64 1)
       replace HC := (HC.setCell (p := ⟨b9, 0, none⟩) g5 (.int .i64 (-5))).setCell (p := ⟨b9, 1, none⟩) g5 (.int .i64 1)
       clear z0 x0 z1 x1 lx H5
       generalize World.setCell _ _ _ = wq at *
       refine Qm ?_
       refine Qn 13 rfl (by kernel_rfl) ?_
       simp only [Qd, Qe, Qf]
       go_wp2
       refine Qm ?_
       refine Qt (by kernel_rfl) ?_
       exact Ja b9 bc ⟨HC, H6⟩ rfl
     ·simp only [Qd, Qe, Qf]
      go_wp2
      obtain ⟨b9, wb, hbq, hwb, H5, HC', hx, g5⟩ := Q0 HC 61 #[.int .i64 0, .int .i64 0]
      rw [← hbq, ← hwb]
      replace HC := HC'
      try replace HCW := HCW.ext hx
      clear hbq hwb hx HC'
      refine Qi HC ?_
      refine Qj 6 rfl (by kernel_rfl) ?_
      simp only [Qd, Qe, Qf]
      go_wp2
      obtain ⟨bc, wb, hbq, hwb, HCW, HC', hx, _⟩ := Q0 HC 94 #[.int .i64 2, .int .i64 1, .int .i64 2, .int .i64 0, .int .i64 1, .bool false, .int .i64 1, .int .i64 0, .int .i64 1, .bool false, .int .i64 30]
      rw [← hbq, ← hwb]
      replace HC := HC'
      try replace H5 := H5.ext hx
      clear hbq hwb hx HC'
      refine Qi HC ?_
      refine Qj 7 rfl (by kernel_rfl) ?_
      simp only [Qd, Qe, Qf]
      go_wp2_with (go_at_call 37; (with_reducible refine Calls.mono (Kb (C.ext HC) (PT.ext HC) (V6 HCW) (Z.ext HC)) ?_); rintro e wa ⟨rfl, hx⟩)
      replace HC := HC.trans hx
      try replace H5 := H5.ext hx
      clear hx
      refine Qi HC ?_
      refine Qp (g := 4) [8] [_] ⟨rfl, trivial⟩ (by kernel_rfl) (by kernel_rfl) HC ?_
      simp only [Qd, Qe, Qf]
      apply Exists.intro
      refine ⟨fun u hu => ?_, ?_⟩
      ·obtain ⟨k0, k1⟩ := (B1.ext hu).c2
       have lk := (B1.ext hu).lt
       repeat (first | go_big_quiet_skip | (go_big_quiet_want; go_big_quiet_op; go_big_quiet_on))
       refine wpQuiet_nil ?_
       rfl
      refine Jg (g := 2) [9, 10] [_, _] ⟨rfl, rfl, trivial⟩ (by kernel_rfl) (by kernel_rfl) ?_
      simp only [Qd, Qe, Qf]
      apply Exists.intro
      refine ⟨fun u hu => ?_, ?_⟩
      ·repeat (first | go_big_quiet_skip | (go_big_quiet_want; go_big_quiet_op; go_big_quiet_on))
       refine wpQuiet_nil ?_
       rfl
      refine Qn 12 rfl (by kernel_rfl) ?_
      simp only [Qd, Qe, Qf]
      have z0 := H5.frozen 0
      have z1 := H5.frozen 1
      obtain ⟨x0, x1⟩ := H5.c2
      have lx := H5.lt
      go_wp2
      have H6 := Ql H5 (.int .i64 (-5)) (.int .i64 1)
      replace HC := (HC.setCell (p := ⟨b9, 0, none⟩) g5 (.int .i64 (-5))).setCell (p := ⟨b9, 1, none⟩) g5 (.int .i64 1)
      clear z0 x0 z1 x1 lx H5
      generalize World.setCell _ _ _ = wq at *
      refine Qm ?_
      refine Qn 13 rfl (by kernel_rfl) ?_
      simp only [Qd, Qe, Qf]
      go_wp2
      refine Qm ?_
      refine Qt (by kernel_rfl) ?_
      exact Ja b9 bc ⟨HC, H6⟩ rfl
    ·simp only [Qd, Qe, Qf]
     go_wp2
     obtain ⟨b9, wb, hbq, hwb, H5, HC', hx, g5⟩ := Q0 HC 61 #[.int .i64 0, .int .i64 0]
     rw [← hbq, ← hwb]
     replace HC := HC'
     try replace HCW := HCW.ext hx
     clear hbq hwb hx HC'
     refine Qi HC ?_
     refine Qj 4 rfl (by kernel_rfl) ?_
     simp only [Qd, Qe, Qf]
     go_wp2_with (go_at_call 35; (with_reducible refine Calls.mono (Yh _ _ _ _) ?_); rintro e wa ⟨rfl, hx⟩)
     replace HC := HC.trans hx
     try replace H5 := H5.ext hx
     clear hx
     refine Qi HC ?_
     refine Qp (g := 7) [5] [_] ⟨rfl, trivial⟩ (by kernel_rfl) (by kernel_rfl) HC ?_
     simp only [Qd, Qe, Qf]
     apply Exists.intro
     refine ⟨fun u hu => ?_, ?_⟩
     ·obtain ⟨k0, k1⟩ := (B1.ext hu).c2
      have lk := (B1.ext hu).lt
      repeat (first | go_big_quiet_skip | (go_big_quiet_want; go_big_quiet_op; go_big_quiet_on))
      refine wpQuiet_nil ?_
      rfl
     refine Qj 6 rfl (by kernel_rfl) ?_
     simp only [Qd, Qe, Qf]
     go_wp2
     obtain ⟨bc, wb, hbq, hwb, HCW, HC', hx, _⟩ := Q0 HC 94 #[.int .i64 2, .int .i64 1, .int .i64 2, .int .i64 0, .int .i64 1, .bool false, .int .i64 1, .int .i64 0, .int .i64 1, .bool false, .int .i64 30]
     rw [← hbq, ← hwb]
     replace HC := HC'
     try replace H5 := H5.ext hx
     clear hbq hwb hx HC'
     refine Qi HC ?_
     refine Qj 7 rfl (by kernel_rfl) ?_
     simp only [Qd, Qe, Qf]
     go_wp2_with (go_at_call 37; (with_reducible refine Calls.mono (Kb (C.ext HC) (PT.ext HC) (V6 HCW) (Z.ext HC)) ?_); rintro e wa ⟨rfl, hx⟩)
     replace HC := HC.trans hx
     try replace H5 := H5.ext hx
     clear hx
     refine Qi HC ?_
     refine Qp (g := 4) [8] [_] ⟨rfl, trivial⟩ (by kernel_rfl) (by kernel_rfl) HC ?_
     simp only [Qd, Qe, Qf]
     apply Exists.intro
     refine ⟨fun u hu => ?_, ?_⟩
     ·obtain ⟨k0, k1⟩ := (B1.ext hu).c2
      have lk := (B1.ext hu).lt
      repeat (first | go_big_quiet_skip | (go_big_quiet_want; go_big_quiet_op; go_big_quiet_on))
      refine wpQuiet_nil ?_
      rfl
     refine Jg (g := 2) [9, 10] [_, _] ⟨rfl, rfl, trivial⟩ (by kernel_rfl) (by kernel_rfl) ?_
     simp only [Qd, Qe, Qf]
     apply Exists.intro
     refine ⟨fun u hu => ?_, ?_⟩
     ·repeat (first | go_big_quiet_skip | (go_big_quiet_want; go_big_quiet_op; go_big_quiet_on))
      refine wpQuiet_nil ?_
      rfl
     refine Qn 12 rfl (by kernel_rfl) ?_
     simp only [Qd, Qe, Qf]
     have z0 := H5.frozen 0
     have z1 := H5.frozen 1
     obtain ⟨x0, x1⟩ := H5.c2
     have lx := H5.lt
     go_wp2
     have H6 := Ql H5 (.int .i64 (-5)) (.int .i64 1)
     replace HC := (HC.setCell (p := ⟨b9, 0, none⟩) g5 (.int .i64 (-5))).setCell (p := ⟨b9, 1, none⟩) g5 (.int .i64 1)
     clear z0 x0 z1 x1 lx H5
     generalize World.setCell _ _ _ = wq at *
     refine Qm ?_
     refine Qn 13 rfl (by kernel_rfl) ?_
     simp only [Qd, Qe, Qf]
     go_wp2
     refine Qm ?_
     refine Qt (by kernel_rfl) ?_
     exact Ja b9 bc ⟨HC, H6⟩ rfl
   ·simp only [Qd, Qe, Qf]
    go_wp2
    obtain ⟨b9, wb, hbq, hwb, H5, HC', hx, g5⟩ := Q0 HC 61 #[.int .i64 0, .int .i64 0]
    rw [← hbq, ← hwb]
    replace HC := HC'
    try replace HCW := HCW.ext hx
    clear hbq hwb hx HC'
    refine Qi HC ?_
    refine Qj 3 rfl (by kernel_rfl) ?_
    simp only [Qd, Qe, Qf]
    go_wp2_with (go_at_call 35; (with_reducible refine Calls.mono (Yh _ _ _ _) ?_); rintro e wa ⟨rfl, hx⟩)
    replace HC := HC.trans hx
    try replace H5 := H5.ext hx
    clear hx
    refine Qi HC ?_
    refine Qj 4 rfl (by kernel_rfl) ?_
    simp only [Qd, Qe, Qf]
    go_wp2_with (go_at_call 35; (with_reducible refine Calls.mono (Yh _ _ _ _) ?_); rintro e wa ⟨rfl, hx⟩)
    replace HC := HC.trans hx
    try replace H5 := H5.ext hx
    clear hx
    refine Qi HC ?_
    refine Qp (g := 7) [5] [_] ⟨rfl, trivial⟩ (by kernel_rfl) (by kernel_rfl) HC ?_
    simp only [Qd, Qe, Qf]
    apply Exists.intro
    refine ⟨fun u hu => ?_, ?_⟩
    ·obtain ⟨k0, k1⟩ := (B1.ext hu).c2
     have lk := (B1.ext hu).lt
     repeat (first | go_big_quiet_skip | (go_big_quiet_want; go_big_quiet_op; go_big_quiet_on))
     refine wpQuiet_nil ?_
     rfl
    refine Qj 6 rfl (by kernel_rfl) ?_
    simp only [Qd, Qe, Qf]
    go_wp2
    obtain ⟨bc, wb, hbq, hwb, HCW, HC', hx, _⟩ := Q0 HC 94 #[.int .i64 2, .int .i64 1, .int .i64 2, .int .i64 0, .int .i64 1, .bool false, .int .i64 1, .int .i64 0, .int .i64 1, .bool false, .int .i64 30]
    rw [← hbq, ← hwb]
    replace HC := HC'
    try replace H5 := H5.ext hx
    clear hbq hwb hx HC'
    refine Qi HC ?_
    refine Qj 7 rfl (by kernel_rfl) ?_
    simp only [Qd, Qe, Qf]
    go_wp2_with (go_at_call 37; (with_reducible refine Calls.mono (Kb (C.ext HC) (PT.ext HC) (V6 HCW) (Z.ext HC)) ?_); rintro e wa ⟨rfl, hx⟩)
    replace HC := HC.trans hx
    try replace H5 := H5.ext hx
    clear hx
    refine Qi HC ?_
    refine Qp (g := 4) [8] [_] ⟨rfl, trivial⟩ (by kernel_rfl) (by kernel_rfl) HC ?_
    simp only [Qd, Qe, Qf]
    apply Exists.intro
    refine ⟨fun u hu => ?_, ?_⟩
    ·obtain ⟨k0, k1⟩ := (B1.ext hu).c2
     have lk := (B1.ext hu).lt
     repeat (first | go_big_quiet_skip | (go_big_quiet_want; go_big_quiet_op; go_big_quiet_on))
     refine wpQuiet_nil ?_
     rfl
    refine Jg (g := 2) [9, 10] [_, _] ⟨rfl, rfl, trivial⟩ (by kernel_rfl) (by kernel_rfl) ?_
    simp only [Qd, Qe, Qf]
    apply Exists.intro
    refine ⟨fun u hu => ?_, ?_⟩
    ·repeat (first | go_big_quiet_skip | (go_big_quiet_want; go_big_quiet_op; go_big_quiet_on))
     refine wpQuiet_nil ?_
     rfl
    refine Qn 12 rfl (by kernel_rfl) ?_
    simp only [Qd, Qe, Qf]
    have z0 := H5.frozen 0
    have z1 := H5.frozen 1
    obtain ⟨x0, x1⟩ := H5.c2
    have lx := H5.lt
    go_wp2
    have H6 := Ql H5 (.int .i64 (-5)) (.int .i64 1)
    replace HC := (HC.setCell (p := ⟨b9, 0, none⟩) g5 (.int .i64 (-5))).setCell (p := ⟨b9, 1, none⟩) g5 (.int .i64 1)
    clear z0 x0 z1 x1 lx H5
    generalize World.setCell _ _ _ = wq at *
    refine Qm ?_
    refine Qn 13 rfl (by kernel_rfl) ?_
    simp only [Qd, Qe, Qf]
    go_wp2
    refine Qm ?_
    refine Qt (by kernel_rfl) ?_
    exact Ja b9 bc ⟨HC, H6⟩ rfl
  ·simp only [Qd, Qe, Qf]
   go_wp2
   obtain ⟨b9, wb, hbq, hwb, H5, HC', hx, g5⟩ := Q0 HC 61 #[.int .i64 0, .int .i64 0]
   rw [← hbq, ← hwb]
   replace HC := HC'
   try replace HCW := HCW.ext hx
   clear hbq hwb hx HC'
   refine Qi HC ?_
   refine Qj 2 rfl (by kernel_rfl) ?_
   simp only [Qd, Qe, Qf]
   go_wp2_with (go_at_call 31; (with_reducible refine Calls.mono (Wa _ _ _) ?_); rintro e wa ⟨rfl, hx⟩)
   replace HC := HC.trans hx
   try replace H5 := H5.ext hx
   clear hx
   refine Qi HC ?_
   refine Qj 3 rfl (by kernel_rfl) ?_
   simp only [Qd, Qe, Qf]
   go_wp2_with (go_at_call 35; (with_reducible refine Calls.mono (Yh _ _ _ _) ?_); rintro e wa ⟨rfl, hx⟩)
   replace HC := HC.trans hx
   try replace H5 := H5.ext hx
   clear hx
   refine Qi HC ?_
   refine Qj 4 rfl (by kernel_rfl) ?_
   simp only [Qd, Qe, Qf]
   go_wp2_with (go_at_call 35; (with_reducible refine Calls.mono (Yh _ _ _ _) ?_); rintro e wa ⟨rfl, hx⟩)
   replace HC := HC.trans hx
   try replace H5 := H5.ext hx
   clear hx
   refine Qi HC ?_
   refine Qp (g := 7) [5] [_] ⟨rfl, trivial⟩ (by kernel_rfl) (by kernel_rfl) HC ?_
   simp only [Qd, Qe, Qf]
   apply Exists.intro
   refine ⟨fun u hu => ?_, ?_⟩
   ·obtain ⟨k0, k1⟩ := (B1.ext hu).c2
    have lk := (B1.ext hu).lt
    repeat (first | go_big_quiet_skip | (go_big_quiet_want; go_big_quiet_op; go_big_quiet_on))
    refine wpQuiet_nil ?_
    rfl
   refine Qj 6 rfl (by kernel_rfl) ?_
   simp only [Qd, Qe, Qf]
   go_wp2
   obtain ⟨bc, wb, hbq, hwb, HCW, HC', hx, _⟩ := Q0 HC 94 #[.int .i64 2, .int .i64 1, .int .i64 2, .int .i64 0, .int .i64 1, .bool false, .int .i64 1, .int .i64 0, .int .i64 1, .bool false, .int .i64 30]
   rw [← hbq, ← hwb]
   replace HC := HC'
   try replace H5 := H5.ext hx
   clear hbq hwb hx HC'
   refine Qi HC ?_
   refine Qj 7 rfl (by kernel_rfl) ?_
   simp only [Qd, Qe, Qf]
   go_wp2_with (go_at_call 37; (with_reducible refine Calls.mono (Kb (C.ext HC) (PT.ext HC) (V6 HCW) (Z.ext HC)) ?_); rintro e wa ⟨rfl, hx⟩)
   replace HC := HC.trans hx
   try replace H5 := H5.ext hx
   clear hx
   refine Qi HC ?_
   refine Qp (g := 4) [8] [_] ⟨rfl, trivial⟩ (by kernel_rfl) (by kernel_rfl) HC ?_
   simp only [Qd, Qe, Qf]
   apply Exists.intro
   refine ⟨fun u hu => ?_, ?_⟩
   ·obtain ⟨k0, k1⟩ := (B1.ext hu).c2
    have lk := (B1.ext hu).lt
    repeat (first | go_big_quiet_skip | (go_big_quiet_want; go_big_quiet_op; go_big_quiet_on))
    refine wpQuiet_nil ?_
    rfl
   refine Jg (g := 2) [9, 10] [_, _] ⟨rfl, rfl, trivial⟩ (by kernel_rfl) (by kernel_rfl) ?_
   simp only [Qd, Qe, Qf]
   apply Exists.intro
   refine ⟨fun u hu => ?_, ?_⟩
   ·repeat (first | go_big_quiet_skip | (go_big_quiet_want; go_big_quiet_op; go_big_quiet_on))
    refine wpQuiet_nil ?_
    rfl
   refine Qn 12 rfl (by kernel_rfl) ?_
   simp only [Qd, Qe, Qf]
   have z0 := H5.frozen 0
   have z1 := H5.frozen 1
   obtain ⟨x0, x1⟩ := H5.c2
   have lx := H5.lt
   go_wp2
   have H6 := Ql H5 (.int .i64 (-5)) (.int .i64 1)
   replace HC := (HC.setCell (p := ⟨b9, 0, none⟩) g5 (.int .i64 (-5))).setCell (p := ⟨b9, 1, none⟩) g5 (.int .i64 1)
   clear z0 x0 z1 x1 lx H5
   generalize World.setCell _ _ _ = wq at *
   refine Qm ?_
   refine Qn 13 rfl (by kernel_rfl) ?_
   simp only [Qd, Qe, Qf]
   go_wp2
   refine Qm ?_
   refine Qt (by kernel_rfl) ?_
   exact Ja b9 bc ⟨HC, H6⟩ rfl
 rintro b10 bc v10 ⟨h2, B10⟩
 replace E := E.trans h2
 replace C := C.ext h2
 replace Z := Z.ext h2
 replace B1 := B1.ext h2
 replace PT := PT.ext h2
 clear h2
 go_upto_region 11 with (fail)
 obtain ⟨k0, k1⟩ := B1.c2
 have lk := B1.lt
 refine Zr v10 Qr (by kernel_rfl) (by repeat (first | exact Qa.refl _ | (refine Qa.alloc ?_ _) | (refine Qa.trans ?_ (by assumption)))) ?_
 intro hne hrx hry
 try simp only []
 try simp only [List.append_eq, List.cons_append, List.nil_append]
 skip
 repeat (first
  | go_big_quiet_skip
  | (go_big_quiet_want; go_big_quiet_op; go_big_quiet_on)
  | (go_big_quiet_want; go_big_quiet_op; apply Exists.intro; refine ⟨fun u => ?_, ?_⟩
     ·first
       | (go_at_call 31; (with_reducible refine Calls.mono (Wa _ _ _) ?_); rintro e w' ⟨rfl, hb⟩; exact ⟨rfl, u.back hb⟩)
       | (go_at_call 35; (with_reducible refine Calls.mono (Yh _ _ _ _) ?_); rintro e w' ⟨rfl, hb⟩; exact ⟨rfl, u.back hb⟩)
       | (go_at_call 38; (with_reducible refine Calls.mono (w8_few (C.ext u.e) (PT.ext u.e) (Z.ext u.e)) ?_); rintro e w' ⟨rfl, hb⟩; exact ⟨rfl, u.back hb⟩)
     go_big_quiet_on))
 clear hne hry hrx
 refine wpQuiet_nil ?_
 intro v11 h2
 obtain ⟨hcv11, hfv11, hzv11⟩ := Qa.rules h2
 try simp only [World.size_alloc] at hzv11
 obtain ⟨hcbv11, hfbv11, hzbv11⟩ := Qa.rules (show Qa v10 v11 from (by repeat (first | exact Qa.refl _ | (refine Qa.alloc ?_ _) | (refine Qa.trans ?_ (by assumption)))))
 clear hcv11 hfv11
 replace E := E.trans h2
 replace C := C.ext h2
 replace Z := Z.ext h2
 replace B1 := B1.ext h2
 replace PT := PT.ext h2
 replace B10 := B10.ext h2
 clear h2
 clear k0 k1 lk PT
 go_upto_region 13 with (first | (go_at_call 31; (with_reducible refine Calls.mono (Wa _ _ _) ?_); rintro e wa ⟨rfl, hx⟩; replace E := E.trans hx; replace C := C.ext hx; replace Z := Z.ext hx; replace B1 := B1.ext hx; replace B10 := B10.ext hx; clear hx) | (go_at_call 39; (with_reducible refine Calls.mono (Qe2 _) ?_); rintro e w12 ⟨rfl, hx⟩; replace E := E.trans hx; replace C := C.ext hx; replace Z := Z.ext hx; replace B1 := B1.ext hx; replace B10 := B10.ext hx; clear hx))
 obtain ⟨v12, hv⟩ := Qg (w12.alloc (.cells #[.int .i64 12, .int .i64 4, .int .i64 7] 98))
 rw [← hv]
 have h2 : Qa w12 v12 := by rw [hv]; exact (Qa.refl _).alloc _
 have B12 : Qb v12 w12.heap.size 98 #[.int .i64 12, .int .i64 4, .int .i64 7] := by rw [hv]; exact Qb.new _ _ _
 clear hv
 generalize w12.heap.size = b12 at *
 replace E := E.trans h2
 replace C := C.ext h2
 replace Z := Z.ext h2
 replace B1 := B1.ext h2
 replace B10 := B10.ext h2
 clear h2
 obtain ⟨x0, x1⟩ := B10.c2
 have lx := B10.lt
 obtain ⟨y0, y1, y2⟩ := B12.c3
 have ly := B12.lt
 refine Zr v12 Qr (by kernel_rfl) (by repeat (first | exact Qa.refl _ | (refine Qa.alloc ?_ _) | (refine Qa.trans ?_ (by assumption)))) ?_
 intro hne hrx hry
 try simp only []
 try simp only [List.append_eq, List.cons_append, List.nil_append]
 skip
 repeat (first
  | go_big_quiet_skip
  | (go_big_quiet_want; go_big_quiet_op; go_big_quiet_on)
  | (go_big_quiet_want; go_big_quiet_op; apply Exists.intro; refine ⟨fun u => ?_, ?_⟩
     ·first
       | (go_at_call 31; (with_reducible refine Calls.mono (Wa _ _ _) ?_); rintro e w' ⟨rfl, hb⟩; exact ⟨rfl, u.back hb⟩)
     go_big_quiet_on))
 clear hne hry hrx
 refine wpQuiet_nil ?_
 intro v13 h2
 obtain ⟨hcv13, hfv13, hzv13⟩ := Qa.rules h2
 try simp only [World.size_alloc] at hzv13
 obtain ⟨hcbv13, hfbv13, hzbv13⟩ := Qa.rules (show Qa v12 v13 from (by repeat (first | exact Qa.refl _ | (refine Qa.alloc ?_ _) | (refine Qa.trans ?_ (by assumption)))))
 clear hcv13 hfv13
 clear x0 x1 lx y0 y1 y2 ly B10 B12
 replace E := E.trans h2
 replace C := C.ext h2
 replace Z := Z.ext h2
 replace B1 := B1.ext h2
 clear h2
 go_upto_region 15 with (fail)
 refine Q5 18 [14, 15, 16, 17] (fun x => Qa v13 x) Qr rfl ?_
 intro vz hvz
 have HC := hvz
 refine Qp (g := 17) [0] [_] ⟨rfl, trivial⟩ (by kernel_rfl) (by kernel_rfl) HC ?_
 simp only [List.getElem_toArray, List.getElem_cons_zero]
 apply Exists.intro
 refine ⟨fun u hu => ?_, ?_⟩
 ·obtain ⟨k0, k1⟩ := (B1.ext hu).c2
  have lk := (B1.ext hu).lt
  repeat (first | go_big_quiet_skip | (go_big_quiet_want; go_big_quiet_op; go_big_quiet_on))
  refine wpQuiet_nil ?_
  rfl
 refine Qj 1 rfl (by kernel_rfl) ?_
 simp only [Qd, Qe, Qf]
 go_wp2_with (go_at_call 35; (with_reducible refine Calls.mono (Yh _ _ _ _) ?_); rintro e wa ⟨rfl, hx⟩)
 replace HC := HC.trans hx
 try replace LO := LO.ext hx
 try replace LX := LX.ext hx
 try replace LY := LY.ext hx
 clear hx
 refine Qi HC ?_
 refine Qj 2 rfl (by kernel_rfl) ?_
 simp only [Qd, Qe, Qf]
 go_wp2_with (go_at_call 35; (with_reducible refine Calls.mono (Yh _ _ _ _) ?_); rintro e wa ⟨rfl, hx⟩)
 replace HC := HC.trans hx
 try replace LO := LO.ext hx
 try replace LX := LX.ext hx
 try replace LY := LY.ext hx
 clear hx
 refine Qi HC ?_
 refine Qj 3 rfl (by kernel_rfl) ?_
 simp only [Qd, Qe, Qf]
 go_wp2_with (go_at_call 40; (with_reducible refine Calls.mono (Mi _ _ _) ?_); rintro e wa ⟨bo, rfl, hx, LO⟩)
 replace HC := HC.trans hx
 try replace LX := LX.ext hx
 try replace LY := LY.ext hx
 clear hx
 refine Qi HC ?_
 refine Qj 4 rfl (by kernel_rfl) ?_
 simp only [Qd, Qe, Qf]
 go_wp2_with (go_at_call 35; (with_reducible refine Calls.mono (Yh _ _ _ _) ?_); rintro e wa ⟨rfl, hx⟩)
 replace HC := HC.trans hx
 try replace LO := LO.ext hx
 try replace LX := LX.ext hx
 try replace LY := LY.ext hx
 clear hx
 refine Qi HC ?_
 refine Qj 5 rfl (by kernel_rfl) ?_
 simp only [Qd, Qe, Qf]
 go_wp2_with (go_at_call 40; (with_reducible refine Calls.mono (Mi _ _ _) ?_); rintro e wa ⟨bx, rfl, hx, LX⟩)
 replace HC := HC.trans hx
 try replace LO := LO.ext hx
 try replace LY := LY.ext hx
 clear hx
 refine Qi HC ?_
 refine Qp (g := 11) [6] [_] ⟨rfl, trivial⟩ (by kernel_rfl) (by kernel_rfl) HC ?_
 simp only [Qd, Qe, Qf]
 apply Exists.intro
 refine ⟨fun u hu => ?_, ?_⟩
 ·obtain ⟨k0, k1⟩ := (B1.ext hu).c2
  have lk := (B1.ext hu).lt
  repeat (first | go_big_quiet_skip | (go_big_quiet_want; go_big_quiet_op; go_big_quiet_on))
  refine wpQuiet_nil ?_
  rfl
 refine Qj 7 rfl (by kernel_rfl) ?_
 simp only [Qd, Qe, Qf]
 go_wp2_with (go_at_call 35; (with_reducible refine Calls.mono (Yh _ _ _ _) ?_); rintro e wa ⟨rfl, hx⟩)
 replace HC := HC.trans hx
 try replace LO := LO.ext hx
 try replace LX := LX.ext hx
 try replace LY := LY.ext hx
 clear hx
 refine Qi HC ?_
 refine Qj 8 rfl (by kernel_rfl) ?_
 simp only [Qd, Qe, Qf]
 go_wp2_with (go_at_call 40; (with_reducible refine Calls.mono (Mi _ _ _) ?_); rintro e wa ⟨by', rfl, hx, LY⟩)
 replace HC := HC.trans hx
 try replace LO := LO.ext hx
 try replace LX := LX.ext hx
 clear hx
 refine Qi HC ?_
 refine Qp (g := 8) [9] [_] ⟨rfl, trivial⟩ (by kernel_rfl) (by kernel_rfl) HC ?_
 simp only [Qd, Qe, Qf]
 apply Exists.intro
 refine ⟨fun u hu => ?_, ?_⟩
 ·obtain ⟨k0, k1⟩ := (B1.ext hu).c2
  have lk := (B1.ext hu).lt
  repeat (first | go_big_quiet_skip | (go_big_quiet_want; go_big_quiet_op; go_big_quiet_on))
  refine wpQuiet_nil ?_
  rfl
 refine Qj 10 rfl (by kernel_rfl) ?_
 simp only [Qd, Qe, Qf]
 go_wp2
 obtain ⟨bd, wb, hbq, hwb, HD, HC', hx, _⟩ := Q0 HC 67 #[.int .i64 0, .int .i64 1, .bool false, .int .i64 2, .bool true, .string ⟨#[98]⟩, .slice (some ⟨bx, 0, none⟩) 1 1, .int .i64 0, .int .i64 1, .bool false, .int .i64 2, .bool false, .string ⟨#[98]⟩, .slice (some ⟨by', 0, none⟩) 1 1]
 rw [← hbq, ← hwb]
 replace HC := HC'
 try replace LO := LO.ext hx
 try replace LX := LX.ext hx
 try replace LY := LY.ext hx
 clear hbq hwb hx HC'
 refine Qi HC ?_
 refine Qp (g := 6) [11] [_] ⟨rfl, trivial⟩ (by kernel_rfl) (by kernel_rfl) HC ?_
 simp only [Qd, Qe, Qf]
 apply Exists.intro
 refine ⟨fun u hu => ?_, ?_⟩
 ·obtain ⟨k0, k1⟩ := (B1.ext hu).c2
  have lk := (B1.ext hu).lt
  repeat (first | go_big_quiet_skip | (go_big_quiet_want; go_big_quiet_op; go_big_quiet_on))
  refine wpQuiet_nil ?_
  rfl
 refine Qj 12 rfl (by kernel_rfl) ?_
 simp only [Qd, Qe, Qf]
 have NC := Qe1 (C.ext HC) LO LX LY HD
 go_wp2_with (go_at_call 6; (with_reducible refine Calls.mono (NC) ?_); rintro e wa ⟨v16, rfl, hx, L16⟩)
 replace HC := HC.trans hx
 clear hx NC
 refine Qi HC ?_
 refine Qp (g := 4) [13] [_] ⟨rfl, trivial⟩ (by kernel_rfl) (by kernel_rfl) HC ?_
 simp only [Qd, Qe, Qf]
 apply Exists.intro
 refine ⟨fun u hu => ?_, ?_⟩
 ·obtain ⟨k0, k1⟩ := (B1.ext hu).c2
  have lk := (B1.ext hu).lt
  repeat (first | go_big_quiet_skip | (go_big_quiet_want; go_big_quiet_op; go_big_quiet_on))
  refine wpQuiet_nil ?_
  rfl
 refine Jg (g := 2) [14, 15] [_, _] ⟨rfl, rfl, trivial⟩ (by kernel_rfl) (by kernel_rfl) ?_
 simp only [Qd, Qe, Qf]
 apply Exists.intro
 refine ⟨fun u hu => ?_, ?_⟩
 ·repeat (first | go_big_quiet_skip | (go_big_quiet_want; go_big_quiet_op; go_big_quiet_on))
  refine wpQuiet_nil ?_
  rfl
 refine Qn 16 rfl (by kernel_rfl) ?_
 simp only [Qd, Qe, Qf]
 go_wp2
 refine Qm ?_
 refine Qn 17 rfl (by kernel_rfl) ?_
 simp only [Qd, Qe, Qf]
 go_wp2
 refine Qm ?_
 refine Qt (by kernel_rfl) ?_
 replace E := E.trans HC
 clear HC LO LX LY HD
 go_wp2_with (first | (go_at_call 40; (with_reducible refine Calls.mono (Mi _ _ _) ?_); rintro e wa ⟨bl, rfl, hx, LL⟩; have NS := Bi _ _ [⟨Xt, -5⟩] [⟨Xt, -5⟩] _ (L16.ext hx) LL; rw [decide_eq_true (rfl : ([⟨Xt, -5⟩] : List Lt) = [⟨Xt, -5⟩])] at NS) | (go_at_call 14; (with_reducible refine Calls.mono (NS) ?_); rintro e wz ⟨rfl, hz⟩))
 go_ret
 exact ⟨rfl, (E.trans hx).trans hz⟩
set_option maxRecDepth 100000
end
section
open Go Go.ChangeShapes Go.WideShapes Go.ChangeAt Go.RowKit Go.Deep
section
variable {H : Type} {enc : TypeId × Value → H} {w : World} {base : Nat} {spare : Nat → Bool} {held : Bool} {r : Reach} {b0 : Nat} {v : Value} {d : DataW H} {p : List MemPlace}
theorem Qbk (hv : Value.okWide Tryd.prog w r b0 32 v) (h : DataW.Trod enc Tryd.prog w base spare held 32 v d p) :
  ∃ (B : Option Addr) (n cap : Nat) (f : Nat → Int), v = .slice B n cap ∧ Qo w B n 1 (fun i => [.int .i64 (f i)]) ∧ n ≤ cap ∧ cap ≤ maxLen ∧ ∀ i, i < n → -9223372036854775808 ≤ f i ∧ f i ≤ 9223372036854775807 := by
 obtain ⟨a, len, cap, rfl⟩ := okWide_slice Tryd.underlying32 hv
 obtain ⟨n, h⟩ := h
 exact Gu (v := .slice a len cap) (f := fun z : Int => [.int .i64 z]) (p := fun z => -9223372036854775808 ≤ z ∧ z ≤ 9223372036854775807) 0 Tryd.underlying32 We (by decide) (fun _ => rfl) (fun n cs x hx => by
  obtain ⟨z, e, _, _⟩ := DataW.trod_int Tryd.underlying3 hx
  subst e
  obtain ⟨z', e, h1⟩ := Uk (v := .int .i64 z) ⟨_, hx⟩
  cases e
  exact ⟨z, rfl, h1⟩) ⟨_, h⟩
end
set_option maxRecDepth 100000
end
section
open Go Go.ChangeShapes Go.WideShapes Go.ChangeAt Go.RowKit Go.Deep
section
variable {H : Type} {enc : TypeId × Value → H} {w : World} {base : Nat} {spare : Nat → Bool} {held : Bool} {r : Reach} {b0 : Nat} {v : Value} {d : DataW H} {p : List MemPlace}
theorem Gr {P : Program} {ts : List TypeId} {ds : List (DataW H)} {j : Nat} {t : TypeId} (h : (DataW.weightsEach P ts ds).all (· ≤ reachBytes) = true) (ht : ts[j]? = some t) (hd : ds[j]? = some d) : ∀ n ∈ d.weights P t, n ≤ reachBytes := fun n hn => by
 have := List.all_eq_true.1 h _ (DataW.weights_mem_each ht hd n hn)
 simpa using this
theorem V8 {P : Program} {m : Nat} {t : TypeId} {cs : List Value} {o : Nat} {xs : List (DataW H × List MemPlace)} {n i : Nat} (hi : i < xs.length) (h : DataW.trod enc P w base spare held m t ((cs.drop o).take (P.cellsOf t)) = xs[i]?) (hn : P.cellsOf t = n) :
  DataW.trod enc P w base spare held m t ((cs.drop o).take n) = some xs[i] := by
 rw [hn] at h
 rw [h, List.getElem?_eq_getElem hi]
theorem Gl : reachBytes = 140737488351232 := rfl
end
set_option maxRecDepth 100000
end
section
open Go Go.ChangeShapes Go.WideShapes Go.ChangeAt Go.RowKit Go.Deep
theorem Et : Tryd.prog.cellsOf 61 = 2 := by kernel_rfl
theorem Qfg : Tryd.prog.globalNamed "bulla/metro.zero" = some 0 := by kernel_rfl
theorem Qfh : (Tryd.prog.globals[0]?).map (·.type) = some 61 := by kernel_rfl
theorem Fk {W : World} (h : laidMet Tryd.prog [("bulla/metro.zero", .agg [.lit (.int .i64 0), .lit (.int .i64 1)])] W) : Zl W := by
 obtain ⟨ps, ⟨g, t, cs, fuel, p, q, hg, ht, hvar, hd, _, _⟩, _⟩ := h
 obtain rfl := Option.some.inj (Qfg.symm.trans hg)
 obtain rfl := Option.some.inj (Qfh.symm.trans ht)
 obtain ⟨xs, m, _, hx, hlen, hxl, hf⟩ := DataW.trod_struct Tryd.underlying61 hd
 have hxl2 : xs.length = 2 := hxl
 simp only [Prod.mk.injEq, DataW.agg.injEq] at hx
 have hx1 := hx.1
 obtain ⟨cs⟩ := cs
 rw [Et] at hlen
 match cs, hlen, xs, hxl2 with
 | [a, b], _, [y0, y1], _ =>
  have e0 := V8 (i := 0) (by simp) (hf 0 _ rfl) We
  have e1 := V8 (i := 1) (by simp) (hf 1 _ rfl) We
  obtain ⟨s0, h01, h02, _⟩ := DataW.trod_int Tryd.underlying3 e0
  obtain ⟨s1, h11, h12, _⟩ := DataW.trod_int Tryd.underlying3 e1
  simp only [List.map_cons, List.map_nil, List.cons.injEq] at hx1
  have f0 : y0.1 = .lit (.int .i64 0) := hx1.1.symm
  have f1 : y1.1 = .lit (.int .i64 1) := hx1.2.1.symm
  have g0 : y0.1 = .lit (.int .i64 s0) := by have := congrArg Prod.fst h02; simpa using this
  have g1 : y1.1 = .lit (.int .i64 s1) := by have := congrArg Prod.fst h12; simpa using this
  obtain rfl : s0 = 0 := by rw [f0] at g0; simpa using g0.symm
  obtain rfl : s1 = 1 := by rw [f1] at g1; simpa using g1.symm
  have ha : a = .int .i64 0 := by simpa using h01
  have hb : b = .int .i64 1 := by simpa using h11
  subst ha; subst hb
  have c0 := World.var?_cell hg hvar 0
  have c1 := World.var?_cell hg hvar 1
  refine ⟨by simpa using c0, by simpa using c1, ?_⟩
  rcases Nat.lt_or_ge 0 W.heap.size with h1 | h1
  ·exact h1
  ·have h2 : W.heap.size = 0 := by omega
   have : W.cell? ⟨0, 0, none⟩ = some (.int .i64 0) := by simpa using c0
   simp [World.cell?, Array.getElem?_eq_none (show W.heap.size ≤ 0 by omega)] at this
section
variable {H : Type} {enc : TypeId × Value → H} {w : World} {base : Nat} {spare : Nat → Bool} {held : Bool} {r : Reach} {b0 : Nat} {v : Value} {d : DataW H} {p : List MemPlace}
end
set_option maxRecDepth 100000
end
section
open Go Go.ChangeShapes Go.WideShapes Go.ChangeAt Go.RowKit Go.Deep
theorem Rl : Tryd.prog.cellsOf 71 = 2 := by kernel_rfl
theorem Oe : Tryd.prog.cellsOf 28 = 1 := by kernel_rfl
theorem Rk : Tryd.prog.cellsOf 67 = 7 := by kernel_rfl
theorem Er : Tryd.prog.cellsOf 29 = 1 := by kernel_rfl
theorem Rm : Tryd.prog.cellsOf 31 = 12 := by kernel_rfl
theorem A2 : Tryd.prog.bytesOf 71 = 24 := by kernel_rfl
theorem Az : Tryd.prog.bytesOf 67 = 80 := by kernel_rfl
theorem Pk {H : Type} {P : Program} {e : TypeId} : ∀ {l : List (DataW H)} {d : DataW H}, d ∈ l → ∀ n ∈ d.weights P e, n ∈ DataW.weightsAll P e l
 | x :: r, d, h, n, hn => by
  simp only [DataW.weightsAll, List.mem_append]
  rcases List.mem_cons.1 h with rfl | h
  ·exact Or.inl hn
  ·exact Or.inr (Pk h n hn)
/-- What the reach says of a period's sizes. -/
structure Pd.Light (p : Pd) : Prop where
 o : p.o.length * 24 ≤ 140737488351232
 c : p.c.length * 24 ≤ 140737488351232
 l : ∀ i, i < p.d.length → (p.d.getD i Qv).l.length * 24 ≤ 140737488351232
 d : p.d.length * 80 ≤ 140737488351232
theorem Hx {α : Type} (z : α) (g : Nat → α) {n i : Nat} (h : i < n) : ((List.range n).map g).getD i z = g i := by simp [List.getD, h]
section
variable {H : Type} {enc : TypeId × Value → H} {w : World} {base : Nat} {spare : Nat → Bool} {held : Bool} {r : Reach} {b0 : Nat} {v : Value} {d : DataW H} {p : List MemPlace}
theorem Gv {P : Program} {α : Type} {t e : TypeId} {sz m : Nat} {v : Value} {x : DataW H × List MemPlace} {f : α → List Value} {p : α → Prop} (d0 : α) (ht : P.underlying t = some (.slice e)) (hC : P.cellsOf e = sz) (hsz : 0 < sz) (hl : ∀ y, (f y).length = sz)
  (hone : ∀ n cs x, DataW.trod enc P w base spare held n e cs = some x → (∀ k ∈ x.1.weights P e, k ≤ reachBytes) → ∃ y, cs = f y ∧ p y) (h : DataW.trod enc P w base spare held m t [v] = some x) (hw : ∀ k ∈ x.1.weights P t, k ≤ reachBytes) :
  ∃ (A : Option Addr) (n cap : Nat) (g : Nat → α), v = .slice A n cap ∧ Qo w A n sz (fun i => f (g i)) ∧ n ≤ cap ∧ cap ≤ maxLen ∧ (A = none → n = 0 ∧ cap = 0) ∧ (∀ i, i < n → p (g i)) ∧ n * P.bytesOf e ≤ reachBytes := by
 rcases open_slice ht h with ⟨hcs, _⟩ | ⟨a, len, cap, k, n, D, Pl, hcs, hb, hlc, hcm, hk, hx, hi⟩
 ·exact ⟨none, 0, 0, fun _ => d0, by simpa using hcs, Qo.nil, Nat.le_refl _, Nat.zero_le _, fun _ => ⟨rfl, rfl⟩, fun i hi => absurd hi (by omega), by simp⟩
 ·have hlk : len ≤ k := by rw [hk]; split <;> omega
  rw [hx] at hw
  have hbytes : len * P.bytesOf e ≤ reachBytes := by
   have := hw ((len + (k - len)) * P.bytesOf e) (by simp [DataW.weights, ht])
   exact Nat.le_trans (Nat.mul_le_mul_right _ (Nat.le_add_right _ _)) this
  have each : ∀ i, ∃ y : α, i < len → (p y ∧ ∀ j u, (f y)[j]? = some u → w.cell? (a.add (i * sz + j)) = some u) := fun i => by
   by_cases hil : i < len
   ·obtain ⟨cs', hc, htr⟩ := hi i (by omega)
    rw [hC] at hc
    obtain ⟨y, rfl, hp⟩ := hone _ _ _ htr (fun q hq => hw q (by
     simp only [DataW.weights, ht]
     exact List.mem_cons_of_mem _ (List.mem_append_left _ (Pk (List.mem_map.2 ⟨i, List.mem_range.2 hil, rfl⟩) q hq))))
    obtain ⟨_, _, hat⟩ := World.cells?_some hc
    refine ⟨y, fun _ => ⟨hp, fun j u hu => ?_⟩⟩
    have hj : j < sz := by have := (List.getElem?_eq_some_iff.1 hu).1; rw [hl] at this; exact this
    rw [← Go.Deep.add_add, hat j hj, hu]
   ·exact ⟨d0, fun h => absurd h hil⟩
  obtain ⟨g, hg⟩ := Classical.axiomOfChoice each
  refine ⟨some a, len, cap, g, by simpa using hcs, fun hn => ?_, hlc, hcm, fun h => (by cases h), fun i hi => (hg i hi).1, hbytes⟩
  obtain ⟨b, off, spot⟩ := a
  have h00 : ((f (g 0))[0]?).isSome := by rw [List.getElem?_eq_getElem (by rw [hl]; exact hsz)]; rfl
  obtain ⟨u, hu⟩ := Option.isSome_iff_exists.1 h00
  have hc0 := (hg 0 hn).2 0 u hu
  have hspot : spot = none := by simpa [Addr.add] using World.cell?_spot hc0
  subst hspot
  have hc0' : w.cell? ⟨b, off, none⟩ = some u := by simpa [add_plain] using hc0
  refine ⟨b, off, rfl, ?_, fun i j v hi hv => ?_⟩
  ·rcases Nat.lt_or_ge b w.heap.size with h1 | h1
   ·exact h1
   ·simp [World.cell?, Array.getElem?_eq_none h1] at hc0'
  ·have := (hg i hi).2 j v hv
   rw [add_plain, ← Nat.add_assoc] at this
   exact this
theorem Qb8 {n : Nat} {cs : List Value} {x : DataW H × List MemPlace} (h : DataW.trod enc Tryd.prog w base spare held n 71 cs = some x) : ∃ y : Lt, cs = [.string y.g, .int .i64 y.n] := by
 obtain ⟨xs, m, _, _, hlen, hxl, hf⟩ := DataW.trod_struct Tryd.underlying71 h
 rw [Rl] at hlen
 match cs, hlen with
 | [a, b], _ =>
  obtain ⟨z0, rfl, _⟩ := Ng (Yb hxl (by decide) (hf 0 _ rfl) Kp)
  obtain ⟨z1, rfl, _⟩ := Uk (Yb hxl (by decide) (hf 1 _ rfl) We)
  exact ⟨⟨z0, z1⟩, rfl⟩
theorem Hc {m : Nat} {v : Value} {x : DataW H × List MemPlace} (h : DataW.trod enc Tryd.prog w base spare held m 28 [v] = some x) (hw : ∀ k ∈ x.1.weights Tryd.prog 28, k ≤ reachBytes) : ∃ l : List Lt, Zf w v l ∧ l.length * 24 ≤ 140737488351232 := by
 obtain ⟨A, n, cap, g, rfl, h1, h2, h3, h4, _, h6⟩ := Gv (f := fun y : Lt => [.string y.g, .int .i64 y.n]) (p := fun _ => True) Yu Tryd.underlying28 Rl (by decide) (fun _ => rfl) (fun n cs x hx _ => by
  obtain ⟨y, hy⟩ := Qb8 hx
  exact ⟨y, hy, trivial⟩) h hw
 rw [A2, Gl] at h6
 refine ⟨(List.range n).map g, ⟨A, cap, by simp, ?_, by simpa using h2, h3, by simpa using h4⟩, by simpa using h6⟩
 rw [List.length_map, List.length_range]
 exact h1.congr (fun i hi => by simp only [Zh, Q4]; rw [Hx Yu g hi])
theorem Iw {n : Nat} {cs : List Value} {x : DataW H × List MemPlace} (h : DataW.trod enc Tryd.prog w base spare held n 67 cs = some x) (hw : ∀ k ∈ x.1.weights Tryd.prog 67, k ≤ reachBytes) :
  ∃ y : Dl × Value, cs = Qu y.1 y.2 ∧ Zf w y.2 y.1.l ∧ y.1.l.length * 24 ≤ 140737488351232 := by
 obtain ⟨xs, m, _, hx, hlen, hxl, hf⟩ := DataW.trod_struct Tryd.underlying67 h
 have hxl2 : xs.length = 4 := hxl
 rw [hx] at hw
 have hw' : ∀ n ∈ DataW.weightsEach Tryd.prog [27, 4, 9, 28] (xs.map (·.1)), n ≤ reachBytes := fun n hn => hw n (by
  simp only [DataW.weights, Tryd.underlying67]
  exact hn)
 rw [Rk] at hlen
 match cs, hlen with
 | [c0, c1, c2, c3, c4, c5, c6], _ =>
  obtain ⟨_, h0⟩ := Yb hxl (by decide) (hf 0 _ rfl) Lp
  obtain ⟨a, ha⟩ := Lu h0
  obtain ⟨z4, rfl⟩ := Rb (Yb hxl (by decide) (hf 1 _ rfl) Rj)
  obtain ⟨z5, rfl, _⟩ := Ng (Yb hxl (by decide) (hf 2 _ rfl) Kp)
  have e3 : DataW.trod enc Tryd.prog w base spare held m 28 [c6] = some xs[3] := V8 (by omega) (hf 3 _ rfl) (n := 1) Oe
  obtain ⟨l, hl, hs⟩ := Hc e3 (fun k hk => hw' k (DataW.weights_mem_each (j := 3) rfl (by rw [List.getElem?_map, List.getElem?_eq_getElem (by omega)]; rfl) k hk))
  have ha' : [c0, c1, c2, c3] = [.int .i64 a.y, .int .i64 a.m, .bool a.s, .int .i64 a.d] := ha
  simp only [List.cons.injEq] at ha'
  obtain ⟨rfl, rfl, rfl, rfl, _⟩ := ha'
  exact ⟨(⟨a, z4, z5, l⟩, c6), rfl, hl, hs⟩
theorem I4 {m : Nat} {v : Value} {x : DataW H × List MemPlace} (h : DataW.trod enc Tryd.prog w base spare held m 29 [v] = some x) (hw : ∀ k ∈ x.1.weights Tryd.prog 29, k ≤ reachBytes) :
  ∃ l : List Dl, J2 w v l ∧ (∀ i, i < l.length → (l.getD i Qv).l.length * 24 ≤ 140737488351232) ∧ l.length * 80 ≤ 140737488351232 := by
 obtain ⟨A, n, cap, g, rfl, h1, h2, h3, h4, h5, h6⟩ := Gv (f := fun y : Dl × Value => Qu y.1 y.2) (p := fun y => Zf w y.2 y.1.l ∧ y.1.l.length * 24 ≤ 140737488351232) (Qv, .slice none 0 0) Tryd.underlying29 Rk (by decide) (fun _ => rfl) (fun n cs x hx hk => Iw hx hk) h hw
 rw [Az, Gl] at h6
 have hg : ∀ i, i < n → ((List.range n).map (fun i => (g i).1)).getD i Qv = (g i).1 := fun i hi => Hx Qv _ hi
 refine ⟨(List.range n).map (fun i => (g i).1), ⟨A, cap, fun i => (g i).2, by simp, ?_, by simpa using h2, h3, by simpa using h4, fun i hi => ?_⟩, fun i hi => ?_, by simpa using h6⟩
 ·rw [List.length_map, List.length_range]
  exact h1.congr (fun i hi => by show Qu _ _ = Qu _ _; rw [hg i hi])
 ·rw [List.length_map, List.length_range] at hi
  rw [hg i hi]
  exact (h5 i hi).1
 ·rw [List.length_map, List.length_range] at hi
  rw [hg i hi]
  exact (h5 i hi).2
theorem Du {n : Nat} {cs : List Value} {x : DataW H × List MemPlace} (h : DataW.trod enc Tryd.prog w base spare held n 31 cs = some x) (hw : ∀ k ∈ x.1.weights Tryd.prog 31, k ≤ reachBytes) :
  ∃ y : Pd × Value × Value × Value, cs = Qq y.1 y.2.1 y.2.2.1 y.2.2.2 ∧ Zv w y.1 y.2.1 y.2.2.1 y.2.2.2 ∧ y.1.Light := by
 obtain ⟨xs, m, _, hx, hlen, hxl, hf⟩ := DataW.trod_struct Tryd.underlying31 h
 have hxl2 : xs.length = 6 := hxl
 rw [hx] at hw
 have hw' : ∀ n ∈ DataW.weightsEach Tryd.prog [9, 27, 27, 28, 29, 28] (xs.map (·.1)), n ≤ reachBytes := fun n hn => hw n (by
  simp only [DataW.weights, Tryd.underlying31]
  exact hn)
 rw [Rm] at hlen
 match cs, hlen with
 | [c0, c1, c2, c3, c4, c5, c6, c7, c8, c9, c10, c11], _ =>
  obtain ⟨z0, rfl, _⟩ := Ng (Yb hxl (by decide) (hf 0 _ rfl) Kp)
  obtain ⟨_, h1⟩ := Yb hxl (by decide) (hf 1 _ rfl) Lp
  obtain ⟨_, h2⟩ := Yb hxl (by decide) (hf 2 _ rfl) Lp
  obtain ⟨a, ha⟩ := Lu h1
  obtain ⟨b, hb⟩ := Lu h2
  have e3 : DataW.trod enc Tryd.prog w base spare held m 28 [c9] = some xs[3] := V8 (by omega) (hf 3 _ rfl) (n := 1) Oe
  have e4 : DataW.trod enc Tryd.prog w base spare held m 29 [c10] = some xs[4] := V8 (by omega) (hf 4 _ rfl) (n := 1) Er
  have e5 : DataW.trod enc Tryd.prog w base spare held m 28 [c11] = some xs[5] := V8 (by omega) (hf 5 _ rfl) (n := 1) Oe
  obtain ⟨lo, ho, hso⟩ := Hc e3 (fun k hk => hw' k (DataW.weights_mem_each (j := 3) rfl (by rw [List.getElem?_map, List.getElem?_eq_getElem (by omega)]; rfl) k hk))
  obtain ⟨ld, hd, hsl, hsd⟩ := I4 e4 (fun k hk => hw' k (DataW.weights_mem_each (j := 4) rfl (by rw [List.getElem?_map, List.getElem?_eq_getElem (by omega)]; rfl) k hk))
  obtain ⟨lc, hc, hsc⟩ := Hc e5 (fun k hk => hw' k (DataW.weights_mem_each (j := 5) rfl (by rw [List.getElem?_map, List.getElem?_eq_getElem (by omega)]; rfl) k hk))
  have ha' : [c1, c2, c3, c4] = [.int .i64 a.y, .int .i64 a.m, .bool a.s, .int .i64 a.d] := ha
  have hb' : [c5, c6, c7, c8] = [.int .i64 b.y, .int .i64 b.m, .bool b.s, .int .i64 b.d] := hb
  simp only [List.cons.injEq] at ha' hb'
  obtain ⟨rfl, rfl, rfl, rfl, _⟩ := ha'
  obtain ⟨rfl, rfl, rfl, rfl, _⟩ := hb'
  exact ⟨(⟨z0, a, b, lo, ld, lc⟩, c9, c10, c11), rfl, ⟨ho, hd, hc⟩, ⟨hso, hsc, hsl, hsd⟩⟩
theorem Dv (hv : Value.okWide Tryd.prog w r b0 31 v) (h : DataW.Trod enc Tryd.prog w base spare held 31 v d p) (hl : ∀ n ∈ d.weights Tryd.prog 31, n ≤ reachBytes) :
  ∃ (p : Pd) (vo vd vc : Value), v = .agg #[.string p.h, .int .i64 p.a.y, .int .i64 p.a.m, .bool p.a.s, .int .i64 p.a.d, .int .i64 p.b.y, .int .i64 p.b.m, .bool p.b.s, .int .i64 p.b.d, vo, vd, vc] ∧ Zv w p vo vd vc ∧ p.Light := by
 obtain ⟨cs, rfl, hsz⟩ := okWide_struct Tryd.underlying31 hv
 obtain ⟨fuel, hf⟩ := h
 obtain ⟨⟨p, vo, vd, vc⟩, hy, hP, hL⟩ := Du hf hl
 obtain ⟨cs⟩ := cs
 have hy' : cs = Qq p vo vd vc := hy
 exact ⟨p, vo, vd, vc, by rw [hy']; rfl, hP, hL⟩
theorem Qdq (hv : Value.okWide Tryd.prog w r b0 37 v) (h : DataW.Trod enc Tryd.prog w base spare held 37 v d p) (hl : ∀ n ∈ d.weights Tryd.prog 37, n ≤ reachBytes) :
  ∃ l : List Pd, Ym w v l ∧ (∀ i, i < l.length → (l.getD i Qk).Light) ∧ l.length * 152 ≤ 140737488351232 := by
 obtain ⟨a, len, cap, rfl⟩ := okWide_slice Tryd.underlying37 hv
 obtain ⟨fuel, hf⟩ := h
 obtain ⟨A, n, cap, g, e, h1, h2, h3, h4, h5, h6⟩ := Gv (f := fun y : Pd × Value × Value × Value => Qq y.1 y.2.1 y.2.2.1 y.2.2.2) (p := fun y => Zv w y.1 y.2.1 y.2.2.1 y.2.2.2 ∧ y.1.Light) (Qk, .slice none 0 0, .slice none 0 0, .slice none 0 0) Tryd.underlying37 Rm (by decide) (fun _ => rfl) (fun n cs x hx hk => Du hx hk) hf hl
 rw [show Tryd.prog.bytesOf 31 = 152 by kernel_rfl, Gl] at h6
 have hg : ∀ i, i < n → ((List.range n).map (fun i => (g i).1)).getD i Qk = (g i).1 := fun i hi => Hx Qk _ hi
 rw [e]
 refine ⟨(List.range n).map (fun i => (g i).1), ⟨A, cap, fun i => (g i).2.1, fun i => (g i).2.2.1, fun i => (g i).2.2.2, by simp, ?_, by simpa using h2, h3, by simpa using h4, fun i hi => ?_⟩, fun i hi => ?_, by simpa using h6⟩
 ·rw [List.length_map, List.length_range]
  exact h1.congr (fun i hi => by show Qq _ _ _ _ = Qq _ _ _ _; rw [hg i hi])
 ·rw [List.length_map, List.length_range] at hi
  rw [hg i hi]
  exact (h5 i hi).1
 ·rw [List.length_map, List.length_range] at hi
  rw [hg i hi]
  exact (h5 i hi).2
end
end
section
open Go Go.RowKit Go.Shelf
attribute [local go_sem] Zi
theorem Sh : (Tryd.prog.info? 31).map (fun i => (i.zero, i.size, i.bytes)) = some (some (.agg #[.string ⟨#[]⟩, .int .i64 0, .int .i64 0, .bool false, .int .i64 0, .int .i64 0, .int .i64 0, .bool false, .int .i64 0, .slice none 0 0, .slice none 0 0, .slice none 0 0]), 12, 152) := by kernel_rfl
theorem Lq (p : Pd) (F G H : Option Addr) (n1 m1 n2 m2 n3 m3 : Nat) : ∀ u ∈ Qq p (.slice F n1 m1) (.slice G n2 m2) (.slice H n3 m3), u.oneCell' = true := by simp [Qq, Value.oneCell']
/-- Periods in an own row, each with what it holds in own rows. -/
def Yc (W : World) (b : Nat) (v : Value) (n : Nat) (g : Nat → Pd) : Prop := ∃ vo vd vc : Nat → Value, W.ownsRow b 31 12 v n (Qz (fun i => Qq (g i) (vo i) (vd i) (vc i)) n) ∧ ∀ i, i < n → Zj W b (g i) (vo i) (vd i) (vc i)
theorem Dy (W : World) (b : Nat) (g : Nat → Pd) : Yc W b (.slice none 0 0) 0 g := ⟨fun _ => .slice none 0 0, fun _ => .slice none 0 0, fun _ => .slice none 0 0, World.ownsRow_nil _ _ _ _, fun i h => absurd h (by omega)⟩
theorem Yc.ext {W W' : World} {b n : Nat} {v : Value} {g : Nat → Pd} (h : Yc W b v n g) (x : Qa W W') : Yc W' b v n g := by
 obtain ⟨vo, vd, vc, h1, h2⟩ := h
 exact ⟨vo, vd, vc, Zp h1 x, fun i hi => (h2 i hi).ext x⟩
theorem Yc.le {W : World} {b b' n : Nat} {v : Value} {g : Nat → Pd} (h : Yc W b v n g) (hb : b' ≤ b) : Yc W b' v n g := by
 obtain ⟨vo, vd, vc, h1, h2⟩ := h
 exact ⟨vo, vd, vc, h1.mono hb, fun i hi => (h2 i hi).le hb⟩
theorem Qdr {W : World} {b : Nat} {v : Value} {l : List Pd} (h : Yc W b v l.length (fun i => l.getD i Qk)) : Ym W v l := by
 obtain ⟨vo, vd, vc, h1, h2⟩ := h
 obtain ⟨F, c, g1, g2, g3, g4, g5, _⟩ := Wg (f := fun i => Qq (l.getD i Qk) (vo i) (vd i) (vc i)) (fun _ => rfl) h1
 exact ⟨F, c, vo, vd, vc, g1, g2, g3, g4, g5, fun i hi => V5 (h2 i hi)⟩
theorem Zj.kept {W w1 : World} {b b' k : Nat} {v' vo vd vc : Value} {p : Pd} {xs : List Value} {row : Option Nat} (h : Zj W b p vo vd vc) (hr : W.ownsRow b' 31 12 v' k xs) (hg : W.grownBy w1 row) (hrow : row = v'.ownBlock) : Zj w1 b p vo vd vc := by
 subst hrow
 obtain ⟨vs, d1, d2⟩ := h.d
 exact ⟨World.ownsRow.kept h.o hg (K4 h.o hr (by decide)), ⟨vs, World.ownsRow.kept d1 hg (K4 d1 hr (by decide)), fun i hi => World.ownsRow.kept (d2 i hi) hg (K4 (d2 i hi) hr (by decide))⟩, World.ownsRow.kept h.c hg (K4 h.c hr (by decide))⟩
theorem Zj.alloc {W : World} {b : Nat} {vo vd vc : Value} {p : Pd} (h : Zj W b p vo vd vc) (ob : Obj) : Zj (W.alloc ob) b p vo vd vc := h.ext ((Qa.refl _).alloc ob)
theorem Qds {W w1 : World} {b k : Nat} {v v' uo ud uc : Value} {g : Nat → Pd} {vo vd vc : Nat → Value} {ob : Obj} (hO : W.ownsRow b 31 12 v k (Qz (fun i => Qq (g i) (vo i) (vd i) (vc i)) k)) (hL : ∀ i, i < k → Zj W b (g i) (vo i) (vd i) (vc i)) (hl : Zj W b (g k) uo ud uc)
  (hown : w1.ownsRow b 31 12 v' (k + 1) (Qz (fun i => Qq (g i) (vo i) (vd i) (vc i)) k ++ Qq (g k) uo ud uc)) (hgrow : (W.alloc ob).grownBy w1 v.ownBlock) : Yc w1 b v' (k + 1) g := by
 refine ⟨fun i => if i = k then uo else vo i, fun i => if i = k then ud else vd i, fun i => if i = k then uc else vc i, ?_, fun i hi => ?_⟩
 ·rw [X0, Uj (f' := fun i => Qq (g i) (vo i) (vd i) (vc i)) k (fun i hi => by simp [show i ≠ k by omega])]
  simpa using hown
 ·by_cases e : i = k
  ·subst e; simpa using Zj.kept (hl.alloc ob) (hO.alloc ob) hgrow rfl
  ·simpa [e] using Zj.kept ((hL i (by omega)).alloc ob) (hO.alloc ob) hgrow rfl
theorem Ak (A A' : Option Addr) (ca cb : Nat) (c : Qc) (v : Value) (l : List Pd) (w : World) (hC : Q8 w A ca A' cb c) (hP : Ym w v l) :
  Calls Tryd.prog 26 #[.agg #[.slice A c.nk ca, .slice A' c.ny cb], v] w fun e w' => e = .returned (.tuple #[.agg #[.slice A c.nk ca, .slice A' c.ny cb], .int .i64 (c.archE l)]) ∧ Qa w w' := by
 have NO := fun w h => K0 A A' ca cb c w h
 obtain ⟨D, cap, _, _, _, hv9, _⟩ := id hP
 subst hv9
 have NP := fun w h1 h2 => Dw A A' ca cb c (.slice D l.length cap) l w h1 h2
 obtain ⟨R, hR0⟩ := Qg (c.archE l)
 rw [← hR0]
 have HR := Lib.hid hR0
 clear hR0
 go_enter Tryd.func26, Tryd.ntmps26
 go_upto_region 1 with (fail)
 obtain ⟨v, hv⟩ := Qg ((w.alloc (.cells #[.slice A c.nk ca, .slice A' c.ny cb] 25)).alloc (.cells #[.slice none 0 0, .slice none 0 0] 52))
 rw [← hv]
 have E : Qa w v := by rw [hv]; exact ((Qa.refl _).alloc _).alloc _
 have B1 : Qb v w.heap.size 25 #[.slice A c.nk ca, .slice A' c.ny cb] := by rw [hv]; exact (Qb.new _ _ _).alloc _
 have B2 : Qb v (w.heap.size + 1) 52 #[.slice none 0 0, .slice none 0 0] := by rw [hv]; exact Qb.at _ _ _ _ (by simp)
 clear hv
 obtain ⟨b2, hb2⟩ := Qg (w.heap.size + 1)
 rw [← hb2] at B2 ⊢
 obtain ⟨b1, hb1⟩ := Qg (w.heap.size)
 rw [← hb1] at B1 ⊢
 have hbr : w.heap.size ≤ b2 := by omega
 have hbr1 : w.heap.size ≤ b1 := by omega
 have hn21 : b2 ≠ b1 := by omega
 clear hb1 hb2
 obtain ⟨k0, k1⟩ := B1.c2
 have lk := B1.lt
 obtain ⟨ck, hck⟩ := Qg (c.chk)
 simp only [← hck] at NO
 replace hck := Lib.hid hck
 go_upto_region 2 with (go_at_call 41; (with_reducible refine Calls.mono (NO _ (hC.ext E)) ?_); rintro e w1 ⟨rfl, h1⟩)
 obtain ⟨v3, hv⟩ := Qg (w1.alloc (.cells #[.slice A c.nk ca, .slice A' c.ny cb] 52))
 rw [← hv]
 have h3 : Qa w1 v3 := by rw [hv]; exact (Qa.refl _).alloc _
 have H3 : Qb v3 w1.heap.size 52 #[.slice A c.nk ca, .slice A' c.ny cb] := by rw [hv]; exact Qb.new _ _ _
 clear hv
 generalize w1.heap.size = b9 at *
 replace E := (E.trans h1).trans h3
 replace B2 := (B2.ext h1).ext h3
 have C := hC.ext E
 have P := hP.ext E
 clear hC hP k0 k1 lk B1 NO h1 h3
 by_cases e0 : ck = 0
 rotate_left
 ·have g0 : (ck == 0) = false := beq_eq_false_iff_ne.2 e0
  have g0n : (ck != 0) = true := by rw [bne, g0]; rfl
  have hr : R = ck := by rw [HR.out, hck.out]; unfold Qc.archE; rw [if_pos (by rw [← hck.out]; exact e0)]
  clear HR e0 hck NP
  obtain ⟨k0, k1⟩ := H3.c2
  have lk := H3.lt
  have f0 := B2.frozen 0
  have f1 := B2.frozen 1
  obtain ⟨x0, x1⟩ := B2.c2
  have lx := B2.lt
  have H4 := Ql B2 (.slice A c.nk ca) (.slice A' c.ny cb)
  have EF := (E.setCell (p := ⟨b2, 0, none⟩) hbr (.slice A c.nk ca)).setCell (p := ⟨b2, 1, none⟩) hbr (.slice A' c.ny cb)
  obtain ⟨y0, y1⟩ := H4.c2
  go_wp2
  refine bodyPost_ret (v := .tuple #[.agg #[.slice A c.nk ca, .slice A' c.ny cb], .int .i64 ck]) (by simp [results, Tryd.results26, go_sem, y0, y1]) rfl ⟨by rw [hr], EF⟩
 ·subst e0
  by_cases hlim : 32 < l.length
  ·have hr : R = 3 := by rw [HR.out]; unfold Qc.archE; rw [if_neg (by rw [← hck.out]; simp), if_pos hlim]
   have g1 : decide (32 < l.length) = true := decide_eq_true hlim
   clear HR hck NP
   obtain ⟨k0, k1⟩ := H3.c2
   have lk := H3.lt
   have f0 := B2.frozen 0
   have f1 := B2.frozen 1
   obtain ⟨x0, x1⟩ := B2.c2
   have lx := B2.lt
   have H4 := Ql B2 (.slice A c.nk ca) (.slice A' c.ny cb)
   have EF := (E.setCell (p := ⟨b2, 0, none⟩) hbr (.slice A c.nk ca)).setCell (p := ⟨b2, 1, none⟩) hbr (.slice A' c.ny cb)
   obtain ⟨y0, y1⟩ := H4.c2
   go_wp2
   refine bodyPost_ret (v := .tuple #[.agg #[.slice A c.nk ca, .slice A' c.ny cb], .int .i64 3]) (by simp [results, Tryd.results26, go_sem, y0, y1]) rfl ⟨by rw [hr], EF⟩
  have hr : Hid (R = c.persE l) := by unfold Hid; rw [HR.out]; unfold Qc.archE; rw [if_neg (by rw [← hck.out]; simp), if_neg hlim]
  have g1 : decide (32 < l.length) = false := decide_eq_false hlim
  clear HR hck
  obtain ⟨k0, k1⟩ := H3.c2
  have lk := H3.lt
  go_upto_region 6 with (fail)
  clear k0 k1 lk
  refine Q5 6 [4, 5] (fun x => Qa v3 x) Qr rfl ?_
  intro vz hvz
  have HC := hvz
  refine Qp (g := 3) [0, 1, 2] [_, _, _] ⟨rfl, rfl, rfl, trivial⟩ (by kernel_rfl) (by kernel_rfl) HC ?_
  simp only [Qd, Qe, Qf]
  apply Exists.intro
  refine ⟨fun u hu => ?_, ?_⟩
  ·obtain ⟨k0, k1⟩ := (H3.ext hu).c2
   have lk := (H3.ext hu).lt
   repeat (first | go_big_quiet_skip | (go_big_quiet_want; go_big_quiet_op; go_big_quiet_on))
   refine wpQuiet_nil ?_
   rfl
  refine Qj 3 rfl (by kernel_rfl) ?_
  simp only [Qd, Qe, Qf]
  go_wp2_with (go_at_call 42; (with_reducible refine Calls.mono (NP _ (C.ext HC) (P.ext HC)) ?_); rintro e va ⟨rfl, h4⟩)
  replace HC := HC.trans h4
  clear h4
  refine Qi HC ?_
  refine Qn 4 rfl (by kernel_rfl) ?_
  simp only [Qd, Qe, Qf]
  replace B2 := B2.ext HC
  replace E := E.trans HC
  have f0 := B2.frozen 0
  have f1 := B2.frozen 1
  obtain ⟨x0, x1⟩ := B2.c2
  have lx := B2.lt
  have H4 := Ql B2 (.slice A c.nk ca) (.slice A' c.ny cb)
  have EF := (E.setCell (p := ⟨b2, 0, none⟩) hbr (.slice A c.nk ca)).setCell (p := ⟨b2, 1, none⟩) hbr (.slice A' c.ny cb)
  obtain ⟨y0, y1⟩ := H4.c2
  go_wp2
  refine Qm ?_
  refine Qn 5 rfl (by kernel_rfl) ?_
  simp only [Qd, Qe, Qf]
  go_wp2
  refine Qm ?_
  refine Qt (by kernel_rfl) ?_
  go_wp2
  refine bodyPost_ret (v := .tuple #[.agg #[.slice A c.nk ca, .slice A' c.ny cb], .int .i64 (c.persE l)]) (by simp [results, Tryd.results26, go_sem, y0, y1]) rfl ⟨by rw [hr.out], EF⟩
end
section
/-- The day n is in the calendar and fits. -/
def Qc.Fit (c : Qc) (t : Tr) (n : Int) : Prop := ∃ d, c.at? n = some d ∧ c.fits t d = true
/-- l is what fits of the days before e. -/
structure Uw (F : Int → Prop) (l : List Sp) (e : Int) : Prop where
 ok : ∀ s, s ∈ l → 1 ≤ s.a ∧ s.a ≤ s.b ∧ s.b < e
 pw : l.Pairwise (fun s s' => s.b + 2 ≤ s'.a)
 cover : ∀ n, 1 ≤ n → n < e → (F n ↔ ∃ s, s ∈ l ∧ s.a ≤ n ∧ n ≤ s.b)
namespace Uw
variable {F : Int → Prop} {l : List Sp} {e : Int}
theorem nil (F : Int → Prop) : Uw F [] 1 := ⟨fun _ h => (by cases h), List.Pairwise.nil, fun n h1 h2 => by omega⟩
theorem skip (h : Uw F l e) (hF : ¬ F e) : Uw F l (e + 1) := by
 refine ⟨fun s hs => ?_, h.pw, fun n h1 h2 => ?_⟩
 ·have := h.ok s hs; omega
 ·by_cases hn : n = e
  ·subst hn
   refine ⟨fun hf => absurd hf hF, fun ⟨s, hs, h3, h4⟩ => ?_⟩
   have := h.ok s hs; omega
  ·exact h.cover n h1 (by omega)
theorem add (h : Uw F l e) (h1 : 1 ≤ e) (hF : F e) : Uw F (Fm l e) (e + 1) := by
 unfold Fm
 cases hl : l.getLast? with
 | none =>
  have : l = [] := List.getLast?_eq_none_iff.1 hl
  subst this
  refine ⟨fun s hs => ?_, List.pairwise_singleton _ _, fun n h2 h3 => ?_⟩
  ·rw [List.mem_singleton] at hs; subst hs; simp only; omega
  ·by_cases hn : n = e
   ·subst hn; exact ⟨fun _ => ⟨_, List.mem_singleton.2 rfl, Int.le_refl _, Int.le_refl _⟩, fun _ => hF⟩
   ·rw [h.cover n h2 (by omega)]
    refine ⟨fun ⟨s, hs, _⟩ => (by cases hs), fun ⟨s, hs, h4, h5⟩ => ?_⟩
    rw [List.mem_singleton] at hs; subst hs; simp only at h4 h5; omega
 | some z =>
  have hz : l = l.dropLast ++ [z] := by
   have hne : l ≠ [] := fun h0 => by subst h0; cases hl
   rw [List.getLast?_eq_some_getLast hne] at hl
   rw [← Option.some.inj hl]; exact (List.dropLast_concat_getLast hne).symm
  have hzl : z ∈ l := by rw [hz]; simp
  have hok := h.ok z hzl
  have hpw := h.pw
  simp only
  split
  ·rename_i hb
   rw [hz, List.pairwise_append] at hpw
   refine ⟨fun s hs => ?_, ?_, fun n h2 h3 => ?_⟩
   ·rcases List.mem_append.1 hs with hs | hs
    ·have := h.ok s (List.dropLast_subset _ hs); omega
    ·rw [List.mem_singleton] at hs; subst hs; simp only; omega
   ·rw [List.pairwise_append]
    exact ⟨hpw.1, List.pairwise_singleton _ _, fun s hs s' hs' => by
     rw [List.mem_singleton] at hs'; subst hs'
     exact hpw.2.2 s hs z (by simp)⟩
   ·by_cases hn : n = e
    ·subst hn; exact ⟨fun _ => ⟨⟨z.a, n⟩, by simp, by simp only; omega, Int.le_refl _⟩, fun _ => hF⟩
    ·rw [h.cover n h2 (by omega)]
     constructor
     ·rintro ⟨s, hs, h4, h5⟩
      rw [hz] at hs
      rcases List.mem_append.1 hs with hs | hs
      ·exact ⟨s, List.mem_append_left _ hs, h4, h5⟩
      ·rw [List.mem_singleton] at hs; subst hs
       exact ⟨⟨s.a, e⟩, by simp, h4, by simp only; omega⟩
     ·rintro ⟨s, hs, h4, h5⟩
      rcases List.mem_append.1 hs with hs | hs
      ·exact ⟨s, List.dropLast_subset _ hs, h4, h5⟩
      ·rw [List.mem_singleton] at hs; subst hs
       simp only at h4 h5
       exact ⟨z, hzl, h4, by omega⟩
  ·rename_i hb
   refine ⟨fun s hs => ?_, ?_, fun n h2 h3 => ?_⟩
   ·rcases List.mem_append.1 hs with hs | hs
    ·have := h.ok s hs; omega
    ·rw [List.mem_singleton] at hs; subst hs; simp only; omega
   ·rw [List.pairwise_append]
    refine ⟨hpw, List.pairwise_singleton _ _, fun s hs s' hs' => ?_⟩
    rw [List.mem_singleton] at hs'; subst hs'
    simp only
    rw [hz] at hs
    rcases List.mem_append.1 hs with hs | hs
    ·rw [hz, List.pairwise_append] at hpw
     have := hpw.2.2 s hs z (by simp)
     omega
    ·rw [List.mem_singleton] at hs; subst hs; omega
   ·by_cases hn : n = e
    ·subst hn; exact ⟨fun _ => ⟨⟨n, n⟩, by simp, Int.le_refl _, Int.le_refl _⟩, fun _ => hF⟩
    ·rw [h.cover n h2 (by omega)]
     constructor
     ·rintro ⟨s, hs, h4, h5⟩; exact ⟨s, List.mem_append_left _ hs, h4, h5⟩
     ·rintro ⟨s, hs, h4, h5⟩
      rcases List.mem_append.1 hs with hs | hs
      ·exact ⟨s, hs, h4, h5⟩
      ·rw [List.mem_singleton] at hs; subst hs
       simp only at h4 h5; omega
end Uw
theorem Qc.Fit.in {c : Qc} {t : Tr} {n : Int} (h : c.Fit t n) : 1 ≤ n ∧ n < c.dayAt c.ny := by
 obtain ⟨d, hd, _⟩ := h
 rcases Decidable.em (n < 1 ∨ c.dayAt c.ny ≤ n) with h2 | h2
 ·rw [N5 h2] at hd; cases hd
 ·omega
end
section
open Go Go.RowKit Go.Shelf
attribute [local go_sem] Zi
theorem Qb.c7 {W : World} {b : Nat} {t : TypeId} {v0 v1 v2 v3 v4 v5 v6 : Value} (h : Qb W b t #[v0, v1, v2, v3, v4, v5, v6]) : W.cell? ⟨b, 0, none⟩ = some v0 ∧ W.cell? ⟨b, 1, none⟩ = some v1 ∧ W.cell? ⟨b, 2, none⟩ = some v2 ∧ W.cell? ⟨b, 3, none⟩ = some v3 ∧ W.cell? ⟨b, 4, none⟩ = some v4 ∧ W.cell? ⟨b, 5, none⟩ = some v5 ∧ W.cell? ⟨b, 6, none⟩ = some v6 :=
 ⟨h.cell 0, h.cell 1, h.cell 2, h.cell 3, h.cell 4, h.cell 5, h.cell 6⟩
/-! ### The earliest and the latest days -/
theorem Tr.row {w : World} {B : Option Addr} {n : Nat} {f : Nat → Tr} (h : Qo w B n 7 (fun i => (f i).cells)) {k : Nat} (hk : k < n) :
  ∃ b off, B = some ⟨b, off, none⟩ ∧ b < w.heap.size ∧ w.cell? ⟨b, off + k * 7, none⟩ = some (.int .i64 (f k).d) ∧ w.cell? ⟨b, off + k * 7 + 1, none⟩ = some (.bool (f k).more) ∧ w.cell? ⟨b, off + k * 7 + 2, none⟩ = some (.int .i64 (f k).m) ∧ w.cell? ⟨b, off + k * 7 + 3, none⟩ = some (.bool (f k).s) ∧
   w.cell? ⟨b, off + k * 7 + 4, none⟩ = some (.string (f k).nm) ∧ w.cell? ⟨b, off + k * 7 + 5, none⟩ = some (.int .i64 (f k).af) ∧ w.cell? ⟨b, off + k * 7 + 6, none⟩ = some (.string (f k).kg) := by
 obtain ⟨b, off, hB, hb, hc⟩ := h (by omega)
 exact ⟨b, off, hB, hb, by simpa using hc k 0 _ hk rfl, hc k 1 _ hk rfl, hc k 2 _ hk rfl, hc k 3 _ hk rfl, hc k 4 _ hk rfl, hc k 5 _ hk rfl, hc k 6 _ hk rfl⟩
namespace SerR
variable {wo wr w' : World} {O n k : Nat} {sp : Nat → List Sp} {F L : Nat → Int} {vs : Nat → Value}
end SerR
end
section
structure Uy (l : List Sp) : Prop where
 ok : ∀ s, s ∈ l → 1 ≤ s.a ∧ s.a ≤ s.b ∧ s.b ≤ 156000
 pw : l.Pairwise (fun s s' => s.b + 2 ≤ s'.a)
def inS (l : List Sp) (n : Int) : Prop := ∃ s, s ∈ l ∧ s.a ≤ n ∧ n ≤ s.b
theorem Uy.tail {s : Sp} {l : List Sp} (h : Uy (s :: l)) : Uy l := ⟨fun x hx => h.ok x (List.mem_cons_of_mem _ hx), (List.pairwise_cons.1 h.pw).2⟩
theorem Uy.two {l : List Sp} (h : Uy l) {s s' : Sp} (hs : s ∈ l) (hs' : s' ∈ l) : s = s' ∨ s.b + 2 ≤ s'.a ∨ s'.b + 2 ≤ s.a := by
 obtain ⟨i, hi, rfl⟩ := List.mem_iff_getElem.1 hs
 obtain ⟨j, hj, rfl⟩ := List.mem_iff_getElem.1 hs'
 have hp := List.pairwise_iff_getElem.1 h.pw
 rcases Nat.lt_trichotomy i j with h1 | h1 | h1
 ·exact .inr (.inl (hp i j hi hj h1))
 ·subst h1; exact .inl rfl
 ·exact .inr (.inr (hp j i hj hi h1))
theorem Uy.in {l : List Sp} (h : Uy l) {n : Int} (hn : inS l n) : 1 ≤ n ∧ n ≤ 156000 := by
 obtain ⟨s, hs, h1, h2⟩ := hn
 have := h.ok s hs
 omega
section
variable {sp : Nat → List Sp} {n : Nat} {D : Nat → Int}
end
end
section
open Go Go.RowKit Go.Shelf
attribute [local go_sem] Zi
attribute [local go_sem high] Qar
def yrT : Nat → Yr
 | 0 => ⟨0, ⟨#[97]⟩, 4095, 0⟩
 | _ => ⟨0, ⟨#[98]⟩, 4095, 0⟩
def Kn : Qc := ⟨1, fun _ => ⟨#[117, 114]⟩, 2, yrT⟩
theorem eT_sch : Kn.schV ⟨0, 1, false, 1⟩ ⟨0, 7, false, 1⟩ = 180 := by kernel_rfl
theorem eT_err : Kn.in2E ⟨0, 1, false, 1⟩ ⟨0, 7, false, 1⟩ = 0 := by kernel_rfl
theorem eT_int : Zu ⟨60, 1⟩ ⟨1, 5⟩ 180 = (⟨6, 1⟩, 0) := by kernel_rfl
theorem wT_sch {A A' : Option Addr} {ca cb : Nat} {w : World} (hC : Q8 w A ca A' cb Kn) : Calls Tryd.prog 18 #[.agg #[.slice A 1 ca, .slice A' 2 cb], .agg #[.int .i64 0, .int .i64 1, .bool false, .int .i64 1], .agg #[.int .i64 0, .int .i64 7, .bool false, .int .i64 1]] w fun e w' => e = .returned (.tuple #[.int .i64 180, .int .i64 0]) ∧ Qa w w' := by
 have := Bk A A' ca cb Kn ⟨0, 1, false, 1⟩ ⟨0, 7, false, 1⟩ w hC
 rw [eT_sch, eT_err] at this
 exact this
theorem Ba {w : World} {b : Nat} {t : TypeId} {cs : Array Value} {n sz : Nat} {f : Nat → List Value} (h : Qb w b t cs) (hf : ∀ i j v, i < n → (f i)[j]? = some v → cs[i * sz + j]? = some v) : Qo w (some ⟨b, 0, none⟩) n sz f :=
 fun _ => ⟨b, 0, rfl, h.lt, fun i j v hi hv => by rw [Nat.zero_add, h.cell]; exact hf i j v hi hv⟩
theorem A3 {w : World} {b1 b2 : Nat} (h1 : Qb w b1 9 #[.string ⟨#[117, 114]⟩]) (h2 : Qb w b2 57 #[.int .i64 0, .string ⟨#[97]⟩, .int .i64 4095, .int .i64 0, .int .i64 0, .string ⟨#[98]⟩, .int .i64 4095, .int .i64 0]) : Q8 w (some ⟨b1, 0, none⟩) 1 (some ⟨b2, 0, none⟩) 2 Kn := by
 refine ⟨Ba h1 ?_, Ba h2 ?_, by decide, by decide, by decide, by decide⟩
 ·intro i j v hi hv
  have hi : i < 1 := hi
  have hj : j < 1 := (List.getElem?_eq_some_iff.1 hv).1
  rw [← hv]
  obtain rfl : i = 0 := by omega
  obtain rfl : j = 0 := by omega
  rfl
 ·intro i j v hi hv
  have hi : i < 2 := hi
  have hj : j < 4 := (List.getElem?_eq_some_iff.1 hv).1
  rw [← hv]
  have h1 : i = 0 ∨ i = 1 := by omega
  have h2 : j = 0 ∨ j = 1 ∨ j = 2 ∨ j = 3 := by omega
  rcases h1 with rfl | rfl <;> rcases h2 with rfl | rfl | rfl | rfl <;> rfl
theorem O6 (w : World) (hZ : Zl w) : Calls Tryd.prog 7 #[] w fun e w' => e = .returned (.bool true) ∧ Qa w w' := by
 go_enter Tryd.func7, Tryd.ntmps7
 go_upto_region 2 with (fail)
 obtain ⟨v, hv⟩ := Qg (((w.alloc (.cells #[.string ⟨#[117, 114]⟩] 9)).alloc (.cells #[.int .i64 0, .string ⟨#[97]⟩, .int .i64 4095, .int .i64 0, .int .i64 0, .string ⟨#[98]⟩, .int .i64 4095, .int .i64 0] 57)).alloc (.cells #[.slice (some ⟨w.heap.size, 0, none⟩) 1 1, .slice (some ⟨w.heap.size + 1, 0, none⟩) 2 2] 25))
 rw [← hv]
 have E : Qa w v := by rw [hv]; exact (((Qa.refl _).alloc _).alloc _).alloc _
 have K1 : Qb v w.heap.size 9 #[.string ⟨#[117, 114]⟩] := by rw [hv]; exact ((Qb.new _ _ _).alloc _).alloc _
 have K2 : Qb v (w.heap.size + 1) 57 #[.int .i64 0, .string ⟨#[97]⟩, .int .i64 4095, .int .i64 0, .int .i64 0, .string ⟨#[98]⟩, .int .i64 4095, .int .i64 0] := by rw [hv]; exact (Qb.at _ _ _ _ (by simp)).alloc _
 have B1 : Qb v (w.heap.size + 1 + 1) 25 #[.slice (some ⟨w.heap.size, 0, none⟩) 1 1, .slice (some ⟨w.heap.size + 1, 0, none⟩) 2 2] := by rw [hv]; exact Qb.at _ _ _ _ (by simp)
 clear hv
 have C := A3 K1 K2
 have Z := hZ.ext E
 clear K1 K2
 obtain ⟨k0, k1⟩ := B1.c2
 have kl := B1.lt
 have NI := fun w hz => Oz ⟨60, 1⟩ ⟨1, 5⟩ 180 (by unfold Rt.In; decide) (by unfold Rt.In; decide) (by decide) (by decide) w hz
 simp only [eT_int] at NI
 go_upto_region 4 with (first | (go_at_call 18; (with_reducible refine Calls.mono (wT_sch C) ?_); rintro e w2 ⟨rfl, h2⟩) | (go_at_call 19; (with_reducible refine Calls.mono (NI _ (Z.ext h2)) ?_); rintro e w3 ⟨rfl, h3⟩))
 obtain ⟨v4, hv⟩ := Qg (w3.alloc (.cells #[.int .i64 6, .int .i64 1] 61))
 rw [← hv]
 have h4 : Qa w3 v4 := by rw [hv]; exact (Qa.refl _).alloc _
 have B4 : Qb v4 w3.heap.size 61 #[.int .i64 6, .int .i64 1] := by rw [hv]; exact Qb.new _ _ _
 clear hv
 obtain ⟨x0, x1⟩ := B4.c2
 have lx := B4.lt
 go_wp2
 go_ret
 exact ⟨rfl, ((E.trans h2).trans h3).trans h4⟩
end
end Go.Proofs.YtneiofnlmblglaaDoor
