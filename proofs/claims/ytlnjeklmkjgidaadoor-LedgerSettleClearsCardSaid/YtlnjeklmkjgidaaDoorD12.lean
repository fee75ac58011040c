/- Walks of the program's functions and plain facts, packed; proved: the lemmas below; no conditions but those that each states. -/
import Derived.Test.YtlnjeklmkjgidaaDoorD11
import Derived.Test.YtlnjeklmkjgidaaDoorD4
namespace Go.Proofs.YtlnjeklmkjgidaaDoor
open Go Go.RowKit Go.Shelf
attribute [local go_sem] gv_yes
attribute [local go_sem high] neq_ratio neq_debt neq_herd

theorem rows_task {w : World} {b : Nat} (h : Held w b 131 #[.int .i64 10, .int .i64 1, .int .i64 1, .int .i64 3, .int .i64 5, .int .i64 1, .int .i64 1, .int .i64 1]) : RowsAt w (some ⟨b, 0, none⟩) 2 4 (taskr t8) := by
  refine rows_heldV h ?_
  intro i j v hi hv
  have hj : j < 4 := (List.getElem?_eq_some_iff.1 hv).1
  rw [← hv]
  have h1 : i = 0 ∨ i = 1 := by omega
  have h2 : j = 0 ∨ j = 1 ∨ j = 2 ∨ j = 3 := by omega
  rcases h1 with rfl | rfl <;> rcases h2 with rfl | rfl | rfl | rfl <;> rfl
theorem rows_crew {w : World} {b : Nat} (h : Held w b 73 #[.int .i64 2, .int .i64 1, .int .i64 2, .int .i64 0, .int .i64 1, .bool false, .int .i64 1, .int .i64 0, .int .i64 1, .bool false, .int .i64 30]) : RowsAt w (some ⟨b, 0, none⟩) 1 11 (crewr w8) := by
  refine rows_heldV h ?_
  intro i j v hi hv
  obtain rfl : i = 0 := by omega
  have hj : j < 11 := (List.getElem?_eq_some_iff.1 hv).1
  rw [← hv]
  have : j = 0 ∨ j = 1 ∨ j = 2 ∨ j = 3 ∨ j = 4 ∨ j = 5 ∨ j = 6 ∨ j = 7 ∨ j = 8 ∨ j = 9 ∨ j = 10 := by omega
  rcases this with rfl | rfl | rfl | rfl | rfl | rfl | rfl | rfl | rfl | rfl | rfl <;> rfl
theorem w8_owed {A A' : Option Addr} {ca cb : Nat} {w : World} (hC : CalAt w A ca A' cb cal8) {bp : Nat} (hB : RowsAt w (some ⟨bp, 0, none⟩) 1 6 (payr p8)) (hZ : Zro w) : Calls Tryd.prog 30 #[.agg #[.slice A 1 ca, .slice A' 3 cb], .agg #[.int .i64 60, .int .i64 1, .int .i64 1, .int .i64 5, .int .i64 0, .int .i64 1, .bool false, .int .i64 1], .slice (some ⟨bp, 0, none⟩) 1 1, .agg #[.int .i64 1, .int .i64 7, .bool false, .int .i64 1]] w fun e w' => e = .returned (.tuple #[.agg #[.int .i64 56, .int .i64 1, .int .i64 56, .int .i64 5, .int .i64 0, .int .i64 1], .int .i64 0]) ∧ Ext w w' := by
  have := owedF_any A A' ca cb cal8 (some ⟨bp, 0, none⟩) 1 1 l8 p8 (by unfold Rt.In; decide) (by unfold Rt.In; decide) (fun i _ => show (Rt.mk 10 1).In by unfold Rt.In; decide) w hC hB (by decide) hZ d8
  rw [e8_owed] at this
  exact this

theorem w8_settle {A A' : Option Addr} {ca cb : Nat} {w : World} (hC : CalAt w A ca A' cb cal8) {bp : Nat} (hB : RowsAt w (some ⟨bp, 0, none⟩) 1 6 (payr p8)) (hZ : Zro w) : Calls Tryd.prog 33 #[.agg #[.slice A 1 ca, .slice A' 3 cb], .agg #[.int .i64 60, .int .i64 1, .int .i64 1, .int .i64 5, .int .i64 0, .int .i64 1, .bool false, .int .i64 1], .slice (some ⟨bp, 0, none⟩) 1 1, .agg #[.int .i64 1, .int .i64 7, .bool false, .int .i64 1]] w fun e w' => e = .returned (.tuple #[.agg #[.int .i64 336, .int .i64 5], .int .i64 0]) ∧ Ext w w' := by
  have := settle_any A A' ca cb cal8 (some ⟨bp, 0, none⟩) 1 1 l8 p8 (by unfold Rt.In; decide) (by unfold Rt.In; decide) (fun i _ => show (Rt.mk 10 1).In by unfold Rt.In; decide) w hC hB (by decide) hZ d8
  rw [e8_settle] at this
  exact this

theorem t8_in : ∀ i, i < 2 → (t8 i).a.In ∧ (t8 i).r.In := fun i hi => by
  have : i = 0 ∨ i = 1 := by omega
  rcases this with rfl | rfl <;> (unfold Rt.In; decide)

theorem w8_bal {A A' : Option Addr} {ca cb : Nat} {w : World} (hC : CalAt w A ca A' cb cal8) {bt bc : Nat} (hT : RowsAt w (some ⟨bt, 0, none⟩) 2 4 (taskr t8)) (hS : RowsAt w (some ⟨bc, 0, none⟩) 1 11 (crewr w8)) (hZ : Zro w) : Calls Tryd.prog 28 #[.agg #[.slice A 1 ca, .slice A' 3 cb], .slice (some ⟨bt, 0, none⟩) 2 2, .slice (some ⟨bc, 0, none⟩) 1 1] w fun e w' => e = .returned (.tuple #[.agg #[.int .i64 (-5), .int .i64 1], .int .i64 0]) ∧ Ext w w' := by
  have := balance_any A A' ca cb cal8 (some ⟨bt, 0, none⟩) 2 2 t8 (some ⟨bc, 0, none⟩) 1 1 w8 w hC t8_in hT (by decide) (fun i _ => ⟨show (Rt.mk 1 2).In by unfold Rt.In; decide, show (-9223372036854775808 : Int) ≤ 2 by decide, show (2 : Int) ≤ 9223372036854775807 by decide⟩) hS (by decide) hZ
  rw [e8_bal] at this
  exact this

theorem w8_few {A A' : Option Addr} {ca cb : Nat} {w : World} (hC : CalAt w A ca A' cb cal8) {bt : Nat} (hT : RowsAt w (some ⟨bt, 0, none⟩) 2 4 (taskr t8)) (hZ : Zro w) : Calls Tryd.prog 27 #[.agg #[.slice A 1 ca, .slice A' 3 cb], .slice (some ⟨bt, 0, none⟩) 2 2, .agg #[.int .i64 1, .int .i64 2], .agg #[.int .i64 0, .int .i64 1, .bool false, .int .i64 1], .agg #[.int .i64 0, .int .i64 1, .bool false, .int .i64 30]] w fun e w' => e = .returned (.tuple #[.int .i64 3, .int .i64 0]) ∧ Ext w w' := by
  have := fewest_any A A' ca cb cal8 (some ⟨bt, 0, none⟩) 2 2 t8 ⟨1, 2⟩ (by unfold Rt.In; decide) f8 u8' w hC t8_in hT (by decide) hZ
  rw [e8_few] at this
  exact this

theorem w8_grow (w : World) : Calls Tryd.prog 19 #[.agg #[.int .i64 10, .int .i64 2, .int .i64 5], .agg #[.int .i64 4, .int .i64 5], .agg #[.int .i64 1, .int .i64 10], .int .i64 1] w fun e w' => e = .returned (.tuple #[.agg #[.int .i64 12, .int .i64 4, .int .i64 7], .int .i64 0]) ∧ Ext w w' := by
  have := grow_any h8 ⟨4, 5⟩ ⟨1, 10⟩ 1 (by unfold Rt.In; decide) (by unfold Rt.In; decide) (by decide) (by decide) w
  rw [e8_grow] at this
  exact this

theorem w8_close {A A' : Option Addr} {ca cb : Nat} {w : World} (hC : CalAt w A ca A' cb cal8) {o x y d : Nat} (hO : LotsAt w (.slice (some ⟨o, 0, none⟩) 1 1) [⟨sBar, 10⟩]) (hX : LotsAt w (.slice (some ⟨x, 0, none⟩) 1 1) [⟨sBar, 5⟩]) (hY : LotsAt w (.slice (some ⟨y, 0, none⟩) 1 1) [⟨sBar, 20⟩]) (hD : Held w d 137 #[.int .i64 0, .int .i64 1, .bool false, .int .i64 2, .bool true, .string ⟨#[98]⟩, .slice (some ⟨x, 0, none⟩) 1 1, .int .i64 0, .int .i64 1, .bool false, .int .i64 2, .bool false, .string ⟨#[98]⟩, .slice (some ⟨y, 0, none⟩) 1 1]) :
    Calls Tryd.prog 65 #[.agg #[.slice A 1 ca, .slice A' 3 cb], .agg #[.string ⟨#[97]⟩, .int .i64 0, .int .i64 1, .bool false, .int .i64 1, .int .i64 0, .int .i64 1, .bool false, .int .i64 30, .slice (some ⟨o, 0, none⟩) 1 1, .slice (some ⟨d, 0, none⟩) 2 2, .slice none 0 0]] w fun e w' => ∃ v, e = .returned (.tuple #[v, .int .i64 0]) ∧ Ext w w' ∧ LotsAt w' v [⟨sBar, -5⟩] := by
  have hDl : DealsAt w (.slice (some ⟨d, 0, none⟩) 2 2) pd8.d := by
    refine ⟨some ⟨d, 0, none⟩, 2, fun i => if i = 0 then .slice (some ⟨x, 0, none⟩) 1 1 else .slice (some ⟨y, 0, none⟩) 1 1, rfl, ?_, Nat.le_refl _, by decide, fun h => (by cases h), ?_⟩
    · refine rows_heldV hD ?_
      intro i j v hi hv
      have hi : i < 2 := hi
      have hj : j < 7 := (List.getElem?_eq_some_iff.1 hv).1
      rw [← hv]
      have h1 : i = 0 ∨ i = 1 := by omega
      have h2 : j = 0 ∨ j = 1 ∨ j = 2 ∨ j = 3 ∨ j = 4 ∨ j = 5 ∨ j = 6 := by omega
      rcases h1 with rfl | rfl <;> rcases h2 with rfl | rfl | rfl | rfl | rfl | rfl | rfl <;> rfl
    · intro i hi
      have hi : i < 2 := hi
      have h1 : i = 0 ∨ i = 1 := by omega
      rcases h1 with rfl | rfl
      · exact hX
      · exact hY
  have := close_any A A' ca cb cal8 pd8 _ _ _ w hC ⟨hO, hDl, lotsAt_nil w⟩
  rw [e8_close] at this
  exact this

set_option maxRecDepth 100000 in
set_option maxHeartbeats 4000000 in
theorem works8_any (w : World) (hZ : Zro w) :
    Calls Tryd.prog 21 #[] w fun e w' => e = .returned (.bool true) ∧ Ext w w' := by
  go_enter Tryd.func21, Tryd.ntmps21
  go_upto_region 2 with (go_at_call 62; (with_reducible refine Calls.mono (calendar8_any _) ?_); rintro e w1 ⟨A, A', ca, cb, rfl, h1, C⟩)
  obtain ⟨v1, hv⟩ : ∃ x, x = (w1.alloc (.cells #[.slice A 1 ca, .slice A' 3 cb] 25)) := ⟨_, rfl⟩
  rw [← hv]
  have h2 : Ext w1 v1 := by rw [hv]; exact (Ext.refl _).alloc _
  have B1 : Held v1 w1.heap.size 25 #[.slice A 1 ca, .slice A' 3 cb] := by rw [hv]; exact Held.new _ _ _
  clear hv
  generalize w1.heap.size = b1 at *
  have E := h1.trans h2
  replace C := C.ext h2
  have Z := hZ.ext E
  clear h1 h2 hZ
  have NI := fun w hz => interest_any ⟨60, 1⟩ ⟨1, 5⟩ 180 (by unfold Rt.In; decide) (by unfold Rt.In; decide) (by decide) (by decide) w hz
  simp only [e8_int] at NI
  go_upto_region 3 with (first | (go_at_call 35; (with_reducible refine Calls.mono (q_any _ _ _) ?_); rintro e wa ⟨rfl, hx⟩; replace E := E.trans hx; replace C := C.ext hx; replace Z := Z.ext hx; replace B1 := B1.ext hx; clear hx) | (go_at_call 22; (with_reducible refine Calls.mono (NI _ Z) ?_); rintro e w2 ⟨rfl, hx⟩; replace E := E.trans hx; replace C := C.ext hx; replace Z := Z.ext hx; replace B1 := B1.ext hx; clear hx))
  obtain ⟨v2, hv⟩ : ∃ x, x = (w2.alloc (.cells #[.int .i64 6, .int .i64 1] 52)) := ⟨_, rfl⟩
  rw [← hv]
  have h2 : Ext w2 v2 := by rw [hv]; exact (Ext.refl _).alloc _
  have B2 : Held v2 w2.heap.size 52 #[.int .i64 6, .int .i64 1] := by rw [hv]; exact Held.new _ _ _
  clear hv
  generalize w2.heap.size = b2 at *
  replace E := E.trans h2
  replace C := C.ext h2
  replace Z := Z.ext h2
  replace B1 := B1.ext h2
  clear h2
  have ND := fun w => doubles_any ⟨1, 3⟩ (by unfold Rt.In; decide) w
  simp only [e8_dbl] at ND
  clear NI
  go_upto_region 4 with (first | (go_at_call 35; (with_reducible refine Calls.mono (q_any _ _ _) ?_); rintro e wa ⟨rfl, hx⟩; replace E := E.trans hx; replace C := C.ext hx; replace Z := Z.ext hx; replace B1 := B1.ext hx; replace B2 := B2.ext hx; clear hx) | (go_at_call 25; (with_reducible refine Calls.mono (ND _) ?_); rintro e w3 ⟨rfl, hx⟩; replace E := E.trans hx; replace C := C.ext hx; replace Z := Z.ext hx; replace B1 := B1.ext hx; replace B2 := B2.ext hx; clear hx))
  clear ND
  go_upto_region 5 with (go_at_call 63; (with_reducible refine Calls.mono (loan8_any _) ?_); rintro e w4 ⟨bp, rfl, hx, PR⟩; replace E := E.trans hx; replace C := C.ext hx; replace Z := Z.ext hx; replace B1 := B1.ext hx; replace B2 := B2.ext hx; clear hx)
  obtain ⟨v4, hv⟩ : ∃ x, x = (w4.alloc (.cells #[.int .i64 60, .int .i64 1, .int .i64 1, .int .i64 5, .int .i64 0, .int .i64 1, .bool false, .int .i64 1] 77)) := ⟨_, rfl⟩
  rw [← hv]
  have h2 : Ext w4 v4 := by rw [hv]; exact (Ext.refl _).alloc _
  have B4 : Held v4 w4.heap.size 77 #[.int .i64 60, .int .i64 1, .int .i64 1, .int .i64 5, .int .i64 0, .int .i64 1, .bool false, .int .i64 1] := by rw [hv]; exact Held.new _ _ _
  clear hv
  generalize w4.heap.size = b4 at *
  replace E := E.trans h2
  replace PR := PR.ext h2
  replace C := C.ext h2
  replace Z := Z.ext h2
  replace B1 := B1.ext h2
  replace B2 := B2.ext h2
  clear h2
  go_upto_region 5 with (fail)
  apply wp_cut1y (S := fun w' r => Ext v4 w' ∧ Held w' r 83 #[.int .i64 56, .int .i64 1, .int .i64 56, .int .i64 5, .int .i64 0, .int .i64 1])
  · refine wp_region_z 11 [6, 7, 9, 10] (fun x => Ext v4 x) mixed rfl ?_
    intro vz hvz
    have HC := hvz
    refine z_stills (g := 8) [0, 1, 2] [_, _, _] ⟨rfl, rfl, rfl, trivial⟩ (by kernel_rfl) (by kernel_rfl) HC ?_
    simp only [List.getElem_toArray, List.getElem_cons_succ, List.getElem_cons_zero]
    apply Exists.intro
    refine ⟨fun u hu => ?_, ?_⟩
    · obtain ⟨k0, k1⟩ := (B1.ext hu).c2
      have lk := (B1.ext hu).lt
      obtain ⟨p0, p1, p2, p3, p4, p5, p6, p7⟩ := (B4.ext hu).c8
      have lp := (B4.ext hu).lt
      repeat (first | go_big_quiet_skip | (go_big_quiet_want; go_big_quiet_op; go_big_quiet_on))
      refine wpQuiet_nil ?_
      rfl
    refine z_two 3 8 rfl rfl (by kernel_rfl) ?_ ?_
    · simp only [List.getElem_toArray, List.getElem_cons_succ, List.getElem_cons_zero]
      go_wp2_with (go_at_call 64; (with_reducible refine Calls.mono (on_any _ _ _ _) ?_); rintro e wa ⟨rfl, hx⟩)
      replace HC := HC.trans hx
      try replace H5 := H5.ext hx
      clear hx
      refine onQ_in HC ?_
      refine z_two 4 8 rfl rfl (by kernel_rfl) ?_ ?_
      · simp only [List.getElem_toArray, List.getElem_cons_succ, List.getElem_cons_zero]
        go_wp2_with (go_at_call 30; (with_reducible refine Calls.mono (w8_owed (C.ext HC) (PR.ext HC) (Z.ext HC)) ?_); rintro e wa ⟨rfl, hx⟩)
        replace HC := HC.trans hx
        try replace H5 := H5.ext hx
        clear hx
        refine onQ_in HC ?_
        refine z_stills (g := 5) [5] [_] ⟨rfl, trivial⟩ (by kernel_rfl) (by kernel_rfl) HC ?_
        simp only [List.getElem_toArray, List.getElem_cons_succ, List.getElem_cons_zero]
        apply Exists.intro
        refine ⟨fun u hu => ?_, ?_⟩
        · obtain ⟨k0, k1⟩ := (B1.ext hu).c2
          have lk := (B1.ext hu).lt
          obtain ⟨p0, p1, p2, p3, p4, p5, p6, p7⟩ := (B4.ext hu).c8
          have lp := (B4.ext hu).lt
          repeat (first | go_big_quiet_skip | (go_big_quiet_want; go_big_quiet_op; go_big_quiet_on))
          refine wpQuiet_nil ?_
          rfl
        refine z_pures (g := 3) [6, 7] [_, _] ⟨rfl, rfl, trivial⟩ (by kernel_rfl) (by kernel_rfl) ?_
        simp only [List.getElem_toArray, List.getElem_cons_succ, List.getElem_cons_zero]
        apply Exists.intro
        refine ⟨fun u hu => ?_, ?_⟩
        · repeat (first | go_big_quiet_skip | (go_big_quiet_want; go_big_quiet_op; go_big_quiet_on))
          refine wpQuiet_nil ?_
          rfl
        refine z_one 8 rfl (by kernel_rfl) ?_
        simp only [List.getElem_toArray, List.getElem_cons_succ, List.getElem_cons_zero]
        go_wp2
        obtain ⟨b9, wb, hbq, hwb, H5, HC', hx, g5⟩ := ex_new2 HC 83 #[.int .i64 0, .int .i64 0, .int .i64 0, .int .i64 0, .int .i64 0, .int .i64 0]
        rw [← hbq, ← hwb]
        replace HC := HC'
        clear hbq hwb hx HC'
        refine onQ_in HC ?_
        refine z_end 9 rfl (by kernel_rfl) ?_
        simp only [List.getElem_toArray, List.getElem_cons_succ, List.getElem_cons_zero]
        have z0 := H5.frozen 0
        have z1 := H5.frozen 1
        have z2 := H5.frozen 2
        have z3 := H5.frozen 3
        have z4 := H5.frozen 4
        have z5 := H5.frozen 5
        obtain ⟨x0, x1, x2, x3, x4, x5⟩ := H5.c6
        have lx := H5.lt
        go_wp2
        have H6 := held6_all H5 (.int .i64 56) (.int .i64 1) (.int .i64 56) (.int .i64 5) (.int .i64 0) (.int .i64 1)
        replace HC := ext6 HC g5 (.int .i64 56) (.int .i64 1) (.int .i64 56) (.int .i64 5) (.int .i64 0) (.int .i64 1)
        clear z0 x0 z1 x1 z2 x2 z3 x3 z4 x4 z5 x5 lx H5
        generalize World.setCell _ _ _ = wq at *
        refine onQ_last ?_
        refine z_end 10 rfl (by kernel_rfl) ?_
        simp only [List.getElem_toArray, List.getElem_cons_succ, List.getElem_cons_zero]
        go_wp2
        refine onQ_last ?_
        refine z_done (by kernel_rfl) ?_
        exact cut1y_is b9 ⟨HC, H6⟩ rfl
      · simp only [List.getElem_toArray, List.getElem_cons_succ, List.getElem_cons_zero]
        go_wp2
        obtain ⟨b9, wb, hbq, hwb, H5, HC', hx, g5⟩ := ex_new2 HC 83 #[.int .i64 0, .int .i64 0, .int .i64 0, .int .i64 0, .int .i64 0, .int .i64 0]
        rw [← hbq, ← hwb]
        replace HC := HC'
        clear hbq hwb hx HC'
        refine onQ_in HC ?_
        refine z_one 4 rfl (by kernel_rfl) ?_
        simp only [List.getElem_toArray, List.getElem_cons_succ, List.getElem_cons_zero]
        go_wp2_with (go_at_call 30; (with_reducible refine Calls.mono (w8_owed (C.ext HC) (PR.ext HC) (Z.ext HC)) ?_); rintro e wa ⟨rfl, hx⟩)
        replace HC := HC.trans hx
        try replace H5 := H5.ext hx
        clear hx
        refine onQ_in HC ?_
        refine z_stills (g := 4) [5] [_] ⟨rfl, trivial⟩ (by kernel_rfl) (by kernel_rfl) HC ?_
        simp only [List.getElem_toArray, List.getElem_cons_succ, List.getElem_cons_zero]
        apply Exists.intro
        refine ⟨fun u hu => ?_, ?_⟩
        · obtain ⟨k0, k1⟩ := (B1.ext hu).c2
          have lk := (B1.ext hu).lt
          obtain ⟨p0, p1, p2, p3, p4, p5, p6, p7⟩ := (B4.ext hu).c8
          have lp := (B4.ext hu).lt
          repeat (first | go_big_quiet_skip | (go_big_quiet_want; go_big_quiet_op; go_big_quiet_on))
          refine wpQuiet_nil ?_
          rfl
        refine z_pures (g := 2) [6, 7] [_, _] ⟨rfl, rfl, trivial⟩ (by kernel_rfl) (by kernel_rfl) ?_
        simp only [List.getElem_toArray, List.getElem_cons_succ, List.getElem_cons_zero]
        apply Exists.intro
        refine ⟨fun u hu => ?_, ?_⟩
        · repeat (first | go_big_quiet_skip | (go_big_quiet_want; go_big_quiet_op; go_big_quiet_on))
          refine wpQuiet_nil ?_
          rfl
        refine z_end 9 rfl (by kernel_rfl) ?_
        simp only [List.getElem_toArray, List.getElem_cons_succ, List.getElem_cons_zero]
        have z0 := H5.frozen 0
        have z1 := H5.frozen 1
        have z2 := H5.frozen 2
        have z3 := H5.frozen 3
        have z4 := H5.frozen 4
        have z5 := H5.frozen 5
        obtain ⟨x0, x1, x2, x3, x4, x5⟩ := H5.c6
        have lx := H5.lt
        go_wp2
        have H6 := held6_all H5 (.int .i64 56) (.int .i64 1) (.int .i64 56) (.int .i64 5) (.int .i64 0) (.int .i64 1)
        replace HC := ext6 HC g5 (.int .i64 56) (.int .i64 1) (.int .i64 56) (.int .i64 5) (.int .i64 0) (.int .i64 1)
        clear z0 x0 z1 x1 z2 x2 z3 x3 z4 x4 z5 x5 lx H5
        generalize World.setCell _ _ _ = wq at *
        refine onQ_last ?_
        refine z_end 10 rfl (by kernel_rfl) ?_
        simp only [List.getElem_toArray, List.getElem_cons_succ, List.getElem_cons_zero]
        go_wp2
        refine onQ_last ?_
        refine z_done (by kernel_rfl) ?_
        exact cut1y_is b9 ⟨HC, H6⟩ rfl
    · simp only [List.getElem_toArray, List.getElem_cons_succ, List.getElem_cons_zero]
      go_wp2
      obtain ⟨b9, wb, hbq, hwb, H5, HC', hx, g5⟩ := ex_new2 HC 83 #[.int .i64 0, .int .i64 0, .int .i64 0, .int .i64 0, .int .i64 0, .int .i64 0]
      rw [← hbq, ← hwb]
      replace HC := HC'
      clear hbq hwb hx HC'
      refine onQ_in HC ?_
      refine z_one 3 rfl (by kernel_rfl) ?_
      simp only [List.getElem_toArray, List.getElem_cons_succ, List.getElem_cons_zero]
      go_wp2_with (go_at_call 64; (with_reducible refine Calls.mono (on_any _ _ _ _) ?_); rintro e wa ⟨rfl, hx⟩)
      replace HC := HC.trans hx
      try replace H5 := H5.ext hx
      clear hx
      refine onQ_in HC ?_
      refine z_one 4 rfl (by kernel_rfl) ?_
      simp only [List.getElem_toArray, List.getElem_cons_succ, List.getElem_cons_zero]
      go_wp2_with (go_at_call 30; (with_reducible refine Calls.mono (w8_owed (C.ext HC) (PR.ext HC) (Z.ext HC)) ?_); rintro e wa ⟨rfl, hx⟩)
      replace HC := HC.trans hx
      try replace H5 := H5.ext hx
      clear hx
      refine onQ_in HC ?_
      refine z_stills (g := 4) [5] [_] ⟨rfl, trivial⟩ (by kernel_rfl) (by kernel_rfl) HC ?_
      simp only [List.getElem_toArray, List.getElem_cons_succ, List.getElem_cons_zero]
      apply Exists.intro
      refine ⟨fun u hu => ?_, ?_⟩
      · obtain ⟨k0, k1⟩ := (B1.ext hu).c2
        have lk := (B1.ext hu).lt
        obtain ⟨p0, p1, p2, p3, p4, p5, p6, p7⟩ := (B4.ext hu).c8
        have lp := (B4.ext hu).lt
        repeat (first | go_big_quiet_skip | (go_big_quiet_want; go_big_quiet_op; go_big_quiet_on))
        refine wpQuiet_nil ?_
        rfl
      refine z_pures (g := 2) [6, 7] [_, _] ⟨rfl, rfl, trivial⟩ (by kernel_rfl) (by kernel_rfl) ?_
      simp only [List.getElem_toArray, List.getElem_cons_succ, List.getElem_cons_zero]
      apply Exists.intro
      refine ⟨fun u hu => ?_, ?_⟩
      · repeat (first | go_big_quiet_skip | (go_big_quiet_want; go_big_quiet_op; go_big_quiet_on))
        refine wpQuiet_nil ?_
        rfl
      refine z_end 9 rfl (by kernel_rfl) ?_
      simp only [List.getElem_toArray, List.getElem_cons_succ, List.getElem_cons_zero]
      have z0 := H5.frozen 0
      have z1 := H5.frozen 1
      have z2 := H5.frozen 2
      have z3 := H5.frozen 3
      have z4 := H5.frozen 4
      have z5 := H5.frozen 5
      obtain ⟨x0, x1, x2, x3, x4, x5⟩ := H5.c6
      have lx := H5.lt
      go_wp2
      have H6 := held6_all H5 (.int .i64 56) (.int .i64 1) (.int .i64 56) (.int .i64 5) (.int .i64 0) (.int .i64 1)
      replace HC := ext6 HC g5 (.int .i64 56) (.int .i64 1) (.int .i64 56) (.int .i64 5) (.int .i64 0) (.int .i64 1)
      clear z0 x0 z1 x1 z2 x2 z3 x3 z4 x4 z5 x5 lx H5
      generalize World.setCell _ _ _ = wq at *
      refine onQ_last ?_
      refine z_end 10 rfl (by kernel_rfl) ?_
      simp only [List.getElem_toArray, List.getElem_cons_succ, List.getElem_cons_zero]
      go_wp2
      refine onQ_last ?_
      refine z_done (by kernel_rfl) ?_
      exact cut1y_is b9 ⟨HC, H6⟩ rfl
  rintro b5 v5 ⟨h2, B5⟩
  replace E := E.trans h2
  replace C := C.ext h2
  replace Z := Z.ext h2
  replace B1 := B1.ext h2
  replace B2 := B2.ext h2
  replace PR := PR.ext h2
  replace B4 := B4.ext h2
  clear h2
  go_upto_region 6 with (fail)
  apply wp_cut1y (S := fun w' r => Ext v5 w' ∧ Held w' r 52 #[.int .i64 336, .int .i64 5])
  · refine wp_region_z 11 [6, 7, 9, 10] (fun x => Ext v5 x) mixed rfl ?_
    intro vz hvz
    have HC := hvz
    refine z_stills (g := 8) [0, 1, 2] [_, _, _] ⟨rfl, rfl, rfl, trivial⟩ (by kernel_rfl) (by kernel_rfl) HC ?_
    simp only [List.getElem_toArray, List.getElem_cons_succ, List.getElem_cons_zero]
    apply Exists.intro
    refine ⟨fun u hu => ?_, ?_⟩
    · obtain ⟨k0, k1⟩ := (B1.ext hu).c2
      have lk := (B1.ext hu).lt
      obtain ⟨p0, p1, p2, p3, p4, p5, p6, p7⟩ := (B4.ext hu).c8
      have lp := (B4.ext hu).lt
      repeat (first | go_big_quiet_skip | (go_big_quiet_want; go_big_quiet_op; go_big_quiet_on))
      refine wpQuiet_nil ?_
      rfl
    refine z_two 3 8 rfl rfl (by kernel_rfl) ?_ ?_
    · simp only [List.getElem_toArray, List.getElem_cons_succ, List.getElem_cons_zero]
      go_wp2_with (go_at_call 64; (with_reducible refine Calls.mono (on_any _ _ _ _) ?_); rintro e wa ⟨rfl, hx⟩)
      replace HC := HC.trans hx
      try replace H5 := H5.ext hx
      clear hx
      refine onQ_in HC ?_
      refine z_two 4 8 rfl rfl (by kernel_rfl) ?_ ?_
      · simp only [List.getElem_toArray, List.getElem_cons_succ, List.getElem_cons_zero]
        go_wp2_with (go_at_call 33; (with_reducible refine Calls.mono (w8_settle (C.ext HC) (PR.ext HC) (Z.ext HC)) ?_); rintro e wa ⟨rfl, hx⟩)
        replace HC := HC.trans hx
        try replace H5 := H5.ext hx
        clear hx
        refine onQ_in HC ?_
        refine z_stills (g := 5) [5] [_] ⟨rfl, trivial⟩ (by kernel_rfl) (by kernel_rfl) HC ?_
        simp only [List.getElem_toArray, List.getElem_cons_succ, List.getElem_cons_zero]
        apply Exists.intro
        refine ⟨fun u hu => ?_, ?_⟩
        · obtain ⟨k0, k1⟩ := (B1.ext hu).c2
          have lk := (B1.ext hu).lt
          obtain ⟨p0, p1, p2, p3, p4, p5, p6, p7⟩ := (B4.ext hu).c8
          have lp := (B4.ext hu).lt
          repeat (first | go_big_quiet_skip | (go_big_quiet_want; go_big_quiet_op; go_big_quiet_on))
          refine wpQuiet_nil ?_
          rfl
        refine z_pures (g := 3) [6, 7] [_, _] ⟨rfl, rfl, trivial⟩ (by kernel_rfl) (by kernel_rfl) ?_
        simp only [List.getElem_toArray, List.getElem_cons_succ, List.getElem_cons_zero]
        apply Exists.intro
        refine ⟨fun u hu => ?_, ?_⟩
        · repeat (first | go_big_quiet_skip | (go_big_quiet_want; go_big_quiet_op; go_big_quiet_on))
          refine wpQuiet_nil ?_
          rfl
        refine z_one 8 rfl (by kernel_rfl) ?_
        simp only [List.getElem_toArray, List.getElem_cons_succ, List.getElem_cons_zero]
        go_wp2
        obtain ⟨b9, wb, hbq, hwb, H5, HC', hx, g5⟩ := ex_new2 HC 52 #[.int .i64 0, .int .i64 0]
        rw [← hbq, ← hwb]
        replace HC := HC'
        clear hbq hwb hx HC'
        refine onQ_in HC ?_
        refine z_end 9 rfl (by kernel_rfl) ?_
        simp only [List.getElem_toArray, List.getElem_cons_succ, List.getElem_cons_zero]
        have z0 := H5.frozen 0
        have z1 := H5.frozen 1
        obtain ⟨x0, x1⟩ := H5.c2
        have lx := H5.lt
        go_wp2
        have H6 := held_two H5 (.int .i64 336) (.int .i64 5)
        replace HC := (HC.setCell (p := ⟨b9, 0, none⟩) g5 (.int .i64 336)).setCell (p := ⟨b9, 1, none⟩) g5 (.int .i64 5)
        clear z0 x0 z1 x1 lx H5
        generalize World.setCell _ _ _ = wq at *
        refine onQ_last ?_
        refine z_end 10 rfl (by kernel_rfl) ?_
        simp only [List.getElem_toArray, List.getElem_cons_succ, List.getElem_cons_zero]
        go_wp2
        refine onQ_last ?_
        refine z_done (by kernel_rfl) ?_
        exact cut1y_is b9 ⟨HC, H6⟩ rfl
      · simp only [List.getElem_toArray, List.getElem_cons_succ, List.getElem_cons_zero]
        go_wp2
        obtain ⟨b9, wb, hbq, hwb, H5, HC', hx, g5⟩ := ex_new2 HC 52 #[.int .i64 0, .int .i64 0]
        rw [← hbq, ← hwb]
        replace HC := HC'
        clear hbq hwb hx HC'
        refine onQ_in HC ?_
        refine z_one 4 rfl (by kernel_rfl) ?_
        simp only [List.getElem_toArray, List.getElem_cons_succ, List.getElem_cons_zero]
        go_wp2_with (go_at_call 33; (with_reducible refine Calls.mono (w8_settle (C.ext HC) (PR.ext HC) (Z.ext HC)) ?_); rintro e wa ⟨rfl, hx⟩)
        replace HC := HC.trans hx
        try replace H5 := H5.ext hx
        clear hx
        refine onQ_in HC ?_
        refine z_stills (g := 4) [5] [_] ⟨rfl, trivial⟩ (by kernel_rfl) (by kernel_rfl) HC ?_
        simp only [List.getElem_toArray, List.getElem_cons_succ, List.getElem_cons_zero]
        apply Exists.intro
        refine ⟨fun u hu => ?_, ?_⟩
        · obtain ⟨k0, k1⟩ := (B1.ext hu).c2
          have lk := (B1.ext hu).lt
          obtain ⟨p0, p1, p2, p3, p4, p5, p6, p7⟩ := (B4.ext hu).c8
          have lp := (B4.ext hu).lt
          repeat (first | go_big_quiet_skip | (go_big_quiet_want; go_big_quiet_op; go_big_quiet_on))
          refine wpQuiet_nil ?_
          rfl
        refine z_pures (g := 2) [6, 7] [_, _] ⟨rfl, rfl, trivial⟩ (by kernel_rfl) (by kernel_rfl) ?_
        simp only [List.getElem_toArray, List.getElem_cons_succ, List.getElem_cons_zero]
        apply Exists.intro
        refine ⟨fun u hu => ?_, ?_⟩
        · repeat (first | go_big_quiet_skip | (go_big_quiet_want; go_big_quiet_op; go_big_quiet_on))
          refine wpQuiet_nil ?_
          rfl
        refine z_end 9 rfl (by kernel_rfl) ?_
        simp only [List.getElem_toArray, List.getElem_cons_succ, List.getElem_cons_zero]
        have z0 := H5.frozen 0
        have z1 := H5.frozen 1
        obtain ⟨x0, x1⟩ := H5.c2
        have lx := H5.lt
        go_wp2
        have H6 := held_two H5 (.int .i64 336) (.int .i64 5)
        replace HC := (HC.setCell (p := ⟨b9, 0, none⟩) g5 (.int .i64 336)).setCell (p := ⟨b9, 1, none⟩) g5 (.int .i64 5)
        clear z0 x0 z1 x1 lx H5
        generalize World.setCell _ _ _ = wq at *
        refine onQ_last ?_
        refine z_end 10 rfl (by kernel_rfl) ?_
        simp only [List.getElem_toArray, List.getElem_cons_succ, List.getElem_cons_zero]
        go_wp2
        refine onQ_last ?_
        refine z_done (by kernel_rfl) ?_
        exact cut1y_is b9 ⟨HC, H6⟩ rfl
    · simp only [List.getElem_toArray, List.getElem_cons_succ, List.getElem_cons_zero]
      go_wp2
      obtain ⟨b9, wb, hbq, hwb, H5, HC', hx, g5⟩ := ex_new2 HC 52 #[.int .i64 0, .int .i64 0]
      rw [← hbq, ← hwb]
      replace HC := HC'
      clear hbq hwb hx HC'
      refine onQ_in HC ?_
      refine z_one 3 rfl (by kernel_rfl) ?_
      simp only [List.getElem_toArray, List.getElem_cons_succ, List.getElem_cons_zero]
      go_wp2_with (go_at_call 64; (with_reducible refine Calls.mono (on_any _ _ _ _) ?_); rintro e wa ⟨rfl, hx⟩)
      replace HC := HC.trans hx
      try replace H5 := H5.ext hx
      clear hx
      refine onQ_in HC ?_
      refine z_one 4 rfl (by kernel_rfl) ?_
      simp only [List.getElem_toArray, List.getElem_cons_succ, List.getElem_cons_zero]
      go_wp2_with (go_at_call 33; (with_reducible refine Calls.mono (w8_settle (C.ext HC) (PR.ext HC) (Z.ext HC)) ?_); rintro e wa ⟨rfl, hx⟩)
      replace HC := HC.trans hx
      try replace H5 := H5.ext hx
      clear hx
      refine onQ_in HC ?_
      refine z_stills (g := 4) [5] [_] ⟨rfl, trivial⟩ (by kernel_rfl) (by kernel_rfl) HC ?_
      simp only [List.getElem_toArray, List.getElem_cons_succ, List.getElem_cons_zero]
      apply Exists.intro
      refine ⟨fun u hu => ?_, ?_⟩
      · obtain ⟨k0, k1⟩ := (B1.ext hu).c2
        have lk := (B1.ext hu).lt
        obtain ⟨p0, p1, p2, p3, p4, p5, p6, p7⟩ := (B4.ext hu).c8
        have lp := (B4.ext hu).lt
        repeat (first | go_big_quiet_skip | (go_big_quiet_want; go_big_quiet_op; go_big_quiet_on))
        refine wpQuiet_nil ?_
        rfl
      refine z_pures (g := 2) [6, 7] [_, _] ⟨rfl, rfl, trivial⟩ (by kernel_rfl) (by kernel_rfl) ?_
      simp only [List.getElem_toArray, List.getElem_cons_succ, List.getElem_cons_zero]
      apply Exists.intro
      refine ⟨fun u hu => ?_, ?_⟩
      · repeat (first | go_big_quiet_skip | (go_big_quiet_want; go_big_quiet_op; go_big_quiet_on))
        refine wpQuiet_nil ?_
        rfl
      refine z_end 9 rfl (by kernel_rfl) ?_
      simp only [List.getElem_toArray, List.getElem_cons_succ, List.getElem_cons_zero]
      have z0 := H5.frozen 0
      have z1 := H5.frozen 1
      obtain ⟨x0, x1⟩ := H5.c2
      have lx := H5.lt
      go_wp2
      have H6 := held_two H5 (.int .i64 336) (.int .i64 5)
      replace HC := (HC.setCell (p := ⟨b9, 0, none⟩) g5 (.int .i64 336)).setCell (p := ⟨b9, 1, none⟩) g5 (.int .i64 5)
      clear z0 x0 z1 x1 lx H5
      generalize World.setCell _ _ _ = wq at *
      refine onQ_last ?_
      refine z_end 10 rfl (by kernel_rfl) ?_
      simp only [List.getElem_toArray, List.getElem_cons_succ, List.getElem_cons_zero]
      go_wp2
      refine onQ_last ?_
      refine z_done (by kernel_rfl) ?_
      exact cut1y_is b9 ⟨HC, H6⟩ rfl
  rintro b6 v6 ⟨h2, B6⟩
  replace E := E.trans h2
  replace C := C.ext h2
  replace Z := Z.ext h2
  replace B1 := B1.ext h2
  replace B2 := B2.ext h2
  replace PR := PR.ext h2
  replace B4 := B4.ext h2
  replace B5 := B5.ext h2
  clear h2
  clear PR B4
  go_upto_region 7 with (fail)
  obtain ⟨k0, k1⟩ := B2.c2
  have lk := B2.lt
  obtain ⟨x0, x1, x2, x3, x4, x5⟩ := B5.c6
  have lx := B5.lt
  obtain ⟨y0, y1⟩ := B6.c2
  have ly := B6.lt
  refine wp_region_xw v6 mixed (by kernel_rfl) (by repeat (first | exact Ext.refl _ | (refine Ext.alloc ?_ _) | (refine Ext.trans ?_ (by assumption)))) ?_
  intro hne hrx hry
  try simp only []
  try simp only [List.append_eq, List.cons_append, List.nil_append]
  skip
  repeat (first
    | go_big_quiet_skip
    | (go_big_quiet_want; go_big_quiet_op; go_big_quiet_on)
    | (go_big_quiet_want; go_big_quiet_op; apply Exists.intro; refine ⟨fun u => ?_, ?_⟩
       · first
           | (go_at_call 35; (with_reducible refine Calls.mono (q_any _ _ _) ?_); rintro e w' ⟨rfl, hb⟩; exact ⟨rfl, u.back hb⟩)
       go_big_quiet_on))
  clear hne hry hrx
  refine wpQuiet_nil ?_
  intro v7 h2
  obtain ⟨hcv7, hfv7, hzv7⟩ := Ext.rules h2
  try simp only [World.size_alloc] at hzv7
  obtain ⟨hcbv7, hfbv7, hzbv7⟩ := Ext.rules (show Ext v6 v7 from (by repeat (first | exact Ext.refl _ | (refine Ext.alloc ?_ _) | (refine Ext.trans ?_ (by assumption)))))
  clear hcv7 hfv7
  replace E := E.trans h2
  replace C := C.ext h2
  replace Z := Z.ext h2
  replace B1 := B1.ext h2
  replace B2 := B2.ext h2
  replace B5 := B5.ext h2
  replace B6 := B6.ext h2
  clear h2
  clear k0 k1 lk x0 x1 x2 x3 x4 x5 lx y0 y1 ly B2 B5 B6
  go_upto_region 10 with (go_at_call 35; (with_reducible refine Calls.mono (q_any _ _ _) ?_); rintro e wa ⟨rfl, hx⟩; replace E := E.trans hx; replace C := C.ext hx; replace Z := Z.ext hx; replace B1 := B1.ext hx; clear hx)
  obtain ⟨v9, hv⟩ : ∃ x, x = (wa.alloc (.cells #[.int .i64 10, .int .i64 1, .int .i64 1, .int .i64 3, .int .i64 5, .int .i64 1, .int .i64 1, .int .i64 1] 131)) := ⟨_, rfl⟩
  rw [← hv]
  have h2 : Ext wa v9 := by rw [hv]; exact (Ext.refl _).alloc _
  have B7 : Held v9 wa.heap.size 131 #[.int .i64 10, .int .i64 1, .int .i64 1, .int .i64 3, .int .i64 5, .int .i64 1, .int .i64 1, .int .i64 1] := by rw [hv]; exact Held.new _ _ _
  clear hv
  generalize wa.heap.size = b7 at *
  have PT := rows_task B7
  clear B7
  replace E := E.trans h2
  replace C := C.ext h2
  replace Z := Z.ext h2
  replace B1 := B1.ext h2
  clear h2
  go_upto_region 10 with (fail)
  apply wp_cut2b (S := fun w' r _ => Ext v9 w' ∧ Held w' r 52 #[.int .i64 (-5), .int .i64 1])
  · refine wp_region_z 14 [9, 10, 12, 13] (fun x => Ext v9 x) mixed rfl ?_
    intro vz hvz
    have HC := hvz
    refine z_stills (g := 12) [0, 1] [_, _] ⟨rfl, rfl, trivial⟩ (by kernel_rfl) (by kernel_rfl) HC ?_
    simp only [List.getElem_toArray, List.getElem_cons_succ, List.getElem_cons_zero]
    apply Exists.intro
    refine ⟨fun u hu => ?_, ?_⟩
    · obtain ⟨k0, k1⟩ := (B1.ext hu).c2
      have lk := (B1.ext hu).lt
      repeat (first | go_big_quiet_skip | (go_big_quiet_want; go_big_quiet_op; go_big_quiet_on))
      refine wpQuiet_nil ?_
      rfl
    refine z_two 2 11 rfl rfl (by kernel_rfl) ?_ ?_
    · simp only [List.getElem_toArray, List.getElem_cons_succ, List.getElem_cons_zero]
      go_wp2_with (go_at_call 35; (with_reducible refine Calls.mono (q_any _ _ _) ?_); rintro e wa ⟨rfl, hx⟩)
      replace HC := HC.trans hx
      try replace H5 := H5.ext hx
      clear hx
      refine onQ_in HC ?_
      refine z_two 3 11 rfl rfl (by kernel_rfl) ?_ ?_
      · simp only [List.getElem_toArray, List.getElem_cons_succ, List.getElem_cons_zero]
        go_wp2_with (go_at_call 64; (with_reducible refine Calls.mono (on_any _ _ _ _) ?_); rintro e wa ⟨rfl, hx⟩)
        replace HC := HC.trans hx
        try replace H5 := H5.ext hx
        clear hx
        refine onQ_in HC ?_
        refine z_two 4 11 rfl rfl (by kernel_rfl) ?_ ?_
        · simp only [List.getElem_toArray, List.getElem_cons_succ, List.getElem_cons_zero]
          go_wp2_with (go_at_call 64; (with_reducible refine Calls.mono (on_any _ _ _ _) ?_); rintro e wa ⟨rfl, hx⟩)
          replace HC := HC.trans hx
          try replace H5 := H5.ext hx
          clear hx
          refine onQ_in HC ?_
          refine z_stills (g := 8) [5] [_] ⟨rfl, trivial⟩ (by kernel_rfl) (by kernel_rfl) HC ?_
          simp only [List.getElem_toArray, List.getElem_cons_succ, List.getElem_cons_zero]
          apply Exists.intro
          refine ⟨fun u hu => ?_, ?_⟩
          · obtain ⟨k0, k1⟩ := (B1.ext hu).c2
            have lk := (B1.ext hu).lt
            repeat (first | go_big_quiet_skip | (go_big_quiet_want; go_big_quiet_op; go_big_quiet_on))
            refine wpQuiet_nil ?_
            rfl
          refine z_two 6 11 rfl rfl (by kernel_rfl) ?_ ?_
          · simp only [List.getElem_toArray, List.getElem_cons_succ, List.getElem_cons_zero]
            go_wp2
            obtain ⟨bc, wb, hbq, hwb, HCW, HC', hx, _⟩ := ex_new2 HC 73 #[.int .i64 2, .int .i64 1, .int .i64 2, .int .i64 0, .int .i64 1, .bool false, .int .i64 1, .int .i64 0, .int .i64 1, .bool false, .int .i64 30]
            rw [← hbq, ← hwb]
            replace HC := HC'
            try replace H5 := H5.ext hx
            clear hbq hwb hx HC'
            refine onQ_in HC ?_
            refine z_two 7 11 rfl rfl (by kernel_rfl) ?_ ?_
            · simp only [List.getElem_toArray, List.getElem_cons_succ, List.getElem_cons_zero]
              go_wp2_with (go_at_call 28; (with_reducible refine Calls.mono (w8_bal (C.ext HC) (PT.ext HC) (rows_crew HCW) (Z.ext HC)) ?_); rintro e wa ⟨rfl, hx⟩)
              replace HC := HC.trans hx
              try replace H5 := H5.ext hx
              clear hx
              refine onQ_in HC ?_
              refine z_stills (g := 5) [8] [_] ⟨rfl, trivial⟩ (by kernel_rfl) (by kernel_rfl) HC ?_
              simp only [List.getElem_toArray, List.getElem_cons_succ, List.getElem_cons_zero]
              apply Exists.intro
              refine ⟨fun u hu => ?_, ?_⟩
              · obtain ⟨k0, k1⟩ := (B1.ext hu).c2
                have lk := (B1.ext hu).lt
                repeat (first | go_big_quiet_skip | (go_big_quiet_want; go_big_quiet_op; go_big_quiet_on))
                refine wpQuiet_nil ?_
                rfl
              refine z_pures (g := 3) [9, 10] [_, _] ⟨rfl, rfl, trivial⟩ (by kernel_rfl) (by kernel_rfl) ?_
              simp only [List.getElem_toArray, List.getElem_cons_succ, List.getElem_cons_zero]
              apply Exists.intro
              refine ⟨fun u hu => ?_, ?_⟩
              · repeat (first | go_big_quiet_skip | (go_big_quiet_want; go_big_quiet_op; go_big_quiet_on))
                refine wpQuiet_nil ?_
                rfl
              refine z_one 11 rfl (by kernel_rfl) ?_
              simp only [List.getElem_toArray, List.getElem_cons_succ, List.getElem_cons_zero]
              go_wp2
              obtain ⟨b9, wb, hbq, hwb, H5, HC', hx, g5⟩ := ex_new2 HC 52 #[.int .i64 0, .int .i64 0]
              rw [← hbq, ← hwb]
              replace HC := HC'
              try replace HCW := HCW.ext hx
              clear hbq hwb hx HC'
              refine onQ_in HC ?_
              refine z_end 12 rfl (by kernel_rfl) ?_
              simp only [List.getElem_toArray, List.getElem_cons_succ, List.getElem_cons_zero]
              have z0 := H5.frozen 0
              have z1 := H5.frozen 1
              obtain ⟨x0, x1⟩ := H5.c2
              have lx := H5.lt
              go_wp2
              have H6 := held_two H5 (.int .i64 (-5)) (.int .i64 1)
              replace HC := (HC.setCell (p := ⟨b9, 0, none⟩) g5 (.int .i64 (-5))).setCell (p := ⟨b9, 1, none⟩) g5 (.int .i64 1)
              clear z0 x0 z1 x1 lx H5
              generalize World.setCell _ _ _ = wq at *
              refine onQ_last ?_
              refine z_end 13 rfl (by kernel_rfl) ?_
              simp only [List.getElem_toArray, List.getElem_cons_succ, List.getElem_cons_zero]
              go_wp2
              refine onQ_last ?_
              refine z_done (by kernel_rfl) ?_
              exact cut2b_is b9 bc ⟨HC, H6⟩ rfl
            · simp only [List.getElem_toArray, List.getElem_cons_succ, List.getElem_cons_zero]
              go_wp2
              obtain ⟨b9, wb, hbq, hwb, H5, HC', hx, g5⟩ := ex_new2 HC 52 #[.int .i64 0, .int .i64 0]
              rw [← hbq, ← hwb]
              replace HC := HC'
              try replace HCW := HCW.ext hx
              clear hbq hwb hx HC'
              refine onQ_in HC ?_
              refine z_one 7 rfl (by kernel_rfl) ?_
              simp only [List.getElem_toArray, List.getElem_cons_succ, List.getElem_cons_zero]
              go_wp2_with (go_at_call 28; (with_reducible refine Calls.mono (w8_bal (C.ext HC) (PT.ext HC) (rows_crew HCW) (Z.ext HC)) ?_); rintro e wa ⟨rfl, hx⟩)
              replace HC := HC.trans hx
              try replace H5 := H5.ext hx
              clear hx
              refine onQ_in HC ?_
              refine z_stills (g := 4) [8] [_] ⟨rfl, trivial⟩ (by kernel_rfl) (by kernel_rfl) HC ?_
              simp only [List.getElem_toArray, List.getElem_cons_succ, List.getElem_cons_zero]
              apply Exists.intro
              refine ⟨fun u hu => ?_, ?_⟩
              · obtain ⟨k0, k1⟩ := (B1.ext hu).c2
                have lk := (B1.ext hu).lt
                repeat (first | go_big_quiet_skip | (go_big_quiet_want; go_big_quiet_op; go_big_quiet_on))
                refine wpQuiet_nil ?_
                rfl
              refine z_pures (g := 2) [9, 10] [_, _] ⟨rfl, rfl, trivial⟩ (by kernel_rfl) (by kernel_rfl) ?_
              simp only [List.getElem_toArray, List.getElem_cons_succ, List.getElem_cons_zero]
              apply Exists.intro
              refine ⟨fun u hu => ?_, ?_⟩
              · repeat (first | go_big_quiet_skip | (go_big_quiet_want; go_big_quiet_op; go_big_quiet_on))
                refine wpQuiet_nil ?_
                rfl
              refine z_end 12 rfl (by kernel_rfl) ?_
              simp only [List.getElem_toArray, List.getElem_cons_succ, List.getElem_cons_zero]
              have z0 := H5.frozen 0
              have z1 := H5.frozen 1
              obtain ⟨x0, x1⟩ := H5.c2
              have lx := H5.lt
              go_wp2
              have H6 := held_two H5 (.int .i64 (-5)) (.int .i64 1)
              replace HC := (HC.setCell (p := ⟨b9, 0, none⟩) g5 (.int .i64 (-5))).setCell (p := ⟨b9, 1, none⟩) g5 (.int .i64 1)
              clear z0 x0 z1 x1 lx H5
              generalize World.setCell _ _ _ = wq at *
              refine onQ_last ?_
              refine z_end 13 rfl (by kernel_rfl) ?_
              simp only [List.getElem_toArray, List.getElem_cons_succ, List.getElem_cons_zero]
              go_wp2
              refine onQ_last ?_
              refine z_done (by kernel_rfl) ?_
              exact cut2b_is b9 bc ⟨HC, H6⟩ rfl
          · simp only [List.getElem_toArray, List.getElem_cons_succ, List.getElem_cons_zero]
            go_wp2
            obtain ⟨b9, wb, hbq, hwb, H5, HC', hx, g5⟩ := ex_new2 HC 52 #[.int .i64 0, .int .i64 0]
            rw [← hbq, ← hwb]
            replace HC := HC'
            try replace HCW := HCW.ext hx
            clear hbq hwb hx HC'
            refine onQ_in HC ?_
            refine z_one 6 rfl (by kernel_rfl) ?_
            simp only [List.getElem_toArray, List.getElem_cons_succ, List.getElem_cons_zero]
            go_wp2
            obtain ⟨bc, wb, hbq, hwb, HCW, HC', hx, _⟩ := ex_new2 HC 73 #[.int .i64 2, .int .i64 1, .int .i64 2, .int .i64 0, .int .i64 1, .bool false, .int .i64 1, .int .i64 0, .int .i64 1, .bool false, .int .i64 30]
            rw [← hbq, ← hwb]
            replace HC := HC'
            try replace H5 := H5.ext hx
            clear hbq hwb hx HC'
            refine onQ_in HC ?_
            refine z_one 7 rfl (by kernel_rfl) ?_
            simp only [List.getElem_toArray, List.getElem_cons_succ, List.getElem_cons_zero]
            go_wp2_with (go_at_call 28; (with_reducible refine Calls.mono (w8_bal (C.ext HC) (PT.ext HC) (rows_crew HCW) (Z.ext HC)) ?_); rintro e wa ⟨rfl, hx⟩)
            replace HC := HC.trans hx
            try replace H5 := H5.ext hx
            clear hx
            refine onQ_in HC ?_
            refine z_stills (g := 4) [8] [_] ⟨rfl, trivial⟩ (by kernel_rfl) (by kernel_rfl) HC ?_
            simp only [List.getElem_toArray, List.getElem_cons_succ, List.getElem_cons_zero]
            apply Exists.intro
            refine ⟨fun u hu => ?_, ?_⟩
            · obtain ⟨k0, k1⟩ := (B1.ext hu).c2
              have lk := (B1.ext hu).lt
              repeat (first | go_big_quiet_skip | (go_big_quiet_want; go_big_quiet_op; go_big_quiet_on))
              refine wpQuiet_nil ?_
              rfl
            refine z_pures (g := 2) [9, 10] [_, _] ⟨rfl, rfl, trivial⟩ (by kernel_rfl) (by kernel_rfl) ?_
            simp only [List.getElem_toArray, List.getElem_cons_succ, List.getElem_cons_zero]
            apply Exists.intro
            refine ⟨fun u hu => ?_, ?_⟩
            · repeat (first | go_big_quiet_skip | (go_big_quiet_want; go_big_quiet_op; go_big_quiet_on))
              refine wpQuiet_nil ?_
              rfl
            refine z_end 12 rfl (by kernel_rfl) ?_
            simp only [List.getElem_toArray, List.getElem_cons_succ, List.getElem_cons_zero]
            have z0 := H5.frozen 0
            have z1 := H5.frozen 1
            obtain ⟨x0, x1⟩ := H5.c2
            have lx := H5.lt
            go_wp2
            have H6 := held_two H5 (.int .i64 (-5)) (.int .i64 1)
            replace HC := (HC.setCell (p := ⟨b9, 0, none⟩) g5 (.int .i64 (-5))).setCell (p := ⟨b9, 1, none⟩) g5 (.int .i64 1)
            clear z0 x0 z1 x1 lx H5
            generalize World.setCell _ _ _ = wq at *
            refine onQ_last ?_
            refine z_end 13 rfl (by kernel_rfl) ?_
            simp only [List.getElem_toArray, List.getElem_cons_succ, List.getElem_cons_zero]
            go_wp2
            refine onQ_last ?_
            refine z_done (by kernel_rfl) ?_
            exact cut2b_is b9 bc ⟨HC, H6⟩ rfl
        · simp only [List.getElem_toArray, List.getElem_cons_succ, List.getElem_cons_zero]
          go_wp2
          obtain ⟨b9, wb, hbq, hwb, H5, HC', hx, g5⟩ := ex_new2 HC 52 #[.int .i64 0, .int .i64 0]
          rw [← hbq, ← hwb]
          replace HC := HC'
          try replace HCW := HCW.ext hx
          clear hbq hwb hx HC'
          refine onQ_in HC ?_
          refine z_one 4 rfl (by kernel_rfl) ?_
          simp only [List.getElem_toArray, List.getElem_cons_succ, List.getElem_cons_zero]
          go_wp2_with (go_at_call 64; (with_reducible refine Calls.mono (on_any _ _ _ _) ?_); rintro e wa ⟨rfl, hx⟩)
          replace HC := HC.trans hx
          try replace H5 := H5.ext hx
          clear hx
          refine onQ_in HC ?_
          refine z_stills (g := 7) [5] [_] ⟨rfl, trivial⟩ (by kernel_rfl) (by kernel_rfl) HC ?_
          simp only [List.getElem_toArray, List.getElem_cons_succ, List.getElem_cons_zero]
          apply Exists.intro
          refine ⟨fun u hu => ?_, ?_⟩
          · obtain ⟨k0, k1⟩ := (B1.ext hu).c2
            have lk := (B1.ext hu).lt
            repeat (first | go_big_quiet_skip | (go_big_quiet_want; go_big_quiet_op; go_big_quiet_on))
            refine wpQuiet_nil ?_
            rfl
          refine z_one 6 rfl (by kernel_rfl) ?_
          simp only [List.getElem_toArray, List.getElem_cons_succ, List.getElem_cons_zero]
          go_wp2
          obtain ⟨bc, wb, hbq, hwb, HCW, HC', hx, _⟩ := ex_new2 HC 73 #[.int .i64 2, .int .i64 1, .int .i64 2, .int .i64 0, .int .i64 1, .bool false, .int .i64 1, .int .i64 0, .int .i64 1, .bool false, .int .i64 30]
          rw [← hbq, ← hwb]
          replace HC := HC'
          try replace H5 := H5.ext hx
          clear hbq hwb hx HC'
          refine onQ_in HC ?_
          refine z_one 7 rfl (by kernel_rfl) ?_
          simp only [List.getElem_toArray, List.getElem_cons_succ, List.getElem_cons_zero]
          go_wp2_with (go_at_call 28; (with_reducible refine Calls.mono (w8_bal (C.ext HC) (PT.ext HC) (rows_crew HCW) (Z.ext HC)) ?_); rintro e wa ⟨rfl, hx⟩)
          replace HC := HC.trans hx
          try replace H5 := H5.ext hx
          clear hx
          refine onQ_in HC ?_
          refine z_stills (g := 4) [8] [_] ⟨rfl, trivial⟩ (by kernel_rfl) (by kernel_rfl) HC ?_
          simp only [List.getElem_toArray, List.getElem_cons_succ, List.getElem_cons_zero]
          apply Exists.intro
          refine ⟨fun u hu => ?_, ?_⟩
          · obtain ⟨k0, k1⟩ := (B1.ext hu).c2
            have lk := (B1.ext hu).lt
            repeat (first | go_big_quiet_skip | (go_big_quiet_want; go_big_quiet_op; go_big_quiet_on))
            refine wpQuiet_nil ?_
            rfl
          refine z_pures (g := 2) [9, 10] [_, _] ⟨rfl, rfl, trivial⟩ (by kernel_rfl) (by kernel_rfl) ?_
          simp only [List.getElem_toArray, List.getElem_cons_succ, List.getElem_cons_zero]
          apply Exists.intro
          refine ⟨fun u hu => ?_, ?_⟩
          · repeat (first | go_big_quiet_skip | (go_big_quiet_want; go_big_quiet_op; go_big_quiet_on))
            refine wpQuiet_nil ?_
            rfl
          refine z_end 12 rfl (by kernel_rfl) ?_
          simp only [List.getElem_toArray, List.getElem_cons_succ, List.getElem_cons_zero]
          have z0 := H5.frozen 0
          have z1 := H5.frozen 1
          obtain ⟨x0, x1⟩ := H5.c2
          have lx := H5.lt
          go_wp2
          have H6 := held_two H5 (.int .i64 (-5)) (.int .i64 1)
          replace HC := (HC.setCell (p := ⟨b9, 0, none⟩) g5 (.int .i64 (-5))).setCell (p := ⟨b9, 1, none⟩) g5 (.int .i64 1)
          clear z0 x0 z1 x1 lx H5
          generalize World.setCell _ _ _ = wq at *
          refine onQ_last ?_
          refine z_end 13 rfl (by kernel_rfl) ?_
          simp only [List.getElem_toArray, List.getElem_cons_succ, List.getElem_cons_zero]
          go_wp2
          refine onQ_last ?_
          refine z_done (by kernel_rfl) ?_
          exact cut2b_is b9 bc ⟨HC, H6⟩ rfl
      · simp only [List.getElem_toArray, List.getElem_cons_succ, List.getElem_cons_zero]
        go_wp2
        obtain ⟨b9, wb, hbq, hwb, H5, HC', hx, g5⟩ := ex_new2 HC 52 #[.int .i64 0, .int .i64 0]
        rw [← hbq, ← hwb]
        replace HC := HC'
        try replace HCW := HCW.ext hx
        clear hbq hwb hx HC'
        refine onQ_in HC ?_
        refine z_one 3 rfl (by kernel_rfl) ?_
        simp only [List.getElem_toArray, List.getElem_cons_succ, List.getElem_cons_zero]
        go_wp2_with (go_at_call 64; (with_reducible refine Calls.mono (on_any _ _ _ _) ?_); rintro e wa ⟨rfl, hx⟩)
        replace HC := HC.trans hx
        try replace H5 := H5.ext hx
        clear hx
        refine onQ_in HC ?_
        refine z_one 4 rfl (by kernel_rfl) ?_
        simp only [List.getElem_toArray, List.getElem_cons_succ, List.getElem_cons_zero]
        go_wp2_with (go_at_call 64; (with_reducible refine Calls.mono (on_any _ _ _ _) ?_); rintro e wa ⟨rfl, hx⟩)
        replace HC := HC.trans hx
        try replace H5 := H5.ext hx
        clear hx
        refine onQ_in HC ?_
        refine z_stills (g := 7) [5] [_] ⟨rfl, trivial⟩ (by kernel_rfl) (by kernel_rfl) HC ?_
        simp only [List.getElem_toArray, List.getElem_cons_succ, List.getElem_cons_zero]
        apply Exists.intro
        refine ⟨fun u hu => ?_, ?_⟩
        · obtain ⟨k0, k1⟩ := (B1.ext hu).c2
          have lk := (B1.ext hu).lt
          repeat (first | go_big_quiet_skip | (go_big_quiet_want; go_big_quiet_op; go_big_quiet_on))
          refine wpQuiet_nil ?_
          rfl
        refine z_one 6 rfl (by kernel_rfl) ?_
        simp only [List.getElem_toArray, List.getElem_cons_succ, List.getElem_cons_zero]
        go_wp2
        obtain ⟨bc, wb, hbq, hwb, HCW, HC', hx, _⟩ := ex_new2 HC 73 #[.int .i64 2, .int .i64 1, .int .i64 2, .int .i64 0, .int .i64 1, .bool false, .int .i64 1, .int .i64 0, .int .i64 1, .bool false, .int .i64 30]
        rw [← hbq, ← hwb]
        replace HC := HC'
        try replace H5 := H5.ext hx
        clear hbq hwb hx HC'
        refine onQ_in HC ?_
        refine z_one 7 rfl (by kernel_rfl) ?_
        simp only [List.getElem_toArray, List.getElem_cons_succ, List.getElem_cons_zero]
        go_wp2_with (go_at_call 28; (with_reducible refine Calls.mono (w8_bal (C.ext HC) (PT.ext HC) (rows_crew HCW) (Z.ext HC)) ?_); rintro e wa ⟨rfl, hx⟩)
        replace HC := HC.trans hx
        try replace H5 := H5.ext hx
        clear hx
        refine onQ_in HC ?_
        refine z_stills (g := 4) [8] [_] ⟨rfl, trivial⟩ (by kernel_rfl) (by kernel_rfl) HC ?_
        simp only [List.getElem_toArray, List.getElem_cons_succ, List.getElem_cons_zero]
        apply Exists.intro
        refine ⟨fun u hu => ?_, ?_⟩
        · obtain ⟨k0, k1⟩ := (B1.ext hu).c2
          have lk := (B1.ext hu).lt
          repeat (first | go_big_quiet_skip | (go_big_quiet_want; go_big_quiet_op; go_big_quiet_on))
          refine wpQuiet_nil ?_
          rfl
        refine z_pures (g := 2) [9, 10] [_, _] ⟨rfl, rfl, trivial⟩ (by kernel_rfl) (by kernel_rfl) ?_
        simp only [List.getElem_toArray, List.getElem_cons_succ, List.getElem_cons_zero]
        apply Exists.intro
        refine ⟨fun u hu => ?_, ?_⟩
        · repeat (first | go_big_quiet_skip | (go_big_quiet_want; go_big_quiet_op; go_big_quiet_on))
          refine wpQuiet_nil ?_
          rfl
        refine z_end 12 rfl (by kernel_rfl) ?_
        simp only [List.getElem_toArray, List.getElem_cons_succ, List.getElem_cons_zero]
        have z0 := H5.frozen 0
        have z1 := H5.frozen 1
        obtain ⟨x0, x1⟩ := H5.c2
        have lx := H5.lt
        go_wp2
        have H6 := held_two H5 (.int .i64 (-5)) (.int .i64 1)
        replace HC := (HC.setCell (p := ⟨b9, 0, none⟩) g5 (.int .i64 (-5))).setCell (p := ⟨b9, 1, none⟩) g5 (.int .i64 1)
        clear z0 x0 z1 x1 lx H5
        generalize World.setCell _ _ _ = wq at *
        refine onQ_last ?_
        refine z_end 13 rfl (by kernel_rfl) ?_
        simp only [List.getElem_toArray, List.getElem_cons_succ, List.getElem_cons_zero]
        go_wp2
        refine onQ_last ?_
        refine z_done (by kernel_rfl) ?_
        exact cut2b_is b9 bc ⟨HC, H6⟩ rfl
    · simp only [List.getElem_toArray, List.getElem_cons_succ, List.getElem_cons_zero]
      go_wp2
      obtain ⟨b9, wb, hbq, hwb, H5, HC', hx, g5⟩ := ex_new2 HC 52 #[.int .i64 0, .int .i64 0]
      rw [← hbq, ← hwb]
      replace HC := HC'
      try replace HCW := HCW.ext hx
      clear hbq hwb hx HC'
      refine onQ_in HC ?_
      refine z_one 2 rfl (by kernel_rfl) ?_
      simp only [List.getElem_toArray, List.getElem_cons_succ, List.getElem_cons_zero]
      go_wp2_with (go_at_call 35; (with_reducible refine Calls.mono (q_any _ _ _) ?_); rintro e wa ⟨rfl, hx⟩)
      replace HC := HC.trans hx
      try replace H5 := H5.ext hx
      clear hx
      refine onQ_in HC ?_
      refine z_one 3 rfl (by kernel_rfl) ?_
      simp only [List.getElem_toArray, List.getElem_cons_succ, List.getElem_cons_zero]
      go_wp2_with (go_at_call 64; (with_reducible refine Calls.mono (on_any _ _ _ _) ?_); rintro e wa ⟨rfl, hx⟩)
      replace HC := HC.trans hx
      try replace H5 := H5.ext hx
      clear hx
      refine onQ_in HC ?_
      refine z_one 4 rfl (by kernel_rfl) ?_
      simp only [List.getElem_toArray, List.getElem_cons_succ, List.getElem_cons_zero]
      go_wp2_with (go_at_call 64; (with_reducible refine Calls.mono (on_any _ _ _ _) ?_); rintro e wa ⟨rfl, hx⟩)
      replace HC := HC.trans hx
      try replace H5 := H5.ext hx
      clear hx
      refine onQ_in HC ?_
      refine z_stills (g := 7) [5] [_] ⟨rfl, trivial⟩ (by kernel_rfl) (by kernel_rfl) HC ?_
      simp only [List.getElem_toArray, List.getElem_cons_succ, List.getElem_cons_zero]
      apply Exists.intro
      refine ⟨fun u hu => ?_, ?_⟩
      · obtain ⟨k0, k1⟩ := (B1.ext hu).c2
        have lk := (B1.ext hu).lt
        repeat (first | go_big_quiet_skip | (go_big_quiet_want; go_big_quiet_op; go_big_quiet_on))
        refine wpQuiet_nil ?_
        rfl
      refine z_one 6 rfl (by kernel_rfl) ?_
      simp only [List.getElem_toArray, List.getElem_cons_succ, List.getElem_cons_zero]
      go_wp2
      obtain ⟨bc, wb, hbq, hwb, HCW, HC', hx, _⟩ := ex_new2 HC 73 #[.int .i64 2, .int .i64 1, .int .i64 2, .int .i64 0, .int .i64 1, .bool false, .int .i64 1, .int .i64 0, .int .i64 1, .bool false, .int .i64 30]
      rw [← hbq, ← hwb]
      replace HC := HC'
      try replace H5 := H5.ext hx
      clear hbq hwb hx HC'
      refine onQ_in HC ?_
      refine z_one 7 rfl (by kernel_rfl) ?_
      simp only [List.getElem_toArray, List.getElem_cons_succ, List.getElem_cons_zero]
      go_wp2_with (go_at_call 28; (with_reducible refine Calls.mono (w8_bal (C.ext HC) (PT.ext HC) (rows_crew HCW) (Z.ext HC)) ?_); rintro e wa ⟨rfl, hx⟩)
      replace HC := HC.trans hx
      try replace H5 := H5.ext hx
      clear hx
      refine onQ_in HC ?_
      refine z_stills (g := 4) [8] [_] ⟨rfl, trivial⟩ (by kernel_rfl) (by kernel_rfl) HC ?_
      simp only [List.getElem_toArray, List.getElem_cons_succ, List.getElem_cons_zero]
      apply Exists.intro
      refine ⟨fun u hu => ?_, ?_⟩
      · obtain ⟨k0, k1⟩ := (B1.ext hu).c2
        have lk := (B1.ext hu).lt
        repeat (first | go_big_quiet_skip | (go_big_quiet_want; go_big_quiet_op; go_big_quiet_on))
        refine wpQuiet_nil ?_
        rfl
      refine z_pures (g := 2) [9, 10] [_, _] ⟨rfl, rfl, trivial⟩ (by kernel_rfl) (by kernel_rfl) ?_
      simp only [List.getElem_toArray, List.getElem_cons_succ, List.getElem_cons_zero]
      apply Exists.intro
      refine ⟨fun u hu => ?_, ?_⟩
      · repeat (first | go_big_quiet_skip | (go_big_quiet_want; go_big_quiet_op; go_big_quiet_on))
        refine wpQuiet_nil ?_
        rfl
      refine z_end 12 rfl (by kernel_rfl) ?_
      simp only [List.getElem_toArray, List.getElem_cons_succ, List.getElem_cons_zero]
      have z0 := H5.frozen 0
      have z1 := H5.frozen 1
      obtain ⟨x0, x1⟩ := H5.c2
      have lx := H5.lt
      go_wp2
      have H6 := held_two H5 (.int .i64 (-5)) (.int .i64 1)
      replace HC := (HC.setCell (p := ⟨b9, 0, none⟩) g5 (.int .i64 (-5))).setCell (p := ⟨b9, 1, none⟩) g5 (.int .i64 1)
      clear z0 x0 z1 x1 lx H5
      generalize World.setCell _ _ _ = wq at *
      refine onQ_last ?_
      refine z_end 13 rfl (by kernel_rfl) ?_
      simp only [List.getElem_toArray, List.getElem_cons_succ, List.getElem_cons_zero]
      go_wp2
      refine onQ_last ?_
      refine z_done (by kernel_rfl) ?_
      exact cut2b_is b9 bc ⟨HC, H6⟩ rfl
  rintro b10 bc v10 ⟨h2, B10⟩
  replace E := E.trans h2
  replace C := C.ext h2
  replace Z := Z.ext h2
  replace B1 := B1.ext h2
  replace PT := PT.ext h2
  clear h2
  go_upto_region 11 with (fail)
  obtain ⟨k0, k1⟩ := B1.c2
  have lk := B1.lt
  refine wp_region_xw v10 mixed (by kernel_rfl) (by repeat (first | exact Ext.refl _ | (refine Ext.alloc ?_ _) | (refine Ext.trans ?_ (by assumption)))) ?_
  intro hne hrx hry
  try simp only []
  try simp only [List.append_eq, List.cons_append, List.nil_append]
  skip
  repeat (first
    | go_big_quiet_skip
    | (go_big_quiet_want; go_big_quiet_op; go_big_quiet_on)
    | (go_big_quiet_want; go_big_quiet_op; apply Exists.intro; refine ⟨fun u => ?_, ?_⟩
       · first
           | (go_at_call 35; (with_reducible refine Calls.mono (q_any _ _ _) ?_); rintro e w' ⟨rfl, hb⟩; exact ⟨rfl, u.back hb⟩)
           | (go_at_call 64; (with_reducible refine Calls.mono (on_any _ _ _ _) ?_); rintro e w' ⟨rfl, hb⟩; exact ⟨rfl, u.back hb⟩)
           | (go_at_call 27; (with_reducible refine Calls.mono (w8_few (C.ext u.e) (PT.ext u.e) (Z.ext u.e)) ?_); rintro e w' ⟨rfl, hb⟩; exact ⟨rfl, u.back hb⟩)
       go_big_quiet_on))
  clear hne hry hrx
  refine wpQuiet_nil ?_
  intro v11 h2
  obtain ⟨hcv11, hfv11, hzv11⟩ := Ext.rules h2
  try simp only [World.size_alloc] at hzv11
  obtain ⟨hcbv11, hfbv11, hzbv11⟩ := Ext.rules (show Ext v10 v11 from (by repeat (first | exact Ext.refl _ | (refine Ext.alloc ?_ _) | (refine Ext.trans ?_ (by assumption)))))
  clear hcv11 hfv11
  replace E := E.trans h2
  replace C := C.ext h2
  replace Z := Z.ext h2
  replace B1 := B1.ext h2
  replace PT := PT.ext h2
  replace B10 := B10.ext h2
  clear h2
  clear k0 k1 lk PT
  go_upto_region 13 with (first | (go_at_call 35; (with_reducible refine Calls.mono (q_any _ _ _) ?_); rintro e wa ⟨rfl, hx⟩; replace E := E.trans hx; replace C := C.ext hx; replace Z := Z.ext hx; replace B1 := B1.ext hx; replace B10 := B10.ext hx; clear hx) | (go_at_call 19; (with_reducible refine Calls.mono (w8_grow _) ?_); rintro e w12 ⟨rfl, hx⟩; replace E := E.trans hx; replace C := C.ext hx; replace Z := Z.ext hx; replace B1 := B1.ext hx; replace B10 := B10.ext hx; clear hx))
  obtain ⟨v12, hv⟩ : ∃ x, x = (w12.alloc (.cells #[.int .i64 12, .int .i64 4, .int .i64 7] 50)) := ⟨_, rfl⟩
  rw [← hv]
  have h2 : Ext w12 v12 := by rw [hv]; exact (Ext.refl _).alloc _
  have B12 : Held v12 w12.heap.size 50 #[.int .i64 12, .int .i64 4, .int .i64 7] := by rw [hv]; exact Held.new _ _ _
  clear hv
  generalize w12.heap.size = b12 at *
  replace E := E.trans h2
  replace C := C.ext h2
  replace Z := Z.ext h2
  replace B1 := B1.ext h2
  replace B10 := B10.ext h2
  clear h2
  obtain ⟨x0, x1⟩ := B10.c2
  have lx := B10.lt
  obtain ⟨y0, y1, y2⟩ := B12.c3
  have ly := B12.lt
  refine wp_region_xw v12 mixed (by kernel_rfl) (by repeat (first | exact Ext.refl _ | (refine Ext.alloc ?_ _) | (refine Ext.trans ?_ (by assumption)))) ?_
  intro hne hrx hry
  try simp only []
  try simp only [List.append_eq, List.cons_append, List.nil_append]
  skip
  repeat (first
    | go_big_quiet_skip
    | (go_big_quiet_want; go_big_quiet_op; go_big_quiet_on)
    | (go_big_quiet_want; go_big_quiet_op; apply Exists.intro; refine ⟨fun u => ?_, ?_⟩
       · first
           | (go_at_call 35; (with_reducible refine Calls.mono (q_any _ _ _) ?_); rintro e w' ⟨rfl, hb⟩; exact ⟨rfl, u.back hb⟩)
       go_big_quiet_on))
  clear hne hry hrx
  refine wpQuiet_nil ?_
  intro v13 h2
  obtain ⟨hcv13, hfv13, hzv13⟩ := Ext.rules h2
  try simp only [World.size_alloc] at hzv13
  obtain ⟨hcbv13, hfbv13, hzbv13⟩ := Ext.rules (show Ext v12 v13 from (by repeat (first | exact Ext.refl _ | (refine Ext.alloc ?_ _) | (refine Ext.trans ?_ (by assumption)))))
  clear hcv13 hfv13
  clear x0 x1 lx y0 y1 y2 ly B10 B12
  replace E := E.trans h2
  replace C := C.ext h2
  replace Z := Z.ext h2
  replace B1 := B1.ext h2
  clear h2
  go_upto_region 15 with (fail)
  refine wp_region_z 18 [14, 15, 16, 17] (fun x => Ext v13 x) mixed rfl ?_
  intro vz hvz
  have HC := hvz
  refine z_stills (g := 17) [0] [_] ⟨rfl, trivial⟩ (by kernel_rfl) (by kernel_rfl) HC ?_
  simp only [List.getElem_toArray, List.getElem_cons_zero]
  apply Exists.intro
  refine ⟨fun u hu => ?_, ?_⟩
  · obtain ⟨k0, k1⟩ := (B1.ext hu).c2
    have lk := (B1.ext hu).lt
    repeat (first | go_big_quiet_skip | (go_big_quiet_want; go_big_quiet_op; go_big_quiet_on))
    refine wpQuiet_nil ?_
    rfl
  refine z_one 1 rfl (by kernel_rfl) ?_
  simp only [List.getElem_toArray, List.getElem_cons_succ, List.getElem_cons_zero]
  go_wp2_with (go_at_call 64; (with_reducible refine Calls.mono (on_any _ _ _ _) ?_); rintro e wa ⟨rfl, hx⟩)
  replace HC := HC.trans hx
  try replace LO := LO.ext hx
  try replace LX := LX.ext hx
  try replace LY := LY.ext hx
  clear hx
  refine onQ_in HC ?_
  refine z_one 2 rfl (by kernel_rfl) ?_
  simp only [List.getElem_toArray, List.getElem_cons_succ, List.getElem_cons_zero]
  go_wp2_with (go_at_call 64; (with_reducible refine Calls.mono (on_any _ _ _ _) ?_); rintro e wa ⟨rfl, hx⟩)
  replace HC := HC.trans hx
  try replace LO := LO.ext hx
  try replace LX := LX.ext hx
  try replace LY := LY.ext hx
  clear hx
  refine onQ_in HC ?_
  refine z_one 3 rfl (by kernel_rfl) ?_
  simp only [List.getElem_toArray, List.getElem_cons_succ, List.getElem_cons_zero]
  go_wp2_with (go_at_call 66; (with_reducible refine Calls.mono (lot_any _ _ _) ?_); rintro e wa ⟨bo, rfl, hx, LO⟩)
  replace HC := HC.trans hx
  try replace LX := LX.ext hx
  try replace LY := LY.ext hx
  clear hx
  refine onQ_in HC ?_
  refine z_one 4 rfl (by kernel_rfl) ?_
  simp only [List.getElem_toArray, List.getElem_cons_succ, List.getElem_cons_zero]
  go_wp2_with (go_at_call 64; (with_reducible refine Calls.mono (on_any _ _ _ _) ?_); rintro e wa ⟨rfl, hx⟩)
  replace HC := HC.trans hx
  try replace LO := LO.ext hx
  try replace LX := LX.ext hx
  try replace LY := LY.ext hx
  clear hx
  refine onQ_in HC ?_
  refine z_one 5 rfl (by kernel_rfl) ?_
  simp only [List.getElem_toArray, List.getElem_cons_succ, List.getElem_cons_zero]
  go_wp2_with (go_at_call 66; (with_reducible refine Calls.mono (lot_any _ _ _) ?_); rintro e wa ⟨bx, rfl, hx, LX⟩)
  replace HC := HC.trans hx
  try replace LO := LO.ext hx
  try replace LY := LY.ext hx
  clear hx
  refine onQ_in HC ?_
  refine z_stills (g := 11) [6] [_] ⟨rfl, trivial⟩ (by kernel_rfl) (by kernel_rfl) HC ?_
  simp only [List.getElem_toArray, List.getElem_cons_succ, List.getElem_cons_zero]
  apply Exists.intro
  refine ⟨fun u hu => ?_, ?_⟩
  · obtain ⟨k0, k1⟩ := (B1.ext hu).c2
    have lk := (B1.ext hu).lt
    repeat (first | go_big_quiet_skip | (go_big_quiet_want; go_big_quiet_op; go_big_quiet_on))
    refine wpQuiet_nil ?_
    rfl
  refine z_one 7 rfl (by kernel_rfl) ?_
  simp only [List.getElem_toArray, List.getElem_cons_succ, List.getElem_cons_zero]
  go_wp2_with (go_at_call 64; (with_reducible refine Calls.mono (on_any _ _ _ _) ?_); rintro e wa ⟨rfl, hx⟩)
  replace HC := HC.trans hx
  try replace LO := LO.ext hx
  try replace LX := LX.ext hx
  try replace LY := LY.ext hx
  clear hx
  refine onQ_in HC ?_
  refine z_one 8 rfl (by kernel_rfl) ?_
  simp only [List.getElem_toArray, List.getElem_cons_succ, List.getElem_cons_zero]
  go_wp2_with (go_at_call 66; (with_reducible refine Calls.mono (lot_any _ _ _) ?_); rintro e wa ⟨by', rfl, hx, LY⟩)
  replace HC := HC.trans hx
  try replace LO := LO.ext hx
  try replace LX := LX.ext hx
  clear hx
  refine onQ_in HC ?_
  refine z_stills (g := 8) [9] [_] ⟨rfl, trivial⟩ (by kernel_rfl) (by kernel_rfl) HC ?_
  simp only [List.getElem_toArray, List.getElem_cons_succ, List.getElem_cons_zero]
  apply Exists.intro
  refine ⟨fun u hu => ?_, ?_⟩
  · obtain ⟨k0, k1⟩ := (B1.ext hu).c2
    have lk := (B1.ext hu).lt
    repeat (first | go_big_quiet_skip | (go_big_quiet_want; go_big_quiet_op; go_big_quiet_on))
    refine wpQuiet_nil ?_
    rfl
  refine z_one 10 rfl (by kernel_rfl) ?_
  simp only [List.getElem_toArray, List.getElem_cons_succ, List.getElem_cons_zero]
  go_wp2
  obtain ⟨bd, wb, hbq, hwb, HD, HC', hx, _⟩ := ex_new2 HC 137 #[.int .i64 0, .int .i64 1, .bool false, .int .i64 2, .bool true, .string ⟨#[98]⟩, .slice (some ⟨bx, 0, none⟩) 1 1, .int .i64 0, .int .i64 1, .bool false, .int .i64 2, .bool false, .string ⟨#[98]⟩, .slice (some ⟨by', 0, none⟩) 1 1]
  rw [← hbq, ← hwb]
  replace HC := HC'
  try replace LO := LO.ext hx
  try replace LX := LX.ext hx
  try replace LY := LY.ext hx
  clear hbq hwb hx HC'
  refine onQ_in HC ?_
  refine z_stills (g := 6) [11] [_] ⟨rfl, trivial⟩ (by kernel_rfl) (by kernel_rfl) HC ?_
  simp only [List.getElem_toArray, List.getElem_cons_succ, List.getElem_cons_zero]
  apply Exists.intro
  refine ⟨fun u hu => ?_, ?_⟩
  · obtain ⟨k0, k1⟩ := (B1.ext hu).c2
    have lk := (B1.ext hu).lt
    repeat (first | go_big_quiet_skip | (go_big_quiet_want; go_big_quiet_op; go_big_quiet_on))
    refine wpQuiet_nil ?_
    rfl
  refine z_one 12 rfl (by kernel_rfl) ?_
  simp only [List.getElem_toArray, List.getElem_cons_succ, List.getElem_cons_zero]
  have NC := w8_close (C.ext HC) LO LX LY HD
  go_wp2_with (go_at_call 65; (with_reducible refine Calls.mono (NC) ?_); rintro e wa ⟨v16, rfl, hx, L16⟩)
  replace HC := HC.trans hx
  clear hx NC
  refine onQ_in HC ?_
  refine z_stills (g := 4) [13] [_] ⟨rfl, trivial⟩ (by kernel_rfl) (by kernel_rfl) HC ?_
  simp only [List.getElem_toArray, List.getElem_cons_succ, List.getElem_cons_zero]
  apply Exists.intro
  refine ⟨fun u hu => ?_, ?_⟩
  · obtain ⟨k0, k1⟩ := (B1.ext hu).c2
    have lk := (B1.ext hu).lt
    repeat (first | go_big_quiet_skip | (go_big_quiet_want; go_big_quiet_op; go_big_quiet_on))
    refine wpQuiet_nil ?_
    rfl
  refine z_pures (g := 2) [14, 15] [_, _] ⟨rfl, rfl, trivial⟩ (by kernel_rfl) (by kernel_rfl) ?_
  simp only [List.getElem_toArray, List.getElem_cons_succ, List.getElem_cons_zero]
  apply Exists.intro
  refine ⟨fun u hu => ?_, ?_⟩
  · repeat (first | go_big_quiet_skip | (go_big_quiet_want; go_big_quiet_op; go_big_quiet_on))
    refine wpQuiet_nil ?_
    rfl
  refine z_end 16 rfl (by kernel_rfl) ?_
  simp only [List.getElem_toArray, List.getElem_cons_succ, List.getElem_cons_zero]
  go_wp2
  refine onQ_last ?_
  refine z_end 17 rfl (by kernel_rfl) ?_
  simp only [List.getElem_toArray, List.getElem_cons_succ, List.getElem_cons_zero]
  go_wp2
  refine onQ_last ?_
  refine z_done (by kernel_rfl) ?_
  replace E := E.trans HC
  clear HC LO LX LY HD
  go_wp2_with (first | (go_at_call 66; (with_reducible refine Calls.mono (lot_any _ _ _) ?_); rintro e wa ⟨bl, rfl, hx, LL⟩; have NS := sameL_any _ _ [⟨sBar, -5⟩] [⟨sBar, -5⟩] _ (L16.ext hx) LL; rw [decide_eq_true (rfl : ([⟨sBar, -5⟩] : List Lt) = [⟨sBar, -5⟩])] at NS) | (go_at_call 67; (with_reducible refine Calls.mono (NS) ?_); rintro e wz ⟨rfl, hz⟩))
  go_ret
  exact ⟨rfl, (E.trans hx).trans hz⟩

end Go.Proofs.YtlnjeklmkjgidaaDoor

namespace Go.Proofs.YtlnjeklmkjgidaaDoor
open Go Go.RowKit Go.Shelf
attribute [local go_sem] gv_yes

theorem sizeR_any (n : Int) (h1 : -9223372036854775808 ≤ n) (h2 : n ≤ 9223372036854775807) (w : World) : Calls Tryd.prog 151 #[.int .i64 n] w fun e w' => e = .returned (.int .u64 (n.natAbs : Int)) ∧ Ext w w' := by
  by_cases h : n < 0
  · have hb : decide (n < 0) = true := decide_eq_true h
    go_enter Tryd.func151, Tryd.ntmps151
    go_wp2
    go_ret
    refine ⟨?_, (by repeat (first | exact Ext.refl _ | (refine Ext.alloc ?_ _) | (refine Ext.trans ?_ (by assumption))))⟩
    simp
    omega
  · have hb : decide (n < 0) = false := decide_eq_false h
    go_enter Tryd.func151, Tryd.ntmps151
    go_wp2
    go_ret
    refine ⟨?_, (by repeat (first | exact Ext.refl _ | (refine Ext.alloc ?_ _) | (refine Ext.trans ?_ (by assumption))))⟩
    simp
    omega

theorem gcdR_any (a b : Nat) (ha : a < 18446744073709551616) (w : World) : Calls Tryd.prog 150 #[.int .u64 (a : Int), .int .u64 (b : Int)] w fun e w' => e = .returned (.int .u64 (Nat.gcd a b : Int)) ∧ Ext w w' := by
  obtain ⟨G, hG⟩ : ∃ G, G = Nat.gcd a b := ⟨_, rfl⟩
  rw [← hG]
  have HG := Lib.hid hG
  clear hG
  go_enter Tryd.func150, Tryd.ntmps150
  go_wp2
  go_loopw [0, 1] (fun av bv wr => ∃ a b : Nat, av = .int .u64 (a : Int) ∧ bv = .int .u64 (b : Int) ∧ Hid (G = Nat.gcd a b) ∧ a < 18446744073709551616 ∧ Ext w wr) (fun av _ _ => (intOf av).toNat)
  case atStart => exact ⟨a, b, rfl, rfl, HG, ha, Ext.refl _⟩
  case round =>
    clear HG ha
    obtain ⟨x, y, rfl, rfl, hG, hx, hE⟩ := hrel
    obtain ⟨wo, rfl⟩ : ∃ wo : World, wo = wr := ⟨_, rfl⟩
    by_cases h0 : x = 0
    · subst h0
      go_wp2
      go_ret
      exact ⟨by rw [hG.out]; simp, hE⟩
    · have h0b : ((x : Int) != 0) = true := by rw [bne, beq_eq_false_iff_ne.2 (by omega)]; rfl
      have h0c : ((x : Int) == 0) = false := beq_eq_false_iff_ne.2 (by omega)
      have hlt : y % x < x := Nat.mod_lt _ (by omega)
      go_upto_region 2 with (fail)
      go_wp2
      exact ⟨⟨y % x, x, by simp, rfl, by unfold Hid; rw [hG.out, Nat.gcd_rec x y], by omega, hE⟩, by simp [intOf]; omega⟩

set_option maxRecDepth 100000 in
set_option maxHeartbeats 2000000 in
theorem isRatioR_any (n d : Int) (h1 : -9223372036854775808 ≤ n) (h2 : n ≤ 9223372036854775807) (h3 : -9223372036854775808 ≤ d) (h4 : d ≤ 9223372036854775807) (w : World) :
    Calls Tryd.prog 143 #[.agg #[.int .i64 n, .int .i64 d]] w fun e w' => e = .returned (.bool (Rt.ok ⟨n, d⟩)) ∧ Ext w w' := by
  have N1 := fun w => sizeR_any n h1 h2 w
  have N2 := fun w => sizeR_any d h3 h4 w
  have N3 := fun w => gcdR_any n.natAbs d.natAbs (by omega) w
  have HR : Hid (Rt.ok ⟨n, d⟩ = (decide (1 ≤ d) && decide (d ≤ 1048576) && decide (-1099511627776 ≤ n) && decide (n ≤ 1099511627776) && decide (Nat.gcd n.natAbs d.natAbs = 1))) := rfl
  generalize Rt.ok ⟨n, d⟩ = r at *
  clear h1 h2 h3 h4
  by_cases a1 : 1 ≤ d
  rotate_left
  · rw [decide_eq_false a1] at HR
    simp only [Bool.false_and] at HR
    have a1b : decide (1 ≤ d) = false := decide_eq_false a1
    go_enter Tryd.func143, Tryd.ntmps143
    go_upto_region 1 with (fail)
    obtain ⟨v, hv⟩ : ∃ v, v = w.alloc (.cells #[.int .i64 n, .int .i64 d] 52) := ⟨_, rfl⟩
    rw [← hv]
    have E : Ext w v := by rw [hv]; exact (Ext.refl _).alloc _
    have B1 : Held v w.heap.size 52 #[.int .i64 n, .int .i64 d] := by rw [hv]; exact Held.new _ _ _
    clear hv
    generalize w.heap.size = b1 at *
    obtain ⟨k0, k1⟩ := B1.c2
    have lk := B1.lt
    refine wp_region_xw v mixed (by kernel_rfl) (by repeat (first | exact Ext.refl _ | (refine Ext.alloc ?_ _) | (refine Ext.trans ?_ (by assumption)))) ?_
    intro hne hrx hry
    try simp only []
    try simp only [List.append_eq, List.cons_append, List.nil_append]
    skip
    repeat (first
      | go_big_quiet_skip
      | (go_big_quiet_want; go_big_quiet_op; go_big_quiet_on)
      | (go_big_quiet_want; go_big_quiet_op; apply Exists.intro; refine ⟨fun u => ?_, ?_⟩
         · first
             | (go_at_call 151; (with_reducible refine Calls.mono (N1 _) ?_); rintro e w' ⟨rfl, hb⟩; exact ⟨rfl, u.back hb⟩)
             | (go_at_call 151; (with_reducible refine Calls.mono (N2 _) ?_); rintro e w' ⟨rfl, hb⟩; exact ⟨rfl, u.back hb⟩)
             | (go_at_call 150; (with_reducible refine Calls.mono (N3 _) ?_); rintro e w' ⟨rfl, hb⟩; exact ⟨rfl, u.back hb⟩)
         go_big_quiet_on))
    clear hne hry hrx
    refine wpQuiet_nil ?_
    intro w2 h
    obtain ⟨hcw2, hfw2, hzw2⟩ := Ext.rules h
    try simp only [World.size_alloc] at hzw2
    obtain ⟨hcbw2, hfbw2, hzbw2⟩ := Ext.rules (show Ext v w2 from (by repeat (first | exact Ext.refl _ | (refine Ext.alloc ?_ _) | (refine Ext.trans ?_ (by assumption)))))
    clear hcw2 hfw2
    go_wp2
    go_ret
    exact ⟨by rw [HR.out]; rfl, E.trans h⟩
  have a1b : decide (1 ≤ d) = true := decide_eq_true a1
  rw [a1b] at HR
  by_cases a2 : d ≤ 1048576
  rotate_left
  · rw [decide_eq_false a2] at HR
    simp only [Bool.and_false, Bool.false_and] at HR
    have a2b : decide (d ≤ 1048576) = false := decide_eq_false a2
    go_enter Tryd.func143, Tryd.ntmps143
    go_upto_region 1 with (fail)
    obtain ⟨v, hv⟩ : ∃ v, v = w.alloc (.cells #[.int .i64 n, .int .i64 d] 52) := ⟨_, rfl⟩
    rw [← hv]
    have E : Ext w v := by rw [hv]; exact (Ext.refl _).alloc _
    have B1 : Held v w.heap.size 52 #[.int .i64 n, .int .i64 d] := by rw [hv]; exact Held.new _ _ _
    clear hv
    generalize w.heap.size = b1 at *
    obtain ⟨k0, k1⟩ := B1.c2
    have lk := B1.lt
    refine wp_region_xw v mixed (by kernel_rfl) (by repeat (first | exact Ext.refl _ | (refine Ext.alloc ?_ _) | (refine Ext.trans ?_ (by assumption)))) ?_
    intro hne hrx hry
    try simp only []
    try simp only [List.append_eq, List.cons_append, List.nil_append]
    skip
    repeat (first
      | go_big_quiet_skip
      | (go_big_quiet_want; go_big_quiet_op; go_big_quiet_on)
      | (go_big_quiet_want; go_big_quiet_op; apply Exists.intro; refine ⟨fun u => ?_, ?_⟩
         · first
             | (go_at_call 151; (with_reducible refine Calls.mono (N1 _) ?_); rintro e w' ⟨rfl, hb⟩; exact ⟨rfl, u.back hb⟩)
             | (go_at_call 151; (with_reducible refine Calls.mono (N2 _) ?_); rintro e w' ⟨rfl, hb⟩; exact ⟨rfl, u.back hb⟩)
             | (go_at_call 150; (with_reducible refine Calls.mono (N3 _) ?_); rintro e w' ⟨rfl, hb⟩; exact ⟨rfl, u.back hb⟩)
         go_big_quiet_on))
    clear hne hry hrx
    refine wpQuiet_nil ?_
    intro w2 h
    obtain ⟨hcw2, hfw2, hzw2⟩ := Ext.rules h
    try simp only [World.size_alloc] at hzw2
    obtain ⟨hcbw2, hfbw2, hzbw2⟩ := Ext.rules (show Ext v w2 from (by repeat (first | exact Ext.refl _ | (refine Ext.alloc ?_ _) | (refine Ext.trans ?_ (by assumption)))))
    clear hcw2 hfw2
    go_wp2
    go_ret
    exact ⟨by rw [HR.out]; rfl, E.trans h⟩
  have a2b : decide (d ≤ 1048576) = true := decide_eq_true a2
  rw [a2b] at HR
  by_cases a3 : -1099511627776 ≤ n
  rotate_left
  · rw [decide_eq_false a3] at HR
    simp only [Bool.and_false, Bool.false_and] at HR
    have a3b : decide (-1099511627776 ≤ n) = false := decide_eq_false a3
    go_enter Tryd.func143, Tryd.ntmps143
    go_upto_region 1 with (fail)
    obtain ⟨v, hv⟩ : ∃ v, v = w.alloc (.cells #[.int .i64 n, .int .i64 d] 52) := ⟨_, rfl⟩
    rw [← hv]
    have E : Ext w v := by rw [hv]; exact (Ext.refl _).alloc _
    have B1 : Held v w.heap.size 52 #[.int .i64 n, .int .i64 d] := by rw [hv]; exact Held.new _ _ _
    clear hv
    generalize w.heap.size = b1 at *
    obtain ⟨k0, k1⟩ := B1.c2
    have lk := B1.lt
    refine wp_region_xw v mixed (by kernel_rfl) (by repeat (first | exact Ext.refl _ | (refine Ext.alloc ?_ _) | (refine Ext.trans ?_ (by assumption)))) ?_
    intro hne hrx hry
    try simp only []
    try simp only [List.append_eq, List.cons_append, List.nil_append]
    skip
    repeat (first
      | go_big_quiet_skip
      | (go_big_quiet_want; go_big_quiet_op; go_big_quiet_on)
      | (go_big_quiet_want; go_big_quiet_op; apply Exists.intro; refine ⟨fun u => ?_, ?_⟩
         · first
             | (go_at_call 151; (with_reducible refine Calls.mono (N1 _) ?_); rintro e w' ⟨rfl, hb⟩; exact ⟨rfl, u.back hb⟩)
             | (go_at_call 151; (with_reducible refine Calls.mono (N2 _) ?_); rintro e w' ⟨rfl, hb⟩; exact ⟨rfl, u.back hb⟩)
             | (go_at_call 150; (with_reducible refine Calls.mono (N3 _) ?_); rintro e w' ⟨rfl, hb⟩; exact ⟨rfl, u.back hb⟩)
         go_big_quiet_on))
    clear hne hry hrx
    refine wpQuiet_nil ?_
    intro w2 h
    obtain ⟨hcw2, hfw2, hzw2⟩ := Ext.rules h
    try simp only [World.size_alloc] at hzw2
    obtain ⟨hcbw2, hfbw2, hzbw2⟩ := Ext.rules (show Ext v w2 from (by repeat (first | exact Ext.refl _ | (refine Ext.alloc ?_ _) | (refine Ext.trans ?_ (by assumption)))))
    clear hcw2 hfw2
    go_wp2
    go_ret
    exact ⟨by rw [HR.out]; rfl, E.trans h⟩
  have a3b : decide (-1099511627776 ≤ n) = true := decide_eq_true a3
  rw [a3b] at HR
  by_cases a4 : n ≤ 1099511627776
  rotate_left
  · rw [decide_eq_false a4] at HR
    simp only [Bool.and_false, Bool.false_and] at HR
    have a4b : decide (n ≤ 1099511627776) = false := decide_eq_false a4
    go_enter Tryd.func143, Tryd.ntmps143
    go_upto_region 1 with (fail)
    obtain ⟨v, hv⟩ : ∃ v, v = w.alloc (.cells #[.int .i64 n, .int .i64 d] 52) := ⟨_, rfl⟩
    rw [← hv]
    have E : Ext w v := by rw [hv]; exact (Ext.refl _).alloc _
    have B1 : Held v w.heap.size 52 #[.int .i64 n, .int .i64 d] := by rw [hv]; exact Held.new _ _ _
    clear hv
    generalize w.heap.size = b1 at *
    obtain ⟨k0, k1⟩ := B1.c2
    have lk := B1.lt
    refine wp_region_xw v mixed (by kernel_rfl) (by repeat (first | exact Ext.refl _ | (refine Ext.alloc ?_ _) | (refine Ext.trans ?_ (by assumption)))) ?_
    intro hne hrx hry
    try simp only []
    try simp only [List.append_eq, List.cons_append, List.nil_append]
    skip
    repeat (first
      | go_big_quiet_skip
      | (go_big_quiet_want; go_big_quiet_op; go_big_quiet_on)
      | (go_big_quiet_want; go_big_quiet_op; apply Exists.intro; refine ⟨fun u => ?_, ?_⟩
         · first
             | (go_at_call 151; (with_reducible refine Calls.mono (N1 _) ?_); rintro e w' ⟨rfl, hb⟩; exact ⟨rfl, u.back hb⟩)
             | (go_at_call 151; (with_reducible refine Calls.mono (N2 _) ?_); rintro e w' ⟨rfl, hb⟩; exact ⟨rfl, u.back hb⟩)
             | (go_at_call 150; (with_reducible refine Calls.mono (N3 _) ?_); rintro e w' ⟨rfl, hb⟩; exact ⟨rfl, u.back hb⟩)
         go_big_quiet_on))
    clear hne hry hrx
    refine wpQuiet_nil ?_
    intro w2 h
    obtain ⟨hcw2, hfw2, hzw2⟩ := Ext.rules h
    try simp only [World.size_alloc] at hzw2
    obtain ⟨hcbw2, hfbw2, hzbw2⟩ := Ext.rules (show Ext v w2 from (by repeat (first | exact Ext.refl _ | (refine Ext.alloc ?_ _) | (refine Ext.trans ?_ (by assumption)))))
    clear hcw2 hfw2
    go_wp2
    go_ret
    exact ⟨by rw [HR.out]; rfl, E.trans h⟩
  have a4b : decide (n ≤ 1099511627776) = true := decide_eq_true a4
  rw [a4b] at HR
  simp only [Bool.true_and] at HR
  by_cases hg : Nat.gcd n.natAbs d.natAbs = 1
  · rw [decide_eq_true hg] at HR
    rw [hg] at N3
    go_enter Tryd.func143, Tryd.ntmps143
    go_upto_region 1 with (fail)
    obtain ⟨v, hv⟩ : ∃ v, v = w.alloc (.cells #[.int .i64 n, .int .i64 d] 52) := ⟨_, rfl⟩
    rw [← hv]
    have E : Ext w v := by rw [hv]; exact (Ext.refl _).alloc _
    have B1 : Held v w.heap.size 52 #[.int .i64 n, .int .i64 d] := by rw [hv]; exact Held.new _ _ _
    clear hv
    generalize w.heap.size = b1 at *
    obtain ⟨k0, k1⟩ := B1.c2
    have lk := B1.lt
    refine wp_region_xw v mixed (by kernel_rfl) (by repeat (first | exact Ext.refl _ | (refine Ext.alloc ?_ _) | (refine Ext.trans ?_ (by assumption)))) ?_
    intro hne hrx hry
    try simp only []
    try simp only [List.append_eq, List.cons_append, List.nil_append]
    skip
    repeat (first
      | go_big_quiet_skip
      | (go_big_quiet_want; go_big_quiet_op; go_big_quiet_on)
      | (go_big_quiet_want; go_big_quiet_op; apply Exists.intro; refine ⟨fun u => ?_, ?_⟩
         · first
             | (go_at_call 151; (with_reducible refine Calls.mono (N1 _) ?_); rintro e w' ⟨rfl, hb⟩; exact ⟨rfl, u.back hb⟩)
             | (go_at_call 151; (with_reducible refine Calls.mono (N2 _) ?_); rintro e w' ⟨rfl, hb⟩; exact ⟨rfl, u.back hb⟩)
             | (go_at_call 150; (with_reducible refine Calls.mono (N3 _) ?_); rintro e w' ⟨rfl, hb⟩; exact ⟨rfl, u.back hb⟩)
         go_big_quiet_on))
    clear hne hry hrx
    refine wpQuiet_nil ?_
    intro w2 h
    obtain ⟨hcw2, hfw2, hzw2⟩ := Ext.rules h
    try simp only [World.size_alloc] at hzw2
    obtain ⟨hcbw2, hfbw2, hzbw2⟩ := Ext.rules (show Ext v w2 from (by repeat (first | exact Ext.refl _ | (refine Ext.alloc ?_ _) | (refine Ext.trans ?_ (by assumption)))))
    clear hcw2 hfw2
    go_wp2
    go_ret
    exact ⟨by rw [HR.out]; rfl, E.trans h⟩
  · rw [decide_eq_false hg] at HR
    have hgb : (((Nat.gcd n.natAbs d.natAbs : Nat) : Int) == 1) = false := beq_eq_false_iff_ne.2 (by omega)
    generalize Nat.gcd n.natAbs d.natAbs = gg at *
    go_enter Tryd.func143, Tryd.ntmps143
    go_upto_region 1 with (fail)
    obtain ⟨v, hv⟩ : ∃ v, v = w.alloc (.cells #[.int .i64 n, .int .i64 d] 52) := ⟨_, rfl⟩
    rw [← hv]
    have E : Ext w v := by rw [hv]; exact (Ext.refl _).alloc _
    have B1 : Held v w.heap.size 52 #[.int .i64 n, .int .i64 d] := by rw [hv]; exact Held.new _ _ _
    clear hv
    generalize w.heap.size = b1 at *
    obtain ⟨k0, k1⟩ := B1.c2
    have lk := B1.lt
    refine wp_region_xw v mixed (by kernel_rfl) (by repeat (first | exact Ext.refl _ | (refine Ext.alloc ?_ _) | (refine Ext.trans ?_ (by assumption)))) ?_
    intro hne hrx hry
    try simp only []
    try simp only [List.append_eq, List.cons_append, List.nil_append]
    skip
    repeat (first
      | go_big_quiet_skip
      | (go_big_quiet_want; go_big_quiet_op; go_big_quiet_on)
      | (go_big_quiet_want; go_big_quiet_op; apply Exists.intro; refine ⟨fun u => ?_, ?_⟩
         · first
             | (go_at_call 151; (with_reducible refine Calls.mono (N1 _) ?_); rintro e w' ⟨rfl, hb⟩; exact ⟨rfl, u.back hb⟩)
             | (go_at_call 151; (with_reducible refine Calls.mono (N2 _) ?_); rintro e w' ⟨rfl, hb⟩; exact ⟨rfl, u.back hb⟩)
             | (go_at_call 150; (with_reducible refine Calls.mono (N3 _) ?_); rintro e w' ⟨rfl, hb⟩; exact ⟨rfl, u.back hb⟩)
         go_big_quiet_on))
    clear hne hry hrx
    refine wpQuiet_nil ?_
    intro w2 h
    obtain ⟨hcw2, hfw2, hzw2⟩ := Ext.rules h
    try simp only [World.size_alloc] at hzw2
    obtain ⟨hcbw2, hfbw2, hzbw2⟩ := Ext.rules (show Ext v w2 from (by repeat (first | exact Ext.refl _ | (refine Ext.alloc ?_ _) | (refine Ext.trans ?_ (by assumption)))))
    clear hcw2 hfw2
    go_wp2
    go_ret
    exact ⟨by rw [HR.out]; rfl, E.trans h⟩

set_option maxRecDepth 100000 in
set_option maxHeartbeats 4000000 in
theorem cmpFR_any (a b : Rt) (hia : a.In) (hib : b.In) (w : World) :
    Calls Tryd.prog 127 #[.agg #[.int .i64 a.n, .int .i64 a.d], .agg #[.int .i64 b.n, .int .i64 b.d]] w fun e w' => e = .returned (.tuple #[.int .i64 (cmpR a b).1, .int .i64 (cmpR a b).2]) ∧ Ext w w' := by
  have NA := fun w => isRatioR_any a.n a.d hia.1 hia.2.1 hia.2.2.1 hia.2.2.2 w
  have NB := fun w => isRatioR_any b.n b.d hib.1 hib.2.1 hib.2.2.1 hib.2.2.2 w
  rw [show Rt.ok ⟨a.n, a.d⟩ = a.ok from rfl] at NA
  rw [show Rt.ok ⟨b.n, b.d⟩ = b.ok from rfl] at NB
  have HV : Hid (cmpR a b = if a.ok && b.ok then (cmpS (a.n * b.d) (b.n * a.d), 0) else (0, 2)) := rfl
  obtain ⟨R, hR0⟩ : ∃ R, R = cmpR a b := ⟨_, rfl⟩
  rw [← hR0] at HV ⊢
  clear hR0
  cases ha : a.ok
  · simp only [ha] at NA
    have hr := HV.out
    rw [ha, Bool.false_and, if_neg (by decide)] at hr
    subst hr
    clear HV NB
    go_enter Tryd.func127, Tryd.ntmps127
    go_upto_region 1 with (fail)
    obtain ⟨v, hv⟩ : ∃ v, v = ((w.alloc (.cells #[.int .i64 a.n, .int .i64 a.d] 52)).alloc (.cells #[.int .i64 b.n, .int .i64 b.d] 52)) := ⟨_, rfl⟩
    rw [← hv]
    have E : Ext w v := by rw [hv]; exact ((Ext.refl _).alloc _).alloc _
    have B1 : Held v w.heap.size 52 #[.int .i64 a.n, .int .i64 a.d] := by rw [hv]; exact (Held.new _ _ _).alloc _
    have B2 : Held v (w.heap.size + 1) 52 #[.int .i64 b.n, .int .i64 b.d] := by rw [hv]; exact Held.at _ _ _ _ (by simp)
    clear hv
    obtain ⟨b2, hb2⟩ : ∃ b, b = w.heap.size + 1 := ⟨_, rfl⟩
    rw [← hb2] at B2 ⊢
    obtain ⟨b1, hb1⟩ : ∃ b, b = w.heap.size := ⟨_, rfl⟩
    rw [← hb1] at B1 ⊢
    have hbr : w.heap.size ≤ b2 := by omega
    have hbr1 : w.heap.size ≤ b1 := by omega
    have hn21 : b2 ≠ b1 := by omega
    clear hb1 hb2
    obtain ⟨k0, k1⟩ := B1.c2
    have lk := B1.lt
    obtain ⟨p0, p1⟩ := B2.c2
    have lp := B2.lt
    go_wp2_with (go_at_call 143; (with_reducible refine Calls.mono (NA _) ?_); rintro e w2 ⟨rfl, h⟩)
    go_ret2
    exact ⟨rfl, E.trans h⟩
  · simp only [ha] at NA
    cases hb : b.ok
    · simp only [hb] at NB
      have hr := HV.out
      rw [hb, Bool.and_false, if_neg (by decide)] at hr
      subst hr
      clear HV
      go_enter Tryd.func127, Tryd.ntmps127
      go_upto_region 1 with (fail)
      obtain ⟨v, hv⟩ : ∃ v, v = ((w.alloc (.cells #[.int .i64 a.n, .int .i64 a.d] 52)).alloc (.cells #[.int .i64 b.n, .int .i64 b.d] 52)) := ⟨_, rfl⟩
      rw [← hv]
      have E : Ext w v := by rw [hv]; exact ((Ext.refl _).alloc _).alloc _
      have B1 : Held v w.heap.size 52 #[.int .i64 a.n, .int .i64 a.d] := by rw [hv]; exact (Held.new _ _ _).alloc _
      have B2 : Held v (w.heap.size + 1) 52 #[.int .i64 b.n, .int .i64 b.d] := by rw [hv]; exact Held.at _ _ _ _ (by simp)
      clear hv
      obtain ⟨b2, hb2⟩ : ∃ b, b = w.heap.size + 1 := ⟨_, rfl⟩
      rw [← hb2] at B2 ⊢
      obtain ⟨b1, hb1⟩ : ∃ b, b = w.heap.size := ⟨_, rfl⟩
      rw [← hb1] at B1 ⊢
      have hbr : w.heap.size ≤ b2 := by omega
      have hbr1 : w.heap.size ≤ b1 := by omega
      have hn21 : b2 ≠ b1 := by omega
      clear hb1 hb2
      obtain ⟨k0, k1⟩ := B1.c2
      have lk := B1.lt
      obtain ⟨p0, p1⟩ := B2.c2
      have lp := B2.lt
      go_wp2_with (first | (go_at_call 143; (with_reducible refine Calls.mono (NA _) ?_); rintro e w1 ⟨rfl, h1⟩; clear p0 p1 lp; obtain ⟨p0, p1⟩ := (B2.ext h1).c2; have lp := (B2.ext h1).lt) | (go_at_call 143; (with_reducible refine Calls.mono (NB _) ?_); rintro e w2 ⟨rfl, h⟩))
      go_ret2
      exact ⟨rfl, (E.trans h1).trans h⟩
    · simp only [hb] at NB
      have hr := HV.out
      rw [ha, hb, Bool.and_true, if_pos rfl] at hr
      obtain ⟨m1, m2, _, _⟩ := ok_mul ha hb
      obtain ⟨m5, m6, _, _⟩ := ok_mul hb ha
      have v1 : IntKind.i64.wrap (a.n * b.d) = a.n * b.d := wrap64 (by omega) (by omega)
      have v2 : IntKind.i64.wrap (b.n * a.d) = b.n * a.d := wrap64 (by omega) (by omega)
      have hc : Hid (R.1 = cmpS (a.n * b.d) (b.n * a.d) ∧ R.2 = 0) := ⟨by rw [hr], by rw [hr]⟩
      clear HV hr ha hb hia hib
      generalize hx : a.n * b.d = x at *
      generalize hy : b.n * a.d = y at *
      replace hx := Lib.hid hx
      replace hy := Lib.hid hy
      go_enter Tryd.func127, Tryd.ntmps127
      go_upto_region 1 with (fail)
      obtain ⟨v, hv⟩ : ∃ v, v = ((w.alloc (.cells #[.int .i64 a.n, .int .i64 a.d] 52)).alloc (.cells #[.int .i64 b.n, .int .i64 b.d] 52)) := ⟨_, rfl⟩
      rw [← hv]
      have E : Ext w v := by rw [hv]; exact ((Ext.refl _).alloc _).alloc _
      have B1 : Held v w.heap.size 52 #[.int .i64 a.n, .int .i64 a.d] := by rw [hv]; exact (Held.new _ _ _).alloc _
      have B2 : Held v (w.heap.size + 1) 52 #[.int .i64 b.n, .int .i64 b.d] := by rw [hv]; exact Held.at _ _ _ _ (by simp)
      clear hv
      obtain ⟨b2, hb2⟩ : ∃ b, b = w.heap.size + 1 := ⟨_, rfl⟩
      rw [← hb2] at B2 ⊢
      obtain ⟨b1, hb1⟩ : ∃ b, b = w.heap.size := ⟨_, rfl⟩
      rw [← hb1] at B1 ⊢
      have hbr : w.heap.size ≤ b2 := by omega
      have hbr1 : w.heap.size ≤ b1 := by omega
      have hn21 : b2 ≠ b1 := by omega
      clear hb1 hb2
      obtain ⟨k0, k1⟩ := B1.c2
      have lk := B1.lt
      obtain ⟨p0, p1⟩ := B2.c2
      have lp := B2.lt
      go_upto_region 3 with (first | (go_at_call 143; (with_reducible refine Calls.mono (NA _) ?_); rintro e w1 ⟨rfl, h1⟩; clear p0 p1 lp; obtain ⟨p0, p1⟩ := (B2.ext h1).c2; have lp := (B2.ext h1).lt) | (go_at_call 143; (with_reducible refine Calls.mono (NB _) ?_); rintro e w2 ⟨rfl, h⟩))
      replace E := (E.trans h1).trans h
      replace B1 := (B1.ext h1).ext h
      replace B2 := (B2.ext h1).ext h
      clear k0 k1 lk p0 p1 lp h h1
      obtain ⟨k0, k1⟩ := B1.c2
      have lk := B1.lt
      obtain ⟨p0, p1⟩ := B2.c2
      have lp := B2.lt
      have x1 := hx.out
      have y1 := hy.out
      refine wp_region_xw w2 mixed (by kernel_rfl) (by repeat (first | exact Ext.refl _ | (refine Ext.alloc ?_ _) | (refine Ext.trans ?_ (by assumption)))) ?_
      intro hne hrx hry
      try simp only []
      try simp only [List.append_eq, List.cons_append, List.nil_append]
      skip
      repeat (first
        | go_big_quiet_skip
        | (go_big_quiet_want; go_big_quiet_op; go_big_quiet_on))
      clear hne hry hrx
      refine wpQuiet_nil ?_
      intro w3 h3
      obtain ⟨hcw3, hfw3, hzw3⟩ := Ext.rules h3
      try simp only [World.size_alloc] at hzw3
      obtain ⟨hcbw3, hfbw3, hzbw3⟩ := Ext.rules (show Ext w2 w3 from (by repeat (first | exact Ext.refl _ | (refine Ext.alloc ?_ _) | (refine Ext.trans ?_ (by assumption)))))
      clear hcw3 hfw3
      clear x1 y1
      by_cases c1 : x < y
      · have g1 : decide (x < y) = true := decide_eq_true c1
        have hR : R = (-1, 0) := Prod.ext (by rw [hc.out.1, cmpS, if_pos c1]) hc.out.2
        subst hR
        clear c1 hc
        go_wp2
        go_ret2
        exact ⟨rfl, E.trans h3⟩
      · have g1 : decide (x < y) = false := decide_eq_false c1
        by_cases c2 : y < x
        · have g2 : decide (y < x) = true := decide_eq_true c2
          have hR : R = (1, 0) := Prod.ext (by rw [hc.out.1, cmpS, if_neg c1, if_pos c2]) hc.out.2
          subst hR
          clear c1 c2 hc
          go_wp2
          go_ret2
          exact ⟨rfl, E.trans h3⟩
        · have g2 : decide (y < x) = false := decide_eq_false c2
          have hR : R = (0, 0) := Prod.ext (by rw [hc.out.1, cmpS, if_neg c1, if_neg c2]) hc.out.2
          subst hR
          clear c1 c2 hc
          go_wp2
          go_ret2
          exact ⟨rfl, E.trans h3⟩


set_option maxRecDepth 100000 in
set_option maxHeartbeats 4000000 in
theorem wholeR_any (n : Int) (w : World) :
    Calls Tryd.prog 128 #[.int .i64 n] w fun e w' => e = .returned (.agg #[.int .i64 n, .int .i64 1]) ∧ Ext w w' := by
  go_enter Tryd.func128, Tryd.ntmps128
  go_wp2
  refine bodyPost_ret (v := .agg #[.int .i64 n, .int .i64 1]) (by simp [results, Tryd.results128, go_sem]) rfl ⟨rfl, (by repeat (first | exact Ext.refl _ | (refine Ext.alloc ?_ _) | (refine Ext.trans ?_ (by assumption))))⟩

theorem cmp_zero {r : Rt} (h : r.ok = true) : cmpR r (ratW 0) = (cmpS (r.n * 1) (0 * r.d), 0) := by
  unfold cmpR
  rw [h, whole_ok (by decide) (by decide)]
  rfl
theorem least_zero (r : Rt) : (decide ((cmpR r (ratW 0)).2 = 0) && decide (0 ≤ (cmpR r (ratW 0)).1)) = r.nn := by
  cases h : r.ok
  · unfold cmpR Rt.nn
    rw [h]; rfl
  · rw [cmp_zero h]
    unfold Rt.nn cmpS
    rw [h]
    simp only [Int.mul_one, Int.zero_mul, decide_true, Bool.true_and]
    by_cases h0 : r.n < 0
    · rw [if_pos h0, decide_eq_false (by omega), decide_eq_false (by omega)]
    · rw [if_neg h0, decide_eq_true (show 0 ≤ r.n by omega)]
      split <;> rfl

set_option maxRecDepth 100000 in
set_option maxHeartbeats 4000000 in
theorem atLeast_any (r : Rt) (hr : r.In) (w : World) :
    Calls Tryd.prog 104 #[.agg #[.int .i64 r.n, .int .i64 r.d], .int .i64 0] w fun e w' => e = .returned (.bool r.nn) ∧ Ext w w' := by
  have NW := fun w => wholeR_any 0 w
  have NC := fun w => cmpFR_any r (ratW 0) hr (by unfold Rt.In ratW; decide) w
  have HR := Lib.hid (least_zero r)
  generalize cmpR r (ratW 0) = P at *
  generalize r.nn = b at *
  obtain ⟨pc, pe⟩ := P
  simp only at NC HR
  go_enter Tryd.func104, Tryd.ntmps104
  go_upto_region 1 with (fail)
  obtain ⟨v, hv⟩ : ∃ v, v = (w.alloc (.cells #[.int .i64 r.n, .int .i64 r.d] 52)) := ⟨_, rfl⟩
  rw [← hv]
  have E : Ext w v := by rw [hv]; exact (Ext.refl _).alloc _
  have B1 : Held v w.heap.size 52 #[.int .i64 r.n, .int .i64 r.d] := by rw [hv]; exact (Held.new _ _ _)
  clear hv
  obtain ⟨b1, hb1⟩ : ∃ b, b = w.heap.size := ⟨_, rfl⟩
  rw [← hb1] at B1 ⊢
  have hbr : w.heap.size ≤ b1 := by omega
  clear hb1
  obtain ⟨k0, k1⟩ := B1.c2
  have lk := B1.lt
  have NC2 : ∀ w, Calls Tryd.prog 127 #[.agg #[.int .i64 r.n, .int .i64 r.d], .agg #[.int .i64 0, .int .i64 1]] w fun e w' => e = .returned (.tuple #[.int .i64 pc, .int .i64 pe]) ∧ Ext w w' := NC
  clear NC
  refine wp_region_xw v mixed (by kernel_rfl) (by repeat (first | exact Ext.refl _ | (refine Ext.alloc ?_ _) | (refine Ext.trans ?_ (by assumption)))) ?_
  intro hne hrx hry
  try simp only []
  try simp only [List.append_eq, List.cons_append, List.nil_append]
  skip
  repeat (first
    | go_big_quiet_skip
    | (go_big_quiet_want; go_big_quiet_op; go_big_quiet_on)
    | (go_big_quiet_want; go_big_quiet_op; apply Exists.intro; refine ⟨fun u => ?_, ?_⟩
       · first
           | (go_at_call 128; (with_reducible refine Calls.mono (NW _) ?_); rintro e w' ⟨rfl, hb⟩; exact ⟨rfl, u.back hb⟩)
           | (go_at_call 127; (with_reducible refine Calls.mono (NC2 _) ?_); rintro e w' ⟨rfl, hb⟩; exact ⟨rfl, u.back hb⟩)
       go_big_quiet_on))
  clear hne hry hrx
  refine wpQuiet_nil ?_
  intro v2 h2
  obtain ⟨hcv2, hfv2, hzv2⟩ := Ext.rules h2
  try simp only [World.size_alloc] at hzv2
  obtain ⟨hcbv2, hfbv2, hzbv2⟩ := Ext.rules (show Ext v v2 from (by repeat (first | exact Ext.refl _ | (refine Ext.alloc ?_ _) | (refine Ext.trans ?_ (by assumption)))))
  clear hcv2 hfv2
  clear k0 k1 lk B1 NC2 NW
  by_cases he : pe = 0
  · subst he
    by_cases hc : 0 ≤ pc
    · have g1 : decide (0 ≤ pc) = true := decide_eq_true hc
      have hb := HR.out
      rw [g1] at hb
      clear HR hc
      go_wp2
      go_ret
      exact ⟨by rw [← hb]; rfl, E.trans h2⟩
    · have g1 : decide (0 ≤ pc) = false := decide_eq_false hc
      have hb := HR.out
      rw [g1] at hb
      clear HR hc
      go_wp2
      go_ret
      exact ⟨by rw [← hb]; rfl, E.trans h2⟩
  · have g0 : (pe == 0) = false := beq_eq_false_iff_ne.2 he
    have hb := HR.out
    rw [decide_eq_false he] at hb
    clear HR he
    go_wp2
    go_ret
    exact ⟨by rw [← hb]; rfl, E.trans h2⟩

set_option maxRecDepth 100000 in
set_option maxHeartbeats 4000000 in
theorem rate_any (r : Rt) (hr : r.In) (w : World) :
    Calls Tryd.prog 60 #[.agg #[.int .i64 r.n, .int .i64 r.d]] w fun e w' => e = .returned (.bool r.shr) ∧ Ext w w' := by
  have NL := fun w => atLeast_any r hr w
  have HR : Hid (r.shr = (r.nn && decide (r.n ≤ r.d))) := rfl
  generalize r.nn = b at *
  generalize r.shr = c at *
  go_enter Tryd.func60, Tryd.ntmps60
  go_upto_region 1 with (fail)
  obtain ⟨v, hv⟩ : ∃ v, v = (w.alloc (.cells #[.int .i64 r.n, .int .i64 r.d] 52)) := ⟨_, rfl⟩
  rw [← hv]
  have E : Ext w v := by rw [hv]; exact (Ext.refl _).alloc _
  have B1 : Held v w.heap.size 52 #[.int .i64 r.n, .int .i64 r.d] := by rw [hv]; exact (Held.new _ _ _)
  clear hv
  obtain ⟨b1, hb1⟩ : ∃ b, b = w.heap.size := ⟨_, rfl⟩
  rw [← hb1] at B1 ⊢
  have hbr : w.heap.size ≤ b1 := by omega
  clear hb1
  obtain ⟨k0, k1⟩ := B1.c2
  have lk := B1.lt
  cases b
  · have hb := HR.out
    clear HR
    subst hb
    go_wp2_with (go_at_call 104; (with_reducible refine Calls.mono (NL _) ?_); rintro e w2 ⟨rfl, h2⟩; clear k0 k1 lk; obtain ⟨k0, k1⟩ := (B1.ext h2).c2; have lk := (B1.ext h2).lt)
    go_ret
    exact ⟨rfl, E.trans h2⟩
  · have hb := HR.out
    clear HR
    rw [Bool.true_and] at hb
    subst hb
    go_wp2_with (go_at_call 104; (with_reducible refine Calls.mono (NL _) ?_); rintro e w2 ⟨rfl, h2⟩; clear k0 k1 lk; obtain ⟨k0, k1⟩ := (B1.ext h2).c2; have lk := (B1.ext h2).lt)
    go_ret
    exact ⟨rfl, E.trans h2⟩

end Go.Proofs.YtlnjeklmkjgidaaDoor

