/- alike of the laws (periods). -/
import Derived.Test.YtneiofnlmblglaaDoorU10
import Derived.Test.YtneiofnlmblglaaDoorU11
set_option maxRecDepth 100000
set_option maxHeartbeats 4000000
namespace Go.Proofs.YtneiofnlmblglaaDoor
open Go Go.RowKit Go.Shelf
attribute [local go_sem] Zi
attribute [local go_sem high] Py
theorem sameT_any (v1 v2 : Value) (a : List Lt) (w : World) (h1 : Zf w v1 a) (h2 : Zf w v2 a) :
  Calls Tryd.prog 14 #[v1, v2] w fun e w' => e = .returned (.bool true) ∧ Qa w w' := by
 have h := Bi v1 v2 a a w h1 h2
 rw [decide_eq_true rfl] at h
 exact h
theorem alike_any (p : Pd) (vo1 vd1 vc1 vo2 vd2 vc2 : Value) (w : World) (hP1 : Zv w p vo1 vd1 vc1) (hP2 : Zv w p vo2 vd2 vc2) :
  Calls Tryd.prog 15 #[.agg #[.string p.h, .int .i64 p.a.y, .int .i64 p.a.m, .bool p.a.s, .int .i64 p.a.d, .int .i64 p.b.y, .int .i64 p.b.m, .bool p.b.s, .int .i64 p.b.d, vo1, vd1, vc1], .agg #[.string p.h, .int .i64 p.a.y, .int .i64 p.a.m, .bool p.a.s, .int .i64 p.a.d, .int .i64 p.b.y, .int .i64 p.b.m, .bool p.b.s, .int .i64 p.b.d, vo2, vd2, vc2]] w fun e w' => e = .returned (.bool true) ∧ Qa w w' := by
 obtain ⟨T1, c1, rfl, _⟩ := id hP1.o
 obtain ⟨S1, f1, rfl, _⟩ := id hP1.c
 obtain ⟨D1, e1, vs1, rfl, hD1, hcap1, hmax1, _, hat1⟩ := id hP1.d
 obtain ⟨T2, c2, rfl, _⟩ := id hP2.o
 obtain ⟨S2, f2, rfl, _⟩ := id hP2.c
 obtain ⟨D2, e2, vs2, rfl, hD2, hcap2, hmax2, _, hat2⟩ := id hP2.d
 have hn : p.d.length ≤ 9223372036854775807 := Nat.le_trans hcap1 (Nat.le_trans hmax1 (by decide))
 clear hcap1 hmax1 hcap2 hmax2
 have NSO := fun w h1 h2 => sameT_any (.slice T1 p.o.length c1) (.slice T2 p.o.length c2) p.o w h1 h2
 have NSC := fun w h1 h2 => sameT_any (.slice S1 p.c.length f1) (.slice S2 p.c.length f2) p.c w h1 h2
 go_enter Tryd.func15, Tryd.ntmps15
 go_upto_region 1 with (fail)
 obtain ⟨v, hv⟩ := Qg ((w.alloc (.cells #[.string p.h, .int .i64 p.a.y, .int .i64 p.a.m, .bool p.a.s, .int .i64 p.a.d, .int .i64 p.b.y, .int .i64 p.b.m, .bool p.b.s, .int .i64 p.b.d, .slice T1 p.o.length c1, .slice D1 p.d.length e1, .slice S1 p.c.length f1] 31)).alloc (.cells #[.string p.h, .int .i64 p.a.y, .int .i64 p.a.m, .bool p.a.s, .int .i64 p.a.d, .int .i64 p.b.y, .int .i64 p.b.m, .bool p.b.s, .int .i64 p.b.d, .slice T2 p.o.length c2, .slice D2 p.d.length e2, .slice S2 p.c.length f2] 31))
 rw [← hv]
 have E : Qa w v := by rw [hv]; exact ((Qa.refl _).alloc _).alloc _
 have B1 : Qb v w.heap.size 31 #[.string p.h, .int .i64 p.a.y, .int .i64 p.a.m, .bool p.a.s, .int .i64 p.a.d, .int .i64 p.b.y, .int .i64 p.b.m, .bool p.b.s, .int .i64 p.b.d, .slice T1 p.o.length c1, .slice D1 p.d.length e1, .slice S1 p.c.length f1] := by rw [hv]; exact (Qb.new _ _ _).alloc _
 have B2 : Qb v (w.heap.size + 1) 31 #[.string p.h, .int .i64 p.a.y, .int .i64 p.a.m, .bool p.a.s, .int .i64 p.a.d, .int .i64 p.b.y, .int .i64 p.b.m, .bool p.b.s, .int .i64 p.b.d, .slice T2 p.o.length c2, .slice D2 p.d.length e2, .slice S2 p.c.length f2] := by rw [hv]; exact Qb.at _ _ _ _ (by simp)
 clear hv
 obtain ⟨b2, hb2⟩ := Qg (w.heap.size + 1)
 rw [← hb2] at B2 ⊢
 obtain ⟨b1, hb1⟩ := Qg (w.heap.size)
 rw [← hb1] at B1 ⊢
 have hbr : w.heap.size ≤ b2 := by omega
 have hbr1 : w.heap.size ≤ b1 := by omega
 have hn21 : b2 ≠ b1 := by omega
 clear hb1 hb2
 have Q1 := hP1.ext E
 have Q2 := hP2.ext E
 clear hP1 hP2
 obtain ⟨j0, j1, j2, j3, j4, j5, j6, j7, j8, j9, j10, j11⟩ := B1.c12
 have jl := B1.lt
 obtain ⟨k0, k1, k2, k3, k4, k5, k6, k7, k8, k9, k10, k11⟩ := B2.c12
 have kl := B2.lt
 go_upto_region 3 with (first | (go_at_call 14; (with_reducible refine Calls.mono (NSO _ Q1.o Q2.o) ?_); rintro e w1 ⟨rfl, hx⟩; replace E := E.trans hx; replace Q1 := Q1.ext hx; replace Q2 := Q2.ext hx; replace B1 := B1.ext hx; replace B2 := B2.ext hx; clear hx; clear j0 j1 j2 j3 j4 j5 j6 j7 j8 j9 j10 j11 jl k0 k1 k2 k3 k4 k5 k6 k7 k8 k9 k10 k11 kl; obtain ⟨j0, j1, j2, j3, j4, j5, j6, j7, j8, j9, j10, j11⟩ := B1.c12; have jl := B1.lt; obtain ⟨k0, k1, k2, k3, k4, k5, k6, k7, k8, k9, k10, k11⟩ := B2.c12; have kl := B2.lt) | (go_at_call 14; (with_reducible refine Calls.mono (NSC _ Q1.c Q2.c) ?_); rintro e w2 ⟨rfl, hx⟩; replace E := E.trans hx; replace Q1 := Q1.ext hx; replace Q2 := Q2.ext hx; replace B1 := B1.ext hx; replace B2 := B2.ext hx; clear hx; clear j0 j1 j2 j3 j4 j5 j6 j7 j8 j9 j10 j11 jl k0 k1 k2 k3 k4 k5 k6 k7 k8 k9 k10 k11 kl; obtain ⟨j0, j1, j2, j3, j4, j5, j6, j7, j8, j9, j10, j11⟩ := B1.c12; have jl := B1.lt; obtain ⟨k0, k1, k2, k3, k4, k5, k6, k7, k8, k9, k10, k11⟩ := B2.c12; have kl := B2.lt))
 clear NSO NSC
 obtain ⟨g, hg⟩ := Qg (fun i => p.d.getD i Qv)
 have hg' : ∀ i, p.d.getD i Qv = g i := fun i => by rw [hg]
 simp only [hg'] at hD1 hat1 hD2 hat2
 clear hg hg' Q1 Q2
 replace hD1 := hD1.ext E
 replace hD2 := hD2.ext E
 generalize p.d.length = n at *
 replace hat1 := Lib.hid (fun i hi => (hat1 i hi).ext E)
 replace hat2 := Lib.hid (fun i hi => (hat2 i hi).ext E)
 go_upto_region 4 with (fail)
 go_loopw [5] (fun iv wr => ∃ k : Nat, k ≤ n ∧ iv = .int .i64 k ∧ Qa w2 wr) (fun iv _ => n - (intOf iv).toNat)
 case atStart => exact ⟨0, Nat.zero_le _, rfl, Qa.refl _⟩
 case round =>
  obtain ⟨k, hk, rfl, hE⟩ := hrel
  obtain ⟨wo, rfl⟩ := Qg wr
  clear j0 j1 j2 j3 j4 j5 j6 j7 j8 j9 j10 j11 jl k0 k1 k2 k3 k4 k5 k6 k7 k8 k9 k10 k11 kl
  have B1o := B1.ext hE
  have B2o := B2.ext hE
  obtain ⟨j0, j1, j2, j3, j4, j5, j6, j7, j8, j9, j10, j11⟩ := Qb.c12 B1o
  have jl := Qb.lt B1o
  obtain ⟨k0, k1, k2, k3, k4, k5, k6, k7, k8, k9, k10, k11⟩ := Qb.c12 B2o
  have kl := Qb.lt B2o
  by_cases hlt : k < n
  ·obtain ⟨b, off, rfl, hb, hc⟩ := (hD1.ext hE) (by omega)
   have c0 : wo.cell? ⟨b, off + k * 7, none⟩ = some (.int .i64 (g k).on.y) := by simpa [Qu] using hc k 0 _ hlt rfl
   have c1 : wo.cell? ⟨b, off + k * 7 + 1, none⟩ = some (.int .i64 (g k).on.m) := by simpa [Qu] using hc k 1 _ hlt rfl
   have c2 : wo.cell? ⟨b, off + k * 7 + 2, none⟩ = some (.bool (g k).on.s) := by simpa [Qu] using hc k 2 _ hlt rfl
   have c3 : wo.cell? ⟨b, off + k * 7 + 3, none⟩ = some (.int .i64 (g k).on.d) := by simpa [Qu] using hc k 3 _ hlt rfl
   have c4 : wo.cell? ⟨b, off + k * 7 + 4, none⟩ = some (.bool (g k).i) := by simpa [Qu] using hc k 4 _ hlt rfl
   have c5 : wo.cell? ⟨b, off + k * 7 + 5, none⟩ = some (.string (g k).w) := by simpa [Qu] using hc k 5 _ hlt rfl
   have c6 : wo.cell? ⟨b, off + k * 7 + 6, none⟩ = some (vs1 k) := by simpa [Qu] using hc k 6 _ hlt rfl
   clear hc
   obtain ⟨b', off', rfl, hb', hc⟩ := (hD2.ext hE) (by omega)
   have d0 : wo.cell? ⟨b', off' + k * 7, none⟩ = some (.int .i64 (g k).on.y) := by simpa [Qu] using hc k 0 _ hlt rfl
   have d1 : wo.cell? ⟨b', off' + k * 7 + 1, none⟩ = some (.int .i64 (g k).on.m) := by simpa [Qu] using hc k 1 _ hlt rfl
   have d2 : wo.cell? ⟨b', off' + k * 7 + 2, none⟩ = some (.bool (g k).on.s) := by simpa [Qu] using hc k 2 _ hlt rfl
   have d3 : wo.cell? ⟨b', off' + k * 7 + 3, none⟩ = some (.int .i64 (g k).on.d) := by simpa [Qu] using hc k 3 _ hlt rfl
   have d4 : wo.cell? ⟨b', off' + k * 7 + 4, none⟩ = some (.bool (g k).i) := by simpa [Qu] using hc k 4 _ hlt rfl
   have d5 : wo.cell? ⟨b', off' + k * 7 + 5, none⟩ = some (.string (g k).w) := by simpa [Qu] using hc k 5 _ hlt rfl
   have d6 : wo.cell? ⟨b', off' + k * 7 + 6, none⟩ = some (vs2 k) := by simpa [Qu] using hc k 6 _ hlt rfl
   clear hc
   have L1 := (hat1.out k hlt).ext hE
   have L2 := (hat2.out k hlt).ext hE
   obtain ⟨VL1, hv1⟩ := Qg (vs1 k)
   obtain ⟨VL2, hv2⟩ := Qg (vs2 k)
   rw [← hv1] at c6 L1
   rw [← hv2] at d6 L2
   clear hv1 hv2 hat1 hat2 hD1 hD2
   generalize g k = G at *
   obtain ⟨TL1, cl1, hVL, _⟩ := id L1
   subst hVL
   obtain ⟨TL2, cl2, hVL, _⟩ := id L2
   subst hVL
   have NSL := fun w h1 h2 => sameT_any (.slice TL1 G.l.length cl1) (.slice TL2 G.l.length cl2) G.l w h1 h2
   go_upto_region 6 with (fail)
   clear j0 j1 j2 j3 j4 j5 j6 j7 j8 j9 j10 j11 jl k0 k1 k2 k3 k4 k5 k6 k7 k8 k9 k10 k11 kl
   apply W9 (S := fun w' p1 p2 => Qa wo w' ∧ p1 ≠ p2 ∧ Qb w' p1 67 #[.int .i64 G.on.y, .int .i64 G.on.m, .bool G.on.s, .int .i64 G.on.d, .bool G.i, .string G.w, .slice TL1 G.l.length cl1] ∧ Qb w' p2 67 #[.int .i64 G.on.y, .int .i64 G.on.m, .bool G.on.s, .int .i64 G.on.d, .bool G.i, .string G.w, .slice TL2 G.l.length cl2])
   ·refine Q5 14 [13] (fun x => Qa wo x) Qr rfl ?_
    intro vz hvz
    have HC := hvz
    refine Qp (g := 4) [0, 1, 2, 3, 4, 5, 6, 7, 8, 9] [_, _, _, _, _, _, _, _, _, _] ⟨rfl, rfl, rfl, rfl, rfl, rfl, rfl, rfl, rfl, rfl, trivial⟩ (by kernel_rfl) (by kernel_rfl) HC ?_
    simp only [Qd, Qe, Qf]
    apply Exists.intro
    refine ⟨fun u hu => ?_, ?_⟩
    ·obtain ⟨j0, j1, j2, j3, j4, j5, j6, j7, j8, j9, j10, j11⟩ := Qb.c12 (Qb.ext B1o hu)
     have jl := Qb.lt (Qb.ext B1o hu)
     obtain ⟨k0, k1, k2, k3, k4, k5, k6, k7, k8, k9, k10, k11⟩ := Qb.c12 (Qb.ext B2o hu)
     have kl := Qb.lt (Qb.ext B2o hu)
     have r0 := (hu.cell (p := ⟨b, off + k * 7, none⟩) hb).trans c0
     have r1 := (hu.cell (p := ⟨b, off + k * 7 + 1, none⟩) hb).trans c1
     have r2 := (hu.cell (p := ⟨b, off + k * 7 + 2, none⟩) hb).trans c2
     have r3 := (hu.cell (p := ⟨b, off + k * 7 + 3, none⟩) hb).trans c3
     have r4 := (hu.cell (p := ⟨b, off + k * 7 + 4, none⟩) hb).trans c4
     have r5 := (hu.cell (p := ⟨b, off + k * 7 + 5, none⟩) hb).trans c5
     have r6 := (hu.cell (p := ⟨b, off + k * 7 + 6, none⟩) hb).trans c6
     have s0 := (hu.cell (p := ⟨b', off' + k * 7, none⟩) hb').trans d0
     have s1 := (hu.cell (p := ⟨b', off' + k * 7 + 1, none⟩) hb').trans d1
     have s2 := (hu.cell (p := ⟨b', off' + k * 7 + 2, none⟩) hb').trans d2
     have s3 := (hu.cell (p := ⟨b', off' + k * 7 + 3, none⟩) hb').trans d3
     have s4 := (hu.cell (p := ⟨b', off' + k * 7 + 4, none⟩) hb').trans d4
     have s5 := (hu.cell (p := ⟨b', off' + k * 7 + 5, none⟩) hb').trans d5
     have s6 := (hu.cell (p := ⟨b', off' + k * 7 + 6, none⟩) hb').trans d6
     have hbu := Nat.lt_of_lt_of_le hb hu.size
     have hbu' := Nat.lt_of_lt_of_le hb' hu.size
     repeat (first | go_big_quiet_skip | (go_big_quiet_want; go_big_quiet_op; go_big_quiet_on))
     refine wpQuiet_nil ?_
     rfl
    refine Zn 10 11 rfl rfl (by kernel_rfl) ?_ ?_
    ·simp only [Qd, Qe, Qf]
     go_wp2
     obtain ⟨p1, wb, hbq, hwb, H10, HC', hx, gp1⟩ := Q0 HC 67 #[.int .i64 0, .int .i64 0, .bool false, .int .i64 0, .bool false, .string ⟨#[]⟩, .slice none 0 0]
     rw [← hbq, ← hwb]
     try have ne : p2 < p1 := by have := H11.lt; omega
     replace HC := HC'
     try replace H11 := H11.ext hx
     clear hbq hwb hx HC'
     refine Qi HC ?_
     refine Qj 11 rfl (by kernel_rfl) ?_
     simp only [Qd, Qe, Qf]
     go_wp2
     obtain ⟨p2, wb, hbq, hwb, H11, HC', hx, gp2⟩ := Q0 HC 67 #[.int .i64 0, .int .i64 0, .bool false, .int .i64 0, .bool false, .string ⟨#[]⟩, .slice none 0 0]
     rw [← hbq, ← hwb]
     try have ne : p1 < p2 := by have := H10.lt; omega
     replace HC := HC'
     try replace H10 := H10.ext hx
     clear hbq hwb hx HC'
     refine Qi HC ?_
     refine Qj 12 rfl (by kernel_rfl) ?_
     simp only [Qd, Qe, Qf]
     have z0 := Qb.frozen H10 0
     have z1 := Qb.frozen H10 1
     have z2 := Qb.frozen H10 2
     have z3 := Qb.frozen H10 3
     have z4 := Qb.frozen H10 4
     have z5 := Qb.frozen H10 5
     have z6 := Qb.frozen H10 6
     obtain ⟨x0, x1, x2, x3, x4, x5, x6⟩ := Vr H10
     have lx := Qb.lt H10
     go_wp2
     have Hn := L7 H10 (.int .i64 G.on.y) (.int .i64 G.on.m) (.bool G.on.s) (.int .i64 G.on.d) (.bool G.i) (.string G.w) (.slice TL1 G.l.length cl1)
     try have On := Mt H11 (show p2 ≠ p1 by omega) (.int .i64 G.on.y) (.int .i64 G.on.m) (.bool G.on.s) (.int .i64 G.on.d) (.bool G.i) (.string G.w) (.slice TL1 G.l.length cl1)
     replace HC := Lv HC gp1 (.int .i64 G.on.y) (.int .i64 G.on.m) (.bool G.on.s) (.int .i64 G.on.d) (.bool G.i) (.string G.w) (.slice TL1 G.l.length cl1)
     clear H10 z0 z1 z2 z3 z4 z5 z6 x0 x1 x2 x3 x4 x5 x6 lx
     have H10 := Hn
     try (replace H11 := On; clear On)
     clear Hn
     generalize World.setCell _ _ _ = wq at *
     refine Qi HC ?_
     refine Qn 13 rfl (by kernel_rfl) ?_
     simp only [Qd, Qe, Qf]
     have z0 := Qb.frozen H11 0
     have z1 := Qb.frozen H11 1
     have z2 := Qb.frozen H11 2
     have z3 := Qb.frozen H11 3
     have z4 := Qb.frozen H11 4
     have z5 := Qb.frozen H11 5
     have z6 := Qb.frozen H11 6
     obtain ⟨x0, x1, x2, x3, x4, x5, x6⟩ := Vr H11
     have lx := Qb.lt H11
     go_wp2
     have Hn := L7 H11 (.int .i64 G.on.y) (.int .i64 G.on.m) (.bool G.on.s) (.int .i64 G.on.d) (.bool G.i) (.string G.w) (.slice TL2 G.l.length cl2)
     try have On := Mt H10 (show p1 ≠ p2 by omega) (.int .i64 G.on.y) (.int .i64 G.on.m) (.bool G.on.s) (.int .i64 G.on.d) (.bool G.i) (.string G.w) (.slice TL2 G.l.length cl2)
     replace HC := Lv HC gp2 (.int .i64 G.on.y) (.int .i64 G.on.m) (.bool G.on.s) (.int .i64 G.on.d) (.bool G.i) (.string G.w) (.slice TL2 G.l.length cl2)
     clear H11 z0 z1 z2 z3 z4 z5 z6 x0 x1 x2 x3 x4 x5 x6 lx
     have H11 := Hn
     try (replace H10 := On; clear On)
     clear Hn
     generalize World.setCell _ _ _ = wq at *
     refine Qm ?_
     refine Qt (by kernel_rfl) ?_
     exact Ja p1 p2 ⟨HC, by omega, H10, H11⟩ rfl
    ·simp only [Qd, Qe, Qf]
     go_wp2
     obtain ⟨p2, wb, hbq, hwb, H11, HC', hx, gp2⟩ := Q0 HC 67 #[.int .i64 0, .int .i64 0, .bool false, .int .i64 0, .bool false, .string ⟨#[]⟩, .slice none 0 0]
     rw [← hbq, ← hwb]
     try have ne : p1 < p2 := by have := H10.lt; omega
     replace HC := HC'
     try replace H10 := H10.ext hx
     clear hbq hwb hx HC'
     refine Qi HC ?_
     refine Qj 10 rfl (by kernel_rfl) ?_
     simp only [Qd, Qe, Qf]
     go_wp2
     obtain ⟨p1, wb, hbq, hwb, H10, HC', hx, gp1⟩ := Q0 HC 67 #[.int .i64 0, .int .i64 0, .bool false, .int .i64 0, .bool false, .string ⟨#[]⟩, .slice none 0 0]
     rw [← hbq, ← hwb]
     try have ne : p2 < p1 := by have := H11.lt; omega
     replace HC := HC'
     try replace H11 := H11.ext hx
     clear hbq hwb hx HC'
     refine Qi HC ?_
     refine Qj 12 rfl (by kernel_rfl) ?_
     simp only [Qd, Qe, Qf]
     have z0 := Qb.frozen H10 0
     have z1 := Qb.frozen H10 1
     have z2 := Qb.frozen H10 2
     have z3 := Qb.frozen H10 3
     have z4 := Qb.frozen H10 4
     have z5 := Qb.frozen H10 5
     have z6 := Qb.frozen H10 6
     obtain ⟨x0, x1, x2, x3, x4, x5, x6⟩ := Vr H10
     have lx := Qb.lt H10
     go_wp2
     have Hn := L7 H10 (.int .i64 G.on.y) (.int .i64 G.on.m) (.bool G.on.s) (.int .i64 G.on.d) (.bool G.i) (.string G.w) (.slice TL1 G.l.length cl1)
     try have On := Mt H11 (show p2 ≠ p1 by omega) (.int .i64 G.on.y) (.int .i64 G.on.m) (.bool G.on.s) (.int .i64 G.on.d) (.bool G.i) (.string G.w) (.slice TL1 G.l.length cl1)
     replace HC := Lv HC gp1 (.int .i64 G.on.y) (.int .i64 G.on.m) (.bool G.on.s) (.int .i64 G.on.d) (.bool G.i) (.string G.w) (.slice TL1 G.l.length cl1)
     clear H10 z0 z1 z2 z3 z4 z5 z6 x0 x1 x2 x3 x4 x5 x6 lx
     have H10 := Hn
     try (replace H11 := On; clear On)
     clear Hn
     generalize World.setCell _ _ _ = wq at *
     refine Qi HC ?_
     refine Qn 13 rfl (by kernel_rfl) ?_
     simp only [Qd, Qe, Qf]
     have z0 := Qb.frozen H11 0
     have z1 := Qb.frozen H11 1
     have z2 := Qb.frozen H11 2
     have z3 := Qb.frozen H11 3
     have z4 := Qb.frozen H11 4
     have z5 := Qb.frozen H11 5
     have z6 := Qb.frozen H11 6
     obtain ⟨x0, x1, x2, x3, x4, x5, x6⟩ := Vr H11
     have lx := Qb.lt H11
     go_wp2
     have Hn := L7 H11 (.int .i64 G.on.y) (.int .i64 G.on.m) (.bool G.on.s) (.int .i64 G.on.d) (.bool G.i) (.string G.w) (.slice TL2 G.l.length cl2)
     try have On := Mt H10 (show p1 ≠ p2 by omega) (.int .i64 G.on.y) (.int .i64 G.on.m) (.bool G.on.s) (.int .i64 G.on.d) (.bool G.i) (.string G.w) (.slice TL2 G.l.length cl2)
     replace HC := Lv HC gp2 (.int .i64 G.on.y) (.int .i64 G.on.m) (.bool G.on.s) (.int .i64 G.on.d) (.bool G.i) (.string G.w) (.slice TL2 G.l.length cl2)
     clear H11 z0 z1 z2 z3 z4 z5 z6 x0 x1 x2 x3 x4 x5 x6 lx
     have H11 := Hn
     try (replace H10 := On; clear On)
     clear Hn
     generalize World.setCell _ _ _ = wq at *
     refine Qm ?_
     refine Qt (by kernel_rfl) ?_
     exact Ja p1 p2 ⟨HC, by omega, H10, H11⟩ rfl
   rintro p1 p2 w3 ⟨h3, ne, H10, H11⟩
   replace L1 := L1.ext h3
   replace L2 := L2.ext h3
   clear c0 c1 c2 c3 c4 c5 c6 d0 d1 d2 d3 d4 d5 d6 hb hb'
   obtain ⟨x0, x1, x2, x3, x4, x5, x6⟩ := Vr H10
   have xl := Qb.lt H10
   obtain ⟨y0, y1, y2, y3, y4, y5, y6⟩ := Vr H11
   have yl := Qb.lt H11
   go_wp2_with (go_at_call 14; (with_reducible refine Calls.mono (NSL _ L1 L2) ?_); rintro e w4 ⟨rfl, h4⟩)
   exact ⟨⟨k + 1, by omega, by go_num, (hE.trans h3).trans h4⟩, by simp [intOf]; omega⟩
  ·obtain rfl : k = n := by omega
   go_wp2
   go_ret
   exact ⟨rfl, E.trans hE⟩
end Go.Proofs.YtneiofnlmblglaaDoor