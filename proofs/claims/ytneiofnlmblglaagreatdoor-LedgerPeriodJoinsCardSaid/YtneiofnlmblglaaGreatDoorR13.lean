/- Walks of the program's functions and plain facts, packed; proved: the lemmas below; no conditions but those that each states. -/
import Derived.Test.YtneiofnlmblglaaGreatDoorR12
import Derived.Test.YtneiofnlmblglaaGreatDoorR7
import Derived.Test.YtneiofnlmblglaaGreatDoorR10
import Derived.Test.YtneiofnlmblglaaGreatDoorR11
import Derived.Test.YtneiofnlmblglaaGreatDoorR9
import Derived.Test.YtneiofnlmblglaaGreatDoorR8
set_option maxRecDepth 100000
set_option maxHeartbeats 4000000
namespace Go.Proofs.YtneiofnlmblglaaGreatDoor
section
open Go Go.RowKit Go.Shelf
attribute [local go_sem] Zs
attribute [local go_sem high] Qar
theorem K9 {W : World} {b : Nat} {t : TypeId} {v0 v1 v2 v3 v4 v5 v6 : Value} (h : Qb W b t #[v0, v1, v2, v3, v4, v5, v6]) (u0 u1 u2 u3 u4 u5 u6 : Value) : Qb (((((((W.setCell ⟨b, 0, none⟩ u0).setCell ⟨b, 1, none⟩ u1).setCell ⟨b, 2, none⟩ u2).setCell ⟨b, 3, none⟩ u3).setCell ⟨b, 4, none⟩ u4).setCell ⟨b, 5, none⟩ u5).setCell ⟨b, 6, none⟩ u6) b t #[u0, u1, u2, u3, u4, u5, u6] := by unfold Qb at h ⊢; simp [World.setCell, Array.getElem?_modify, h]
theorem K4 {w W : World} {b : Nat} (h : Qa w W) (hb : w.heap.size ≤ b) (u0 u1 u2 u3 u4 u5 u6 : Value) : Qa w (((((((W.setCell ⟨b, 0, none⟩ u0).setCell ⟨b, 1, none⟩ u1).setCell ⟨b, 2, none⟩ u2).setCell ⟨b, 3, none⟩ u3).setCell ⟨b, 4, none⟩ u4).setCell ⟨b, 5, none⟩ u5).setCell ⟨b, 6, none⟩ u6) := (((((((h.setCell (p := ⟨b, 0, none⟩) hb u0).setCell (p := ⟨b, 1, none⟩) hb u1).setCell (p := ⟨b, 2, none⟩) hb u2).setCell (p := ⟨b, 3, none⟩) hb u3).setCell (p := ⟨b, 4, none⟩) hb u4).setCell (p := ⟨b, 5, none⟩) hb u5).setCell (p := ⟨b, 6, none⟩) hb u6)
theorem Lv {W : World} {b b' : Nat} {t : TypeId} {cs : Array Value} (h : Qb W b' t cs) (hne : b' ≠ b) (u0 u1 u2 u3 u4 u5 u6 : Value) : Qb (((((((W.setCell ⟨b, 0, none⟩ u0).setCell ⟨b, 1, none⟩ u1).setCell ⟨b, 2, none⟩ u2).setCell ⟨b, 3, none⟩ u3).setCell ⟨b, 4, none⟩ u4).setCell ⟨b, 5, none⟩ u5).setCell ⟨b, 6, none⟩ u6) b' t cs := (Qh (Qh (Qh (Qh (Qh (Qh (Qh h hne 0 u0) hne 1 u1) hne 2 u2) hne 3 u3) hne 4 u4) hne 5 u5) hne 6 u6)
theorem Qb6 (p : Pd) (vo1 vd1 vc1 vo2 vd2 vc2 : Value) (w : World) (hP1 : Zz w p vo1 vd1 vc1) (hP2 : Zz w p vo2 vd2 vc2) :
  Calls Tryz.prog 14 #[.agg #[.string p.h, .int .i64 p.a.y, .int .i64 p.a.m, .bool p.a.s, .int .i64 p.a.d, .int .i64 p.b.y, .int .i64 p.b.m, .bool p.b.s, .int .i64 p.b.d, vo1, vd1, vc1], .agg #[.string p.h, .int .i64 p.a.y, .int .i64 p.a.m, .bool p.a.s, .int .i64 p.a.d, .int .i64 p.b.y, .int .i64 p.b.m, .bool p.b.s, .int .i64 p.b.d, vo2, vd2, vc2]] w fun e w' => e = .returned (.bool true) ∧ Qa w w' := by
 obtain ⟨T1, c1, rfl, _⟩ := id hP1.o
 obtain ⟨S1, f1, rfl, _⟩ := id hP1.c
 obtain ⟨D1, e1, vs1, rfl, hD1, hcap1, hmax1, _, hat1⟩ := id hP1.d
 obtain ⟨T2, c2, rfl, _⟩ := id hP2.o
 obtain ⟨S2, f2, rfl, _⟩ := id hP2.c
 obtain ⟨D2, e2, vs2, rfl, hD2, hcap2, hmax2, _, hat2⟩ := id hP2.d
 have hn : p.d.length ≤ 9223372036854775807 := Nat.le_trans hcap1 (Nat.le_trans hmax1 (by decide))
 clear hcap1 hmax1 hcap2 hmax2
 have NSO := fun w h1 h2 => Oz (.slice T1 p.o.length c1) (.slice T2 p.o.length c2) p.o w h1 h2
 have NSC := fun w h1 h2 => Oz (.slice S1 p.c.length f1) (.slice S2 p.c.length f2) p.c w h1 h2
 go_enter Tryz.func14, Tryz.ntmps14
 go_upto_region 1 with (fail)
 obtain ⟨v, hv⟩ := Qg ((w.alloc (.cells #[.string p.h, .int .i64 p.a.y, .int .i64 p.a.m, .bool p.a.s, .int .i64 p.a.d, .int .i64 p.b.y, .int .i64 p.b.m, .bool p.b.s, .int .i64 p.b.d, .slice T1 p.o.length c1, .slice D1 p.d.length e1, .slice S1 p.c.length f1] 31)).alloc (.cells #[.string p.h, .int .i64 p.a.y, .int .i64 p.a.m, .bool p.a.s, .int .i64 p.a.d, .int .i64 p.b.y, .int .i64 p.b.m, .bool p.b.s, .int .i64 p.b.d, .slice T2 p.o.length c2, .slice D2 p.d.length e2, .slice S2 p.c.length f2] 31))
 rw [← hv]
 have E : Qa w v := by rw [hv]; exact ((Qa.refl _).alloc _).alloc _
 have B1 : Qb v w.heap.size 31 #[.string p.h, .int .i64 p.a.y, .int .i64 p.a.m, .bool p.a.s, .int .i64 p.a.d, .int .i64 p.b.y, .int .i64 p.b.m, .bool p.b.s, .int .i64 p.b.d, .slice T1 p.o.length c1, .slice D1 p.d.length e1, .slice S1 p.c.length f1] := by rw [hv]; exact (Qb.new _ _ _).alloc _
 have B2 : Qb v (w.heap.size + 1) 31 #[.string p.h, .int .i64 p.a.y, .int .i64 p.a.m, .bool p.a.s, .int .i64 p.a.d, .int .i64 p.b.y, .int .i64 p.b.m, .bool p.b.s, .int .i64 p.b.d, .slice T2 p.o.length c2, .slice D2 p.d.length e2, .slice S2 p.c.length f2] := by rw [hv]; exact Qb.at _ _ _ _ (by simp)
 clear hv
 obtain ⟨b2, hb2⟩ := Qg (w.heap.size + 1)
 rw [← hb2] at B2 ⊢
 obtain ⟨b1, hb1⟩ := Qg (w.heap.size)
 rw [← hb1] at B1 ⊢
 have hbr : w.heap.size ≤ b2 := by omega
 have hbr1 : w.heap.size ≤ b1 := by omega
 have hn21 : b2 ≠ b1 := by omega
 clear hb1 hb2
 have Q1 := hP1.ext E
 have Q2 := hP2.ext E
 clear hP1 hP2
 obtain ⟨j0, j1, j2, j3, j4, j5, j6, j7, j8, j9, j10, j11⟩ := B1.c12
 have jl := B1.lt
 obtain ⟨k0, k1, k2, k3, k4, k5, k6, k7, k8, k9, k10, k11⟩ := B2.c12
 have kl := B2.lt
 go_upto_region 3 with (first | (go_at_call 13; (with_reducible refine Calls.mono (NSO _ Q1.o Q2.o) ?_); rintro e w1 ⟨rfl, hx⟩; replace E := E.trans hx; replace Q1 := Q1.ext hx; replace Q2 := Q2.ext hx; replace B1 := B1.ext hx; replace B2 := B2.ext hx; clear hx; clear j0 j1 j2 j3 j4 j5 j6 j7 j8 j9 j10 j11 jl k0 k1 k2 k3 k4 k5 k6 k7 k8 k9 k10 k11 kl; obtain ⟨j0, j1, j2, j3, j4, j5, j6, j7, j8, j9, j10, j11⟩ := B1.c12; have jl := B1.lt; obtain ⟨k0, k1, k2, k3, k4, k5, k6, k7, k8, k9, k10, k11⟩ := B2.c12; have kl := B2.lt) | (go_at_call 13; (with_reducible refine Calls.mono (NSC _ Q1.c Q2.c) ?_); rintro e w2 ⟨rfl, hx⟩; replace E := E.trans hx; replace Q1 := Q1.ext hx; replace Q2 := Q2.ext hx; replace B1 := B1.ext hx; replace B2 := B2.ext hx; clear hx; clear j0 j1 j2 j3 j4 j5 j6 j7 j8 j9 j10 j11 jl k0 k1 k2 k3 k4 k5 k6 k7 k8 k9 k10 k11 kl; obtain ⟨j0, j1, j2, j3, j4, j5, j6, j7, j8, j9, j10, j11⟩ := B1.c12; have jl := B1.lt; obtain ⟨k0, k1, k2, k3, k4, k5, k6, k7, k8, k9, k10, k11⟩ := B2.c12; have kl := B2.lt))
 clear NSO NSC
 obtain ⟨g, hg⟩ := Qg (fun i => p.d.getD i Qr)
 have hg' : ∀ i, p.d.getD i Qr = g i := fun i => by rw [hg]
 simp only [hg'] at hD1 hat1 hD2 hat2
 clear hg hg' Q1 Q2
 replace hD1 := hD1.ext E
 replace hD2 := hD2.ext E
 generalize p.d.length = n at *
 replace hat1 := Lib.hid (fun i hi => (hat1 i hi).ext E)
 replace hat2 := Lib.hid (fun i hi => (hat2 i hi).ext E)
 go_upto_region 4 with (fail)
 go_loopw [5] (fun iv wr => ∃ k : Nat, k ≤ n ∧ iv = .int .i64 k ∧ Qa w2 wr) (fun iv _ => n - (intOf iv).toNat)
 case atStart => exact ⟨0, Nat.zero_le _, rfl, Qa.refl _⟩
 case round =>
  obtain ⟨k, hk, rfl, hE⟩ := hrel
  obtain ⟨wo, rfl⟩ := Qg wr
  clear j0 j1 j2 j3 j4 j5 j6 j7 j8 j9 j10 j11 jl k0 k1 k2 k3 k4 k5 k6 k7 k8 k9 k10 k11 kl
  have B1o := B1.ext hE
  have B2o := B2.ext hE
  obtain ⟨j0, j1, j2, j3, j4, j5, j6, j7, j8, j9, j10, j11⟩ := Qb.c12 B1o
  have jl := Qb.lt B1o
  obtain ⟨k0, k1, k2, k3, k4, k5, k6, k7, k8, k9, k10, k11⟩ := Qb.c12 B2o
  have kl := Qb.lt B2o
  by_cases hlt : k < n
  ·obtain ⟨b, off, rfl, hb, hc⟩ := (hD1.ext hE) (by omega)
   have c0 : wo.cell? ⟨b, off + k * 7, none⟩ = some (.int .i64 (g k).on.y) := by simpa [Qs] using hc k 0 _ hlt rfl
   have c1 : wo.cell? ⟨b, off + k * 7 + 1, none⟩ = some (.int .i64 (g k).on.m) := by simpa [Qs] using hc k 1 _ hlt rfl
   have c2 : wo.cell? ⟨b, off + k * 7 + 2, none⟩ = some (.bool (g k).on.s) := by simpa [Qs] using hc k 2 _ hlt rfl
   have c3 : wo.cell? ⟨b, off + k * 7 + 3, none⟩ = some (.int .i64 (g k).on.d) := by simpa [Qs] using hc k 3 _ hlt rfl
   have c4 : wo.cell? ⟨b, off + k * 7 + 4, none⟩ = some (.bool (g k).i) := by simpa [Qs] using hc k 4 _ hlt rfl
   have c5 : wo.cell? ⟨b, off + k * 7 + 5, none⟩ = some (.string (g k).w) := by simpa [Qs] using hc k 5 _ hlt rfl
   have c6 : wo.cell? ⟨b, off + k * 7 + 6, none⟩ = some (vs1 k) := by simpa [Qs] using hc k 6 _ hlt rfl
   clear hc
   obtain ⟨b', off', rfl, hb', hc⟩ := (hD2.ext hE) (by omega)
   have d0 : wo.cell? ⟨b', off' + k * 7, none⟩ = some (.int .i64 (g k).on.y) := by simpa [Qs] using hc k 0 _ hlt rfl
   have d1 : wo.cell? ⟨b', off' + k * 7 + 1, none⟩ = some (.int .i64 (g k).on.m) := by simpa [Qs] using hc k 1 _ hlt rfl
   have d2 : wo.cell? ⟨b', off' + k * 7 + 2, none⟩ = some (.bool (g k).on.s) := by simpa [Qs] using hc k 2 _ hlt rfl
   have d3 : wo.cell? ⟨b', off' + k * 7 + 3, none⟩ = some (.int .i64 (g k).on.d) := by simpa [Qs] using hc k 3 _ hlt rfl
   have d4 : wo.cell? ⟨b', off' + k * 7 + 4, none⟩ = some (.bool (g k).i) := by simpa [Qs] using hc k 4 _ hlt rfl
   have d5 : wo.cell? ⟨b', off' + k * 7 + 5, none⟩ = some (.string (g k).w) := by simpa [Qs] using hc k 5 _ hlt rfl
   have d6 : wo.cell? ⟨b', off' + k * 7 + 6, none⟩ = some (vs2 k) := by simpa [Qs] using hc k 6 _ hlt rfl
   clear hc
   have L1 := (hat1.out k hlt).ext hE
   have L2 := (hat2.out k hlt).ext hE
   obtain ⟨VL1, hv1⟩ := Qg (vs1 k)
   obtain ⟨VL2, hv2⟩ := Qg (vs2 k)
   rw [← hv1] at c6 L1
   rw [← hv2] at d6 L2
   clear hv1 hv2 hat1 hat2 hD1 hD2
   generalize g k = G at *
   obtain ⟨TL1, cl1, hVL, _⟩ := id L1
   subst hVL
   obtain ⟨TL2, cl2, hVL, _⟩ := id L2
   subst hVL
   have NSL := fun w h1 h2 => Oz (.slice TL1 G.l.length cl1) (.slice TL2 G.l.length cl2) G.l w h1 h2
   go_upto_region 6 with (fail)
   clear j0 j1 j2 j3 j4 j5 j6 j7 j8 j9 j10 j11 jl k0 k1 k2 k3 k4 k5 k6 k7 k8 k9 k10 k11 kl
   apply Wt (S := fun w' p1 p2 => Qa wo w' ∧ p1 ≠ p2 ∧ Qb w' p1 70 #[.int .i64 G.on.y, .int .i64 G.on.m, .bool G.on.s, .int .i64 G.on.d, .bool G.i, .string G.w, .slice TL1 G.l.length cl1] ∧ Qb w' p2 70 #[.int .i64 G.on.y, .int .i64 G.on.m, .bool G.on.s, .int .i64 G.on.d, .bool G.i, .string G.w, .slice TL2 G.l.length cl2])
   ·refine Zk 14 [13] (fun x => Qa wo x) Qo rfl ?_
    intro vz hvz
    have HC := hvz
    refine Qp (g := 4) [0, 1, 2, 3, 4, 5, 6, 7, 8, 9] [_, _, _, _, _, _, _, _, _, _] ⟨rfl, rfl, rfl, rfl, rfl, rfl, rfl, rfl, rfl, rfl, trivial⟩ (by kernel_rfl) (by kernel_rfl) HC ?_
    simp only [Qc, Qd, Qe]
    apply Exists.intro
    refine ⟨fun u hu => ?_, ?_⟩
    ·obtain ⟨j0, j1, j2, j3, j4, j5, j6, j7, j8, j9, j10, j11⟩ := Qb.c12 (Qb.ext B1o hu)
     have jl := Qb.lt (Qb.ext B1o hu)
     obtain ⟨k0, k1, k2, k3, k4, k5, k6, k7, k8, k9, k10, k11⟩ := Qb.c12 (Qb.ext B2o hu)
     have kl := Qb.lt (Qb.ext B2o hu)
     have r0 := (hu.cell (p := ⟨b, off + k * 7, none⟩) hb).trans c0
     have r1 := (hu.cell (p := ⟨b, off + k * 7 + 1, none⟩) hb).trans c1
     have r2 := (hu.cell (p := ⟨b, off + k * 7 + 2, none⟩) hb).trans c2
     have r3 := (hu.cell (p := ⟨b, off + k * 7 + 3, none⟩) hb).trans c3
     have r4 := (hu.cell (p := ⟨b, off + k * 7 + 4, none⟩) hb).trans c4
     have r5 := (hu.cell (p := ⟨b, off + k * 7 + 5, none⟩) hb).trans c5
     have r6 := (hu.cell (p := ⟨b, off + k * 7 + 6, none⟩) hb).trans c6
     have s0 := (hu.cell (p := ⟨b', off' + k * 7, none⟩) hb').trans d0
     have s1 := (hu.cell (p := ⟨b', off' + k * 7 + 1, none⟩) hb').trans d1
     have s2 := (hu.cell (p := ⟨b', off' + k * 7 + 2, none⟩) hb').trans d2
     have s3 := (hu.cell (p := ⟨b', off' + k * 7 + 3, none⟩) hb').trans d3
     have s4 := (hu.cell (p := ⟨b', off' + k * 7 + 4, none⟩) hb').trans d4
     have s5 := (hu.cell (p := ⟨b', off' + k * 7 + 5, none⟩) hb').trans d5
     have s6 := (hu.cell (p := ⟨b', off' + k * 7 + 6, none⟩) hb').trans d6
     have hbu := Nat.lt_of_lt_of_le hb hu.size
     have hbu' := Nat.lt_of_lt_of_le hb' hu.size
     repeat (first | go_big_quiet_skip | (go_big_quiet_want; go_big_quiet_op; go_big_quiet_on))
     refine wpQuiet_nil ?_
     rfl
    refine Zm 10 11 rfl rfl (by kernel_rfl) ?_ ?_
    ·simp only [Qc, Qd, Qe]
     go_wp2
     obtain ⟨p1, wb, hbq, hwb, H10, HC', hx, gp1⟩ := Qv HC 70 #[.int .i64 0, .int .i64 0, .bool false, .int .i64 0, .bool false, .string ⟨#[]⟩, .slice none 0 0]
     rw [← hbq, ← hwb]
     try have ne : p2 < p1 := by have := H11.lt; omega
     replace HC := HC'
     try replace H11 := H11.ext hx
     clear hbq hwb hx HC'
     refine Qi HC ?_
     refine Qj 11 rfl (by kernel_rfl) ?_
     simp only [Qc, Qd, Qe]
     go_wp2
     obtain ⟨p2, wb, hbq, hwb, H11, HC', hx, gp2⟩ := Qv HC 70 #[.int .i64 0, .int .i64 0, .bool false, .int .i64 0, .bool false, .string ⟨#[]⟩, .slice none 0 0]
     rw [← hbq, ← hwb]
     try have ne : p1 < p2 := by have := H10.lt; omega
     replace HC := HC'
     try replace H10 := H10.ext hx
     clear hbq hwb hx HC'
     refine Qi HC ?_
     refine Qj 12 rfl (by kernel_rfl) ?_
     simp only [Qc, Qd, Qe]
     have z0 := Qb.frozen H10 0
     have z1 := Qb.frozen H10 1
     have z2 := Qb.frozen H10 2
     have z3 := Qb.frozen H10 3
     have z4 := Qb.frozen H10 4
     have z5 := Qb.frozen H10 5
     have z6 := Qb.frozen H10 6
     obtain ⟨x0, x1, x2, x3, x4, x5, x6⟩ := X9 H10
     have lx := Qb.lt H10
     go_wp2
     have Hn := K9 H10 (.int .i64 G.on.y) (.int .i64 G.on.m) (.bool G.on.s) (.int .i64 G.on.d) (.bool G.i) (.string G.w) (.slice TL1 G.l.length cl1)
     try have On := Lv H11 (show p2 ≠ p1 by omega) (.int .i64 G.on.y) (.int .i64 G.on.m) (.bool G.on.s) (.int .i64 G.on.d) (.bool G.i) (.string G.w) (.slice TL1 G.l.length cl1)
     replace HC := K4 HC gp1 (.int .i64 G.on.y) (.int .i64 G.on.m) (.bool G.on.s) (.int .i64 G.on.d) (.bool G.i) (.string G.w) (.slice TL1 G.l.length cl1)
     clear H10 z0 z1 z2 z3 z4 z5 z6 x0 x1 x2 x3 x4 x5 x6 lx
     have H10 := Hn
     try (replace H11 := On; clear On)
     clear Hn
     generalize World.setCell _ _ _ = wq at *
     refine Qi HC ?_
     refine Qm 13 rfl (by kernel_rfl) ?_
     simp only [Qc, Qd, Qe]
     have z0 := Qb.frozen H11 0
     have z1 := Qb.frozen H11 1
     have z2 := Qb.frozen H11 2
     have z3 := Qb.frozen H11 3
     have z4 := Qb.frozen H11 4
     have z5 := Qb.frozen H11 5
     have z6 := Qb.frozen H11 6
     obtain ⟨x0, x1, x2, x3, x4, x5, x6⟩ := X9 H11
     have lx := Qb.lt H11
     go_wp2
     have Hn := K9 H11 (.int .i64 G.on.y) (.int .i64 G.on.m) (.bool G.on.s) (.int .i64 G.on.d) (.bool G.i) (.string G.w) (.slice TL2 G.l.length cl2)
     try have On := Lv H10 (show p1 ≠ p2 by omega) (.int .i64 G.on.y) (.int .i64 G.on.m) (.bool G.on.s) (.int .i64 G.on.d) (.bool G.i) (.string G.w) (.slice TL2 G.l.length cl2)
     replace HC := K4 HC gp2 (.int .i64 G.on.y) (.int .i64 G.on.m) (.bool G.on.s) (.int .i64 G.on.d) (.bool G.i) (.string G.w) (.slice TL2 G.l.length cl2)
     clear H11 z0 z1 z2 z3 z4 z5 z6 x0 x1 x2 x3 x4 x5 x6 lx
     have H11 := Hn
     try (replace H10 := On; clear On)
     clear Hn
     generalize World.setCell _ _ _ = wq at *
     refine Ql ?_
     refine Qt (by kernel_rfl) ?_
     exact Z8 p1 p2 ⟨HC, by omega, H10, H11⟩ rfl
    ·simp only [Qc, Qd, Qe]
     go_wp2
     obtain ⟨p2, wb, hbq, hwb, H11, HC', hx, gp2⟩ := Qv HC 70 #[.int .i64 0, .int .i64 0, .bool false, .int .i64 0, .bool false, .string ⟨#[]⟩, .slice none 0 0]
     rw [← hbq, ← hwb]
     try have ne : p1 < p2 := by have := H10.lt; omega
     replace HC := HC'
     try replace H10 := H10.ext hx
     clear hbq hwb hx HC'
     refine Qi HC ?_
     refine Qj 10 rfl (by kernel_rfl) ?_
     simp only [Qc, Qd, Qe]
     go_wp2
     obtain ⟨p1, wb, hbq, hwb, H10, HC', hx, gp1⟩ := Qv HC 70 #[.int .i64 0, .int .i64 0, .bool false, .int .i64 0, .bool false, .string ⟨#[]⟩, .slice none 0 0]
     rw [← hbq, ← hwb]
     try have ne : p2 < p1 := by have := H11.lt; omega
     replace HC := HC'
     try replace H11 := H11.ext hx
     clear hbq hwb hx HC'
     refine Qi HC ?_
     refine Qj 12 rfl (by kernel_rfl) ?_
     simp only [Qc, Qd, Qe]
     have z0 := Qb.frozen H10 0
     have z1 := Qb.frozen H10 1
     have z2 := Qb.frozen H10 2
     have z3 := Qb.frozen H10 3
     have z4 := Qb.frozen H10 4
     have z5 := Qb.frozen H10 5
     have z6 := Qb.frozen H10 6
     obtain ⟨x0, x1, x2, x3, x4, x5, x6⟩ := X9 H10
     have lx := Qb.lt H10
     go_wp2
     have Hn := K9 H10 (.int .i64 G.on.y) (.int .i64 G.on.m) (.bool G.on.s) (.int .i64 G.on.d) (.bool G.i) (.string G.w) (.slice TL1 G.l.length cl1)
     try have On := Lv H11 (show p2 ≠ p1 by omega) (.int .i64 G.on.y) (.int .i64 G.on.m) (.bool G.on.s) (.int .i64 G.on.d) (.bool G.i) (.string G.w) (.slice TL1 G.l.length cl1)
     replace HC := K4 HC gp1 (.int .i64 G.on.y) (.int .i64 G.on.m) (.bool G.on.s) (.int .i64 G.on.d) (.bool G.i) (.string G.w) (.slice TL1 G.l.length cl1)
     clear H10 z0 z1 z2 z3 z4 z5 z6 x0 x1 x2 x3 x4 x5 x6 lx
     have H10 := Hn
     try (replace H11 := On; clear On)
     clear Hn
     generalize World.setCell _ _ _ = wq at *
     refine Qi HC ?_
     refine Qm 13 rfl (by kernel_rfl) ?_
     simp only [Qc, Qd, Qe]
     have z0 := Qb.frozen H11 0
     have z1 := Qb.frozen H11 1
     have z2 := Qb.frozen H11 2
     have z3 := Qb.frozen H11 3
     have z4 := Qb.frozen H11 4
     have z5 := Qb.frozen H11 5
     have z6 := Qb.frozen H11 6
     obtain ⟨x0, x1, x2, x3, x4, x5, x6⟩ := X9 H11
     have lx := Qb.lt H11
     go_wp2
     have Hn := K9 H11 (.int .i64 G.on.y) (.int .i64 G.on.m) (.bool G.on.s) (.int .i64 G.on.d) (.bool G.i) (.string G.w) (.slice TL2 G.l.length cl2)
     try have On := Lv H10 (show p1 ≠ p2 by omega) (.int .i64 G.on.y) (.int .i64 G.on.m) (.bool G.on.s) (.int .i64 G.on.d) (.bool G.i) (.string G.w) (.slice TL2 G.l.length cl2)
     replace HC := K4 HC gp2 (.int .i64 G.on.y) (.int .i64 G.on.m) (.bool G.on.s) (.int .i64 G.on.d) (.bool G.i) (.string G.w) (.slice TL2 G.l.length cl2)
     clear H11 z0 z1 z2 z3 z4 z5 z6 x0 x1 x2 x3 x4 x5 x6 lx
     have H11 := Hn
     try (replace H10 := On; clear On)
     clear Hn
     generalize World.setCell _ _ _ = wq at *
     refine Ql ?_
     refine Qt (by kernel_rfl) ?_
     exact Z8 p1 p2 ⟨HC, by omega, H10, H11⟩ rfl
   rintro p1 p2 w3 ⟨h3, ne, H10, H11⟩
   replace L1 := L1.ext h3
   replace L2 := L2.ext h3
   clear c0 c1 c2 c3 c4 c5 c6 d0 d1 d2 d3 d4 d5 d6 hb hb'
   obtain ⟨x0, x1, x2, x3, x4, x5, x6⟩ := X9 H10
   have xl := Qb.lt H10
   obtain ⟨y0, y1, y2, y3, y4, y5, y6⟩ := X9 H11
   have yl := Qb.lt H11
   go_wp2_with (go_at_call 13; (with_reducible refine Calls.mono (NSL _ L1 L2) ?_); rintro e w4 ⟨rfl, h4⟩)
   exact ⟨⟨k + 1, by omega, by go_num, (hE.trans h3).trans h4⟩, by simp [intOf]; omega⟩
  ·obtain rfl : k = n := by omega
   go_wp2
   go_ret
   exact ⟨rfl, E.trans hE⟩
end
section
def sA : ByteArray := ⟨#[97]⟩
def sB : ByteArray := ⟨#[98]⟩
def sC : ByteArray := ⟨#[99]⟩
def sU8 : ByteArray := ⟨#[117, 114]⟩
def Xo : ByteArray := ⟨#[98, 97, 114, 108, 101, 121]⟩
def yr8 : Nat → Yr
 | 0 => ⟨0, sA, 4095, 0⟩
 | 1 => ⟨0, sB, 4095, 0⟩
 | _ => ⟨0, sC, 4095, 0⟩
def Yp : Qf := ⟨1, fun _ => sU8, 3, yr8⟩
def l8 : Ln := ⟨⟨60, 1⟩, ⟨1, 5⟩, ⟨0, 1, false, 1⟩⟩
def p8 : Nat → Zy := fun _ => ⟨⟨0, 7, false, 1⟩, ⟨10, 1⟩⟩
def d8 : Dt := ⟨1, 7, false, 1⟩
def t8 : Nat → Tk
 | 0 => ⟨⟨10, 1⟩, ⟨1, 3⟩⟩
 | _ => ⟨⟨5, 1⟩, ⟨1, 1⟩⟩
def f8 : Dt := ⟨0, 1, false, 1⟩
def u8' : Dt := ⟨0, 1, false, 30⟩
def w8 : Nat → Cw := fun _ => ⟨2, ⟨1, 2⟩, f8, u8'⟩
def h8 : Jw := ⟨10, 2, 5⟩
def pd8 : Pd := ⟨sA, f8, u8', [⟨Xo, 10⟩], [⟨⟨0, 1, false, 2⟩, true, sB, [⟨Xo, 5⟩]⟩, ⟨⟨0, 1, false, 2⟩, false, sB, [⟨Xo, 20⟩]⟩], []⟩
theorem e8_int : Zx ⟨60, 1⟩ ⟨1, 5⟩ 180 = (⟨6, 1⟩, 0) := by kernel_rfl
theorem e8_dbl : Xl ⟨1, 3⟩ = (1080, 0) := by kernel_rfl
theorem Ab : Yp.owedV l8 p8 1 d8 = (⟨⟨56, 1⟩, ⟨56, 5⟩, ⟨0, 1⟩⟩, 0) := by kernel_rfl
theorem Ac : Yp.settleV l8 p8 1 d8 = (⟨336, 5⟩, 0) := by kernel_rfl
theorem e8_bal : Yp.balV t8 2 w8 1 = (⟨-5, 1⟩, 0) := by kernel_rfl
theorem e8_few : Yp.fewV t8 2 ⟨1, 2⟩ f8 u8' = (3, 0) := by kernel_rfl
theorem Aa : X8 h8 ⟨4, 5⟩ ⟨1, 10⟩ 1 = (⟨12, 4, 7⟩, 0) := by kernel_rfl
theorem Cz : Yp.closeV pd8 = ([⟨Xo, -5⟩], 0) := by kernel_rfl
end
section
open Go Go.RowKit Go.Shelf
attribute [local go_sem] Zs
attribute [local go_sem high] Og
theorem Uv {w : World} {b : Nat} {t : TypeId} {cs : Array Value} {n sz : Nat} {f : Nat → List Value} (h : Qb w b t cs) (hf : ∀ i j v, i < n → (f i)[j]? = some v → cs[i * sz + j]? = some v) : Qn w (some ⟨b, 0, none⟩) n sz f :=
 fun _ => ⟨b, 0, rfl, h.lt, fun i j v hi hv => by rw [Nat.zero_add, h.cell]; exact hf i j v hi hv⟩
theorem X4 (n d : Int) (w : World) :
  Calls Tryz.prog 35 #[.int .i64 n, .int .i64 d] w fun e w' => e = .returned (.agg #[.int .i64 n, .int .i64 d]) ∧ Qa w w' := by
 go_enter Tryz.func35, Tryz.ntmps35
 go_wp2
 refine bodyPost_ret (v := .agg #[.int .i64 n, .int .i64 d]) (by simp [results, Tryz.results35, go_sem]) rfl ⟨rfl, (by repeat (first | exact Qa.refl _ | (refine Qa.alloc ?_ _) | (refine Qa.trans ?_ (by assumption))))⟩
theorem Yg (y m d : Int) (w : World) :
  Calls Tryz.prog 39 #[.int .i64 y, .int .i64 m, .int .i64 d] w fun e w' => e = .returned (.agg #[.int .i64 y, .int .i64 m, .bool false, .int .i64 d]) ∧ Qa w w' := by
 go_enter Tryz.func39, Tryz.ntmps39
 go_wp2
 refine bodyPost_ret (v := .agg #[.int .i64 y, .int .i64 m, .bool false, .int .i64 d]) (by simp [results, Tryz.results39, go_sem]) rfl ⟨rfl, (by repeat (first | exact Qa.refl _ | (refine Qa.alloc ?_ _) | (refine Qa.trans ?_ (by assumption))))⟩
theorem Lj (s : ByteArray) (n : Int) (w : World) :
  Calls Tryz.prog 44 #[.string s, .int .i64 n] w fun e w' => ∃ b, e = .returned (.slice (some ⟨b, 0, none⟩) 1 1) ∧ Qa w w' ∧ Zn w' (.slice (some ⟨b, 0, none⟩) 1 1) [⟨s, n⟩] := by
 go_enter Tryz.func44, Tryz.ntmps44
 go_wp2
 go_ret
 refine ⟨w.heap.size, rfl, (by repeat (first | exact Qa.refl _ | (refine Qa.alloc ?_ _) | (refine Qa.trans ?_ (by assumption)))), some ⟨w.heap.size, 0, none⟩, 1, rfl, ?_, Nat.le_refl _, by decide, fun h => (by cases h)⟩
 refine Uv (t := 68) (cs := #[.string s, .int .i64 n]) (by repeat (first | (refine Qb.at _ _ _ _ ?_; (simp; done)) | refine Qb.alloc ?_ _)) ?_
 intro i j v hi hv
 obtain rfl : i = 0 := by simp at hi; omega
 have hj : j < 2 := (List.getElem?_eq_some_iff.1 hv).1
 rw [← hv]
 have : j = 0 ∨ j = 1 := by omega
 rcases this with rfl | rfl <;> rfl
theorem Bk (w : World) :
  Calls Tryz.prog 33 #[] w fun e w' => ∃ A A' ca cb, e = .returned (.agg #[.slice A 1 ca, .slice A' 3 cb]) ∧ Qa w w' ∧ Q0 w' A ca A' cb Yp := by
 go_enter Tryz.func33, Tryz.ntmps33
 go_wp2
 refine bodyPost_ret (v := .agg #[.slice (some ⟨w.heap.size + 1, 0, none⟩) 1 1, .slice (some ⟨w.heap.size + 1 + 1, 0, none⟩) 3 3]) (by simp [results, Tryz.results33, go_sem]) rfl ⟨_, _, _, _, rfl, (by repeat (first | exact Qa.refl _ | (refine Qa.alloc ?_ _) | (refine Qa.trans ?_ (by assumption)))), ⟨?_, ?_, by decide, by decide, by decide, by decide⟩⟩
 ·refine Uv (t := 9) (cs := #[.string sU8]) (by repeat (first | (refine Qb.at _ _ _ _ ?_; (simp; done)) | refine Qb.alloc ?_ _)) ?_
  intro i j v hi hv
  have hi : i < 1 := hi
  have hj : j < 1 := (List.getElem?_eq_some_iff.1 hv).1
  rw [← hv]
  obtain rfl : i = 0 := by omega
  obtain rfl : j = 0 := by omega
  rfl
 ·refine Uv (t := 119) (cs := #[.int .i64 0, .string sA, .int .i64 4095, .int .i64 0, .int .i64 0, .string sB, .int .i64 4095, .int .i64 0, .int .i64 0, .string sC, .int .i64 4095, .int .i64 0]) (by repeat (first | (refine Qb.at _ _ _ _ ?_; (simp; done)) | refine Qb.alloc ?_ _)) ?_
  intro i j v hi hv
  have hi : i < 3 := hi
  have hj : j < 4 := (List.getElem?_eq_some_iff.1 hv).1
  rw [← hv]
  have h1 : i = 0 ∨ i = 1 ∨ i = 2 := by omega
  have h2 : j = 0 ∨ j = 1 ∨ j = 2 ∨ j = 3 := by omega
  rcases h1 with rfl | rfl | rfl <;> rcases h2 with rfl | rfl | rfl | rfl <;> rfl
theorem Eo {W : World} {b : Nat} {t : TypeId} {v0 v1 v2 v3 v4 v5 v6 v7 : Value} (h : Qb W b t #[v0, v1, v2, v3, v4, v5, v6, v7]) (u0 u1 u2 u3 u4 u5 u6 u7 : Value) : Qb ((((((((W.setCell ⟨b, 0, none⟩ u0).setCell ⟨b, 1, none⟩ u1).setCell ⟨b, 2, none⟩ u2).setCell ⟨b, 3, none⟩ u3).setCell ⟨b, 4, none⟩ u4).setCell ⟨b, 5, none⟩ u5).setCell ⟨b, 6, none⟩ u6).setCell ⟨b, 7, none⟩ u7) b t #[u0, u1, u2, u3, u4, u5, u6, u7] := by unfold Qb at h ⊢; simp [World.setCell, Array.getElem?_modify, h]
theorem ext8 {W0 W : World} {b : Nat} (h : Qa W0 W) (hb : W0.heap.size ≤ b) (u0 u1 u2 u3 u4 u5 u6 u7 : Value) : Qa W0 ((((((((W.setCell ⟨b, 0, none⟩ u0).setCell ⟨b, 1, none⟩ u1).setCell ⟨b, 2, none⟩ u2).setCell ⟨b, 3, none⟩ u3).setCell ⟨b, 4, none⟩ u4).setCell ⟨b, 5, none⟩ u5).setCell ⟨b, 6, none⟩ u6).setCell ⟨b, 7, none⟩ u7) :=
 (((((((h.setCell (p := ⟨b, 0, none⟩) hb u0).setCell (p := ⟨b, 1, none⟩) hb u1).setCell (p := ⟨b, 2, none⟩) hb u2).setCell (p := ⟨b, 3, none⟩) hb u3).setCell (p := ⟨b, 4, none⟩) hb u4).setCell (p := ⟨b, 5, none⟩) hb u5).setCell (p := ⟨b, 6, none⟩) hb u6).setCell (p := ⟨b, 7, none⟩) hb u7
theorem Ep {W : World} {b b' : Nat} {t : TypeId} {cs : Array Value} (h : Qb W b t cs) (hne : b ≠ b') (u0 u1 u2 u3 u4 u5 u6 u7 : Value) : Qb ((((((((W.setCell ⟨b', 0, none⟩ u0).setCell ⟨b', 1, none⟩ u1).setCell ⟨b', 2, none⟩ u2).setCell ⟨b', 3, none⟩ u3).setCell ⟨b', 4, none⟩ u4).setCell ⟨b', 5, none⟩ u5).setCell ⟨b', 6, none⟩ u6).setCell ⟨b', 7, none⟩ u7) b t cs :=
 Qh (Qh (Qh (Qh (Qh (Qh (Qh (Qh h hne 0 u0) hne 1 u1) hne 2 u2) hne 3 u3) hne 4 u4) hne 5 u5) hne 6 u6) hne 7 u7
theorem I1 (w : World) :
  Calls Tryz.prog 37 #[] w fun e w' => ∃ b, e = .returned (.tuple #[.agg #[.int .i64 60, .int .i64 1, .int .i64 1, .int .i64 5, .int .i64 0, .int .i64 1, .bool false, .int .i64 1], .slice (some ⟨b, 0, none⟩) 1 1]) ∧ Qa w w' ∧ Qn w' (some ⟨b, 0, none⟩) 1 6 (Jy p8) := by
 go_enter Tryz.func37, Tryz.ntmps37
 go_upto_region 1 with (fail)
 obtain ⟨v, hv⟩ := Qg (w.alloc (.cells #[.int .i64 0, .int .i64 0, .int .i64 0, .int .i64 0, .int .i64 0, .int .i64 0, .bool false, .int .i64 0] 80))
 rw [← hv]
 have E : Qa w v := by rw [hv]; exact (Qa.refl _).alloc _
 have B1 : Qb v w.heap.size 80 #[.int .i64 0, .int .i64 0, .int .i64 0, .int .i64 0, .int .i64 0, .int .i64 0, .bool false, .int .i64 0] := by rw [hv]; exact Qb.new _ _ _
 clear hv
 obtain ⟨b1, hb1⟩ := Qg (w.heap.size)
 rw [← hb1] at B1 ⊢
 have hbr : w.heap.size ≤ b1 := by omega
 clear hb1
 go_wp2_with (first | (go_at_call 35; (with_reducible refine Calls.mono (X4 10 1 _) ?_); rintro e wa ⟨rfl, hx⟩; replace E := E.trans hx; replace B1 := B1.ext hx; clear hx; have BA := B1.alloc (.cells #[.int .i64 0, .int .i64 7, .bool false, .int .i64 1, .int .i64 10, .int .i64 1] 127); have z0 := BA.frozen 0; have z1 := BA.frozen 1; have z2 := BA.frozen 2; have z3 := BA.frozen 3; have z4 := BA.frozen 4; have z5 := BA.frozen 5; have z6 := BA.frozen 6; have z7 := BA.frozen 7; obtain ⟨x0, x1, x2, x3, x4, x5, x6, x7⟩ := BA.c8; have lx := BA.lt) | (go_at_call 35; (with_reducible refine Calls.mono (X4 _ _ _) ?_); rintro e wa ⟨rfl, hx⟩; replace E := E.trans hx; replace B1 := B1.ext hx; clear hx) | (go_at_call 39; (with_reducible refine Calls.mono (Yg _ _ _ _) ?_); rintro e wa ⟨rfl, hx⟩; replace E := E.trans hx; replace B1 := B1.ext hx; clear hx))
 have H8 := Eo (B1.alloc (.cells #[.int .i64 0, .int .i64 7, .bool false, .int .i64 1, .int .i64 10, .int .i64 1] 127)) (.int .i64 60) (.int .i64 1) (.int .i64 1) (.int .i64 5) (.int .i64 0) (.int .i64 1) (.bool false) (.int .i64 1)
 have E8 := ext8 (E.alloc (.cells #[.int .i64 0, .int .i64 7, .bool false, .int .i64 1, .int .i64 10, .int .i64 1] 127)) hbr (.int .i64 60) (.int .i64 1) (.int .i64 1) (.int .i64 5) (.int .i64 0) (.int .i64 1) (.bool false) (.int .i64 1)
 have P8 := Ep (Qb.new wa 127 #[.int .i64 0, .int .i64 7, .bool false, .int .i64 1, .int .i64 10, .int .i64 1]) (show wa.heap.size ≠ b1 by have := B1.lt; omega) (.int .i64 60) (.int .i64 1) (.int .i64 1) (.int .i64 5) (.int .i64 0) (.int .i64 1) (.bool false) (.int .i64 1)
 obtain ⟨y0, y1, y2, y3, y4, y5, y6, y7⟩ := H8.c8
 refine bodyPost_ret (v := .tuple #[.agg #[.int .i64 60, .int .i64 1, .int .i64 1, .int .i64 5, .int .i64 0, .int .i64 1, .bool false, .int .i64 1], .slice (some ⟨wa.heap.size, 0, none⟩) 1 1]) (by simp [results, Tryz.results37, go_sem, y0, y1, y2, y3, y4, y5, y6, y7]) rfl ⟨_, rfl, E8, ?_⟩
 refine Uv P8 ?_
 intro i j v hi hv
 obtain rfl : i = 0 := by omega
 have hj : j < 6 := (List.getElem?_eq_some_iff.1 hv).1
 rw [← hv]
 have : j = 0 ∨ j = 1 ∨ j = 2 ∨ j = 3 ∨ j = 4 ∨ j = 5 := by omega
 rcases this with rfl | rfl | rfl | rfl | rfl | rfl <;> rfl
theorem Qb4 (v1 v2 : Value) (a b : List Lt) (w : World) (h1 : Zn w v1 a) (h2 : Zn w v2 b) :
  Calls Tryz.prog 45 #[v1, v2] w fun e w' => e = .returned (.bool (decide (a = b))) ∧ Qa w w' := by
 obtain ⟨A, ca, rfl, hA, hca, hca', _⟩ := h1
 obtain ⟨B, cb, rfl, hB, hcb, hcb', _⟩ := h2
 obtain ⟨R, hR0⟩ := Qg (decide (a = b))
 rw [← hR0]
 have HR := Lib.hid hR0
 clear hR0
 by_cases hn : a.length = b.length
 ·have HL := Lib.hid hn
  obtain ⟨n, hnl⟩ := Qg (a.length)
  rw [← hn] at hcb hB ⊢
  rw [← hnl] at hca hcb hA hB ⊢
  have h63 : n ≤ 9223372036854775807 := Nat.le_trans hca (Nat.le_trans hca' (by decide))
  replace hnl := Lib.hid hnl
  have hno : Hid (∀ k, k < n → Qz a k ≠ Qz b k → R = false) := fun k hk h => by
   rw [HR.out]; exact decide_eq_false fun e => h (by rw [e])
  have hyes : Hid ((∀ k, k < n → Qz a k = Qz b k) → R = true) := fun h => by
   rw [HR.out]
   refine decide_eq_true (List.ext_getElem HL.out fun i h1 h2 => ?_)
   have := h i (by rw [hnl.out]; exact h1)
   rwa [Ut h1, Ut h2] at this
  clear HR HL hn hnl hca' hcb' hca hcb
  generalize Qz a = f at *
  generalize Qz b = g at *
  go_enter Tryz.func45, Tryz.ntmps45
  go_wp2
  go_loopw [5] (fun i wr => ∃ k : Nat, k ≤ n ∧ i = .int .i64 k ∧ Hid (∀ j, j < k → f j = g j) ∧ Qa w wr) (fun i _ => n - (intOf i).toNat)
  case atStart => exact ⟨0, Nat.zero_le _, rfl, (fun i hi => absurd hi (by omega)), Qa.refl _⟩
  case round =>
   obtain ⟨k, hk, rfl, hp, hE⟩ := hrel
   obtain ⟨wo, rfl⟩ := Qg wr
   by_cases hlt : k < n
   ·obtain ⟨b1, o1, rfl, hb, hc⟩ := (hA.ext hE) (by omega)
    obtain ⟨b2, o2, rfl, hb', hd⟩ := (hB.ext hE) (by omega)
    have c0 : wo.cell? ⟨b1, o1 + k * 2, none⟩ = some (.string (f k).g) := by simpa [Q4] using hc k 0 _ hlt rfl
    have c1 : wo.cell? ⟨b1, o1 + k * 2 + 1, none⟩ = some (.int .i64 (f k).n) := by simpa [Q4] using hc k 1 _ hlt rfl
    have d0 : wo.cell? ⟨b2, o2 + k * 2, none⟩ = some (.string (g k).g) := by simpa [Q4] using hd k 0 _ hlt rfl
    have d1 : wo.cell? ⟨b2, o2 + k * 2 + 1, none⟩ = some (.int .i64 (g k).n) := by simpa [Q4] using hd k 1 _ hlt rfl
    have hq : Hid ((((f k).g.toList == (g k).g.toList) && ((f k).n == (g k).n)) = decide (f k = g k)) := by
     unfold Hid
     rw [← Km, Bool.eq_iff_iff]
     simp only [Bool.and_eq_true, decide_eq_true_eq, beq_iff_eq]
     constructor
     ·rintro ⟨e1, e2⟩
      cases hf : f k; cases hg : g k
      rw [hf, hg] at e1 e2
      simp_all
     ·intro e; rw [e]; exact ⟨rfl, rfl⟩
    have hs : Hid (f k = g k → ∀ j, j < k + 1 → f j = g j) := fun e j hj => by
     by_cases h : j = k
     ·subst h; exact e
     ·exact hp.out j (by omega)
    have hnk := Lib.hid (hno.out k hlt)
    clear hc hd hA hB hp
    generalize f k = x at *
    generalize g k = y at *
    go_upto_region 6 with (fail)
    clear hno hyes
    generalize hg1 : (x.g.toList == y.g.toList) = e1 at *
    generalize hg2 : (x.n == y.n) = e2 at *
    by_cases hxy : x = y
    ·obtain ⟨rfl, rfl⟩ : e1 = true ∧ e2 = true := by
      have h := hq.out
      rw [decide_eq_true hxy] at h
      simpa using h
     have hp' := Lib.hid (hs.out hxy)
     clear hs hq hnk hxy
     refine Zd wo Qo (by kernel_rfl) (by repeat (first | exact Qa.refl _ | (refine Qa.alloc ?_ _) | (refine Qa.trans ?_ (by assumption)))) ?_
     intro hne hrx hry
     try simp only []
     try simp only [List.append_eq, List.cons_append, List.nil_append]
     skip
     repeat (first
      | go_big_quiet_skip
      | (go_big_quiet_want; go_big_quiet_op; go_big_quiet_on))
     clear hne hry hrx
     refine wpQuiet_nil ?_
     intro wn hwn
     obtain ⟨hcwn, hfwn, hzwn⟩ := Qa.rules hwn
     try simp only [World.size_alloc] at hzwn
     obtain ⟨hcbwn, hfbwn, hzbwn⟩ := Qa.rules (show Qa wo wn from (by repeat (first | exact Qa.refl _ | (refine Qa.alloc ?_ _) | (refine Qa.trans ?_ (by assumption)))))
     clear hcwn hfwn
     go_wp2
     exact ⟨⟨k + 1, by omega, by go_num, hp', hE.trans hwn⟩, by simp [intOf]; omega⟩
    ·have hr := hnk.out hxy
     have h : e1 = false ∨ (e1 = true ∧ e2 = false) := by
      have h := hq.out
      rw [decide_eq_false hxy] at h
      cases e1 <;> simp_all
     clear hs hq hnk hxy
     rcases h with rfl | ⟨rfl, rfl⟩
     ·skip
      refine Zd wo Qo (by kernel_rfl) (by repeat (first | exact Qa.refl _ | (refine Qa.alloc ?_ _) | (refine Qa.trans ?_ (by assumption)))) ?_
      intro hne hrx hry
      try simp only []
      try simp only [List.append_eq, List.cons_append, List.nil_append]
      skip
      repeat (first
       | go_big_quiet_skip
       | (go_big_quiet_want; go_big_quiet_op; go_big_quiet_on))
      clear hne hry hrx
      refine wpQuiet_nil ?_
      intro wn hwn
      obtain ⟨hcwn, hfwn, hzwn⟩ := Qa.rules hwn
      try simp only [World.size_alloc] at hzwn
      obtain ⟨hcbwn, hfbwn, hzbwn⟩ := Qa.rules (show Qa wo wn from (by repeat (first | exact Qa.refl _ | (refine Qa.alloc ?_ _) | (refine Qa.trans ?_ (by assumption)))))
      clear hcwn hfwn
      go_wp2
      go_ret
      exact ⟨by rw [hr]; rfl, hE.trans hwn⟩
     ·skip
      refine Zd wo Qo (by kernel_rfl) (by repeat (first | exact Qa.refl _ | (refine Qa.alloc ?_ _) | (refine Qa.trans ?_ (by assumption)))) ?_
      intro hne hrx hry
      try simp only []
      try simp only [List.append_eq, List.cons_append, List.nil_append]
      skip
      repeat (first
       | go_big_quiet_skip
       | (go_big_quiet_want; go_big_quiet_op; go_big_quiet_on))
      clear hne hry hrx
      refine wpQuiet_nil ?_
      intro wn hwn
      obtain ⟨hcwn, hfwn, hzwn⟩ := Qa.rules hwn
      try simp only [World.size_alloc] at hzwn
      obtain ⟨hcbwn, hfbwn, hzbwn⟩ := Qa.rules (show Qa wo wn from (by repeat (first | exact Qa.refl _ | (refine Qa.alloc ?_ _) | (refine Qa.trans ?_ (by assumption)))))
      clear hcwn hfwn
      go_wp2
      go_ret
      exact ⟨by rw [hr]; rfl, hE.trans hwn⟩
   ·obtain rfl : k = n := by omega
    have hr := hyes.out hp.out
    clear hyes hno
    go_wp2
    go_ret
    exact ⟨by rw [hr]; rfl, hE⟩
 ·have hne : ((a.length : Int) == (b.length : Int)) = false := beq_eq_false_iff_ne.2 (by omega)
  have hnn : ((a.length : Int) != (b.length : Int)) = true := by rw [bne, hne]; rfl
  have hr : R = false := by rw [HR.out]; exact decide_eq_false fun e => hn (by rw [e])
  clear hn HR
  go_enter Tryz.func45, Tryz.ntmps45
  go_wp2
  go_ret
  exact ⟨by rw [hr]; rfl, Qa.refl _⟩
end
section
open Go Go.RowKit Go.Shelf
attribute [local go_sem] Zs
attribute [local go_sem high] Qau Qas Qat
theorem Qby {w : World} {b : Nat} (h : Qb w b 91 #[.int .i64 10, .int .i64 1, .int .i64 1, .int .i64 3, .int .i64 5, .int .i64 1, .int .i64 1, .int .i64 1]) : Qn w (some ⟨b, 0, none⟩) 2 4 (Jz t8) := by
 refine Uv h ?_
 intro i j v hi hv
 have hj : j < 4 := (List.getElem?_eq_some_iff.1 hv).1
 rw [← hv]
 have h1 : i = 0 ∨ i = 1 := by omega
 have h2 : j = 0 ∨ j = 1 ∨ j = 2 ∨ j = 3 := by omega
 rcases h1 with rfl | rfl <;> rcases h2 with rfl | rfl | rfl | rfl <;> rfl
theorem Vo {w : World} {b : Nat} (h : Qb w b 95 #[.int .i64 2, .int .i64 1, .int .i64 2, .int .i64 0, .int .i64 1, .bool false, .int .i64 1, .int .i64 0, .int .i64 1, .bool false, .int .i64 30]) : Qn w (some ⟨b, 0, none⟩) 1 11 (Zj w8) := by
 refine Uv h ?_
 intro i j v hi hv
 obtain rfl : i = 0 := by omega
 have hj : j < 11 := (List.getElem?_eq_some_iff.1 hv).1
 rw [← hv]
 have : j = 0 ∨ j = 1 ∨ j = 2 ∨ j = 3 ∨ j = 4 ∨ j = 5 ∨ j = 6 ∨ j = 7 ∨ j = 8 ∨ j = 9 ∨ j = 10 := by omega
 rcases this with rfl | rfl | rfl | rfl | rfl | rfl | rfl | rfl | rfl | rfl | rfl <;> rfl
theorem Hq {A A' : Option Addr} {ca cb : Nat} {w : World} (hC : Q0 w A ca A' cb Yp) {bp : Nat} (hB : Qn w (some ⟨bp, 0, none⟩) 1 6 (Jy p8)) (hZ : Zv w) : Calls Tryz.prog 38 #[.agg #[.slice A 1 ca, .slice A' 3 cb], .agg #[.int .i64 60, .int .i64 1, .int .i64 1, .int .i64 5, .int .i64 0, .int .i64 1, .bool false, .int .i64 1], .slice (some ⟨bp, 0, none⟩) 1 1, .agg #[.int .i64 1, .int .i64 7, .bool false, .int .i64 1]] w fun e w' => e = .returned (.tuple #[.agg #[.int .i64 56, .int .i64 1, .int .i64 56, .int .i64 5, .int .i64 0, .int .i64 1], .int .i64 0]) ∧ Qa w w' := by
 have := Sa A A' ca cb Yp (some ⟨bp, 0, none⟩) 1 1 l8 p8 (by unfold Rt.In; decide) (by unfold Rt.In; decide) (fun i _ => show (Rt.mk 10 1).In by unfold Rt.In; decide) w hC hB (by decide) hZ d8
 rw [Ab] at this
 exact this
theorem Hu {A A' : Option Addr} {ca cb : Nat} {w : World} (hC : Q0 w A ca A' cb Yp) {bp : Nat} (hB : Qn w (some ⟨bp, 0, none⟩) 1 6 (Jy p8)) (hZ : Zv w) : Calls Tryz.prog 40 #[.agg #[.slice A 1 ca, .slice A' 3 cb], .agg #[.int .i64 60, .int .i64 1, .int .i64 1, .int .i64 5, .int .i64 0, .int .i64 1, .bool false, .int .i64 1], .slice (some ⟨bp, 0, none⟩) 1 1, .agg #[.int .i64 1, .int .i64 7, .bool false, .int .i64 1]] w fun e w' => e = .returned (.tuple #[.agg #[.int .i64 336, .int .i64 5], .int .i64 0]) ∧ Qa w w' := by
 have := Qb9 A A' ca cb Yp (some ⟨bp, 0, none⟩) 1 1 l8 p8 (by unfold Rt.In; decide) (by unfold Rt.In; decide) (fun i _ => show (Rt.mk 10 1).In by unfold Rt.In; decide) w hC hB (by decide) hZ d8
 rw [Ac] at this
 exact this
theorem Po : ∀ i, i < 2 → (t8 i).a.In ∧ (t8 i).r.In := fun i hi => by
 have : i = 0 ∨ i = 1 := by omega
 rcases this with rfl | rfl <;> (unfold Rt.In; decide)
theorem Vt {A A' : Option Addr} {ca cb : Nat} {w : World} (hC : Q0 w A ca A' cb Yp) {bt bc : Nat} (hT : Qn w (some ⟨bt, 0, none⟩) 2 4 (Jz t8)) (hS : Qn w (some ⟨bc, 0, none⟩) 1 11 (Zj w8)) (hZ : Zv w) : Calls Tryz.prog 41 #[.agg #[.slice A 1 ca, .slice A' 3 cb], .slice (some ⟨bt, 0, none⟩) 2 2, .slice (some ⟨bc, 0, none⟩) 1 1] w fun e w' => e = .returned (.tuple #[.agg #[.int .i64 (-5), .int .i64 1], .int .i64 0]) ∧ Qa w w' := by
 have := Bd A A' ca cb Yp (some ⟨bt, 0, none⟩) 2 2 t8 (some ⟨bc, 0, none⟩) 1 1 w8 w hC Po hT (by decide) (fun i _ => ⟨show (Rt.mk 1 2).In by unfold Rt.In; decide, show (-9223372036854775808 : Int) ≤ 2 by decide, show (2 : Int) ≤ 9223372036854775807 by decide⟩) hS (by decide) hZ
 rw [e8_bal] at this
 exact this
theorem w8_few {A A' : Option Addr} {ca cb : Nat} {w : World} (hC : Q0 w A ca A' cb Yp) {bt : Nat} (hT : Qn w (some ⟨bt, 0, none⟩) 2 4 (Jz t8)) (hZ : Zv w) : Calls Tryz.prog 42 #[.agg #[.slice A 1 ca, .slice A' 3 cb], .slice (some ⟨bt, 0, none⟩) 2 2, .agg #[.int .i64 1, .int .i64 2], .agg #[.int .i64 0, .int .i64 1, .bool false, .int .i64 1], .agg #[.int .i64 0, .int .i64 1, .bool false, .int .i64 30]] w fun e w' => e = .returned (.tuple #[.int .i64 3, .int .i64 0]) ∧ Qa w w' := by
 have := Ao A A' ca cb Yp (some ⟨bt, 0, none⟩) 2 2 t8 ⟨1, 2⟩ (by unfold Rt.In; decide) f8 u8' w hC Po hT (by decide) hZ
 rw [e8_few] at this
 exact this
theorem Qcy (w : World) : Calls Tryz.prog 43 #[.agg #[.int .i64 10, .int .i64 2, .int .i64 5], .agg #[.int .i64 4, .int .i64 5], .agg #[.int .i64 1, .int .i64 10], .int .i64 1] w fun e w' => e = .returned (.tuple #[.agg #[.int .i64 12, .int .i64 4, .int .i64 7], .int .i64 0]) ∧ Qa w w' := by
 have := Az h8 ⟨4, 5⟩ ⟨1, 10⟩ 1 (by unfold Rt.In; decide) (by unfold Rt.In; decide) (by decide) (by decide) w
 rw [Aa] at this
 exact this
theorem Qcx {A A' : Option Addr} {ca cb : Nat} {w : World} (hC : Q0 w A ca A' cb Yp) {o x y d : Nat} (hO : Zn w (.slice (some ⟨o, 0, none⟩) 1 1) [⟨Xo, 10⟩]) (hX : Zn w (.slice (some ⟨x, 0, none⟩) 1 1) [⟨Xo, 5⟩]) (hY : Zn w (.slice (some ⟨y, 0, none⟩) 1 1) [⟨Xo, 20⟩]) (hD : Qb w d 70 #[.int .i64 0, .int .i64 1, .bool false, .int .i64 2, .bool true, .string ⟨#[98]⟩, .slice (some ⟨x, 0, none⟩) 1 1, .int .i64 0, .int .i64 1, .bool false, .int .i64 2, .bool false, .string ⟨#[98]⟩, .slice (some ⟨y, 0, none⟩) 1 1]) :
  Calls Tryz.prog 9 #[.agg #[.slice A 1 ca, .slice A' 3 cb], .agg #[.string ⟨#[97]⟩, .int .i64 0, .int .i64 1, .bool false, .int .i64 1, .int .i64 0, .int .i64 1, .bool false, .int .i64 30, .slice (some ⟨o, 0, none⟩) 1 1, .slice (some ⟨d, 0, none⟩) 2 2, .slice none 0 0]] w fun e w' => ∃ v, e = .returned (.tuple #[v, .int .i64 0]) ∧ Qa w w' ∧ Zn w' v [⟨Xo, -5⟩] := by
 have hDl : Yn w (.slice (some ⟨d, 0, none⟩) 2 2) pd8.d := by
  refine ⟨some ⟨d, 0, none⟩, 2, fun i => if i = 0 then .slice (some ⟨x, 0, none⟩) 1 1 else .slice (some ⟨y, 0, none⟩) 1 1, rfl, ?_, Nat.le_refl _, by decide, fun h => (by cases h), ?_⟩
  ·refine Uv hD ?_
   intro i j v hi hv
   have hi : i < 2 := hi
   have hj : j < 7 := (List.getElem?_eq_some_iff.1 hv).1
   rw [← hv]
   have h1 : i = 0 ∨ i = 1 := by omega
   have h2 : j = 0 ∨ j = 1 ∨ j = 2 ∨ j = 3 ∨ j = 4 ∨ j = 5 ∨ j = 6 := by omega
   rcases h1 with rfl | rfl <;> rcases h2 with rfl | rfl | rfl | rfl | rfl | rfl | rfl <;> rfl
  ·intro i hi
   have hi : i < 2 := hi
   have h1 : i = 0 ∨ i = 1 := by omega
   rcases h1 with rfl | rfl
   ·exact hX
   ·exact hY
 have := Bz A A' ca cb Yp pd8 _ _ _ w hC ⟨hO, hDl, Vc w⟩
 rw [Cz] at this
 exact this
theorem Qc0 (w : World) (hZ : Zv w) :
  Calls Tryz.prog 15 #[] w fun e w' => e = .returned (.bool true) ∧ Qa w w' := by
 go_enter Tryz.func15, Tryz.ntmps15
 go_upto_region 2 with (go_at_call 33; (with_reducible refine Calls.mono (Bk _) ?_); rintro e w1 ⟨A, A', ca, cb, rfl, h1, C⟩)
 obtain ⟨v1, hv⟩ := Qg (w1.alloc (.cells #[.slice A 1 ca, .slice A' 3 cb] 25))
 rw [← hv]
 have h2 : Qa w1 v1 := by rw [hv]; exact (Qa.refl _).alloc _
 have B1 : Qb v1 w1.heap.size 25 #[.slice A 1 ca, .slice A' 3 cb] := by rw [hv]; exact Qb.new _ _ _
 clear hv
 generalize w1.heap.size = b1 at *
 have E := h1.trans h2
 replace C := C.ext h2
 have Z := hZ.ext E
 clear h1 h2 hZ
 have NI := fun w hz => Fp ⟨60, 1⟩ ⟨1, 5⟩ 180 (by unfold Rt.In; decide) (by unfold Rt.In; decide) (by decide) (by decide) w hz
 simp only [e8_int] at NI
 go_upto_region 3 with (first | (go_at_call 35; (with_reducible refine Calls.mono (X4 _ _ _) ?_); rintro e wa ⟨rfl, hx⟩; replace E := E.trans hx; replace C := C.ext hx; replace Z := Z.ext hx; replace B1 := B1.ext hx; clear hx) | (go_at_call 34; (with_reducible refine Calls.mono (NI _ Z) ?_); rintro e w2 ⟨rfl, hx⟩; replace E := E.trans hx; replace C := C.ext hx; replace Z := Z.ext hx; replace B1 := B1.ext hx; clear hx))
 obtain ⟨v2, hv⟩ := Qg (w2.alloc (.cells #[.int .i64 6, .int .i64 1] 73))
 rw [← hv]
 have h2 : Qa w2 v2 := by rw [hv]; exact (Qa.refl _).alloc _
 have B2 : Qb v2 w2.heap.size 73 #[.int .i64 6, .int .i64 1] := by rw [hv]; exact Qb.new _ _ _
 clear hv
 generalize w2.heap.size = b2 at *
 replace E := E.trans h2
 replace C := C.ext h2
 replace Z := Z.ext h2
 replace B1 := B1.ext h2
 clear h2
 have ND := fun w => Cy ⟨1, 3⟩ (by unfold Rt.In; decide) w
 simp only [e8_dbl] at ND
 clear NI
 go_upto_region 4 with (first | (go_at_call 35; (with_reducible refine Calls.mono (X4 _ _ _) ?_); rintro e wa ⟨rfl, hx⟩; replace E := E.trans hx; replace C := C.ext hx; replace Z := Z.ext hx; replace B1 := B1.ext hx; replace B2 := B2.ext hx; clear hx) | (go_at_call 36; (with_reducible refine Calls.mono (ND _) ?_); rintro e w3 ⟨rfl, hx⟩; replace E := E.trans hx; replace C := C.ext hx; replace Z := Z.ext hx; replace B1 := B1.ext hx; replace B2 := B2.ext hx; clear hx))
 clear ND
 go_upto_region 5 with (go_at_call 37; (with_reducible refine Calls.mono (I1 _) ?_); rintro e w4 ⟨bp, rfl, hx, PR⟩; replace E := E.trans hx; replace C := C.ext hx; replace Z := Z.ext hx; replace B1 := B1.ext hx; replace B2 := B2.ext hx; clear hx)
 obtain ⟨v4, hv⟩ := Qg (w4.alloc (.cells #[.int .i64 60, .int .i64 1, .int .i64 1, .int .i64 5, .int .i64 0, .int .i64 1, .bool false, .int .i64 1] 80))
 rw [← hv]
 have h2 : Qa w4 v4 := by rw [hv]; exact (Qa.refl _).alloc _
 have B4 : Qb v4 w4.heap.size 80 #[.int .i64 60, .int .i64 1, .int .i64 1, .int .i64 5, .int .i64 0, .int .i64 1, .bool false, .int .i64 1] := by rw [hv]; exact Qb.new _ _ _
 clear hv
 generalize w4.heap.size = b4 at *
 replace E := E.trans h2
 replace PR := PR.ext h2
 replace C := C.ext h2
 replace Z := Z.ext h2
 replace B1 := B1.ext h2
 replace B2 := B2.ext h2
 clear h2
 go_upto_region 5 with (fail)
 apply Ug (S := fun w' r => Qa v4 w' ∧ Qb w' r 85 #[.int .i64 56, .int .i64 1, .int .i64 56, .int .i64 5, .int .i64 0, .int .i64 1])
 ·refine Zk 11 [6, 7, 9, 10] (fun x => Qa v4 x) Qo rfl ?_
  intro vz hvz
  have HC := hvz
  refine Qp (g := 8) [0, 1, 2] [_, _, _] ⟨rfl, rfl, rfl, trivial⟩ (by kernel_rfl) (by kernel_rfl) HC ?_
  simp only [Qc, Qd, Qe]
  apply Exists.intro
  refine ⟨fun u hu => ?_, ?_⟩
  ·obtain ⟨k0, k1⟩ := (B1.ext hu).c2
   have lk := (B1.ext hu).lt
   obtain ⟨p0, p1, p2, p3, p4, p5, p6, p7⟩ := (B4.ext hu).c8
   have lp := (B4.ext hu).lt
   repeat (first | go_big_quiet_skip | (go_big_quiet_want; go_big_quiet_op; go_big_quiet_on))
   refine wpQuiet_nil ?_
   rfl
  refine Zm 3 8 rfl rfl (by kernel_rfl) ?_ ?_
  ·simp only [Qc, Qd, Qe]
   go_wp2_with (go_at_call 39; (with_reducible refine Calls.mono (Yg _ _ _ _) ?_); rintro e wa ⟨rfl, hx⟩)
   replace HC := HC.trans hx
   try replace H5 := H5.ext hx
   clear hx
   refine Qi HC ?_
   refine Zm 4 8 rfl rfl (by kernel_rfl) ?_ ?_
   ·simp only [Qc, Qd, Qe]
    go_wp2_with (go_at_call 38; (with_reducible refine Calls.mono (Hq (C.ext HC) (PR.ext HC) (Z.ext HC)) ?_); rintro e wa ⟨rfl, hx⟩)
    replace HC := HC.trans hx
    try replace H5 := H5.ext hx
    clear hx
    refine Qi HC ?_
    refine Qp (g := 5) [5] [_] ⟨rfl, trivial⟩ (by kernel_rfl) (by kernel_rfl) HC ?_
    simp only [Qc, Qd, Qe]
    apply Exists.intro
    refine ⟨fun u hu => ?_, ?_⟩
    ·obtain ⟨k0, k1⟩ := (B1.ext hu).c2
     have lk := (B1.ext hu).lt
     obtain ⟨p0, p1, p2, p3, p4, p5, p6, p7⟩ := (B4.ext hu).c8
     have lp := (B4.ext hu).lt
     repeat (first | go_big_quiet_skip | (go_big_quiet_want; go_big_quiet_op; go_big_quiet_on))
     refine wpQuiet_nil ?_
     rfl
    refine Jv (g := 3) [6, 7] [_, _] ⟨rfl, rfl, trivial⟩ (by kernel_rfl) (by kernel_rfl) ?_
    simp only [Qc, Qd, Qe]
    apply Exists.intro
    refine ⟨fun u hu => ?_, ?_⟩
    ·repeat (first | go_big_quiet_skip | (go_big_quiet_want; go_big_quiet_op; go_big_quiet_on))
     refine wpQuiet_nil ?_
     rfl
    refine Qj 8 rfl (by kernel_rfl) ?_
    simp only [Qc, Qd, Qe]
    go_wp2
    obtain ⟨b9, wb, hbq, hwb, H5, HC', hx, g5⟩ := Qv HC 85 #[.int .i64 0, .int .i64 0, .int .i64 0, .int .i64 0, .int .i64 0, .int .i64 0]
    rw [← hbq, ← hwb]
    replace HC := HC'
    clear hbq hwb hx HC'
    refine Qi HC ?_
    refine Qm 9 rfl (by kernel_rfl) ?_
    simp only [Qc, Qd, Qe]
    have z0 := H5.frozen 0
    have z1 := H5.frozen 1
    have z2 := H5.frozen 2
    have z3 := H5.frozen 3
    have z4 := H5.frozen 4
    have z5 := H5.frozen 5
    obtain ⟨x0, x1, x2, x3, x4, x5⟩ := H5.c6
    have lx := H5.lt
    go_wp2
    have H6 := Yf H5 (.int .i64 56) (.int .i64 1) (.int .i64 56) (.int .i64 5) (.int .i64 0) (.int .i64 1)
    replace HC := Yd HC g5 (.int .i64 56) (.int .i64 1) (.int .i64 56) (.int .i64 5) (.int .i64 0) (.int .i64 1)
    clear z0 x0 z1 x1 z2 x2 z3 x3 z4 x4 z5 x5 lx H5
    generalize World.setCell _ _ _ = wq at *
    refine Ql ?_
    refine Qm 10 rfl (by kernel_rfl) ?_
    simp only [Qc, Qd, Qe]
    go_wp2
    refine Ql ?_
    refine Qt (by kernel_rfl) ?_
    exact Js b9 ⟨HC, H6⟩ rfl
   ·simp only [Qc, Qd, Qe]
    go_wp2
    obtain ⟨b9, wb, hbq, hwb, H5, HC', hx, g5⟩ := Qv HC 85 #[.int .i64 0, .int .i64 0, .int .i64 0, .int .i64 0, .int .i64 0, .int .i64 0]
    rw [← hbq, ← hwb]
    replace HC := HC'
    clear hbq hwb hx HC'
    refine Qi HC ?_
    refine Qj 4 rfl (by kernel_rfl) ?_
    simp only [Qc, Qd, Qe]
    go_wp2_with (go_at_call 38; (with_reducible refine Calls.mono (Hq (C.ext HC) (PR.ext HC) (Z.ext HC)) ?_); rintro e wa ⟨rfl, hx⟩)
    replace HC := HC.trans hx
    try replace H5 := H5.ext hx
    clear hx
    refine Qi HC ?_
    refine Qp (g := 4) [5] [_] ⟨rfl, trivial⟩ (by kernel_rfl) (by kernel_rfl) HC ?_
    simp only [Qc, Qd, Qe]
    apply Exists.intro
    refine ⟨fun u hu => ?_, ?_⟩
    ·obtain ⟨k0, k1⟩ := (B1.ext hu).c2
     have lk := (B1.ext hu).lt
     obtain ⟨p0, p1, p2, p3, p4, p5, p6, p7⟩ := (B4.ext hu).c8
     have lp := (B4.ext hu).lt
     repeat (first | go_big_quiet_skip | (go_big_quiet_want; go_big_quiet_op; go_big_quiet_on))
     refine wpQuiet_nil ?_
     rfl
    refine Jv (g := 2) [6, 7] [_, _] ⟨rfl, rfl, trivial⟩ (by kernel_rfl) (by kernel_rfl) ?_
    simp only [Qc, Qd, Qe]
    apply Exists.intro
    refine ⟨fun u hu => ?_, ?_⟩
    ·repeat (first | go_big_quiet_skip | (go_big_quiet_want; go_big_quiet_op; go_big_quiet_on))
     refine wpQuiet_nil ?_
     rfl
    refine Qm 9 rfl (by kernel_rfl) ?_
    simp only [Qc, Qd, Qe]
    have z0 := H5.frozen 0
    have z1 := H5.frozen 1
    have z2 := H5.frozen 2
    have z3 := H5.frozen 3
    have z4 := H5.frozen 4
    have z5 := H5.frozen 5
    obtain ⟨x0, x1, x2, x3, x4, x5⟩ := H5.c6
    have lx := H5.lt
    go_wp2
    have H6 := Yf H5 (.int .i64 56) (.int .i64 1) (.int .i64 56) (.int .i64 5) (.int .i64 0) (.int .i64 1)
    replace HC := Yd HC g5 (.int .i64 56) (.int .i64 1) (.int .i64 56) (.int .i64 5) (.int .i64 0) (.int .i64 1)
    clear z0 x0 z1 x1 z2 x2 z3 x3 z4 x4 z5 x5 lx H5
    generalize World.setCell _ _ _ = wq at *
    refine Ql ?_
    refine Qm 10 rfl (by kernel_rfl) ?_
    simp only [Qc, Qd, Qe]
    go_wp2
    refine Ql ?_
    refine Qt (by kernel_rfl) ?_
    exact Js b9 ⟨HC, H6⟩ rfl
  ·simp only [Qc, Qd, Qe]
   go_wp2
   obtain ⟨b9, wb, hbq, hwb, H5, HC', hx, g5⟩ := Qv HC 85 #[.int .i64 0, .int .i64 0, .int .i64 0, .int .i64 0, .int .i64 0, .int .i64 0]
   rw [← hbq, ← hwb]
   replace HC := HC'
   clear hbq hwb hx HC'
   refine Qi HC ?_
   refine Qj 3 rfl (by kernel_rfl) ?_
   simp only [Qc, Qd, Qe]
   go_wp2_with (go_at_call 39; (with_reducible refine Calls.mono (Yg _ _ _ _) ?_); rintro e wa ⟨rfl, hx⟩)
   replace HC := HC.trans hx
   try replace H5 := H5.ext hx
   clear hx
   refine Qi HC ?_
   refine Qj 4 rfl (by kernel_rfl) ?_
   simp only [Qc, Qd, Qe]
   go_wp2_with (go_at_call 38; (with_reducible refine Calls.mono (Hq (C.ext HC) (PR.ext HC) (Z.ext HC)) ?_); rintro e wa ⟨rfl, hx⟩)
   replace HC := HC.trans hx
   try replace H5 := H5.ext hx
   clear hx
   refine Qi HC ?_
   refine Qp (g := 4) [5] [_] ⟨rfl, trivial⟩ (by kernel_rfl) (by kernel_rfl) HC ?_
   simp only [Qc, Qd, Qe]
   apply Exists.intro
   refine ⟨fun u hu => ?_, ?_⟩
   ·obtain ⟨k0, k1⟩ := (B1.ext hu).c2
    have lk := (B1.ext hu).lt
    obtain ⟨p0, p1, p2, p3, p4, p5, p6, p7⟩ := (B4.ext hu).c8
    have lp := (B4.ext hu).lt
    repeat (first | go_big_quiet_skip | (go_big_quiet_want; go_big_quiet_op; go_big_quiet_on))
    refine wpQuiet_nil ?_
    rfl
   refine Jv (g := 2) [6, 7] [_, _] ⟨rfl, rfl, trivial⟩ (by kernel_rfl) (by kernel_rfl) ?_
   simp only [Qc, Qd, Qe]
   apply Exists.intro
   refine ⟨fun u hu => ?_, ?_⟩
   ·repeat (first | go_big_quiet_skip | (go_big_quiet_want; go_big_quiet_op; go_big_quiet_on))
    refine wpQuiet_nil ?_
    rfl
   refine Qm 9 rfl (by kernel_rfl) ?_
   simp only [Qc, Qd, Qe]
   have z0 := H5.frozen 0
   have z1 := H5.frozen 1
   have z2 := H5.frozen 2
   have z3 := H5.frozen 3
   have z4 := H5.frozen 4
   have z5 := H5.frozen 5
   obtain ⟨x0, x1, x2, x3, x4, x5⟩ := H5.c6
   have lx := H5.lt
   go_wp2
   have H6 := Yf H5 (.int .i64 56) (.int .i64 1) (.int .i64 56) (.int .i64 5) (.int .i64 0) (.int .i64 1)
   replace HC := Yd HC g5 (.int .i64 56) (.int .i64 1) (.int .i64 56) (.int .i64 5) (.int .i64 0) (.int .i64 1)
   clear z0 x0 z1 x1 z2 x2 z3 x3 z4 x4 z5 x5 lx H5
   generalize World.setCell _ _ _ = wq at *
   refine Ql ?_
   refine Qm 10 rfl (by kernel_rfl) ?_
   simp only [Qc, Qd, Qe]
   go_wp2
   refine Ql ?_
   refine Qt (by kernel_rfl) ?_
   exact Js b9 ⟨HC, H6⟩ rfl
 rintro b5 v5 ⟨h2, B5⟩
 replace E := E.trans h2
 replace C := C.ext h2
 replace Z := Z.ext h2
 replace B1 := B1.ext h2
 replace B2 := B2.ext h2
 replace PR := PR.ext h2
 replace B4 := B4.ext h2
 clear h2
 go_upto_region 6 with (fail)
 apply Ug (S := fun w' r => Qa v5 w' ∧ Qb w' r 73 #[.int .i64 336, .int .i64 5])
 ·refine Zk 11 [6, 7, 9, 10] (fun x => Qa v5 x) Qo rfl ?_
  intro vz hvz
  have HC := hvz
  refine Qp (g := 8) [0, 1, 2] [_, _, _] ⟨rfl, rfl, rfl, trivial⟩ (by kernel_rfl) (by kernel_rfl) HC ?_
  simp only [Qc, Qd, Qe]
  apply Exists.intro
  refine ⟨fun u hu => ?_, ?_⟩
  ·obtain ⟨k0, k1⟩ := (B1.ext hu).c2
   have lk := (B1.ext hu).lt
   obtain ⟨p0, p1, p2, p3, p4, p5, p6, p7⟩ := (B4.ext hu).c8
   have lp := (B4.ext hu).lt
   repeat (first | go_big_quiet_skip | (go_big_quiet_want; go_big_quiet_op; go_big_quiet_on))
   refine wpQuiet_nil ?_
   rfl
  refine Zm 3 8 rfl rfl (by kernel_rfl) ?_ ?_
  ·simp only [Qc, Qd, Qe]
   go_wp2_with (go_at_call 39; (with_reducible refine Calls.mono (Yg _ _ _ _) ?_); rintro e wa ⟨rfl, hx⟩)
   replace HC := HC.trans hx
   try replace H5 := H5.ext hx
   clear hx
   refine Qi HC ?_
   refine Zm 4 8 rfl rfl (by kernel_rfl) ?_ ?_
   ·simp only [Qc, Qd, Qe]
    go_wp2_with (go_at_call 40; (with_reducible refine Calls.mono (Hu (C.ext HC) (PR.ext HC) (Z.ext HC)) ?_); rintro e wa ⟨rfl, hx⟩)
    replace HC := HC.trans hx
    try replace H5 := H5.ext hx
    clear hx
    refine Qi HC ?_
    refine Qp (g := 5) [5] [_] ⟨rfl, trivial⟩ (by kernel_rfl) (by kernel_rfl) HC ?_
    simp only [Qc, Qd, Qe]
    apply Exists.intro
    refine ⟨fun u hu => ?_, ?_⟩
    ·obtain ⟨k0, k1⟩ := (B1.ext hu).c2
     have lk := (B1.ext hu).lt
     obtain ⟨p0, p1, p2, p3, p4, p5, p6, p7⟩ := (B4.ext hu).c8
     have lp := (B4.ext hu).lt
     repeat (first | go_big_quiet_skip | (go_big_quiet_want; go_big_quiet_op; go_big_quiet_on))
     refine wpQuiet_nil ?_
     rfl
    refine Jv (g := 3) [6, 7] [_, _] ⟨rfl, rfl, trivial⟩ (by kernel_rfl) (by kernel_rfl) ?_
    simp only [Qc, Qd, Qe]
    apply Exists.intro
    refine ⟨fun u hu => ?_, ?_⟩
    ·repeat (first | go_big_quiet_skip | (go_big_quiet_want; go_big_quiet_op; go_big_quiet_on))
     refine wpQuiet_nil ?_
     rfl
    refine Qj 8 rfl (by kernel_rfl) ?_
    simp only [Qc, Qd, Qe]
    go_wp2
    obtain ⟨b9, wb, hbq, hwb, H5, HC', hx, g5⟩ := Qv HC 73 #[.int .i64 0, .int .i64 0]
    rw [← hbq, ← hwb]
    replace HC := HC'
    clear hbq hwb hx HC'
    refine Qi HC ?_
    refine Qm 9 rfl (by kernel_rfl) ?_
    simp only [Qc, Qd, Qe]
    have z0 := H5.frozen 0
    have z1 := H5.frozen 1
    obtain ⟨x0, x1⟩ := H5.c2
    have lx := H5.lt
    go_wp2
    have H6 := Qk H5 (.int .i64 336) (.int .i64 5)
    replace HC := (HC.setCell (p := ⟨b9, 0, none⟩) g5 (.int .i64 336)).setCell (p := ⟨b9, 1, none⟩) g5 (.int .i64 5)
    clear z0 x0 z1 x1 lx H5
    generalize World.setCell _ _ _ = wq at *
    refine Ql ?_
    refine Qm 10 rfl (by kernel_rfl) ?_
    simp only [Qc, Qd, Qe]
    go_wp2
    refine Ql ?_
    refine Qt (by kernel_rfl) ?_
    exact Js b9 ⟨HC, H6⟩ rfl
   ·simp only [Qc, Qd, Qe]
    go_wp2
    obtain ⟨b9, wb, hbq, hwb, H5, HC', hx, g5⟩ := Qv HC 73 #[.int .i64 0, .int .i64 0]
    rw [← hbq, ← hwb]
    replace HC := HC'
    clear hbq hwb hx HC'
    refine Qi HC ?_
    refine Qj 4 rfl (by kernel_rfl) ?_
    simp only [Qc, Qd, Qe]
    go_wp2_with (go_at_call 40; (with_reducible refine Calls.mono (Hu (C.ext HC) (PR.ext HC) (Z.ext HC)) ?_); rintro e wa ⟨rfl, hx⟩)
    replace HC := HC.trans hx
    try replace H5 := H5.ext hx
    clear hx
    refine Qi HC ?_
    refine Qp (g := 4) [5] [_] ⟨rfl, trivial⟩ (by kernel_rfl) (by kernel_rfl) HC ?_
    simp only [Qc, Qd, Qe]
    apply Exists.intro
    refine ⟨fun u hu => ?_, ?_⟩
    ·obtain ⟨k0, k1⟩ := (B1.ext hu).c2
     have lk := (B1.ext hu).lt
     obtain ⟨p0, p1, p2, p3, p4, p5, p6, p7⟩ := (B4.ext hu).c8
     have lp := (B4.ext hu).lt
     repeat (first | go_big_quiet_skip | (go_big_quiet_want; go_big_quiet_op; go_big_quiet_on))
     refine wpQuiet_nil ?_
     rfl
    refine Jv (g := 2) [6, 7] [_, _] ⟨rfl, rfl, trivial⟩ (by kernel_rfl) (by kernel_rfl) ?_
    simp only [Qc, Qd, Qe]
    apply Exists.intro
    refine ⟨fun u hu => ?_, ?_⟩
    ·repeat (first | go_big_quiet_skip | (go_big_quiet_want; go_big_quiet_op; go_big_quiet_on))
     refine wpQuiet_nil ?_
     rfl
    refine Qm 9 rfl (by kernel_rfl) ?_
    simp only [Qc, Qd, Qe]
    have z0 := H5.frozen 0
    have z1 := H5.frozen 1
    obtain ⟨x0, x1⟩ := H5.c2
    have lx := H5.lt
    go_wp2
    have H6 := Qk H5 (.int .i64 336) (.int .i64 5)
    replace HC := (HC.setCell (p := ⟨b9, 0, none⟩) g5 (.int .i64 336)).setCell (p := ⟨b9, 1, none⟩) g5 (.int .i64 5)
    clear z0 x0 z1 x1 lx H5
    generalize World.setCell _ _ _ = wq at *
    refine Ql ?_
    refine Qm 10 rfl (by kernel_rfl) ?_
    simp only [Qc, Qd, Qe]
    go_wp2
    refine Ql ?_
    refine Qt (by kernel_rfl) ?_
    exact Js b9 ⟨HC, H6⟩ rfl
  ·simp only [Qc, Qd, Qe]
   go_wp2
   obtain ⟨b9, wb, hbq, hwb, H5, HC', hx, g5⟩ := Qv HC 73 #[.int .i64 0, .int .i64 0]
   rw [← hbq, ← hwb]
   replace HC := HC'
   clear hbq hwb hx HC'
   refine Qi HC ?_
   refine Qj 3 rfl (by kernel_rfl) ?_
   simp only [Qc, Qd, Qe]
   go_wp2_with (go_at_call 39; (with_reducible refine Calls.mono (Yg _ _ _ _) ?_); rintro e wa ⟨rfl, hx⟩)
   replace HC := HC.trans hx
   try replace H5 := H5.ext hx
   clear hx
   refine Qi HC ?_
   refine Qj 4 rfl (by kernel_rfl) ?_
   simp only [Qc, Qd, Qe]
   go_wp2_with (go_at_call 40; (with_reducible refine Calls.mono (Hu (C.ext HC) (PR.ext HC) (Z.ext HC)) ?_); rintro e wa ⟨rfl, hx⟩)
   replace HC := HC.trans hx
   try replace H5 := H5.ext hx
   clear hx
   refine Qi HC ?_
   refine Qp (g := 4) [5] [_] ⟨rfl, trivial⟩ (by kernel_rfl) (by kernel_rfl) HC ?_
   simp only [Qc, Qd, Qe]
   apply Exists.intro
   refine ⟨fun u hu => ?_, ?_⟩
   ·obtain ⟨k0, k1⟩ := (B1.ext hu).c2
    have lk := (B1.ext hu).lt
    obtain ⟨p0, p1, p2, p3, p4, p5, p6, p7⟩ := (B4.ext hu).c8
    have lp := (B4.ext hu).lt
    repeat (first | go_big_quiet_skip | (go_big_quiet_want; go_big_quiet_op; go_big_quiet_on))
    refine wpQuiet_nil ?_
    rfl
   refine Jv (g := 2) [6, 7] [_, _] ⟨rfl, rfl, trivial⟩ (by kernel_rfl) (by kernel_rfl) ?_
   simp only [Qc, Qd, Qe]
   apply Exists.intro
   refine ⟨fun u hu => ?_, ?_⟩
   ·repeat (first | go_big_quiet_skip | (go_big_quiet_want; go_big_quiet_op; go_big_quiet_on))
    refine wpQuiet_nil ?_
    rfl
   refine Qm 9 rfl (by kernel_rfl) ?_
   simp only [Qc, Qd, Qe]
   have z0 := H5.frozen 0
   have z1 := H5.frozen 1
   obtain ⟨x0, x1⟩ := H5.c2
   have lx := H5.lt
   go_wp2
   have H6 := Qk H5 (.int .i64 336) (.int .i64 5)
   replace HC := (HC.setCell (p := ⟨b9, 0, none⟩) g5 (.int .i64 336)).setCell (p := ⟨b9, 1, none⟩) g5 (.int .i64 5)
   clear z0 x0 z1 x1 lx H5
   generalize World.setCell _ _ _ = wq at *
   refine Ql ?_
   refine Qm 10 rfl (by kernel_rfl) ?_
   simp only [Qc, Qd, Qe]
   go_wp2
   refine Ql ?_
   refine Qt (by kernel_rfl) ?_
   exact Js b9 ⟨HC, H6⟩ rfl
 rintro b6 v6 ⟨h2, B6⟩
 replace E := E.trans h2
 replace C := C.ext h2
 replace Z := Z.ext h2
 replace B1 := B1.ext h2
 replace B2 := B2.ext h2
 replace PR := PR.ext h2
 replace B4 := B4.ext h2
 replace B5 := B5.ext h2
 clear h2
 clear PR B4
 go_upto_region 7 with (fail)
 obtain ⟨k0, k1⟩ := B2.c2
 have lk := B2.lt
 obtain ⟨x0, x1, x2, x3, x4, x5⟩ := B5.c6
 have lx := B5.lt
 obtain ⟨y0, y1⟩ := B6.c2
 have ly := B6.lt
 refine Zd v6 Qo (by kernel_rfl) (by repeat (first | exact Qa.refl _ | (refine Qa.alloc ?_ _) | (refine Qa.trans ?_ (by assumption)))) ?_
 intro hne hrx hry
 try simp only []
 try simp only [List.append_eq, List.cons_append, List.nil_append]
 skip
 repeat (first
  | go_big_quiet_skip
  | (go_big_quiet_want; go_big_quiet_op; go_big_quiet_on)
  | (go_big_quiet_want; go_big_quiet_op; apply Exists.intro; refine ⟨fun u => ?_, ?_⟩
     ·first
       | (go_at_call 35; (with_reducible refine Calls.mono (X4 _ _ _) ?_); rintro e w' ⟨rfl, hb⟩; exact ⟨rfl, u.back hb⟩)
     go_big_quiet_on))
 clear hne hry hrx
 refine wpQuiet_nil ?_
 intro v7 h2
 obtain ⟨hcv7, hfv7, hzv7⟩ := Qa.rules h2
 try simp only [World.size_alloc] at hzv7
 obtain ⟨hcbv7, hfbv7, hzbv7⟩ := Qa.rules (show Qa v6 v7 from (by repeat (first | exact Qa.refl _ | (refine Qa.alloc ?_ _) | (refine Qa.trans ?_ (by assumption)))))
 clear hcv7 hfv7
 replace E := E.trans h2
 replace C := C.ext h2
 replace Z := Z.ext h2
 replace B1 := B1.ext h2
 replace B2 := B2.ext h2
 replace B5 := B5.ext h2
 replace B6 := B6.ext h2
 clear h2
 clear k0 k1 lk x0 x1 x2 x3 x4 x5 lx y0 y1 ly B2 B5 B6
 go_upto_region 10 with (go_at_call 35; (with_reducible refine Calls.mono (X4 _ _ _) ?_); rintro e wa ⟨rfl, hx⟩; replace E := E.trans hx; replace C := C.ext hx; replace Z := Z.ext hx; replace B1 := B1.ext hx; clear hx)
 obtain ⟨v9, hv⟩ := Qg (wa.alloc (.cells #[.int .i64 10, .int .i64 1, .int .i64 1, .int .i64 3, .int .i64 5, .int .i64 1, .int .i64 1, .int .i64 1] 91))
 rw [← hv]
 have h2 : Qa wa v9 := by rw [hv]; exact (Qa.refl _).alloc _
 have B7 : Qb v9 wa.heap.size 91 #[.int .i64 10, .int .i64 1, .int .i64 1, .int .i64 3, .int .i64 5, .int .i64 1, .int .i64 1, .int .i64 1] := by rw [hv]; exact Qb.new _ _ _
 clear hv
 generalize wa.heap.size = b7 at *
 have PT := Qby B7
 clear B7
 replace E := E.trans h2
 replace C := C.ext h2
 replace Z := Z.ext h2
 replace B1 := B1.ext h2
 clear h2
 go_upto_region 10 with (fail)
 apply Wt (S := fun w' r _ => Qa v9 w' ∧ Qb w' r 73 #[.int .i64 (-5), .int .i64 1])
 ·refine Zk 14 [9, 10, 12, 13] (fun x => Qa v9 x) Qo rfl ?_
  intro vz hvz
  have HC := hvz
  refine Qp (g := 12) [0, 1] [_, _] ⟨rfl, rfl, trivial⟩ (by kernel_rfl) (by kernel_rfl) HC ?_
  simp only [Qc, Qd, Qe]
  apply Exists.intro
  refine ⟨fun u hu => ?_, ?_⟩
  ·obtain ⟨k0, k1⟩ := (B1.ext hu).c2
   have lk := (B1.ext hu).lt
   repeat (first | go_big_quiet_skip | (go_big_quiet_want; go_big_quiet_op; go_big_quiet_on))
   refine wpQuiet_nil ?_
   rfl
  refine Zm 2 11 rfl rfl (by kernel_rfl) ?_ ?_
  ·simp only [Qc, Qd, Qe]
   go_wp2_with (go_at_call 35; (with_reducible refine Calls.mono (X4 _ _ _) ?_); rintro e wa ⟨rfl, hx⟩)
   replace HC := HC.trans hx
   try replace H5 := H5.ext hx
   clear hx
   refine Qi HC ?_
   refine Zm 3 11 rfl rfl (by kernel_rfl) ?_ ?_
   ·simp only [Qc, Qd, Qe]
    go_wp2_with (go_at_call 39; (with_reducible refine Calls.mono (Yg _ _ _ _) ?_); rintro e wa ⟨rfl, hx⟩)
    replace HC := HC.trans hx
    try replace H5 := H5.ext hx
    clear hx
    refine Qi HC ?_
    refine Zm 4 11 rfl rfl (by kernel_rfl) ?_ ?_
    ·simp only [Qc, Qd, Qe]
     go_wp2_with (go_at_call 39; (with_reducible refine Calls.mono (Yg _ _ _ _) ?_); rintro e wa ⟨rfl, hx⟩)
     replace HC := HC.trans hx
     try replace H5 := H5.ext hx
     clear hx
     refine Qi HC ?_
     refine Qp (g := 8) [5] [_] ⟨rfl, trivial⟩ (by kernel_rfl) (by kernel_rfl) HC ?_
     simp only [Qc, Qd, Qe]
     apply Exists.intro
     refine ⟨fun u hu => ?_, ?_⟩
     ·obtain ⟨k0, k1⟩ := (B1.ext hu).c2
      have lk := (B1.ext hu).lt
      repeat (first | go_big_quiet_skip | (go_big_quiet_want; go_big_quiet_op; go_big_quiet_on))
      refine wpQuiet_nil ?_
      rfl
     refine Zm 6 11 rfl rfl (by kernel_rfl) ?_ ?_
     ·simp only [Qc, Qd, Qe]
      go_wp2
      obtain ⟨bc, wb, hbq, hwb, HCW, HC', hx, _⟩ := Qv HC 95 #[.int .i64 2, .int .i64 1, .int .i64 2, .int .i64 0, .int .i64 1, .bool false, .int .i64 1, .int .i64 0, .int .i64 1, .bool false, .int .i64 30]
      rw [← hbq, ← hwb]
      replace HC := HC'
      try replace H5 := H5.ext hx
      clear hbq hwb hx HC'
      refine Qi HC ?_
      refine Zm 7 11 rfl rfl (by kernel_rfl) ?_ ?_
      ·simp only [Qc, Qd, Qe]
       go_wp2_with (go_at_call 41; (with_reducible refine Calls.mono (Vt (C.ext HC) (PT.ext HC) (Vo HCW) (Z.ext HC)) ?_); rintro e wa ⟨rfl, hx⟩)
       replace HC := HC.trans hx
       try replace H5 := H5.ext hx
       clear hx
       refine Qi HC ?_
       refine Qp (g := 5) [8] [_] ⟨rfl, trivial⟩ (by kernel_rfl) (by kernel_rfl) HC ?_
       simp only [Qc, Qd, Qe]
       apply Exists.intro
       refine ⟨fun u hu => ?_, ?_⟩
       ·obtain ⟨k0, k1⟩ := (B1.ext hu).c2
        have lk := (B1.ext hu).lt
        repeat (first | go_big_quiet_skip | (go_big_quiet_want; go_big_quiet_op; go_big_quiet_on))
        refine wpQuiet_nil ?_
        rfl
       refine Jv (g := 3) [9, 10] [_, _] ⟨rfl, rfl, trivial⟩ (by kernel_rfl) (by kernel_rfl) ?_
       simp only [Qc, Qd, Qe]
       apply Exists.intro
       refine ⟨fun u hu => ?_, ?_⟩
       ·repeat (first | go_big_quiet_skip | (go_big_quiet_want; go_big_quiet_op; go_big_quiet_on))
        refine wpQuiet_nil ?_
        rfl
       refine Qj 11 rfl (by kernel_rfl) ?_
       simp only [Qc, Qd, Qe]
       go_wp2
       obtain ⟨b9, wb, hbq, hwb, H5, HC', hx, g5⟩ := Qv HC 73 #[.int .i64 0, .int .i64 0]
       rw [← hbq, ← hwb]
       replace HC := HC'
       try replace HCW := HCW.ext hx
       clear hbq hwb hx HC'
       refine Qi HC ?_
       refine Qm 12 rfl (by kernel_rfl) ?_
       simp only [Qc, Qd, Qe]
       have z0 := H5.frozen 0
       have z1 := H5.frozen 1
       obtain ⟨x0, x1⟩ := H5.c2
       have lx := H5.lt
       go_wp2
       have H6 := Qk H5 (.int .i64 (-5)) (.int .i64 1)
       replace HC := (HC.setCell (p := ⟨b9, 0, none⟩) g5 (.int .i64 (-5))).setCell (p := ⟨b9, 1, none⟩) g5 (.int .i64 1)
       clear z0 x0 z1 x1 lx H5
       generalize World.setCell _ _ _ = wq at *
       refine Ql ?_
       refine Qm 13 rfl (by kernel_rfl) ?_
       simp only [Qc, Qd, Qe]
       go_wp2
       refine Ql ?_
       refine Qt (by kernel_rfl) ?_
       exact Z8 b9 bc ⟨HC, H6⟩ rfl
      ·simp only [Qc, Qd, Qe]
       go_wp2
       obtain ⟨b9, wb, hbq, hwb, H5, HC', hx, g5⟩ := Qv HC 73 #[.int .i64 0, .int .i64 0]
       rw [← hbq, ← hwb]
       replace HC := HC'
       try replace HCW := HCW.ext hx
       clear hbq hwb hx HC'
       refine Qi HC ?_
       refine Qj 7 rfl (by kernel_rfl) ?_
       simp only [Qc, Qd, Qe]
       go_wp2_with (go_at_call 41; (with_reducible refine Calls.mono (Vt (C.ext HC) (PT.ext HC) (Vo HCW) (Z.ext HC)) ?_); rintro e wa ⟨rfl, hx⟩)
       replace HC := HC.trans hx
       try replace H5 := H5.ext hx
       clear hx
       refine Qi HC ?_
       refine Qp (g := 4) [8] [_] ⟨rfl, trivial⟩ (by kernel_rfl) (by kernel_rfl) HC ?_
       simp only [Qc, Qd, Qe]
       apply Exists.intro
       refine ⟨fun u hu => ?_, ?_⟩
       ·obtain ⟨k0, k1⟩ := (B1.ext hu).c2
        have lk := (B1.ext hu).lt
        repeat (first | go_big_quiet_skip | (go_big_quiet_want; go_big_quiet_op; go_big_quiet_on))
        refine wpQuiet_nil ?_
        rfl
       refine Jv (g := 2) [9, 10] [_, _] ⟨rfl, rfl, trivial⟩ (by kernel_rfl) (by kernel_rfl) ?_
       simp only [Qc, Qd, Qe]
       apply Exists.intro
       refine ⟨fun u hu => ?_, ?_⟩
       ·repeat (first | go_big_quiet_skip | (go_big_quiet_want; go_big_quiet_op; go_big_quiet_on))
        refine wpQuiet_nil ?_
        rfl
       refine Qm 12 rfl (by kernel_rfl) ?_
       simp only [Qc, Qd, Qe]
       have z0 := H5.frozen 0
       have z1 := H5.frozen 1
       obtain ⟨x0, x1⟩ := H5.c2
       have lx := H5.lt
       go_wp2
       have H6 := Qk H5 (.int .i64 (-5)) (.int .i64 1)
       replace HC := (HC.setCell (p := ⟨b9, 0, none⟩) g5 (.int .i64 (-5))).setCell (p := ⟨b9, 1, none⟩) g5 (.int .i64 1)
       clear z0 x0 z1 x1 lx H5
       generalize World.setCell _ _ _ = wq at *
       refine Ql ?_
       refine Qm 13 rfl (by kernel_rfl) ?_
       simp only [Qc, Qd, Qe]
       go_wp2
       refine Ql ?_
       refine Qt (by kernel_rfl) ?_
       exact Z8 b9 bc ⟨HC, H6⟩ rfl
     ·simp only [Qc, Qd, Qe]
      go_wp2
      obtain ⟨b9, wb, hbq, hwb, H5, HC', hx, g5⟩ := Qv HC 73 #[.int .i64 0, .int .i64 0]
      rw [← hbq, ← hwb]
      replace HC := HC'
      try replace HCW := HCW.ext hx
      clear hbq hwb hx HC'
      refine Qi HC ?_
      refine Qj 6 rfl (by kernel_rfl) ?_
      simp only [Qc, Qd, Qe]
      go_wp2
      obtain ⟨bc, wb, hbq, hwb, HCW, HC', hx, _⟩ := Qv HC 95 #[.int .i64 2, .int .i64 1, .int .i64 2, .int .i64 0, .int .i64 1, .bool false, .int .i64 1, .int .i64 0, .int .i64 1, .bool false, .int .i64 30]
      rw [← hbq, ← hwb]
      replace HC := HC'
      try replace H5 := H5.ext hx
      clear hbq hwb hx HC'
      refine Qi HC ?_
      refine Qj 7 rfl (by kernel_rfl) ?_
      simp only [Qc, Qd, Qe]
      go_wp2_with (go_at_call 41; (with_reducible refine Calls.mono (Vt (C.ext HC) (PT.ext HC) (Vo HCW) (Z.ext HC)) ?_); rintro e wa ⟨rfl, hx⟩)
      replace HC := HC.trans hx
      try replace H5 := H5.ext hx
      clear hx
      refine Qi HC ?_
      refine Qp (g := 4) [8] [_] ⟨rfl, trivial⟩ (by kernel_rfl) (by kernel_rfl) HC ?_
      simp only [Qc, Qd, Qe]
      apply Exists.intro
      refine ⟨fun u hu => ?_, ?_⟩
      ·obtain ⟨k0, k1⟩ := (B1.ext hu).c2
       have lk := (B1.ext hu).lt
       repeat (first | go_big_quiet_skip | (go_big_quiet_want; go_big_quiet_op; go_big_quiet_on))
       refine wpQuiet_nil ?_
       rfl
      refine Jv (g := 2) [9, 10] [_, _] ⟨rfl, rfl, trivial⟩ (by kernel_rfl) (by kernel_rfl) ?_
      simp only [Qc, Qd, Qe]
      apply Exists.intro
      refine ⟨fun u hu => ?_, ?_⟩
      ·repeat (first | go_big_quiet_skip | (go_big_quiet_want; go_big_quiet_op; go_big_quiet_on))
       refine wpQuiet_nil ?_
       rfl
      refine Qm 12 rfl (by kernel_rfl) ?_
      simp only [Qc, Qd, Qe]
      have z0 := H5.frozen 0
      have z1 := H5.frozen 1
      obtain ⟨x0, x1⟩ := H5.c2
      have lx := H5.lt
      go_wp2
      have H6 := Qk H5 (.int .i64 (-5)) (.int .i64 1)
      replace HC := (HC.setCell (p := ⟨b9, 0, none⟩) g5 (.int .i64 (-5))).setCell (p := ⟨b9, 1, none⟩) g5 (.int .i64 1)
      clear z0 x0 z1 x1 lx H5
      generalize World.setCell _ _ _ = wq at *
      refine Ql ?_
      refine Qm 13 rfl (by kernel_rfl) ?_
      simp only [Qc, Qd, Qe]
      go_wp2
      refine Ql ?_
      refine Qt (by kernel_rfl) ?_
      exact Z8 b9 bc ⟨HC, H6⟩ rfl
    ·simp only [Qc, Qd, Qe]
     go_wp2
     obtain ⟨b9, wb, hbq, hwb, H5, HC', hx, g5⟩ := Qv HC 73 #[.int .i64 0, .int .i64 0]
     rw [← hbq, ← hwb]
     replace HC := HC'
     try replace HCW := HCW.ext hx
     clear hbq hwb hx HC'
     refine Qi HC ?_
     refine Qj 4 rfl (by kernel_rfl) ?_
     simp only [Qc, Qd, Qe]
     go_wp2_with (go_at_call 39; (with_reducible refine Calls.mono (Yg _ _ _ _) ?_); rintro e wa ⟨rfl, hx⟩)
     replace HC := HC.trans hx
     try replace H5 := H5.ext hx
     clear hx
     refine Qi HC ?_
     refine Qp (g := 7) [5] [_] ⟨rfl, trivial⟩ (by kernel_rfl) (by kernel_rfl) HC ?_
     simp only [Qc, Qd, Qe]
     apply Exists.intro
     refine ⟨fun u hu => ?_, ?_⟩
     ·obtain ⟨k0, k1⟩ := (B1.ext hu).c2
      have lk := (B1.ext hu).lt
      repeat (first | go_big_quiet_skip | (go_big_quiet_want; go_big_quiet_op; go_big_quiet_on))
      refine wpQuiet_nil ?_
      rfl
     refine Qj 6 rfl (by kernel_rfl) ?_
     simp only [Qc, Qd, Qe]
     go_wp2
     obtain ⟨bc, wb, hbq, hwb, HCW, HC', hx, _⟩ := Qv HC 95 #[.int .i64 2, .int .i64 1, .int .i64 2, .int .i64 0, .int .i64 1, .bool false, .int .i64 1, .int .i64 0, .int .i64 1, .bool false, .int .i64 30]
     rw [← hbq, ← hwb]
     replace HC := HC'
     try replace H5 := H5.ext hx
     clear hbq hwb hx HC'
     refine Qi HC ?_
     refine Qj 7 rfl (by kernel_rfl) ?_
     simp only [Qc, Qd, Qe]
     go_wp2_with (go_at_call 41; (with_reducible refine Calls.mono (Vt (C.ext HC) (PT.ext HC) (Vo HCW) (Z.ext HC)) ?_); rintro e wa ⟨rfl, hx⟩)
     replace HC := HC.trans hx
     try replace H5 := H5.ext hx
     clear hx
     refine Qi HC ?_
     refine Qp (g := 4) [8] [_] ⟨rfl, trivial⟩ (by kernel_rfl) (by kernel_rfl) HC ?_
     simp only [Qc, Qd, Qe]
     apply Exists.intro
     refine ⟨fun u hu => ?_, ?_⟩
     ·obtain ⟨k0, k1⟩ := (B1.ext hu).c2
      have lk := (B1.ext hu).lt
      repeat (first | go_big_quiet_skip | (go_big_quiet_want; go_big_quiet_op; go_big_quiet_on))
      refine wpQuiet_nil ?_
      rfl
     refine Jv (g := 2) [9, 10] [_, _] ⟨rfl, rfl, trivial⟩ (by kernel_rfl) (by kernel_rfl) ?_
     simp only [Qc, Qd, Qe]
     apply Exists.intro
     refine ⟨fun u hu => ?_, ?_⟩
     ·repeat (first | go_big_quiet_skip | (go_big_quiet_want; go_big_quiet_op; go_big_quiet_on))
      refine wpQuiet_nil ?_
      rfl
     refine Qm 12 rfl (by kernel_rfl) ?_
     simp only [Qc, Qd, Qe]
     have z0 := H5.frozen 0
     have z1 := H5.frozen 1
     obtain ⟨x0, x1⟩ := H5.c2
     have lx := H5.lt
     go_wp2
     have H6 := Qk H5 (.int .i64 (-5)) (.int .i64 1)
     replace HC := (HC.setCell (p := ⟨b9, 0, none⟩) g5 (.int .i64 (-5))).setCell (p := ⟨b9, 1, none⟩) g5 (.int .i64 1)
     clear z0 x0 z1 x1 lx H5
     generalize World.setCell _ _ _ = wq at *
     refine Ql ?_
     refine Qm 13 rfl (by kernel_rfl) ?_
     simp only [Qc, Qd, Qe]
     go_wp2
     refine Ql ?_
     refine Qt (by kernel_rfl) ?_
     exact Z8 b9 bc ⟨HC, H6⟩ rfl
   ·simp only [Qc, Qd, Qe]
    go_wp2
    obtain ⟨b9, wb, hbq, hwb, H5, HC', hx, g5⟩ := Qv HC 73 #[.int .i64 0, .int .i64 0]
    rw [← hbq, ← hwb]
    replace HC := HC'
    try replace HCW := HCW.ext hx
    clear hbq hwb hx HC'
    refine Qi HC ?_
    refine Qj 3 rfl (by kernel_rfl) ?_
    simp only [Qc, Qd, Qe]
    go_wp2_with (go_at_call 39; (with_reducible refine Calls.mono (Yg _ _ _ _) ?_); rintro e wa ⟨rfl, hx⟩)
    replace HC := HC.trans hx
    try replace H5 := H5.ext hx
    clear hx
    refine Qi HC ?_
    refine Qj 4 rfl (by kernel_rfl) ?_
    simp only [Qc, Qd, Qe]
    go_wp2_with (go_at_call 39; (with_reducible refine Calls.mono (Yg _ _ _ _) ?_); rintro e wa ⟨rfl, hx⟩)
    replace HC := HC.trans hx
    try replace H5 := H5.ext hx
    clear hx
    refine Qi HC ?_
    refine Qp (g := 7) [5] [_] ⟨rfl, trivial⟩ (by kernel_rfl) (by kernel_rfl) HC ?_
    simp only [Qc, Qd, Qe]
    apply Exists.intro
    refine ⟨fun u hu => ?_, ?_⟩
    ·obtain ⟨k0, k1⟩ := (B1.ext hu).c2
     have lk := (B1.ext hu).lt
     repeat (first | go_big_quiet_skip | (go_big_quiet_want; go_big_quiet_op; go_big_quiet_on))
     refine wpQuiet_nil ?_
     rfl
    refine Qj 6 rfl (by kernel_rfl) ?_
    simp only [Qc, Qd, Qe]
    go_wp2
    obtain ⟨bc, wb, hbq, hwb, HCW, HC', hx, _⟩ := Qv HC 95 #[.int .i64 2, .int .i64 1, .int .i64 2, .int .i64 0, .int .i64 1, .bool false, .int .i64 1, .int .i64 0, .int .i64 1, .bool false, .int .i64 30]
    rw [← hbq, ← hwb]
    replace HC := HC'
    try replace H5 := H5.ext hx
    clear hbq hwb hx HC'
    refine Qi HC ?_
    refine Qj 7 rfl (by kernel_rfl) ?_
    simp only [Qc, Qd, Qe]
    go_wp2_with (go_at_call 41; (with_reducible refine Calls.mono (Vt (C.ext HC) (PT.ext HC) (Vo HCW) (Z.ext HC)) ?_); rintro e wa ⟨rfl, hx⟩)
    replace HC := HC.trans hx
    try replace H5 := H5.ext hx
    clear hx
    refine Qi HC ?_
    refine Qp (g := 4) [8] [_] ⟨rfl, trivial⟩ (by kernel_rfl) (by kernel_rfl) HC ?_
    simp only [Qc, Qd, Qe]
    apply Exists.intro
    refine ⟨fun u hu => ?_, ?_⟩
    ·obtain ⟨k0, k1⟩ := (B1.ext hu).c2
     have lk := (B1.ext hu).lt
     repeat (first | go_big_quiet_skip | (go_big_quiet_want; go_big_quiet_op; go_big_quiet_on))
     refine wpQuiet_nil ?_
     rfl
    refine Jv (g := 2) [9, 10] [_, _] ⟨rfl, rfl, trivial⟩ (by kernel_rfl) (by kernel_rfl) ?_
    simp only [Qc, Qd, Qe]
    apply Exists.intro
    refine ⟨fun u hu => ?_, ?_⟩
    ·repeat (first | go_big_quiet_skip | (go_big_quiet_want; go_big_quiet_op; go_big_quiet_on))
     refine wpQuiet_nil ?_
     rfl
    refine Qm 12 rfl (by kernel_rfl) ?_
    simp only [Qc, Qd, Qe]
    have z0 := H5.frozen 0
    have z1 := H5.frozen 1
    obtain ⟨x0, x1⟩ := H5.c2
    have lx := H5.lt
    go_wp2
    have H6 := Qk H5 (.int .i64 (-5)) (.int .i64 1)
    replace HC := (HC.setCell (p := ⟨b9, 0, none⟩) g5 (.int .i64 (-5))).setCell (p := ⟨b9, 1, none⟩) g5 (.int .i64 1)
    clear z0 x0 z1 x1 lx H5
    generalize World.setCell _ _ _ = wq at *
    refine Ql ?_
    refine Qm 13 rfl (by kernel_rfl) ?_
    simp only [Qc, Qd, Qe]
    go_wp2
    refine Ql ?_
    refine Qt (by kernel_rfl) ?_
    exact Z8 b9 bc ⟨HC, H6⟩ rfl
  ·simp only [Qc, Qd, Qe]
   go_wp2
   obtain ⟨b9, wb, hbq, hwb, H5, HC', hx, g5⟩ := Qv HC 73 #[.int .i64 0, .int .i64 0]
   rw [← hbq, ← hwb]
   replace HC := HC'
   try replace HCW := HCW.ext hx
   clear hbq hwb hx HC'
   refine Qi HC ?_
   refine Qj 2 rfl (by kernel_rfl) ?_
   simp only [Qc, Qd, Qe]
   go_wp2_with (go_at_call 35; (with_reducible refine Calls.mono (X4 _ _ _) ?_); rintro e wa ⟨rfl, hx⟩)
   replace HC := HC.trans hx
   try replace H5 := H5.ext hx
   clear hx
   refine Qi HC ?_
   refine Qj 3 rfl (by kernel_rfl) ?_
   simp only [Qc, Qd, Qe]
   go_wp2_with (go_at_call 39; (with_reducible refine Calls.mono (Yg _ _ _ _) ?_); rintro e wa ⟨rfl, hx⟩)
   replace HC := HC.trans hx
   try replace H5 := H5.ext hx
   clear hx
   refine Qi HC ?_
   refine Qj 4 rfl (by kernel_rfl) ?_
   simp only [Qc, Qd, Qe]
   go_wp2_with (go_at_call 39; (with_reducible refine Calls.mono (Yg _ _ _ _) ?_); rintro e wa ⟨rfl, hx⟩)
   replace HC := HC.trans hx
   try replace H5 := H5.ext hx
   clear hx
   refine Qi HC ?_
   refine Qp (g := 7) [5] [_] ⟨rfl, trivial⟩ (by kernel_rfl) (by kernel_rfl) HC ?_
   simp only [Qc, Qd, Qe]
   apply Exists.intro
   refine ⟨fun u hu => ?_, ?_⟩
   ·obtain ⟨k0, k1⟩ := (B1.ext hu).c2
    have lk := (B1.ext hu).lt
    repeat (first | go_big_quiet_skip | (go_big_quiet_want; go_big_quiet_op; go_big_quiet_on))
    refine wpQuiet_nil ?_
    rfl
   refine Qj 6 rfl (by kernel_rfl) ?_
   simp only [Qc, Qd, Qe]
   go_wp2
   obtain ⟨bc, wb, hbq, hwb, HCW, HC', hx, _⟩ := Qv HC 95 #[.int .i64 2, .int .i64 1, .int .i64 2, .int .i64 0, .int .i64 1, .bool false, .int .i64 1, .int .i64 0, .int .i64 1, .bool false, .int .i64 30]
   rw [← hbq, ← hwb]
   replace HC := HC'
   try replace H5 := H5.ext hx
   clear hbq hwb hx HC'
   refine Qi HC ?_
   refine Qj 7 rfl (by kernel_rfl) ?_
   simp only [Qc, Qd, Qe]
   go_wp2_with (go_at_call 41; (with_reducible refine Calls.mono (Vt (C.ext HC) (PT.ext HC) (Vo HCW) (Z.ext HC)) ?_); rintro e wa ⟨rfl, hx⟩)
   replace HC := HC.trans hx
   try replace H5 := H5.ext hx
   clear hx
   refine Qi HC ?_
   refine Qp (g := 4) [8] [_] ⟨rfl, trivial⟩ (by kernel_rfl) (by kernel_rfl) HC ?_
   simp only [Qc, Qd, Qe]
   apply Exists.intro
   refine ⟨fun u hu => ?_, ?_⟩
   ·obtain ⟨k0, k1⟩ := (B1.ext hu).c2
    have lk := (B1.ext hu).lt
    repeat (first | go_big_quiet_skip | (go_big_quiet_want; go_big_quiet_op; go_big_quiet_on))
    refine wpQuiet_nil ?_
    rfl
   refine Jv (g := 2) [9, 10] [_, _] ⟨rfl, rfl, trivial⟩ (by kernel_rfl) (by kernel_rfl) ?_
   simp only [Qc, Qd, Qe]
   apply Exists.intro
   refine ⟨fun u hu => ?_, ?_⟩
   ·repeat (first | go_big_quiet_skip | (go_big_quiet_want; go_big_quiet_op; go_big_quiet_on))
    refine wpQuiet_nil ?_
    rfl
   refine Qm 12 rfl (by kernel_rfl) ?_
   simp only [Qc, Qd, Qe]
   have z0 := H5.frozen 0
   have z1 := H5.frozen 1
   obtain ⟨x0, x1⟩ := H5.c2
   have lx := H5.lt
   go_wp2
   have H6 := Qk H5 (.int .i64 (-5)) (.int .i64 1)
   replace HC := (HC.setCell (p := ⟨b9, 0, none⟩) g5 (.int .i64 (-5))).setCell (p := ⟨b9, 1, none⟩) g5 (.int .i64 1)
   clear z0 x0 z1 x1 lx H5
   generalize World.setCell _ _ _ = wq at *
   refine Ql ?_
   refine Qm 13 rfl (by kernel_rfl) ?_
   simp only [Qc, Qd, Qe]
   go_wp2
   refine Ql ?_
   refine Qt (by kernel_rfl) ?_
   exact Z8 b9 bc ⟨HC, H6⟩ rfl
 rintro b10 bc v10 ⟨h2, B10⟩
 replace E := E.trans h2
 replace C := C.ext h2
 replace Z := Z.ext h2
 replace B1 := B1.ext h2
 replace PT := PT.ext h2
 clear h2
 go_upto_region 11 with (fail)
 obtain ⟨k0, k1⟩ := B1.c2
 have lk := B1.lt
 refine Zd v10 Qo (by kernel_rfl) (by repeat (first | exact Qa.refl _ | (refine Qa.alloc ?_ _) | (refine Qa.trans ?_ (by assumption)))) ?_
 intro hne hrx hry
 try simp only []
 try simp only [List.append_eq, List.cons_append, List.nil_append]
 skip
 repeat (first
  | go_big_quiet_skip
  | (go_big_quiet_want; go_big_quiet_op; go_big_quiet_on)
  | (go_big_quiet_want; go_big_quiet_op; apply Exists.intro; refine ⟨fun u => ?_, ?_⟩
     ·first
       | (go_at_call 35; (with_reducible refine Calls.mono (X4 _ _ _) ?_); rintro e w' ⟨rfl, hb⟩; exact ⟨rfl, u.back hb⟩)
       | (go_at_call 39; (with_reducible refine Calls.mono (Yg _ _ _ _) ?_); rintro e w' ⟨rfl, hb⟩; exact ⟨rfl, u.back hb⟩)
       | (go_at_call 42; (with_reducible refine Calls.mono (w8_few (C.ext u.e) (PT.ext u.e) (Z.ext u.e)) ?_); rintro e w' ⟨rfl, hb⟩; exact ⟨rfl, u.back hb⟩)
     go_big_quiet_on))
 clear hne hry hrx
 refine wpQuiet_nil ?_
 intro v11 h2
 obtain ⟨hcv11, hfv11, hzv11⟩ := Qa.rules h2
 try simp only [World.size_alloc] at hzv11
 obtain ⟨hcbv11, hfbv11, hzbv11⟩ := Qa.rules (show Qa v10 v11 from (by repeat (first | exact Qa.refl _ | (refine Qa.alloc ?_ _) | (refine Qa.trans ?_ (by assumption)))))
 clear hcv11 hfv11
 replace E := E.trans h2
 replace C := C.ext h2
 replace Z := Z.ext h2
 replace B1 := B1.ext h2
 replace PT := PT.ext h2
 replace B10 := B10.ext h2
 clear h2
 clear k0 k1 lk PT
 go_upto_region 13 with (first | (go_at_call 35; (with_reducible refine Calls.mono (X4 _ _ _) ?_); rintro e wa ⟨rfl, hx⟩; replace E := E.trans hx; replace C := C.ext hx; replace Z := Z.ext hx; replace B1 := B1.ext hx; replace B10 := B10.ext hx; clear hx) | (go_at_call 43; (with_reducible refine Calls.mono (Qcy _) ?_); rintro e w12 ⟨rfl, hx⟩; replace E := E.trans hx; replace C := C.ext hx; replace Z := Z.ext hx; replace B1 := B1.ext hx; replace B10 := B10.ext hx; clear hx))
 obtain ⟨v12, hv⟩ := Qg (w12.alloc (.cells #[.int .i64 12, .int .i64 4, .int .i64 7] 99))
 rw [← hv]
 have h2 : Qa w12 v12 := by rw [hv]; exact (Qa.refl _).alloc _
 have B12 : Qb v12 w12.heap.size 99 #[.int .i64 12, .int .i64 4, .int .i64 7] := by rw [hv]; exact Qb.new _ _ _
 clear hv
 generalize w12.heap.size = b12 at *
 replace E := E.trans h2
 replace C := C.ext h2
 replace Z := Z.ext h2
 replace B1 := B1.ext h2
 replace B10 := B10.ext h2
 clear h2
 obtain ⟨x0, x1⟩ := B10.c2
 have lx := B10.lt
 obtain ⟨y0, y1, y2⟩ := B12.c3
 have ly := B12.lt
 refine Zd v12 Qo (by kernel_rfl) (by repeat (first | exact Qa.refl _ | (refine Qa.alloc ?_ _) | (refine Qa.trans ?_ (by assumption)))) ?_
 intro hne hrx hry
 try simp only []
 try simp only [List.append_eq, List.cons_append, List.nil_append]
 skip
 repeat (first
  | go_big_quiet_skip
  | (go_big_quiet_want; go_big_quiet_op; go_big_quiet_on)
  | (go_big_quiet_want; go_big_quiet_op; apply Exists.intro; refine ⟨fun u => ?_, ?_⟩
     ·first
       | (go_at_call 35; (with_reducible refine Calls.mono (X4 _ _ _) ?_); rintro e w' ⟨rfl, hb⟩; exact ⟨rfl, u.back hb⟩)
     go_big_quiet_on))
 clear hne hry hrx
 refine wpQuiet_nil ?_
 intro v13 h2
 obtain ⟨hcv13, hfv13, hzv13⟩ := Qa.rules h2
 try simp only [World.size_alloc] at hzv13
 obtain ⟨hcbv13, hfbv13, hzbv13⟩ := Qa.rules (show Qa v12 v13 from (by repeat (first | exact Qa.refl _ | (refine Qa.alloc ?_ _) | (refine Qa.trans ?_ (by assumption)))))
 clear hcv13 hfv13
 clear x0 x1 lx y0 y1 y2 ly B10 B12
 replace E := E.trans h2
 replace C := C.ext h2
 replace Z := Z.ext h2
 replace B1 := B1.ext h2
 clear h2
 go_upto_region 15 with (fail)
 refine Zk 18 [14, 15, 16, 17] (fun x => Qa v13 x) Qo rfl ?_
 intro vz hvz
 have HC := hvz
 refine Qp (g := 17) [0] [_] ⟨rfl, trivial⟩ (by kernel_rfl) (by kernel_rfl) HC ?_
 simp only [List.getElem_toArray, List.getElem_cons_zero]
 apply Exists.intro
 refine ⟨fun u hu => ?_, ?_⟩
 ·obtain ⟨k0, k1⟩ := (B1.ext hu).c2
  have lk := (B1.ext hu).lt
  repeat (first | go_big_quiet_skip | (go_big_quiet_want; go_big_quiet_op; go_big_quiet_on))
  refine wpQuiet_nil ?_
  rfl
 refine Qj 1 rfl (by kernel_rfl) ?_
 simp only [Qc, Qd, Qe]
 go_wp2_with (go_at_call 39; (with_reducible refine Calls.mono (Yg _ _ _ _) ?_); rintro e wa ⟨rfl, hx⟩)
 replace HC := HC.trans hx
 try replace LO := LO.ext hx
 try replace LX := LX.ext hx
 try replace LY := LY.ext hx
 clear hx
 refine Qi HC ?_
 refine Qj 2 rfl (by kernel_rfl) ?_
 simp only [Qc, Qd, Qe]
 go_wp2_with (go_at_call 39; (with_reducible refine Calls.mono (Yg _ _ _ _) ?_); rintro e wa ⟨rfl, hx⟩)
 replace HC := HC.trans hx
 try replace LO := LO.ext hx
 try replace LX := LX.ext hx
 try replace LY := LY.ext hx
 clear hx
 refine Qi HC ?_
 refine Qj 3 rfl (by kernel_rfl) ?_
 simp only [Qc, Qd, Qe]
 go_wp2_with (go_at_call 44; (with_reducible refine Calls.mono (Lj _ _ _) ?_); rintro e wa ⟨bo, rfl, hx, LO⟩)
 replace HC := HC.trans hx
 try replace LX := LX.ext hx
 try replace LY := LY.ext hx
 clear hx
 refine Qi HC ?_
 refine Qj 4 rfl (by kernel_rfl) ?_
 simp only [Qc, Qd, Qe]
 go_wp2_with (go_at_call 39; (with_reducible refine Calls.mono (Yg _ _ _ _) ?_); rintro e wa ⟨rfl, hx⟩)
 replace HC := HC.trans hx
 try replace LO := LO.ext hx
 try replace LX := LX.ext hx
 try replace LY := LY.ext hx
 clear hx
 refine Qi HC ?_
 refine Qj 5 rfl (by kernel_rfl) ?_
 simp only [Qc, Qd, Qe]
 go_wp2_with (go_at_call 44; (with_reducible refine Calls.mono (Lj _ _ _) ?_); rintro e wa ⟨bx, rfl, hx, LX⟩)
 replace HC := HC.trans hx
 try replace LO := LO.ext hx
 try replace LY := LY.ext hx
 clear hx
 refine Qi HC ?_
 refine Qp (g := 11) [6] [_] ⟨rfl, trivial⟩ (by kernel_rfl) (by kernel_rfl) HC ?_
 simp only [Qc, Qd, Qe]
 apply Exists.intro
 refine ⟨fun u hu => ?_, ?_⟩
 ·obtain ⟨k0, k1⟩ := (B1.ext hu).c2
  have lk := (B1.ext hu).lt
  repeat (first | go_big_quiet_skip | (go_big_quiet_want; go_big_quiet_op; go_big_quiet_on))
  refine wpQuiet_nil ?_
  rfl
 refine Qj 7 rfl (by kernel_rfl) ?_
 simp only [Qc, Qd, Qe]
 go_wp2_with (go_at_call 39; (with_reducible refine Calls.mono (Yg _ _ _ _) ?_); rintro e wa ⟨rfl, hx⟩)
 replace HC := HC.trans hx
 try replace LO := LO.ext hx
 try replace LX := LX.ext hx
 try replace LY := LY.ext hx
 clear hx
 refine Qi HC ?_
 refine Qj 8 rfl (by kernel_rfl) ?_
 simp only [Qc, Qd, Qe]
 go_wp2_with (go_at_call 44; (with_reducible refine Calls.mono (Lj _ _ _) ?_); rintro e wa ⟨by', rfl, hx, LY⟩)
 replace HC := HC.trans hx
 try replace LO := LO.ext hx
 try replace LX := LX.ext hx
 clear hx
 refine Qi HC ?_
 refine Qp (g := 8) [9] [_] ⟨rfl, trivial⟩ (by kernel_rfl) (by kernel_rfl) HC ?_
 simp only [Qc, Qd, Qe]
 apply Exists.intro
 refine ⟨fun u hu => ?_, ?_⟩
 ·obtain ⟨k0, k1⟩ := (B1.ext hu).c2
  have lk := (B1.ext hu).lt
  repeat (first | go_big_quiet_skip | (go_big_quiet_want; go_big_quiet_op; go_big_quiet_on))
  refine wpQuiet_nil ?_
  rfl
 refine Qj 10 rfl (by kernel_rfl) ?_
 simp only [Qc, Qd, Qe]
 go_wp2
 obtain ⟨bd, wb, hbq, hwb, HD, HC', hx, _⟩ := Qv HC 70 #[.int .i64 0, .int .i64 1, .bool false, .int .i64 2, .bool true, .string ⟨#[98]⟩, .slice (some ⟨bx, 0, none⟩) 1 1, .int .i64 0, .int .i64 1, .bool false, .int .i64 2, .bool false, .string ⟨#[98]⟩, .slice (some ⟨by', 0, none⟩) 1 1]
 rw [← hbq, ← hwb]
 replace HC := HC'
 try replace LO := LO.ext hx
 try replace LX := LX.ext hx
 try replace LY := LY.ext hx
 clear hbq hwb hx HC'
 refine Qi HC ?_
 refine Qp (g := 6) [11] [_] ⟨rfl, trivial⟩ (by kernel_rfl) (by kernel_rfl) HC ?_
 simp only [Qc, Qd, Qe]
 apply Exists.intro
 refine ⟨fun u hu => ?_, ?_⟩
 ·obtain ⟨k0, k1⟩ := (B1.ext hu).c2
  have lk := (B1.ext hu).lt
  repeat (first | go_big_quiet_skip | (go_big_quiet_want; go_big_quiet_op; go_big_quiet_on))
  refine wpQuiet_nil ?_
  rfl
 refine Qj 12 rfl (by kernel_rfl) ?_
 simp only [Qc, Qd, Qe]
 have NC := Qcx (C.ext HC) LO LX LY HD
 go_wp2_with (go_at_call 9; (with_reducible refine Calls.mono (NC) ?_); rintro e wa ⟨v16, rfl, hx, L16⟩)
 replace HC := HC.trans hx
 clear hx NC
 refine Qi HC ?_
 refine Qp (g := 4) [13] [_] ⟨rfl, trivial⟩ (by kernel_rfl) (by kernel_rfl) HC ?_
 simp only [Qc, Qd, Qe]
 apply Exists.intro
 refine ⟨fun u hu => ?_, ?_⟩
 ·obtain ⟨k0, k1⟩ := (B1.ext hu).c2
  have lk := (B1.ext hu).lt
  repeat (first | go_big_quiet_skip | (go_big_quiet_want; go_big_quiet_op; go_big_quiet_on))
  refine wpQuiet_nil ?_
  rfl
 refine Jv (g := 2) [14, 15] [_, _] ⟨rfl, rfl, trivial⟩ (by kernel_rfl) (by kernel_rfl) ?_
 simp only [Qc, Qd, Qe]
 apply Exists.intro
 refine ⟨fun u hu => ?_, ?_⟩
 ·repeat (first | go_big_quiet_skip | (go_big_quiet_want; go_big_quiet_op; go_big_quiet_on))
  refine wpQuiet_nil ?_
  rfl
 refine Qm 16 rfl (by kernel_rfl) ?_
 simp only [Qc, Qd, Qe]
 go_wp2
 refine Ql ?_
 refine Qm 17 rfl (by kernel_rfl) ?_
 simp only [Qc, Qd, Qe]
 go_wp2
 refine Ql ?_
 refine Qt (by kernel_rfl) ?_
 replace E := E.trans HC
 clear HC LO LX LY HD
 go_wp2_with (first | (go_at_call 44; (with_reducible refine Calls.mono (Lj _ _ _) ?_); rintro e wa ⟨bl, rfl, hx, LL⟩; have NS := Qb4 _ _ [⟨Xo, -5⟩] [⟨Xo, -5⟩] _ (L16.ext hx) LL; rw [decide_eq_true (rfl : ([⟨Xo, -5⟩] : List Lt) = [⟨Xo, -5⟩])] at NS) | (go_at_call 45; (with_reducible refine Calls.mono (NS) ?_); rintro e wz ⟨rfl, hz⟩))
 go_ret
 exact ⟨rfl, (E.trans hx).trans hz⟩
end
end Go.Proofs.YtneiofnlmblglaaGreatDoor
