/- The walk of LedgerPeriodJoins. -/
import Derived.Test.YtneiofnlmblglaaGreatDoorCRTm
import Derived.Test.YtneiofnlmblglaaGreatDoorCRTo
import Derived.Test.YtneiofnlmblglaaGreatDoorR13
import Derived.Test.YtneiofnlmblglaaGreatDoorCROb
set_option maxRecDepth 100000
set_option maxHeartbeats 4000000
namespace Go.Proofs.YtneiofnlmblglaaGreatDoor
open Go Go.RowKit Go.Shelf
attribute [local go_sem] Zs
def cutF (A : Option Addr → Nat → Option Addr → Nat → Option Addr → Nat → Option Addr → Nat → Option Addr → Nat → Option Addr → Nat → Nat → Nat → Act) (S : World → Option Addr → Nat → Option Addr → Nat → Option Addr → Nat → Option Addr → Nat → Option Addr → Nat → Option Addr → Nat → Nat → Nat → Prop) : Exit → Act → World → Prop := fun e a' w' => e = .normal ∧ ∃ F1 m1 F2 m2 F3 m3 G1 n1 G2 n2 G3 n3 p1 p2, S w' F1 m1 F2 m2 F3 m3 G1 n1 G2 n2 G3 n3 p1 p2 ∧ a' = A F1 m1 F2 m2 F3 m3 G1 n1 G2 n2 G3 n3 p1 p2
theorem cutF_is {A : Option Addr → Nat → Option Addr → Nat → Option Addr → Nat → Option Addr → Nat → Option Addr → Nat → Option Addr → Nat → Nat → Nat → Act} {S : World → Option Addr → Nat → Option Addr → Nat → Option Addr → Nat → Option Addr → Nat → Option Addr → Nat → Option Addr → Nat → Nat → Nat → Prop} {w' : World} (F1 : Option Addr) (m1 : Nat) (F2 : Option Addr) (m2 : Nat) (F3 : Option Addr) (m3 : Nat) (G1 : Option Addr) (n1 : Nat) (G2 : Option Addr) (n2 : Nat) (G3 : Option Addr) (n3 p1 p2 : Nat) {a' : Act} (h : S w' F1 m1 F2 m2 F3 m3 G1 n1 G2 n2 G3 n3 p1 p2) (ha : a' = A F1 m1 F2 m2 F3 m3 G1 n1 G2 n2 G3 n3 p1 p2) : cutF A S .normal a' w' := ⟨rfl, F1, m1, F2, m2, F3, m3, G1, n1, G2, n2, G3, n3, p1, p2, h, ha⟩
theorem wp_cutF {P : Program} {c : Code} {Q : Exit → Act → World → Prop} {a : Act} {w : World} {A : Option Addr → Nat → Option Addr → Nat → Option Addr → Nat → Option Addr → Nat → Option Addr → Nat → Option Addr → Nat → Nat → Nat → Act} (S : World → Option Addr → Nat → Option Addr → Nat → Option Addr → Nat → Option Addr → Nat → Option Addr → Nat → Option Addr → Nat → Nat → Nat → Prop) (h1 : c.wp P (cutF A S) a w) (h2 : ∀ F1 m1 F2 m2 F3 m3 G1 n1 G2 n2 G3 n3 p1 p2 w', S w' F1 m1 F2 m2 F3 m3 G1 n1 G2 n2 G3 n3 p1 p2 → Q .normal (A F1 m1 F2 m2 F3 m3 G1 n1 G2 n2 G3 n3 p1 p2) w') : c.wp P Q a w :=
 Code.wp_mono (fun e a' w' ⟨he, F1, m1, F2, m2, F3, m3, G1, n1, G2, n2, G3, n3, p1, p2, hs, ha⟩ => by subst he; subst ha; exact h2 F1 m1 F2 m2 F3 m3 G1 n1 G2 n2 G3 n3 p1 p2 w' hs) h1
set_option maxHeartbeats 20000000 in
theorem ledgerPeriodJoins_walk (A A' : Option Addr) (ca cb : Nat) (c : Qf) (p q : Pd) (vo vd vc uo ud uc : Value) (w : World) (hC : Q0 w A ca A' cb c) (hP : Zz w p vo vd vc) (hQ : Zz w q uo ud uc) (hL : p.Light) (hM : q.Light) (hZ : Zv w) :
  Calls Tryz.prog 7 #[.agg #[.slice A c.nk ca, .slice A' c.ny cb], .agg #[.string p.h, .int .i64 p.a.y, .int .i64 p.a.m, .bool p.a.s, .int .i64 p.a.d, .int .i64 p.b.y, .int .i64 p.b.m, .bool p.b.s, .int .i64 p.b.d, vo, vd, vc], .agg #[.string q.h, .int .i64 q.a.y, .int .i64 q.a.m, .bool q.a.s, .int .i64 q.a.d, .int .i64 q.b.y, .int .i64 q.b.m, .bool q.b.s, .int .i64 q.b.d, uo, ud, uc]] w fun e w' => e = .returned (.bool true) ∧ Qa w w' := by
 obtain ⟨t1, s1, e1, _⟩ := id hP.o
 subst e1
 obtain ⟨t2, s2, _, e2, _⟩ := id hP.d
 subst e2
 obtain ⟨t3, s3, e3, _⟩ := id hP.c
 subst e3
 obtain ⟨t4, s4, e4, _⟩ := id hQ.o
 subst e4
 obtain ⟨t5, s5, _, e5, _⟩ := id hQ.d
 subst e5
 obtain ⟨t6, s6, e6, _⟩ := id hQ.c
 subst e6
 have NCP := fun v h => Nh p (.slice t1 p.o.length s1) (.slice t2 p.d.length s2) (.slice t3 p.c.length s3) v h hL.o hL.c hL.l hL.d
 have NCQ := fun v h => Nh q (.slice t4 q.o.length s4) (.slice t5 q.d.length s5) (.slice t6 q.c.length s6) v h hM.o hM.c hM.l hM.d
 have N1 := fun v a b e a' b' e' h1 h2 h3 => join_any A A' ca cb c p q a b e a' b' e' v h1 h2 h3
 have N2 := fun v h1 h2 h3 => joinR_any A A' ca cb c p q (.slice t1 p.o.length s1) (.slice t2 p.d.length s2) (.slice t3 p.c.length s3) (.slice t4 q.o.length s4) (.slice t5 q.d.length s5) (.slice t6 q.c.length s6) v h1 h2 h3
 have N5 := fun q v a b e a' b' e' h1 h2 => Qb6 q a b e a' b' e' v h1 h2
 generalize c.joinP p q = X at *
 generalize c.joinE p q = RE at *
 go_enter Tryz.func7, Tryz.ntmps7
 go_upto_region 1 with (fail)
 obtain ⟨v, hv⟩ := Qg (((w.alloc (.cells #[.slice A c.nk ca, .slice A' c.ny cb] 25)).alloc (.cells #[.string p.h, .int .i64 p.a.y, .int .i64 p.a.m, .bool p.a.s, .int .i64 p.a.d, .int .i64 p.b.y, .int .i64 p.b.m, .bool p.b.s, .int .i64 p.b.d, .slice t1 p.o.length s1, .slice t2 p.d.length s2, .slice t3 p.c.length s3] 31)).alloc (.cells #[.string q.h, .int .i64 q.a.y, .int .i64 q.a.m, .bool q.a.s, .int .i64 q.a.d, .int .i64 q.b.y, .int .i64 q.b.m, .bool q.b.s, .int .i64 q.b.d, .slice t4 q.o.length s4, .slice t5 q.d.length s5, .slice t6 q.c.length s6] 31))
 rw [← hv]
 have E : Qa w v := by rw [hv]; exact (((Qa.refl _).alloc _).alloc _).alloc _
 have B1 : Qb v w.heap.size 25 #[.slice A c.nk ca, .slice A' c.ny cb] := by rw [hv]; exact ((Qb.new _ _ _).alloc _).alloc _
 have B2 : Qb v (w.heap.size + 1) 31 #[.string p.h, .int .i64 p.a.y, .int .i64 p.a.m, .bool p.a.s, .int .i64 p.a.d, .int .i64 p.b.y, .int .i64 p.b.m, .bool p.b.s, .int .i64 p.b.d, .slice t1 p.o.length s1, .slice t2 p.d.length s2, .slice t3 p.c.length s3] := by rw [hv]; exact (Qb.at _ _ _ _ (by simp)).alloc _
 have B3 : Qb v (w.heap.size + 1 + 1) 31 #[.string q.h, .int .i64 q.a.y, .int .i64 q.a.m, .bool q.a.s, .int .i64 q.a.d, .int .i64 q.b.y, .int .i64 q.b.m, .bool q.b.s, .int .i64 q.b.d, .slice t4 q.o.length s4, .slice t5 q.d.length s5, .slice t6 q.c.length s6] := by rw [hv]; exact Qb.at _ _ _ _ (by simp)
 clear hv
 obtain ⟨b3, hb3⟩ := Qg (w.heap.size + 1 + 1)
 rw [← hb3] at B3 ⊢
 obtain ⟨b2, hb2⟩ := Qg (w.heap.size + 1)
 rw [← hb2] at B2 ⊢
 obtain ⟨b1, hb1⟩ := Qg (w.heap.size)
 rw [← hb1] at B1 ⊢
 have hbr : w.heap.size ≤ b3 := by omega
 have hbr1 : w.heap.size ≤ b1 := by omega
 have hbr2 : w.heap.size ≤ b2 := by omega
 have hn21 : b2 ≠ b1 := by omega
 have hn31 : b3 ≠ b1 := by omega
 have hn32 : b3 ≠ b2 := by omega
 clear hb1 hb2 hb3
 have Z := hZ.ext E
 have C := hC.ext E
 have P := hP.ext E
 have Q := hQ.ext E
 clear hC hP hQ hZ hL hM
 go_upto_region 1 with (fail)
 apply wp_cutF (S := fun w' F1 m1 F2 m2 F3 m3 G1 n1 G2 n2 G3 n3 p1 p2 => Qa v w' ∧ Qb w' p1 31 #[.string p.h, .int .i64 p.a.y, .int .i64 p.a.m, .bool p.a.s, .int .i64 p.a.d, .int .i64 p.b.y, .int .i64 p.b.m, .bool p.b.s, .int .i64 p.b.d, .slice F1 p.o.length m1, .slice F2 p.d.length m2, .slice F3 p.c.length m3] ∧ Qb w' p2 31 #[.string q.h, .int .i64 q.a.y, .int .i64 q.a.m, .bool q.a.s, .int .i64 q.a.d, .int .i64 q.b.y, .int .i64 q.b.m, .bool q.b.s, .int .i64 q.b.d, .slice G1 q.o.length n1, .slice G2 q.d.length n2, .slice G3 q.c.length n3] ∧ Zz w' p (.slice F1 p.o.length m1) (.slice F2 p.d.length m2) (.slice F3 p.c.length m3) ∧ Zz w' q (.slice G1 q.o.length n1) (.slice G2 q.d.length n2) (.slice G3 q.c.length n3))
 ·refine Zk 8 [6, 7] (fun x => Qa v x) Qo rfl ?_
  intro vz hvz
  have HC := hvz
  refine Qp (g := 6) [0, 2] [_, _] ⟨rfl, rfl, trivial⟩ (by kernel_rfl) (by kernel_rfl) HC ?_
  simp only [Qc, Qd, Qe]
  apply Exists.intro
  refine ⟨fun u hu => ?_, ?_⟩
  ·obtain ⟨p0, p1, p2, p3, p4, p5, p6, p7, p8, p9, p10, p11⟩ := Qb.c12 (Qb.ext B2 hu)
   have pl := Qb.lt (Qb.ext B2 hu)
   obtain ⟨q0, q1, q2, q3, q4, q5, q6, q7, q8, q9, q10, q11⟩ := Qb.c12 (Qb.ext B3 hu)
   have ql := Qb.lt (Qb.ext B3 hu)
   repeat (first | go_big_quiet_skip | (go_big_quiet_want; go_big_quiet_op; go_big_quiet_on))
   refine wpQuiet_nil ?_
   rfl
  refine Ks 1 4 5 rfl rfl rfl (by kernel_rfl) ?_ ?_ ?_
  ·simp only [Qc, Qd, Qe]
   go_wp2_with (go_at_call 8; (with_reducible refine Calls.mono (NCP _ (P.ext HC)) ?_); rintro e wc ⟨vo', vd', vc', rfl, hb, PO1⟩; obtain ⟨F1, m1, rfl⟩ := Q9 PO1.o; obtain ⟨F2, m2, rfl⟩ := J1 PO1.d; obtain ⟨F3, m3, rfl⟩ := Q9 PO1.c)
   replace HC := HC.trans hb
   try replace H10 := H10.ext hb
   try replace H11 := H11.ext hb
   clear hb
   refine Qi HC ?_
   refine Ks 3 4 5 rfl rfl rfl (by kernel_rfl) ?_ ?_ ?_
   ·simp only [Qc, Qd, Qe]
    go_wp2_with (go_at_call 8; (with_reducible refine Calls.mono (NCQ _ (Q.ext HC)) ?_); rintro e wc ⟨vo', vd', vc', rfl, hb, PO2⟩; obtain ⟨G1, n1, rfl⟩ := Q9 PO2.o; obtain ⟨G2, n2, rfl⟩ := J1 PO2.d; obtain ⟨G3, n3, rfl⟩ := Q9 PO2.c)
    replace HC := HC.trans hb
    try replace H10 := H10.ext hb
    try replace H11 := H11.ext hb
    replace PO1 := PO1.ext hb
    clear hb
    refine Qi HC ?_
    refine Zm 4 5 rfl rfl (by kernel_rfl) ?_ ?_
    ·simp only [Qc, Qd, Qe]
     go_wp2
     obtain ⟨p1, wb, hbq, hwb, H10, HC', hx, gp1⟩ := Qv HC 31 #[.string ⟨#[]⟩, .int .i64 0, .int .i64 0, .bool false, .int .i64 0, .int .i64 0, .int .i64 0, .bool false, .int .i64 0, .slice none 0 0, .slice none 0 0, .slice none 0 0]
     rw [← hbq, ← hwb]
     try have ne : p2 < p1 := by have := H11.lt; omega
     replace HC := HC'
     try replace H11 := H11.ext hx
     try replace PO1 := PO1.ext hx
     try replace PO2 := PO2.ext hx
     clear hbq hwb hx HC'
     refine Qi HC ?_
     refine Qj 5 rfl (by kernel_rfl) ?_
     simp only [Qc, Qd, Qe]
     go_wp2
     obtain ⟨p2, wb, hbq, hwb, H11, HC', hx, gp2⟩ := Qv HC 31 #[.string ⟨#[]⟩, .int .i64 0, .int .i64 0, .bool false, .int .i64 0, .int .i64 0, .int .i64 0, .bool false, .int .i64 0, .slice none 0 0, .slice none 0 0, .slice none 0 0]
     rw [← hbq, ← hwb]
     try have ne : p1 < p2 := by have := H10.lt; omega
     replace HC := HC'
     try replace H10 := H10.ext hx
     try replace PO1 := PO1.ext hx
     try replace PO2 := PO2.ext hx
     clear hbq hwb hx HC'
     refine Qi HC ?_
     refine Qm 6 rfl (by kernel_rfl) ?_
     simp only [Qc, Qd, Qe]
     obtain ⟨z0, z1, z2, z3, z4, z5, z6, z7, z8, z9, z10, z11⟩ := Qb.f12 H10
     obtain ⟨x0, x1, x2, x3, x4, x5, x6, x7, x8, x9, x10, x11⟩ := Qb.c12 H10
     have xl := Qb.lt H10
     go_wp2
     obtain ⟨wq, hq, HX, ko, kd, kh, ke⟩ := Jg H10 (by decide) (by decide) (.string p.h) (.int .i64 p.a.y) (.int .i64 p.a.m) (.bool p.a.s) (.int .i64 p.a.d) (.int .i64 p.b.y) (.int .i64 p.b.m) (.bool p.b.s) (.int .i64 p.b.d) (.slice F1 p.o.length m1) (.slice F2 p.d.length m2) (.slice F3 p.c.length m3)
     rw [← hq]
     replace PO1 := Q8.mk (ko PO1.o) (kd PO1.d) (ko PO1.c)
     replace PO2 := Q8.mk (ko PO2.o) (kd PO2.d) (ko PO2.c)
     replace H11 := kh H11 (show p2 ≠ p1 by omega)
     replace HC := ke HC gp1
     clear hq ko kd kh ke H10 z0 x0 z1 x1 z2 x2 z3 x3 z4 x4 z5 x5 z6 x6 z7 x7 z8 x8 z9 x9 z10 x10 z11 x11 xl
     have H10 := HX
     clear HX
     refine Ql ?_
     refine Qm 7 rfl (by kernel_rfl) ?_
     simp only [Qc, Qd, Qe]
     obtain ⟨z0, z1, z2, z3, z4, z5, z6, z7, z8, z9, z10, z11⟩ := Qb.f12 H11
     obtain ⟨x0, x1, x2, x3, x4, x5, x6, x7, x8, x9, x10, x11⟩ := Qb.c12 H11
     have xl := Qb.lt H11
     go_wp2
     obtain ⟨wq, hq, HX, ko, kd, kh, ke⟩ := Jg H11 (by decide) (by decide) (.string q.h) (.int .i64 q.a.y) (.int .i64 q.a.m) (.bool q.a.s) (.int .i64 q.a.d) (.int .i64 q.b.y) (.int .i64 q.b.m) (.bool q.b.s) (.int .i64 q.b.d) (.slice G1 q.o.length n1) (.slice G2 q.d.length n2) (.slice G3 q.c.length n3)
     rw [← hq]
     replace PO1 := Q8.mk (ko PO1.o) (kd PO1.d) (ko PO1.c)
     replace PO2 := Q8.mk (ko PO2.o) (kd PO2.d) (ko PO2.c)
     replace H10 := kh H10 (show p1 ≠ p2 by omega)
     replace HC := ke HC gp2
     clear hq ko kd kh ke H11 z0 x0 z1 x1 z2 x2 z3 x3 z4 x4 z5 x5 z6 x6 z7 x7 z8 x8 z9 x9 z10 x10 z11 x11 xl
     have H11 := HX
     clear HX
     refine Ql ?_
     refine Qt (by kernel_rfl) ?_
     exact cutF_is F1 m1 F2 m2 F3 m3 G1 n1 G2 n2 G3 n3 p1 p2 ⟨HC, H10, H11, Jj PO1, Jj PO2⟩ rfl
    ·simp only [Qc, Qd, Qe]
     go_wp2
     obtain ⟨p2, wb, hbq, hwb, H11, HC', hx, gp2⟩ := Qv HC 31 #[.string ⟨#[]⟩, .int .i64 0, .int .i64 0, .bool false, .int .i64 0, .int .i64 0, .int .i64 0, .bool false, .int .i64 0, .slice none 0 0, .slice none 0 0, .slice none 0 0]
     rw [← hbq, ← hwb]
     try have ne : p1 < p2 := by have := H10.lt; omega
     replace HC := HC'
     try replace H10 := H10.ext hx
     try replace PO1 := PO1.ext hx
     try replace PO2 := PO2.ext hx
     clear hbq hwb hx HC'
     refine Qi HC ?_
     refine Qj 4 rfl (by kernel_rfl) ?_
     simp only [Qc, Qd, Qe]
     go_wp2
     obtain ⟨p1, wb, hbq, hwb, H10, HC', hx, gp1⟩ := Qv HC 31 #[.string ⟨#[]⟩, .int .i64 0, .int .i64 0, .bool false, .int .i64 0, .int .i64 0, .int .i64 0, .bool false, .int .i64 0, .slice none 0 0, .slice none 0 0, .slice none 0 0]
     rw [← hbq, ← hwb]
     try have ne : p2 < p1 := by have := H11.lt; omega
     replace HC := HC'
     try replace H11 := H11.ext hx
     try replace PO1 := PO1.ext hx
     try replace PO2 := PO2.ext hx
     clear hbq hwb hx HC'
     refine Qi HC ?_
     refine Qm 6 rfl (by kernel_rfl) ?_
     simp only [Qc, Qd, Qe]
     obtain ⟨z0, z1, z2, z3, z4, z5, z6, z7, z8, z9, z10, z11⟩ := Qb.f12 H10
     obtain ⟨x0, x1, x2, x3, x4, x5, x6, x7, x8, x9, x10, x11⟩ := Qb.c12 H10
     have xl := Qb.lt H10
     go_wp2
     obtain ⟨wq, hq, HX, ko, kd, kh, ke⟩ := Jg H10 (by decide) (by decide) (.string p.h) (.int .i64 p.a.y) (.int .i64 p.a.m) (.bool p.a.s) (.int .i64 p.a.d) (.int .i64 p.b.y) (.int .i64 p.b.m) (.bool p.b.s) (.int .i64 p.b.d) (.slice F1 p.o.length m1) (.slice F2 p.d.length m2) (.slice F3 p.c.length m3)
     rw [← hq]
     replace PO1 := Q8.mk (ko PO1.o) (kd PO1.d) (ko PO1.c)
     replace PO2 := Q8.mk (ko PO2.o) (kd PO2.d) (ko PO2.c)
     replace H11 := kh H11 (show p2 ≠ p1 by omega)
     replace HC := ke HC gp1
     clear hq ko kd kh ke H10 z0 x0 z1 x1 z2 x2 z3 x3 z4 x4 z5 x5 z6 x6 z7 x7 z8 x8 z9 x9 z10 x10 z11 x11 xl
     have H10 := HX
     clear HX
     refine Ql ?_
     refine Qm 7 rfl (by kernel_rfl) ?_
     simp only [Qc, Qd, Qe]
     obtain ⟨z0, z1, z2, z3, z4, z5, z6, z7, z8, z9, z10, z11⟩ := Qb.f12 H11
     obtain ⟨x0, x1, x2, x3, x4, x5, x6, x7, x8, x9, x10, x11⟩ := Qb.c12 H11
     have xl := Qb.lt H11
     go_wp2
     obtain ⟨wq, hq, HX, ko, kd, kh, ke⟩ := Jg H11 (by decide) (by decide) (.string q.h) (.int .i64 q.a.y) (.int .i64 q.a.m) (.bool q.a.s) (.int .i64 q.a.d) (.int .i64 q.b.y) (.int .i64 q.b.m) (.bool q.b.s) (.int .i64 q.b.d) (.slice G1 q.o.length n1) (.slice G2 q.d.length n2) (.slice G3 q.c.length n3)
     rw [← hq]
     replace PO1 := Q8.mk (ko PO1.o) (kd PO1.d) (ko PO1.c)
     replace PO2 := Q8.mk (ko PO2.o) (kd PO2.d) (ko PO2.c)
     replace H10 := kh H10 (show p1 ≠ p2 by omega)
     replace HC := ke HC gp2
     clear hq ko kd kh ke H11 z0 x0 z1 x1 z2 x2 z3 x3 z4 x4 z5 x5 z6 x6 z7 x7 z8 x8 z9 x9 z10 x10 z11 x11 xl
     have H11 := HX
     clear HX
     refine Ql ?_
     refine Qt (by kernel_rfl) ?_
     exact cutF_is F1 m1 F2 m2 F3 m3 G1 n1 G2 n2 G3 n3 p1 p2 ⟨HC, H10, H11, Jj PO1, Jj PO2⟩ rfl
   ·simp only [Qc, Qd, Qe]
    go_wp2
    obtain ⟨p1, wb, hbq, hwb, H10, HC', hx, gp1⟩ := Qv HC 31 #[.string ⟨#[]⟩, .int .i64 0, .int .i64 0, .bool false, .int .i64 0, .int .i64 0, .int .i64 0, .bool false, .int .i64 0, .slice none 0 0, .slice none 0 0, .slice none 0 0]
    rw [← hbq, ← hwb]
    try have ne : p2 < p1 := by have := H11.lt; omega
    replace HC := HC'
    try replace H11 := H11.ext hx
    try replace PO1 := PO1.ext hx
    try replace PO2 := PO2.ext hx
    clear hbq hwb hx HC'
    refine Qi HC ?_
    refine Zm 3 5 rfl rfl (by kernel_rfl) ?_ ?_
    ·simp only [Qc, Qd, Qe]
     go_wp2_with (go_at_call 8; (with_reducible refine Calls.mono (NCQ _ (Q.ext HC)) ?_); rintro e wc ⟨vo', vd', vc', rfl, hb, PO2⟩; obtain ⟨G1, n1, rfl⟩ := Q9 PO2.o; obtain ⟨G2, n2, rfl⟩ := J1 PO2.d; obtain ⟨G3, n3, rfl⟩ := Q9 PO2.c)
     replace HC := HC.trans hb
     try replace H10 := H10.ext hb
     try replace H11 := H11.ext hb
     replace PO1 := PO1.ext hb
     clear hb
     refine Qi HC ?_
     refine Qj 5 rfl (by kernel_rfl) ?_
     simp only [Qc, Qd, Qe]
     go_wp2
     obtain ⟨p2, wb, hbq, hwb, H11, HC', hx, gp2⟩ := Qv HC 31 #[.string ⟨#[]⟩, .int .i64 0, .int .i64 0, .bool false, .int .i64 0, .int .i64 0, .int .i64 0, .bool false, .int .i64 0, .slice none 0 0, .slice none 0 0, .slice none 0 0]
     rw [← hbq, ← hwb]
     try have ne : p1 < p2 := by have := H10.lt; omega
     replace HC := HC'
     try replace H10 := H10.ext hx
     try replace PO1 := PO1.ext hx
     try replace PO2 := PO2.ext hx
     clear hbq hwb hx HC'
     refine Qi HC ?_
     refine Qm 6 rfl (by kernel_rfl) ?_
     simp only [Qc, Qd, Qe]
     obtain ⟨z0, z1, z2, z3, z4, z5, z6, z7, z8, z9, z10, z11⟩ := Qb.f12 H10
     obtain ⟨x0, x1, x2, x3, x4, x5, x6, x7, x8, x9, x10, x11⟩ := Qb.c12 H10
     have xl := Qb.lt H10
     go_wp2
     obtain ⟨wq, hq, HX, ko, kd, kh, ke⟩ := Jg H10 (by decide) (by decide) (.string p.h) (.int .i64 p.a.y) (.int .i64 p.a.m) (.bool p.a.s) (.int .i64 p.a.d) (.int .i64 p.b.y) (.int .i64 p.b.m) (.bool p.b.s) (.int .i64 p.b.d) (.slice F1 p.o.length m1) (.slice F2 p.d.length m2) (.slice F3 p.c.length m3)
     rw [← hq]
     replace PO1 := Q8.mk (ko PO1.o) (kd PO1.d) (ko PO1.c)
     replace PO2 := Q8.mk (ko PO2.o) (kd PO2.d) (ko PO2.c)
     replace H11 := kh H11 (show p2 ≠ p1 by omega)
     replace HC := ke HC gp1
     clear hq ko kd kh ke H10 z0 x0 z1 x1 z2 x2 z3 x3 z4 x4 z5 x5 z6 x6 z7 x7 z8 x8 z9 x9 z10 x10 z11 x11 xl
     have H10 := HX
     clear HX
     refine Ql ?_
     refine Qm 7 rfl (by kernel_rfl) ?_
     simp only [Qc, Qd, Qe]
     obtain ⟨z0, z1, z2, z3, z4, z5, z6, z7, z8, z9, z10, z11⟩ := Qb.f12 H11
     obtain ⟨x0, x1, x2, x3, x4, x5, x6, x7, x8, x9, x10, x11⟩ := Qb.c12 H11
     have xl := Qb.lt H11
     go_wp2
     obtain ⟨wq, hq, HX, ko, kd, kh, ke⟩ := Jg H11 (by decide) (by decide) (.string q.h) (.int .i64 q.a.y) (.int .i64 q.a.m) (.bool q.a.s) (.int .i64 q.a.d) (.int .i64 q.b.y) (.int .i64 q.b.m) (.bool q.b.s) (.int .i64 q.b.d) (.slice G1 q.o.length n1) (.slice G2 q.d.length n2) (.slice G3 q.c.length n3)
     rw [← hq]
     replace PO1 := Q8.mk (ko PO1.o) (kd PO1.d) (ko PO1.c)
     replace PO2 := Q8.mk (ko PO2.o) (kd PO2.d) (ko PO2.c)
     replace H10 := kh H10 (show p1 ≠ p2 by omega)
     replace HC := ke HC gp2
     clear hq ko kd kh ke H11 z0 x0 z1 x1 z2 x2 z3 x3 z4 x4 z5 x5 z6 x6 z7 x7 z8 x8 z9 x9 z10 x10 z11 x11 xl
     have H11 := HX
     clear HX
     refine Ql ?_
     refine Qt (by kernel_rfl) ?_
     exact cutF_is F1 m1 F2 m2 F3 m3 G1 n1 G2 n2 G3 n3 p1 p2 ⟨HC, H10, H11, Jj PO1, Jj PO2⟩ rfl
    ·simp only [Qc, Qd, Qe]
     go_wp2
     obtain ⟨p2, wb, hbq, hwb, H11, HC', hx, gp2⟩ := Qv HC 31 #[.string ⟨#[]⟩, .int .i64 0, .int .i64 0, .bool false, .int .i64 0, .int .i64 0, .int .i64 0, .bool false, .int .i64 0, .slice none 0 0, .slice none 0 0, .slice none 0 0]
     rw [← hbq, ← hwb]
     try have ne : p1 < p2 := by have := H10.lt; omega
     replace HC := HC'
     try replace H10 := H10.ext hx
     try replace PO1 := PO1.ext hx
     try replace PO2 := PO2.ext hx
     clear hbq hwb hx HC'
     refine Qi HC ?_
     refine Qj 3 rfl (by kernel_rfl) ?_
     simp only [Qc, Qd, Qe]
     go_wp2_with (go_at_call 8; (with_reducible refine Calls.mono (NCQ _ (Q.ext HC)) ?_); rintro e wc ⟨vo', vd', vc', rfl, hb, PO2⟩; obtain ⟨G1, n1, rfl⟩ := Q9 PO2.o; obtain ⟨G2, n2, rfl⟩ := J1 PO2.d; obtain ⟨G3, n3, rfl⟩ := Q9 PO2.c)
     replace HC := HC.trans hb
     try replace H10 := H10.ext hb
     try replace H11 := H11.ext hb
     replace PO1 := PO1.ext hb
     clear hb
     refine Qi HC ?_
     refine Qm 6 rfl (by kernel_rfl) ?_
     simp only [Qc, Qd, Qe]
     obtain ⟨z0, z1, z2, z3, z4, z5, z6, z7, z8, z9, z10, z11⟩ := Qb.f12 H10
     obtain ⟨x0, x1, x2, x3, x4, x5, x6, x7, x8, x9, x10, x11⟩ := Qb.c12 H10
     have xl := Qb.lt H10
     go_wp2
     obtain ⟨wq, hq, HX, ko, kd, kh, ke⟩ := Jg H10 (by decide) (by decide) (.string p.h) (.int .i64 p.a.y) (.int .i64 p.a.m) (.bool p.a.s) (.int .i64 p.a.d) (.int .i64 p.b.y) (.int .i64 p.b.m) (.bool p.b.s) (.int .i64 p.b.d) (.slice F1 p.o.length m1) (.slice F2 p.d.length m2) (.slice F3 p.c.length m3)
     rw [← hq]
     replace PO1 := Q8.mk (ko PO1.o) (kd PO1.d) (ko PO1.c)
     replace PO2 := Q8.mk (ko PO2.o) (kd PO2.d) (ko PO2.c)
     replace H11 := kh H11 (show p2 ≠ p1 by omega)
     replace HC := ke HC gp1
     clear hq ko kd kh ke H10 z0 x0 z1 x1 z2 x2 z3 x3 z4 x4 z5 x5 z6 x6 z7 x7 z8 x8 z9 x9 z10 x10 z11 x11 xl
     have H10 := HX
     clear HX
     refine Ql ?_
     refine Qm 7 rfl (by kernel_rfl) ?_
     simp only [Qc, Qd, Qe]
     obtain ⟨z0, z1, z2, z3, z4, z5, z6, z7, z8, z9, z10, z11⟩ := Qb.f12 H11
     obtain ⟨x0, x1, x2, x3, x4, x5, x6, x7, x8, x9, x10, x11⟩ := Qb.c12 H11
     have xl := Qb.lt H11
     go_wp2
     obtain ⟨wq, hq, HX, ko, kd, kh, ke⟩ := Jg H11 (by decide) (by decide) (.string q.h) (.int .i64 q.a.y) (.int .i64 q.a.m) (.bool q.a.s) (.int .i64 q.a.d) (.int .i64 q.b.y) (.int .i64 q.b.m) (.bool q.b.s) (.int .i64 q.b.d) (.slice G1 q.o.length n1) (.slice G2 q.d.length n2) (.slice G3 q.c.length n3)
     rw [← hq]
     replace PO1 := Q8.mk (ko PO1.o) (kd PO1.d) (ko PO1.c)
     replace PO2 := Q8.mk (ko PO2.o) (kd PO2.d) (ko PO2.c)
     replace H10 := kh H10 (show p1 ≠ p2 by omega)
     replace HC := ke HC gp2
     clear hq ko kd kh ke H11 z0 x0 z1 x1 z2 x2 z3 x3 z4 x4 z5 x5 z6 x6 z7 x7 z8 x8 z9 x9 z10 x10 z11 x11 xl
     have H11 := HX
     clear HX
     refine Ql ?_
     refine Qt (by kernel_rfl) ?_
     exact cutF_is F1 m1 F2 m2 F3 m3 G1 n1 G2 n2 G3 n3 p1 p2 ⟨HC, H10, H11, Jj PO1, Jj PO2⟩ rfl
   ·simp only [Qc, Qd, Qe]
    go_wp2
    obtain ⟨p2, wb, hbq, hwb, H11, HC', hx, gp2⟩ := Qv HC 31 #[.string ⟨#[]⟩, .int .i64 0, .int .i64 0, .bool false, .int .i64 0, .int .i64 0, .int .i64 0, .bool false, .int .i64 0, .slice none 0 0, .slice none 0 0, .slice none 0 0]
    rw [← hbq, ← hwb]
    try have ne : p1 < p2 := by have := H10.lt; omega
    replace HC := HC'
    try replace H10 := H10.ext hx
    try replace PO1 := PO1.ext hx
    try replace PO2 := PO2.ext hx
    clear hbq hwb hx HC'
    refine Qi HC ?_
    refine Zm 3 4 rfl rfl (by kernel_rfl) ?_ ?_
    ·simp only [Qc, Qd, Qe]
     go_wp2_with (go_at_call 8; (with_reducible refine Calls.mono (NCQ _ (Q.ext HC)) ?_); rintro e wc ⟨vo', vd', vc', rfl, hb, PO2⟩; obtain ⟨G1, n1, rfl⟩ := Q9 PO2.o; obtain ⟨G2, n2, rfl⟩ := J1 PO2.d; obtain ⟨G3, n3, rfl⟩ := Q9 PO2.c)
     replace HC := HC.trans hb
     try replace H10 := H10.ext hb
     try replace H11 := H11.ext hb
     replace PO1 := PO1.ext hb
     clear hb
     refine Qi HC ?_
     refine Qj 4 rfl (by kernel_rfl) ?_
     simp only [Qc, Qd, Qe]
     go_wp2
     obtain ⟨p1, wb, hbq, hwb, H10, HC', hx, gp1⟩ := Qv HC 31 #[.string ⟨#[]⟩, .int .i64 0, .int .i64 0, .bool false, .int .i64 0, .int .i64 0, .int .i64 0, .bool false, .int .i64 0, .slice none 0 0, .slice none 0 0, .slice none 0 0]
     rw [← hbq, ← hwb]
     try have ne : p2 < p1 := by have := H11.lt; omega
     replace HC := HC'
     try replace H11 := H11.ext hx
     try replace PO1 := PO1.ext hx
     try replace PO2 := PO2.ext hx
     clear hbq hwb hx HC'
     refine Qi HC ?_
     refine Qm 6 rfl (by kernel_rfl) ?_
     simp only [Qc, Qd, Qe]
     obtain ⟨z0, z1, z2, z3, z4, z5, z6, z7, z8, z9, z10, z11⟩ := Qb.f12 H10
     obtain ⟨x0, x1, x2, x3, x4, x5, x6, x7, x8, x9, x10, x11⟩ := Qb.c12 H10
     have xl := Qb.lt H10
     go_wp2
     obtain ⟨wq, hq, HX, ko, kd, kh, ke⟩ := Jg H10 (by decide) (by decide) (.string p.h) (.int .i64 p.a.y) (.int .i64 p.a.m) (.bool p.a.s) (.int .i64 p.a.d) (.int .i64 p.b.y) (.int .i64 p.b.m) (.bool p.b.s) (.int .i64 p.b.d) (.slice F1 p.o.length m1) (.slice F2 p.d.length m2) (.slice F3 p.c.length m3)
     rw [← hq]
     replace PO1 := Q8.mk (ko PO1.o) (kd PO1.d) (ko PO1.c)
     replace PO2 := Q8.mk (ko PO2.o) (kd PO2.d) (ko PO2.c)
     replace H11 := kh H11 (show p2 ≠ p1 by omega)
     replace HC := ke HC gp1
     clear hq ko kd kh ke H10 z0 x0 z1 x1 z2 x2 z3 x3 z4 x4 z5 x5 z6 x6 z7 x7 z8 x8 z9 x9 z10 x10 z11 x11 xl
     have H10 := HX
     clear HX
     refine Ql ?_
     refine Qm 7 rfl (by kernel_rfl) ?_
     simp only [Qc, Qd, Qe]
     obtain ⟨z0, z1, z2, z3, z4, z5, z6, z7, z8, z9, z10, z11⟩ := Qb.f12 H11
     obtain ⟨x0, x1, x2, x3, x4, x5, x6, x7, x8, x9, x10, x11⟩ := Qb.c12 H11
     have xl := Qb.lt H11
     go_wp2
     obtain ⟨wq, hq, HX, ko, kd, kh, ke⟩ := Jg H11 (by decide) (by decide) (.string q.h) (.int .i64 q.a.y) (.int .i64 q.a.m) (.bool q.a.s) (.int .i64 q.a.d) (.int .i64 q.b.y) (.int .i64 q.b.m) (.bool q.b.s) (.int .i64 q.b.d) (.slice G1 q.o.length n1) (.slice G2 q.d.length n2) (.slice G3 q.c.length n3)
     rw [← hq]
     replace PO1 := Q8.mk (ko PO1.o) (kd PO1.d) (ko PO1.c)
     replace PO2 := Q8.mk (ko PO2.o) (kd PO2.d) (ko PO2.c)
     replace H10 := kh H10 (show p1 ≠ p2 by omega)
     replace HC := ke HC gp2
     clear hq ko kd kh ke H11 z0 x0 z1 x1 z2 x2 z3 x3 z4 x4 z5 x5 z6 x6 z7 x7 z8 x8 z9 x9 z10 x10 z11 x11 xl
     have H11 := HX
     clear HX
     refine Ql ?_
     refine Qt (by kernel_rfl) ?_
     exact cutF_is F1 m1 F2 m2 F3 m3 G1 n1 G2 n2 G3 n3 p1 p2 ⟨HC, H10, H11, Jj PO1, Jj PO2⟩ rfl
    ·simp only [Qc, Qd, Qe]
     go_wp2
     obtain ⟨p1, wb, hbq, hwb, H10, HC', hx, gp1⟩ := Qv HC 31 #[.string ⟨#[]⟩, .int .i64 0, .int .i64 0, .bool false, .int .i64 0, .int .i64 0, .int .i64 0, .bool false, .int .i64 0, .slice none 0 0, .slice none 0 0, .slice none 0 0]
     rw [← hbq, ← hwb]
     try have ne : p2 < p1 := by have := H11.lt; omega
     replace HC := HC'
     try replace H11 := H11.ext hx
     try replace PO1 := PO1.ext hx
     try replace PO2 := PO2.ext hx
     clear hbq hwb hx HC'
     refine Qi HC ?_
     refine Qj 3 rfl (by kernel_rfl) ?_
     simp only [Qc, Qd, Qe]
     go_wp2_with (go_at_call 8; (with_reducible refine Calls.mono (NCQ _ (Q.ext HC)) ?_); rintro e wc ⟨vo', vd', vc', rfl, hb, PO2⟩; obtain ⟨G1, n1, rfl⟩ := Q9 PO2.o; obtain ⟨G2, n2, rfl⟩ := J1 PO2.d; obtain ⟨G3, n3, rfl⟩ := Q9 PO2.c)
     replace HC := HC.trans hb
     try replace H10 := H10.ext hb
     try replace H11 := H11.ext hb
     replace PO1 := PO1.ext hb
     clear hb
     refine Qi HC ?_
     refine Qm 6 rfl (by kernel_rfl) ?_
     simp only [Qc, Qd, Qe]
     obtain ⟨z0, z1, z2, z3, z4, z5, z6, z7, z8, z9, z10, z11⟩ := Qb.f12 H10
     obtain ⟨x0, x1, x2, x3, x4, x5, x6, x7, x8, x9, x10, x11⟩ := Qb.c12 H10
     have xl := Qb.lt H10
     go_wp2
     obtain ⟨wq, hq, HX, ko, kd, kh, ke⟩ := Jg H10 (by decide) (by decide) (.string p.h) (.int .i64 p.a.y) (.int .i64 p.a.m) (.bool p.a.s) (.int .i64 p.a.d) (.int .i64 p.b.y) (.int .i64 p.b.m) (.bool p.b.s) (.int .i64 p.b.d) (.slice F1 p.o.length m1) (.slice F2 p.d.length m2) (.slice F3 p.c.length m3)
     rw [← hq]
     replace PO1 := Q8.mk (ko PO1.o) (kd PO1.d) (ko PO1.c)
     replace PO2 := Q8.mk (ko PO2.o) (kd PO2.d) (ko PO2.c)
     replace H11 := kh H11 (show p2 ≠ p1 by omega)
     replace HC := ke HC gp1
     clear hq ko kd kh ke H10 z0 x0 z1 x1 z2 x2 z3 x3 z4 x4 z5 x5 z6 x6 z7 x7 z8 x8 z9 x9 z10 x10 z11 x11 xl
     have H10 := HX
     clear HX
     refine Ql ?_
     refine Qm 7 rfl (by kernel_rfl) ?_
     simp only [Qc, Qd, Qe]
     obtain ⟨z0, z1, z2, z3, z4, z5, z6, z7, z8, z9, z10, z11⟩ := Qb.f12 H11
     obtain ⟨x0, x1, x2, x3, x4, x5, x6, x7, x8, x9, x10, x11⟩ := Qb.c12 H11
     have xl := Qb.lt H11
     go_wp2
     obtain ⟨wq, hq, HX, ko, kd, kh, ke⟩ := Jg H11 (by decide) (by decide) (.string q.h) (.int .i64 q.a.y) (.int .i64 q.a.m) (.bool q.a.s) (.int .i64 q.a.d) (.int .i64 q.b.y) (.int .i64 q.b.m) (.bool q.b.s) (.int .i64 q.b.d) (.slice G1 q.o.length n1) (.slice G2 q.d.length n2) (.slice G3 q.c.length n3)
     rw [← hq]
     replace PO1 := Q8.mk (ko PO1.o) (kd PO1.d) (ko PO1.c)
     replace PO2 := Q8.mk (ko PO2.o) (kd PO2.d) (ko PO2.c)
     replace H10 := kh H10 (show p1 ≠ p2 by omega)
     replace HC := ke HC gp2
     clear hq ko kd kh ke H11 z0 x0 z1 x1 z2 x2 z3 x3 z4 x4 z5 x5 z6 x6 z7 x7 z8 x8 z9 x9 z10 x10 z11 x11 xl
     have H11 := HX
     clear HX
     refine Ql ?_
     refine Qt (by kernel_rfl) ?_
     exact cutF_is F1 m1 F2 m2 F3 m3 G1 n1 G2 n2 G3 n3 p1 p2 ⟨HC, H10, H11, Jj PO1, Jj PO2⟩ rfl
  ·simp only [Qc, Qd, Qe]
   go_wp2
   obtain ⟨p1, wb, hbq, hwb, H10, HC', hx, gp1⟩ := Qv HC 31 #[.string ⟨#[]⟩, .int .i64 0, .int .i64 0, .bool false, .int .i64 0, .int .i64 0, .int .i64 0, .bool false, .int .i64 0, .slice none 0 0, .slice none 0 0, .slice none 0 0]
   rw [← hbq, ← hwb]
   try have ne : p2 < p1 := by have := H11.lt; omega
   replace HC := HC'
   try replace H11 := H11.ext hx
   try replace PO1 := PO1.ext hx
   try replace PO2 := PO2.ext hx
   clear hbq hwb hx HC'
   refine Qi HC ?_
   refine Zm 1 5 rfl rfl (by kernel_rfl) ?_ ?_
   ·simp only [Qc, Qd, Qe]
    go_wp2_with (go_at_call 8; (with_reducible refine Calls.mono (NCP _ (P.ext HC)) ?_); rintro e wc ⟨vo', vd', vc', rfl, hb, PO1⟩; obtain ⟨F1, m1, rfl⟩ := Q9 PO1.o; obtain ⟨F2, m2, rfl⟩ := J1 PO1.d; obtain ⟨F3, m3, rfl⟩ := Q9 PO1.c)
    replace HC := HC.trans hb
    try replace H10 := H10.ext hb
    try replace H11 := H11.ext hb
    clear hb
    refine Qi HC ?_
    refine Zm 3 5 rfl rfl (by kernel_rfl) ?_ ?_
    ·simp only [Qc, Qd, Qe]
     go_wp2_with (go_at_call 8; (with_reducible refine Calls.mono (NCQ _ (Q.ext HC)) ?_); rintro e wc ⟨vo', vd', vc', rfl, hb, PO2⟩; obtain ⟨G1, n1, rfl⟩ := Q9 PO2.o; obtain ⟨G2, n2, rfl⟩ := J1 PO2.d; obtain ⟨G3, n3, rfl⟩ := Q9 PO2.c)
     replace HC := HC.trans hb
     try replace H10 := H10.ext hb
     try replace H11 := H11.ext hb
     replace PO1 := PO1.ext hb
     clear hb
     refine Qi HC ?_
     refine Qj 5 rfl (by kernel_rfl) ?_
     simp only [Qc, Qd, Qe]
     go_wp2
     obtain ⟨p2, wb, hbq, hwb, H11, HC', hx, gp2⟩ := Qv HC 31 #[.string ⟨#[]⟩, .int .i64 0, .int .i64 0, .bool false, .int .i64 0, .int .i64 0, .int .i64 0, .bool false, .int .i64 0, .slice none 0 0, .slice none 0 0, .slice none 0 0]
     rw [← hbq, ← hwb]
     try have ne : p1 < p2 := by have := H10.lt; omega
     replace HC := HC'
     try replace H10 := H10.ext hx
     try replace PO1 := PO1.ext hx
     try replace PO2 := PO2.ext hx
     clear hbq hwb hx HC'
     refine Qi HC ?_
     refine Qm 6 rfl (by kernel_rfl) ?_
     simp only [Qc, Qd, Qe]
     obtain ⟨z0, z1, z2, z3, z4, z5, z6, z7, z8, z9, z10, z11⟩ := Qb.f12 H10
     obtain ⟨x0, x1, x2, x3, x4, x5, x6, x7, x8, x9, x10, x11⟩ := Qb.c12 H10
     have xl := Qb.lt H10
     go_wp2
     obtain ⟨wq, hq, HX, ko, kd, kh, ke⟩ := Jg H10 (by decide) (by decide) (.string p.h) (.int .i64 p.a.y) (.int .i64 p.a.m) (.bool p.a.s) (.int .i64 p.a.d) (.int .i64 p.b.y) (.int .i64 p.b.m) (.bool p.b.s) (.int .i64 p.b.d) (.slice F1 p.o.length m1) (.slice F2 p.d.length m2) (.slice F3 p.c.length m3)
     rw [← hq]
     replace PO1 := Q8.mk (ko PO1.o) (kd PO1.d) (ko PO1.c)
     replace PO2 := Q8.mk (ko PO2.o) (kd PO2.d) (ko PO2.c)
     replace H11 := kh H11 (show p2 ≠ p1 by omega)
     replace HC := ke HC gp1
     clear hq ko kd kh ke H10 z0 x0 z1 x1 z2 x2 z3 x3 z4 x4 z5 x5 z6 x6 z7 x7 z8 x8 z9 x9 z10 x10 z11 x11 xl
     have H10 := HX
     clear HX
     refine Ql ?_
     refine Qm 7 rfl (by kernel_rfl) ?_
     simp only [Qc, Qd, Qe]
     obtain ⟨z0, z1, z2, z3, z4, z5, z6, z7, z8, z9, z10, z11⟩ := Qb.f12 H11
     obtain ⟨x0, x1, x2, x3, x4, x5, x6, x7, x8, x9, x10, x11⟩ := Qb.c12 H11
     have xl := Qb.lt H11
     go_wp2
     obtain ⟨wq, hq, HX, ko, kd, kh, ke⟩ := Jg H11 (by decide) (by decide) (.string q.h) (.int .i64 q.a.y) (.int .i64 q.a.m) (.bool q.a.s) (.int .i64 q.a.d) (.int .i64 q.b.y) (.int .i64 q.b.m) (.bool q.b.s) (.int .i64 q.b.d) (.slice G1 q.o.length n1) (.slice G2 q.d.length n2) (.slice G3 q.c.length n3)
     rw [← hq]
     replace PO1 := Q8.mk (ko PO1.o) (kd PO1.d) (ko PO1.c)
     replace PO2 := Q8.mk (ko PO2.o) (kd PO2.d) (ko PO2.c)
     replace H10 := kh H10 (show p1 ≠ p2 by omega)
     replace HC := ke HC gp2
     clear hq ko kd kh ke H11 z0 x0 z1 x1 z2 x2 z3 x3 z4 x4 z5 x5 z6 x6 z7 x7 z8 x8 z9 x9 z10 x10 z11 x11 xl
     have H11 := HX
     clear HX
     refine Ql ?_
     refine Qt (by kernel_rfl) ?_
     exact cutF_is F1 m1 F2 m2 F3 m3 G1 n1 G2 n2 G3 n3 p1 p2 ⟨HC, H10, H11, Jj PO1, Jj PO2⟩ rfl
    ·simp only [Qc, Qd, Qe]
     go_wp2
     obtain ⟨p2, wb, hbq, hwb, H11, HC', hx, gp2⟩ := Qv HC 31 #[.string ⟨#[]⟩, .int .i64 0, .int .i64 0, .bool false, .int .i64 0, .int .i64 0, .int .i64 0, .bool false, .int .i64 0, .slice none 0 0, .slice none 0 0, .slice none 0 0]
     rw [← hbq, ← hwb]
     try have ne : p1 < p2 := by have := H10.lt; omega
     replace HC := HC'
     try replace H10 := H10.ext hx
     try replace PO1 := PO1.ext hx
     try replace PO2 := PO2.ext hx
     clear hbq hwb hx HC'
     refine Qi HC ?_
     refine Qj 3 rfl (by kernel_rfl) ?_
     simp only [Qc, Qd, Qe]
     go_wp2_with (go_at_call 8; (with_reducible refine Calls.mono (NCQ _ (Q.ext HC)) ?_); rintro e wc ⟨vo', vd', vc', rfl, hb, PO2⟩; obtain ⟨G1, n1, rfl⟩ := Q9 PO2.o; obtain ⟨G2, n2, rfl⟩ := J1 PO2.d; obtain ⟨G3, n3, rfl⟩ := Q9 PO2.c)
     replace HC := HC.trans hb
     try replace H10 := H10.ext hb
     try replace H11 := H11.ext hb
     replace PO1 := PO1.ext hb
     clear hb
     refine Qi HC ?_
     refine Qm 6 rfl (by kernel_rfl) ?_
     simp only [Qc, Qd, Qe]
     obtain ⟨z0, z1, z2, z3, z4, z5, z6, z7, z8, z9, z10, z11⟩ := Qb.f12 H10
     obtain ⟨x0, x1, x2, x3, x4, x5, x6, x7, x8, x9, x10, x11⟩ := Qb.c12 H10
     have xl := Qb.lt H10
     go_wp2
     obtain ⟨wq, hq, HX, ko, kd, kh, ke⟩ := Jg H10 (by decide) (by decide) (.string p.h) (.int .i64 p.a.y) (.int .i64 p.a.m) (.bool p.a.s) (.int .i64 p.a.d) (.int .i64 p.b.y) (.int .i64 p.b.m) (.bool p.b.s) (.int .i64 p.b.d) (.slice F1 p.o.length m1) (.slice F2 p.d.length m2) (.slice F3 p.c.length m3)
     rw [← hq]
     replace PO1 := Q8.mk (ko PO1.o) (kd PO1.d) (ko PO1.c)
     replace PO2 := Q8.mk (ko PO2.o) (kd PO2.d) (ko PO2.c)
     replace H11 := kh H11 (show p2 ≠ p1 by omega)
     replace HC := ke HC gp1
     clear hq ko kd kh ke H10 z0 x0 z1 x1 z2 x2 z3 x3 z4 x4 z5 x5 z6 x6 z7 x7 z8 x8 z9 x9 z10 x10 z11 x11 xl
     have H10 := HX
     clear HX
     refine Ql ?_
     refine Qm 7 rfl (by kernel_rfl) ?_
     simp only [Qc, Qd, Qe]
     obtain ⟨z0, z1, z2, z3, z4, z5, z6, z7, z8, z9, z10, z11⟩ := Qb.f12 H11
     obtain ⟨x0, x1, x2, x3, x4, x5, x6, x7, x8, x9, x10, x11⟩ := Qb.c12 H11
     have xl := Qb.lt H11
     go_wp2
     obtain ⟨wq, hq, HX, ko, kd, kh, ke⟩ := Jg H11 (by decide) (by decide) (.string q.h) (.int .i64 q.a.y) (.int .i64 q.a.m) (.bool q.a.s) (.int .i64 q.a.d) (.int .i64 q.b.y) (.int .i64 q.b.m) (.bool q.b.s) (.int .i64 q.b.d) (.slice G1 q.o.length n1) (.slice G2 q.d.length n2) (.slice G3 q.c.length n3)
     rw [← hq]
     replace PO1 := Q8.mk (ko PO1.o) (kd PO1.d) (ko PO1.c)
     replace PO2 := Q8.mk (ko PO2.o) (kd PO2.d) (ko PO2.c)
     replace H10 := kh H10 (show p1 ≠ p2 by omega)
     replace HC := ke HC gp2
     clear hq ko kd kh ke H11 z0 x0 z1 x1 z2 x2 z3 x3 z4 x4 z5 x5 z6 x6 z7 x7 z8 x8 z9 x9 z10 x10 z11 x11 xl
     have H11 := HX
     clear HX
     refine Ql ?_
     refine Qt (by kernel_rfl) ?_
     exact cutF_is F1 m1 F2 m2 F3 m3 G1 n1 G2 n2 G3 n3 p1 p2 ⟨HC, H10, H11, Jj PO1, Jj PO2⟩ rfl
   ·simp only [Qc, Qd, Qe]
    go_wp2
    obtain ⟨p2, wb, hbq, hwb, H11, HC', hx, gp2⟩ := Qv HC 31 #[.string ⟨#[]⟩, .int .i64 0, .int .i64 0, .bool false, .int .i64 0, .int .i64 0, .int .i64 0, .bool false, .int .i64 0, .slice none 0 0, .slice none 0 0, .slice none 0 0]
    rw [← hbq, ← hwb]
    try have ne : p1 < p2 := by have := H10.lt; omega
    replace HC := HC'
    try replace H10 := H10.ext hx
    try replace PO1 := PO1.ext hx
    try replace PO2 := PO2.ext hx
    clear hbq hwb hx HC'
    refine Qi HC ?_
    refine Qj 1 rfl (by kernel_rfl) ?_
    simp only [Qc, Qd, Qe]
    go_wp2_with (go_at_call 8; (with_reducible refine Calls.mono (NCP _ (P.ext HC)) ?_); rintro e wc ⟨vo', vd', vc', rfl, hb, PO1⟩; obtain ⟨F1, m1, rfl⟩ := Q9 PO1.o; obtain ⟨F2, m2, rfl⟩ := J1 PO1.d; obtain ⟨F3, m3, rfl⟩ := Q9 PO1.c)
    replace HC := HC.trans hb
    try replace H10 := H10.ext hb
    try replace H11 := H11.ext hb
    clear hb
    refine Qi HC ?_
    refine Qj 3 rfl (by kernel_rfl) ?_
    simp only [Qc, Qd, Qe]
    go_wp2_with (go_at_call 8; (with_reducible refine Calls.mono (NCQ _ (Q.ext HC)) ?_); rintro e wc ⟨vo', vd', vc', rfl, hb, PO2⟩; obtain ⟨G1, n1, rfl⟩ := Q9 PO2.o; obtain ⟨G2, n2, rfl⟩ := J1 PO2.d; obtain ⟨G3, n3, rfl⟩ := Q9 PO2.c)
    replace HC := HC.trans hb
    try replace H10 := H10.ext hb
    try replace H11 := H11.ext hb
    replace PO1 := PO1.ext hb
    clear hb
    refine Qi HC ?_
    refine Qm 6 rfl (by kernel_rfl) ?_
    simp only [Qc, Qd, Qe]
    obtain ⟨z0, z1, z2, z3, z4, z5, z6, z7, z8, z9, z10, z11⟩ := Qb.f12 H10
    obtain ⟨x0, x1, x2, x3, x4, x5, x6, x7, x8, x9, x10, x11⟩ := Qb.c12 H10
    have xl := Qb.lt H10
    go_wp2
    obtain ⟨wq, hq, HX, ko, kd, kh, ke⟩ := Jg H10 (by decide) (by decide) (.string p.h) (.int .i64 p.a.y) (.int .i64 p.a.m) (.bool p.a.s) (.int .i64 p.a.d) (.int .i64 p.b.y) (.int .i64 p.b.m) (.bool p.b.s) (.int .i64 p.b.d) (.slice F1 p.o.length m1) (.slice F2 p.d.length m2) (.slice F3 p.c.length m3)
    rw [← hq]
    replace PO1 := Q8.mk (ko PO1.o) (kd PO1.d) (ko PO1.c)
    replace PO2 := Q8.mk (ko PO2.o) (kd PO2.d) (ko PO2.c)
    replace H11 := kh H11 (show p2 ≠ p1 by omega)
    replace HC := ke HC gp1
    clear hq ko kd kh ke H10 z0 x0 z1 x1 z2 x2 z3 x3 z4 x4 z5 x5 z6 x6 z7 x7 z8 x8 z9 x9 z10 x10 z11 x11 xl
    have H10 := HX
    clear HX
    refine Ql ?_
    refine Qm 7 rfl (by kernel_rfl) ?_
    simp only [Qc, Qd, Qe]
    obtain ⟨z0, z1, z2, z3, z4, z5, z6, z7, z8, z9, z10, z11⟩ := Qb.f12 H11
    obtain ⟨x0, x1, x2, x3, x4, x5, x6, x7, x8, x9, x10, x11⟩ := Qb.c12 H11
    have xl := Qb.lt H11
    go_wp2
    obtain ⟨wq, hq, HX, ko, kd, kh, ke⟩ := Jg H11 (by decide) (by decide) (.string q.h) (.int .i64 q.a.y) (.int .i64 q.a.m) (.bool q.a.s) (.int .i64 q.a.d) (.int .i64 q.b.y) (.int .i64 q.b.m) (.bool q.b.s) (.int .i64 q.b.d) (.slice G1 q.o.length n1) (.slice G2 q.d.length n2) (.slice G3 q.c.length n3)
    rw [← hq]
    replace PO1 := Q8.mk (ko PO1.o) (kd PO1.d) (ko PO1.c)
    replace PO2 := Q8.mk (ko PO2.o) (kd PO2.d) (ko PO2.c)
    replace H10 := kh H10 (show p1 ≠ p2 by omega)
    replace HC := ke HC gp2
    clear hq ko kd kh ke H11 z0 x0 z1 x1 z2 x2 z3 x3 z4 x4 z5 x5 z6 x6 z7 x7 z8 x8 z9 x9 z10 x10 z11 x11 xl
    have H11 := HX
    clear HX
    refine Ql ?_
    refine Qt (by kernel_rfl) ?_
    exact cutF_is F1 m1 F2 m2 F3 m3 G1 n1 G2 n2 G3 n3 p1 p2 ⟨HC, H10, H11, Jj PO1, Jj PO2⟩ rfl
  ·simp only [Qc, Qd, Qe]
   go_wp2
   obtain ⟨p2, wb, hbq, hwb, H11, HC', hx, gp2⟩ := Qv HC 31 #[.string ⟨#[]⟩, .int .i64 0, .int .i64 0, .bool false, .int .i64 0, .int .i64 0, .int .i64 0, .bool false, .int .i64 0, .slice none 0 0, .slice none 0 0, .slice none 0 0]
   rw [← hbq, ← hwb]
   try have ne : p1 < p2 := by have := H10.lt; omega
   replace HC := HC'
   try replace H10 := H10.ext hx
   try replace PO1 := PO1.ext hx
   try replace PO2 := PO2.ext hx
   clear hbq hwb hx HC'
   refine Qi HC ?_
   refine Zm 1 4 rfl rfl (by kernel_rfl) ?_ ?_
   ·simp only [Qc, Qd, Qe]
    go_wp2_with (go_at_call 8; (with_reducible refine Calls.mono (NCP _ (P.ext HC)) ?_); rintro e wc ⟨vo', vd', vc', rfl, hb, PO1⟩; obtain ⟨F1, m1, rfl⟩ := Q9 PO1.o; obtain ⟨F2, m2, rfl⟩ := J1 PO1.d; obtain ⟨F3, m3, rfl⟩ := Q9 PO1.c)
    replace HC := HC.trans hb
    try replace H10 := H10.ext hb
    try replace H11 := H11.ext hb
    clear hb
    refine Qi HC ?_
    refine Zm 3 4 rfl rfl (by kernel_rfl) ?_ ?_
    ·simp only [Qc, Qd, Qe]
     go_wp2_with (go_at_call 8; (with_reducible refine Calls.mono (NCQ _ (Q.ext HC)) ?_); rintro e wc ⟨vo', vd', vc', rfl, hb, PO2⟩; obtain ⟨G1, n1, rfl⟩ := Q9 PO2.o; obtain ⟨G2, n2, rfl⟩ := J1 PO2.d; obtain ⟨G3, n3, rfl⟩ := Q9 PO2.c)
     replace HC := HC.trans hb
     try replace H10 := H10.ext hb
     try replace H11 := H11.ext hb
     replace PO1 := PO1.ext hb
     clear hb
     refine Qi HC ?_
     refine Qj 4 rfl (by kernel_rfl) ?_
     simp only [Qc, Qd, Qe]
     go_wp2
     obtain ⟨p1, wb, hbq, hwb, H10, HC', hx, gp1⟩ := Qv HC 31 #[.string ⟨#[]⟩, .int .i64 0, .int .i64 0, .bool false, .int .i64 0, .int .i64 0, .int .i64 0, .bool false, .int .i64 0, .slice none 0 0, .slice none 0 0, .slice none 0 0]
     rw [← hbq, ← hwb]
     try have ne : p2 < p1 := by have := H11.lt; omega
     replace HC := HC'
     try replace H11 := H11.ext hx
     try replace PO1 := PO1.ext hx
     try replace PO2 := PO2.ext hx
     clear hbq hwb hx HC'
     refine Qi HC ?_
     refine Qm 6 rfl (by kernel_rfl) ?_
     simp only [Qc, Qd, Qe]
     obtain ⟨z0, z1, z2, z3, z4, z5, z6, z7, z8, z9, z10, z11⟩ := Qb.f12 H10
     obtain ⟨x0, x1, x2, x3, x4, x5, x6, x7, x8, x9, x10, x11⟩ := Qb.c12 H10
     have xl := Qb.lt H10
     go_wp2
     obtain ⟨wq, hq, HX, ko, kd, kh, ke⟩ := Jg H10 (by decide) (by decide) (.string p.h) (.int .i64 p.a.y) (.int .i64 p.a.m) (.bool p.a.s) (.int .i64 p.a.d) (.int .i64 p.b.y) (.int .i64 p.b.m) (.bool p.b.s) (.int .i64 p.b.d) (.slice F1 p.o.length m1) (.slice F2 p.d.length m2) (.slice F3 p.c.length m3)
     rw [← hq]
     replace PO1 := Q8.mk (ko PO1.o) (kd PO1.d) (ko PO1.c)
     replace PO2 := Q8.mk (ko PO2.o) (kd PO2.d) (ko PO2.c)
     replace H11 := kh H11 (show p2 ≠ p1 by omega)
     replace HC := ke HC gp1
     clear hq ko kd kh ke H10 z0 x0 z1 x1 z2 x2 z3 x3 z4 x4 z5 x5 z6 x6 z7 x7 z8 x8 z9 x9 z10 x10 z11 x11 xl
     have H10 := HX
     clear HX
     refine Ql ?_
     refine Qm 7 rfl (by kernel_rfl) ?_
     simp only [Qc, Qd, Qe]
     obtain ⟨z0, z1, z2, z3, z4, z5, z6, z7, z8, z9, z10, z11⟩ := Qb.f12 H11
     obtain ⟨x0, x1, x2, x3, x4, x5, x6, x7, x8, x9, x10, x11⟩ := Qb.c12 H11
     have xl := Qb.lt H11
     go_wp2
     obtain ⟨wq, hq, HX, ko, kd, kh, ke⟩ := Jg H11 (by decide) (by decide) (.string q.h) (.int .i64 q.a.y) (.int .i64 q.a.m) (.bool q.a.s) (.int .i64 q.a.d) (.int .i64 q.b.y) (.int .i64 q.b.m) (.bool q.b.s) (.int .i64 q.b.d) (.slice G1 q.o.length n1) (.slice G2 q.d.length n2) (.slice G3 q.c.length n3)
     rw [← hq]
     replace PO1 := Q8.mk (ko PO1.o) (kd PO1.d) (ko PO1.c)
     replace PO2 := Q8.mk (ko PO2.o) (kd PO2.d) (ko PO2.c)
     replace H10 := kh H10 (show p1 ≠ p2 by omega)
     replace HC := ke HC gp2
     clear hq ko kd kh ke H11 z0 x0 z1 x1 z2 x2 z3 x3 z4 x4 z5 x5 z6 x6 z7 x7 z8 x8 z9 x9 z10 x10 z11 x11 xl
     have H11 := HX
     clear HX
     refine Ql ?_
     refine Qt (by kernel_rfl) ?_
     exact cutF_is F1 m1 F2 m2 F3 m3 G1 n1 G2 n2 G3 n3 p1 p2 ⟨HC, H10, H11, Jj PO1, Jj PO2⟩ rfl
    ·simp only [Qc, Qd, Qe]
     go_wp2
     obtain ⟨p1, wb, hbq, hwb, H10, HC', hx, gp1⟩ := Qv HC 31 #[.string ⟨#[]⟩, .int .i64 0, .int .i64 0, .bool false, .int .i64 0, .int .i64 0, .int .i64 0, .bool false, .int .i64 0, .slice none 0 0, .slice none 0 0, .slice none 0 0]
     rw [← hbq, ← hwb]
     try have ne : p2 < p1 := by have := H11.lt; omega
     replace HC := HC'
     try replace H11 := H11.ext hx
     try replace PO1 := PO1.ext hx
     try replace PO2 := PO2.ext hx
     clear hbq hwb hx HC'
     refine Qi HC ?_
     refine Qj 3 rfl (by kernel_rfl) ?_
     simp only [Qc, Qd, Qe]
     go_wp2_with (go_at_call 8; (with_reducible refine Calls.mono (NCQ _ (Q.ext HC)) ?_); rintro e wc ⟨vo', vd', vc', rfl, hb, PO2⟩; obtain ⟨G1, n1, rfl⟩ := Q9 PO2.o; obtain ⟨G2, n2, rfl⟩ := J1 PO2.d; obtain ⟨G3, n3, rfl⟩ := Q9 PO2.c)
     replace HC := HC.trans hb
     try replace H10 := H10.ext hb
     try replace H11 := H11.ext hb
     replace PO1 := PO1.ext hb
     clear hb
     refine Qi HC ?_
     refine Qm 6 rfl (by kernel_rfl) ?_
     simp only [Qc, Qd, Qe]
     obtain ⟨z0, z1, z2, z3, z4, z5, z6, z7, z8, z9, z10, z11⟩ := Qb.f12 H10
     obtain ⟨x0, x1, x2, x3, x4, x5, x6, x7, x8, x9, x10, x11⟩ := Qb.c12 H10
     have xl := Qb.lt H10
     go_wp2
     obtain ⟨wq, hq, HX, ko, kd, kh, ke⟩ := Jg H10 (by decide) (by decide) (.string p.h) (.int .i64 p.a.y) (.int .i64 p.a.m) (.bool p.a.s) (.int .i64 p.a.d) (.int .i64 p.b.y) (.int .i64 p.b.m) (.bool p.b.s) (.int .i64 p.b.d) (.slice F1 p.o.length m1) (.slice F2 p.d.length m2) (.slice F3 p.c.length m3)
     rw [← hq]
     replace PO1 := Q8.mk (ko PO1.o) (kd PO1.d) (ko PO1.c)
     replace PO2 := Q8.mk (ko PO2.o) (kd PO2.d) (ko PO2.c)
     replace H11 := kh H11 (show p2 ≠ p1 by omega)
     replace HC := ke HC gp1
     clear hq ko kd kh ke H10 z0 x0 z1 x1 z2 x2 z3 x3 z4 x4 z5 x5 z6 x6 z7 x7 z8 x8 z9 x9 z10 x10 z11 x11 xl
     have H10 := HX
     clear HX
     refine Ql ?_
     refine Qm 7 rfl (by kernel_rfl) ?_
     simp only [Qc, Qd, Qe]
     obtain ⟨z0, z1, z2, z3, z4, z5, z6, z7, z8, z9, z10, z11⟩ := Qb.f12 H11
     obtain ⟨x0, x1, x2, x3, x4, x5, x6, x7, x8, x9, x10, x11⟩ := Qb.c12 H11
     have xl := Qb.lt H11
     go_wp2
     obtain ⟨wq, hq, HX, ko, kd, kh, ke⟩ := Jg H11 (by decide) (by decide) (.string q.h) (.int .i64 q.a.y) (.int .i64 q.a.m) (.bool q.a.s) (.int .i64 q.a.d) (.int .i64 q.b.y) (.int .i64 q.b.m) (.bool q.b.s) (.int .i64 q.b.d) (.slice G1 q.o.length n1) (.slice G2 q.d.length n2) (.slice G3 q.c.length n3)
     rw [← hq]
     replace PO1 := Q8.mk (ko PO1.o) (kd PO1.d) (ko PO1.c)
     replace PO2 := Q8.mk (ko PO2.o) (kd PO2.d) (ko PO2.c)
     replace H10 := kh H10 (show p1 ≠ p2 by omega)
     replace HC := ke HC gp2
     clear hq ko kd kh ke H11 z0 x0 z1 x1 z2 x2 z3 x3 z4 x4 z5 x5 z6 x6 z7 x7 z8 x8 z9 x9 z10 x10 z11 x11 xl
     have H11 := HX
     clear HX
     refine Ql ?_
     refine Qt (by kernel_rfl) ?_
     exact cutF_is F1 m1 F2 m2 F3 m3 G1 n1 G2 n2 G3 n3 p1 p2 ⟨HC, H10, H11, Jj PO1, Jj PO2⟩ rfl
   ·simp only [Qc, Qd, Qe]
    go_wp2
    obtain ⟨p1, wb, hbq, hwb, H10, HC', hx, gp1⟩ := Qv HC 31 #[.string ⟨#[]⟩, .int .i64 0, .int .i64 0, .bool false, .int .i64 0, .int .i64 0, .int .i64 0, .bool false, .int .i64 0, .slice none 0 0, .slice none 0 0, .slice none 0 0]
    rw [← hbq, ← hwb]
    try have ne : p2 < p1 := by have := H11.lt; omega
    replace HC := HC'
    try replace H11 := H11.ext hx
    try replace PO1 := PO1.ext hx
    try replace PO2 := PO2.ext hx
    clear hbq hwb hx HC'
    refine Qi HC ?_
    refine Qj 1 rfl (by kernel_rfl) ?_
    simp only [Qc, Qd, Qe]
    go_wp2_with (go_at_call 8; (with_reducible refine Calls.mono (NCP _ (P.ext HC)) ?_); rintro e wc ⟨vo', vd', vc', rfl, hb, PO1⟩; obtain ⟨F1, m1, rfl⟩ := Q9 PO1.o; obtain ⟨F2, m2, rfl⟩ := J1 PO1.d; obtain ⟨F3, m3, rfl⟩ := Q9 PO1.c)
    replace HC := HC.trans hb
    try replace H10 := H10.ext hb
    try replace H11 := H11.ext hb
    clear hb
    refine Qi HC ?_
    refine Qj 3 rfl (by kernel_rfl) ?_
    simp only [Qc, Qd, Qe]
    go_wp2_with (go_at_call 8; (with_reducible refine Calls.mono (NCQ _ (Q.ext HC)) ?_); rintro e wc ⟨vo', vd', vc', rfl, hb, PO2⟩; obtain ⟨G1, n1, rfl⟩ := Q9 PO2.o; obtain ⟨G2, n2, rfl⟩ := J1 PO2.d; obtain ⟨G3, n3, rfl⟩ := Q9 PO2.c)
    replace HC := HC.trans hb
    try replace H10 := H10.ext hb
    try replace H11 := H11.ext hb
    replace PO1 := PO1.ext hb
    clear hb
    refine Qi HC ?_
    refine Qm 6 rfl (by kernel_rfl) ?_
    simp only [Qc, Qd, Qe]
    obtain ⟨z0, z1, z2, z3, z4, z5, z6, z7, z8, z9, z10, z11⟩ := Qb.f12 H10
    obtain ⟨x0, x1, x2, x3, x4, x5, x6, x7, x8, x9, x10, x11⟩ := Qb.c12 H10
    have xl := Qb.lt H10
    go_wp2
    obtain ⟨wq, hq, HX, ko, kd, kh, ke⟩ := Jg H10 (by decide) (by decide) (.string p.h) (.int .i64 p.a.y) (.int .i64 p.a.m) (.bool p.a.s) (.int .i64 p.a.d) (.int .i64 p.b.y) (.int .i64 p.b.m) (.bool p.b.s) (.int .i64 p.b.d) (.slice F1 p.o.length m1) (.slice F2 p.d.length m2) (.slice F3 p.c.length m3)
    rw [← hq]
    replace PO1 := Q8.mk (ko PO1.o) (kd PO1.d) (ko PO1.c)
    replace PO2 := Q8.mk (ko PO2.o) (kd PO2.d) (ko PO2.c)
    replace H11 := kh H11 (show p2 ≠ p1 by omega)
    replace HC := ke HC gp1
    clear hq ko kd kh ke H10 z0 x0 z1 x1 z2 x2 z3 x3 z4 x4 z5 x5 z6 x6 z7 x7 z8 x8 z9 x9 z10 x10 z11 x11 xl
    have H10 := HX
    clear HX
    refine Ql ?_
    refine Qm 7 rfl (by kernel_rfl) ?_
    simp only [Qc, Qd, Qe]
    obtain ⟨z0, z1, z2, z3, z4, z5, z6, z7, z8, z9, z10, z11⟩ := Qb.f12 H11
    obtain ⟨x0, x1, x2, x3, x4, x5, x6, x7, x8, x9, x10, x11⟩ := Qb.c12 H11
    have xl := Qb.lt H11
    go_wp2
    obtain ⟨wq, hq, HX, ko, kd, kh, ke⟩ := Jg H11 (by decide) (by decide) (.string q.h) (.int .i64 q.a.y) (.int .i64 q.a.m) (.bool q.a.s) (.int .i64 q.a.d) (.int .i64 q.b.y) (.int .i64 q.b.m) (.bool q.b.s) (.int .i64 q.b.d) (.slice G1 q.o.length n1) (.slice G2 q.d.length n2) (.slice G3 q.c.length n3)
    rw [← hq]
    replace PO1 := Q8.mk (ko PO1.o) (kd PO1.d) (ko PO1.c)
    replace PO2 := Q8.mk (ko PO2.o) (kd PO2.d) (ko PO2.c)
    replace H10 := kh H10 (show p1 ≠ p2 by omega)
    replace HC := ke HC gp2
    clear hq ko kd kh ke H11 z0 x0 z1 x1 z2 x2 z3 x3 z4 x4 z5 x5 z6 x6 z7 x7 z8 x8 z9 x9 z10 x10 z11 x11 xl
    have H11 := HX
    clear HX
    refine Ql ?_
    refine Qt (by kernel_rfl) ?_
    exact cutF_is F1 m1 F2 m2 F3 m3 G1 n1 G2 n2 G3 n3 p1 p2 ⟨HC, H10, H11, Jj PO1, Jj PO2⟩ rfl
 rintro F1 m1 F2 m2 F3 m3 G1 n1 G2 n2 G3 n3 p1 p2 w1 ⟨hx, BO, BN, D, D2⟩
 replace E := E.trans hx
 replace Z := Z.ext hx
 replace C := C.ext hx
 replace P := P.ext hx
 replace Q := Q.ext hx
 replace B1 := B1.ext hx
 replace B2 := B2.ext hx
 replace B3 := B3.ext hx
 clear hx
 clear NCP NCQ
 obtain ⟨k0, k1⟩ := B1.c2
 have kl := B1.lt
 obtain ⟨p0, p1, p2, p3, p4, p5, p6, p7, p8, p9, p10, p11⟩ := B2.c12
 have pl := B2.lt
 obtain ⟨q0, q1, q2, q3, q4, q5, q6, q7, q8, q9, q10, q11⟩ := B3.c12
 have ql := B3.lt
 obtain ⟨o0, o1, o2, o3, o4, o5, o6, o7, o8, o9, o10, o11⟩ := BO.c12
 have ol := BO.lt
 obtain ⟨y0, y1, y2, y3, y4, y5, y6, y7, y8, y9, y10, y11⟩ := BN.c12
 have yl := BN.lt
 go_upto_region 3 with (go_at_call 25; (with_reducible refine Calls.mono (N1 _ _ _ _ _ _ _ C D D2) ?_); rintro e w2 ⟨_, _, _, rfl, hx, PX⟩; replace E := E.trans hx; replace Z := Z.ext hx; replace C := C.ext hx; replace P := P.ext hx; replace Q := Q.ext hx; replace D := D.ext hx; replace D2 := D2.ext hx; replace B1 := B1.ext hx; replace B2 := B2.ext hx; replace B3 := B3.ext hx; replace BO := BO.ext hx; replace BN := BN.ext hx; clear hx; clear k0 k1 kl p0 p1 p2 p3 p4 p5 p6 p7 p8 p9 p10 p11 pl q0 q1 q2 q3 q4 q5 q6 q7 q8 q9 q10 q11 ql o0 o1 o2 o3 o4 o5 o6 o7 o8 o9 o10 o11 ol y0 y1 y2 y3 y4 y5 y6 y7 y8 y9 y10 y11 yl; obtain ⟨k0, k1⟩ := B1.c2; have kl := B1.lt; obtain ⟨p0, p1, p2, p3, p4, p5, p6, p7, p8, p9, p10, p11⟩ := B2.c12; have pl := B2.lt; obtain ⟨q0, q1, q2, q3, q4, q5, q6, q7, q8, q9, q10, q11⟩ := B3.c12; have ql := B3.lt; obtain ⟨o0, o1, o2, o3, o4, o5, o6, o7, o8, o9, o10, o11⟩ := BO.c12; have ol := BO.lt; obtain ⟨y0, y1, y2, y3, y4, y5, y6, y7, y8, y9, y10, y11⟩ := BN.c12; have yl := BN.lt; obtain ⟨zo1, zp1, e1, _⟩ := id PX.o; subst e1; obtain ⟨zd1, zq1, _, e2, _⟩ := id PX.d; subst e2; obtain ⟨zc1, zr1, e3, _⟩ := id PX.c; subst e3)
 obtain ⟨v3, hv⟩ := Qg (w2.alloc (.cells #[.string X.h, .int .i64 X.a.y, .int .i64 X.a.m, .bool X.a.s, .int .i64 X.a.d, .int .i64 X.b.y, .int .i64 X.b.m, .bool X.b.s, .int .i64 X.b.d, .slice zo1 X.o.length zp1, .slice zd1 X.d.length zq1, .slice zc1 X.c.length zr1] 31))
 rw [← hv]
 have hx : Qa w2 v3 := by rw [hv]; exact (Qa.refl _).alloc _
 have BX : Qb v3 w2.heap.size 31 #[.string X.h, .int .i64 X.a.y, .int .i64 X.a.m, .bool X.a.s, .int .i64 X.a.d, .int .i64 X.b.y, .int .i64 X.b.m, .bool X.b.s, .int .i64 X.b.d, .slice zo1 X.o.length zp1, .slice zd1 X.d.length zq1, .slice zc1 X.c.length zr1] := by rw [hv]; exact Qb.new _ _ _
 clear hv
 generalize w2.heap.size = bb1 at *
 clear k0 k1 kl p0 p1 p2 p3 p4 p5 p6 p7 p8 p9 p10 p11 pl q0 q1 q2 q3 q4 q5 q6 q7 q8 q9 q10 q11 ql o0 o1 o2 o3 o4 o5 o6 o7 o8 o9 o10 o11 ol y0 y1 y2 y3 y4 y5 y6 y7 y8 y9 y10 y11 yl
 replace E := E.trans hx
 replace Z := Z.ext hx
 replace C := C.ext hx
 replace P := P.ext hx
 replace Q := Q.ext hx
 replace D := D.ext hx
 replace D2 := D2.ext hx
 replace PX := PX.ext hx
 replace B1 := B1.ext hx
 replace B2 := B2.ext hx
 replace B3 := B3.ext hx
 replace BO := BO.ext hx
 replace BN := BN.ext hx
 clear hx
 obtain ⟨k0, k1⟩ := B1.c2
 have kl := B1.lt
 obtain ⟨p0, p1, p2, p3, p4, p5, p6, p7, p8, p9, p10, p11⟩ := B2.c12
 have pl := B2.lt
 obtain ⟨q0, q1, q2, q3, q4, q5, q6, q7, q8, q9, q10, q11⟩ := B3.c12
 have ql := B3.lt
 obtain ⟨o0, o1, o2, o3, o4, o5, o6, o7, o8, o9, o10, o11⟩ := BO.c12
 have ol := BO.lt
 obtain ⟨y0, y1, y2, y3, y4, y5, y6, y7, y8, y9, y10, y11⟩ := BN.c12
 have yl := BN.lt
 obtain ⟨xa0, xa1, xa2, xa3, xa4, xa5, xa6, xa7, xa8, xa9, xa10, xa11⟩ := BX.c12
 have xal := BX.lt
 go_upto_region 4 with (go_at_call 26; (with_reducible refine Calls.mono (N2 _ C P Q) ?_); rintro e w3 ⟨_, _, _, rfl, hx, PU⟩; replace E := E.trans hx; replace Z := Z.ext hx; replace C := C.ext hx; replace P := P.ext hx; replace Q := Q.ext hx; replace D := D.ext hx; replace D2 := D2.ext hx; replace PX := PX.ext hx; replace B1 := B1.ext hx; replace B2 := B2.ext hx; replace B3 := B3.ext hx; replace BO := BO.ext hx; replace BN := BN.ext hx; replace BX := BX.ext hx; clear hx; clear k0 k1 kl p0 p1 p2 p3 p4 p5 p6 p7 p8 p9 p10 p11 pl q0 q1 q2 q3 q4 q5 q6 q7 q8 q9 q10 q11 ql o0 o1 o2 o3 o4 o5 o6 o7 o8 o9 o10 o11 ol y0 y1 y2 y3 y4 y5 y6 y7 y8 y9 y10 y11 yl xa0 xa1 xa2 xa3 xa4 xa5 xa6 xa7 xa8 xa9 xa10 xa11 xal; obtain ⟨k0, k1⟩ := B1.c2; have kl := B1.lt; obtain ⟨p0, p1, p2, p3, p4, p5, p6, p7, p8, p9, p10, p11⟩ := B2.c12; have pl := B2.lt; obtain ⟨q0, q1, q2, q3, q4, q5, q6, q7, q8, q9, q10, q11⟩ := B3.c12; have ql := B3.lt; obtain ⟨o0, o1, o2, o3, o4, o5, o6, o7, o8, o9, o10, o11⟩ := BO.c12; have ol := BO.lt; obtain ⟨y0, y1, y2, y3, y4, y5, y6, y7, y8, y9, y10, y11⟩ := BN.c12; have yl := BN.lt; obtain ⟨xa0, xa1, xa2, xa3, xa4, xa5, xa6, xa7, xa8, xa9, xa10, xa11⟩ := BX.c12; have xal := BX.lt; obtain ⟨zo3, zp3, e1, _⟩ := id PU.o; subst e1; obtain ⟨zd3, zq3, _, e2, _⟩ := id PU.d; subst e2; obtain ⟨zc3, zr3, e3, _⟩ := id PU.c; subst e3)
 obtain ⟨v5, hv⟩ := Qg (w3.alloc (.cells #[.string X.h, .int .i64 X.a.y, .int .i64 X.a.m, .bool X.a.s, .int .i64 X.a.d, .int .i64 X.b.y, .int .i64 X.b.m, .bool X.b.s, .int .i64 X.b.d, .slice zo3 X.o.length zp3, .slice zd3 X.d.length zq3, .slice zc3 X.c.length zr3] 31))
 rw [← hv]
 have hx : Qa w3 v5 := by rw [hv]; exact (Qa.refl _).alloc _
 have BU : Qb v5 w3.heap.size 31 #[.string X.h, .int .i64 X.a.y, .int .i64 X.a.m, .bool X.a.s, .int .i64 X.a.d, .int .i64 X.b.y, .int .i64 X.b.m, .bool X.b.s, .int .i64 X.b.d, .slice zo3 X.o.length zp3, .slice zd3 X.d.length zq3, .slice zc3 X.c.length zr3] := by rw [hv]; exact Qb.new _ _ _
 clear hv
 generalize w3.heap.size = bb2 at *
 clear k0 k1 kl p0 p1 p2 p3 p4 p5 p6 p7 p8 p9 p10 p11 pl q0 q1 q2 q3 q4 q5 q6 q7 q8 q9 q10 q11 ql o0 o1 o2 o3 o4 o5 o6 o7 o8 o9 o10 o11 ol y0 y1 y2 y3 y4 y5 y6 y7 y8 y9 y10 y11 yl xa0 xa1 xa2 xa3 xa4 xa5 xa6 xa7 xa8 xa9 xa10 xa11 xal
 replace E := E.trans hx
 replace Z := Z.ext hx
 replace C := C.ext hx
 replace P := P.ext hx
 replace Q := Q.ext hx
 replace D := D.ext hx
 replace D2 := D2.ext hx
 replace PX := PX.ext hx
 replace PU := PU.ext hx
 replace B1 := B1.ext hx
 replace B2 := B2.ext hx
 replace B3 := B3.ext hx
 replace BO := BO.ext hx
 replace BN := BN.ext hx
 replace BX := BX.ext hx
 clear hx
 obtain ⟨k0, k1⟩ := B1.c2
 have kl := B1.lt
 obtain ⟨p0, p1, p2, p3, p4, p5, p6, p7, p8, p9, p10, p11⟩ := B2.c12
 have pl := B2.lt
 obtain ⟨q0, q1, q2, q3, q4, q5, q6, q7, q8, q9, q10, q11⟩ := B3.c12
 have ql := B3.lt
 obtain ⟨o0, o1, o2, o3, o4, o5, o6, o7, o8, o9, o10, o11⟩ := BO.c12
 have ol := BO.lt
 obtain ⟨y0, y1, y2, y3, y4, y5, y6, y7, y8, y9, y10, y11⟩ := BN.c12
 have yl := BN.lt
 obtain ⟨xa0, xa1, xa2, xa3, xa4, xa5, xa6, xa7, xa8, xa9, xa10, xa11⟩ := BX.c12
 have xal := BX.lt
 obtain ⟨ua0, ua1, ua2, ua3, ua4, ua5, ua6, ua7, ua8, ua9, ua10, ua11⟩ := BU.c12
 have ual := BU.lt
 clear k0 k1 kl p0 p1 p2 p3 p4 p5 p6 p7 p8 p9 p10 p11 pl q0 q1 q2 q3 q4 q5 q6 q7 q8 q9 q10 q11 ql o0 o1 o2 o3 o4 o5 o6 o7 o8 o9 o10 o11 ol y0 y1 y2 y3 y4 y5 y6 y7 y8 y9 y10 y11 yl xa0 xa1 xa2 xa3 xa4 xa5 xa6 xa7 xa8 xa9 xa10 xa11 xal ua0 ua1 ua2 ua3 ua4 ua5 ua6 ua7 ua8 ua9 ua10 ua11 ual
 obtain ⟨xa0, xa1, xa2, xa3, xa4, xa5, xa6, xa7, xa8, xa9, xa10, xa11⟩ := Qb.c12 BX
 have xal := Qb.lt BX
 obtain ⟨ua0, ua1, ua2, ua3, ua4, ua5, ua6, ua7, ua8, ua9, ua10, ua11⟩ := Qb.c12 BU
 have ual := Qb.lt BU
 go_wp2_with (first | (go_at_call 14; (with_reducible refine Calls.mono (N5 X _ _ _ _ _ _ _ PX PU) ?_); rintro e x1 ⟨rfl, hx⟩; replace E := E.trans hx; replace Z := Z.ext hx; replace C := C.ext hx; replace P := P.ext hx; replace Q := Q.ext hx; replace D := D.ext hx; replace D2 := D2.ext hx; replace PX := PX.ext hx; replace PU := PU.ext hx; replace B1 := B1.ext hx; replace B2 := B2.ext hx; replace B3 := B3.ext hx; replace BO := BO.ext hx; replace BN := BN.ext hx; replace BX := BX.ext hx; replace BU := BU.ext hx; clear hx; clear xa0 xa1 xa2 xa3 xa4 xa5 xa6 xa7 xa8 xa9 xa10 xa11 ua0 ua1 ua2 ua3 ua4 ua5 ua6 ua7 ua8 ua9 ua10 ua11 xal ual; obtain ⟨o0, o1, o2, o3, o4, o5, o6, o7, o8, o9, o10, o11⟩ := Qb.c12 BO; have ol := Qb.lt BO; obtain ⟨p0, p1, p2, p3, p4, p5, p6, p7, p8, p9, p10, p11⟩ := Qb.c12 B2; have pl := Qb.lt B2) | (go_at_call 14; (with_reducible refine Calls.mono (N5 p _ _ _ _ _ _ _ D P) ?_); rintro e x2 ⟨rfl, hx⟩; replace E := E.trans hx; replace Z := Z.ext hx; replace C := C.ext hx; replace P := P.ext hx; replace Q := Q.ext hx; replace D := D.ext hx; replace D2 := D2.ext hx; replace PX := PX.ext hx; replace PU := PU.ext hx; replace B1 := B1.ext hx; replace B2 := B2.ext hx; replace B3 := B3.ext hx; replace BO := BO.ext hx; replace BN := BN.ext hx; replace BX := BX.ext hx; replace BU := BU.ext hx; clear hx; clear o0 o1 o2 o3 o4 o5 o6 o7 o8 o9 o10 o11 p0 p1 p2 p3 p4 p5 p6 p7 p8 p9 p10 p11 ol pl; obtain ⟨y0, y1, y2, y3, y4, y5, y6, y7, y8, y9, y10, y11⟩ := Qb.c12 BN; have yl := Qb.lt BN; obtain ⟨q0, q1, q2, q3, q4, q5, q6, q7, q8, q9, q10, q11⟩ := Qb.c12 B3; have ql := Qb.lt B3) | (go_at_call 14; (with_reducible refine Calls.mono (N5 q _ _ _ _ _ _ _ D2 Q) ?_); rintro e x3 ⟨rfl, hx⟩; replace E := E.trans hx; replace Z := Z.ext hx; replace C := C.ext hx; replace P := P.ext hx; replace Q := Q.ext hx; replace D := D.ext hx; replace D2 := D2.ext hx; replace PX := PX.ext hx; replace PU := PU.ext hx; replace B1 := B1.ext hx; replace B2 := B2.ext hx; replace B3 := B3.ext hx; replace BO := BO.ext hx; replace BN := BN.ext hx; replace BX := BX.ext hx; replace BU := BU.ext hx; clear hx; clear y0 y1 y2 y3 y4 y5 y6 y7 y8 y9 y10 y11 q0 q1 q2 q3 q4 q5 q6 q7 q8 q9 q10 q11 yl ql) | (go_at_call 15; (with_reducible refine Calls.mono (Qc0 _ Z) ?_); rintro e x4 ⟨rfl, hx⟩; replace E := E.trans hx))
 go_ret
 exact ⟨rfl, E⟩
end Go.Proofs.YtneiofnlmblglaaGreatDoor