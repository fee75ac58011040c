/- The walk of LedgerDivideJoins. -/
import Derived.Test.YtneiofnlmblglaaDoorCUTb
import Derived.Test.YtneiofnlmblglaaDoorCUTm
import Derived.Test.YtneiofnlmblglaaDoorCUTn
import Derived.Test.YtneiofnlmblglaaDoorU11
import Derived.Test.YtneiofnlmblglaaDoorU12
set_option maxRecDepth 100000
set_option maxHeartbeats 4000000
namespace Go.Proofs.YtneiofnlmblglaaDoor
open Go Go.RowKit Go.Shelf
attribute [local go_sem] Zi
theorem alike0_any (X : Pd) (hX : X = Zx) (a b e : Value) (w : World) (h : Zv w X a b e) : Calls Tryd.prog 15 #[.agg #[.string X.h, .int .i64 X.a.y, .int .i64 X.a.m, .bool X.a.s, .int .i64 X.a.d, .int .i64 X.b.y, .int .i64 X.b.m, .bool X.b.s, .int .i64 X.b.d, a, b, e], .agg #[.string ⟨#[]⟩, .int .i64 0, .int .i64 0, .bool false, .int .i64 0, .int .i64 0, .int .i64 0, .bool false, .int .i64 0, .slice none 0 0, .slice none 0 0, .slice none 0 0]] w fun e w' => e = .returned (.bool true) ∧ Qa w w' := by
 subst hX; exact alike_any Zx a b e _ _ _ w h (Qdl w)
set_option maxHeartbeats 20000000 in
theorem ledgerDivideJoins_walk (A A' : Option Addr) (ca cb : Nat) (c : Qc) (p : Pd) (vo vd vc : Value) (d : Dt) (w : World) (hC : Q8 w A ca A' cb c) (hP : Zv w p vo vd vc) (hZ : Zl w) :
  Calls Tryd.prog 5 #[.agg #[.slice A c.nk ca, .slice A' c.ny cb], .agg #[.string p.h, .int .i64 p.a.y, .int .i64 p.a.m, .bool p.a.s, .int .i64 p.a.d, .int .i64 p.b.y, .int .i64 p.b.m, .bool p.b.s, .int .i64 p.b.d, vo, vd, vc], .agg #[.int .i64 d.y, .int .i64 d.m, .bool d.s, .int .i64 d.d]] w fun e w' => e = .returned (.bool true) ∧ Qa w w' := by
 obtain ⟨t1, s1, e1, _⟩ := id hP.o
 subst e1
 obtain ⟨t2, s2, _, e2, _⟩ := id hP.d
 subst e2
 obtain ⟨t3, s3, e3, _⟩ := id hP.c
 subst e3
 have N1 := fun v a b e h1 h2 => divide_any A A' ca cb c p a b e d v h1 h2
 have hbad := Lib.hid (fun h : c.divE p d ≠ 0 => (show c.divP p d = (Zx, Zx) by unfold Qc.divP; rw [if_pos h]))
 have hgood := Lib.hid (fun h : c.divE p d = 0 => Qae (c := c) (p := p) (d := d) h)
 generalize c.divP p d = V at *
 obtain ⟨X, Y⟩ := V
 simp only at N1
 generalize c.divE p d = RE at *
 go_enter Tryd.func5, Tryd.ntmps5
 go_upto_region 1 with (fail)
 obtain ⟨v, hv⟩ := Qg (((w.alloc (.cells #[.slice A c.nk ca, .slice A' c.ny cb] 25)).alloc (.cells #[.string p.h, .int .i64 p.a.y, .int .i64 p.a.m, .bool p.a.s, .int .i64 p.a.d, .int .i64 p.b.y, .int .i64 p.b.m, .bool p.b.s, .int .i64 p.b.d, .slice t1 p.o.length s1, .slice t2 p.d.length s2, .slice t3 p.c.length s3] 31)).alloc (.cells #[.int .i64 d.y, .int .i64 d.m, .bool d.s, .int .i64 d.d] 27))
 rw [← hv]
 have E : Qa w v := by rw [hv]; exact (((Qa.refl _).alloc _).alloc _).alloc _
 have B1 : Qb v w.heap.size 25 #[.slice A c.nk ca, .slice A' c.ny cb] := by rw [hv]; exact ((Qb.new _ _ _).alloc _).alloc _
 have B2 : Qb v (w.heap.size + 1) 31 #[.string p.h, .int .i64 p.a.y, .int .i64 p.a.m, .bool p.a.s, .int .i64 p.a.d, .int .i64 p.b.y, .int .i64 p.b.m, .bool p.b.s, .int .i64 p.b.d, .slice t1 p.o.length s1, .slice t2 p.d.length s2, .slice t3 p.c.length s3] := by rw [hv]; exact (Qb.at _ _ _ _ (by simp)).alloc _
 have B3 : Qb v (w.heap.size + 1 + 1) 27 #[.int .i64 d.y, .int .i64 d.m, .bool d.s, .int .i64 d.d] := by rw [hv]; exact Qb.at _ _ _ _ (by simp)
 clear hv
 obtain ⟨b3, hb3⟩ := Qg (w.heap.size + 1 + 1)
 rw [← hb3] at B3 ⊢
 obtain ⟨b2, hb2⟩ := Qg (w.heap.size + 1)
 rw [← hb2] at B2 ⊢
 obtain ⟨b1, hb1⟩ := Qg (w.heap.size)
 rw [← hb1] at B1 ⊢
 have hbr : w.heap.size ≤ b3 := by omega
 have hbr1 : w.heap.size ≤ b1 := by omega
 have hbr2 : w.heap.size ≤ b2 := by omega
 have hn21 : b2 ≠ b1 := by omega
 have hn31 : b3 ≠ b1 := by omega
 have hn32 : b3 ≠ b2 := by omega
 clear hb1 hb2 hb3
 have Z := hZ.ext E
 have C := hC.ext E
 have P := hP.ext E
 clear hC hP hZ
 obtain ⟨k0, k1⟩ := B1.c2
 have kl := B1.lt
 obtain ⟨p0, p1, p2, p3, p4, p5, p6, p7, p8, p9, p10, p11⟩ := B2.c12
 have pl := B2.lt
 obtain ⟨d0, d1, d2, d3⟩ := B3.c4
 have dl := B3.lt
 go_upto_region 2 with (go_at_call 9; (with_reducible refine Calls.mono (N1 _ _ _ _ C P) ?_); rintro e w2 ⟨_, _, _, _, _, _, rfl, hx, PX, PY⟩; replace E := E.trans hx; replace Z := Z.ext hx; replace C := C.ext hx; replace P := P.ext hx; replace B1 := B1.ext hx; replace B2 := B2.ext hx; replace B3 := B3.ext hx; clear hx; clear k0 k1 kl p0 p1 p2 p3 p4 p5 p6 p7 p8 p9 p10 p11 pl d0 d1 d2 d3 dl; obtain ⟨k0, k1⟩ := B1.c2; have kl := B1.lt; obtain ⟨p0, p1, p2, p3, p4, p5, p6, p7, p8, p9, p10, p11⟩ := B2.c12; have pl := B2.lt; obtain ⟨d0, d1, d2, d3⟩ := B3.c4; have dl := B3.lt; obtain ⟨zo1, zp1, e1, _⟩ := id PX.o; subst e1; obtain ⟨zd1, zq1, _, e2, _⟩ := id PX.d; subst e2; obtain ⟨zc1, zr1, e3, _⟩ := id PX.c; subst e3; obtain ⟨zo2, zp2, e1, _⟩ := id PY.o; subst e1; obtain ⟨zd2, zq2, _, e2, _⟩ := id PY.d; subst e2; obtain ⟨zc2, zr2, e3, _⟩ := id PY.c; subst e3)
 obtain ⟨v3, hv⟩ := Qg ((w2.alloc (.cells #[.string X.h, .int .i64 X.a.y, .int .i64 X.a.m, .bool X.a.s, .int .i64 X.a.d, .int .i64 X.b.y, .int .i64 X.b.m, .bool X.b.s, .int .i64 X.b.d, .slice zo1 X.o.length zp1, .slice zd1 X.d.length zq1, .slice zc1 X.c.length zr1] 31)).alloc (.cells #[.string Y.h, .int .i64 Y.a.y, .int .i64 Y.a.m, .bool Y.a.s, .int .i64 Y.a.d, .int .i64 Y.b.y, .int .i64 Y.b.m, .bool Y.b.s, .int .i64 Y.b.d, .slice zo2 Y.o.length zp2, .slice zd2 Y.d.length zq2, .slice zc2 Y.c.length zr2] 31))
 rw [← hv]
 have hx : Qa w2 v3 := by rw [hv]; exact ((Qa.refl _).alloc _).alloc _
 have BX : Qb v3 w2.heap.size 31 #[.string X.h, .int .i64 X.a.y, .int .i64 X.a.m, .bool X.a.s, .int .i64 X.a.d, .int .i64 X.b.y, .int .i64 X.b.m, .bool X.b.s, .int .i64 X.b.d, .slice zo1 X.o.length zp1, .slice zd1 X.d.length zq1, .slice zc1 X.c.length zr1] := by rw [hv]; exact (Qb.new _ _ _).alloc _
 have BY : Qb v3 (w2.heap.size + 1) 31 #[.string Y.h, .int .i64 Y.a.y, .int .i64 Y.a.m, .bool Y.a.s, .int .i64 Y.a.d, .int .i64 Y.b.y, .int .i64 Y.b.m, .bool Y.b.s, .int .i64 Y.b.d, .slice zo2 Y.o.length zp2, .slice zd2 Y.d.length zq2, .slice zc2 Y.c.length zr2] := by rw [hv]; exact Qb.at _ _ _ _ (by simp)
 clear hv
 generalize w2.heap.size = bb1 at *
 clear k0 k1 kl p0 p1 p2 p3 p4 p5 p6 p7 p8 p9 p10 p11 pl d0 d1 d2 d3 dl
 replace E := E.trans hx
 replace Z := Z.ext hx
 replace C := C.ext hx
 replace P := P.ext hx
 replace PX := PX.ext hx
 replace PY := PY.ext hx
 replace B1 := B1.ext hx
 replace B2 := B2.ext hx
 replace B3 := B3.ext hx
 clear hx
 obtain ⟨k0, k1⟩ := B1.c2
 have kl := B1.lt
 obtain ⟨p0, p1, p2, p3, p4, p5, p6, p7, p8, p9, p10, p11⟩ := B2.c12
 have pl := B2.lt
 obtain ⟨d0, d1, d2, d3⟩ := B3.c4
 have dl := B3.lt
 obtain ⟨xa0, xa1, xa2, xa3, xa4, xa5, xa6, xa7, xa8, xa9, xa10, xa11⟩ := BX.c12
 have xal := BX.lt
 obtain ⟨ya0, ya1, ya2, ya3, ya4, ya5, ya6, ya7, ya8, ya9, ya10, ya11⟩ := BY.c12
 have yal := BY.lt
 clear N1
 by_cases e0 : RE = 0
 rotate_left
 ·have g0 : (RE == 0) = false := beq_eq_false_iff_ne.2 e0
  have g0n : (RE != 0) = true := by rw [bne, g0]; rfl
  have hb := hbad.out e0
  have hX : X = Zx := congrArg Prod.fst hb
  have hY : Y = Zx := congrArg Prod.snd hb
  have N3 := fun a b e w h => alike0_any X hX a b e w h
  have N4 := fun a b e w h => alike0_any Y hY a b e w h
  clear hb hX hY hbad hgood
  go_wp2_with (first | (go_at_call 15; (with_reducible refine Calls.mono (N3 _ _ _ _ PX) ?_); rintro e x1 ⟨rfl, hx⟩; replace E := E.trans hx; replace Z := Z.ext hx; replace C := C.ext hx; replace P := P.ext hx; replace PX := PX.ext hx; replace PY := PY.ext hx; replace B1 := B1.ext hx; replace B2 := B2.ext hx; replace B3 := B3.ext hx; replace BX := BX.ext hx; replace BY := BY.ext hx; clear hx; clear k0 k1 kl p0 p1 p2 p3 p4 p5 p6 p7 p8 p9 p10 p11 pl d0 d1 d2 d3 dl xa0 xa1 xa2 xa3 xa4 xa5 xa6 xa7 xa8 xa9 xa10 xa11 xal ya0 ya1 ya2 ya3 ya4 ya5 ya6 ya7 ya8 ya9 ya10 ya11 yal; obtain ⟨k0, k1⟩ := B1.c2; have kl := B1.lt; obtain ⟨p0, p1, p2, p3, p4, p5, p6, p7, p8, p9, p10, p11⟩ := B2.c12; have pl := B2.lt; obtain ⟨d0, d1, d2, d3⟩ := B3.c4; have dl := B3.lt; obtain ⟨xa0, xa1, xa2, xa3, xa4, xa5, xa6, xa7, xa8, xa9, xa10, xa11⟩ := BX.c12; have xal := BX.lt; obtain ⟨ya0, ya1, ya2, ya3, ya4, ya5, ya6, ya7, ya8, ya9, ya10, ya11⟩ := BY.c12; have yal := BY.lt) | (go_at_call 15; (with_reducible refine Calls.mono (N4 _ _ _ _ PY) ?_); rintro e x2 ⟨rfl, hx⟩; replace E := E.trans hx; replace Z := Z.ext hx; replace C := C.ext hx; replace P := P.ext hx; replace PX := PX.ext hx; replace PY := PY.ext hx; replace B1 := B1.ext hx; replace B2 := B2.ext hx; replace B3 := B3.ext hx; replace BX := BX.ext hx; replace BY := BY.ext hx; clear hx; clear k0 k1 kl p0 p1 p2 p3 p4 p5 p6 p7 p8 p9 p10 p11 pl d0 d1 d2 d3 dl xa0 xa1 xa2 xa3 xa4 xa5 xa6 xa7 xa8 xa9 xa10 xa11 xal ya0 ya1 ya2 ya3 ya4 ya5 ya6 ya7 ya8 ya9 ya10 ya11 yal; obtain ⟨k0, k1⟩ := B1.c2; have kl := B1.lt; obtain ⟨p0, p1, p2, p3, p4, p5, p6, p7, p8, p9, p10, p11⟩ := B2.c12; have pl := B2.lt; obtain ⟨d0, d1, d2, d3⟩ := B3.c4; have dl := B3.lt; obtain ⟨xa0, xa1, xa2, xa3, xa4, xa5, xa6, xa7, xa8, xa9, xa10, xa11⟩ := BX.c12; have xal := BX.lt; obtain ⟨ya0, ya1, ya2, ya3, ya4, ya5, ya6, ya7, ya8, ya9, ya10, ya11⟩ := BY.c12; have yal := BY.lt) | (go_at_call 13; (with_reducible refine Calls.mono (Kc _ Z) ?_); rintro e x4 ⟨rfl, hx⟩; replace E := E.trans hx))
  go_ret
  exact ⟨rfl, E⟩
 have hg := hgood.out e0
 obtain ⟨hj1, hj2, hcl⟩ := hg
 have N2 := fun a b e a' b' e' w h1 h2 h3 => join_any A A' ca cb c X Y a b e a' b' e' w h1 h2 h3
 rw [hj1, hj2] at N2
 have N6 := fun a b e w h1 h2 => Kr A A' ca cb c Y a b e w h1 h2
 have N7 := fun a b e w h1 h2 => Kr A A' ca cb c p a b e w h1 h2
 rw [hcl] at N6
 generalize c.closeV p = SV at *
 obtain ⟨S, se⟩ := SV
 simp only at N6 N7
 clear hj1 hj2 hcl hbad hgood
 subst e0
 have hse : (se == se) = true := beq_self_eq_true se
 go_upto_region 5 with (go_at_call 12; (with_reducible refine Calls.mono (N2 _ _ _ _ _ _ _ C PX PY) ?_); rintro e w4 ⟨_, _, _, rfl, hx, PW⟩; replace E := E.trans hx; replace Z := Z.ext hx; replace C := C.ext hx; replace P := P.ext hx; replace PX := PX.ext hx; replace PY := PY.ext hx; replace B1 := B1.ext hx; replace B2 := B2.ext hx; replace B3 := B3.ext hx; replace BX := BX.ext hx; replace BY := BY.ext hx; clear hx; clear k0 k1 kl p0 p1 p2 p3 p4 p5 p6 p7 p8 p9 p10 p11 pl d0 d1 d2 d3 dl xa0 xa1 xa2 xa3 xa4 xa5 xa6 xa7 xa8 xa9 xa10 xa11 xal ya0 ya1 ya2 ya3 ya4 ya5 ya6 ya7 ya8 ya9 ya10 ya11 yal; obtain ⟨k0, k1⟩ := B1.c2; have kl := B1.lt; obtain ⟨p0, p1, p2, p3, p4, p5, p6, p7, p8, p9, p10, p11⟩ := B2.c12; have pl := B2.lt; obtain ⟨d0, d1, d2, d3⟩ := B3.c4; have dl := B3.lt; obtain ⟨xa0, xa1, xa2, xa3, xa4, xa5, xa6, xa7, xa8, xa9, xa10, xa11⟩ := BX.c12; have xal := BX.lt; obtain ⟨ya0, ya1, ya2, ya3, ya4, ya5, ya6, ya7, ya8, ya9, ya10, ya11⟩ := BY.c12; have yal := BY.lt; obtain ⟨zo3, zp3, e1, _⟩ := id PW.o; subst e1; obtain ⟨zd3, zq3, _, e2, _⟩ := id PW.d; subst e2; obtain ⟨zc3, zr3, e3, _⟩ := id PW.c; subst e3)
 obtain ⟨v5, hv⟩ := Qg (w4.alloc (.cells #[.string p.h, .int .i64 p.a.y, .int .i64 p.a.m, .bool p.a.s, .int .i64 p.a.d, .int .i64 p.b.y, .int .i64 p.b.m, .bool p.b.s, .int .i64 p.b.d, .slice zo3 p.o.length zp3, .slice zd3 p.d.length zq3, .slice zc3 p.c.length zr3] 31))
 rw [← hv]
 have hx : Qa w4 v5 := by rw [hv]; exact (Qa.refl _).alloc _
 have BW : Qb v5 w4.heap.size 31 #[.string p.h, .int .i64 p.a.y, .int .i64 p.a.m, .bool p.a.s, .int .i64 p.a.d, .int .i64 p.b.y, .int .i64 p.b.m, .bool p.b.s, .int .i64 p.b.d, .slice zo3 p.o.length zp3, .slice zd3 p.d.length zq3, .slice zc3 p.c.length zr3] := by rw [hv]; exact Qb.new _ _ _
 clear hv
 generalize w4.heap.size = bb2 at *
 clear k0 k1 kl p0 p1 p2 p3 p4 p5 p6 p7 p8 p9 p10 p11 pl d0 d1 d2 d3 dl xa0 xa1 xa2 xa3 xa4 xa5 xa6 xa7 xa8 xa9 xa10 xa11 xal ya0 ya1 ya2 ya3 ya4 ya5 ya6 ya7 ya8 ya9 ya10 ya11 yal
 replace E := E.trans hx
 replace Z := Z.ext hx
 replace C := C.ext hx
 replace P := P.ext hx
 replace PX := PX.ext hx
 replace PY := PY.ext hx
 replace PW := PW.ext hx
 replace B1 := B1.ext hx
 replace B2 := B2.ext hx
 replace B3 := B3.ext hx
 replace BX := BX.ext hx
 replace BY := BY.ext hx
 clear hx
 obtain ⟨k0, k1⟩ := B1.c2
 have kl := B1.lt
 obtain ⟨p0, p1, p2, p3, p4, p5, p6, p7, p8, p9, p10, p11⟩ := B2.c12
 have pl := B2.lt
 obtain ⟨d0, d1, d2, d3⟩ := B3.c4
 have dl := B3.lt
 obtain ⟨xa0, xa1, xa2, xa3, xa4, xa5, xa6, xa7, xa8, xa9, xa10, xa11⟩ := BX.c12
 have xal := BX.lt
 obtain ⟨ya0, ya1, ya2, ya3, ya4, ya5, ya6, ya7, ya8, ya9, ya10, ya11⟩ := BY.c12
 have yal := BY.lt
 obtain ⟨wa0, wa1, wa2, wa3, wa4, wa5, wa6, wa7, wa8, wa9, wa10, wa11⟩ := BW.c12
 have wal := BW.lt
 go_upto_region 6 with (go_at_call 6; (with_reducible refine Calls.mono (N6 _ _ _ _ C PY) ?_); rintro e w6 ⟨s4, rfl, hx, L4⟩; replace E := E.trans hx; replace Z := Z.ext hx; replace C := C.ext hx; replace P := P.ext hx; replace PX := PX.ext hx; replace PY := PY.ext hx; replace PW := PW.ext hx; replace B1 := B1.ext hx; replace B2 := B2.ext hx; replace B3 := B3.ext hx; replace BX := BX.ext hx; replace BY := BY.ext hx; replace BW := BW.ext hx; clear hx; clear k0 k1 kl p0 p1 p2 p3 p4 p5 p6 p7 p8 p9 p10 p11 pl d0 d1 d2 d3 dl xa0 xa1 xa2 xa3 xa4 xa5 xa6 xa7 xa8 xa9 xa10 xa11 xal ya0 ya1 ya2 ya3 ya4 ya5 ya6 ya7 ya8 ya9 ya10 ya11 yal wa0 wa1 wa2 wa3 wa4 wa5 wa6 wa7 wa8 wa9 wa10 wa11 wal; obtain ⟨k0, k1⟩ := B1.c2; have kl := B1.lt; obtain ⟨p0, p1, p2, p3, p4, p5, p6, p7, p8, p9, p10, p11⟩ := B2.c12; have pl := B2.lt; obtain ⟨d0, d1, d2, d3⟩ := B3.c4; have dl := B3.lt; obtain ⟨xa0, xa1, xa2, xa3, xa4, xa5, xa6, xa7, xa8, xa9, xa10, xa11⟩ := BX.c12; have xal := BX.lt; obtain ⟨ya0, ya1, ya2, ya3, ya4, ya5, ya6, ya7, ya8, ya9, ya10, ya11⟩ := BY.c12; have yal := BY.lt; obtain ⟨wa0, wa1, wa2, wa3, wa4, wa5, wa6, wa7, wa8, wa9, wa10, wa11⟩ := BW.c12; have wal := BW.lt; obtain ⟨A4, c4, e4, _⟩ := id L4; subst e4)
 go_upto_region 7 with (go_at_call 6; (with_reducible refine Calls.mono (N7 _ _ _ _ C P) ?_); rintro e w7 ⟨s5, rfl, hx, L5⟩; replace E := E.trans hx; replace Z := Z.ext hx; replace C := C.ext hx; replace P := P.ext hx; replace PX := PX.ext hx; replace PY := PY.ext hx; replace PW := PW.ext hx; replace L4 := L4.ext hx; replace B1 := B1.ext hx; replace B2 := B2.ext hx; replace B3 := B3.ext hx; replace BX := BX.ext hx; replace BY := BY.ext hx; replace BW := BW.ext hx; clear hx; clear k0 k1 kl p0 p1 p2 p3 p4 p5 p6 p7 p8 p9 p10 p11 pl d0 d1 d2 d3 dl xa0 xa1 xa2 xa3 xa4 xa5 xa6 xa7 xa8 xa9 xa10 xa11 xal ya0 ya1 ya2 ya3 ya4 ya5 ya6 ya7 ya8 ya9 ya10 ya11 yal wa0 wa1 wa2 wa3 wa4 wa5 wa6 wa7 wa8 wa9 wa10 wa11 wal; obtain ⟨k0, k1⟩ := B1.c2; have kl := B1.lt; obtain ⟨p0, p1, p2, p3, p4, p5, p6, p7, p8, p9, p10, p11⟩ := B2.c12; have pl := B2.lt; obtain ⟨d0, d1, d2, d3⟩ := B3.c4; have dl := B3.lt; obtain ⟨xa0, xa1, xa2, xa3, xa4, xa5, xa6, xa7, xa8, xa9, xa10, xa11⟩ := BX.c12; have xal := BX.lt; obtain ⟨ya0, ya1, ya2, ya3, ya4, ya5, ya6, ya7, ya8, ya9, ya10, ya11⟩ := BY.c12; have yal := BY.lt; obtain ⟨wa0, wa1, wa2, wa3, wa4, wa5, wa6, wa7, wa8, wa9, wa10, wa11⟩ := BW.c12; have wal := BW.lt; obtain ⟨A5, c5, e5, _⟩ := id L5; subst e5)
 go_wp2_with (first | (go_at_call 15; (with_reducible refine Calls.mono (alike_any p _ _ _ _ _ _ _ PW P) ?_); rintro e x1 ⟨rfl, hx⟩; replace E := E.trans hx; replace Z := Z.ext hx; replace C := C.ext hx; replace P := P.ext hx; replace PX := PX.ext hx; replace PY := PY.ext hx; replace PW := PW.ext hx; replace L4 := L4.ext hx; replace L5 := L5.ext hx; replace B1 := B1.ext hx; replace B2 := B2.ext hx; replace B3 := B3.ext hx; replace BX := BX.ext hx; replace BY := BY.ext hx; replace BW := BW.ext hx; clear hx; clear k0 k1 kl p0 p1 p2 p3 p4 p5 p6 p7 p8 p9 p10 p11 pl d0 d1 d2 d3 dl xa0 xa1 xa2 xa3 xa4 xa5 xa6 xa7 xa8 xa9 xa10 xa11 xal ya0 ya1 ya2 ya3 ya4 ya5 ya6 ya7 ya8 ya9 ya10 ya11 yal wa0 wa1 wa2 wa3 wa4 wa5 wa6 wa7 wa8 wa9 wa10 wa11 wal; obtain ⟨k0, k1⟩ := B1.c2; have kl := B1.lt; obtain ⟨p0, p1, p2, p3, p4, p5, p6, p7, p8, p9, p10, p11⟩ := B2.c12; have pl := B2.lt; obtain ⟨d0, d1, d2, d3⟩ := B3.c4; have dl := B3.lt; obtain ⟨xa0, xa1, xa2, xa3, xa4, xa5, xa6, xa7, xa8, xa9, xa10, xa11⟩ := BX.c12; have xal := BX.lt; obtain ⟨ya0, ya1, ya2, ya3, ya4, ya5, ya6, ya7, ya8, ya9, ya10, ya11⟩ := BY.c12; have yal := BY.lt; obtain ⟨wa0, wa1, wa2, wa3, wa4, wa5, wa6, wa7, wa8, wa9, wa10, wa11⟩ := BW.c12; have wal := BW.lt) | (go_at_call 14; (with_reducible refine Calls.mono (sameT_any _ _ S _ L4 L5) ?_); rintro e x2 ⟨rfl, hx⟩; replace E := E.trans hx; replace Z := Z.ext hx; replace C := C.ext hx; replace P := P.ext hx; replace PX := PX.ext hx; replace PY := PY.ext hx; replace PW := PW.ext hx; replace L4 := L4.ext hx; replace L5 := L5.ext hx; replace B1 := B1.ext hx; replace B2 := B2.ext hx; replace B3 := B3.ext hx; replace BX := BX.ext hx; replace BY := BY.ext hx; replace BW := BW.ext hx; clear hx; clear k0 k1 kl p0 p1 p2 p3 p4 p5 p6 p7 p8 p9 p10 p11 pl d0 d1 d2 d3 dl xa0 xa1 xa2 xa3 xa4 xa5 xa6 xa7 xa8 xa9 xa10 xa11 xal ya0 ya1 ya2 ya3 ya4 ya5 ya6 ya7 ya8 ya9 ya10 ya11 yal wa0 wa1 wa2 wa3 wa4 wa5 wa6 wa7 wa8 wa9 wa10 wa11 wal; obtain ⟨k0, k1⟩ := B1.c2; have kl := B1.lt; obtain ⟨p0, p1, p2, p3, p4, p5, p6, p7, p8, p9, p10, p11⟩ := B2.c12; have pl := B2.lt; obtain ⟨d0, d1, d2, d3⟩ := B3.c4; have dl := B3.lt; obtain ⟨xa0, xa1, xa2, xa3, xa4, xa5, xa6, xa7, xa8, xa9, xa10, xa11⟩ := BX.c12; have xal := BX.lt; obtain ⟨ya0, ya1, ya2, ya3, ya4, ya5, ya6, ya7, ya8, ya9, ya10, ya11⟩ := BY.c12; have yal := BY.lt; obtain ⟨wa0, wa1, wa2, wa3, wa4, wa5, wa6, wa7, wa8, wa9, wa10, wa11⟩ := BW.c12; have wal := BW.lt) | (go_at_call 13; (with_reducible refine Calls.mono (Kc _ Z) ?_); rintro e x4 ⟨rfl, hx⟩; replace E := E.trans hx))
 go_ret
 exact ⟨rfl, E⟩
end Go.Proofs.YtneiofnlmblglaaDoor