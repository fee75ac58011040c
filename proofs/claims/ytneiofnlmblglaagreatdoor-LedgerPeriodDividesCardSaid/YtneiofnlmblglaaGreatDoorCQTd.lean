/- The walk of LedgerPeriodDivides. -/
import Derived.Test.YtneiofnlmblglaaGreatDoorCQTb
import Derived.Test.YtneiofnlmblglaaGreatDoorCQTc
import Derived.Test.YtneiofnlmblglaaGreatDoorQ13
import Derived.Test.YtneiofnlmblglaaGreatDoorCQOb
import Derived.Test.YtneiofnlmblglaaGreatDoorQ14
set_option maxRecDepth 100000
set_option maxHeartbeats 4000000
namespace Go.Proofs.YtneiofnlmblglaaGreatDoor
open Go Go.RowKit Go.Shelf
attribute [local go_sem] Zt
set_option maxHeartbeats 20000000 in
theorem ledgerPeriodDivides_walk (A A' : Option Addr) (ca cb : Nat) (c : Qf) (p : Pd) (vo vd vc : Value) (d : Dt) (w : World) (hC : Qv w A ca A' cb c) (hP : Jj w p vo vd vc) (hL : p.Light) (hZ : Zy w) :
  Calls Tryz.prog 6 #[.agg #[.slice A c.nk ca, .slice A' c.ny cb], .agg #[.string p.h, .int .i64 p.a.y, .int .i64 p.a.m, .bool p.a.s, .int .i64 p.a.d, .int .i64 p.b.y, .int .i64 p.b.m, .bool p.b.s, .int .i64 p.b.d, vo, vd, vc], .agg #[.int .i64 d.y, .int .i64 d.m, .bool d.s, .int .i64 d.d]] w fun e w' => e = .returned (.bool true) ∧ Qa w w' := by
 obtain ⟨t1, s1, e1, _⟩ := id hP.o
 subst e1
 obtain ⟨t2, s2, _, e2, _⟩ := id hP.d
 subst e2
 obtain ⟨t3, s3, e3, _⟩ := id hP.c
 subst e3
 have NCP := fun v h => Qe3 p (.slice t1 p.o.length s1) (.slice t2 p.d.length s2) (.slice t3 p.c.length s3) v h hL.o hL.c hL.l hL.d
 have N1 := fun v a b e h1 h2 => divide_any A A' ca cb c p a b e d v h1 h2
 have N2 := fun v h1 h2 => divideR_any A A' ca cb c p (.slice t1 p.o.length s1) (.slice t2 p.d.length s2) (.slice t3 p.c.length s3) d v h1 h2
 have N5 := fun q v a b e a' b' e' h1 h2 => Ii q a b e a' b' e' v h1 h2
 generalize c.divP p d = V at *
 obtain ⟨X, Y⟩ := V
 simp only at N1 N2
 generalize c.divE p d = RE at *
 go_enter Tryz.func6, Tryz.ntmps6
 go_upto_region 1 with (fail)
 obtain ⟨v, hv⟩ := Qg (((w.alloc (.cells #[.slice A c.nk ca, .slice A' c.ny cb] 25)).alloc (.cells #[.string p.h, .int .i64 p.a.y, .int .i64 p.a.m, .bool p.a.s, .int .i64 p.a.d, .int .i64 p.b.y, .int .i64 p.b.m, .bool p.b.s, .int .i64 p.b.d, .slice t1 p.o.length s1, .slice t2 p.d.length s2, .slice t3 p.c.length s3] 31)).alloc (.cells #[.int .i64 d.y, .int .i64 d.m, .bool d.s, .int .i64 d.d] 27))
 rw [← hv]
 have E : Qa w v := by rw [hv]; exact (((Qa.refl _).alloc _).alloc _).alloc _
 have B1 : Qb v w.heap.size 25 #[.slice A c.nk ca, .slice A' c.ny cb] := by rw [hv]; exact ((Qb.new _ _ _).alloc _).alloc _
 have B2 : Qb v (w.heap.size + 1) 31 #[.string p.h, .int .i64 p.a.y, .int .i64 p.a.m, .bool p.a.s, .int .i64 p.a.d, .int .i64 p.b.y, .int .i64 p.b.m, .bool p.b.s, .int .i64 p.b.d, .slice t1 p.o.length s1, .slice t2 p.d.length s2, .slice t3 p.c.length s3] := by rw [hv]; exact (Qb.at _ _ _ _ (by simp)).alloc _
 have B3 : Qb v (w.heap.size + 1 + 1) 27 #[.int .i64 d.y, .int .i64 d.m, .bool d.s, .int .i64 d.d] := by rw [hv]; exact Qb.at _ _ _ _ (by simp)
 clear hv
 obtain ⟨b3, hb3⟩ := Qg (w.heap.size + 1 + 1)
 rw [← hb3] at B3 ⊢
 obtain ⟨b2, hb2⟩ := Qg (w.heap.size + 1)
 rw [← hb2] at B2 ⊢
 obtain ⟨b1, hb1⟩ := Qg (w.heap.size)
 rw [← hb1] at B1 ⊢
 have hbr : w.heap.size ≤ b3 := by omega
 have hbr1 : w.heap.size ≤ b1 := by omega
 have hbr2 : w.heap.size ≤ b2 := by omega
 have hn21 : b2 ≠ b1 := by omega
 have hn31 : b3 ≠ b1 := by omega
 have hn32 : b3 ≠ b2 := by omega
 clear hb1 hb2 hb3
 have Z := hZ.ext E
 have C := hC.ext E
 have P := hP.ext E
 clear hC hP hZ hL
 obtain ⟨k0, k1⟩ := B1.c2
 have kl := B1.lt
 obtain ⟨p0, p1, p2, p3, p4, p5, p6, p7, p8, p9, p10, p11⟩ := B2.c12
 have pl := B2.lt
 obtain ⟨d0, d1, d2, d3⟩ := B3.c4
 have dl := B3.lt
 go_upto_region 2 with (go_at_call 8; (with_reducible refine Calls.mono (NCP _ P) ?_); rintro e w1 ⟨vo', vd', vc', rfl, hx, D0⟩; replace E := E.trans hx; replace Z := Z.ext hx; replace C := C.ext hx; replace P := P.ext hx; replace B1 := B1.ext hx; replace B2 := B2.ext hx; replace B3 := B3.ext hx; clear hx; clear k0 k1 kl p0 p1 p2 p3 p4 p5 p6 p7 p8 p9 p10 p11 pl d0 d1 d2 d3 dl; obtain ⟨k0, k1⟩ := B1.c2; have kl := B1.lt; obtain ⟨p0, p1, p2, p3, p4, p5, p6, p7, p8, p9, p10, p11⟩ := B2.c12; have pl := B2.lt; obtain ⟨d0, d1, d2, d3⟩ := B3.c4; have dl := B3.lt; have D := Qbr D0; clear D0; obtain ⟨zo0, zp0, e1, _⟩ := id D.o; subst e1; obtain ⟨zd0, zq0, _, e2, _⟩ := id D.d; subst e2; obtain ⟨zc0, zr0, e3, _⟩ := id D.c; subst e3)
 obtain ⟨v1, hv⟩ := Qg (w1.alloc (.cells #[.string p.h, .int .i64 p.a.y, .int .i64 p.a.m, .bool p.a.s, .int .i64 p.a.d, .int .i64 p.b.y, .int .i64 p.b.m, .bool p.b.s, .int .i64 p.b.d, .slice zo0 p.o.length zp0, .slice zd0 p.d.length zq0, .slice zc0 p.c.length zr0] 31))
 rw [← hv]
 have hx : Qa w1 v1 := by rw [hv]; exact (Qa.refl _).alloc _
 have BO : Qb v1 w1.heap.size 31 #[.string p.h, .int .i64 p.a.y, .int .i64 p.a.m, .bool p.a.s, .int .i64 p.a.d, .int .i64 p.b.y, .int .i64 p.b.m, .bool p.b.s, .int .i64 p.b.d, .slice zo0 p.o.length zp0, .slice zd0 p.d.length zq0, .slice zc0 p.c.length zr0] := by rw [hv]; exact Qb.new _ _ _
 clear hv
 generalize w1.heap.size = bb1 at *
 clear k0 k1 kl p0 p1 p2 p3 p4 p5 p6 p7 p8 p9 p10 p11 pl d0 d1 d2 d3 dl
 replace E := E.trans hx
 replace Z := Z.ext hx
 replace C := C.ext hx
 replace P := P.ext hx
 replace D := D.ext hx
 replace B1 := B1.ext hx
 replace B2 := B2.ext hx
 replace B3 := B3.ext hx
 clear hx
 obtain ⟨k0, k1⟩ := B1.c2
 have kl := B1.lt
 obtain ⟨p0, p1, p2, p3, p4, p5, p6, p7, p8, p9, p10, p11⟩ := B2.c12
 have pl := B2.lt
 obtain ⟨d0, d1, d2, d3⟩ := B3.c4
 have dl := B3.lt
 obtain ⟨o0, o1, o2, o3, o4, o5, o6, o7, o8, o9, o10, o11⟩ := BO.c12
 have ol := BO.lt
 go_upto_region 3 with (go_at_call 23; (with_reducible refine Calls.mono (N1 _ _ _ _ C D) ?_); rintro e w2 ⟨_, _, _, _, _, _, rfl, hx, PX, PY⟩; replace E := E.trans hx; replace Z := Z.ext hx; replace C := C.ext hx; replace P := P.ext hx; replace D := D.ext hx; replace B1 := B1.ext hx; replace B2 := B2.ext hx; replace B3 := B3.ext hx; replace BO := BO.ext hx; clear hx; clear k0 k1 kl p0 p1 p2 p3 p4 p5 p6 p7 p8 p9 p10 p11 pl d0 d1 d2 d3 dl o0 o1 o2 o3 o4 o5 o6 o7 o8 o9 o10 o11 ol; obtain ⟨k0, k1⟩ := B1.c2; have kl := B1.lt; obtain ⟨p0, p1, p2, p3, p4, p5, p6, p7, p8, p9, p10, p11⟩ := B2.c12; have pl := B2.lt; obtain ⟨d0, d1, d2, d3⟩ := B3.c4; have dl := B3.lt; obtain ⟨o0, o1, o2, o3, o4, o5, o6, o7, o8, o9, o10, o11⟩ := BO.c12; have ol := BO.lt; obtain ⟨zo1, zp1, e1, _⟩ := id PX.o; subst e1; obtain ⟨zd1, zq1, _, e2, _⟩ := id PX.d; subst e2; obtain ⟨zc1, zr1, e3, _⟩ := id PX.c; subst e3; obtain ⟨zo2, zp2, e1, _⟩ := id PY.o; subst e1; obtain ⟨zd2, zq2, _, e2, _⟩ := id PY.d; subst e2; obtain ⟨zc2, zr2, e3, _⟩ := id PY.c; subst e3)
 obtain ⟨v3, hv⟩ := Qg ((w2.alloc (.cells #[.string X.h, .int .i64 X.a.y, .int .i64 X.a.m, .bool X.a.s, .int .i64 X.a.d, .int .i64 X.b.y, .int .i64 X.b.m, .bool X.b.s, .int .i64 X.b.d, .slice zo1 X.o.length zp1, .slice zd1 X.d.length zq1, .slice zc1 X.c.length zr1] 31)).alloc (.cells #[.string Y.h, .int .i64 Y.a.y, .int .i64 Y.a.m, .bool Y.a.s, .int .i64 Y.a.d, .int .i64 Y.b.y, .int .i64 Y.b.m, .bool Y.b.s, .int .i64 Y.b.d, .slice zo2 Y.o.length zp2, .slice zd2 Y.d.length zq2, .slice zc2 Y.c.length zr2] 31))
 rw [← hv]
 have hx : Qa w2 v3 := by rw [hv]; exact ((Qa.refl _).alloc _).alloc _
 have BX : Qb v3 w2.heap.size 31 #[.string X.h, .int .i64 X.a.y, .int .i64 X.a.m, .bool X.a.s, .int .i64 X.a.d, .int .i64 X.b.y, .int .i64 X.b.m, .bool X.b.s, .int .i64 X.b.d, .slice zo1 X.o.length zp1, .slice zd1 X.d.length zq1, .slice zc1 X.c.length zr1] := by rw [hv]; exact (Qb.new _ _ _).alloc _
 have BY : Qb v3 (w2.heap.size + 1) 31 #[.string Y.h, .int .i64 Y.a.y, .int .i64 Y.a.m, .bool Y.a.s, .int .i64 Y.a.d, .int .i64 Y.b.y, .int .i64 Y.b.m, .bool Y.b.s, .int .i64 Y.b.d, .slice zo2 Y.o.length zp2, .slice zd2 Y.d.length zq2, .slice zc2 Y.c.length zr2] := by rw [hv]; exact Qb.at _ _ _ _ (by simp)
 clear hv
 generalize w2.heap.size = bb2 at *
 clear k0 k1 kl p0 p1 p2 p3 p4 p5 p6 p7 p8 p9 p10 p11 pl d0 d1 d2 d3 dl o0 o1 o2 o3 o4 o5 o6 o7 o8 o9 o10 o11 ol
 replace E := E.trans hx
 replace Z := Z.ext hx
 replace C := C.ext hx
 replace P := P.ext hx
 replace D := D.ext hx
 replace PX := PX.ext hx
 replace PY := PY.ext hx
 replace B1 := B1.ext hx
 replace B2 := B2.ext hx
 replace B3 := B3.ext hx
 replace BO := BO.ext hx
 clear hx
 obtain ⟨k0, k1⟩ := B1.c2
 have kl := B1.lt
 obtain ⟨p0, p1, p2, p3, p4, p5, p6, p7, p8, p9, p10, p11⟩ := B2.c12
 have pl := B2.lt
 obtain ⟨d0, d1, d2, d3⟩ := B3.c4
 have dl := B3.lt
 obtain ⟨o0, o1, o2, o3, o4, o5, o6, o7, o8, o9, o10, o11⟩ := BO.c12
 have ol := BO.lt
 go_upto_region 4 with (go_at_call 24; (with_reducible refine Calls.mono (N2 _ C P) ?_); rintro e w3 ⟨_, _, _, _, _, _, rfl, hx, PU, PV⟩; replace E := E.trans hx; replace Z := Z.ext hx; replace C := C.ext hx; replace P := P.ext hx; replace D := D.ext hx; replace PX := PX.ext hx; replace PY := PY.ext hx; replace BX := BX.ext hx; replace BY := BY.ext hx; replace B1 := B1.ext hx; replace B2 := B2.ext hx; replace B3 := B3.ext hx; replace BO := BO.ext hx; clear hx; clear k0 k1 kl p0 p1 p2 p3 p4 p5 p6 p7 p8 p9 p10 p11 pl d0 d1 d2 d3 dl o0 o1 o2 o3 o4 o5 o6 o7 o8 o9 o10 o11 ol; obtain ⟨k0, k1⟩ := B1.c2; have kl := B1.lt; obtain ⟨p0, p1, p2, p3, p4, p5, p6, p7, p8, p9, p10, p11⟩ := B2.c12; have pl := B2.lt; obtain ⟨d0, d1, d2, d3⟩ := B3.c4; have dl := B3.lt; obtain ⟨o0, o1, o2, o3, o4, o5, o6, o7, o8, o9, o10, o11⟩ := BO.c12; have ol := BO.lt; obtain ⟨zo3, zp3, e1, _⟩ := id PU.o; subst e1; obtain ⟨zd3, zq3, _, e2, _⟩ := id PU.d; subst e2; obtain ⟨zc3, zr3, e3, _⟩ := id PU.c; subst e3; obtain ⟨zo4, zp4, e1, _⟩ := id PV.o; subst e1; obtain ⟨zd4, zq4, _, e2, _⟩ := id PV.d; subst e2; obtain ⟨zc4, zr4, e3, _⟩ := id PV.c; subst e3)
 obtain ⟨v5, hv⟩ := Qg ((w3.alloc (.cells #[.string X.h, .int .i64 X.a.y, .int .i64 X.a.m, .bool X.a.s, .int .i64 X.a.d, .int .i64 X.b.y, .int .i64 X.b.m, .bool X.b.s, .int .i64 X.b.d, .slice zo3 X.o.length zp3, .slice zd3 X.d.length zq3, .slice zc3 X.c.length zr3] 31)).alloc (.cells #[.string Y.h, .int .i64 Y.a.y, .int .i64 Y.a.m, .bool Y.a.s, .int .i64 Y.a.d, .int .i64 Y.b.y, .int .i64 Y.b.m, .bool Y.b.s, .int .i64 Y.b.d, .slice zo4 Y.o.length zp4, .slice zd4 Y.d.length zq4, .slice zc4 Y.c.length zr4] 31))
 rw [← hv]
 have hx : Qa w3 v5 := by rw [hv]; exact ((Qa.refl _).alloc _).alloc _
 have BU : Qb v5 w3.heap.size 31 #[.string X.h, .int .i64 X.a.y, .int .i64 X.a.m, .bool X.a.s, .int .i64 X.a.d, .int .i64 X.b.y, .int .i64 X.b.m, .bool X.b.s, .int .i64 X.b.d, .slice zo3 X.o.length zp3, .slice zd3 X.d.length zq3, .slice zc3 X.c.length zr3] := by rw [hv]; exact (Qb.new _ _ _).alloc _
 have BV : Qb v5 (w3.heap.size + 1) 31 #[.string Y.h, .int .i64 Y.a.y, .int .i64 Y.a.m, .bool Y.a.s, .int .i64 Y.a.d, .int .i64 Y.b.y, .int .i64 Y.b.m, .bool Y.b.s, .int .i64 Y.b.d, .slice zo4 Y.o.length zp4, .slice zd4 Y.d.length zq4, .slice zc4 Y.c.length zr4] := by rw [hv]; exact Qb.at _ _ _ _ (by simp)
 clear hv
 generalize w3.heap.size = bb3 at *
 clear k0 k1 kl p0 p1 p2 p3 p4 p5 p6 p7 p8 p9 p10 p11 pl d0 d1 d2 d3 dl o0 o1 o2 o3 o4 o5 o6 o7 o8 o9 o10 o11 ol
 replace E := E.trans hx
 replace Z := Z.ext hx
 replace C := C.ext hx
 replace P := P.ext hx
 replace D := D.ext hx
 replace PX := PX.ext hx
 replace PY := PY.ext hx
 replace BX := BX.ext hx
 replace BY := BY.ext hx
 replace PU := PU.ext hx
 replace PV := PV.ext hx
 replace B1 := B1.ext hx
 replace B2 := B2.ext hx
 replace B3 := B3.ext hx
 replace BO := BO.ext hx
 clear hx
 obtain ⟨k0, k1⟩ := B1.c2
 have kl := B1.lt
 obtain ⟨p0, p1, p2, p3, p4, p5, p6, p7, p8, p9, p10, p11⟩ := B2.c12
 have pl := B2.lt
 obtain ⟨d0, d1, d2, d3⟩ := B3.c4
 have dl := B3.lt
 obtain ⟨o0, o1, o2, o3, o4, o5, o6, o7, o8, o9, o10, o11⟩ := BO.c12
 have ol := BO.lt
 clear k0 k1 kl p0 p1 p2 p3 p4 p5 p6 p7 p8 p9 p10 p11 pl d0 d1 d2 d3 dl o0 o1 o2 o3 o4 o5 o6 o7 o8 o9 o10 o11 ol
 obtain ⟨xa0, xa1, xa2, xa3, xa4, xa5, xa6, xa7, xa8, xa9, xa10, xa11⟩ := Qb.c12 BX
 have xal := Qb.lt BX
 obtain ⟨ua0, ua1, ua2, ua3, ua4, ua5, ua6, ua7, ua8, ua9, ua10, ua11⟩ := Qb.c12 BU
 have ual := Qb.lt BU
 go_wp2_with (first | (go_at_call 14; (with_reducible refine Calls.mono (N5 X _ _ _ _ _ _ _ PX PU) ?_); rintro e x1 ⟨rfl, hx⟩; replace E := E.trans hx; replace Z := Z.ext hx; replace C := C.ext hx; replace P := P.ext hx; replace D := D.ext hx; replace PX := PX.ext hx; replace PY := PY.ext hx; replace BX := BX.ext hx; replace BY := BY.ext hx; replace PU := PU.ext hx; replace PV := PV.ext hx; replace BU := BU.ext hx; replace BV := BV.ext hx; replace B1 := B1.ext hx; replace B2 := B2.ext hx; replace B3 := B3.ext hx; replace BO := BO.ext hx; clear hx; clear xa0 xa1 xa2 xa3 xa4 xa5 xa6 xa7 xa8 xa9 xa10 xa11 ua0 ua1 ua2 ua3 ua4 ua5 ua6 ua7 ua8 ua9 ua10 ua11 xal ual; obtain ⟨ya0, ya1, ya2, ya3, ya4, ya5, ya6, ya7, ya8, ya9, ya10, ya11⟩ := Qb.c12 BY; have yal := Qb.lt BY; obtain ⟨va0, va1, va2, va3, va4, va5, va6, va7, va8, va9, va10, va11⟩ := Qb.c12 BV; have val := Qb.lt BV) | (go_at_call 14; (with_reducible refine Calls.mono (N5 Y _ _ _ _ _ _ _ PY PV) ?_); rintro e x2 ⟨rfl, hx⟩; replace E := E.trans hx; replace Z := Z.ext hx; replace C := C.ext hx; replace P := P.ext hx; replace D := D.ext hx; replace PX := PX.ext hx; replace PY := PY.ext hx; replace BX := BX.ext hx; replace BY := BY.ext hx; replace PU := PU.ext hx; replace PV := PV.ext hx; replace BU := BU.ext hx; replace BV := BV.ext hx; replace B1 := B1.ext hx; replace B2 := B2.ext hx; replace B3 := B3.ext hx; replace BO := BO.ext hx; clear hx; clear ya0 ya1 ya2 ya3 ya4 ya5 ya6 ya7 ya8 ya9 ya10 ya11 va0 va1 va2 va3 va4 va5 va6 va7 va8 va9 va10 va11 yal val; obtain ⟨o0, o1, o2, o3, o4, o5, o6, o7, o8, o9, o10, o11⟩ := Qb.c12 BO; have ol := Qb.lt BO; obtain ⟨p0, p1, p2, p3, p4, p5, p6, p7, p8, p9, p10, p11⟩ := Qb.c12 B2; have pl := Qb.lt B2) | (go_at_call 14; (with_reducible refine Calls.mono (N5 p _ _ _ _ _ _ _ D P) ?_); rintro e x3 ⟨rfl, hx⟩; replace E := E.trans hx; replace Z := Z.ext hx; replace C := C.ext hx; replace P := P.ext hx; replace D := D.ext hx; replace PX := PX.ext hx; replace PY := PY.ext hx; replace BX := BX.ext hx; replace BY := BY.ext hx; replace PU := PU.ext hx; replace PV := PV.ext hx; replace BU := BU.ext hx; replace BV := BV.ext hx; replace B1 := B1.ext hx; replace B2 := B2.ext hx; replace B3 := B3.ext hx; replace BO := BO.ext hx; clear hx; clear o0 o1 o2 o3 o4 o5 o6 o7 o8 o9 o10 o11 p0 p1 p2 p3 p4 p5 p6 p7 p8 p9 p10 p11 ol pl) | (go_at_call 15; (with_reducible refine Calls.mono (Ar _ Z) ?_); rintro e x4 ⟨rfl, hx⟩; replace E := E.trans hx))
 go_ret
 exact ⟨rfl, E⟩
end Go.Proofs.YtneiofnlmblglaaGreatDoor