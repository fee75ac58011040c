/- Walks and plain facts, packed; no conditions but those that each states. -/
import Derived.Test.YtoflcheopfppoaaGreatDoorH11
set_option maxRecDepth 100000
set_option maxHeartbeats 4000000
namespace Go.Proofs.YtoflcheopfppoaaGreatDoor
section
open Go Go.RowKit Go.Shelf
attribute [local go_sem] Zu
attribute [local go_sem high] Qle
theorem Qfs (A A' : OA) (ca cb : Nat) (c : Qd) (p : Pd) (vo vd vc : Value) (d : Dt) (w : World) (hC : Q3 w A ca A' cb c) (hP : J9 w p vo vd vc) :
  Calls Tryz.prog 31 #[.agg #[.slice A c.nk ca,.slice A' c.ny cb],.agg #[.string p.h,.int .i64 p.a.y,.int .i64 p.a.m,.bool p.a.s,.int .i64 p.a.d,.int .i64 p.b.y,.int .i64 p.b.m,.bool p.b.s,.int .i64 p.b.d,vo,vd,vc],.agg #[.int .i64 d.y,.int .i64 d.m,.bool d.s,.int .i64 d.d]] w fun e w' => ∃ vo1 vd1 vc1 vo2 vd2 vc2,e = .returned (.tuple #[.agg #[.string (c.divP p d).1.h,.int .i64 (c.divP p d).1.a.y,.int .i64 (c.divP p d).1.a.m,.bool (c.divP p d).1.a.s,.int .i64 (c.divP p d).1.a.d,.int .i64 (c.divP p d).1.b.y,.int .i64 (c.divP p d).1.b.m,.bool (c.divP p d).1.b.s,.int .i64 (c.divP p d).1.b.d,vo1,vd1,vc1],.agg #[.string (c.divP p d).2.h,.int .i64 (c.divP p d).2.a.y,.int .i64 (c.divP p d).2.a.m,.bool (c.divP p d).2.a.s,.int .i64 (c.divP p d).2.a.d,.int .i64 (c.divP p d).2.b.y,.int .i64 (c.divP p d).2.b.m,.bool (c.divP p d).2.b.s,.int .i64 (c.divP p d).2.b.d,vo2,vd2,vc2],.int .i64 (c.divE p d)]) ∧ Qc w w' ∧ Jm w' w.heap.size (c.divP p d).1 vo1 vd1 vc1 ∧ Jm w' w.heap.size (c.divP p d).2 vo2 vd2 vc2:=by
 obtain ⟨t1,s1,e1,_⟩:=id hP.o;subst e1;obtain ⟨t2,s2,_,e2,_⟩:=id hP.d;subst e2;obtain ⟨t3,s3,e3,_⟩:=id hP.c;subst e3;obtain ⟨n,hnl⟩:=Qf (p.d.length);rw [← hnl] at hP ⊢;replace hnl:=zh hnl;have NV:=fun w h1 v h2 => Fm A A' ca cb c v [p] w h1 h2
 simp only [P4] at NV;have ND:=fun d w h => Yw A A' ca cb c d w h
 obtain ⟨pe,hpe⟩:=Qf (c.perE p);simp only [← hpe] at NV;replace hpe:=zh hpe;obtain ⟨RE,hRE⟩:=Qf (c.divE p d);obtain ⟨RX,hRX⟩:=Qf (c.divP p d);rw [← hRE,← hRX];have HR:=zh (And.intro hRE hRX);clear hRE hRX
 go_enter Tryz.func31,Tryz.ntmps31
 go_upto_region 1 with fail
 obtain ⟨v,b1,b2,b3,b4,b5,E,B1,B2,B3,B4,B5,hbr1,hbr2,hbr3,hbr4,hbr,hn21,hn31,hn32,hn41,hn42,hn43,hn51,hn52,hn53,hn54,hv,hb1,hb2,hb3,hb4,hb5⟩:=zub5 w 25 #[.slice A c.nk ca,.slice A' c.ny cb] 55 #[.string p.h,.int .i64 p.a.y,.int .i64 p.a.m,.bool p.a.s,.int .i64 p.a.d,.int .i64 p.b.y,.int .i64 p.b.m,.bool p.b.s,.int .i64 p.b.d,.slice t1 p.o.length s1,.slice t2 n s2,.slice t3 p.c.length s3] 51 #[.int .i64 d.y,.int .i64 d.m,.bool d.s,.int .i64 d.d] 55 #[.string ⟨#[]⟩,.int .i64 0,.int .i64 0,.bool false,.int .i64 0,.int .i64 0,.int .i64 0,.bool false,.int .i64 0,.slice none 0 0,.slice none 0 0,.slice none 0 0] 55 #[.string ⟨#[]⟩,.int .i64 0,.int .i64 0,.bool false,.int .i64 0,.int .i64 0,.int .i64 0,.bool false,.int .i64 0,.slice none 0 0,.slice none 0 0,.slice none 0 0]
 rw [← hv,← hb5,← hb4,← hb3,← hb2,← hb1];clear hv hb1 hb2 hb3 hb4 hb5;have C:=hC.ext E;have P:=hP.ext E;clear hC;obtain ⟨k0,k1,kl⟩:=Qa.d2 B1;obtain ⟨p0,p1,p2,p3,p4,p5,p6,p7,p8,p9,p10,p11,pl⟩:=Qa.d12 B2;obtain ⟨d0,d1,d2,d3,dl⟩:=Qa.d4 B3;have AL:=(Qc.refl v).alloc (.cells #[.string p.h,.int .i64 p.a.y,.int .i64 p.a.m,.bool p.a.s,.int .i64 p.a.d,.int .i64 p.b.y,.int .i64 p.b.m,.bool p.b.s,.int .i64 p.b.d,.slice t1 p.o.length s1,.slice t2 n s2,.slice t3 p.c.length s3] 55);have NV1:=NV _ (C.ext AL) (.slice (some ⟨v.heap.size,0,none⟩) 1 1) (Pc (t:=55) (Qa.new v 55 #[.string p.h,.int .i64 p.a.y,.int .i64 p.a.m,.bool p.a.s,.int .i64 p.a.d,.int .i64 p.b.y,.int .i64 p.b.m,.bool p.b.s,.int .i64 p.b.d,.slice t1 p.o.length s1,.slice t2 n s2,.slice t3 p.c.length s3]) (P.ext AL))
 clear NV;go_upto_region 2 with (go_at_call 73;refine zc (NV1) ?_;rintro e w1 ⟨rfl,h1⟩;replace h1:=AL.trans h1;clear NV1 AL;replace E:=E.trans h1;replace C:=C.ext h1;replace P:=P.ext h1;replace B4:=B4.ext h1;replace B5:=B5.ext h1;replace B1:=B1.ext h1;replace B2:=B2.ext h1;replace B3:=B3.ext h1;clear h1;clear k0 k1 kl p0 p1 p2 p3 p4 p5 p6 p7 p8 p9 p10 p11 pl d0 d1 d2 d3 dl;obtain ⟨k0,k1⟩:=B1.c2;have kl:=B1.lt;obtain ⟨p0,p1,p2,p3,p4,p5,p6,p7,p8,p9,p10,p11⟩:=B2.c12;have pl:=B2.lt;obtain ⟨d0,d1,d2,d3⟩:=B3.c4;have dl:=B3.lt)
 obtain ⟨vb1,hv⟩:=Qf (w1.alloc (.cells #[.slice A c.nk ca,.slice A' c.ny cb] 130));rw [← hv];have hx : Qc w1 vb1:=by rw [hv];exact (Qc.refl _).alloc _
 have B6 : Qa vb1 w1.heap.size 130 #[.slice A c.nk ca,.slice A' c.ny cb]:=by rw [hv];exact Qa.new _ _ _
 clear hv;generalize w1.heap.size = bb1 at *;clear k0 k1 kl p0 p1 p2 p3 p4 p5 p6 p7 p8 p9 p10 p11 pl d0 d1 d2 d3 dl;replace E:=E.trans hx;replace C:=C.ext hx;replace P:=P.ext hx;replace B4:=B4.ext hx;replace B5:=B5.ext hx;replace B1:=B1.ext hx;replace B2:=B2.ext hx;replace B3:=B3.ext hx;clear hx;obtain ⟨k0,k1,kl⟩:=Qa.d2 B1;obtain ⟨p0,p1,p2,p3,p4,p5,p6,p7,p8,p9,p10,p11,pl⟩:=Qa.d12 B2;obtain ⟨d0,d1,d2,d3,dl⟩:=Qa.d4 B3;obtain ⟨q0,q1,ql⟩:=Qa.d2 B6;by_cases e0 : pe = 0;rotate_left
 ·have g0 : (pe == 0) = false := zb e0;have g0n : (pe != 0) = true := by rw [bne, g0]; rfl
  have hr:=Qfn (d:=d) hpe.out.symm e0;obtain rfl : RE = pe:=HR.out.1.trans hr.1;obtain rfl : RX = (Jq,Jq):=HR.out.2.trans hr.2;clear HR hr hpe;clear k0 k1 kl p0 p1 p2 p3 p4 p5 p6 p7 p8 p9 p10 p11 pl d0 d1 d2 d3 dl q0 q1 ql;go_upto_region 3 with fail
  refine Qy 6 [5] (fun x => Qc vb1 x) mixed rfl ?_;intro vz hvz;have HC:=hvz;refine Qj (g:=3) [0,1,2] HC ?_
  constructor
  refine ⟨fun u hu => ?_,?_⟩
  ·obtain ⟨x0,x1,x2,x3,x4,x5,x6,x7,x8,x9,x10,x11,xl⟩:=Qa.d12 (Qa.ext B4 hu);obtain ⟨y0,y1,y2,y3,y4,y5,y6,y7,y8,y9,y10,y11,yl⟩:=Qa.d12 (Qa.ext B5 hu);exact Qi
  refine Qh 3 ?_;have Hs:=Qa.ext B4 HC;obtain ⟨z0,z1,z2,z3,z4,z5,z6,z7,z8,z9,z10,z11,x0,x1,x2,x3,x4,x5,x6,x7,x8,x9,x10,x11,xl⟩:=Qa.e12 Hs;go_wp2;rw [Xu Hs];clear Hs z0 x0 z1 x1 z2 x2 z3 x3 z4 x4 z5 x5 z6 x6 z7 x7 z8 x8 z9 x9 z10 x10 z11 x11 xl;refine Qe HC ?_;refine Qh 4 ?_;have Hs:=Qa.ext B5 HC;obtain ⟨z0,z1,z2,z3,z4,z5,z6,z7,z8,z9,z10,z11,x0,x1,x2,x3,x4,x5,x6,x7,x8,x9,x10,x11,xl⟩:=Qa.e12 Hs;go_wp2;rw [Xu Hs];clear Hs z0 x0 z1 x1 z2 x2 z3 x3 z4 x4 z5 x5 z6 x6 z7 x7 z8 x8 z9 x9 z10 x10 z11 x11 xl;refine Qe HC ?_;refine Ql 5 ?_;go_wp2;refine Qk ?_;refine Qr ?_;obtain ⟨x0,x1,x2,x3,x4,x5,x6,x7,x8,x9,x10,x11,xl⟩:=Qa.d12 (Qa.ext B4 HC)
  obtain ⟨y0,y1,y2,y3,y4,y5,y6,y7,y8,y9,y10,y11,yl⟩:=Qa.d12 (Qa.ext B5 HC);go_wp2;refine bodyPost_ret (v:=.tuple #[.agg #[.string ⟨#[]⟩,.int .i64 0,.int .i64 0,.bool false,.int .i64 0,.int .i64 0,.int .i64 0,.bool false,.int .i64 0,.slice none 0 0,.slice none 0 0,.slice none 0 0],.agg #[.string ⟨#[]⟩,.int .i64 0,.int .i64 0,.bool false,.int .i64 0,.int .i64 0,.int .i64 0,.bool false,.int .i64 0,.slice none 0 0,.slice none 0 0,.slice none 0 0],.int .i64 RE]) (by simp [results,Tryz.results31,go_sem,x0,y0,x1,y1,x2,y2,x3,y3,x4,y4,x5,y5,x6,y6,x7,y7,x8,y8,x9,y9,x10,y10,x11,y11]) rfl ⟨_,_,_,_,_,_,rfl,E.trans HC,Wl _ _,Wl _ _⟩
 subst e0;have hper:=zh (hpe.out.symm);go_upto_region 5 with (go_at_call 48;refine zc (ND d _ C) ?_;rintro e w2 ⟨rfl,hx⟩;replace E:=E.trans hx;replace C:=C.ext hx;replace P:=P.ext hx;replace B4:=B4.ext hx;replace B5:=B5.ext hx;replace B1:=B1.ext hx;replace B2:=B2.ext hx;replace B3:=B3.ext hx;replace B6:=B6.ext hx;clear hx;clear k0 k1 kl p0 p1 p2 p3 p4 p5 p6 p7 p8 p9 p10 p11 pl d0 d1 d2 d3 dl q0 q1 ql;obtain ⟨k0,k1⟩:=B1.c2;have kl:=B1.lt;obtain ⟨p0,p1,p2,p3,p4,p5,p6,p7,p8,p9,p10,p11⟩:=B2.c12;have pl:=B2.lt;obtain ⟨d0,d1,d2,d3⟩:=B3.c4;have dl:=B3.lt;obtain ⟨q0,q1⟩:=B6.c2;have ql:=B6.lt)
 by_cases en : c.numV d = 0
 ·have g1 : (c.numV d == 0) = true:=beq_iff_eq.2 en;have hr:=Qfm (d:=d) hper.out en;obtain rfl : RE = 71:=HR.out.1.trans hr.1;obtain rfl : RX = (Jq,Jq):=HR.out.2.trans hr.2;clear HR hr hper hpe en;clear k0 k1 kl p0 p1 p2 p3 p4 p5 p6 p7 p8 p9 p10 p11 pl d0 d1 d2 d3 dl q0 q1 ql;go_upto_region 6 with fail
  refine Qy 5 [4] (fun x => Qc w2 x) mixed rfl ?_;intro vz hvz;have HC:=hvz;refine Qj (g:=3) [0,1] HC ?_
  constructor
  refine ⟨fun u hu => ?_,?_⟩
  ·obtain ⟨x0,x1,x2,x3,x4,x5,x6,x7,x8,x9,x10,x11,xl⟩:=Qa.d12 (Qa.ext B4 hu);obtain ⟨y0,y1,y2,y3,y4,y5,y6,y7,y8,y9,y10,y11,yl⟩:=Qa.d12 (Qa.ext B5 hu);exact Qi
  refine Qh 2 ?_;have Hs:=Qa.ext B4 HC;obtain ⟨z0,z1,z2,z3,z4,z5,z6,z7,z8,z9,z10,z11,x0,x1,x2,x3,x4,x5,x6,x7,x8,x9,x10,x11,xl⟩:=Qa.e12 Hs;go_wp2;rw [Xu Hs];clear Hs z0 x0 z1 x1 z2 x2 z3 x3 z4 x4 z5 x5 z6 x6 z7 x7 z8 x8 z9 x9 z10 x10 z11 x11 xl;refine Qe HC ?_;refine Qh 3 ?_;have Hs:=Qa.ext B5 HC;obtain ⟨z0,z1,z2,z3,z4,z5,z6,z7,z8,z9,z10,z11,x0,x1,x2,x3,x4,x5,x6,x7,x8,x9,x10,x11,xl⟩:=Qa.e12 Hs;go_wp2;rw [Xu Hs];clear Hs z0 x0 z1 x1 z2 x2 z3 x3 z4 x4 z5 x5 z6 x6 z7 x7 z8 x8 z9 x9 z10 x10 z11 x11 xl;refine Qe HC ?_;refine Ql 4 ?_;go_wp2;refine Qk ?_;refine Qr ?_;obtain ⟨x0,x1,x2,x3,x4,x5,x6,x7,x8,x9,x10,x11,xl⟩:=Qa.d12 (Qa.ext B4 HC)
  obtain ⟨y0,y1,y2,y3,y4,y5,y6,y7,y8,y9,y10,y11,yl⟩:=Qa.d12 (Qa.ext B5 HC);go_wp2;refine bodyPost_ret (v:=.tuple #[.agg #[.string ⟨#[]⟩,.int .i64 0,.int .i64 0,.bool false,.int .i64 0,.int .i64 0,.int .i64 0,.bool false,.int .i64 0,.slice none 0 0,.slice none 0 0,.slice none 0 0],.agg #[.string ⟨#[]⟩,.int .i64 0,.int .i64 0,.bool false,.int .i64 0,.int .i64 0,.int .i64 0,.bool false,.int .i64 0,.slice none 0 0,.slice none 0 0,.slice none 0 0],.int .i64 71]) (by simp [results,Tryz.results31,go_sem,x0,y0,x1,y1,x2,y2,x3,y3,x4,y4,x5,y5,x6,y6,x7,y7,x8,y8,x9,y9,x10,y10,x11,y11]) rfl ⟨_,_,_,_,_,_,rfl,E.trans HC,Wl _ _,Wl _ _⟩
 have g1 : (c.numV d == 0) = false:=zb en;by_cases e2 : c.numV d < c.numV p.a
 ·have g2 : decide (c.numV d < c.numV p.a) = true:=zt e2;have hr:=Co (d:=d) hper.out en (.inl e2);obtain rfl : RE = 8:=HR.out.1.trans hr.1;obtain rfl : RX = (Jq,Jq):=HR.out.2.trans hr.2;clear HR hr hper hpe en e2;go_upto_region 8 with (first | (go_at_call 48;(with_reducible refine zc (ND p.a _ C) ?_);rintro e w3 ⟨rfl,hx⟩;replace E:=E.trans hx;replace C:=C.ext hx;replace P:=P.ext hx;replace B4:=B4.ext hx;replace B5:=B5.ext hx;replace B1:=B1.ext hx;replace B2:=B2.ext hx;replace B3:=B3.ext hx;replace B6:=B6.ext hx;clear hx;clear k0 k1 kl p0 p1 p2 p3 p4 p5 p6 p7 p8 p9 p10 p11 pl d0 d1 d2 d3 dl q0 q1 ql;obtain ⟨k0,k1⟩:=B1.c2;have kl:=B1.lt;obtain ⟨p0,p1,p2,p3,p4,p5,p6,p7,p8,p9,p10,p11⟩:=B2.c12;have pl:=B2.lt;obtain ⟨d0,d1,d2,d3⟩:=B3.c4;have dl:=B3.lt;obtain ⟨q0,q1⟩:=B6.c2;have ql:=B6.lt) | (go_at_call 48;(with_reducible refine zc (ND p.b _ C) ?_);rintro e w4 ⟨rfl,hx⟩;replace E:=E.trans hx;replace C:=C.ext hx;replace P:=P.ext hx;replace B4:=B4.ext hx;replace B5:=B5.ext hx;replace B1:=B1.ext hx;replace B2:=B2.ext hx;replace B3:=B3.ext hx;replace B6:=B6.ext hx;clear hx;clear k0 k1 kl p0 p1 p2 p3 p4 p5 p6 p7 p8 p9 p10 p11 pl d0 d1 d2 d3 dl q0 q1 ql;obtain ⟨k0,k1⟩:=B1.c2;have kl:=B1.lt;obtain ⟨p0,p1,p2,p3,p4,p5,p6,p7,p8,p9,p10,p11⟩:=B2.c12;have pl:=B2.lt;obtain ⟨d0,d1,d2,d3⟩:=B3.c4;have dl:=B3.lt;obtain ⟨q0,q1⟩:=B6.c2;have ql:=B6.lt))
  clear k0 k1 kl p0 p1 p2 p3 p4 p5 p6 p7 p8 p9 p10 p11 pl d0 d1 d2 d3 dl q0 q1 ql;go_upto_region 8 with fail
  refine Qy 5 [4] (fun x => Qc w3 x) mixed rfl ?_;intro vz hvz;have HC:=hvz;refine Qj (g:=3) [0,1] HC ?_
  constructor
  refine ⟨fun u hu => ?_,?_⟩
  ·obtain ⟨x0,x1,x2,x3,x4,x5,x6,x7,x8,x9,x10,x11,xl⟩:=Qa.d12 (Qa.ext B4 hu);obtain ⟨y0,y1,y2,y3,y4,y5,y6,y7,y8,y9,y10,y11,yl⟩:=Qa.d12 (Qa.ext B5 hu);exact Qi
  refine Qh 2 ?_;have Hs:=Qa.ext B4 HC;obtain ⟨z0,z1,z2,z3,z4,z5,z6,z7,z8,z9,z10,z11,x0,x1,x2,x3,x4,x5,x6,x7,x8,x9,x10,x11,xl⟩:=Qa.e12 Hs;go_wp2;rw [Xu Hs];clear Hs z0 x0 z1 x1 z2 x2 z3 x3 z4 x4 z5 x5 z6 x6 z7 x7 z8 x8 z9 x9 z10 x10 z11 x11 xl;refine Qe HC ?_;refine Qh 3 ?_;have Hs:=Qa.ext B5 HC;obtain ⟨z0,z1,z2,z3,z4,z5,z6,z7,z8,z9,z10,z11,x0,x1,x2,x3,x4,x5,x6,x7,x8,x9,x10,x11,xl⟩:=Qa.e12 Hs;go_wp2;rw [Xu Hs];clear Hs z0 x0 z1 x1 z2 x2 z3 x3 z4 x4 z5 x5 z6 x6 z7 x7 z8 x8 z9 x9 z10 x10 z11 x11 xl;refine Qe HC ?_;refine Ql 4 ?_;go_wp2;refine Qk ?_;refine Qr ?_;obtain ⟨x0,x1,x2,x3,x4,x5,x6,x7,x8,x9,x10,x11,xl⟩:=Qa.d12 (Qa.ext B4 HC)
  obtain ⟨y0,y1,y2,y3,y4,y5,y6,y7,y8,y9,y10,y11,yl⟩:=Qa.d12 (Qa.ext B5 HC);go_wp2;refine bodyPost_ret (v:=.tuple #[.agg #[.string ⟨#[]⟩,.int .i64 0,.int .i64 0,.bool false,.int .i64 0,.int .i64 0,.int .i64 0,.bool false,.int .i64 0,.slice none 0 0,.slice none 0 0,.slice none 0 0],.agg #[.string ⟨#[]⟩,.int .i64 0,.int .i64 0,.bool false,.int .i64 0,.int .i64 0,.int .i64 0,.bool false,.int .i64 0,.slice none 0 0,.slice none 0 0,.slice none 0 0],.int .i64 8]) (by simp [results,Tryz.results31,go_sem,x0,y0,x1,y1,x2,y2,x3,y3,x4,y4,x5,y5,x6,y6,x7,y7,x8,y8,x9,y9,x10,y10,x11,y11]) rfl ⟨_,_,_,_,_,_,rfl,E.trans HC,Wl _ _,Wl _ _⟩
 have g2 : decide (c.numV d < c.numV p.a) = false:=zf e2;by_cases e3 : c.numV p.b ≤ c.numV d
 ·have g3 : decide (c.numV p.b ≤ c.numV d) = true:=zt e3;have hr:=Co (d:=d) hper.out en (.inr e3);obtain rfl : RE = 8:=HR.out.1.trans hr.1;obtain rfl : RX = (Jq,Jq):=HR.out.2.trans hr.2;clear HR hr hper hpe en e2 e3;go_upto_region 8 with (first | (go_at_call 48;(with_reducible refine zc (ND p.a _ C) ?_);rintro e w3 ⟨rfl,hx⟩;replace E:=E.trans hx;replace C:=C.ext hx;replace P:=P.ext hx;replace B4:=B4.ext hx;replace B5:=B5.ext hx;replace B1:=B1.ext hx;replace B2:=B2.ext hx;replace B3:=B3.ext hx;replace B6:=B6.ext hx;clear hx;clear k0 k1 kl p0 p1 p2 p3 p4 p5 p6 p7 p8 p9 p10 p11 pl d0 d1 d2 d3 dl q0 q1 ql;obtain ⟨k0,k1⟩:=B1.c2;have kl:=B1.lt;obtain ⟨p0,p1,p2,p3,p4,p5,p6,p7,p8,p9,p10,p11⟩:=B2.c12;have pl:=B2.lt;obtain ⟨d0,d1,d2,d3⟩:=B3.c4;have dl:=B3.lt;obtain ⟨q0,q1⟩:=B6.c2;have ql:=B6.lt) | (go_at_call 48;(with_reducible refine zc (ND p.b _ C) ?_);rintro e w4 ⟨rfl,hx⟩;replace E:=E.trans hx;replace C:=C.ext hx;replace P:=P.ext hx;replace B4:=B4.ext hx;replace B5:=B5.ext hx;replace B1:=B1.ext hx;replace B2:=B2.ext hx;replace B3:=B3.ext hx;replace B6:=B6.ext hx;clear hx;clear k0 k1 kl p0 p1 p2 p3 p4 p5 p6 p7 p8 p9 p10 p11 pl d0 d1 d2 d3 dl q0 q1 ql;obtain ⟨k0,k1⟩:=B1.c2;have kl:=B1.lt;obtain ⟨p0,p1,p2,p3,p4,p5,p6,p7,p8,p9,p10,p11⟩:=B2.c12;have pl:=B2.lt;obtain ⟨d0,d1,d2,d3⟩:=B3.c4;have dl:=B3.lt;obtain ⟨q0,q1⟩:=B6.c2;have ql:=B6.lt))
  clear k0 k1 kl p0 p1 p2 p3 p4 p5 p6 p7 p8 p9 p10 p11 pl d0 d1 d2 d3 dl q0 q1 ql;go_upto_region 8 with fail
  refine Qy 5 [4] (fun x => Qc w4 x) mixed rfl ?_;intro vz hvz;have HC:=hvz;refine Qj (g:=3) [0,1] HC ?_
  constructor
  refine ⟨fun u hu => ?_,?_⟩
  ·obtain ⟨x0,x1,x2,x3,x4,x5,x6,x7,x8,x9,x10,x11,xl⟩:=Qa.d12 (Qa.ext B4 hu);obtain ⟨y0,y1,y2,y3,y4,y5,y6,y7,y8,y9,y10,y11,yl⟩:=Qa.d12 (Qa.ext B5 hu);exact Qi
  refine Qh 2 ?_;have Hs:=Qa.ext B4 HC;obtain ⟨z0,z1,z2,z3,z4,z5,z6,z7,z8,z9,z10,z11,x0,x1,x2,x3,x4,x5,x6,x7,x8,x9,x10,x11,xl⟩:=Qa.e12 Hs;go_wp2;rw [Xu Hs];clear Hs z0 x0 z1 x1 z2 x2 z3 x3 z4 x4 z5 x5 z6 x6 z7 x7 z8 x8 z9 x9 z10 x10 z11 x11 xl;refine Qe HC ?_;refine Qh 3 ?_;have Hs:=Qa.ext B5 HC;obtain ⟨z0,z1,z2,z3,z4,z5,z6,z7,z8,z9,z10,z11,x0,x1,x2,x3,x4,x5,x6,x7,x8,x9,x10,x11,xl⟩:=Qa.e12 Hs;go_wp2;rw [Xu Hs];clear Hs z0 x0 z1 x1 z2 x2 z3 x3 z4 x4 z5 x5 z6 x6 z7 x7 z8 x8 z9 x9 z10 x10 z11 x11 xl;refine Qe HC ?_;refine Ql 4 ?_;go_wp2;refine Qk ?_;refine Qr ?_;obtain ⟨x0,x1,x2,x3,x4,x5,x6,x7,x8,x9,x10,x11,xl⟩:=Qa.d12 (Qa.ext B4 HC)
  obtain ⟨y0,y1,y2,y3,y4,y5,y6,y7,y8,y9,y10,y11,yl⟩:=Qa.d12 (Qa.ext B5 HC);go_wp2;refine bodyPost_ret (v:=.tuple #[.agg #[.string ⟨#[]⟩,.int .i64 0,.int .i64 0,.bool false,.int .i64 0,.int .i64 0,.int .i64 0,.bool false,.int .i64 0,.slice none 0 0,.slice none 0 0,.slice none 0 0],.agg #[.string ⟨#[]⟩,.int .i64 0,.int .i64 0,.bool false,.int .i64 0,.int .i64 0,.int .i64 0,.bool false,.int .i64 0,.slice none 0 0,.slice none 0 0,.slice none 0 0],.int .i64 8]) (by simp [results,Tryz.results31,go_sem,x0,y0,x1,y1,x2,y2,x3,y3,x4,y4,x5,y5,x6,y6,x7,y7,x8,y8,x9,y9,x10,y10,x11,y11]) rfl ⟨_,_,_,_,_,_,rfl,E.trans HC,Wl _ _,Wl _ _⟩
 have g3 : decide (c.numV p.b ≤ c.numV d) = false:=zf e3;go_upto_region 9 with (first | (go_at_call 48;(with_reducible refine zc (ND p.a _ C) ?_);rintro e w3 ⟨rfl,hx⟩;replace E:=E.trans hx;replace C:=C.ext hx;replace P:=P.ext hx;replace B4:=B4.ext hx;replace B5:=B5.ext hx;replace B1:=B1.ext hx;replace B2:=B2.ext hx;replace B3:=B3.ext hx;replace B6:=B6.ext hx;clear hx;clear k0 k1 kl p0 p1 p2 p3 p4 p5 p6 p7 p8 p9 p10 p11 pl d0 d1 d2 d3 dl q0 q1 ql;obtain ⟨k0,k1⟩:=B1.c2;have kl:=B1.lt;obtain ⟨p0,p1,p2,p3,p4,p5,p6,p7,p8,p9,p10,p11⟩:=B2.c12;have pl:=B2.lt;obtain ⟨d0,d1,d2,d3⟩:=B3.c4;have dl:=B3.lt;obtain ⟨q0,q1⟩:=B6.c2;have ql:=B6.lt) | (go_at_call 48;(with_reducible refine zc (ND p.b _ C) ?_);rintro e w4 ⟨rfl,hx⟩;replace E:=E.trans hx;replace C:=C.ext hx;replace P:=P.ext hx;replace B4:=B4.ext hx;replace B5:=B5.ext hx;replace B1:=B1.ext hx;replace B2:=B2.ext hx;replace B3:=B3.ext hx;replace B6:=B6.ext hx;clear hx;clear k0 k1 kl p0 p1 p2 p3 p4 p5 p6 p7 p8 p9 p10 p11 pl d0 d1 d2 d3 dl q0 q1 ql;obtain ⟨k0,k1⟩:=B1.c2;have kl:=B1.lt;obtain ⟨p0,p1,p2,p3,p4,p5,p6,p7,p8,p9,p10,p11⟩:=B2.c12;have pl:=B2.lt;obtain ⟨d0,d1,d2,d3⟩:=B3.c4;have dl:=B3.lt;obtain ⟨q0,q1⟩:=B6.c2;have ql:=B6.lt))
 have hsum:=zh (Qfo (d:=d) hper.out en Qb);have hok:=Oc (Qj0 hper.out).2;have hlo:=hok.o;have hlc:=hok.k;have hld:=hok.d;rw [← hnl.out] at hld;have hll:=zh hok.l;obtain ⟨K,hK0⟩:=Qf (c.cutK (c.numV d) p.d);have hKn : K ≤ n:=by rw [hK0,hnl.out];exact Cl _ _ _
 have hK:=zh hK0;clear hK0 hok hper hpe e2 e3 en g1 g2 g3;obtain ⟨T2,c2,vs,e2,hD,hcap,hmax,_,_⟩:=id P.d;obtain ⟨rfl,e3,rfl⟩ : t2 = T2 ∧ n = p.d.length ∧ s2 = c2:=by simpa using e2
 rw [← hnl.out] at hD hcap;clear e2 e3;obtain ⟨g,hg⟩:=Qf (fun i => p.d.getD i Qv);have hg' : ∀ i,p.d.getD i Qv = g i:=fun i => by rw [hg]
 have hstep : Hid (∀ k,k < n → c.cutK (c.numV d) (p.d.drop k) = if c.numV (g k).on ≤ c.numV d then c.cutK (c.numV d) (p.d.drop (k + 1)) + 1 else 0):=fun k hk => by
  rw [Qe5 c _ _ (by rw [← hnl.out];exact hk),hg']
 simp only [hg'] at hD;clear hg hg';generalize hnd : c.numV d = nd at *;replace hnd:=zh hnd;go_upto_region 10 with fail
 go_loopw [11] (fun iv wr => ∃ k : Nat,k ≤ K ∧ iv = .int .i64 k ∧ Hid (c.cutK nd (p.d.drop k) + k = K) ∧ Qc w4 wr) (fun iv _ => n - (intOf iv).toNat)
 case atStart => exact ⟨0,Nat.zero_le _,rfl,hK.out.symm,Qc.refl _⟩
 case round =>
  obtain ⟨k,hk,rfl,hkK,hE⟩:=hrel;obtain ⟨wo,rfl⟩:=Qf wr;clear k0 k1 kl p0 p1 p2 p3 p4 p5 p6 p7 p8 p9 p10 p11 pl d0 d1 d2 d3 dl q0 q1 ql;have B1o:=B1.ext hE;have B2o:=B2.ext hE;have B3o:=B3.ext hE;have B6o:=B6.ext hE;obtain ⟨k0,k1,kl⟩:=Qa.d2 B1o;obtain ⟨p0,p1,p2,p3,p4,p5,p6,p7,p8,p9,p10,p11,pl⟩:=Qa.d12 B2o;obtain ⟨d0,d1,d2,d3,dl⟩:=Qa.d4 B3o;obtain ⟨q0,q1,ql⟩:=Qa.d2 B6o;have NDk:=ND (g k).on;have hst:=fun h => zh (hstep.out k h)
  have hkE:=hkK;clear hkK;clear hstep;by_cases hkK : k < K
  ·have hlt : k < n:=Qb;obtain ⟨b,off,rfl,hb,hc⟩:=(hD.ext hE) Qb;obtain ⟨c0,c1,c2,c3,zq4,zq5,zq6⟩:=zp7 hc hlt;clear zq4 zq5 zq6;clear hc
   have ho : c.numV (g k).on ≤ nd:=by
    by_cases h : c.numV (g k).on ≤ nd
    ·exact h
    ·have h8:=(hst hlt).out;rw [if_neg h] at h8;have h9:=hkE.out;omega
   have go : decide (c.numV (g k).on ≤ nd) = true:=zt ho
   have h7 : Hid (c.cutK nd (p.d.drop (k + 1)) + (k + 1) = K):=by
    have h8:=(hst hlt).out;rw [if_pos ho] at h8;have h9:=hkE.out;rw [h8] at h9;unfold Hid;omega
   generalize g k = G at *;generalize c.numV G.on = no at *;clear hkE hst ho;go_upto_region 10 with fail
   have n1:=fun u : XW _ => NDk _ (C.ext (hE.trans u.e))
   refine Zj wo ?_;intro w5 h5;clear n1;obtain ⟨hcbw5,hfbw5,hzbw5,hzw5⟩:=Zi wo h5;go_wp2;exact ⟨⟨k + 1,hkK,by go_num,h7,hE.trans h5⟩,zi⟩
  obtain rfl : K = k:=Qb;clear hkK;refine Or.elim (Nat.lt_or_ge K n) (fun hlt => ?_) (fun hge => ?_);obtain ⟨b,off,ht2,hb,hc⟩:=(hD.ext hE) Qb;obtain ⟨c0,c1,c2,c3,zq4,zq5,zq6⟩:=zp7 hc hlt;clear zq4 zq5 zq6
  have ho : ¬ c.numV (g K).on ≤ nd:=fun h => by
   have h8:=(hst hlt).out;rw [if_pos h] at h8;have h9:=hkE.out;omega
  have go : decide (c.numV (g K).on ≤ nd) = false:=zf ho;have pq:=p10;rw [ht2] at pq;clear hst ho hkE hc p10 ht2;generalize g K = G at *;generalize c.numV G.on = no at *;go_upto_region 10 with fail
  have n1:=fun u : XW _ => NDk _ (C.ext (hE.trans u.e))
  refine Zj wo ?_;intro w5 h5;clear n1;obtain ⟨hcbw5,hfbw5,hzbw5,hzw5⟩:=Zi wo h5;clear c0 c1 c2 c3 hb go;have p10:=pq;clear pq;rotate_left;have hlt : ¬ K < n:=Qb;clear hst hkE;go_upto_region 10 with fail
  have n1:=fun u : XW _ => NDk _ (C.ext (hE.trans u.e))
  refine Zj wo ?_;intro w5 h5;clear n1;obtain ⟨hcbw5,hfbw5,hzbw5,hzw5⟩:=Zi wo h5
  all_goals
   clear P;replace hE:=hE.trans h5;clear h5 B1o B2o B3o B6o;clear k0 k1 kl p0 p1 p2 p3 p4 p5 p6 p7 p8 p9 p10 p11 pl d0 d1 d2 d3 dl q0 q1 ql;replace E:=E.trans hE;replace C:=C.ext hE;replace B4:=B4.ext hE;replace B5:=B5.ext hE;replace B1:=B1.ext hE;replace B2:=B2.ext hE;replace B3:=B3.ext hE;replace B6:=B6.ext hE;clear hE
   have hsumK : Hid (c.divE p d = (Q4 p.o (p.d.take K)).2):=by
    have h:=hsum.out;rw [← hK.out] at h;exact h
   have hdiv : Hid (c.divX p d = ⟨p.h,p.a,d,p.o,p.d.take K,(Q4 p.o (p.d.take K)).1⟩ ∧ c.divY p d = ⟨p.h,c.addV d 1,p.b,(Q4 p.o (p.d.take K)).1,p.d.drop K,p.c⟩):=by
    unfold Hid Qd.divX Qd.divY;rw [hnd.out,← hK.out];exact ⟨rfl,rfl⟩
   clear hsum hK hnd;have DTa:=Qfk hP.d (show K ≤ p.d.length by rw [← hnl.out];exact hKn);have DDa:=Qfj hP.d (show K ≤ n from hKn) (by rw [hnl.out];exact Nat.le_refl _);rw [List.take_of_length_le (by rw [hnl.out];exact Nat.le_refl _)] at DDa;have hlT : (p.d.take K).length ≤ 64:=by rw [List.length_take];omega
   have hlR : (p.d.drop K).length ≤ 64:=by rw [List.length_drop,← hnl.out];omega
   have hlTl : Hid (∀ i,i < (p.d.take K).length → ((p.d.take K).getD i Qv).l.length ≤ 1000000):=fun i hi => by
    rw [List.length_take] at hi;rw [Fi _ _ Qb];exact Nat.le_trans (hll.out i Qb) zD
   have hlRl : Hid (∀ i,i < (p.d.drop K).length → ((p.d.drop K).getD i Qv).l.length ≤ 1000000):=fun i hi => by
    rw [List.length_drop] at hi;rw [Cr];exact Nat.le_trans (hll.out (K + i) Qb) zD
   have hsl : (Q4 p.o (p.d.take K)).1.length ≤ 64:=Fh _ _ hlo;clear hll;generalize p.d.take K = DTK at *;generalize p.d.drop K = DRK at *;have NB:=fun w h1 h2 => O8 (.slice t1 p.o.length s1) (.slice t2 K s2) p.o DTK w h1 h2 Qb
   have NA:=fun w h => Qc1 A A' ca cb c d 1 w h
   have NCO:=fun w h => Uy (.slice t1 p.o.length s1) p.o w h Qb
   have NCC:=fun w h => Uy (.slice t3 p.c.length s3) p.c w h Qb
   have NT:=fun w h => Hj (.slice t2 K s2) DTK w h Qb hlTl.out
   obtain ⟨TD,cD,vsD,eD,_⟩:=id DDa;rw [eD] at DDa;have NR:=fun w h => Hj (.slice TD DRK.length cD) DRK w h Qb hlRl.out
   generalize c.addV d 1 = ad at *;generalize c.addE d 1 = ae at *;simp only [Dt.val] at NA;generalize Q4 p.o DTK = SV at *;obtain ⟨S,se⟩:=SV
   simp only at NB hsl hsumK hdiv
   clear hlT hlR;obtain ⟨k0,k1,kl⟩:=Qa.d2 B1;obtain ⟨p0,p1,p2,p3,p4,p5,p6,p7,p8,p9,p10,p11,pl⟩:=Qa.d12 B2;obtain ⟨d0,d1,d2,d3,dl⟩:=Qa.d4 B3;obtain ⟨q0,q1,ql⟩:=Qa.d2 B6;go_upto_region 12 with fail
   clear k0 k1 kl p0 p1 p2 p3 p4 p5 p6 p7 p8 p9 p10 p11 pl d0 d1 d2 d3 dl q0 q1 ql;refine Qy 12 [8,9,10,11] (fun x => Qc w5 x) mixed rfl ?_;intro vz hvz;have HC:=hvz;refine Qj (g:=6) [0,1,2,3,4,5] HC ?_
   constructor
   refine ⟨fun u hu => ?_,?_⟩
   ·obtain ⟨p0,p1,p2,p3,p4,p5,p6,p7,p8,p9,p10,p11,pl⟩:=Qa.d12 (Qa.ext B2 hu);exact Qi
   refine Qh 6 ?_;go_wp2_with (go_at_call 61;refine zc (NB _ (hP.ext (E.trans HC)).o (DTa.ext (E.trans HC))) ?_;rintro e wb ⟨vr,rfl,hb,LR⟩;obtain ⟨FR,mR,rfl⟩:=Z9 LR);have LR1:=Xe LR HC.size;replace HC:=HC.trans hb;clear hb LR;refine Qe HC ?_;refine Qj (g:=4) [7] HC ?_
   constructor
   refine ⟨fun u hu => ?_,?_⟩
   ·obtain ⟨p0,p1,p2,p3,p4,p5,p6,p7,p8,p9,p10,p11,pl⟩:=Qa.d12 (Qa.ext B2 hu);exact Qi
   refine Jf (g:=2) [8,9] ?_
   constructor
   refine ⟨fun u hu => ?_,?_⟩
   ·exact Qi
   refine Ql 10 ?_;go_wp2;refine Qk ?_;refine Ql 11 ?_;go_wp2;refine Qk ?_;refine Qr ?_;have LR:=Xe LR1 E.size;clear LR1 NB;replace E:=E.trans HC;replace C:=C.ext HC;replace B4:=B4.ext HC;replace B5:=B5.ext HC;replace B1:=B1.ext HC;replace B2:=B2.ext HC;replace B3:=B3.ext HC;replace B6:=B6.ext HC;clear HC;by_cases es : se = 0;rotate_left
   ·have g0 : (se == 0) = false := zb es;have g0n : (se != 0) = true := by rw [bne, g0]; rfl
    obtain rfl : RE = se:=HR.out.1.trans hsumK.out;obtain rfl : RX = (Jq,Jq):=by rw [HR.out.2];unfold Qd.divP;rw [hsumK.out];exact if_pos es
    clear HR hsumK hdiv;go_upto_region 14 with fail
    refine Qy 6 [5] (fun x => Qc wb x) mixed rfl ?_;intro vz hvz;have HC:=hvz;refine Qj (g:=3) [0,1,2] HC ?_
    constructor
    refine ⟨fun u hu => ?_,?_⟩
    ·obtain ⟨x0,x1,x2,x3,x4,x5,x6,x7,x8,x9,x10,x11,xl⟩:=Qa.d12 (Qa.ext B4 hu);obtain ⟨y0,y1,y2,y3,y4,y5,y6,y7,y8,y9,y10,y11,yl⟩:=Qa.d12 (Qa.ext B5 hu);exact Qi
    refine Qh 3 ?_;have Hs:=Qa.ext B4 HC;obtain ⟨z0,z1,z2,z3,z4,z5,z6,z7,z8,z9,z10,z11,x0,x1,x2,x3,x4,x5,x6,x7,x8,x9,x10,x11,xl⟩:=Qa.e12 Hs;go_wp2;rw [Xu Hs];clear Hs z0 x0 z1 x1 z2 x2 z3 x3 z4 x4 z5 x5 z6 x6 z7 x7 z8 x8 z9 x9 z10 x10 z11 x11 xl;refine Qe HC ?_;refine Qh 4 ?_;have Hs:=Qa.ext B5 HC;obtain ⟨z0,z1,z2,z3,z4,z5,z6,z7,z8,z9,z10,z11,x0,x1,x2,x3,x4,x5,x6,x7,x8,x9,x10,x11,xl⟩:=Qa.e12 Hs;go_wp2;rw [Xu Hs];clear Hs z0 x0 z1 x1 z2 x2 z3 x3 z4 x4 z5 x5 z6 x6 z7 x7 z8 x8 z9 x9 z10 x10 z11 x11 xl;refine Qe HC ?_;refine Ql 5 ?_;go_wp2;refine Qk ?_;refine Qr ?_;obtain ⟨x0,x1,x2,x3,x4,x5,x6,x7,x8,x9,x10,x11,xl⟩:=Qa.d12 (Qa.ext B4 HC)
    obtain ⟨y0,y1,y2,y3,y4,y5,y6,y7,y8,y9,y10,y11,yl⟩:=Qa.d12 (Qa.ext B5 HC);go_wp2;refine bodyPost_ret (v:=.tuple #[.agg #[.string ⟨#[]⟩,.int .i64 0,.int .i64 0,.bool false,.int .i64 0,.int .i64 0,.int .i64 0,.bool false,.int .i64 0,.slice none 0 0,.slice none 0 0,.slice none 0 0],.agg #[.string ⟨#[]⟩,.int .i64 0,.int .i64 0,.bool false,.int .i64 0,.int .i64 0,.int .i64 0,.bool false,.int .i64 0,.slice none 0 0,.slice none 0 0,.slice none 0 0],.int .i64 RE]) (by simp [results,Tryz.results31,go_sem,x0,y0,x1,y1,x2,y2,x3,y3,x4,y4,x5,y5,x6,y6,x7,y7,x8,y8,x9,y9,x10,y10,x11,y11]) rfl ⟨_,_,_,_,_,_,rfl,E.trans HC,Wl _ _,Wl _ _⟩
   subst es;obtain rfl : RE = 0:=HR.out.1.trans hsumK.out
   have hRX : Hid (RX = (⟨p.h,p.a,d,p.o,DTK,S⟩,⟨p.h,ad,p.b,S,DRK,p.c⟩)):=by
    unfold Hid;rw [HR.out.2];unfold Qd.divP;rw [hsumK.out,if_neg (by simp),hdiv.out.1,hdiv.out.2]
   have hrx:=hRX.out;subst hrx;clear HR hsumK hdiv hRX;obtain ⟨k0,k1,kl⟩:=Qa.d2 B1;obtain ⟨p0,p1,p2,p3,p4,p5,p6,p7,p8,p9,p10,p11,pl⟩:=Qa.d12 B2;obtain ⟨d0,d1,d2,d3,dl⟩:=Qa.d4 B3;obtain ⟨q0,q1,ql⟩:=Qa.d2 B6;go_upto_region 16 with (go_at_call 76;refine zc (NA _ C) ?_;rintro e w7 ⟨rfl,hx⟩;replace E:=E.trans hx;replace LR:=Yi LR hx;replace C:=C.ext hx;replace B4:=B4.ext hx;replace B5:=B5.ext hx;replace B1:=B1.ext hx;replace B2:=B2.ext hx;replace B3:=B3.ext hx;replace B6:=B6.ext hx;clear hx;clear k0 k1 kl p0 p1 p2 p3 p4 p5 p6 p7 p8 p9 p10 p11 pl d0 d1 d2 d3 dl q0 q1 ql;obtain ⟨k0,k1⟩:=B1.c2;have kl:=B1.lt;obtain ⟨p0,p1,p2,p3,p4,p5,p6,p7,p8,p9,p10,p11⟩:=B2.c12;have pl:=B2.lt;obtain ⟨d0,d1,d2,d3⟩:=B3.c4;have dl:=B3.lt;obtain ⟨q0,q1⟩:=B6.c2;have ql:=B6.lt)
   obtain ⟨v7,hv⟩:=Qf (w7.alloc (.cells #[.int .i64 ad.y,.int .i64 ad.m,.bool ad.s,.int .i64 ad.d] 51));rw [← hv];have hx : Qc w7 v7:=by rw [hv];exact (Qc.refl _).alloc _
   have B7 : Qa v7 w7.heap.size 51 #[.int .i64 ad.y,.int .i64 ad.m,.bool ad.s,.int .i64 ad.d]:=by rw [hv];exact Qa.new _ _ _
   clear hv;generalize w7.heap.size = bb1 at *;clear k0 k1 kl p0 p1 p2 p3 p4 p5 p6 p7 p8 p9 p10 p11 pl d0 d1 d2 d3 dl q0 q1 ql;replace E:=E.trans hx;replace LR:=Yi LR hx;replace C:=C.ext hx;replace B4:=B4.ext hx;replace B5:=B5.ext hx;replace B1:=B1.ext hx;replace B2:=B2.ext hx;replace B3:=B3.ext hx;replace B6:=B6.ext hx;clear hx;obtain ⟨k0,k1,kl⟩:=Qa.d2 B1;obtain ⟨p0,p1,p2,p3,p4,p5,p6,p7,p8,p9,p10,p11,pl⟩:=Qa.d12 B2;obtain ⟨d0,d1,d2,d3,dl⟩:=Qa.d4 B3;obtain ⟨q0,q1,ql⟩:=Qa.d2 B6;obtain ⟨e0,e1,e2,e3,el⟩:=Qa.d4 B7;clear k0 k1 kl p0 p1 p2 p3 p4 p5 p6 p7 p8 p9 p10 p11 pl d0 d1 d2 d3 dl q0 q1 ql e0 e1 e2 e3 el;have hlt7:=B7.lt;have hb61 : v7.heap.size ≥ 0:=Nat.zero_le _
   refine Qy 16 [15] (fun x => Qc v7 x) mixed rfl ?_;intro vz hvz;have HC:=hvz;refine Qj (g:=4) [0,1,2,3,4,5,6,8,9,10,11,13] HC ?_
   constructor
   refine ⟨fun u hu => ?_,?_⟩
   ·obtain ⟨p0,p1,p2,p3,p4,p5,p6,p7,p8,p9,p10,p11,pl⟩:=Qa.d12 (Qa.ext B2 hu);obtain ⟨d0,d1,d2,d3,dl⟩:=Qa.d4 (Qa.ext B3 hu);exact Qi
   refine Qh 7 ?_;have hz:=Nat.le_trans E.size HC.size;go_wp2_with (go_at_call 59;refine zc (NCO _ (hP.ext (E.trans HC)).o) ?_;rintro e wc ⟨v1,rfl,hb,S1⟩;obtain ⟨F1,m1,rfl⟩:=Z9 S1);replace S1:=Xe S1 hz;replace HC:=HC.trans hb;clear hb hz;refine Qe HC ?_;refine Qh 12 ?_;have hz:=Nat.le_trans E.size HC.size;go_wp2_with (go_at_call 62;refine zc (NT _ (DTa.ext (E.trans HC))) ?_;rintro e wd ⟨v2,rfl,hb,D1⟩;obtain ⟨F2,m2,rfl⟩:=Nl D1);replace D1:=Jr.le D1 hz;clear hz;replace S1:=Q1 S1 hb;replace HC:=HC.trans hb;replace LR:=Q1 LR HC;clear hb;refine Qe HC ?_;refine Qj (g:=1) [14] HC ?_
   constructor
   refine ⟨fun u hu => ?_,?_⟩
   ·obtain ⟨p0,p1,p2,p3,p4,p5,p6,p7,p8,p9,p10,p11,pl⟩:=Qa.d12 (Qa.ext B2 hu);obtain ⟨d0,d1,d2,d3,dl⟩:=Qa.d4 (Qa.ext B3 hu);exact Qi
   refine Ql 15 ?_;have Hs:=Qa.ext B4 HC;obtain ⟨z0,z1,z2,z3,z4,z5,z6,z7,z8,z9,z10,z11,x0,x1,x2,x3,x4,x5,x6,x7,x8,x9,x10,x11,xl⟩:=Qa.e12 Hs;go_wp2;obtain ⟨wq,hq,HX,ko,kd,kh,ke⟩:=Sj Hs zD zD (.string p.h) (.int .i64 p.a.y) (.int .i64 p.a.m) (.bool p.a.s) (.int .i64 p.a.d) (.int .i64 d.y) (.int .i64 d.m) (.bool d.s) (.int .i64 d.d) (.slice F1 p.o.length m1) (.slice F2 DTK.length m2) (.slice FR S.length mR);rw [← hq];have S1x:=ko S1;have D1x:=kd D1;have LRx:=ko LR;have B5x:=kh (Qa.ext B5 HC) (show b5 ≠ b4 by omega);have B2x:=kh (Qa.ext B2 HC) (show b2 ≠ b4 by omega);have B3x:=kh (Qa.ext B3 HC) (show b3 ≠ b4 by omega);have B7x:=kh (Qa.ext B7 HC) (Mb (Qa.ext B7 HC) Hs zD)
   have EX:=ke (E.trans HC) hbr4;clear hq ko kd kh ke Hs z0 x0 z1 x1 z2 x2 z3 x3 z4 x4 z5 x5 z6 x6 z7 x7 z8 x8 z9 x9 z10 x10 z11 x11 xl;refine Qk ?_;refine Qr ?_;clear B1 B2 B3 B4 B5 B6 B7 S1 D1 LR C HC E NCO NT NA hlt7 hb61;have B2:=B2x;clear B2x;have B3:=B3x;clear B3x;have B5:=B5x;clear B5x;have B7:=B7x;clear B7x;have S1:=S1x;clear S1x;have D1:=D1x;clear D1x;have LR:=LRx;clear LRx;have B4:=HX;clear HX;have E:=EX;clear EX;have LA:=Wi LR;have NLR:=fun w h => Uy (.slice FR S.length mR) S w h Qb
   go_upto_region 17 with fail
   refine Qy 17 [16] (fun x => Qc wq x) mixed rfl ?_;intro vz hvz;have HC:=hvz;refine Qj (g:=5) [0,1,2,3,4,5,7,8,9,10,12,13] HC ?_
   constructor
   refine ⟨fun u hu => ?_,?_⟩
   ·obtain ⟨p0,p1,p2,p3,p4,p5,p6,p7,p8,p9,p10,p11,pl⟩:=Qa.d12 (Qa.ext B2 hu);obtain ⟨e0,e1,e2,e3,el⟩:=Qa.d4 (Qa.ext B7 hu);exact Qi
   refine Qh 6 ?_;try rw [eD]
   have hz:=Nat.le_trans E.size HC.size;go_wp2_with (go_at_call 59;refine zc (NLR _ (LA.ext HC)) ?_;rintro e wc ⟨v1,rfl,hb,S3⟩;obtain ⟨F3,m3,rfl⟩:=Z9 S3);replace S3:=Xe S3 hz;clear hz;replace HC:=HC.trans hb;clear hb;refine Qe HC ?_;refine Qh 11 ?_;have hz:=Nat.le_trans E.size HC.size;go_wp2_with (go_at_call 62;refine zc (NR _ (DDa.ext (E.trans HC))) ?_;rintro e wd ⟨v2,rfl,hb,D4⟩;obtain ⟨F4,m4,rfl⟩:=Nl D4);replace D4:=Jr.le D4 hz;clear hz;replace S3:=Q1 S3 hb;replace HC:=HC.trans hb;clear hb;refine Qe HC ?_;refine Qh 14 ?_;have hz:=Nat.le_trans E.size HC.size;go_wp2_with (go_at_call 59;refine zc (NCC _ (hP.ext (E.trans HC)).c) ?_;rintro e we ⟨v3,rfl,hb,S5⟩;obtain ⟨F5,m5,rfl⟩:=Z9 S5)
   replace S5:=Xe S5 hz;clear hz;replace S3:=Q1 S3 hb;replace D4:=Jr.ext D4 hb;replace HC:=HC.trans hb;replace LR:=Q1 LR HC;replace S1:=Q1 S1 HC;replace D1:=Jr.ext D1 HC;clear hb;refine Qe HC ?_;refine Qj (g:=1) [15] HC ?_
   constructor
   refine ⟨fun u hu => ?_,?_⟩
   ·obtain ⟨p0,p1,p2,p3,p4,p5,p6,p7,p8,p9,p10,p11,pl⟩:=Qa.d12 (Qa.ext B2 hu);obtain ⟨e0,e1,e2,e3,el⟩:=Qa.d4 (Qa.ext B7 hu);exact Qi
   refine Ql 16 ?_;have Hs:=Qa.ext B5 HC;obtain ⟨z0,z1,z2,z3,z4,z5,z6,z7,z8,z9,z10,z11,x0,x1,x2,x3,x4,x5,x6,x7,x8,x9,x10,x11,xl⟩:=Qa.e12 Hs;go_wp2;obtain ⟨wr,hq,HX,ko,kd,kh,ke⟩:=Sj Hs zD zD (.string p.h) (.int .i64 ad.y) (.int .i64 ad.m) (.bool ad.s) (.int .i64 ad.d) (.int .i64 p.b.y) (.int .i64 p.b.m) (.bool p.b.s) (.int .i64 p.b.d) (.slice F3 S.length m3) (.slice F4 DRK.length m4) (.slice F5 p.c.length m5);rw [← hq];have S1x:=ko S1;have D1x:=kd D1;have LRx:=ko LR;have S3x:=ko S3;have D4x:=kd D4;have S5x:=ko S5;have B4x:=kh (Qa.ext B4 HC) (show b4 ≠ b5 by omega);have EX:=ke (E.trans HC) hbr;clear hq ko kd kh ke Hs z0 x0 z1 x1 z2 x2 z3 x3 z4 x4 z5 x5 z6 x6 z7 x7 z8 x8 z9 x9 z10 x10 z11 x11 xl
   refine Qk ?_;refine Qr ?_;clear B2 B3 B4 B5 B7 S1 D1 LR HC E S3 D4 S5 NLR NR NCC LA;have B4:=B4x;have B5:=HX;have E:=EX;clear B4x HX EX;go_upto_region 18 with fail
   refine Qy 5 [4] (fun x => Qc wr x) mixed rfl ?_;intro vz hvz;have HC:=hvz;refine Qj (g:=3) [0,1] HC ?_
   constructor
   refine ⟨fun u hu => ?_,?_⟩
   ·obtain ⟨x0,x1,x2,x3,x4,x5,x6,x7,x8,x9,x10,x11,xl⟩:=Qa.d12 (Qa.ext B4 hu);obtain ⟨y0,y1,y2,y3,y4,y5,y6,y7,y8,y9,y10,y11,yl⟩:=Qa.d12 (Qa.ext B5 hu);exact Qi
   refine Qh 2 ?_;have Hs:=Qa.ext B4 HC;obtain ⟨z0,z1,z2,z3,z4,z5,z6,z7,z8,z9,z10,z11,x0,x1,x2,x3,x4,x5,x6,x7,x8,x9,x10,x11,xl⟩:=Qa.e12 Hs;go_wp2;rw [Xu Hs];clear Hs z0 x0 z1 x1 z2 x2 z3 x3 z4 x4 z5 x5 z6 x6 z7 x7 z8 x8 z9 x9 z10 x10 z11 x11 xl;refine Qe HC ?_;refine Qh 3 ?_;have Hs:=Qa.ext B5 HC;obtain ⟨z0,z1,z2,z3,z4,z5,z6,z7,z8,z9,z10,z11,x0,x1,x2,x3,x4,x5,x6,x7,x8,x9,x10,x11,xl⟩:=Qa.e12 Hs;go_wp2;rw [Xu Hs];clear Hs z0 x0 z1 x1 z2 x2 z3 x3 z4 x4 z5 x5 z6 x6 z7 x7 z8 x8 z9 x9 z10 x10 z11 x11 xl;refine Qe HC ?_;refine Ql 4 ?_;go_wp2;refine Qk ?_;refine Qr ?_;obtain ⟨x0,x1,x2,x3,x4,x5,x6,x7,x8,x9,x10,x11,xl⟩:=Qa.d12 (Qa.ext B4 HC)
   obtain ⟨y0,y1,y2,y3,y4,y5,y6,y7,y8,y9,y10,y11,yl⟩:=Qa.d12 (Qa.ext B5 HC);go_wp2;refine bodyPost_ret (v:=.tuple #[.agg #[.string p.h,.int .i64 p.a.y,.int .i64 p.a.m,.bool p.a.s,.int .i64 p.a.d,.int .i64 d.y,.int .i64 d.m,.bool d.s,.int .i64 d.d,.slice F1 p.o.length m1,.slice F2 DTK.length m2,.slice FR S.length mR],.agg #[.string p.h,.int .i64 ad.y,.int .i64 ad.m,.bool ad.s,.int .i64 ad.d,.int .i64 p.b.y,.int .i64 p.b.m,.bool p.b.s,.int .i64 p.b.d,.slice F3 S.length m3,.slice F4 DRK.length m4,.slice F5 p.c.length m5],.int .i64 0]) (by simp [results,Tryz.results31,go_sem,x0,y0,x1,y1,x2,y2,x3,y3,x4,y4,x5,y5,x6,y6,x7,y7,x8,y8,x9,y9,x10,y10,x11,y11]) rfl ⟨_,_,_,_,_,_,rfl,E.trans HC,Jm.ext ⟨S1x,D1x,LRx⟩ HC,Jm.ext ⟨S3x,D4x,S5x⟩ HC⟩
theorem Qft (A A' : OA) (ca cb : Nat) (c : Qd) (p : Pd) (vo vd vc : Value) (d : Dt) (w : World) (hC : Q3 w A ca A' cb c) (hP : J9 w p vo vd vc) :
  Calls Tryz.prog 31 #[.agg #[.slice A c.nk ca,.slice A' c.ny cb],.agg #[.string p.h,.int .i64 p.a.y,.int .i64 p.a.m,.bool p.a.s,.int .i64 p.a.d,.int .i64 p.b.y,.int .i64 p.b.m,.bool p.b.s,.int .i64 p.b.d,vo,vd,vc],.agg #[.int .i64 d.y,.int .i64 d.m,.bool d.s,.int .i64 d.d]] w fun e w' => ∃ vo1 vd1 vc1 vo2 vd2 vc2,e = .returned (.tuple #[.agg #[.string (c.divP p d).1.h,.int .i64 (c.divP p d).1.a.y,.int .i64 (c.divP p d).1.a.m,.bool (c.divP p d).1.a.s,.int .i64 (c.divP p d).1.a.d,.int .i64 (c.divP p d).1.b.y,.int .i64 (c.divP p d).1.b.m,.bool (c.divP p d).1.b.s,.int .i64 (c.divP p d).1.b.d,vo1,vd1,vc1],.agg #[.string (c.divP p d).2.h,.int .i64 (c.divP p d).2.a.y,.int .i64 (c.divP p d).2.a.m,.bool (c.divP p d).2.a.s,.int .i64 (c.divP p d).2.a.d,.int .i64 (c.divP p d).2.b.y,.int .i64 (c.divP p d).2.b.m,.bool (c.divP p d).2.b.s,.int .i64 (c.divP p d).2.b.d,vo2,vd2,vc2],.int .i64 (c.divE p d)]) ∧ Qc w w' ∧ J9 w' (c.divP p d).1 vo1 vd1 vc1 ∧ J9 w' (c.divP p d).2 vo2 vd2 vc2 :=
 (Qfs A A' ca cb c p vo vd vc d w hC hP).mono fun _ _ ⟨a,b,e,x,y,z,h1,h2,h3,h4⟩ => ⟨a,b,e,x,y,z,h1,h2,Gz h3,Gz h4⟩
end
section
open Go Go.RowKit Go.Shelf
attribute [local go_sem] Zu
theorem Qhe : (Tryz.prog.info? 55).map (fun i => (i.zero,i.size,i.bytes)) = some (some (.agg #[.string ⟨#[]⟩,.int .i64 0,.int .i64 0,.bool false,.int .i64 0,.int .i64 0,.int .i64 0,.bool false,.int .i64 0,.slice none 0 0,.slice none 0 0,.slice none 0 0]),12,152):=by kernel_rfl
theorem Br (p : Pd) (F G H : OA) (n1 m1 n2 m2 n3 m3 : Nat) : ∀ u ∈ Qu p (.slice F n1 m1) (.slice G n2 m2) (.slice H n3 m3),u.oneCell' = true:=by simp [Qu,Value.oneCell']
def Wd (W : World) (b : Nat) (v : Value) (n : Nat) (g : Nat → Pd) : Prop:=∃ vo vd vc : Nat → Value,W.ownsRow b 55 12 v n (Q7 (fun i => Qu (g i) (vo i) (vd i) (vc i)) n) ∧ ∀ i,i < n → Jm W b (g i) (vo i) (vd i) (vc i)
theorem Qka (W : World) (b : Nat) (g : Nat → Pd) : Wd W b (.slice none 0 0) 0 g:=⟨fun _ => .slice none 0 0,fun _ => .slice none 0 0,fun _ => .slice none 0 0,World.ownsRow_nil _ _ _ _,fun i h => absurd h Qb⟩
theorem Wd.ext {W W' : World} {b n : Nat} {v : Value} {g : Nat → Pd} (h : Wd W b v n g) (x : Qc W W') : Wd W' b v n g:=by
 obtain ⟨vo,vd,vc,h1,h2⟩:=h;exact ⟨vo,vd,vc,Q1 h1 x,fun i hi => (h2 i hi).ext x⟩
theorem Wd.le {W : World} {b b' n : Nat} {v : Value} {g : Nat → Pd} (h : Wd W b v n g) (hb : b' ≤ b) : Wd W b' v n g:=by
 obtain ⟨vo,vd,vc,h1,h2⟩:=h;exact ⟨vo,vd,vc,h1.mono hb,fun i hi => (h2 i hi).le hb⟩
theorem Qj8 {W : World} {b : Nat} {v : Value} {l : List Pd} (h : Wd W b v l.length (fun i => l.getD i Qs)) : Jw W v l:=by
 obtain ⟨vo,vd,vc,h1,h2⟩:=h;obtain ⟨F,c,g1,g2,g3,g4,g5,_⟩:=Vl (f:=fun i => Qu (l.getD i Qs) (vo i) (vd i) (vc i)) (fun _ => rfl) h1;exact ⟨F,c,vo,vd,vc,g1,g2,g3,g4,g5,fun i hi => Gz (h2 i hi)⟩
theorem Jm.kept {W w1 : World} {b b' k : Nat} {v' vo vd vc : Value} {p : Pd} {xs : List Value} {row : Option Nat} (h : Jm W b p vo vd vc) (hr : W.ownsRow b' 55 12 v' k xs) (hg : W.grownBy w1 row) (hrow : row = v'.ownBlock) : Jm w1 b p vo vd vc:=by
 subst hrow;obtain ⟨vs,d1,d2⟩:=h.d;exact ⟨World.ownsRow.kept h.o hg (N8 h.o hr zD),⟨vs,World.ownsRow.kept d1 hg (N8 d1 hr zD),fun i hi => World.ownsRow.kept (d2 i hi) hg (N8 (d2 i hi) hr zD)⟩,World.ownsRow.kept h.c hg (N8 h.c hr zD)⟩
theorem Jm.alloc {W : World} {b : Nat} {vo vd vc : Value} {p : Pd} (h : Jm W b p vo vd vc) (ob : Obj) : Jm (W.alloc ob) b p vo vd vc:=h.ext ((Qc.refl _).alloc ob)
theorem Qkb {W w1 : World} {b k : Nat} {v v' uo ud uc : Value} {g : Nat → Pd} {vo vd vc : Nat → Value} {ob : Obj} (hO : W.ownsRow b 55 12 v k (Q7 (fun i => Qu (g i) (vo i) (vd i) (vc i)) k)) (hL : ∀ i,i < k → Jm W b (g i) (vo i) (vd i) (vc i)) (hl : Jm W b (g k) uo ud uc)
  (hown : w1.ownsRow b 55 12 v' (k + 1) (Q7 (fun i => Qu (g i) (vo i) (vd i) (vc i)) k ++ Qu (g k) uo ud uc)) (hgrow : (W.alloc ob).grownBy w1 v.ownBlock) : Wd w1 b v' (k + 1) g:=by
 refine ⟨fun i => if i = k then uo else vo i,fun i => if i = k then ud else vd i,fun i => if i = k then uc else vc i,?_,fun i hi => ?_⟩
 ·rw [U0, K2 (f' := fun i => Qu (g i) (vo i) (vd i) (vc i)) k (fun i hi => by simp [show i ≠ k by omega])]
  simpa using hown
 ·by_cases e : i = k
  ·subst e;simpa using Jm.kept (hl.alloc ob) (hO.alloc ob) hgrow rfl
  ·simpa [e] using Jm.kept ((hL i Qb).alloc ob) (hO.alloc ob) hgrow rfl
theorem Dr (A A' : OA) (ca cb : Nat) (c : Qd) (v : Value) (l : List Pd) (w : World) (hC : Q3 w A ca A' cb c) (hP : Jw w v l) :
  Calls Tryz.prog 58 #[.agg #[.slice A c.nk ca,.slice A' c.ny cb],v] w fun e w' => e = .returned (.tuple #[.agg #[.slice A c.nk ca,.slice A' c.ny cb],.int .i64 (c.archE l)]) ∧ Qc w w':=by
 have NO:=fun w h => Ny A A' ca cb c w h
 obtain ⟨D,cap,_,_,_,hv9,_⟩:=id hP;subst hv9;have NP:=fun w h1 h2 => Qau A A' ca cb c (.slice D l.length cap) l w h1 h2
 obtain ⟨R,hR0⟩:=Qf (c.archE l);rw [← hR0];have HR:=zh hR0;clear hR0
 go_enter Tryz.func58,Tryz.ntmps58
 go_upto_region 1 with fail
 obtain ⟨v,b1,b2,E,B1,B2,hbr1,hbr,hn21,hv,hb1,hb2⟩:=J1 w 25 #[.slice A c.nk ca,.slice A' c.ny cb] 130 #[.slice none 0 0,.slice none 0 0];rw [← hv,← hb2,← hb1];clear hv hb1 hb2;obtain ⟨k0,k1,lk⟩:=Qa.d2 B1;obtain ⟨ck,hck⟩:=Qf (c.chk);simp only [← hck] at NO;replace hck:=zh hck;go_upto_region 2 with (go_at_call 64;refine zc (NO _ (hC.ext E)) ?_;rintro e w1 ⟨rfl,h1⟩)
 obtain ⟨v3,hv⟩:=Qf (w1.alloc (.cells #[.slice A c.nk ca,.slice A' c.ny cb] 130));rw [← hv];have h3 : Qc w1 v3:=by rw [hv];exact (Qc.refl _).alloc _
 have H3 : Qa v3 w1.heap.size 130 #[.slice A c.nk ca,.slice A' c.ny cb]:=by rw [hv];exact Qa.new _ _ _
 clear hv;generalize w1.heap.size = b9 at *;replace E:=(E.trans h1).trans h3;replace B2:=(B2.ext h1).ext h3;have C:=hC.ext E;have P:=hP.ext E;clear hC hP k0 k1 lk B1 NO h1 h3;by_cases e0 : ck = 0;rotate_left
 ·have g0 : (ck == 0) = false := zb e0;have g0n : (ck != 0) = true := by rw [bne, g0]; rfl
  have hr : R = ck:=by rw [HR.out,hck.out];unfold Qd.archE;rw [if_pos (by rw [← hck.out];exact e0)]
  clear HR e0 hck NP;obtain ⟨k0,k1,lk⟩:=Qa.d2 H3;obtain ⟨f0,f1,x0,x1,lx⟩:=Qa.e2 B2;have H4:=Qp B2 (.slice A c.nk ca) (.slice A' c.ny cb);have EF:=(E.setCell (p:=⟨b2,0,none⟩) hbr (.slice A c.nk ca)).setCell (p:=⟨b2,1,none⟩) hbr (.slice A' c.ny cb);obtain ⟨y0,y1⟩:=H4.c2;go_wp2;refine bodyPost_ret (v:=.tuple #[.agg #[.slice A c.nk ca,.slice A' c.ny cb],.int .i64 ck]) Q8 rfl ⟨by rw [hr],EF⟩
 ·subst e0;by_cases hlim : 32 < l.length
  ·have hr : R = 3 := by rw [HR.out]; unfold Qd.archE; rw [if_neg (by rw [← hck.out]; simp), if_pos hlim]
   have g1 : decide (32 < l.length) = true:=zt hlim;clear HR hck NP;obtain ⟨k0,k1,lk⟩:=Qa.d2 H3;obtain ⟨f0,f1,x0,x1,lx⟩:=Qa.e2 B2;have H4:=Qp B2 (.slice A c.nk ca) (.slice A' c.ny cb);have EF:=(E.setCell (p:=⟨b2,0,none⟩) hbr (.slice A c.nk ca)).setCell (p:=⟨b2,1,none⟩) hbr (.slice A' c.ny cb);obtain ⟨y0,y1⟩:=H4.c2;go_wp2;refine bodyPost_ret (v:=.tuple #[.agg #[.slice A c.nk ca,.slice A' c.ny cb],.int .i64 3]) Q8 rfl ⟨by rw [hr],EF⟩
  have hr : Hid (R = c.persE l):=by unfold Hid;rw [HR.out];unfold Qd.archE;rw [if_neg (by rw [← hck.out];simp),if_neg hlim]
  have g1 : decide (32 < l.length) = false:=zf hlim;clear HR hck;obtain ⟨k0,k1,lk⟩:=Qa.d2 H3;go_upto_region 6 with fail
  clear k0 k1 lk;refine Qy 6 [4,5] (fun x => Qc v3 x) mixed rfl ?_;intro vz hvz;have HC:=hvz;refine Qj (g:=3) [0,1,2] HC ?_
  constructor
  refine ⟨fun u hu => ?_,?_⟩
  ·obtain ⟨k0,k1,lk⟩:=Qa.d2 (H3.ext hu);exact Qi
  refine Qh 3 ?_;go_wp2_with (go_at_call 107;refine zc (NP _ (C.ext HC) (P.ext HC)) ?_;rintro e va ⟨rfl,h4⟩);replace HC:=HC.trans h4;clear h4;refine Qe HC ?_;refine Ql 4 ?_;replace B2:=B2.ext HC;replace E:=E.trans HC;obtain ⟨f0,f1,x0,x1,lx⟩:=Qa.e2 B2;have H4:=Qp B2 (.slice A c.nk ca) (.slice A' c.ny cb);have EF:=(E.setCell (p:=⟨b2,0,none⟩) hbr (.slice A c.nk ca)).setCell (p:=⟨b2,1,none⟩) hbr (.slice A' c.ny cb);obtain ⟨y0,y1⟩:=H4.c2;go_wp2;refine Qk ?_;refine Ql 5 ?_;go_wp2;refine Qk ?_;refine Qr ?_;go_wp2;refine bodyPost_ret (v:=.tuple #[.agg #[.slice A c.nk ca,.slice A' c.ny cb],.int .i64 (c.persE l)]) Q8 rfl ⟨by rw [hr.out],EF⟩
theorem Qdd {c : Qd} {l : List Pd} (h : c.archE l = 0) : c.valid = true ∧ l.length ≤ 32 ∧ ∀ k,k < l.length → c.perOk (l.getD k Qs) = true:=by
 unfold Qd.archE at h;cases hv : c.valid
 ·unfold Qd.chk at h;rw [hv] at h;simp at h
 ·have hck : c.chk = 0 := by unfold Qd.chk; rw [hv]; rfl
  rw [if_neg (by rw [hck];decide)] at h
  split at h
  ·exact absurd h zD
  ·rename_i hl
   refine ⟨rfl,Qb,fun k hk => ?_⟩;unfold Qd.persE at h
   split at h
   ·rename_i ha
    have:=List.all_eq_true.1 ha (l.getD k Qs) (by rw [List.getD_eq_getElem?_getD,List.getElem?_eq_getElem hk];exact List.getElem_mem hk);exact this
   ·exact absurd h zD
structure Y6 (c : Qd) (l : List Pd) (R : List Pd × Int) (L : List Pd) (k : Nat) : Prop where
 len : L.length = k
 run : R = Wf L (c.carR L.getLast? (l.drop k))
 same : ∀ q,L.getLast? = some q → q.h = (l.getD (k - 1) Qs).h ∧ q.b = (l.getD (k - 1) Qs).b
 cl : ∀ i,i < k → (L.getD i Qs).c.length ≤ 64
theorem Y6.zero (c : Qd) (l : List Pd) : Y6 c l (c.carR none l) [] 0:=⟨rfl,(Qd3).symm,fun q h => (by cases h),fun i h => absurd h Qb⟩
section
variable {c : Qd} {l : List Pd} {R : List Pd × Int} {L : List Pd} {k : Nat}
theorem Tj {l : List Pd} {k : Nat} (hk : k < l.length) : l.drop k = l.getD k Qs :: l.drop (k + 1):=by
 rw [List.drop_eq_getElem_cons hk,List.getD_eq_getElem?_getD,List.getElem?_eq_getElem hk];rfl
theorem Y6.done (h : Y6 c l R L l.length) : R = (L,0):=by
 rw [h.run,List.drop_length];exact Qd2
theorem Y6.any (h : Y6 c l R L k) (h0 : 0 < k) : (L.getLast?.any fun q => !c.behV q (l.getD k Qs)) = !c.behV (l.getD (k - 1) Qs) (l.getD k Qs):=by
 cases hq : L.getLast? with
 | none => rw [List.getLast?_eq_none_iff] at hq;subst hq;have:=h.len;simp at this;omega
 | some q =>
  obtain ⟨h1,h2⟩:=h.same q hq;simp only [Option.any_some,Qd.behV,h1,h2]
theorem Y6.follow (h : Y6 c l R L k) (hk : k < l.length) (hb : (L.getLast?.any fun q => !c.behV q (l.getD k Qs)) = true) : R = ([],84):=by
 rw [h.run,Tj hk];exact Qd1 hb
theorem Y6.sum (h : Y6 c l R L k) (hk : k < l.length) (hb : (L.getLast?.any fun q => !c.behV q (l.getD k Qs)) = false) {e : Int} (he : (Q4 (L.getLast?.elim (l.getD k Qs).o (·.c)) (l.getD k Qs).d).2 = e) (h0 : e ≠ 0) : R = ([],e):=by
 rw [h.run,Tj hk,← he];exact Qd5 hb (by rw [he];exact h0)
theorem Y6.step (h : Y6 c l R L k) (hk : k < l.length) (hb : (L.getLast?.any fun q => !c.behV q (l.getD k Qs)) = false) (he : (Q4 (L.getLast?.elim (l.getD k Qs).o (·.c)) (l.getD k Qs).d).2 = 0) (hs : (Q4 (L.getLast?.elim (l.getD k Qs).o (·.c)) (l.getD k Qs).d).1.length ≤ 64) :
  Y6 c l R (L ++ [Xs L.getLast? (l.getD k Qs)]) (k + 1):=by
 refine ⟨by simp [h.len],?_,fun q hq => ?_,fun i hi => ?_⟩
 ·rw [h.run,Tj hk,Qd4 hb he];simp
 ·simp at hq;subst hq;exact ⟨rfl,rfl⟩
 ·by_cases e : i = k
  ·subst e;rw [← h.len] at *;simp [List.getD_eq_getElem?_getD];exact hs
  ·have hi' : i < L.length := by rw [h.len]; omega
   have:=h.cl i Qb
   simpa [List.getD_eq_getElem?_getD,List.getElem?_append_left hi'] using this
theorem Y6.last (h : Y6 c l R L k) (h0 : 0 < k) : L.getLast?.elim (l.getD k Qs).o (·.c) = (L.getD (k - 1) Qs).c:=by
 have hl:=h.len;simp only [List.getLast?_eq_getElem?,hl,List.getD_eq_getElem?_getD];rw [List.getElem?_eq_getElem (show k - 1 < L.length by omega)];rfl
end
theorem G0 (w : World) : Jw w (.slice none 0 0) []:=⟨none,0,fun _ => .slice none 0 0,fun _ => .slice none 0 0,fun _ => .slice none 0 0,rfl,Qo.nil,Nat.le_refl _,Nat.zero_le _,fun _ => ⟨rfl,rfl⟩,fun i h => absurd h (by simp)⟩
theorem Qav {W w1 : World} {b k : Nat} {v v' uo ud uc : Value} {g0 g : Nat → Pd} {vo vd vc : Nat → Value} {ob : Obj} (e : ∀ i,i < k → g0 i = g i) (hO : W.ownsRow b 55 12 v k (Q7 (fun i => Qu (g0 i) (vo i) (vd i) (vc i)) k)) (hL : ∀ i,i < k → Jm W b (g0 i) (vo i) (vd i) (vc i)) (hl : Jm W b (g k) uo ud uc)
  (hown : w1.ownsRow b 55 12 v' (k + 1) (Q7 (fun i => Qu (g0 i) (vo i) (vd i) (vc i)) k ++ Qu (g k) uo ud uc)) (hgrow : (W.alloc ob).grownBy w1 v.ownBlock) : Wd w1 b v' (k + 1) g:=by
 have ef : Q7 (fun i => Qu (g0 i) (vo i) (vd i) (vc i)) k = Q7 (fun i => Qu (g i) (vo i) (vd i) (vc i)) k:=K2 k (fun i hi => by rw [e i hi]);rw [ef] at hO hown;exact Qkb hO (fun i hi => by rw [← e i hi];exact hL i hi) hl hown hgrow
theorem En {L : List Pd} {x : Pd} {k : Nat} (h : L.length = k) : (∀ i,i < k → L.getD i Qs = (L ++ [x]).getD i Qs) ∧ (L ++ [x]).getD k Qs = x:=by
 subst h;refine ⟨fun i hi => ?_,?_⟩
 ·simp [List.getD_eq_getElem?_getD,List.getElem?_append_left hi]
 ·simp [List.getD_eq_getElem?_getD]
theorem Qd6 (A A' : OA) (ca cb : Nat) (c : Qd) (l : List Pd) (v : Value) (w : World) (hC : Q3 w A ca A' cb c) (hP : Jw w v l) :
  Calls Tryz.prog 16 #[.agg #[.slice A c.nk ca,.slice A' c.ny cb],v] w fun e w' => ∃ v',e = .returned (.tuple #[v',.int .i64 (c.carryV l).2]) ∧ Qc w w' ∧ Jw w' v' (c.carryV l).1:=by
 obtain ⟨i0,hi,hz0,hz1,hz2⟩:=info_parts Qhe;obtain ⟨D,cap,vo,vd,vc,rfl,hD,hcap,hmax,_,hat0⟩:=id hP;have hn : l.length ≤ 9223372036854775807:=Nat.le_trans hcap (Nat.le_trans hmax zD);have NV:=fun w h1 h2 => Dr A A' ca cb c (.slice D l.length cap) l w h1 h2
 obtain ⟨pe,hpe⟩:=Qf (c.archE l);simp only [← hpe] at NV;replace hpe:=zh hpe;obtain ⟨R,hR0⟩:=Qf (c.carryV l);rw [← hR0];have HR:=zh hR0;clear hR0;have hat:=zh hat0;clear hat0 hcap hmax
 go_enter Tryz.func16,Tryz.ntmps16
 go_upto_region 1 with fail
 obtain ⟨v,b1,E,B1,hbr,hv,hb1⟩:=Ym w 25 #[.slice A c.nk ca,.slice A' c.ny cb];rw [← hv,← hb1];clear hv hb1;have C:=hC.ext E;clear hC;obtain ⟨k0,k1,kl⟩:=Qa.d2 B1;go_upto_region 2 with (go_at_call 58;refine zc (NV _ C (hP.ext E)) ?_;rintro e w1 ⟨rfl,hx⟩;replace E:=E.trans hx;replace C:=C.ext hx;replace B1:=B1.ext hx;clear hx;clear k0 k1 kl;obtain ⟨k0,k1⟩:=B1.c2;have kl:=B1.lt)
 obtain ⟨vb1,hv⟩:=Qf (w1.alloc (.cells #[.slice A c.nk ca,.slice A' c.ny cb] 130));rw [← hv];have hx : Qc w1 vb1:=by rw [hv];exact (Qc.refl _).alloc _
 have B6 : Qa vb1 w1.heap.size 130 #[.slice A c.nk ca,.slice A' c.ny cb]:=by rw [hv];exact Qa.new _ _ _
 clear hv;generalize w1.heap.size = bb1 at *;clear k0 k1 kl;replace E:=E.trans hx;replace C:=C.ext hx;replace B1:=B1.ext hx;clear hx;obtain ⟨k0,k1,kl⟩:=Qa.d2 B1;obtain ⟨q0,q1,ql⟩:=Qa.d2 B6;clear NV;by_cases e0 : pe = 0;rotate_left
 ·have g0 : (pe == 0) = false := zb e0;have g0n : (pe != 0) = true := by rw [bne, g0]; rfl
  obtain rfl : R = ([],pe):=by rw [HR.out];unfold Qd.carryV;rw [← hpe.out];exact if_pos e0
  clear HR e0 hpe;go_wp2;go_ret2;exact ⟨_,rfl,E,G0 _⟩
 subst e0;obtain ⟨hv,h32,hall⟩:=Qdd hpe.out.symm;have hside : Hid (∀ k,k < l.length → V8 c (l.getD k Qs)):=fun k hk => Oc (hall k hk)
 have J0 : Hid (Y6 c l R [] 0):=by
  have h : R = c.carR none l:=by rw [HR.out];unfold Qd.carryV;rw [← hpe.out];exact if_neg (by simp)
  rw [h];exact Y6.zero c l
 clear HR hpe hall;go_upto_region 6 with fail
 go_loopw [8,25] (fun ov iv wr => ∃ (k : Nat) (L : List Pd),k ≤ l.length ∧ iv = .int .i64 k ∧ Wd wr vb1.heap.size ov k (fun i => L.getD i Qs) ∧ Hid (Y6 c l R L k) ∧ Qc vb1 wr) (fun _ i _ => l.length - (intOf i).toNat)
 case atStart => exact ⟨0,[],Nat.zero_le _,rfl,Qka _ _ _,J0,Qc.refl _⟩
 case round =>
  clear J0;obtain ⟨k,L,hk,rfl,⟨ro,rd,rc,hO,hLo0⟩,hJ,hE⟩:=hrel;have hLo:=zh hLo0;clear hLo0;obtain ⟨wo,rfl⟩:=Qf wr;obtain ⟨FO,mO,rfl⟩:=Z9 hO;clear k0 k1 kl q0 q1 ql;have C2:=C.ext hE;have Q6:=B6.ext hE;by_cases hlt : k < l.length
  ·obtain ⟨b,off,rfl,hb,hc⟩:=(hD.ext (E.trans hE)) Qb;obtain ⟨c0,c1,c2,c3,c4,c5,c6,c7,c8,c9,c10,c11⟩:=Fw hc hlt;clear hc;have P1:=(hat.out k hlt).ext (E.trans hE);have hok:=hside.out k hlt;obtain ⟨G,hG⟩:=Qf (l.getD k Qs);rw [← hG] at P1 hok c0 c1 c2 c3 c4 c5 c6 c7 c8;replace hG:=zh hG;have hlo:=hok.o;have hld:=hok.d;have hll : Hid (∀ i,i < G.d.length → (G.d.getD i Qv).l.length ≤ 1000000):=fun i hi => Nat.le_trans (hok.l i hi) zD
   clear hok;generalize vo k = v1 at *;generalize vd k = v2 at *;generalize vc k = v3 at *;obtain ⟨t1,s1,e1,_⟩:=id P1.o;subst e1;obtain ⟨t2,s2,_,e2,_⟩:=id P1.d;subst e2;obtain ⟨t3,s3,e3,_⟩:=id P1.c;subst e3;have NCO:=fun w h => Uy (.slice t1 G.o.length s1) G.o w h Qb
   have NT:=fun w h => Hj (.slice t2 G.d.length s2) G.d w h Qb hll.out
   go_upto_region 8 with fail
   obtain ⟨w2,hv⟩:=Qf (wo.alloc (.cells #[.string G.h,.int .i64 G.a.y,.int .i64 G.a.m,.bool G.a.s,.int .i64 G.a.d,.int .i64 G.b.y,.int .i64 G.b.m,.bool G.b.s,.int .i64 G.b.d,.slice t1 G.o.length s1,.slice t2 G.d.length s2,.slice t3 G.c.length s3] 55));rw [← hv];have h2 : Qc wo w2:=by rw [hv];exact (Qc.refl _).alloc _
   have BP : Qa w2 wo.heap.size 55 #[.string G.h,.int .i64 G.a.y,.int .i64 G.a.m,.bool G.a.s,.int .i64 G.a.d,.int .i64 G.b.y,.int .i64 G.b.m,.bool G.b.s,.int .i64 G.b.d,.slice t1 G.o.length s1,.slice t2 G.d.length s2,.slice t3 G.c.length s3]:=by rw [hv];exact Qa.new _ _ _
   clear hv;generalize wo.heap.size = bp at *;clear c0 c1 c2 c3 c4 c5 c6 c7 c8 c9 c10 c11;obtain ⟨p0,p1,p2,p3,p4,p5,p6,p7,p8,p9,p10,p11,pl⟩:=Qa.d12 BP;go_upto_region 9 with (go_at_call 59;refine zc (NCO _ (P1.o.ext h2)) ?_;rintro e w3 ⟨v1,rfl,h3,S1⟩;obtain ⟨F1,m1,rfl⟩:=Z9 S1;clear p0 p1 p2 p3 p4 p5 p6 p7 p8 p9 p10 p11 pl)
   have HE:=(hE.trans h2).trans h3;have BP3:=BP.ext h3;have X3:=h2.trans h3;clear NCO;by_cases h0 : 0 < k;rotate_left
   ·have hk0 : k = 0:=Qb
    have hLn : L.getLast? = none:=by
     have:=hJ.out.len;rw [hk0] at this;rw [List.length_eq_zero_iff.1 this];rfl
    have hq : (L.getLast?.any fun q => !c.behV q (l.getD k Qs)) = false:=by rw [hLn];rfl
    have hel : L.getLast?.elim (l.getD k Qs).o (·.c) = G.o:=by rw [hLn,hG.out];rfl
    clear hk0 hLn;replace hq:=zh hq;replace hel:=zh hel;have NB:=fun w h1 h2 => O8 (.slice F1 G.o.length m1) (.slice t2 G.d.length s2) G.o G.d w h1 h2 Qb
    have hsl : (Q4 G.o G.d).1.length ≤ 64:=Fh _ _ Qb;obtain ⟨SV,hSV⟩:=Qf (Q4 G.o G.d);rw [← hSV] at hsl;simp only [← hSV] at NB;replace hSV:=zh hSV;obtain ⟨S,se⟩:=SV
    simp only at NB hsl
    have BPc:=BP3;obtain ⟨p0,p1,p2,p3,p4,p5,p6,p7,p8,p9,p10,p11,pl⟩:=Qa.d12 BPc;have LA:=Wi S1;go_upto_region 14 with (go_at_call 61;refine zc (NB _ LA (P1.d.ext X3)) ?_;rintro e w6 ⟨vr,rfl,h6,SR⟩;obtain ⟨FR,mR,rfl⟩:=Z9 SR)
    clear NB LA p0 p1 p2 p3 p4 p5 p6 p7 p8 p9 p10 p11 pl;have hs2 : (Q4 (L.getLast?.elim (l.getD k Qs).o (·.c)) (l.getD k Qs).d) = (S,se):=by rw [hel.out,← hG.out];exact hSV.out.symm
    by_cases es : se = 0;rotate_left
    ·have g0 : (se == 0) = false := zb es;have g0n : (se != 0) = true := by rw [bne, g0]; rfl
     obtain rfl:=hJ.out.sum hlt hq.out (by rw [hs2]) es;clear hs2 hSV es;go_wp2;go_ret2;exact ⟨_,rfl,(E.trans (hE.trans X3)).trans h6,G0 _⟩
    subst es;have J':=zh (hJ.out.step hlt hq.out (by rw [hs2]) (by rw [hs2];exact hsl));obtain ⟨he1,he2⟩:=En (x:=Xs L.getLast? (l.getD k Qs)) hJ.out.len;have hx : Xs L.getLast? (l.getD k Qs) = ⟨G.h,G.a,G.b,G.o,G.d,S⟩:=by unfold Xs;rw [hs2,hel.out,← hG.out]
    replace he2:=he2.trans hx;have XW:=(X3).trans h6;have BPw:=BPc.ext h6;have OA:=Q1 hO XW;have S1w:=Q1 S1 h6;go_upto_region 16 with fail
    refine Qy 16 [14,15] (fun x => Qc w6 x) mixed rfl ?_;intro vz hvz;have HC:=hvz;refine Qj (g:=5) [0,1,2,3,4,5,6,7,8,9,11] HC ?_
    constructor
    refine ⟨fun u hu => ?_,?_⟩
    ·obtain ⟨p0,p1,p2,p3,p4,p5,p6,p7,p8,p9,p10,p11,pl⟩:=Qa.d12 (Qa.ext BPw hu);exact Qi
    refine Qh 10 ?_;go_wp2_with (go_at_call 62;refine zc (NT _ (P1.d.ext (XW.trans HC))) ?_;rintro e wd ⟨v2,rfl,hb,D2⟩;obtain ⟨F2,m2,rfl⟩:=Nl D2);have hzd:=HC.size;replace HC:=HC.trans hb;have HC0:=HC;refine Qe HC ?_;refine Qj (g:=3) [12] HC ?_
    constructor
    refine ⟨fun u hu => ?_,?_⟩
    ·obtain ⟨p0,p1,p2,p3,p4,p5,p6,p7,p8,p9,p10,p11,pl⟩:=Qa.d12 (Qa.ext BPw hu);exact Qi
    refine Qh 13 ?_;go_wp2;have OA':=Q1 OA HC0;replace HC:=HC.alloc (.cells #[.string G.h,.int .i64 G.a.y,.int .i64 G.a.m,.bool G.a.s,.int .i64 G.a.d,.int .i64 G.b.y,.int .i64 G.b.m,.bool G.b.s,.int .i64 G.b.d,.slice F1 G.o.length m1,.slice F2 G.d.length m2,.slice FR S.length mR] 55);refine Qe HC ?_;refine Ql 14 ?_;go_wp2_with (at_builtin;refine wpList_append_own_at _ rfl _ _ 26 rfl vb1.heap.size 55 i0 (.agg #[.string ⟨#[]⟩,.int .i64 0,.int .i64 0,.bool false,.int .i64 0,.int .i64 0,.int .i64 0,.bool false,.int .i64 0,.slice none 0 0,.slice none 0 0,.slice none 0 0]) 12 152 Tryz.underlying26 hi hz0 hz1 hz2 rfl zD _ _ _ rfl (OA'.alloc _) ⟨wd.heap.size,0,none⟩ 1 1 (Qu ⟨G.h,G.a,G.b,G.o,G.d,S⟩ (.slice F1 G.o.length m1) (.slice F2 G.d.length m2) (.slice FR S.length mR)) rfl rfl (Ls _ _ _) (Br _ _ _ _ _ _ _ _ _ _) (by unfold maxLen;omega) Qb (by have:=hE.size;have:=XW.size;have:=HC0.size;simp;omega) ?_;intro o' w8 hown hgrow _ _)
    refine Qk ?_;refine Ql 15 ?_;go_wp2;refine Qk ?_;refine Qr ?_;have hsz6:=XW.size;have hszo:=hE.size;have hsx:=Qc.size X3;have hsz2:=h2.size;have E8 : Qc vb1 w8:=((hE.trans (XW.trans HC0)).alloc _).grown hgrow (fun q hq => (hO.lt q hq).1);have PN : Jm wd vb1.heap.size ⟨G.h,G.a,G.b,G.o,G.d,S⟩ (.slice F1 G.o.length m1) (.slice F2 G.d.length m2) (.slice FR S.length mR):=⟨Xe (Q1 S1w HC0) Qb,Jr.le D2 Qb,Xe (Q1 SR HC0) Qb⟩;have D8 : Wd w8 vb1.heap.size o' (k + 1) (fun i => (L ++ [Xs L.getLast? (l.getD k Qs)]).getD i Qs):=Qav he1 OA' (fun i hi => (hLo.out i hi).ext (XW.trans HC0)) (by rw [he2];exact PN) (by rw [he2];exact hown) hgrow
    go_wp2;exact ⟨⟨k + 1,_,Qb,by go_num,D8,J',E8⟩,zi⟩
   obtain ⟨k',hkk⟩ : ∃ j,k = j + 1:=⟨k - 1,Qb⟩;subst hkk;have hj1 : k' + 1 - 1 = k':=Qb;have hlt' : k' < l.length:=Qb;obtain ⟨b',off',hDD,hb',hc⟩:=(hD.ext (E.trans HE)) Qb;obtain ⟨hbb,hoo⟩ : b = b' ∧ off = off':=by simpa using hDD
   subst hbb;subst hoo;clear hDD;obtain ⟨e0,e1,e2,e3,e4,e5,e6,e7,e8,e9,e10,e11⟩:=Fw hc hlt';clear hc;have PK:=(hat.out k' hlt').ext (E.trans HE);obtain ⟨GK,hGK⟩:=Qf (l.getD k' Qs);rw [← hGK] at PK e0 e1 e2 e3 e4 e5 e6 e7 e8;replace hGK:=zh hGK;generalize vo k' = u1 at *;generalize vd k' = u2 at *;generalize vc k' = u3 at *;obtain ⟨t4,s4,e4,_⟩:=id PK.o;subst e4;obtain ⟨t5,s5,_,e5,_⟩:=id PK.d;subst e5;obtain ⟨t6,s6,e6,_⟩:=id PK.c;subst e6;have CB:=C2.ext X3;have Q6c:=Q6.ext X3;have PGc:=P1.ext X3;obtain ⟨q0,q1,ql⟩:=Qa.d2 Q6c;obtain ⟨p0,p1,p2,p3,p4,p5,p6,p7,p8,p9,p10,p11,pl⟩:=Qa.d12 BP3;have NBH:=fun w h1 h2 h3 => Bf A A' ca cb c GK G (.slice t4 GK.o.length s4) (.slice t5 GK.d.length s5) (.slice t6 GK.c.length s6) (.slice t1 G.o.length s1) (.slice t2 G.d.length s2) (.slice t3 G.c.length s3) w h1 hv h2 h3
   have hany : Hid ((L.getLast?.any fun q => !c.behV q (l.getD (k' + 1) Qs)) = !c.behV GK G):=by
    have h:=hJ.out.any Qb;rw [hj1,← hGK.out,← hG.out] at h;unfold Hid;rw [← hG.out];exact h
   have hlast : Hid (L.getLast?.elim (l.getD (k' + 1) Qs).o (·.c) = (L.getD k' Qs).c):=by
    have h:=hJ.out.last Qb;rw [hj1] at h;exact h
   have hcl:=hJ.out.cl k' Qb;go_upto_region 10 with fail
   cases hbh : c.behV GK G
   ·rw [hbh] at NBH;have hb1 : (L.getLast?.any fun q => !c.behV q (l.getD (k' + 1) Qs)) = true := by rw [hany.out, hbh]; rfl
    obtain rfl:=hJ.out.follow hlt hb1;clear hany hlast hbh hb1 hJ hat hside;have n1:=fun u : XW _ => NBH _ (CB.ext u.e) (PK.ext u.e) (PGc.ext u.e)
    refine Zj w3 ?_;intro w5 h5;clear n1;obtain ⟨hcbw5,hfbw5,hzbw5,hzw5⟩:=Zi w3 h5;go_wp2;go_ret2;exact ⟨_,rfl,(E.trans HE).trans h5,G0 _⟩
   ·rw [hbh] at NBH;have hq : Hid ((L.getLast?.any fun q => !c.behV q (l.getD (k' + 1) Qs)) = false) := by unfold Hid; rw [hany.out, hbh]; rfl
    clear hany hbh;have n1:=fun u : XW _ => NBH _ (CB.ext u.e) (PK.ext u.e) (PGc.ext u.e)
    refine Zj w3 ?_;intro w5 h5;clear n1;obtain ⟨hcbw5,hfbw5,hzbw5,hzw5⟩:=Zi w3 h5;clear e0 e1 e2 e3 e4 e5 e6 e7 e8 e9 e10 e11 q0 q1 ql p0 p1 p2 p3 p4 p5 p6 p7 p8 p9 p10 p11 pl NBH;have hO5:=Q1 hO (X3.trans h5);obtain ⟨gq,cq,hv1,hgq,_⟩:=Vu hO5 Qb;injection hv1 with hv2 _ hv3
    subst hv2;subst hv3
    have hcc : w5.cell? ⟨gq,k' * 12 + 11,none⟩ = some (rc k'):=by
     rw [World.ownsRow.cellAt hO5 (k' * 12 + 11) Qb,Vk (f:=fun i => Qu (L.getD i Qs) (ro i) (rd i) (rc i)) (sz:=12) (fun _ => rfl) (show k' < k' + 1 by omega) zD];rfl
    have LK:=Wi (Q1 (hLo.out k' Qb).c (X3.trans h5));generalize hrk : rc k' = vk at hcc LK;obtain ⟨t7,s7,e7,_⟩:=id LK;subst e7;generalize hOL : (L.getD k' Qs).c = OL at *;have NCK:=fun w h => Uy (.slice t7 OL.length s7) OL w h Qb
    go_upto_region 13 with (go_at_call 59;refine zc (NCK _ LK) ?_;rintro e w5' ⟨v1,rfl,hk5,SK⟩;obtain ⟨F7,m7,rfl⟩:=Z9 SK)
    have X5:=(X3.trans h5).trans hk5;have BP5:=(BP3.ext h5).ext hk5;clear NCK LK hcc hrk;have NB:=fun w h1 h2 => O8 (.slice F7 OL.length m7) (.slice t2 G.d.length s2) OL G.d w h1 h2 Qb
    have hsl : (Q4 OL G.d).1.length ≤ 64:=Fh _ _ Qb;obtain ⟨SV,hSV⟩:=Qf (Q4 OL G.d);rw [← hSV] at hsl;simp only [← hSV] at NB;replace hSV:=zh hSV;obtain ⟨S,se⟩:=SV
    simp only at NB hsl
    have BPc:=BP5;obtain ⟨p0,p1,p2,p3,p4,p5,p6,p7,p8,p9,p10,p11,pl⟩:=Qa.d12 BPc;have LA:=Wi SK;go_upto_region 14 with (go_at_call 61;refine zc (NB _ LA (P1.d.ext X5)) ?_;rintro e w6 ⟨vr,rfl,h6,SR⟩;obtain ⟨FR,mR,rfl⟩:=Z9 SR)
    clear NB LA p0 p1 p2 p3 p4 p5 p6 p7 p8 p9 p10 p11 pl;have hs2 : (Q4 (L.getLast?.elim (l.getD (k' + 1) Qs).o (·.c)) (l.getD (k' + 1) Qs).d) = (S,se):=by rw [hlast.out,← hG.out];exact hSV.out.symm
    by_cases es : se = 0;rotate_left
    ·have g0 : (se == 0) = false := zb es;have g0n : (se != 0) = true := by rw [bne, g0]; rfl
     obtain rfl:=hJ.out.sum hlt hq.out (by rw [hs2]) es;clear hs2 hSV es;go_wp2;go_ret2;exact ⟨_,rfl,(E.trans (hE.trans X5)).trans h6,G0 _⟩
    subst es;have J':=zh (hJ.out.step hlt hq.out (by rw [hs2]) (by rw [hs2];exact hsl));obtain ⟨he1,he2⟩:=En (x:=Xs L.getLast? (l.getD (k' + 1) Qs)) hJ.out.len;have hx : Xs L.getLast? (l.getD (k' + 1) Qs) = ⟨G.h,G.a,G.b,OL,G.d,S⟩:=by unfold Xs;rw [hs2,hlast.out,← hG.out]
    replace he2:=he2.trans hx;have XW:=(X5).trans h6;have BPw:=BPc.ext h6;have OA:=Q1 hO XW;have S1w:=Q1 SK h6;go_upto_region 16 with fail
    refine Qy 16 [14,15] (fun x => Qc w6 x) mixed rfl ?_;intro vz hvz;have HC:=hvz;refine Qj (g:=5) [0,1,2,3,4,5,6,7,8,9,11] HC ?_
    constructor
    refine ⟨fun u hu => ?_,?_⟩
    ·obtain ⟨p0,p1,p2,p3,p4,p5,p6,p7,p8,p9,p10,p11,pl⟩:=Qa.d12 (Qa.ext BPw hu);exact Qi
    refine Qh 10 ?_;go_wp2_with (go_at_call 62;refine zc (NT _ (P1.d.ext (XW.trans HC))) ?_;rintro e wd ⟨v2,rfl,hb,D2⟩;obtain ⟨F2,m2,rfl⟩:=Nl D2);have hzd:=HC.size;replace HC:=HC.trans hb;have HC0:=HC;refine Qe HC ?_;refine Qj (g:=3) [12] HC ?_
    constructor
    refine ⟨fun u hu => ?_,?_⟩
    ·obtain ⟨p0,p1,p2,p3,p4,p5,p6,p7,p8,p9,p10,p11,pl⟩:=Qa.d12 (Qa.ext BPw hu);exact Qi
    refine Qh 13 ?_;go_wp2;have OA':=Q1 OA HC0;replace HC:=HC.alloc (.cells #[.string G.h,.int .i64 G.a.y,.int .i64 G.a.m,.bool G.a.s,.int .i64 G.a.d,.int .i64 G.b.y,.int .i64 G.b.m,.bool G.b.s,.int .i64 G.b.d,.slice F7 OL.length m7,.slice F2 G.d.length m2,.slice FR S.length mR] 55);refine Qe HC ?_;refine Ql 14 ?_;go_wp2_with (at_builtin;refine wpList_append_own_at _ rfl _ _ 26 rfl vb1.heap.size 55 i0 (.agg #[.string ⟨#[]⟩,.int .i64 0,.int .i64 0,.bool false,.int .i64 0,.int .i64 0,.int .i64 0,.bool false,.int .i64 0,.slice none 0 0,.slice none 0 0,.slice none 0 0]) 12 152 Tryz.underlying26 hi hz0 hz1 hz2 rfl zD _ _ _ rfl (OA'.alloc _) ⟨wd.heap.size,0,none⟩ 1 1 (Qu ⟨G.h,G.a,G.b,OL,G.d,S⟩ (.slice F7 OL.length m7) (.slice F2 G.d.length m2) (.slice FR S.length mR)) rfl rfl (Ls _ _ _) (Br _ _ _ _ _ _ _ _ _ _) (by unfold maxLen;omega) Qb (by have:=hE.size;have:=XW.size;have:=HC0.size;simp;omega) ?_;intro o' w8 hown hgrow _ _)
    refine Qk ?_;refine Ql 15 ?_;go_wp2;refine Qk ?_;refine Qr ?_;have hsz6:=XW.size;have hszo:=hE.size;have hsx:=Qc.size X5;have hsz2:=h2.size;have E8 : Qc vb1 w8:=((hE.trans (XW.trans HC0)).alloc _).grown hgrow (fun q hq => (hO.lt q hq).1);have PN : Jm wd vb1.heap.size ⟨G.h,G.a,G.b,OL,G.d,S⟩ (.slice F7 OL.length m7) (.slice F2 G.d.length m2) (.slice FR S.length mR):=⟨Xe (Q1 S1w HC0) Qb,Jr.le D2 Qb,Xe (Q1 SR HC0) Qb⟩;have D8 : Wd w8 vb1.heap.size o' ((k' + 1) + 1) (fun i => (L ++ [Xs L.getLast? (l.getD (k' + 1) Qs)]).getD i Qs):=Qav he1 OA' (fun i hi => (hLo.out i hi).ext (XW.trans HC0)) (by rw [he2];exact PN) (by rw [he2];exact hown) hgrow
    go_wp2;exact ⟨⟨(k' + 1) + 1,_,Qb,by go_num,D8,J',E8⟩,zi⟩
  ·obtain rfl : k = l.length := Qb;obtain rfl := hJ.out.done;have hL := hJ.out.len;clear hJ hat hside;go_wp2;go_ret2;refine ⟨_, rfl, E.trans hE, ?_⟩;have h : Wd wo vb1.heap.size (.slice FO l.length mO) L.length (fun i => L.getD i Qs) := by rw [hL]; exact ⟨ro, rd, rc, hO, hLo.out⟩
   exact Qj8 h
structure V3 (W : World) (ba : Nat) (A A' : OA) (ca cb : Nat) (c : Qd) (vl : Value) (l : List Pd) : Prop where
 b : Qa W ba 132 #[.slice A c.nk ca,.slice A' c.ny cb,vl,.slice none 0 0]
 C : Q3 W A ca A' cb c
 P : Jw W vl l
theorem V3.ext {W W' : World} {ba : Nat} {A A' : OA} {ca cb : Nat} {c : Qd} {vl : Value} {l : List Pd} (h : V3 W ba A A' ca cb c vl l) (x : Qc W W') : V3 W' ba A A' ca cb c vl l:=⟨h.b.ext x,h.C.ext x,h.P.ext x⟩
theorem Tz {W : World} {b : Nat} {t : TypeId} {v0 v1 v2 v3 v4 v5 v6 : Value} (h : Qa W b t #[v0,v1,v2,v3,v4,v5,v6]) (u0 u1 u2 u3 u4 u5 u6 : Value) : Qa (((((((W.setCell ⟨b,0,none⟩ u0).setCell ⟨b,1,none⟩ u1).setCell ⟨b,2,none⟩ u2).setCell ⟨b,3,none⟩ u3).setCell ⟨b,4,none⟩ u4).setCell ⟨b,5,none⟩ u5).setCell ⟨b,6,none⟩ u6) b t #[u0,u1,u2,u3,u4,u5,u6]:=by unfold Qa at h ⊢;simp [World.setCell,Array.getElem?_modify,h]
theorem Tn {w W : World} {b : Nat} (h : Qc w W) (hb : w.heap.size ≤ b) (u0 u1 u2 u3 u4 u5 u6 : Value) : Qc w (((((((W.setCell ⟨b,0,none⟩ u0).setCell ⟨b,1,none⟩ u1).setCell ⟨b,2,none⟩ u2).setCell ⟨b,3,none⟩ u3).setCell ⟨b,4,none⟩ u4).setCell ⟨b,5,none⟩ u5).setCell ⟨b,6,none⟩ u6) :=
 (((((((h.setCell (p:=⟨b,0,none⟩) hb u0).setCell (p:=⟨b,1,none⟩) hb u1).setCell (p:=⟨b,2,none⟩) hb u2).setCell (p:=⟨b,3,none⟩) hb u3).setCell (p:=⟨b,4,none⟩) hb u4).setCell (p:=⟨b,5,none⟩) hb u5).setCell (p:=⟨b,6,none⟩) hb u6)
def cutE (A : OA → Nat → OA → Nat → Nat → Nat → Act) (S : World → OA → Nat → OA → Nat → Nat → Nat → Prop) : Exit → Act → World → Prop:=fun e a' w' => e = .normal ∧ ∃ F1 m1 F2 m2 p1 p2,S w' F1 m1 F2 m2 p1 p2 ∧ a' = A F1 m1 F2 m2 p1 p2
theorem Qe3 {A : OA → Nat → OA → Nat → Nat → Nat → Act} {S : World → OA → Nat → OA → Nat → Nat → Nat → Prop} {w' : World} (F1 : OA) (m1 : Nat) (F2 : OA) (m2 p1 p2 : Nat) {a' : Act} (h : S w' F1 m1 F2 m2 p1 p2) (ha : a' = A F1 m1 F2 m2 p1 p2) : cutE A S .normal a' w':=⟨rfl,F1,m1,F2,m2,p1,p2,h,ha⟩
theorem Qmk {P : Program} {c : Code} {Q : Exit → Act → World → Prop} {a : Act} {w : World} {A : OA → Nat → OA → Nat → Nat → Nat → Act} (S : World → OA → Nat → OA → Nat → Nat → Nat → Prop) (h1 : c.wp P (cutE A S) a w) (h2 : ∀ F1 m1 F2 m2 p1 p2 w',S w' F1 m1 F2 m2 p1 p2 → Q .normal (A F1 m1 F2 m2 p1 p2) w') : c.wp P Q a w :=
 Code.wp_mono (fun e a' w' ⟨he,F1,m1,F2,m2,p1,p2,hs,ha⟩ => by subst he;subst ha;exact h2 F1 m1 F2 m2 p1 p2 w' hs) h1
theorem D3 (A A' : OA) (ca cb : Nat) (c : Qd) (l : List Pd) (vl : Value) (days : Int) (w : World) (hC : Q3 w A ca A' cb c) (hP : Jw w vl l) :
  Calls Tryz.prog 34 #[.agg #[.slice A c.nk ca,.slice A' c.ny cb],vl,.int .i64 days] w fun e w' => ∃ pv,e = .returned (.tuple #[pv,.int .i64 (c.audE l days)]) ∧ Qc w w' ∧ (c.audE l days = 0 → ∃ ba,pv = .pointer (some ⟨ba,0,none⟩) ∧ w.heap.size ≤ ba ∧ Qa w' ba 132 #[.slice A c.nk ca,.slice A' c.ny cb,vl,.slice none 0 0]):=by
 have NV:=fun w h1 h2 => Dr A A' ca cb c vl l w h1 h2
 obtain ⟨pe,hpe⟩:=Qf (c.archE l);simp only [← hpe] at NV;replace hpe:=zh hpe;obtain ⟨RE,hRE⟩:=Qf (c.audE l days);rw [← hRE];replace hRE:=zh hRE
 go_enter Tryz.func34,Tryz.ntmps34
 go_upto_region 1 with fail
 obtain ⟨v,b1,E,B1,hbr,hv,hb1⟩:=Ym w 25 #[.slice A c.nk ca,.slice A' c.ny cb];rw [← hv,← hb1];clear hv hb1;have C:=hC.ext E;clear hC;obtain ⟨k0,k1,kl⟩:=Qa.d2 B1;go_upto_region 2 with (go_at_call 58;refine zc (NV _ C (hP.ext E)) ?_;rintro e w1 ⟨rfl,hx⟩;replace E:=E.trans hx;replace C:=C.ext hx;replace B1:=B1.ext hx;clear hx;clear k0 k1 kl;obtain ⟨k0,k1⟩:=B1.c2;have kl:=B1.lt)
 obtain ⟨vb1,hv⟩:=Qf (w1.alloc (.cells #[.slice A c.nk ca,.slice A' c.ny cb] 130));rw [← hv];have hx : Qc w1 vb1:=by rw [hv];exact (Qc.refl _).alloc _
 have B6 : Qa vb1 w1.heap.size 130 #[.slice A c.nk ca,.slice A' c.ny cb]:=by rw [hv];exact Qa.new _ _ _
 clear hv;generalize w1.heap.size = bb1 at *;clear k0 k1 kl;replace E:=E.trans hx;replace C:=C.ext hx;replace B1:=B1.ext hx;clear hx;obtain ⟨k0,k1,kl⟩:=Qa.d2 B1;obtain ⟨q0,q1,ql⟩:=Qa.d2 B6;clear NV;by_cases e0 : pe = 0;rotate_left
 ·have g0 : (pe == 0) = false := zb e0;have g0n : (pe != 0) = true := by rw [bne, g0]; rfl
  obtain rfl : RE = pe:=by rw [hRE.out];unfold Qd.audE;rw [← hpe.out];exact if_pos e0
  clear hRE hpe;go_wp2;go_ret2;exact ⟨_,rfl,E,fun h => absurd h e0⟩
 subst e0;by_cases hd : days < 0 ∨ 400 < days
 ·obtain rfl : RE = 8 := by rw [hRE.out]; unfold Qd.audE; rw [← hpe.out, if_neg (by simp), if_pos hd]
  clear hRE hpe;by_cases h1 : days < 0
  ·have g1 : decide (days < 0) = true:=zt h1;clear hd;go_wp2;go_ret2;exact ⟨_,rfl,E,fun h => absurd h zD⟩
  ·have g1 : decide (days < 0) = false:=zf h1;have g2 : decide (400 < days) = true:=zt Qb;clear hd h1;go_wp2;go_ret2;exact ⟨_,rfl,E,fun h => absurd h zD⟩
 obtain rfl : RE = 0:=by rw [hRE.out];unfold Qd.audE;rw [← hpe.out,if_neg (by simp),if_neg hd]
 have g1 : decide (days < 0) = false:=zf Qb;have g2 : decide (400 < days) = false:=zf Qb;clear hd hRE hpe;obtain ⟨DL,cL,_,_,_,e1,_⟩:=id hP;subst e1;go_wp2;go_ret2;exact ⟨_,rfl,E.alloc _,_,rfl,E.size,Qa.new _ _ _⟩
theorem Cn (A A' : OA) (ca cb : Nat) (c : Qd) (l : List Pd) (vl : Value) (ba : Nat) (x : Rf) (W0 w : World) (x0 : Qc W0 w) (hA : V3 W0 ba A A' ca cb c vl l) (hi : x.1 < l.length) (hk : x.2 < (l.getD x.1 Qs).d.length) :
  Calls Tryz.prog 125 #[.pointer (some ⟨ba,0,none⟩),.agg #[.int .i64 (x.1 : Nat),.int .i64 (x.2 : Nat)]] w fun e w' => ∃ F m,e = .returned (.agg #[.int .i64 (Zz l x).on.y,.int .i64 (Zz l x).on.m,.bool (Zz l x).on.s,.int .i64 (Zz l x).on.d,.bool (Zz l x).i,.string (Zz l x).w,.slice F (Zz l x).l.length m]) ∧ Qc w w' ∧ Q9 W0 (.slice F (Zz l x).l.length m) (Zz l x).l:=by
 obtain ⟨D,cap,vo,vd,vc,e0,hD,hcap,hmax,_,hat⟩:=id hA.P;subst e0;obtain ⟨T,ct,vs,e1,hT,hct,hmt,_,hatT⟩:=id (hat x.1 hi).d
 have hll : ∃ F m,vs x.2 = .slice F (Zz l x).l.length m:=by
  obtain ⟨F,m,e,_⟩:=id (hatT x.2 hk);exact ⟨F,m,e⟩
 have hL : Q9 W0 (vs x.2) (Zz l x).l:=hatT x.2 hk;obtain ⟨F,m,hvs⟩:=hll;rw [hvs] at hL;obtain ⟨b,off,hDe,hb,hc⟩:=hD Qb;subst hDe;obtain ⟨b',off',hTe,hb',hc'⟩:=hT Qb;subst hTe
 have c10 : W0.cell? ⟨b,off + x.1 * 12 + 10,none⟩ = some (.slice (some ⟨b',off',none⟩) (l.getD x.1 Qs).d.length ct):=by
  have:=hc x.1 10 (vd x.1) hi rfl;rw [e1] at this;exact this
 have d0 : W0.cell? ⟨b',off' + x.2 * 7,none⟩ = some (.int .i64 (Zz l x).on.y):=by simpa [Zh,Zz] using hc' x.2 0 _ hk rfl
 have d1 : W0.cell? ⟨b',off' + x.2 * 7 + 1,none⟩ = some (.int .i64 (Zz l x).on.m):=by simpa [Zh,Zz] using hc' x.2 1 _ hk rfl
 have d2 : W0.cell? ⟨b',off' + x.2 * 7 + 2,none⟩ = some (.bool (Zz l x).on.s):=by simpa [Zh,Zz] using hc' x.2 2 _ hk rfl
 have d3 : W0.cell? ⟨b',off' + x.2 * 7 + 3,none⟩ = some (.int .i64 (Zz l x).on.d):=by simpa [Zh,Zz] using hc' x.2 3 _ hk rfl
 have d4 : W0.cell? ⟨b',off' + x.2 * 7 + 4,none⟩ = some (.bool (Zz l x).i):=by simpa [Zh,Zz] using hc' x.2 4 _ hk rfl
 have d5 : W0.cell? ⟨b',off' + x.2 * 7 + 5,none⟩ = some (.string (Zz l x).w):=by simpa [Zh,Zz] using hc' x.2 5 _ hk rfl
 have d6 : W0.cell? ⟨b',off' + x.2 * 7 + 6,none⟩ = some (.slice F (Zz l x).l.length m):=by
  have:=hc' x.2 6 (vs x.2) hk rfl;rw [hvs] at this;exact this
 clear hc hc' hD hT hat hatT hvs e1 hcap hct;have hA1:=hA.b;clear hA;generalize Zz l x = G at *;generalize (l.getD x.1 Qs).d.length = nd at *;generalize l.length = nl at *;obtain ⟨x1,x2⟩:=x
 simp only at *
 go_enter Tryz.func125,Tryz.ntmps125
 go_upto_region 1 with fail
 obtain ⟨v,b1,b2,E,B1,B4,hbr1,hbr,hn21,hv,hb1,hb2⟩:=J1 w 33 #[.int .i64 (x1 : Nat),.int .i64 (x2 : Nat)] 57 #[.int .i64 0,.int .i64 0,.bool false,.int .i64 0,.bool false,.string ⟨#[]⟩,.slice none 0 0];rw [← hv,← hb2,← hb1];clear hv hb1 hb2;have E0:=x0.trans E;go_upto_region 1 with fail
 refine Qy 14 [13] (fun x => Qc v x) mixed rfl ?_;intro vz hvz;have HC:=hvz;refine Qj (g:=1) [0,1,2,3,4,5,6,7,8,9,10,11,12] HC ?_
 constructor
 refine ⟨fun u hu => ?_,?_⟩
 ·obtain ⟨k0,k1,kl⟩:=Qa.d2 (Qa.ext B1 hu);obtain ⟨a0,a1,a2,a3,al⟩:=Qa.d4 (Qa.ext hA1 (E0.trans hu));have r10:=((E0.trans hu).cell (p:=⟨b,off + x1 * 12 + 10,none⟩) hb).trans c10;have hbu:=Nat.lt_of_lt_of_le hb (E0.trans hu).size;have hbu':=Nat.lt_of_lt_of_le hb' (E0.trans hu).size;have q0:=((E0.trans hu).cell (p:=⟨b',off' + x2 * 7,none⟩) hb').trans d0;have q1:=((E0.trans hu).cell (p:=⟨b',off' + x2 * 7 + 1,none⟩) hb').trans d1;have q2:=((E0.trans hu).cell (p:=⟨b',off' + x2 * 7 + 2,none⟩) hb').trans d2;have q3:=((E0.trans hu).cell (p:=⟨b',off' + x2 * 7 + 3,none⟩) hb').trans d3;have q4:=((E0.trans hu).cell (p:=⟨b',off' + x2 * 7 + 4,none⟩) hb').trans d4
  have q5:=((E0.trans hu).cell (p:=⟨b',off' + x2 * 7 + 5,none⟩) hb').trans d5;have q6:=((E0.trans hu).cell (p:=⟨b',off' + x2 * 7 + 6,none⟩) hb').trans d6;exact Qi
 refine Ql 13 ?_;have Hs:=Qa.ext B4 HC;obtain ⟨z0,z1,z2,z3,z4,z5,z6,y0,y1,y2,y3,y4,y5,y6,yl⟩:=Qa.e7 Hs;go_wp2;have HX:=Tz Hs (.int .i64 G.on.y) (.int .i64 G.on.m) (.bool G.on.s) (.int .i64 G.on.d) (.bool G.i) (.string G.w) (.slice F G.l.length m);have EX:=Tn (E.trans HC) hbr (.int .i64 G.on.y) (.int .i64 G.on.m) (.bool G.on.s) (.int .i64 G.on.d) (.bool G.i) (.string G.w) (.slice F G.l.length m);clear Hs z0 z1 z2 z3 z4 z5 z6 y0 y1 y2 y3 y4 y5 y6 yl;generalize World.setCell _ _ _ = wq at *;refine Qk ?_;refine Qr ?_;obtain ⟨y0,y1,y2,y3,y4,y5,y6,yl⟩:=Qa.d7 HX;go_wp2;refine bodyPost_ret (v:=.agg #[.int .i64 G.on.y,.int .i64 G.on.m,.bool G.on.s,.int .i64 G.on.d,.bool G.i,.string G.w,.slice F G.l.length m]) (by simp [results,Tryz.results125,go_sem,y0,y1,y2,y3,y4,y5,y6]) rfl ⟨F,m,rfl,EX,hL⟩
set_option maxHeartbeats 20000000 in
theorem Qim (A A' : OA) (ca cb : Nat) (c : Qd) (l : List Pd) (vl : Value) (ba : Nat) (days : Int) (x y : Rf) (W0 w : World) (x0 : Qc W0 w) (hA : V3 W0 ba A A' ca cb c vl l) (hv : c.valid = true) (hx1 : x.1 < l.length) (hx2 : x.2 < (l.getD x.1 Qs).d.length) (hy1 : y.1 < l.length) (hy2 : y.2 < (l.getD y.1 Qs).d.length) :
  Calls Tryz.prog 79 #[.pointer (some ⟨ba,0,none⟩),.agg #[.int .i64 (x.1 : Nat),.int .i64 (x.2 : Nat)],.agg #[.int .i64 (y.1 : Nat),.int .i64 (y.2 : Nat)],.int .i64 days] w fun e w' => e = .returned (.bool (c.mayB l days x y)) ∧ Qc w w':=by
 have N1:=fun w h => Cn A A' ca cb c l vl ba x W0 w h hA hx1 hx2
 have N2:=fun w h => Cn A A' ca cb c l vl ba y W0 w h hA hy1 hy2
 have ND:=fun d w h => Yw A A' ca cb c d w h
 have bX:=S0 hv (Zz l x).on;have bY:=S0 hv (Zz l y).on;obtain ⟨D,cap,vo,vd,vc,e0,hD,hcap,hmax,_,hat⟩:=id hA.P;subst e0;obtain ⟨b,off,hDe,hb,hc⟩:=hD Qb;subst hDe;have c1 : W0.cell? ⟨b,off + x.1 * 12,none⟩ = some (.string (l.getD x.1 Qs).h):=by simpa [Qu] using hc x.1 0 _ hx1 rfl
 have c2 : W0.cell? ⟨b,off + y.1 * 12,none⟩ = some (.string (l.getD y.1 Qs).h):=by simpa [Qu] using hc y.1 0 _ hy1 rfl
 clear hc hD hat hcap;obtain ⟨RB,hRB⟩:=Qf (c.mayB l days x y);rw [← hRB];unfold Qd.mayB at hRB;generalize hX : Zz l x = GX at *;generalize hY : Zz l y = GY at *;clear hX hY;generalize (l.getD x.1 Qs).h = px at *;generalize (l.getD y.1 Qs).h = py at *;generalize l.length = nl at *;obtain ⟨x1,x2⟩:=x;obtain ⟨y1,y2⟩:=y
 simp only at *
 replace hRB:=zh hRB;have hA1:=hA.b
 go_enter Tryz.func79,Tryz.ntmps79
 go_upto_region 1 with fail
 obtain ⟨v,b1,b2,E,B1,B2,hbr1,hbr,hn21,hv,hb1,hb2⟩:=J1 w 33 #[.int .i64 (x1 : Nat),.int .i64 (x2 : Nat)] 33 #[.int .i64 (y1 : Nat),.int .i64 (y2 : Nat)];rw [← hv,← hb2,← hb1];clear hv hb1 hb2;have E0:=x0.trans E;have HA1:=hA1.ext E0;go_upto_region 1 with fail
 apply Qmk (S:=fun w' F1 m1 F2 m2 p1 p2 => Qc v w' ∧ Qa w' p1 57 #[.int .i64 GX.on.y,.int .i64 GX.on.m,.bool GX.on.s,.int .i64 GX.on.d,.bool GX.i,.string GX.w,.slice F1 GX.l.length m1] ∧ Qa w' p2 57 #[.int .i64 GY.on.y,.int .i64 GY.on.m,.bool GY.on.s,.int .i64 GY.on.d,.bool GY.i,.string GY.w,.slice F2 GY.l.length m2] ∧ Q9 W0 (.slice F1 GX.l.length m1) GX.l ∧ Q9 W0 (.slice F2 GY.l.length m2) GY.l)
 ·refine Qy 10 [8,9] (fun x => Qc v x) mixed rfl ?_;intro vz hvz;have HC:=hvz;have mz0:=trivial
  all_goals try
   (clear mz0
    refine Qj (g:=6) [0,1,3,4] HC ?_
    constructor
    refine ⟨fun u hu => ?_,?_⟩
    ·obtain ⟨k0,k1,kl⟩:=Qa.d2 (Qa.ext B1 hu);obtain ⟨l0,l1,ll⟩:=Qa.d2 (Qa.ext B2 hu);exact Qi
    have mz1:=trivial)
  all_goals try
   (clear mz1
    refine Ug 2 6 7 ?_ ?_ ?_
    focus
     go_wp2_with (go_at_call 125;refine zc (N1 _ (E0.trans HC)) ?_;rintro e wc ⟨F1,m1,rfl,hj,L1⟩);replace HC:=HC.trans hj;try replace H10:=H10.ext hj
     try replace H11:=H11.ext hj
     clear hj;have mz2:=trivial;refine Qe HC ?_
    rotate_left
    focus
     go_wp2;obtain ⟨p1,wb,hbq,hwb,H10,HC',hx,gp1⟩:=Qm HC 57 #[.int .i64 0,.int .i64 0,.bool false,.int .i64 0,.bool false,.string ⟨#[]⟩,.slice none 0 0];rw [← hbq,← hwb];try have ne : p2 < p1:=by have:=H11.lt;omega
     replace HC:=HC';try replace H11:=H11.ext hx
     clear hbq hwb hx HC';have mz3:=trivial;refine Qe HC ?_
    rotate_left
    focus
     go_wp2;obtain ⟨p2,wb,hbq,hwb,H11,HC',hx,gp2⟩:=Qm HC 57 #[.int .i64 0,.int .i64 0,.bool false,.int .i64 0,.bool false,.string ⟨#[]⟩,.slice none 0 0];rw [← hbq,← hwb];try have ne : p1 < p2:=by have:=H10.lt;omega
     replace HC:=HC';try replace H10:=H10.ext hx
     clear hbq hwb hx HC';have mz4:=trivial;refine Qe HC ?_
    rotate_left)
  all_goals try
   (clear mz2
    refine Ug 5 6 7 ?_ ?_ ?_
    focus
     go_wp2_with (go_at_call 125;refine zc (N2 _ (E0.trans HC)) ?_;rintro e wc ⟨F2,m2,rfl,hj,L2⟩);replace HC:=HC.trans hj;try replace H10:=H10.ext hj
     try replace H11:=H11.ext hj
     clear hj;have mz5:=trivial;refine Qe HC ?_
    rotate_left
    focus
     go_wp2;obtain ⟨p1,wb,hbq,hwb,H10,HC',hx,gp1⟩:=Qm HC 57 #[.int .i64 0,.int .i64 0,.bool false,.int .i64 0,.bool false,.string ⟨#[]⟩,.slice none 0 0];rw [← hbq,← hwb];try have ne : p2 < p1:=by have:=H11.lt;omega
     replace HC:=HC';try replace H11:=H11.ext hx
     clear hbq hwb hx HC';have mz6:=trivial;refine Qe HC ?_
    rotate_left
    focus
     go_wp2;obtain ⟨p2,wb,hbq,hwb,H11,HC',hx,gp2⟩:=Qm HC 57 #[.int .i64 0,.int .i64 0,.bool false,.int .i64 0,.bool false,.string ⟨#[]⟩,.slice none 0 0];rw [← hbq,← hwb];try have ne : p1 < p2:=by have:=H10.lt;omega
     replace HC:=HC';try replace H10:=H10.ext hx
     clear hbq hwb hx HC';have mz7:=trivial;refine Qe HC ?_
    rotate_left)
  all_goals try
   (clear mz3
    refine Zd 2 7 ?_ ?_
    focus
     go_wp2_with (go_at_call 125;refine zc (N1 _ (E0.trans HC)) ?_;rintro e wc ⟨F1,m1,rfl,hj,L1⟩);replace HC:=HC.trans hj;try replace H10:=H10.ext hj
     try replace H11:=H11.ext hj
     clear hj;have mz6:=trivial;refine Qe HC ?_
    rotate_left
    focus
     go_wp2;obtain ⟨p2,wb,hbq,hwb,H11,HC',hx,gp2⟩:=Qm HC 57 #[.int .i64 0,.int .i64 0,.bool false,.int .i64 0,.bool false,.string ⟨#[]⟩,.slice none 0 0];rw [← hbq,← hwb];try have ne : p1 < p2:=by have:=H10.lt;omega
     replace HC:=HC';try replace H10:=H10.ext hx
     clear hbq hwb hx HC';have mz8:=trivial;refine Qe HC ?_
    rotate_left)
  all_goals try
   (clear mz4
    refine Zd 2 6 ?_ ?_
    focus
     go_wp2_with (go_at_call 125;refine zc (N1 _ (E0.trans HC)) ?_;rintro e wc ⟨F1,m1,rfl,hj,L1⟩);replace HC:=HC.trans hj;try replace H10:=H10.ext hj
     try replace H11:=H11.ext hj
     clear hj;have mz7:=trivial;refine Qe HC ?_
    rotate_left
    focus
     go_wp2;obtain ⟨p1,wb,hbq,hwb,H10,HC',hx,gp1⟩:=Qm HC 57 #[.int .i64 0,.int .i64 0,.bool false,.int .i64 0,.bool false,.string ⟨#[]⟩,.slice none 0 0];rw [← hbq,← hwb];try have ne : p2 < p1:=by have:=H11.lt;omega
     replace HC:=HC';try replace H11:=H11.ext hx
     clear hbq hwb hx HC';have mz8:=trivial;refine Qe HC ?_
    rotate_left)
  all_goals try
   (clear mz5
    refine Zd 6 7 ?_ ?_
    focus
     go_wp2;obtain ⟨p1,wb,hbq,hwb,H10,HC',hx,gp1⟩:=Qm HC 57 #[.int .i64 0,.int .i64 0,.bool false,.int .i64 0,.bool false,.string ⟨#[]⟩,.slice none 0 0];rw [← hbq,← hwb];try have ne : p2 < p1:=by have:=H11.lt;omega
     replace HC:=HC';try replace H11:=H11.ext hx
     clear hbq hwb hx HC';have mz9:=trivial;refine Qe HC ?_
    rotate_left
    focus
     go_wp2;obtain ⟨p2,wb,hbq,hwb,H11,HC',hx,gp2⟩:=Qm HC 57 #[.int .i64 0,.int .i64 0,.bool false,.int .i64 0,.bool false,.string ⟨#[]⟩,.slice none 0 0];rw [← hbq,← hwb];try have ne : p1 < p2:=by have:=H10.lt;omega
     replace HC:=HC';try replace H10:=H10.ext hx
     clear hbq hwb hx HC';have mz10:=trivial;refine Qe HC ?_
    rotate_left)
  all_goals try
   (clear mz6
    refine Zd 5 7 ?_ ?_
    focus
     go_wp2_with (go_at_call 125;refine zc (N2 _ (E0.trans HC)) ?_;rintro e wc ⟨F2,m2,rfl,hj,L2⟩);replace HC:=HC.trans hj;try replace H10:=H10.ext hj
     try replace H11:=H11.ext hj
     clear hj;have mz9:=trivial;refine Qe HC ?_
    rotate_left
    focus
     go_wp2;obtain ⟨p2,wb,hbq,hwb,H11,HC',hx,gp2⟩:=Qm HC 57 #[.int .i64 0,.int .i64 0,.bool false,.int .i64 0,.bool false,.string ⟨#[]⟩,.slice none 0 0];rw [← hbq,← hwb];try have ne : p1 < p2:=by have:=H10.lt;omega
     replace HC:=HC';try replace H10:=H10.ext hx
     clear hbq hwb hx HC';have mz11:=trivial;refine Qe HC ?_
    rotate_left)
  all_goals try
   (clear mz7
    refine Zd 5 6 ?_ ?_
    focus
     go_wp2_with (go_at_call 125;refine zc (N2 _ (E0.trans HC)) ?_;rintro e wc ⟨F2,m2,rfl,hj,L2⟩);replace HC:=HC.trans hj;try replace H10:=H10.ext hj
     try replace H11:=H11.ext hj
     clear hj;have mz10:=trivial;refine Qe HC ?_
    rotate_left
    focus
     go_wp2;obtain ⟨p1,wb,hbq,hwb,H10,HC',hx,gp1⟩:=Qm HC 57 #[.int .i64 0,.int .i64 0,.bool false,.int .i64 0,.bool false,.string ⟨#[]⟩,.slice none 0 0];rw [← hbq,← hwb];try have ne : p2 < p1:=by have:=H11.lt;omega
     replace HC:=HC';try replace H11:=H11.ext hx
     clear hbq hwb hx HC';have mz11:=trivial;refine Qe HC ?_
    rotate_left)
  all_goals try
   (clear mz8
    refine Qh 2 ?_;go_wp2_with (go_at_call 125;refine zc (N1 _ (E0.trans HC)) ?_;rintro e wc ⟨F1,m1,rfl,hj,L1⟩);replace HC:=HC.trans hj;try replace H10:=H10.ext hj
    try replace H11:=H11.ext hj
    clear hj;have mz11:=trivial;refine Qe HC ?_)
  all_goals try
   (clear mz9
    refine Qh 7 ?_;go_wp2;obtain ⟨p2,wb,hbq,hwb,H11,HC',hx,gp2⟩:=Qm HC 57 #[.int .i64 0,.int .i64 0,.bool false,.int .i64 0,.bool false,.string ⟨#[]⟩,.slice none 0 0];rw [← hbq,← hwb];try have ne : p1 < p2:=by have:=H10.lt;omega
    replace HC:=HC';try replace H10:=H10.ext hx
    clear hbq hwb hx HC';have mz12:=trivial;refine Qe HC ?_)
  all_goals try
   (clear mz10
    refine Qh 6 ?_;go_wp2;obtain ⟨p1,wb,hbq,hwb,H10,HC',hx,gp1⟩:=Qm HC 57 #[.int .i64 0,.int .i64 0,.bool false,.int .i64 0,.bool false,.string ⟨#[]⟩,.slice none 0 0];rw [← hbq,← hwb];try have ne : p2 < p1:=by have:=H11.lt;omega
    replace HC:=HC';try replace H11:=H11.ext hx
    clear hbq hwb hx HC';have mz12:=trivial;refine Qe HC ?_)
  all_goals try
   (clear mz11
    refine Qh 5 ?_;go_wp2_with (go_at_call 125;refine zc (N2 _ (E0.trans HC)) ?_;rintro e wc ⟨F2,m2,rfl,hj,L2⟩);replace HC:=HC.trans hj;try replace H10:=H10.ext hj
    try replace H11:=H11.ext hj
    clear hj;have mz12:=trivial;refine Qe HC ?_)
  all_goals try
   (clear mz12
    refine Ql 8 ?_;obtain ⟨z0,z1,z2,z3,z4,z5,z6,u0,u1,u2,u3,u4,u5,u6,lx⟩:=Qa.e7 H10;have hgp : v.heap.size ≤ p1:=gp1;go_wp2;have Hn:=Tz H10 (.int .i64 GX.on.y) (.int .i64 GX.on.m) (.bool GX.on.s) (.int .i64 GX.on.d) (.bool GX.i) (.string GX.w) (.slice F1 GX.l.length m1);have On:=Qaj H11 (show p2 ≠ p1 by omega) (.int .i64 GX.on.y) (.int .i64 GX.on.m) (.bool GX.on.s) (.int .i64 GX.on.d) (.bool GX.i) (.string GX.w) (.slice F1 GX.l.length m1);replace HC:=Tn HC hgp (.int .i64 GX.on.y) (.int .i64 GX.on.m) (.bool GX.on.s) (.int .i64 GX.on.d) (.bool GX.i) (.string GX.w) (.slice F1 GX.l.length m1);clear H10 z0 z1 z2 z3 z4 z5 z6 u0 u1 u2 u3 u4 u5 u6 lx hgp;have H10:=Hn
    replace H11:=On;clear Hn On;generalize World.setCell _ _ _ = wq at *;have mz13:=trivial;refine Qk ?_)
  all_goals try
   (clear mz13
    refine Ql 9 ?_;obtain ⟨z0,z1,z2,z3,z4,z5,z6,u0,u1,u2,u3,u4,u5,u6,lx⟩:=Qa.e7 H11;have hgp : v.heap.size ≤ p2:=gp2;go_wp2;have Hn:=Tz H11 (.int .i64 GY.on.y) (.int .i64 GY.on.m) (.bool GY.on.s) (.int .i64 GY.on.d) (.bool GY.i) (.string GY.w) (.slice F2 GY.l.length m2);have On:=Qaj H10 (show p1 ≠ p2 by omega) (.int .i64 GY.on.y) (.int .i64 GY.on.m) (.bool GY.on.s) (.int .i64 GY.on.d) (.bool GY.i) (.string GY.w) (.slice F2 GY.l.length m2);replace HC:=Tn HC hgp (.int .i64 GY.on.y) (.int .i64 GY.on.m) (.bool GY.on.s) (.int .i64 GY.on.d) (.bool GY.i) (.string GY.w) (.slice F2 GY.l.length m2);clear H11 z0 z1 z2 z3 z4 z5 z6 u0 u1 u2 u3 u4 u5 u6 lx hgp;have H11:=Hn
    replace H10:=On;clear Hn On;generalize World.setCell _ _ _ = wq at *;have mz14:=trivial;refine Qk ?_)
  all_goals try
   (clear mz14
    refine Qr ?_;exact Qe3 F1 m1 F2 m2 p1 p2 ⟨HC,H10,H11,L1,L2⟩ rfl)
 rintro F1 m1 F2 m2 p1 p2 w1 ⟨hx,BX,BY,L1,L2⟩;replace E0:=E0.trans hx;replace E:=E.trans hx;replace B1:=B1.ext hx;replace B2:=B2.ext hx;replace HA1:=HA1.ext hx;have C:=hA.C.ext E0;have r1:=(E0.cell (p:=⟨b,off + x1 * 12,none⟩) hb).trans c1;have r2:=(E0.cell (p:=⟨b,off + y1 * 12,none⟩) hb).trans c2;have hbw:=Nat.lt_of_lt_of_le hb E0.size;clear hx N1 N2 c1 c2;obtain ⟨x0',x1',x2',x3',x4',x5',x6',xl⟩:=Qa.d7 BX;obtain ⟨y0',y1',y2',y3',y4',y5',y6',yl⟩:=Qa.d7 BY;obtain ⟨k0,k1,kl⟩:=Qa.d2 B1;obtain ⟨l0,l1,ll⟩:=Qa.d2 B2;obtain ⟨a0,a1,a2,a3,al⟩:=Qa.d4 HA1;have NE:=fun w h1 h2 => Hm (.slice F1 GX.l.length m1) (.slice F2 GY.l.length m2) GX.l GY.l w h1 h2
 go_upto_region 2 with fail
 by_cases g1 : GX.w = py;rotate_left
 ·obtain rfl : RB = false:=by
   rw [hRB.out];rw [zf g1];rfl
  have t1 : (GX.w.toList == py.toList) = false:=zb fun h => g1 (Fj h)
  have t1n : (GX.w.toList != py.toList) = true:=by rw [bne,t1];rfl
  clear g1;clear hRB;have n1:=fun u : XW _ => NE _ (L1.ext (E0.trans u.e)) (L2.ext (E0.trans u.e))
  refine Zj w1 ?_;intro w2 h2;clear n1;obtain ⟨hcbw2,hfbw2,hzbw2,hzw2⟩:=Zi w1 h2;go_wp2;go_ret;exact ⟨rfl,E.trans h2⟩
 have t1 : (GX.w.toList == py.toList) = true:=by rw [g1];exact beq_self_eq_true _
 have t1n : (GX.w.toList != py.toList) = false:=by rw [bne,t1];rfl
 replace g1:=zh g1;by_cases g2 : GY.w = px;rotate_left
 ·obtain rfl : RB = false:=by
   rw [hRB.out];rw [zf g2,Bool.and_false];rfl
  have t2 : (GY.w.toList == px.toList) = false:=zb fun h => g2 (Fj h)
  have t2n : (GY.w.toList != px.toList) = true:=by rw [bne,t2];rfl
  clear g2;clear hRB;have n1:=fun u : XW _ => NE _ (L1.ext (E0.trans u.e)) (L2.ext (E0.trans u.e))
  refine Zj w1 ?_;intro w2 h2;clear n1;obtain ⟨hcbw2,hfbw2,hzbw2,hzw2⟩:=Zi w1 h2;go_wp2;go_ret;exact ⟨rfl,E.trans h2⟩
 have t2 : (GY.w.toList == px.toList) = true:=by rw [g2];exact beq_self_eq_true _
 have t2n : (GY.w.toList != px.toList) = false:=by rw [bne,t2];rfl
 replace g2:=zh g2;by_cases g3 : GX.l = GY.l;rotate_left
 ·rw [zf g3] at NE
  obtain rfl : RB = false:=by
   rw [hRB.out];rw [zf g3,Bool.and_false];rfl
  clear g3;clear hRB;have n1:=fun u : XW _ => NE _ (L1.ext (E0.trans u.e)) (L2.ext (E0.trans u.e))
  refine Zj w1 ?_;intro w2 h2;clear n1;obtain ⟨hcbw2,hfbw2,hzbw2,hzw2⟩:=Zi w1 h2;go_wp2;go_ret;exact ⟨rfl,E.trans h2⟩
 rw [zt g3] at NE;replace g3:=zh g3;have n1:=fun u : XW _ => NE _ (L1.ext (E0.trans u.e)) (L2.ext (E0.trans u.e))
 refine Zj w1 ?_;intro w2 h2;clear n1;obtain ⟨hcbw2,hfbw2,hzbw2,hzw2⟩:=Zi w1 h2;clear NE t1 t1n t2 t2n r1 r2 hbw;replace E0:=E0.trans h2;replace E:=E.trans h2;replace BX:=BX.ext h2;replace BY:=BY.ext h2;replace HA1:=HA1.ext h2;replace C:=C.ext h2;clear x0' x1' x2' x3' x4' x5' x6' xl y0' y1' y2' y3' y4' y5' y6' yl k0 k1 kl l0 l1 ll a0 a1 a2 a3 al h2 L1 L2;obtain ⟨x0',x1',x2',x3',x4',x5',x6',xl⟩:=Qa.d7 BX;obtain ⟨y0',y1',y2',y3',y4',y5',y6',yl⟩:=Qa.d7 BY;obtain ⟨a0,a1,a2,a3,al⟩:=Qa.d4 HA1;have NX:=ND GX.on;have NY:=ND GY.on;clear ND
 have hres : Hid (RB = (decide (0 ≤ c.numV GY.on - c.numV GX.on) && decide (c.numV GY.on - c.numV GX.on ≤ days))):=by
  unfold Hid;rw [hRB.out,zt g1.out,zt g2.out,zt g3.out];rfl
 clear hRB;generalize c.numV GX.on = nx at *;generalize c.numV GY.on = ny at *;go_upto_region 4 with fail
 have n1:=fun u : XW _ => NX _ (C.ext u.e)
 have n2:=fun u : XW _ => NY _ (C.ext u.e)
 refine Zj w2 ?_;intro w3 h3;clear n1 n2;obtain ⟨_,_,_,_⟩:=Zi w2 h3;obtain ⟨d,hd⟩:=Qf (ny - nx);rw [← hd] at hres;by_cases q1 : 0 ≤ ny - nx
 ·by_cases q2 : ny - nx ≤ days
  ·have f1 : decide (0 ≤ ny - nx) = true:=zt q1;have f2 : decide (ny - nx ≤ days) = true:=zt q2;go_wp2;go_ret;exact ⟨by rw [hres.out,hd,f1,f2];rfl,E.trans h3⟩
  ·have f1 : decide (0 ≤ ny - nx) = true:=zt q1;have f2 : decide (ny - nx ≤ days) = false:=zf q2;go_wp2;go_ret;exact ⟨by rw [hres.out,hd,f1,f2];rfl,E.trans h3⟩
 ·have f1 : decide (0 ≤ ny - nx) = false:=zf q1;go_wp2;go_ret;exact ⟨by rw [hres.out,hd,f1];rfl,E.trans h3⟩
end
section
open Go Go.RowKit Go.Shelf
structure Qw (W : World) (t : TypeId) (A : OA) (n b : Nat) (g : Nat → Value) : Prop where
 a : 0 < n → A = some ⟨b,0,none⟩
 h : 0 < n → ∃ cs : Array Value,Qa W b t cs ∧ n ≤ cs.size ∧ ∀ k,k < n → cs[k]? = some (g k)
section
variable {W W' : World} {t t' : TypeId} {A A' : OA} {n n' b b' k : Nat} {g g' : Nat → Value} {cs : Array Value}
theorem Qw.cell (h : Qw W t A n b g) (hk : k < n) : W.cell? ⟨b,k,none⟩ = some (g k):=by
 obtain ⟨cs,h1,_,h3⟩:=h.h Qb;rw [h1.cell k,h3 k hk]
theorem Qw.lt (h : Qw W t A n b g) (hn : 0 < n) : b < W.heap.size:=by
 obtain ⟨cs,h1,_⟩:=h.h hn;exact h1.lt
theorem Qw.frozen (h : Qw W t A n b g) (hn : 0 < n) (k : Nat) : W.frozen? ⟨b,k,none⟩ = false:=by
 obtain ⟨cs,h1,_⟩:=h.h hn;exact h1.frozen k
theorem Qw.ext (h : Qw W t A n b g) (x : Qc W W') : Qw W' t A n b g:=⟨h.a,fun hn => by
 obtain ⟨cs,h1,h2⟩:=h.h hn;exact ⟨cs,h1.ext x,h2⟩⟩
theorem Qw.congr (h : Qw W t A n b g) (e : ∀ k,k < n → g k = g' k) : Qw W t A n b g':=⟨h.a,fun hn => by
 obtain ⟨cs,h1,h2,h3⟩:=h.h hn;exact ⟨cs,h1,h2,fun k hk => by rw [← e k hk];exact h3 k hk⟩⟩
theorem K6 (h : Qa W b t cs) (i : Nat) (u : Value) : Qa (W.setCell ⟨b,i,none⟩ u) b t (cs.setIfInBounds i u):=by unfold Qa at h ⊢;simp [World.setCell,Array.getElem?_modify,h]
theorem Wg (h : Qa W b t cs) (hne : b ≠ b') (j : Nat) (u : Value) : Qa (W.setCell ⟨b',j,none⟩ u) b t cs:=by unfold Qa at h ⊢;simp [World.setCell,Array.getElem?_modify,h,Ne.symm hne]
theorem Xd {cs' : Array Value} (h : Qa W b t cs) (h' : Qa W b' t' cs') (hne : t ≠ t') : b ≠ b':=fun e => by
 subst e;unfold Qa at h h';rw [h] at h';injection h' with h'
 injection h' with _ h2
 exact hne h2
theorem Qw.set (h : Qw W t A n b g) (hk : k < n) (u : Value) : Qw (W.setCell ⟨b,k,none⟩ u) t A n b (fun x => if x = k then u else g x):=⟨h.a,fun hn => by
 obtain ⟨cs,h1,h2,h3⟩:=h.h hn;refine ⟨_,K6 h1 k u,by simpa using h2,fun x hx => ?_⟩;have hs : k < cs.size:=Qb;by_cases e : x = k
 ·subst e;simp [Array.setIfInBounds,hs]
 ·simp [Ne.symm e,h3 x hx,e]⟩
theorem Qw.oth (h : Qw W t A n b g) (hne : 0 < n → b ≠ b') (j : Nat) (u : Value) : Qw (W.setCell ⟨b',j,none⟩ u) t A n b g:=⟨h.a,fun hn => by
 obtain ⟨cs,h1,h2⟩:=h.h hn;exact ⟨cs,Wg h1 (hne hn) j u,h2⟩⟩
theorem Qw.kept {row : Option Nat} (h : Qw W t A n b g) (hg : W.grownBy W' row) (hne : 0 < n → some b ≠ row) : Qw W' t A n b g:=⟨h.a,fun hn => by
 obtain ⟨cs,h1,h2⟩:=h.h hn;exact ⟨cs,h1.kept hg (hne hn),h2⟩⟩
theorem Qw.apart (h : Qw W t A n b g) (h' : Qa W b' t' cs) (hne : t ≠ t') (hn : 0 < n) : b ≠ b':=by
 obtain ⟨ds,h1,_⟩:=h.h hn;exact Xd h1 h' hne
theorem Qw.apart2 (h : Qw W t A n b g) (h' : Qw W t' A' n' b' g') (hne : t ≠ t') (hn : 0 < n) (hn' : 0 < n') : b ≠ b':=by
 obtain ⟨ds,h1,_⟩:=h.h hn;obtain ⟨es,h2,_⟩:=h'.h hn';exact Xd h1 h2 hne
theorem Rj {base : Nat} {v : Value} {xs : List Value} (h : W.ownsRow base t 1 v n xs) (hx : ∀ k,k < n → xs[k]? = some (g k)) : ∃ A cap b,v = .slice A n cap ∧ base ≤ b ∧ (0 < n → b < W.heap.size ∧ v.ownBlock = some b) ∧ Qw W t A n b g:=by
 rcases h.2 with ⟨rfl,rfl⟩ | ⟨q,cap,cur,rfl,h1,h2,h3,h4,h5,h6⟩
 ·exact ⟨none,0,base,rfl,Nat.le_refl _,fun h => absurd h Qb,fun h => absurd h Qb,fun h => absurd h Qb⟩
 ·refine ⟨_, cap, q, rfl, h1, fun _ => ⟨(Array.getElem?_eq_some_iff.1 h2).1, rfl⟩, fun _ => rfl, fun _ => ⟨cur, h2, by rw [h5]; omega, fun k hk => ?_⟩⟩;have := hx k hk;rw [← h6, Nat.mul_one, List.getElem?_take_of_lt hk] at this
  simpa using this
theorem Qdf (W : World) (t : TypeId) (n : Nat) (z : Value) : Qw (W.alloc (.cells (Array.replicate n z) t)) t (some ⟨W.heap.size,0,none⟩) n W.heap.size (fun _ => z) :=
 ⟨fun _ => rfl,fun _ => ⟨_,Qa.new _ _ _,by simp,fun k hk => by simp [hk]⟩⟩
end
end
end Go.Proofs.YtoflcheopfppoaaGreatDoor
