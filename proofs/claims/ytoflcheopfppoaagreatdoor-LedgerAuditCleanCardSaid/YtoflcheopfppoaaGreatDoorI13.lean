/- Walks of the program's functions and plain facts, packed; proved: the lemmas below; no conditions but those that each states. -/
import Derived.Test.YtoflcheopfppoaaGreatDoorI12
import Derived.Maps.OwnRows
import Derived.Maps.GroupsBeside
import Derived.Maps.Views
import Derived.Maps.RangeWalk
import Derived.Test.YtoflcheopfppoaaGreatDoorI2
import Derived.Test.YtoflcheopfppoaaGreatDoorI3
import Derived.Sort.Grow
import Derived.Sort.Statements
import Derived.Shelf.GgSortFunc.InsertionK
import Derived.Shelf.SlLaysF0
import Derived.Test.YtoflcheopfppoaaGreatDoorProg
import Derived.Shelf.SlSortCmp.WholeK
import Derived.Shelf.SlSortCmp.NoneTotal
import Derived.Test.YtoflcheopfppoaaGreatDoorI9
import Derived.Test.YtoflcheopfppoaaGreatDoorI1
set_option maxRecDepth 100000
set_option maxHeartbeats 4000000
namespace Go.Proofs.YtoflcheopfppoaaGreatDoor
section
open Go Go.RowKit Go.Shelf
attribute [local go_sem] Zx
theorem Ib {W : World} {b : Nat} {t : TypeId} {v : Value} (h : Qc W b t #[v]) (u : Value) : Qc (W.setCell ⟨b,0,none⟩ u) b t #[u]:=by
 have:=Ls h 0 u
 simpa using this
theorem Qew (A A' : Option Addr) (ca cb : Nat) (c : Qd) (l : List Pd) (vl : Value) (ba i : Nat) (v0 : Value) (L : List Z5) (W0 w : World) (hA : Y4 W0 w ba A A' ca cb c vl L) (hC0 : Zg W0 A ca A' cb c) (hP0 : Js W0 vl l) (hba : W0.heap.size ≤ ba) (hI : Xx w v0 (Yk l (Ql l i).h)) (hi : i < l.length) (hll : l.length ≤ 1000) (hL : L.length ≤ 100000) (ho : (l.getD i Qh).o.length ≤ 1000000) :
  Calls Tryz.prog 46 #[.pointer (some ⟨ba,0,none⟩),.int .i64 i,v0] w fun e w' => e = .returned (.tuple #[]) ∧ Y4 W0 w' ba A A' ca cb c vl (L ++ c.isA l i) ∧ FI ba w w':=by
 obtain ⟨D,cap,vo,vd,vc,rfl,hD,hcap,hmax,_,hat⟩:=id hP0;clear hcap hmax;obtain ⟨iv0,HA0⟩:=hA.box;have E0:=hA.e;obtain ⟨bp,off,rfl,hbp,hc⟩:=hD Qa;have PA:=hat i hi;obtain ⟨t1,s1,e1,_⟩:=id PA.o;obtain ⟨t2,s2,_,e2,_⟩:=id PA.d;obtain ⟨t3,s3,e3,_⟩:=id PA.c;obtain ⟨p,hp⟩:=Qf (l.getD i Qh);have c0 : W0.cell? ⟨bp,off + i * 12,none⟩ = some (.string p.h):=by rw [hp];simpa [Qq] using hc i 0 _ hi rfl
 have c1 : W0.cell? ⟨bp,off + i * 12 + 1,none⟩ = some (.int .i64 p.a.y):=by rw [hp];simpa [Qq] using hc i 1 _ hi rfl
 have c2 : W0.cell? ⟨bp,off + i * 12 + 2,none⟩ = some (.int .i64 p.a.m):=by rw [hp];simpa [Qq] using hc i 2 _ hi rfl
 have c3 : W0.cell? ⟨bp,off + i * 12 + 3,none⟩ = some (.bool p.a.s):=by rw [hp];simpa [Qq] using hc i 3 _ hi rfl
 have c4 : W0.cell? ⟨bp,off + i * 12 + 4,none⟩ = some (.int .i64 p.a.d):=by rw [hp];simpa [Qq] using hc i 4 _ hi rfl
 have c5 : W0.cell? ⟨bp,off + i * 12 + 5,none⟩ = some (.int .i64 p.b.y):=by rw [hp];simpa [Qq] using hc i 5 _ hi rfl
 have c6 : W0.cell? ⟨bp,off + i * 12 + 6,none⟩ = some (.int .i64 p.b.m):=by rw [hp];simpa [Qq] using hc i 6 _ hi rfl
 have c7 : W0.cell? ⟨bp,off + i * 12 + 7,none⟩ = some (.bool p.b.s):=by rw [hp];simpa [Qq] using hc i 7 _ hi rfl
 have c8 : W0.cell? ⟨bp,off + i * 12 + 8,none⟩ = some (.int .i64 p.b.d):=by rw [hp];simpa [Qq] using hc i 8 _ hi rfl
 obtain ⟨u0,u1,u2,u3,u4,u5,u6,u7,u8,c9,c10,c11⟩:=Hy hc hi;clear u0 u1 u2 u3 u4 u5 u6 u7 u8;rw [← hp] at PA e1 e2 e3 ho;rw [e1] at c9;rw [e2] at c10;rw [e3] at c11;rw [e1,e2,e3] at PA;clear e1 e2 e3;replace hc:=Lib.hid hc;replace hat:=Lib.hid hat
 have hisA : Hid (c.isA l i = (if Kc p = true then [(1,i,0)] else []) ++ (if c.opB l i = true then [(2,i,0)] else []) ++ (if c.ovB l i = true then [(3,i,0)] else [])):=by
  rw [hp];exact Lib.hid rfl
 have hopB : Hid (c.opB l i = (decide (0 ≤ c.befV l i) && !decide ((l.getD (c.befV l i).toNat Qh).c = p.o))):=by
  rw [hp];exact Lib.hid rfl
 have hsB : Hid (Kc p = !(decide ((Qz p.o p.d).2 = 0) && decide ((Qz p.o p.d).1 = p.c))):=Lib.hid rfl
 have hovB : Hid (c.ovB l i = (Yk l (Ql l i).h).any fun k => decide (k < i) && decide (c.numV (Ql l k).a ≤ c.numV p.b) && decide (c.numV p.a ≤ c.numV (Ql l k).b)):=by
  rw [hp];exact Lib.hid rfl
 have hbef : Hid (c.befV l i = (Yk l (Ql l i).h).foldl (c.befS l i) (-1)):=Lib.hid rfl;have hbl:=Cl c l i l.length;rw [Ck] at hbl;obtain ⟨hs,hhs⟩:=Qf (Yk l (Ql l i).h);rw [← hhs] at hovB hbef hI;have hin : Hid (∀ k ∈ hs,k < l.length):=Lib.hid fun k hk => by rw [hhs] at hk;exact (S3.1 hk).1
 have hsl : hs.length ≤ 9223372036854775807:=by
  have : hs.length ≤ l.length:=by rw [hhs];unfold Yk;exact Nat.le_trans (List.length_filter_le _ _) (by simp)
  omega
 clear hhs;replace hp:=Lib.hid hp;obtain ⟨SS,hSS⟩:=Qf ((Qz p.o p.d).1);obtain ⟨se,hse⟩:=Qf ((Qz p.o p.d).2);rw [← hSS,← hse] at hsB;replace hSS:=Lib.hid hSS;replace hse:=Lib.hid hse
 go_enter Tryz.func46,Tryz.ntmps46
 go_upto_region 1 with (fail)
 obtain ⟨v,b1,b2,E,B1,B2,hbr1,hbr,hn21,hv,hb1,hb2⟩:=Yb w 96 #[.pointer (some ⟨ba,0,none⟩)] 3 #[.int .i64 i];rw [← hv,← hb2,← hb1];clear hv hb1 hb2;have X:=E0.trans E;have HA:=HA0.ext E;have nb1 : b1 ≠ ba:=by have:=HA0.lt;omega
 have nb2 : b2 ≠ ba:=by have:=HA0.lt;omega
 go_upto_region 1 with (fail)
 refine Q5 9 [8] (fun x => Qb v x) mixed rfl ?_;intro vz hvz;have HC:=hvz;refine Qr (g:=2) [0,1,2,3,4,5,6] HC ?_
 constructor
 refine ⟨fun u hu => ?_,?_⟩
 ·have m0:=(B1.ext hu).c1;have ml:=(B1.ext hu).lt;have n0:=(B2.ext hu).c1;have nl:=(B2.ext hu).lt;obtain ⟨a0,a1,a2,a3⟩:=(HA.ext hu).c4;have al:=(HA.ext hu).lt;have r0:=((X.trans hu).cell (p:=⟨bp,off + i * 12,none⟩) hbp).trans c0;have r1:=((X.trans hu).cell (p:=⟨bp,off + i * 12 + 1,none⟩) hbp).trans c1;have r2:=((X.trans hu).cell (p:=⟨bp,off + i * 12 + 2,none⟩) hbp).trans c2;have r3:=((X.trans hu).cell (p:=⟨bp,off + i * 12 + 3,none⟩) hbp).trans c3;have r4:=((X.trans hu).cell (p:=⟨bp,off + i * 12 + 4,none⟩) hbp).trans c4;have r5:=((X.trans hu).cell (p:=⟨bp,off + i * 12 + 5,none⟩) hbp).trans c5;have r6:=((X.trans hu).cell (p:=⟨bp,off + i * 12 + 6,none⟩) hbp).trans c6
  have r7:=((X.trans hu).cell (p:=⟨bp,off + i * 12 + 7,none⟩) hbp).trans c7;have r8:=((X.trans hu).cell (p:=⟨bp,off + i * 12 + 8,none⟩) hbp).trans c8;have r9:=((X.trans hu).cell (p:=⟨bp,off + i * 12 + 9,none⟩) hbp).trans c9;have r10:=((X.trans hu).cell (p:=⟨bp,off + i * 12 + 10,none⟩) hbp).trans c10;have r11:=((X.trans hu).cell (p:=⟨bp,off + i * 12 + 11,none⟩) hbp).trans c11;have hbu:=Nat.lt_of_lt_of_le hbp (X.trans hu).size;exact Qj
 refine Qk 7 ?_;go_wp2;obtain ⟨p1,wb,hbq,hwb,H10,HC',hx,gp1⟩:=Qp HC 55 #[.string ⟨#[]⟩,.int .i64 0,.int .i64 0,.bool false,.int .i64 0,.int .i64 0,.int .i64 0,.bool false,.int .i64 0,.slice none 0 0,.slice none 0 0,.slice none 0 0];rw [← hbq,← hwb];replace HC:=HC';clear hbq hwb hx HC';refine Qe HC ?_;refine Qn 8 ?_;obtain ⟨z0,z1,z2,z3,z4,z5,z6,z7,z8,z9,z10,z11⟩:=Qc.f12 H10;obtain ⟨u0,u1,u2,u3,u4,u5,u6,u7,u8,u9,u10,u11⟩:=Qc.c12 H10;have lx:=Qc.lt H10;go_wp2;have Hn:=Ia H10 (.string p.h) (.int .i64 p.a.y) (.int .i64 p.a.m) (.bool p.a.s) (.int .i64 p.a.d) (.int .i64 p.b.y) (.int .i64 p.b.m) (.bool p.b.s) (.int .i64 p.b.d) (.slice t1 p.o.length s1) (.slice t2 p.d.length s2) (.slice t3 p.c.length s3)
 replace HC:=Ee HC gp1 (.string p.h) (.int .i64 p.a.y) (.int .i64 p.a.m) (.bool p.a.s) (.int .i64 p.a.d) (.int .i64 p.b.y) (.int .i64 p.b.m) (.bool p.b.s) (.int .i64 p.b.d) (.slice t1 p.o.length s1) (.slice t2 p.d.length s2) (.slice t3 p.c.length s3);clear H10 z0 u0 z1 u1 z2 u2 z3 u3 z4 u4 z5 u5 z6 u6 z7 u7 z8 u8 z9 u9 z10 u10 z11 u11 lx;have H10:=Hn;clear Hn;generalize World.setCell _ _ _ = wq at *;refine Qm ?_;refine Qt ?_;have np1 : p1 ≠ ba:=by have:=HA0.lt;have:=E.size;omega
 have PX:=H10;have X1:=X.trans HC;have HI:=(hA.ext E).ext HC;replace B1:=B1.ext HC;replace B2:=B2.ext HC;replace hI:=(hI.ext E).ext HC;have FW : FI ba w _:=FI.exts (E.trans HC);clear H10 c0 c1 c2 c3 c4 c5 c6 c7 c8 c9 c10 c11 hvz gp1 HA HA0 hA;generalize hwq : wq = w1 at *;clear hwq HC;have m0:=B1.c1;have ml:=B1.lt;have n0:=B2.c1;have nl:=B2.lt;obtain ⟨y0,y1,y2,y3,y4,y5,y6,y7,y8,y9,y10,y11⟩:=Qc.c12 PX;have yl:=PX.lt;obtain ⟨iv,HA⟩:=HI.box;obtain ⟨a0,a1,a2,a3⟩:=HA.c4;have al:=HA.lt;have NBL:=Tq (.slice t1 p.o.length s1) (.slice t2 p.d.length s2) p.o p.d w1 (PA.o.ext X1) (PA.d.ext X1) ho;simp only [← hSS.out,← hse.out] at NBL;go_upto_region 3 with (go_at_call 61;(with_reducible refine Calls.mono NBL ?_);rintro e w2 ⟨vr,rfl,x2,SR⟩;obtain ⟨FR,mR,rfl⟩:=Jt SR)
 clear m0 ml n0 nl y0 y1 y2 y3 y4 y5 y6 y7 y8 y9 y10 y11 yl a0 a1 a2 a3 al HA;clear NBL;have SL : Zq w2 (.slice FR SS.length mR) SS:=Wz SR;have CL:=PA.c.ext (X1.trans x2);have X2:=X1.trans x2;replace HI:=HI.ext x2;replace B1:=B1.ext x2;replace B2:=B2.ext x2;replace PX:=PX.ext x2;replace hI:=hI.ext x2;replace FW:=FW.ext x2;clear x2 SR hSS hse;have m0:=B1.c1;have ml:=B1.lt;have n0:=B2.c1;have nl:=B2.lt;obtain ⟨y0,y1,y2,y3,y4,y5,y6,y7,y8,y9,y10,y11⟩:=Qc.c12 PX;have yl:=PX.lt;obtain ⟨iv,HA⟩:=HI.box;obtain ⟨a0,a1,a2,a3⟩:=HA.c4;have al:=HA.lt;obtain ⟨sX,hsX⟩:=Qf (Kc p);rw [← hsX] at hsB hisA;clear hsX;have NS:=fun w h1 h2 => St (.slice FR SS.length mR) (.slice t3 p.c.length s3) SS p.c w h1 h2
 go_cut [35] from 12 (fun b wx => b = .bool sX ∧ Qb w2 wx)
 case first =>
  by_cases e0 : se = 0;rotate_left
  ·have g0 : (se == 0) = false := beq_eq_false_iff_ne.2 e0;have g0n : (se != 0) = true := by rw [bne, g0]; rfl
   obtain rfl : sX = true:=by rw [hsB.out,decide_eq_false e0];rfl
   clear e0;go_wp2
   go_meet
   exact ⟨rfl,Qb.refl _⟩
  subst e0;by_cases e1 : SS = p.c
  ·obtain rfl : sX = false := by rw [hsB.out, decide_eq_true e1]; rfl
   rw [decide_eq_true e1] at NS;clear e1;go_wp2_with (go_at_call 74;(with_reducible refine zc (NS _ SL CL) ?_);rintro e w5 ⟨rfl,x5⟩)
   go_meet
   exact ⟨rfl,x5⟩
  ·obtain rfl : sX = true := by rw [hsB.out, decide_eq_false e1]; rfl
   rw [decide_eq_false e1] at NS;clear e1;go_wp2_with (go_at_call 74;(with_reducible refine zc (NS _ SL CL) ?_);rintro e w5 ⟨rfl,x5⟩)
   go_meet
   exact ⟨rfl,x5⟩
 case rest =>
 obtain ⟨rfl,x5⟩:=hcut;obtain ⟨w3,rfl⟩:=Qf wc;clear m0 ml n0 nl y0 y1 y2 y3 y4 y5 y6 y7 y8 y9 y10 y11 yl a0 a1 a2 a3 al HA;clear NS SL CL hsB;have X3:=X2.trans x5;replace HI:=HI.ext x5;replace B1:=B1.ext x5;replace B2:=B2.ext x5;replace PX:=PX.ext x5;replace hI:=hI.ext x5;replace FW:=FW.ext x5;clear x5;have m0:=B1.c1;have ml:=B1.lt;have n0:=B2.c1;have nl:=B2.lt;obtain ⟨y0,y1,y2,y3,y4,y5,y6,y7,y8,y9,y10,y11⟩:=Qc.c12 PX;have yl:=PX.lt;obtain ⟨iv,HA⟩:=HI.box;obtain ⟨a0,a1,a2,a3⟩:=HA.c4;have al:=HA.lt;have NT:=Fh A A' ca cb c (.slice (some ⟨bp,off,none⟩) l.length cap) ba w3.heap.size L 1 i 0 1 i 0 ⟨by omega,rfl,by omega⟩ W0 (w3.alloc (.cells #[.int .i64 1,.int .i64 i,.int .i64 0] 47)) (HI.ext ((Qb.refl _).alloc _)) hba (Qc.new _ _ _) Qa
 go_upto_if 35 with (fail)
 have HO:=HI
 go_cut [] from 12 (fun wx => Y4 W0 wx ba A A' ca cb c (.slice (some ⟨bp,off,none⟩) l.length cap) (L ++ (if sX = true then [(1,i,0)] else [])) ∧ FI ba w3 wx)
 case first =>
  cases sX
  ·clear NT;go_wp2
   go_meet
   exact ⟨by simpa using HI,FI.refl _ _⟩
  ·go_wp2_with (go_at_call 49;(with_reducible refine Calls.mono NT ?_);rintro e wn ⟨rfl,A4,F4⟩)
   go_meet
   exact ⟨A4,(FI.exts ((Qb.refl _).alloc _)).trans F4⟩
 case rest =>
 clear NT HI;obtain ⟨HI,F4⟩:=hcut;obtain ⟨w4,rfl⟩:=Qf wc;obtain ⟨iv,HA⟩:=HO.box;replace B1:=F4.held B1 nb1 (by decide);replace B2:=F4.held B2 nb2 (by decide);replace PX:=F4.held PX np1 (by decide);replace hI:=hI.fi F4 HA;replace FW:=FW.trans F4;clear HA HO iv;clear F4;clear m0 ml n0 nl y0 y1 y2 y3 y4 y5 y6 y7 y8 y9 y10 y11 yl a0 a1 a2 a3 al;have hl1 : (L ++ (if sX = true then [((1 : Nat),i,(0 : Nat))] else [])).length ≤ L.length + 1:=by rw [List.length_append];split <;> simp
 replace hisA : Hid (L ++ c.isA l i = (L ++ (if sX = true then [(1,i,0)] else [])) ++ ((if c.opB l i = true then [(2,i,0)] else []) ++ (if c.ovB l i = true then [(3,i,0)] else []))):=Lib.hid (by rw [hisA.out];simp only [List.append_assoc]);generalize L ++ (if sX = true then [((1 : Nat),i,(0 : Nat))] else []) = L1 at *;clear sX;obtain ⟨bv,hbv⟩:=Qf (c.befV l i);have m0:=B1.c1;have ml:=B1.lt;have n0:=B2.c1;have nl:=B2.lt;obtain ⟨y0,y1,y2,y3,y4,y5,y6,y7,y8,y9,y10,y11⟩:=Qc.c12 PX;have yl:=PX.lt;obtain ⟨iv,HA⟩:=HI.box;obtain ⟨a0,a1,a2,a3⟩:=HA.c4;have al:=HA.lt;have NB1:=Qe7 A A' ca cb c l (.slice (some ⟨bp,off,none⟩) l.length cap) iv ba i v0 hs w4 HA (hC0.ext HI.e) (hP0.ext HI.e) hI hin.out hi hsl
 rw [← hbef.out,← hbv] at NB1;rw [← hbv] at hopB hbl;obtain ⟨hbl1,hbl2⟩:=hbl;clear hbv hbef;go_upto_region 6 with (go_at_call 96;(with_reducible refine Calls.mono NB1 ?_);rintro e w5 ⟨rfl,x5⟩)
 clear m0 ml n0 nl y0 y1 y2 y3 y4 y5 y6 y7 y8 y9 y10 y11 yl a0 a1 a2 a3 al HA;clear NB1;replace HI:=HI.ext x5;replace B1:=B1.ext x5;replace B2:=B2.ext x5;replace PX:=PX.ext x5;replace hI:=hI.ext x5;replace FW:=FW.ext x5;clear x5;have m0:=B1.c1;have ml:=B1.lt;have n0:=B2.c1;have nl:=B2.lt;obtain ⟨y0,y1,y2,y3,y4,y5,y6,y7,y8,y9,y10,y11⟩:=Qc.c12 PX;have yl:=PX.lt;obtain ⟨iv,HA⟩:=HI.box;obtain ⟨a0,a1,a2,a3⟩:=HA.c4;have al:=HA.lt;have E5:=HI.e;have LO:=PA.o.ext E5;obtain ⟨sX,hsX⟩:=Qf (c.opB l i);rw [← hsX] at hopB hisA;clear hsX
 go_cut [60] from 12 (fun b wx => b = .bool sX ∧ Qb w5 wx)
 case first =>
  by_cases q0 : 0 ≤ bv;rotate_left
  ·have f0 : decide (0 ≤ bv) = false := decide_eq_false q0;obtain rfl : sX = false := by rw [hopB.out, f0]; rfl
   clear q0;refine Zo w5 ?_;intro wx hx;obtain ⟨hcbwx,hfbwx,hzbwx,hzwx⟩:=Zn w5 hx;go_wp2
   go_meet
   exact ⟨rfl,hx⟩
  obtain ⟨q,rfl⟩ : ∃ q : Nat,bv = q:=⟨bv.toNat,by omega⟩;have hq : q < l.length:=by omega
  have PQ:=(hat.out q hq).ext E5;obtain ⟨pq,hpq⟩:=Qf (l.getD q Qh);rw [show ((q : Int)).toNat = q by omega,← hpq] at hopB;rw [← hpq] at PQ;have d11:=(E5.cell (p:=⟨bp,off + q * 12 + 11,none⟩) hbp).trans (hc.out q 11 (vc q) hq (by simp [Qq]));have hbq:=Nat.lt_of_lt_of_le hbp E5.size;have LQ:=PQ.c;obtain ⟨t5,s5,e5,_⟩:=id LQ;rw [e5] at d11 LQ;clear hpq e5 PQ;have NS:=fun w h1 h2 => St (.slice t1 p.o.length s1) (.slice t5 pq.c.length s5) p.o pq.c w h1 h2
  have f0 : decide (0 ≤ (q : Int)) = true:=decide_eq_true q0;rw [f0,Bool.true_and] at hopB;clear q0;by_cases g1 : p.o = pq.c
  ·obtain rfl : sX = false := by rw [hopB.out, decide_eq_true g1.symm]; rfl
   rw [decide_eq_true g1] at NS;clear g1;have n1:=fun u : XW _ => NS _ (LO.ext u.e) (LQ.ext u.e)
   refine Zo w5 ?_;intro wx hx;clear n1;obtain ⟨hcbwx,hfbwx,hzbwx,hzwx⟩:=Zn w5 hx;go_wp2
   go_meet
   exact ⟨rfl,hx⟩
  ·obtain rfl : sX = true := by rw [hopB.out, decide_eq_false (fun h => g1 h.symm)]; rfl
   rw [decide_eq_false g1] at NS;clear g1;have n1:=fun u : XW _ => NS _ (LO.ext u.e) (LQ.ext u.e)
   refine Zo w5 ?_;intro wx hx;clear n1;obtain ⟨hcbwx,hfbwx,hzbwx,hzwx⟩:=Zn w5 hx;go_wp2
   go_meet
   exact ⟨rfl,hx⟩
 case rest =>
 obtain ⟨rfl,x6⟩:=hcut;obtain ⟨w6,rfl⟩:=Qf wc;clear m0 ml n0 nl y0 y1 y2 y3 y4 y5 y6 y7 y8 y9 y10 y11 yl a0 a1 a2 a3 al HA;clear LO E5 hopB hbl1 hbl2;replace HI:=HI.ext x6;replace B1:=B1.ext x6;replace B2:=B2.ext x6;replace PX:=PX.ext x6;replace hI:=hI.ext x6;replace FW:=FW.ext x6;clear x6;have m0:=B1.c1;have ml:=B1.lt;have n0:=B2.c1;have nl:=B2.lt;obtain ⟨y0,y1,y2,y3,y4,y5,y6,y7,y8,y9,y10,y11⟩:=Qc.c12 PX;have yl:=PX.lt;obtain ⟨iv,HA⟩:=HI.box;obtain ⟨a0,a1,a2,a3⟩:=HA.c4;have al:=HA.lt;have NT:=Fh A A' ca cb c (.slice (some ⟨bp,off,none⟩) l.length cap) ba w6.heap.size L1 2 i 0 2 i 0 ⟨by omega,rfl,by omega⟩ W0 (w6.alloc (.cells #[.int .i64 2,.int .i64 i,.int .i64 0] 47)) (HI.ext ((Qb.refl _).alloc _)) hba (Qc.new _ _ _) Qa
 go_upto_if 60 with (fail)
 have HO:=HI
 go_cut [] from 12 (fun wx => Y4 W0 wx ba A A' ca cb c (.slice (some ⟨bp,off,none⟩) l.length cap) (L1 ++ (if sX = true then [(2,i,0)] else [])) ∧ FI ba w6 wx)
 case first =>
  cases sX
  ·clear NT;go_wp2
   go_meet
   exact ⟨by simpa using HI,FI.refl _ _⟩
  ·go_wp2_with (go_at_call 49;(with_reducible refine Calls.mono NT ?_);rintro e wn ⟨rfl,A4,F4⟩)
   go_meet
   exact ⟨A4,(FI.exts ((Qb.refl _).alloc _)).trans F4⟩
 case rest =>
 clear NT HI;obtain ⟨HI,F4⟩:=hcut;obtain ⟨w7,rfl⟩:=Qf wc;obtain ⟨iv,HA⟩:=HO.box;replace B1:=F4.held B1 nb1 (by decide);replace B2:=F4.held B2 nb2 (by decide);replace PX:=F4.held PX np1 (by decide);replace hI:=hI.fi F4 HA;replace FW:=FW.trans F4;clear HA HO iv;clear F4;clear m0 ml n0 nl y0 y1 y2 y3 y4 y5 y6 y7 y8 y9 y10 y11 yl a0 a1 a2 a3 al;have hl2 : (L1 ++ (if sX = true then [((2 : Nat),i,(0 : Nat))] else [])).length ≤ L1.length + 1:=by rw [List.length_append];split <;> simp
 replace hisA : Hid (L ++ c.isA l i = (L1 ++ (if sX = true then [(2,i,0)] else [])) ++ (if c.ovB l i = true then [(3,i,0)] else [])):=Lib.hid (by rw [hisA.out];simp only [List.append_assoc]);generalize L1 ++ (if sX = true then [((2 : Nat),i,(0 : Nat))] else []) = L2 at *;clear sX;obtain ⟨iv,HA⟩:=HI.box;have C7:=hC0.ext HI.e;have NA:=Yy A A' ca cb c p.a;have NB:=Yy A A' ca cb c p.b;obtain ⟨na,hna⟩:=Qf (c.numV p.a);obtain ⟨nb,hnb⟩:=Qf (c.numV p.b);simp only [← hna] at NA;simp only [← hnb] at NB;rw [← hna,← hnb] at hovB;clear hna hnb;go_upto_region 8 with (fail)
 apply Kf (S:=fun w' pf pt => Qb w7 w' ∧ Qc w' pf 3 #[.int .i64 na] ∧ Qc w' pt 3 #[.int .i64 nb])
 ·refine Q5 18 [16,17] (fun x => Qb w7 x) mixed rfl ?_;intro vz hvz;have HC:=hvz;have mz0:=trivial
  all_goals try
   (clear mz0
    refine Qr (g:=6) [0,1,2,3,4,5,7,8,9,10,11,12] HC ?_
    constructor
    refine ⟨fun u hu => ?_,?_⟩
    ·have m0:=(B1.ext hu).c1;have ml:=(B1.ext hu).lt;obtain ⟨y0,y1,y2,y3,y4,y5,y6,y7,y8,y9,y10,y11⟩:=Qc.c12 (PX.ext hu);have yl:=(PX.ext hu).lt;obtain ⟨a0,a1,a2,a3⟩:=(HA.ext hu).c4;have al:=(HA.ext hu).lt;exact Qj
    have mz1:=trivial)
  all_goals try
   (clear mz1
    refine Up 6 14 15 ?_ ?_ ?_
    focus
     go_wp2_with (go_at_call 48;(with_reducible refine zc (NA _ (C7.ext HC)) ?_);rintro e wd ⟨rfl,hj⟩);replace HC:=HC.trans hj;try replace H10:=H10.ext hj
     try replace H11:=H11.ext hj
     clear hj;have mz2:=trivial;refine Qe HC ?_
    rotate_left
    focus
     go_wp2;obtain ⟨pf,wb,hbq,hwb,H10,HC',hx,gf⟩:=Qp HC 3 #[.int .i64 0];rw [← hbq,← hwb];try have ne : pt < pf:=by have:=H11.lt;omega
     replace HC:=HC';try replace H11:=H11.ext hx
     clear hbq hwb hx HC';have mz3:=trivial;refine Qe HC ?_
    rotate_left
    focus
     go_wp2;obtain ⟨pt,wb,hbq,hwb,H11,HC',hx,gt⟩:=Qp HC 3 #[.int .i64 0];rw [← hbq,← hwb];try have ne : pf < pt:=by have:=H10.lt;omega
     replace HC:=HC';try replace H10:=H10.ext hx
     clear hbq hwb hx HC';have mz4:=trivial;refine Qe HC ?_
    rotate_left)
  all_goals try
   (clear mz2
    refine Up 13 14 15 ?_ ?_ ?_
    focus
     go_wp2_with (go_at_call 48;(with_reducible refine zc (NB _ (C7.ext HC)) ?_);rintro e wd ⟨rfl,hj⟩);replace HC:=HC.trans hj;try replace H10:=H10.ext hj
     try replace H11:=H11.ext hj
     clear hj;have mz5:=trivial;refine Qe HC ?_
    rotate_left
    focus
     go_wp2;obtain ⟨pf,wb,hbq,hwb,H10,HC',hx,gf⟩:=Qp HC 3 #[.int .i64 0];rw [← hbq,← hwb];try have ne : pt < pf:=by have:=H11.lt;omega
     replace HC:=HC';try replace H11:=H11.ext hx
     clear hbq hwb hx HC';have mz6:=trivial;refine Qe HC ?_
    rotate_left
    focus
     go_wp2;obtain ⟨pt,wb,hbq,hwb,H11,HC',hx,gt⟩:=Qp HC 3 #[.int .i64 0];rw [← hbq,← hwb];try have ne : pf < pt:=by have:=H10.lt;omega
     replace HC:=HC';try replace H10:=H10.ext hx
     clear hbq hwb hx HC';have mz7:=trivial;refine Qe HC ?_
    rotate_left)
  all_goals try
   (clear mz3
    refine Zp 6 15 ?_ ?_
    focus
     go_wp2_with (go_at_call 48;(with_reducible refine zc (NA _ (C7.ext HC)) ?_);rintro e wd ⟨rfl,hj⟩);replace HC:=HC.trans hj;try replace H10:=H10.ext hj
     try replace H11:=H11.ext hj
     clear hj;have mz6:=trivial;refine Qe HC ?_
    rotate_left
    focus
     go_wp2;obtain ⟨pt,wb,hbq,hwb,H11,HC',hx,gt⟩:=Qp HC 3 #[.int .i64 0];rw [← hbq,← hwb];try have ne : pf < pt:=by have:=H10.lt;omega
     replace HC:=HC';try replace H10:=H10.ext hx
     clear hbq hwb hx HC';have mz8:=trivial;refine Qe HC ?_
    rotate_left)
  all_goals try
   (clear mz4
    refine Zp 6 14 ?_ ?_
    focus
     go_wp2_with (go_at_call 48;(with_reducible refine zc (NA _ (C7.ext HC)) ?_);rintro e wd ⟨rfl,hj⟩);replace HC:=HC.trans hj;try replace H10:=H10.ext hj
     try replace H11:=H11.ext hj
     clear hj;have mz7:=trivial;refine Qe HC ?_
    rotate_left
    focus
     go_wp2;obtain ⟨pf,wb,hbq,hwb,H10,HC',hx,gf⟩:=Qp HC 3 #[.int .i64 0];rw [← hbq,← hwb];try have ne : pt < pf:=by have:=H11.lt;omega
     replace HC:=HC';try replace H11:=H11.ext hx
     clear hbq hwb hx HC';have mz8:=trivial;refine Qe HC ?_
    rotate_left)
  all_goals try
   (clear mz5
    refine Zp 14 15 ?_ ?_
    focus
     go_wp2;obtain ⟨pf,wb,hbq,hwb,H10,HC',hx,gf⟩:=Qp HC 3 #[.int .i64 0];rw [← hbq,← hwb];try have ne : pt < pf:=by have:=H11.lt;omega
     replace HC:=HC';try replace H11:=H11.ext hx
     clear hbq hwb hx HC';have mz9:=trivial;refine Qe HC ?_
    rotate_left
    focus
     go_wp2;obtain ⟨pt,wb,hbq,hwb,H11,HC',hx,gt⟩:=Qp HC 3 #[.int .i64 0];rw [← hbq,← hwb];try have ne : pf < pt:=by have:=H10.lt;omega
     replace HC:=HC';try replace H10:=H10.ext hx
     clear hbq hwb hx HC';have mz10:=trivial;refine Qe HC ?_
    rotate_left)
  all_goals try
   (clear mz6
    refine Zp 13 15 ?_ ?_
    focus
     go_wp2_with (go_at_call 48;(with_reducible refine zc (NB _ (C7.ext HC)) ?_);rintro e wd ⟨rfl,hj⟩);replace HC:=HC.trans hj;try replace H10:=H10.ext hj
     try replace H11:=H11.ext hj
     clear hj;have mz9:=trivial;refine Qe HC ?_
    rotate_left
    focus
     go_wp2;obtain ⟨pt,wb,hbq,hwb,H11,HC',hx,gt⟩:=Qp HC 3 #[.int .i64 0];rw [← hbq,← hwb];try have ne : pf < pt:=by have:=H10.lt;omega
     replace HC:=HC';try replace H10:=H10.ext hx
     clear hbq hwb hx HC';have mz11:=trivial;refine Qe HC ?_
    rotate_left)
  all_goals try
   (clear mz7
    refine Zp 13 14 ?_ ?_
    focus
     go_wp2_with (go_at_call 48;(with_reducible refine zc (NB _ (C7.ext HC)) ?_);rintro e wd ⟨rfl,hj⟩);replace HC:=HC.trans hj;try replace H10:=H10.ext hj
     try replace H11:=H11.ext hj
     clear hj;have mz10:=trivial;refine Qe HC ?_
    rotate_left
    focus
     go_wp2;obtain ⟨pf,wb,hbq,hwb,H10,HC',hx,gf⟩:=Qp HC 3 #[.int .i64 0];rw [← hbq,← hwb];try have ne : pt < pf:=by have:=H11.lt;omega
     replace HC:=HC';try replace H11:=H11.ext hx
     clear hbq hwb hx HC';have mz11:=trivial;refine Qe HC ?_
    rotate_left)
  all_goals try
   (clear mz8
    refine Qk 6 ?_;go_wp2_with (go_at_call 48;(with_reducible refine zc (NA _ (C7.ext HC)) ?_);rintro e wd ⟨rfl,hj⟩);replace HC:=HC.trans hj;try replace H10:=H10.ext hj
    try replace H11:=H11.ext hj
    clear hj;have mz11:=trivial;refine Qe HC ?_)
  all_goals try
   (clear mz9
    refine Qk 15 ?_;go_wp2;obtain ⟨pt,wb,hbq,hwb,H11,HC',hx,gt⟩:=Qp HC 3 #[.int .i64 0];rw [← hbq,← hwb];try have ne : pf < pt:=by have:=H10.lt;omega
    replace HC:=HC';try replace H10:=H10.ext hx
    clear hbq hwb hx HC';have mz12:=trivial;refine Qe HC ?_)
  all_goals try
   (clear mz10
    refine Qk 14 ?_;go_wp2;obtain ⟨pf,wb,hbq,hwb,H10,HC',hx,gf⟩:=Qp HC 3 #[.int .i64 0];rw [← hbq,← hwb];try have ne : pt < pf:=by have:=H11.lt;omega
    replace HC:=HC';try replace H11:=H11.ext hx
    clear hbq hwb hx HC';have mz12:=trivial;refine Qe HC ?_)
  all_goals try
   (clear mz11
    refine Qk 13 ?_;go_wp2_with (go_at_call 48;(with_reducible refine zc (NB _ (C7.ext HC)) ?_);rintro e wd ⟨rfl,hj⟩);replace HC:=HC.trans hj;try replace H10:=H10.ext hj
    try replace H11:=H11.ext hj
    clear hj;have mz12:=trivial;refine Qe HC ?_)
  all_goals try
   (clear mz12
    refine Qn 16 ?_;have z0:=H10.frozen 0;have u0:=H10.c1;have lx:=H10.lt;have hgp : w7.heap.size ≤ pf:=gf;go_wp2;have Hn:=Ib H10 (.int .i64 na);have On:=Wn H11 (show pt ≠ pf by omega) 0 (.int .i64 na);replace HC:=HC.setCell (p:=⟨pf,0,none⟩) hgp (.int .i64 na);clear H10 z0 u0 lx hgp;have H10:=Hn;replace H11:=On;clear Hn On;generalize World.setCell _ _ _ = wq at *;have mz13:=trivial;refine Qm ?_)
  all_goals try
   (clear mz13
    refine Qn 17 ?_;have z0:=H11.frozen 0;have u0:=H11.c1;have lx:=H11.lt;have hgp : w7.heap.size ≤ pt:=gt;go_wp2;have Hn:=Ib H11 (.int .i64 nb);have On:=Wn H10 (show pf ≠ pt by omega) 0 (.int .i64 nb);replace HC:=HC.setCell (p:=⟨pt,0,none⟩) hgp (.int .i64 nb);clear H11 z0 u0 lx hgp;have H11:=Hn;replace H10:=On;clear Hn On;generalize World.setCell _ _ _ = wq at *;have mz14:=trivial;refine Qm ?_)
  all_goals try
   (clear mz14
    refine Qt ?_;exact Jm pf pt ⟨HC,H10,H11⟩ rfl)
 rintro pf pt w8 ⟨x8,BF,BT⟩;clear NA NB C7;replace HI:=HI.ext x8;replace B1:=B1.ext x8;replace B2:=B2.ext x8;replace PX:=PX.ext x8;replace hI:=hI.ext x8;replace FW:=FW.ext x8;replace HA:=HA.ext x8;clear x8;obtain ⟨sX,hsX⟩:=Qf (c.ovB l i);rw [← hsX] at hovB hisA;have NC:=Qgt v0 hs (fun k => decide (k < i) && decide (c.numV (Ql l k).a ≤ nb) && decide (na ≤ c.numV (Ql l k).b)) b2 b1 pt pf w8 hI hsl (fun W x k hk => Qev A A' ca cb c l (.slice (some ⟨bp,off,none⟩) l.length cap) iv ba b2 b1 pt pf k i nb na W (HA.ext x) (hC0.ext (HI.e.trans x)) (hP0.ext (HI.e.trans x)) (hin.out k hk) (B2.ext x) (B1.ext x) (BT.ext x) (BF.ext x));rw [← hovB.out] at NC;clear hovB hsX HA
 go_upto_if 82 with (go_at_call 97;(with_reducible refine Calls.mono NC ?_);rintro e w9 ⟨rfl,x9⟩)
 clear NC BF BT;replace HI:=HI.ext x9;replace B1:=B1.ext x9;replace B2:=B2.ext x9;replace PX:=PX.ext x9;replace hI:=hI.ext x9;replace FW:=FW.ext x9;clear x9;have m0:=B1.c1;have ml:=B1.lt;have n0:=B2.c1;have nl:=B2.lt;cases sX
 ·go_wp2;refine bodyPost_end (results_none rfl _ _ _) rfl ⟨rfl,?_,FW⟩;rw [hisA.out]
  simpa using HI
 ·have NT:=Fh A A' ca cb c (.slice (some ⟨bp,off,none⟩) l.length cap) ba w9.heap.size L2 3 i 0 3 i 0 ⟨by omega,rfl,by omega⟩ W0 (w9.alloc (.cells #[.int .i64 3,.int .i64 i,.int .i64 0] 47)) (HI.ext ((Qb.refl _).alloc _)) hba (Qc.new _ _ _) Qa;go_wp2_with (go_at_call 49;(with_reducible refine Calls.mono NT ?_);rintro e wn ⟨rfl,A4,F4⟩);refine bodyPost_end (results_none rfl _ _ _) rfl ⟨rfl,?_,FW.trans ((FI.exts ((Qb.refl _).alloc _)).trans F4)⟩;rw [hisA.out];exact A4
end
section
open Go Go.RowKit Go.Maps
/-! ### The deals that are matched -/
theorem Qcf : (33 : TypeId) < Tryz.prog.types.size:=of_decide_eq_true (by kernel_rfl)
theorem Qmk : (match Tryz.prog.underlying 33 with | some (.array _ _) | some (.struct _) => true | _ => false) = true:=by kernel_rfl
theorem Hm : Keyed Tryz.prog 33:=Keyed.of_law (Go.deep_law_laid Qb7 (m:=2) Qa Qcf (by kernel_rfl) Qmk)
theorem Dg : Tryz.prog.underlying 123 = some (.map 33 4):=by kernel_rfl
theorem Qmj : Tryz.prog.underlying 33 = some (.struct (Kr (Tryz.prog.underlying 33))):=by kernel_rfl
theorem Qmf : (Kr (Tryz.prog.underlying 33)).toList.map (fun f => (f.type,f.offset)) = [(3,0),(3,1)]:=by kernel_rfl
theorem Qmh : (Kr (Tryz.prog.underlying 33)).all (·.name != "_") = true:=by kernel_rfl
theorem Qce : Tryz.prog.cellsOf 33 = 2:=by kernel_rfl
theorem Qmg : Tryz.prog.keyType 33 = true:=by kernel_rfl
theorem Qmi : ∃ m,Tryz.prog.types.size = m + 1 + 1:=by
 have h : (2 : Nat) ≤ Tryz.prog.types.size:=Nat.le_trans (show (2 : Nat) ≤ 33 by decide) (Nat.le_of_lt Qcf);exact ⟨Tryz.prog.types.size - 2,by omega⟩
def K2 (r : Rf) : Lit:=.string (keyBytes [.int .i64 (r.1 : Nat),.int .i64 (r.2 : Nat)])
theorem Qjc {a b : Int} (ha : (Lit.int .i64 a).wf = true) (hb : (Lit.int .i64 b).wf = true) : keyOf Tryz.prog 33 (.agg #[.int .i64 a,.int .i64 b]) = some (.string (keyBytes [.int .i64 a,.int .i64 b])):=by
 obtain ⟨m,hm⟩:=Qmi;have hf:=Qmf;have hN:=Qmh;have hU:=Qmj;generalize Kr (Tryz.prog.underlying 33) = fs at hf hN hU;obtain ⟨l⟩:=fs;simp only [List.map_eq_cons_iff,List.map_eq_nil_iff] at hf;obtain ⟨f0,_,rfl,e0,f1,_,rfl,e1,rfl⟩:=hf;simp only [Prod.mk.injEq] at e0 e1;unfold keyOf;simp only [hU];rw [if_pos (by simp [Qmg,Value.formed,hU,Qce]),hm];unfold Program.keyLits;simp only [hU,Value.cells];rw [if_pos ⟨by rw [Qce];rfl,hN⟩,List.mapM_cons,List.mapM_cons,List.mapM_nil];rw [e0.1,e0.2,e1.1,e1.2];have c3 : Tryz.prog.cellsOf 3 = 1:=by kernel_rfl
 simp [c3,Program.keyLits,ha,hb]
theorem Qdz {n : Nat} (h : n ≤ 9223372036854775807) : (Lit.int .i64 (n : Int)).wf = true:=by
 simp [Lit.wf,IntKind.min,IntKind.max,IntKind.signed,IntKind.bits];omega
def Kk (r : Rf) : Prop:=r.1 ≤ 9223372036854775807 ∧ r.2 ≤ 9223372036854775807
theorem Ms {r : Rf} (h : Kk r) : keyOf Tryz.prog 33 (.agg #[.int .i64 (r.1 : Nat),.int .i64 (r.2 : Nat)]) = some (K2 r):=Qjc (Qdz h.1) (Qdz h.2)
theorem Qco {x y : Rf} (hx : Kk x) (hy : Kk y) (h : K2 x = K2 y) : x = y:=by
 have h2:=Hm.inj (Ms hx) (by rw [h];exact Ms hy);simp at h2;exact Prod.ext Qa Qa
/-- What the map holds after the first n pairs. -/
def Ku (m : List (Rf × Rf)) : Nat → DataW Unit
 | 0 => .map []
 | n + 1 => ((Ku m n).put (K2 (m.getD n (Qy,Qy)).1) (.lit (.bool true))).put (K2 (m.getD n (Qy,Qy)).2) (.lit (.bool true))
theorem Pp (m : List (Rf × Rf)) : ∀ n,IsMap (Ku m n)
 | 0 => isMap_empty
 | n + 1 => ((Pp m n).put _ _).put _ _
def Mx (m : List (Rf × Rf)) (r : Rf) (n : Nat) : Bool:=(List.range n).any fun j => decide ((m.getD j (Qy,Qy)).1 = r) || decide ((m.getD j (Qy,Qy)).2 = r)
theorem Qjw (m : List (Rf × Rf)) (r : Rf) (n : Nat) : Mx m r (n + 1) = (Mx m r n || (decide ((m.getD n (Qy,Qy)).1 = r) || decide ((m.getD n (Qy,Qy)).2 = r))):=by
 unfold Mx;rw [List.range_succ,List.any_append]
 simp
theorem Qjv (m : List (Rf × Rf)) (r : Rf) : Mx m r m.length = Ky m r:=by
 unfold Mx Ky;rw [Bool.eq_iff_iff,List.any_eq_true,List.any_eq_true]
 constructor
 ·rintro ⟨j,hj,h⟩;exact ⟨_,Jg (List.mem_range.1 hj),h⟩
 ·rintro ⟨p,hp,h⟩;obtain ⟨j,hj,rfl⟩:=Km (z:=(Qy,Qy)) hp;exact ⟨j,List.mem_range.2 hj,h⟩
def MOk (m : List (Rf × Rf)) : Prop:=∀ j,j < m.length → Kk (m.getD j (Qy,Qy)).1 ∧ Kk (m.getD j (Qy,Qy)).2
theorem Qan {m : List (Rf × Rf)} {r : Rf} (hr : Kk r) (hm : MOk m) : ∀ n,n ≤ m.length → (Ku m n).atKey (K2 r) (.lit (.bool false)) = .lit (.bool (Mx m r n))
 | 0,_ => rfl
 | n + 1,hn => by
  have ih:=Qan hr hm n Qa;obtain ⟨h1,h2⟩:=hm n Qa;have kr:=Hm.key (Ms hr);rw [Qjw,Ku];by_cases e2 : (m.getD n (Qy,Qy)).2 = r
  ·rw [e2,atKey_put_same ((Pp m n).put _ _) kr]
   simp
  ·rw [atKey_put_other (fun hl => e2 (Qco h2 hr hl.symm))];by_cases e1 : (m.getD n (Qy,Qy)).1 = r
   ·rw [e1,atKey_put_same (Pp m n) kr]
    simp
   ·rw [atKey_put_other (fun hl => e1 (Qco h1 hr hl.symm)),ih,decide_eq_false e1,decide_eq_false e2]
    simp
theorem Qoe (w : World) : (zeroValue 4).run Tryz.prog w = .ok (.bool false) w:=by kernel_rfl
/-- The lookup in the walk. -/
theorem Qjx {w : World} {b n : Nat} {m : List (Rf × Rf)} {r : Rf} (hM : w.ownsMap Tryz.prog 33 (plainElem (H:=Unit) Tryz.prog 4) b n (Ku m m.length)) (hr : Kk r) (hm : MOk m) :
  (Instr.lookup 123 (.map (some b)) (.agg #[.int .i64 (r.1 : Nat),.int .i64 (r.2 : Nat)]) false).run Tryz.prog w = .ok (.bool (Ky m r)) w:=by
 obtain ⟨v,ps,hrun,hv⟩:=hM.lookup Hm Dg (Qoe w) (plainElem_bool Lh false) (Ms hr);rw [Qan hr hm _ (Nat.le_refl _),Qjv] at hv;rw [hrun];simp only [plainElem,show Tryz.prog.underlying 4 = some .bool from Lh] at hv
 split at hv <;> simp_all
/-! ### The periods of each holder -/
def G7 : DataW Unit → List (DataW Unit)
 | .slice es _ => es
 | _ => []
def Jk (s : ByteArray) : Lit:=.string s.data.toList
theorem Pg {s t : ByteArray} (h : Jk s = Jk t) : s = t:=by
 obtain ⟨⟨s⟩⟩:=s;obtain ⟨⟨t⟩⟩:=t
 simpa [Jk] using h
theorem Qaa (s : ByteArray) : WideAt.IsKeyLit (Jk s):=by first | trivial | simp [Jk,WideAt.IsKeyLit]
def Pj (l : List Nat) : List (DataW Unit):=l.map fun (i : Nat) => DataW.lit (.int .i64 (i : Int))
def Xs (l : List Pd) : Nat → DataW Unit
 | 0 => .map []
 | k + 1 => (Xs l k).put (Jk (Ql l k).h) (.slice (G7 ((Xs l k).atKey (Jk (Ql l k).h) .nil) ++ [.lit (.int .i64 (k : Int))]) [])
theorem S2 (l : List Pd) : ∀ k,IsMap (Xs l k)
 | 0 => ⟨_,rfl⟩
 | k + 1 => (S2 l k).put _ _
def Mp (l : List Pd) (h : ByteArray) (n : Nat) : List Nat:=(List.range n).filter fun k => decide ((Ql l k).h = h)
theorem Ik (l : List Pd) (h : ByteArray) : Mp l h l.length = Yk l h:=rfl
theorem Qii (l : List Pd) (h : ByteArray) (n : Nat) : Mp l h (n + 1) = Mp l h n ++ (if (Ql l n).h = h then [n] else []):=by
 unfold Mp;rw [List.range_succ,List.filter_append];by_cases e : (Ql l n).h = h <;> simp [e]
theorem Ii (l : List Pd) (s : ByteArray) : ∀ k,G7 ((Xs l k).atKey (Jk s) .nil) = Pj (Mp l s k)
 | 0 => rfl
 | k + 1 => by
  have ih:=Ii l s k;rw [Xs,Qii];by_cases hn : (Ql l k).h = s
  ·rw [if_pos hn,hn,atKey_put_same (S2 l k) (Qaa s)]
   show G7 _ ++ _ = _
   rw [ih];simp [Pj]
  ·rw [if_neg hn,atKey_put_other (fun e => hn (Pg e).symm),List.append_nil];exact ih
theorem Ij (l : List Pd) : ∀ k j,j < k → has (Xs l k) (Jk (Ql l j).h) = true
 | k + 1,j,hj => by
  rw [Xs];by_cases e : (Ql l j).h = (Ql l k).h
  ·rw [e];exact has_put_same (S2 l k) (Qaa _) _
  ·rw [has_put_other (fun h => e (Pg h))]
   exact Ij l k j (by
    by_cases hk : j = k
    ·subst hk;exact absurd rfl e
    ·omega)
theorem Qag {zs : List Int} {l : List Nat} (h : ChangeShapes.lits (H:=Unit) .i64 zs = Pj l) : zs = l.map fun (i : Nat) => (i : Int):=by
 have : zs.map (fun z => DataW.lit (H:=Unit) (.int .i64 z)) = (l.map fun (i : Nat) => (i : Int)).map (fun z => DataW.lit (H:=Unit) (.int .i64 z)):=by
  rw [List.map_map];exact h
 exact (List.map_inj_right (fun a b hab => by cases hab;rfl)).1 this
/-- What a look-up has found. -/
theorem Il {l : List Pd} {s : ByteArray} {w : World} {base : Nat} {e : TypeId} {v : Value} {zs : List Int} {k : Nat} (hat : (Xs l k).atKey (Jk s) .nil = rowDatum .i64 v zs) (ho : w.ownsInts base e .i64 v zs) : zs = (Mp l s k).map fun (i : Nat) => (i : Int):=by
 have h:=Ii l s k;rw [hat] at h;rcases ho.datum (H:=Unit) with ⟨h1,rfl⟩ | h1
 ·rw [h1] at h;exact Qag h
 ·rw [h1] at h;exact Qag h
theorem Qih {l : List Pd} {w : World} {base : Nat} {e : TypeId} {v : Value} {zs : List Int} {k : Nat} (hat : (Xs l k).atKey (Jk (Ql l k).h) .nil = rowDatum .i64 v zs) (ho : w.ownsInts base e .i64 v zs) :
  Xs l (k + 1) = (Xs l k).put (Jk (Ql l k).h) (.slice (ChangeShapes.lits .i64 (zs ++ [(k : Int)])) []):=by
 rw [Xs,hat];rcases ho.datum (H:=Unit) with ⟨h1,rfl⟩ | h1 <;> rw [h1] <;> simp [G7,ChangeShapes.lits]
/-- A row of a holder's periods, as indices. -/
theorem I5 {w : World} {base : Nat} {v : Value} {zs : List Int} {hs : List Nat} (h : w.ownsInts base 3 .i64 v zs) (he : zs = hs.map fun (i : Nat) => (i : Int)) : Xx w v hs:=by
 subst he;have h0:=h.1;rw [List.length_map] at h0;obtain ⟨A,cap,b,e,_,_,AR⟩:=Tf (g:=fun k => .int .i64 ((hs.getD k 0 : Nat) : Int)) h0 (fun k hk => by simp [hk]);exact ⟨A,cap,b,e,AR⟩
end
section
open Go Go.RowKit Go.Shelf Go.Sort
attribute [local go_sem] Zx
/-- An issue of numbers that an int holds by far. -/
def IsB (x : Z5) : Prop:=x.1 ≤ 1000000 ∧ x.2.1 ≤ 1000000 ∧ x.2.2 ≤ 1000000
abbrev Xl:={x : Z5 // IsB x}
instance : Inhabited Xl:=⟨⟨(0,0,0),by simp [IsB]⟩⟩
def Ko (x y : Xl) : Int:=if x.1.2.1 ≠ y.1.2.1 then (x.1.2.1 : Int) - y.1.2.1 else if x.1.1 ≠ y.1.1 then (x.1.1 : Int) - y.1.1 else (x.1.2.2 : Int) - y.1.2.2
theorem Gs (x y : Xl) : Ko x y < 0 ↔ Wq x.1 y.1:=by
 unfold Ko Wq
 split
 ·omega
 ·split <;> omega
theorem Qgk : SWO (fun x y => decide (Ko x y < 0)) where
 irrefl x:=by
  rw [decide_eq_false];rw [Gs];exact Qir
 trans x y z h1 h2:=by
  simp only [decide_eq_true_eq,Gs] at *;unfold Wq at *;omega
 ntrans x y z h1 h2:=by
  simp only [decide_eq_false_iff_not,Gs] at *;unfold Wq at *;omega
theorem Qi8 {c : Qd} {l : List Pd} {m : List (Rf × Rf)} {x : Z5} (hl : l.length ≤ 32) (hd : ∀ i,i < l.length → (l.getD i Qh).d.length ≤ 64) (h : x ∈ c.audL l m) : IsB x:=by
 unfold Qd.audL at h;obtain ⟨h1,h2⟩:=Th h;obtain ⟨_,h3,h4⟩:=Pb h2;have h5 : (Ql l x.2.1).d.length ≤ 64:=hd _ h1;refine ⟨by omega,by omega,?_⟩;rcases h4 with h4 | h4 <;> omega
theorem Qgl (x y : Xl) (W : World) : Calls Tryz.prog 51 #[.agg #[.int .i64 (x.1.1 : Nat),.int .i64 (x.1.2.1 : Nat),.int .i64 (x.1.2.2 : Nat)],.agg #[.int .i64 (y.1.1 : Nat),.int .i64 (y.1.2.1 : Nat),.int .i64 (y.1.2.2 : Nat)]] W fun e w' => e = .returned (.int .i64 (Ko x y)) ∧ ∃ os',w' = grow W os':=by
 obtain ⟨⟨x0,x1,x2⟩,hx⟩:=x;obtain ⟨⟨y0,y1,y2⟩,hy⟩:=y;obtain ⟨hx0,hx1,hx2⟩:=hx;obtain ⟨hy0,hy1,hy2⟩:=hy
 simp only at hx0 hx1 hx2 hy0 hy1 hy2 ⊢
 obtain ⟨R,hR⟩:=Qf (if x1 ≠ y1 then (x1 : Int) - y1 else if x0 ≠ y0 then (x0 : Int) - y0 else (x2 : Int) - y2);have hR2 : Ko ⟨(x0,x1,x2),⟨hx0,hx1,hx2⟩⟩ ⟨(y0,y1,y2),⟨hy0,hy1,hy2⟩⟩ = R:=by rw [hR];rfl
 rw [hR2];clear hR2;replace hR:=Lib.hid hR;have w1 : IntKind.i64.wrap ((x1 : Int) - y1) = (x1 : Int) - y1:=by simp [IntKind.wrap,IntKind.bits,IntKind.signed];omega
 have w0 : IntKind.i64.wrap ((x0 : Int) - y0) = (x0 : Int) - y0:=by simp [IntKind.wrap,IntKind.bits,IntKind.signed];omega
 have w2 : IntKind.i64.wrap ((x2 : Int) - y2) = (x2 : Int) - y2:=by simp [IntKind.wrap,IntKind.bits,IntKind.signed];omega
 by_cases e1 : x1 = y1;rotate_left
 ·have g1 : ((x1 : Int) == y1) = false := beq_eq_false_iff_ne.2 Qa;have g1n : ((x1 : Int) != y1) = true := by rw [bne, g1]; rfl
  have hr : R = (x1 : Int) - y1:=by rw [hR.out,if_pos e1]
  clear hR e1;subst hr
  go_enter Tryz.func51,Tryz.ntmps51
  go_wp2;go_ret;exact ⟨rfl,_,by rw [alloc_eq_grow,alloc_eq_grow,grow_grow]⟩
 by_cases e0 : x0 = y0;rotate_left
 ·have g0 : ((x0 : Int) == y0) = false := beq_eq_false_iff_ne.2 Qa;have g0n : ((x0 : Int) != y0) = true := by rw [bne, g0]; rfl
  have hr : R = (x0 : Int) - y0:=by rw [hR.out,if_neg (by simp [e1]),if_pos e0]
  clear hR e0;subst hr e1
  go_enter Tryz.func51,Tryz.ntmps51
  go_wp2;go_ret;exact ⟨rfl,_,by rw [alloc_eq_grow,alloc_eq_grow,grow_grow]⟩
 have hr : R = (x2 : Int) - y2:=by rw [hR.out,if_neg (by simp [e1]),if_neg (by simp [e0])]
 clear hR;subst hr e1 e0
 go_enter Tryz.func51,Tryz.ntmps51
 go_wp2;go_ret;exact ⟨rfl,_,by rw [alloc_eq_grow,alloc_eq_grow,grow_grow]⟩
end
section
open Go Go.RowKit Go.Shelf Go.Sort
def Ye (x : Xl) : List Value:=V3 x.1
def Vh (d : Array Xl) : List Value:=d.toList.flatMap Ye
theorem Ed : ∀ (L : List Xl) (i j : Nat),i < L.length → j < 3 → (L.flatMap Ye)[i * 3 + j]? = (Ye (L.getD i default))[j]?
 | r :: L,0,j,_,hj => by
  match j,hj with
  | 0,_ => simp [Ye,V3]
  | 1,_ => simp [Ye,V3]
  | 2,_ => simp [Ye,V3]
 | r :: L,i + 1,j,h,hj => by
  have hl : (Ye r).length = 3:=rfl;rw [List.flatMap_cons,List.getElem?_append_right Qa,hl,show (i + 1) * 3 + j - 3 = i * 3 + j by omega,Ed L i j (by simpa using h) hj];rfl
theorem Ss : ∀ (L : List Xl),(L.flatMap Ye).length = L.length * 3
 | [] => rfl
 | r :: L => by
  have hl : (Ye r).length = 3:=rfl;rw [List.flatMap_cons,List.length_append,Ss L,hl,List.length_cons];omega
theorem El (d : Array Xl) (t : Nat) (h : t < d.size * 3) : (Vh d)[t]? = some (flatK Ye 3 d)[t]!:=by
 have e : t = t / 3 * 3 + t % 3:=by omega
 have h1 : t / 3 < d.size:=by omega
 rw [get_flatK _ _ _ _ h];unfold Vh
 conv => lhs;rw [e]
 rw [Ed d.toList (t / 3) (t % 3) (by simpa using h1) Qa]
 have e2 : d.toList.getD (t / 3) default = d[t / 3]!:=by
  simp [List.getD_eq_getElem?_getD,h1]
 rw [e2];have h3 : t % 3 < (Ye d[t / 3]!).length:=Nat.mod_lt _ (by decide);rw [List.getElem?_eq_getElem h3];exact congrArg some (getElem!_pos (Ye d[t / 3]!) (t % 3) h3).symm
theorem Qhy (d : Array Xl) : (flatK Ye 3 d).toList = Vh d:=by
 apply List.ext_getElem?;intro t;by_cases h : t < d.size * 3
 ·rw [El d t h,Array.getElem?_toList,getElem!_pos _ t (by simpa using h),Array.getElem?_eq_getElem (by simpa using h)]
 ·rw [List.getElem?_eq_none (by simpa using h),List.getElem?_eq_none];unfold Vh;rw [Ss]
  simpa using h
theorem Qiq {W : World} {base g cap : Nat} {t : TypeId} {d : Array Xl} (h : W.ownsRow base t 3 (.slice (some ⟨g,0,none⟩) d.size cap) d.size (Vh d)) : HoldsK Ye 3 W g 0 d ∧ g < W.heap.size ∧ base ≤ g:=by
 have h':=h;rcases h.2 with ⟨e,_⟩ | ⟨g',cap',cur,e,hb,hg,hn,hm,hs,ht⟩
 ·cases e
 ·obtain ⟨rfl, rfl⟩ : g = g' ∧ cap = cap' := by simpa using e
  have HH : Qc W g t cur:=hg;refine ⟨fun j hj => ⟨?_,?_⟩,HH.lt,hb⟩
  ·have hj' : j < d.size * 3 := by simpa using hj
   rw [Nat.zero_add,World.ownsRow.cellAt h' j hj',El d j hj'];rfl
  ·rw [Nat.zero_add];exact HH.frozen j
theorem Qma {W : World} {base g cap n m : Nat} {t : TypeId} {xs : List Value} (h : W.ownsRow base t 3 (.slice (some ⟨g,0,none⟩) n cap) n xs) (d : Array Xl) (hd : d.size = n) (os : Array Obj) :
  W.grownBy (sortWorldK Ye 3 W g 0 m d os) (some g) ∧ (sortWorldK Ye 3 W g 0 m d os).ownsRow base t 3 (.slice (some ⟨g,0,none⟩) n cap) n (Vh d):=by
 rcases h.2 with ⟨e,_⟩ | ⟨g',cap',cur,e,hb,hg,hn,hm,hs,ht⟩
 ·cases e
 ·obtain ⟨rfl, rfl⟩ : g = g' ∧ cap = cap' := by simpa using e
  have hgl : g < W.heap.size:=(Array.getElem?_eq_some_iff.1 hg).1
  have hH : ∀ k,k < W.heap.size → (sortWorldK Ye 3 W g 0 m d os).heap[k]? = (W.heap.modify g (onCells (putCells id 0 (flatK Ye 3 d))))[k]?:=fun k hk => by
   show ((W.heap.modify g _) ++ os)[k]? = _
   rw [Array.getElem?_append_left (by simpa using hk)]
  refine ⟨⟨rfl,rfl,rfl,?_,fun k hk hne => ?_⟩,?_⟩
  ·show W.heap.size ≤ ((W.heap.modify g _) ++ os).size
   simp
  ·rw [hH k hk,Array.getElem?_modify,if_neg (fun e => hne (by rw [e]))]
  ·refine ⟨by unfold Vh; rw [Ss]; simp [hd], .inr ⟨g, cap, putCells id 0 (flatK Ye 3 d) cur, rfl, hb, ?_, hn, hm, by simp [putCells, hs], ?_⟩⟩
   ·rw [hH g hgl,Array.getElem?_modify,if_pos rfl,hg];rfl
   ·rw [← Qhy];apply List.ext_getElem?;intro k;rw [List.getElem?_take];by_cases hk : k < n * 3
    ·rw [if_pos hk];have hk2 : k < cur.size := by rw [hs]; omega
     have hk3 : k < (flatK Ye 3 d).size:=by simp [hd];exact hk
     simp [putCells,hk2,hd,hk]
    ·rw [if_neg hk,List.getElem?_eq_none (by simp [hd];omega)]
end
section
open Go Go.Shelf Go.Proofs
def Qmy : Go.Shelf.Ren:=⟨fun | 6 => 50 | 15 => 102 | 14 => 101 | 28 => 154 | 29 => 155 | 20 => 146 | 21 => 147 | 22 => 148 | 23 => 149 | 24 => 150 | 25 => 151 | 26 => 152 | 27 => 153 | 46 => 175 | 47 => 176 | 48 => 177 | 49 => 178 | 50 => 179 | 57 => 190 | n => n,fun | 22 => 43 | 24 => 47 | 25 => 135 | 3 => 3 | 39 => 190 | 0 => 0 | 53 => 243 | 55 => 245 | 4 => 4 | 46 => 236 | 45 => 235 | 50 => 240 | 5 => 5 | 9 => 9 | 66 => 266 | 70 => 180 | 76 => 286 | 77 => 183 | n => n,fun | n => n⟩
theorem Qc3 : Go.Proofs.SlLaysF0.n6 Tryz.prog Qmy:={
 mixed:=by kernel_rfl
 f6:=⟨Tryz.f50.name,by decide,Tryz.func50.trans (congrArg some (by kernel_rfl))⟩
 f14:=⟨Tryz.f101.name,by decide,Tryz.func101.trans (congrArg some (by kernel_rfl))⟩
 f15:=Tryz.func102.trans (congrArg some (by kernel_rfl))
 f20:=⟨Tryz.f146.name,by decide,Tryz.func146.trans (congrArg some (by kernel_rfl))⟩
 f21:=⟨Tryz.f147.name,by decide,Tryz.func147.trans (congrArg some (by kernel_rfl))⟩
 f22:=⟨Tryz.f148.name,by decide,Tryz.func148.trans (congrArg some (by kernel_rfl))⟩
 f23:=⟨Tryz.f149.name,by decide,Tryz.func149.trans (congrArg some (by kernel_rfl))⟩
 f24:=⟨Tryz.f150.name,by decide,Tryz.func150.trans (congrArg some (by kernel_rfl))⟩
 f25:=⟨Tryz.f151.name,by decide,Tryz.func151.trans (congrArg some (by kernel_rfl))⟩
 f26:=⟨Tryz.f152.name,by decide,Tryz.func152.trans (congrArg some (by kernel_rfl))⟩
 f27:=⟨Tryz.f153.name,by decide,Tryz.func153.trans (congrArg some (by kernel_rfl))⟩
 f28:=Tryz.func154.trans (congrArg some (by kernel_rfl))
 f29:=Tryz.func155.trans (congrArg some (by kernel_rfl))
 f46:=⟨Tryz.f175.name,by decide,Tryz.func175.trans (congrArg some (by kernel_rfl))⟩
 f47:=Tryz.func176.trans (congrArg some (by kernel_rfl))
 f48:=Tryz.func177.trans (congrArg some (by kernel_rfl))
 f49:=⟨Tryz.f178.name,by decide,Tryz.func178.trans (congrArg some (by kernel_rfl))⟩
 f50:=⟨Tryz.f179.name,by decide,Tryz.func179.trans (congrArg some (by kernel_rfl))⟩
 f57:=⟨Tryz.f190.name,by decide,Tryz.func190.trans (congrArg some (by kernel_rfl))⟩
 t0:=Tryz.underlying0
 a0:=Tryz.isAgg0
 z0:=Tryz.sizeOf0
 v0:=Tryz.zeroValue0
 t3:=Tryz.underlying3
 a3:=Tryz.isAgg3
 z3:=Tryz.sizeOf3
 v3:=Tryz.zeroValue3
 t4:=Tryz.underlying4
 a4:=Tryz.isAgg4
 z4:=Tryz.sizeOf4
 v4:=Tryz.zeroValue4
 t5:=Tryz.underlying5
 a5:=Tryz.isAgg5
 z5:=Tryz.sizeOf5
 v5:=Tryz.zeroValue5
 t9:=Tryz.underlying9
 a9:=Tryz.isAgg9
 z9:=Tryz.sizeOf9
 v9:=Tryz.zeroValue9
 t22:=Tryz.underlying43
 a22:=Tryz.isAgg43
 z22:=Tryz.sizeOf43
 v22:=Tryz.zeroValue43
 t25:=Tryz.underlying135
 a25:=Tryz.isAgg135
 z25:=Tryz.sizeOf135
 v25:=Tryz.zeroValue135
 t39:=Tryz.underlying190
 a39:=Tryz.isAgg190
 z39:=Tryz.sizeOf190
 v39:=Tryz.zeroValue190
 t45:=Tryz.underlying235
 a45:=Tryz.isAgg235
 z45:=Tryz.sizeOf235
 v45:=Tryz.zeroValue235
 t46:=Tryz.underlying236
 a46:=Tryz.isAgg236
 z46:=Tryz.sizeOf236
 v46:=Tryz.zeroValue236
 t50:=Tryz.underlying240
 a50:=Tryz.isAgg240
 z50:=Tryz.sizeOf240
 v50:=Tryz.zeroValue240
 t53:=Tryz.underlying243
 a53:=Tryz.isAgg243
 z53:=Tryz.sizeOf243
 v53:=Tryz.zeroValue243
 t55:=Tryz.underlying245
 a55:=Tryz.isAgg245
 z55:=Tryz.sizeOf245
 v55:=Tryz.zeroValue245
 t66:=Tryz.underlying266
 a66:=Tryz.isAgg266
 z66:=Tryz.sizeOf266
 v66:=Tryz.zeroValue266
 t70:=Tryz.underlying180
 a70:=Tryz.isAgg180
 z70:=Tryz.sizeOf180
 v70:=Tryz.zeroValue180
 t76:=Tryz.underlying286
 a76:=Tryz.isAgg286
 z76:=Tryz.sizeOf286
 v76:=Tryz.zeroValue286
 t77:=Tryz.underlying183
 a77:=Tryz.isAgg183
 z77:=Tryz.sizeOf183
 v77:=Tryz.zeroValue183 }
end
section
open Go Go.RowKit Go.Shelf Go.Sort Go.Proofs
theorem Qgm (g size : Nat) (W : World) : CmpLays Tryz.prog 51 #[] Ye 3 Ko g 0 size W :=
 fun _ _ _ _ x y => (Qgl x y _).mono (fun _ _ ⟨he,os',hw⟩ => ⟨he,0,os',hw⟩)
theorem Qmz {W : World} {base g cap : Nat} (d : Array Xl) (h : W.ownsRow base 47 3 (.slice (some ⟨g,0,none⟩) d.size cap) d.size (Vh d)) (hsz : d.size ≤ 1000000) :
  Calls Tryz.prog 50 #[.slice (some ⟨g,0,none⟩) d.size cap,.func (.func 51) #[] #[]] W fun e w' => e = .returned (.tuple #[]) ∧ ∃ (d' : Array Xl) (n : Nat) (os : Array Obj),PermIn 0 d.size d d' ∧ SortedIn (fun x y => decide (Ko x y < 0)) 0 d.size d' ∧ w' = sortWorldK Ye 3 W g 0 n d' os:=by
 obtain ⟨hH,hg,_⟩:=Qiq h;have eg : ∀ args w,(callFunc 51 args).run Tryz.prog w = .ok (.enter 51 args) w:=enters_of Tryz.func51 (by kernel_rfl) rfl;exact AnyQ.slices_SortFunc Qc3 3 Tryz.isAgg47 Tryz.sizeOf47 Ye (fun _ => rfl) (fun x v hv => C3 _ _ _ v hv) Ko Qgk 51 #[] g 0 cap d W eg (Qgm g d.size W) hH hg Qa
theorem Qm1 (W : World) : Calls Tryz.prog 50 #[.slice none 0 0,.func (.func 51) #[] #[]] W fun e w' => e = .returned (.tuple #[]) ∧ w' = W:=AnyF.slices_SortFunc_none Qc3 none 0 _ W
/-- A list of such issues, as an array. -/
theorem Qfk {L : List Z5} (hB : ∀ x ∈ L,IsB x) : ∃ d : Array Xl,d.toList.map (·.1) = L:=by
 induction L with
 | nil => exact ⟨#[],rfl⟩
 | cons x L ih =>
  obtain ⟨d,hd⟩:=ih (fun y hy => hB y (by simp [hy]));exact ⟨(⟨x,hB x (by simp)⟩ :: d.toList).toArray,by simp [hd]⟩
theorem Ej (d : Array Xl) : Vh d = (d.toList.map (·.1)).flatMap V3:=by
 unfold Vh;rw [List.flatMap_map];rfl
theorem Qm0 {W W0 : World} {k : Nat} {I : Option Addr} {L : List Z5} (h : Xm W0 W (.slice I L.length k) L) : (I = none ∧ k = 0 ∧ L = []) ∨ ∃ g,I = some ⟨g,0,none⟩:=by
 rcases h.2 with ⟨e,h0⟩ | ⟨g,cap,cur,e,_⟩
 ·simp only [Value.slice.injEq] at e;exact .inl ⟨e.1,e.2.2,List.eq_nil_of_length_eq_zero h0⟩
 ·simp at e;exact .inr ⟨g,e.1⟩
theorem Qmx {W0 W : World} {I : Option Addr} {k : Nat} {L : List Z5} (h : Xm W0 W (.slice I L.length k) L) (hB : ∀ x ∈ L,IsB x) (hl : L.length ≤ 1000000) :
  Calls Tryz.prog 50 #[.slice I L.length k,.func (.func 51) #[] #[]] W fun e w' => e = .returned (.tuple #[]) ∧ ∃ L' : List Z5,L'.length = L.length ∧ L.Perm L' ∧ L'.Pairwise (fun x y => ¬ Wq y x) ∧ W.grownBy w' (Value.slice I L.length k).ownBlock ∧ Xm W0 w' (.slice I L.length k) L':=by
 rcases Qm0 h with ⟨rfl,rfl,rfl⟩ | ⟨g,rfl⟩
 ·refine zc (Qm1 W) ?_;rintro e w' ⟨rfl,rfl⟩;exact ⟨rfl,[],rfl,List.Perm.refl _,List.Pairwise.nil,⟨rfl,rfl,rfl,Nat.le_refl _,fun _ _ _ => rfl⟩,h⟩
 ·obtain ⟨d, hd⟩ := Qfk hB;have hs : d.size = L.length := by rw [← hd]; simp
  unfold Xm at h;have h2:=h;rw [← hs] at h2;rw [← hd,← Ej] at h2;rw [← hs];refine zc (Qmz d h2 Qa) ?_;rintro e w' ⟨rfl,d',n,os,⟨p1,_,p3⟩,hso,rfl⟩;obtain ⟨hg,ho⟩:=Qma (m:=n) h2 d' p1 os;refine ⟨rfl,d'.toList.map (·.1),by rw [List.length_map];simpa using p1,?_,?_,hg,?_⟩
  ·rw [← hd];have e1 : (d'.extract 0 d.size).toList = d'.toList := by simp [← p1]
   have e2 : (d.extract 0 d.size).toList = d.toList:=by simp
   rw [e1,e2] at p3;exact p3.symm.map _
  ·rw [List.pairwise_map, List.pairwise_iff_getElem];intro i j hi hj hij;have hj' : j < d.size := by rw [← p1]; simpa using hj
   have:=hso i j (Nat.zero_le _) hij hj';simp only [decide_eq_false_iff_not,Gs] at this;rw [getElem!_pos d' j (by rw [p1];exact hj'),getElem!_pos d' i (by rw [p1];omega)] at this
   simpa using this
  ·unfold Xm;rw [← Ej,List.length_map,show d'.toList.length = d.size by simpa using p1];exact ho
end
section
theorem Qba {α : Type} [DecidableEq α] : ∀ {a b : List α},a.Nodup → (∀ x ∈ a,x ∈ b) → a.length ≤ b.length
 | [],_,_,_ => Nat.zero_le _
 | x :: a,b,h,hs => by
  obtain ⟨h1,h2⟩:=List.nodup_cons.1 h;have hx:=hs x List.mem_cons_self;have:=Qba (a:=a) (b:=b.erase x) h2 fun y hy => (List.mem_erase_of_ne (fun e => h1 (by rw [← e];exact hy))).2 (hs y (List.mem_cons_of_mem _ hy))
  rw [List.length_erase_of_mem hx] at this;have:=List.length_pos_of_mem hx;rw [List.length_cons];omega
/-- As many, and all in: then none is left out. -/
theorem Qa9 {α : Type} [DecidableEq α] {a b : List α} (h : a.Nodup) (hs : ∀ x ∈ a,x ∈ b) (hl : b.length ≤ a.length) {y : α} (hy : y ∈ b) : y ∈ a:=by
 by_cases e : y ∈ a
 ·exact e
 ·have:=Qba (a:=y :: a) (b:=b) (List.nodup_cons.2 ⟨e,h⟩) fun x hx => by
   rcases List.mem_cons.1 hx with rfl | hx
   ·exact hy
   ·exact hs x hx
  rw [List.length_cons] at this;omega
def Uf (H : ByteArray) (x : Dl) : Dl:=⟨x.on,!x.i,H,x.l⟩
def Xu (h : ByteArray) (p : Pd) : Pd:=⟨h,p.a,p.b,[],(p.d.filter fun x => decide (x.w = h)).map (Uf p.h),[]⟩
def Wr (h : ByteArray) (l : List Pd) : List Pd:=l.map (Xu h)
/-- The holder of the mirror. -/
def Wo (p : Pd) : ByteArray:=if 0 < p.d.length then (p.d.getD 0 Qw).w else ⟨#[122,122]⟩
def Wp (p : Pd) : ByteArray:=if Wo p = p.h then ⟨#[122,121]⟩ else Wo p
theorem Qio {c : Qd} {p : Pd} (h : Jp c p) : p.h ≠ Wp p:=by
 unfold Wp
 split
 ·rename_i e
  intro e2;unfold Wo at e
  split at e
  ·rename_i h0
   exact (h.l _ (Jg (z:=Qw) h0)).2.1 e
  ·rw [← e] at e2;exact absurd e2 (by decide)
 ·rename_i e;exact fun e2 => e e2.symm
/-- What a period is before any other is looked at. -/
def Bh (p q : Pd) : Prop:=p.h = q.h ∧ p.a = q.a ∧ p.b = q.b ∧ p.d = q.d
theorem Cx {c : Qd} : ∀ (l : List Pd) (q : Option Pd),(c.carR q l).2 = 0 → ∀ i,i < l.length → Bh ((c.carR q l).1.getD i Qh) (l.getD i Qh)
 | [],_,_,i,hi => absurd hi (by simp)
 | p :: r,q,h,i,hi => by
  cases h1 : (q.any fun q => !c.behV q p)
  ·by_cases h2 : (Qz (q.elim p.o (·.c)) p.d).2 = 0
   ·rw [Gl h1 h2] at h ⊢
    split at h
    ·rename_i h3;exact absurd h h3
    rename_i h3
    rw [if_neg h3]
    cases i with
    | zero => exact ⟨rfl,rfl,rfl,rfl⟩
    | succ i => exact Cx r (some (Yg q p)) (Decidable.not_not.1 h3) i (by simpa using hi)
   ·rw [Gm h1 h2] at h;exact absurd h h2
  ·rw [Gk h1] at h;exact absurd h (by simp)
theorem Qf1 {c : Qd} {l : List Pd} (h : (c.carryV l).2 = 0) : ∀ i,i < l.length → Bh ((c.carryV l).1.getD i Qh) (l.getD i Qh):=by
 unfold Qd.carryV at h ⊢
 split at h
 ·rename_i h1;exact absurd h h1
 rename_i h1
 rw [if_neg h1];exact Cx l none h
/-- One Jd of the archive: one holder, period behind period. -/
structure Ry (c : Qd) (l : List Pd) (H : ByteArray) : Prop where
 ok : ∀ i,i < l.length → Jp c (l.getD i Qh)
 sum : ∀ i,i < l.length → Qz (l.getD i Qh).o (l.getD i Qh).d = ((l.getD i Qh).c,0)
 one : ∀ i,i < l.length → (l.getD i Qh).h = H
 inc : ∀ j i,i < j → j < l.length → c.numV (l.getD i Qh).b < c.numV (l.getD j Qh).a
 lnk : ∀ i,i + 1 < l.length → (l.getD i Qh).c = (l.getD (i + 1) Qh).o
theorem Ez {c : Qd} {l : List Pd} (h : Ns c l) : Ry c l (l.getD 0 Qh).h:=by
 have ok : ∀ i,i < l.length → Jp c (l.getD i Qh) ∧ Qz (l.getD i Qh).o (l.getD i Qh).d = ((l.getD i Qh).c,0):=fun i hi => h.a _ (Jg hi)
 have nx : ∀ i,i + 1 < l.length → c.behV (l.getD i Qh) (l.getD (i + 1) Qh) = true ∧ (l.getD i Qh).c = (l.getD (i + 1) Qh).o:=fun i hi => by
  have:=Qaf hi h.l
  rwa [← Es hi,← Es (show i < l.length by omega)] at this
 have beh : ∀ i,i + 1 < l.length → (l.getD i Qh).h = (l.getD (i + 1) Qh).h ∧ c.numV (l.getD (i + 1) Qh).a = c.numV (l.getD i Qh).b + 1:=fun i hi => by
  have:=(nx i hi).1;unfold Qd.behV at this
  simpa [Bool.and_eq_true] using this
 refine ⟨fun i hi => (ok i hi).1,fun i hi => (ok i hi).2,fun i => ?_,fun j => ?_,fun i hi => (nx i hi).2⟩
 ·induction i with
  | zero => intro _;rfl
  | succ i ih => intro hi;rw [← (beh i hi).1];exact ih Qa
 ·induction j with
  | zero => intro i hi;omega
  | succ j ih =>
   intro i hi hj;have h1:=(beh j hj).2;by_cases e : i = j
   ·subst e;omega
   ·have h2:=ih i Qa Qa;have h3:=(ok j Qa).1.ab;omega
/-- The period before one, by what it is. -/
theorem Cm (c : Qd) (L : List Pd) (i : Nat) : ∀ n,
  (c.befK L i n = -1 ∧ ∀ j,j < n → (Ql L j).h = (Ql L i).h → ¬ c.numV (Ql L j).b < c.numV (Ql L i).a) ∨
  (0 ≤ c.befK L i n ∧ (c.befK L i n).toNat < n ∧ (Ql L (c.befK L i n).toNat).h = (Ql L i).h ∧ c.numV (Ql L (c.befK L i n).toNat).b < c.numV (Ql L i).a ∧
   ∀ j,j < n → (Ql L j).h = (Ql L i).h → c.numV (Ql L j).b < c.numV (Ql L i).a → c.numV (Ql L j).b ≤ c.numV (Ql L (c.befK L i n).toNat).b)
 | 0 => .inl ⟨rfl,fun j hj => by omega⟩
 | n + 1 => by
  have ih:=Cm c L i n;unfold Qd.befK;generalize c.befK L i n = r at ih ⊢;by_cases e : (Ql L n).h = (Ql L i).h
  ·rw [if_pos e];unfold Qd.befS;by_cases g : c.numV (Ql L n).b < c.numV (Ql L i).a ∧ (r < 0 ∨ c.numV (Ql L r.toNat).b < c.numV (Ql L n).b)
   ·rw [if_pos g]
    right
    rw [Int.toNat_natCast];refine ⟨by omega,by omega,e,g.1,fun j hj h1 h2 => ?_⟩;by_cases ej : j = n
    ·subst ej;omega
    ·rcases ih with ⟨_,h3⟩ | ⟨h3,_,_,_,h4⟩
     ·exact absurd h2 (h3 j Qa h1)
     ·have:=h4 j Qa h1 h2;omega
   ·rw [if_neg g];rcases ih with ⟨h0,h3⟩ | ⟨h3,h4,h5,h6,h7⟩
    ·refine .inl ⟨h0,fun j hj h1 h2 => ?_⟩;by_cases ej : j = n
     ·subst ej;exact g ⟨h2,.inl Qa⟩
     ·exact h3 j Qa h1 h2
    ·refine .inr ⟨h3, by omega, h5, h6, fun j hj h1 h2 => ?_⟩;by_cases ej : j = n
     ·subst ej;have : ¬ c.numV (Ql L r.toNat).b < c.numV (Ql L j).b:=fun h8 => g ⟨h2,.inr h8⟩
      omega
     ·exact h7 j Qa h1 h2
  ·rw [if_neg e];rcases ih with ⟨h0,h3⟩ | ⟨h3,h4,h5,h6,h7⟩
   ·refine .inl ⟨h0,fun j hj h1 h2 => ?_⟩;by_cases ej : j = n
    ·subst ej;exact e h1
    ·exact h3 j Qa h1 h2
   ·refine .inr ⟨h3, by omega, h5, h6, fun j hj h1 h2 => ?_⟩;by_cases ej : j = n
    ·subst ej;exact absurd h1 e
    ·exact h7 j Qa h1 h2
/-- Both halves. -/
structure K9 (c : Qd) (k b : List Pd) (H h : ByteArray) : Prop where
 hv : c.valid = true
 hk : Ry c k H
 hb : Ry c b h
 ne : H ≠ h
 len : b.length = k.length
 same : ∀ i,i < k.length → (b.getD i Qh).d = (Xu h (k.getD i Qh)).d
theorem U7 {k b : List Pd} {i : Nat} (h : i < k.length) : Ql (k ++ b) i = k.getD i Qh:=by
 unfold Ql;simp [List.getD_eq_getElem?_getD,List.getElem?_append_left h]
theorem Kz {k b : List Pd} {i : Nat} (h : k.length ≤ i) : Ql (k ++ b) i = b.getD (i - k.length) Qh:=by
 unfold Ql;simp [List.getD_eq_getElem?_getD,List.getElem?_append_right h]
section
variable {c : Qd} {k b : List Pd} {H h : ByteArray} (B : K9 c k b H h)
include B
theorem Vz {i : Nat} (hi : i < k.length) : (Ql (k ++ b) i).h = H:=by rw [U7 hi];exact B.hk.one i hi
theorem Vf {i : Nat} (h0 : k.length ≤ i) (hi : i < (k ++ b).length) : (Ql (k ++ b) i).h = h:=by
 rw [List.length_append] at hi;rw [Kz h0];exact B.hb.one _ Qa
theorem Tt {i j : Nat} (hi : i < (k ++ b).length) (hj : j < (k ++ b).length) (e : (Ql (k ++ b) i).h = (Ql (k ++ b) j).h) : i < k.length ↔ j < k.length:=by
 by_cases h1 : i < k.length <;> by_cases h2 : j < k.length
 ·exact ⟨fun _ => h2,fun _ => h1⟩
 ·rw [Vz B h1,Vf B Qa hj] at e;exact absurd e B.ne
 ·rw [Vf B Qa hi,Vz B h2] at e;exact absurd e.symm B.ne
 ·exact ⟨fun g => absurd g h1,fun g => absurd g h2⟩
theorem V0 {i : Nat} (hi : i < (k ++ b).length) : Jp c (Ql (k ++ b) i) ∧ Qz (Ql (k ++ b) i).o (Ql (k ++ b) i).d = ((Ql (k ++ b) i).c,0):=by
 by_cases h1 : i < k.length
 ·rw [U7 h1];exact ⟨B.hk.ok i h1,B.hk.sum i h1⟩
 ·rw [List.length_append] at hi;rw [Kz Qa];exact ⟨B.hb.ok _ Qa,B.hb.sum _ Qa⟩
theorem Gi {i j : Nat} (hij : i < j) (hj : j < (k ++ b).length) (e : (Ql (k ++ b) i).h = (Ql (k ++ b) j).h) : c.numV (Ql (k ++ b) i).b < c.numV (Ql (k ++ b) j).a:=by
 have hh:=Tt B Qa hj e;by_cases h1 : j < k.length
 ·rw [U7 h1,U7 (hh.2 h1)];exact B.hk.inc j i hij h1
 ·have h2 : ¬ i < k.length:=fun g => h1 (hh.1 g)
  rw [List.length_append] at hj;rw [Kz Qa,Kz Qa];exact B.hb.inc _ _ Qa Qa
theorem Qfg {i : Nat} (hi : i + 1 < (k ++ b).length) (e : (Ql (k ++ b) i).h = (Ql (k ++ b) (i + 1)).h) : (Ql (k ++ b) i).c = (Ql (k ++ b) (i + 1)).o:=by
 have hh:=Tt B Qa hi e;by_cases h1 : i + 1 < k.length
 ·rw [U7 h1,U7 Qa];exact B.hk.lnk i h1
 ·have h2 : ¬ i < k.length:=fun g => h1 (hh.1 g)
  rw [List.length_append] at hi;rw [Kz Qa,Kz Qa,show i + 1 - k.length = (i - k.length) + 1 by omega];exact B.hb.lnk _ Qa
theorem Qfd {i j : Nat} (hij : i < j) (hj : j < (k ++ b).length) (e : (Ql (k ++ b) i).h = (Ql (k ++ b) j).h) : (Ql (k ++ b) (j - 1)).h = (Ql (k ++ b) j).h:=by
 have hh:=Tt B Qa hj e;by_cases h1 : j < k.length
 ·rw [Vz B h1,Vz B Qa]
 ·have h2 : ¬ i < k.length:=fun g => h1 (hh.1 g)
  rw [Vf B Qa hj,Vf B Qa Qa]
theorem Qfi {i : Nat} (hi : i < (k ++ b).length) : c.opB (k ++ b) i = false:=by
 unfold Qd.opB;rw [← Ck];rcases Cm c (k ++ b) i (k ++ b).length with ⟨h1,_⟩ | ⟨h1,h2,h3,h4,h5⟩
 ·rw [h1];rfl
 ·rw [decide_eq_true h1,Bool.true_and,Bool.not_eq_false',decide_eq_true_eq];generalize (c.befK (k ++ b) i (k ++ b).length).toNat = r at *
  have hr : r < i:=by
   rcases Nat.lt_trichotomy r i with g | g | g
   ·exact g
   ·subst g;have:=(V0 B hi).1.ab;omega
   ·have g1:=Gi B g h2 h3.symm;have g2:=(V0 B hi).1.ab;have g3:=(V0 B h2).1.ab;omega
  have e1:=Qfd B hr hi h3;have e2:=Gi B (i:=i - 1) (j:=i) Qa hi e1;have e3:=h5 (i - 1) Qa e1 e2
  have e4 : r = i - 1:=by
   by_cases e : r = i - 1
   ·exact e
   ·have g1:=Gi B (i:=r) (j:=i - 1) Qa Qa (h3.trans e1.symm);have g2:=(V0 B (i:=i - 1) Qa).1.ab;omega
  have:=Qfg B (i:=i - 1) Qa (by rw [show i - 1 + 1 = i by omega];exact e1);rw [show i - 1 + 1 = i by omega] at this;rw [e4];exact this
theorem Qfj {i : Nat} (hi : i < (k ++ b).length) : c.ovB (k ++ b) i = false:=by
 unfold Qd.ovB;rw [List.any_eq_false];intro j hj;unfold Yk at hj;rw [List.mem_filter,decide_eq_true_eq] at hj;simp only [Bool.and_eq_true,decide_eq_true_eq];rintro ⟨⟨h1,h2⟩,h3⟩;have:=Gi B h1 hi hj.2;omega
theorem both_A {i : Nat} (hi : i < (k ++ b).length) : c.isA (k ++ b) i = []:=by
 have hs : Kc (Ql (k ++ b) i) = false:=by unfold Kc;rw [(V0 B hi).2];simp
 unfold Qd.isA;rw [hs,Qfi B hi,Qfj B hi];rfl
end
/-- Which deals of a period are with a holder. -/
def X7 (p : Pd) (h : ByteArray) : List Nat:=(List.range p.d.length).filter fun j => decide ((p.d.getD j Qw).w = h)
theorem Bt {c : Qd} {l : List Pd} (hv : c.valid = true) (hok : ∀ p ∈ l,Jp c p) (h32 : l.length ≤ 32) : c.archE l = 0:=by
 have hc : c.chk = 0:=by unfold Qd.chk;rw [hv];rfl
 have hp : c.persE l = 0:=by unfold Qd.persE;exact if_pos (List.all_eq_true.2 fun p hp => Ql4 (hok p hp))
 unfold Qd.archE;rw [hc,hp,if_neg (by simp),if_neg Qa]
theorem Cd {c : Qd} {l : List Pd} {n : Int} (h : c.archE l = 0) (hn : 0 ≤ n) (h4 : n ≤ 400) : c.audE l n = 0:=by
 unfold Qd.audE;rw [h,if_neg (by simp),if_neg Qa]
theorem Qmb (l : List Dl) : (List.range l.length).map (fun j => l.getD j Qw) = l:=by
 refine List.ext_getElem (by simp) fun i h1 h2 => ?_
 simp [List.getD_eq_getElem?_getD,h2]
theorem Ei (p : Pd) (h : ByteArray) : (p.d.filter fun x => decide (x.w = h)) = (X7 p h).map fun j => p.d.getD j Qw:=by
 conv => lhs;rw [← Qmb p.d]
 rw [List.filter_map];rfl
theorem Im {p : Pd} {h : ByteArray} {j : Nat} : j ∈ X7 p h ↔ j < p.d.length ∧ (p.d.getD j Qw).w = h:=by
 unfold X7;rw [List.mem_filter,List.mem_range,decide_eq_true_eq]
theorem Qis (p : Pd) (h : ByteArray) : (X7 p h).Nodup:=by
 unfold X7;exact List.Pairwise.filter _ List.nodup_range
theorem Qar (p : Pd) (h : ByteArray) : (Xu h p).d.length = (X7 p h).length:=by
 unfold Xu;rw [Ei];simp
theorem Qj8 {p : Pd} {h : ByteArray} {t : Nat} (ht : t < (X7 p h).length) : (Xu h p).d.getD t Qw = Uf p.h (p.d.getD ((X7 p h).getD t 0) Qw):=by
 unfold Xu;rw [Ei];simp [List.getD_eq_getElem?_getD,ht]
/-- The deals between both holders, each with its counterpart. -/
def QL (k : List Pd) (h : ByteArray) : List (Nat × Nat):=(List.range k.length).flatMap fun i => (List.range (X7 (k.getD i Qh) h).length).map fun t => (i,t)
theorem Mc {k : List Pd} {h : ByteArray} {q : Nat × Nat} : q ∈ QL k h ↔ q.1 < k.length ∧ q.2 < (X7 (k.getD q.1 Qh) h).length:=by
 unfold QL;rw [List.mem_flatMap]
 constructor
 ·rintro ⟨i,hi,hq⟩;obtain ⟨t,ht,rfl⟩:=List.mem_map.1 hq;exact ⟨List.mem_range.1 hi,List.mem_range.1 ht⟩
 ·rintro ⟨h1,h2⟩;exact ⟨q.1,List.mem_range.2 h1,List.mem_map.2 ⟨q.2,List.mem_range.2 h2,rfl⟩⟩
theorem Qee (k : List Pd) (h : ByteArray) : (QL k h).Nodup:=by
 unfold QL;refine List.pairwise_flatMap.2 ⟨fun i _ => ?_,?_⟩
 ·refine List.pairwise_map.2 (List.Pairwise.imp (fun {a b} hab e => hab (Prod.mk.inj e).2) List.nodup_range)
 ·refine List.Pairwise.imp (fun {a b} hab x hx y hy e => ?_) (List.nodup_range (n:=k.length));obtain ⟨s,_,rfl⟩:=List.mem_map.1 hx;obtain ⟨t,_,rfl⟩:=List.mem_map.1 hy;exact hab (Prod.mk.inj e).1
def f1 (k : List Pd) (h : ByteArray) (q : Nat × Nat) : Rf:=(q.1,(X7 (k.getD q.1 Qh) h).getD q.2 0)
def f2 (k : List Pd) (q : Nat × Nat) : Rf:=(k.length + q.1,q.2)
theorem f1_inj {k : List Pd} {h : ByteArray} {q r : Nat × Nat} (hq : q ∈ QL k h) (hr : r ∈ QL k h) (e : f1 k h q = f1 k h r) : q = r:=by
 obtain ⟨i,t⟩:=q;obtain ⟨j,s⟩:=r;have hq:=(Mc.1 hq).2;have hr:=(Mc.1 hr).2;unfold f1 at e;obtain ⟨e1,e2⟩:=Prod.mk.inj e
 simp only at e1 e2 hq hr
 subst e1;refine Prod.ext rfl ?_
 show t = s
 generalize hI : X7 (k.getD i Qh) h = I at *;have nd : I.Nodup:=by rw [← hI];exact Qis _ _
 have e3 : I.getD t 0 = I[t]:=by simp [List.getD_eq_getElem?_getD,hq]
 have e4 : I.getD s 0 = I[s]:=by simp [List.getD_eq_getElem?_getD,hr]
 rw [e3,e4] at e2;rcases Nat.lt_trichotomy t s with g | g | g
 ·exact absurd e2 (List.pairwise_iff_getElem.1 nd t s hq hr g)
 ·exact g
 ·exact absurd e2.symm (List.pairwise_iff_getElem.1 nd s t hr hq g)
theorem f2_inj {k : List Pd} {q r : Nat × Nat} (e : f2 k q = f2 k r) : q = r:=by
 unfold f2 at e;obtain ⟨e1,e2⟩:=Prod.mk.inj e;exact Prod.ext Qa e2
section
variable {c : Qd} {k b : List Pd} {H h : ByteArray} (B : K9 c k b H h)
include B
omit B in
theorem Eg {q : Nat × Nat} (hq : q ∈ QL k h) : (f1 k h q).1 < k.length ∧ (f1 k h q).2 < (Ql (k ++ b) (f1 k h q).1).d.length ∧ (Q4 (k ++ b) (f1 k h q)).w = h:=by
 obtain ⟨h1,h2⟩:=Mc.1 hq;have h3 : (X7 (k.getD q.1 Qh) h).getD q.2 0 ∈ X7 (k.getD q.1 Qh) h:=Jg h2;obtain ⟨h4,h5⟩:=Im.1 h3;refine ⟨h1,?_,?_⟩
 ·show _ < (Ql (k ++ b) q.1).d.length
  rw [U7 h1];exact h4
 ·show ((Ql (k ++ b) q.1).d.getD _ Qw).w = h
  rw [U7 h1];exact h5
theorem f2_at {q : Nat × Nat} (hq : q ∈ QL k h) : (f2 k q).1 < (k ++ b).length ∧ (f2 k q).2 < (Ql (k ++ b) (f2 k q).1).d.length ∧ Q4 (k ++ b) (f2 k q) = Uf H (Q4 (k ++ b) (f1 k h q)):=by
 obtain ⟨h1,h2⟩:=Mc.1 hq;have e : Ql (k ++ b) (k.length + q.1) = b.getD q.1 Qh:=by rw [Kz Qa,show k.length + q.1 - k.length = q.1 by omega]
 have hd:=B.same q.1 h1;refine ⟨?_,?_,?_⟩
 ·show k.length + q.1 < _
  rw [List.length_append,B.len];omega
 ·show q.2 < (Ql (k ++ b) (k.length + q.1)).d.length
  rw [e,hd,Qar];exact h2
 ·show (Ql (k ++ b) (k.length + q.1)).d.getD q.2 Qw = Uf H ((Ql (k ++ b) q.1).d.getD _ Qw)
  rw [e,hd,Qj8 h2,U7 h1,B.hk.one q.1 h1];rfl
/-- The pairs of a deal and its counterpart. -/
def Uy (k b : List Pd) (h : ByteArray) (q : Nat × Nat) : Rf × Rf:=if (Q4 (k ++ b) (f1 k h q)).i = true then (f2 k q,f1 k h q) else (f1 k h q,f2 k q)
theorem Gh : ∀ p ∈ k ++ b,Jp c p:=fun p hp => by
 obtain ⟨i,hi,rfl⟩:=Km (z:=Qh) hp;exact (V0 B hi).1
theorem Qj6 {n : Int} (hn : 0 ≤ n) {q : Nat × Nat} (hq : q ∈ QL k h) : (Uy k b h q).1 ∈ Zf (k ++ b) false ∧ (Uy k b h q).2 ∈ Zf (k ++ b) true ∧ c.mayB (k ++ b) n (Uy k b h q).1 (Uy k b h q).2 = true:=by
 obtain ⟨a1,a2,a3⟩:=Eg hq;obtain ⟨b1,b2,b3⟩:=f2_at B hq;have a0 : (f1 k h q).1 < (k ++ b).length:=by rw [List.length_append];omega
 have ha : (Ql (k ++ b) (f1 k h q).1).h = H:=Vz B a1;have hb : (Ql (k ++ b) (f2 k q).1).h = h:=Vf B (by show k.length ≤ k.length + q.1;omega) b1;have e1 : (Q4 (k ++ b) (f2 k q)).w = H:=by rw [b3];rfl
 have e2 : (Q4 (k ++ b) (f2 k q)).l = (Q4 (k ++ b) (f1 k h q)).l:=by rw [b3];rfl
 have e3 : (Q4 (k ++ b) (f2 k q)).on = (Q4 (k ++ b) (f1 k h q)).on:=by rw [b3];rfl
 have e4 : (Q4 (k ++ b) (f2 k q)).i = !(Q4 (k ++ b) (f1 k h q)).i:=by rw [b3];rfl
 unfold Uy;unfold Ql at ha hb a2 b2;cases hi : (Q4 (k ++ b) (f1 k h q)).i
 ·rw [if_neg (by decide)];refine ⟨Y2.2 ⟨a0,a2,hi⟩,Y2.2 ⟨b1,b2,by rw [e4,hi];rfl⟩,?_⟩;unfold Qd.mayB;simp only [a3,hb,e1,ha,e2,e3,decide_true,Bool.and_true,Bool.true_and,Int.sub_self];simp [hn]
 ·rw [if_pos rfl];refine ⟨Y2.2 ⟨b1,b2,by rw [e4,hi];rfl⟩,Y2.2 ⟨a0,a2,hi⟩,?_⟩;unfold Qd.mayB;simp only [a3,hb,e1,ha,e2,e3,decide_true,Bool.and_true,Bool.true_and,Int.sub_self];simp [hn]
omit B in
theorem Qj7 {q r : Nat × Nat} (hq : q ∈ QL k h) (hr : r ∈ QL k h) (hne : q ≠ r) : (Uy k b h q).1 ≠ (Uy k b h r).1 ∧ (Uy k b h q).2 ≠ (Uy k b h r).2:=by
 have n1 : f1 k h q ≠ f1 k h r:=fun e => hne (f1_inj hq hr e)
 have n2 : f2 k q ≠ f2 k r:=fun e => hne (f2_inj e)
 have n3 : ∀ {u v : Nat × Nat},u ∈ QL k h → f1 k h u ≠ f2 k v:=fun {u v} hu e => by
  have h1:=(Eg (b:=b) hu).1;rw [e] at h1;have : k.length ≤ (f2 k v).1:=by show k.length ≤ k.length + v.1;omega
  omega
 unfold Uy
 split <;> split
 ·exact ⟨n2,n1⟩
 ·exact ⟨fun e => n3 hr e.symm,n3 hq⟩
 ·exact ⟨n3 hq,fun e => n3 hr e.symm⟩
 ·exact ⟨n1,n2⟩
theorem Qj9 {n : Int} (hn : 0 ≤ n) : (QL k h).length ≤ (c.matchL (k ++ b) n).length:=by
 have:=Qj2 (M:=(QL k h).map fun q => X8 (Uy k b h q)) (days:=n) B.hv (Gh B) ?_
 ·simpa using this
 refine List.all_eq_true.2 fun i hi => ?_
 have hi : i < (QL k h).length:=by simpa using hi
 rw [Oh (z:=(0,0)) hi];have hq:=Jg (z:=((0,0) : Nat × Nat)) hi;obtain ⟨m1,m2,m3⟩:=Qj6 B hn hq;rw [Bool.and_eq_true];refine ⟨?_,List.all_eq_true.2 fun j hj => ?_⟩
 ·rw [← m3];exact Qap B.hv (Gh B) m1 m2
 ·have hj : j < i := by simpa using hj
  rw [Oh (z:=(0,0)) hi,Oh (z:=(0,0)) (show j < (QL k h).length by omega)];have hq':=Jg (z:=((0,0) : Nat × Nat)) (show j < (QL k h).length by omega)
  have hne : (QL k h).getD j (0,0) ≠ (QL k h).getD i (0,0):=by
   have:=List.pairwise_iff_getElem.1 (Qee k h) j i Qa hi hj
   simpa [List.getD_eq_getElem?_getD,hi,show j < (QL k h).length by omega] using this
  obtain ⟨g1,g2⟩:=Qj7 hq' hq hne;simp only [Bool.not_eq_true',Bool.or_eq_false_iff,decide_eq_false_iff_not];exact ⟨fun e => g1 (Qcn e),fun e => g2 (Qcn e)⟩
end
/-- The part of a pair that lies in the first Jd, and the other one. -/
def c1 (k : List Pd) (p : Rf × Rf) : Rf:=if p.1.1 < k.length then p.1 else p.2
def c2 (k : List Pd) (p : Rf × Rf) : Rf:=if p.1.1 < k.length then p.2 else p.1
/-- What a pair of the matching is. -/
theorem Pq {c : Qd} {l : List Pd} {n : Int} {p : Rf × Rf} (h : p ∈ c.matchL l n) : p.1 ∈ Zf l false ∧ p.2 ∈ Zf l true ∧ c.mayB l n p.1 p.2 = true:=by
 obtain ⟨_,hM,_,_⟩:=Sa (no:=(Zf l false).length) (Gb c l n);unfold Qd.matchL at h;obtain ⟨q,hq,rfl⟩:=List.mem_map.1 h;obtain ⟨a1,a2,_⟩:=hM.a q hq;obtain ⟨b1,b2⟩:=Gc.1 a2;exact ⟨Jg a1.2,Jg b1,b2⟩
theorem Qao (c : Qd) (l : List Pd) (n : Int) : (c.matchL l n).Pairwise fun p q => p.1 ≠ q.1 ∧ p.2 ≠ q.2:=by
 obtain ⟨_,hM,_,_⟩:=Sa (no:=(Zf l false).length) (Gb c l n);unfold Qd.matchL;refine List.pairwise_map.2 (List.pairwise_iff_getElem.2 fun i j hi hj hij => ?_);have ai:=hM.a _ (List.getElem_mem hi);have aj:=hM.a _ (List.getElem_mem hj);have ho:=List.pairwise_iff_getElem.1 hM.o i j hi hj hij;have hii:=List.pairwise_iff_getElem.1 hM.i i j hi hj hij;exact ⟨fun e => ho (Qck ai.1.2 aj.1.2 e),fun e => hii (Qck (Gc.1 ai.2.1).1 (Gc.1 aj.2.1).1 e)⟩
section
variable {c : Qd} {k b : List Pd} {H h : ByteArray} (B : K9 c k b H h)
include B
omit B in
theorem S5 {r : Rf} {s : Bool} (hr : r ∈ Zf (k ++ b) s) (h1 : r.1 < k.length) (hw : (Q4 (k ++ b) r).w = h) : r ∈ (QL k h).map (f1 k h):=by
 obtain ⟨_,h2,_⟩:=Y2.1 hr;have e : (k ++ b).getD r.1 Qh = k.getD r.1 Qh:=U7 h1;have hm : r.2 ∈ X7 (k.getD r.1 Qh) h:=Im.2 ⟨by rw [← e];exact h2,by rw [← e];exact hw⟩;obtain ⟨t,ht,e2⟩:=Km (z:=0) hm;exact List.mem_map.2 ⟨(r.1,t),Mc.2 ⟨h1,ht⟩,Prod.ext rfl e2⟩
theorem S7 {r : Rf} {s : Bool} (hr : r ∈ Zf (k ++ b) s) (h1 : k.length ≤ r.1) : r ∈ (QL k h).map (f2 k):=by
 obtain ⟨h0,h2,_⟩:=Y2.1 hr;have e : (k ++ b).getD r.1 Qh = b.getD (r.1 - k.length) Qh:=Kz h1;rw [List.length_append,B.len] at h0;rw [e,B.same _ Qa,Qar] at h2;exact List.mem_map.2 ⟨(r.1 - k.length,r.2),Mc.2 ⟨by show r.1 - k.length < _;omega,h2⟩,Prod.ext (by show k.length + (r.1 - k.length) = r.1;omega) rfl⟩
theorem Qb0 {n : Int} {p : Rf × Rf} (hp : p ∈ c.matchL (k ++ b) n) : c1 k p ∈ (QL k h).map (f1 k h) ∧ c2 k p ∈ (QL k h).map (f2 k):=by
 obtain ⟨m1,m2,m3⟩:=Pq hp;unfold Qd.mayB at m3;simp only [Bool.and_eq_true,decide_eq_true_eq] at m3;obtain ⟨⟨⟨⟨w1,w2⟩,_⟩,_⟩,_⟩:=m3;obtain ⟨x1,x2,_⟩:=Y2.1 m1;obtain ⟨y1,y2,_⟩:=Y2.1 m2;have hne : (Ql (k ++ b) p.1.1).h ≠ (Ql (k ++ b) p.2.1).h:=fun e => ((V0 B x1).1.l _ (Jg (z:=Qw) x2)).2.1 (w1.trans e.symm)
 unfold c1 c2;by_cases g : p.1.1 < k.length
 ·rw [if_pos g,if_pos g]
  have g2 : k.length ≤ p.2.1:=by
   refine Nat.le_of_not_lt fun g3 => hne ?_
   rw [Vz B g,Vz B g3]
  refine ⟨S5 m1 g ?_,S7 B m2 g2⟩;rw [w1];exact Vf B g2 y1
 ·rw [if_neg g,if_neg g]
  have g2 : p.2.1 < k.length:=by
   refine Nat.lt_of_not_le fun g3 => hne ?_
   rw [Vf B Qa x1,Vf B g3 y1]
  refine ⟨S5 m2 g2 ?_,S7 B m1 Qa⟩;rw [w2];exact Vf B Qa x1
omit B in
theorem G0 {n : Int} {p q : Rf × Rf} (hp : p ∈ c.matchL (k ++ b) n) (hq : q ∈ c.matchL (k ++ b) n) : p.1 ≠ q.2:=fun e => by
 have h1:=(Y2.1 (Pq hp).1).2.2;have h2:=(Y2.1 (Pq hq).2.1).2.2;rw [e,h2] at h1;exact absurd h1 (by decide)
omit B in
theorem Qfn (n : Int) : ((c.matchL (k ++ b) n).map (c1 k)).Nodup:=by
 refine List.pairwise_map.2 (List.pairwise_iff_getElem.2 fun i j hi hj hij => ?_);obtain ⟨g1,g2⟩:=List.pairwise_iff_getElem.1 (Qao c (k ++ b) n) i j hi hj hij;have mi:=List.getElem_mem hi;have mj:=List.getElem_mem hj;unfold c1
 split <;> split
 ·exact g1
 ·exact G0 mi mj
 ·exact fun e => G0 mj mi e.symm
 ·exact g2
omit B in
theorem Qfo (n : Int) : ((c.matchL (k ++ b) n).map (c2 k)).Nodup:=by
 refine List.pairwise_map.2 (List.pairwise_iff_getElem.2 fun i j hi hj hij => ?_);obtain ⟨g1,g2⟩:=List.pairwise_iff_getElem.1 (Qao c (k ++ b) n) i j hi hj hij;have mi:=List.getElem_mem hi;have mj:=List.getElem_mem hj;unfold c2
 split <;> split
 ·exact g2
 ·exact fun e => G0 mj mi e.symm
 ·exact G0 mi mj
 ·exact g1
theorem Cr {n : Int} (hn : 0 ≤ n) {r : Rf} (hr : r ∈ (QL k h).map (f1 k h) ∨ r ∈ (QL k h).map (f2 k)) : Ky (c.matchL (k ++ b) n) r = true:=by
 have hl:=Qj9 B hn
 have : ∃ p ∈ c.matchL (k ++ b) n,c1 k p = r ∨ c2 k p = r:=by
  rcases hr with hr | hr
  ·have:=Qa9 (Qfn n) (fun x hx => by
    obtain ⟨p,hp,rfl⟩:=List.mem_map.1 hx;exact (Qb0 B hp).1) (by simpa using hl) hr
   obtain ⟨p,hp,e⟩:=List.mem_map.1 this;exact ⟨p,hp,.inl e⟩
  ·have:=Qa9 (Qfo n) (fun x hx => by
    obtain ⟨p,hp,rfl⟩:=List.mem_map.1 hx;exact (Qb0 B hp).2) (by simpa using hl) hr
   obtain ⟨p,hp,e⟩:=List.mem_map.1 this;exact ⟨p,hp,.inr e⟩
 obtain ⟨p,hp,e⟩:=this;refine List.any_eq_true.2 ⟨p,hp,?_⟩;rw [Bool.or_eq_true,decide_eq_true_eq,decide_eq_true_eq];unfold c1 c2 at e;by_cases g : p.1.1 < k.length
 ·rw [if_pos g,if_pos g] at e;exact e
 ·rw [if_neg g,if_neg g] at e;exact e.symm
theorem Qfe {n : Int} (hn : 0 ≤ n) {i j : Nat} (hi : i < (k ++ b).length) (hj : j < (Ql (k ++ b) i).d.length) : c.dealB (k ++ b) (c.matchL (k ++ b) n) i j = false:=by
 unfold Qd.dealB;rw [Bool.and_eq_false_iff];have hr : ((i,j) : Rf) ∈ Zf (k ++ b) (Q4 (k ++ b) (i,j)).i:=Y2.2 ⟨hi,hj,rfl⟩;by_cases h1 : i < k.length
 ·by_cases h2 : (Q4 (k ++ b) (i,j)).w = h
  ·right
   rw [Cr B hn (.inl (S5 hr h1 h2))];rfl
  ·left
   have h3:=((V0 B hi).1.l _ (Jg (z:=Qw) hj)).2.1;rw [Vz B h1] at h3;unfold Qd.keptB;rw [List.any_eq_false];intro m hm;unfold Yk at hm;rw [List.mem_filter,List.mem_range,decide_eq_true_eq] at hm
   exfalso
   by_cases h4 : m < k.length
   ·rw [Vz B h4] at hm;exact h3 hm.2.symm
   ·rw [Vf B Qa hm.1] at hm;exact h2 hm.2.symm
 ·right
  rw [Cr B hn (.inr (S7 B hr (by show k.length ≤ i;omega)))];rfl
theorem Cp {n : Int} (hn : 0 ≤ n) {i : Nat} (hi : i < (k ++ b).length) : ∀ m,m ≤ (Ql (k ++ b) i).d.length → c.isD (k ++ b) (c.matchL (k ++ b) n) i m = []
 | 0,_ => rfl
 | m + 1,hm => by
  unfold Qd.isD;rw [Cp hn hi m Qa,Qfe B hn hi Qa];rfl
theorem Qfc {n : Int} (hn : 0 ≤ n) (h4 : n ≤ 400) (h32 : (k ++ b).length ≤ 32) : c.auditV (k ++ b) n = ([],0):=by
 have hE : c.audE (k ++ b) n = 0:=Cd (Bt B.hv (Gh B) h32) hn h4;unfold Qd.auditV;rw [hE,if_neg (by simp)]
 have : ∀ m,m ≤ (k ++ b).length → c.audN (k ++ b) (c.matchL (k ++ b) n) m = []:=fun m => by
  induction m with
  | zero => intro _;rfl
  | succ m ih =>
   intro hm;unfold Qd.audN Qd.isP;rw [ih Qa,both_A B Qa,Cp B hn Qa _ (Nat.le_refl _)];rfl
 unfold Qd.audL;rw [this _ (Nat.le_refl _)]
end
/-- What all lots have together. -/
def Wc (l : List Lt) : Int:=(l.map (·.n)).sum
theorem Nk : ∀ (m : Nat) (a b : List Lt),a.length + b.length ≤ m → ((Jb m a b).map fun p => p.1.n + p.2.n).sum = Wc a + Wc b
 | 0,a,b,h => by
  have ha : a = []:=List.length_eq_zero_iff.1 Qa;have hb : b = []:=List.length_eq_zero_iff.1 Qa
  subst ha;subst hb;rfl
 | m + 1,[],[],_ => by simp [Jb,Wc]
 | m + 1,x :: a,[],h => by
  have:=Nk m a [] (by simpa using h)
  simp [Jb,Wc,Yt] at this ⊢;omega
 | m + 1,[],y :: b,h => by
  have:=Nk m [] b (by simpa using h)
  simp [Jb,Wc,Yt] at this ⊢;omega
 | m + 1,x :: a,y :: b,h => by
  simp only [List.length_cons] at h;rw [Jb]
  split
  ·have:=Nk m a (y :: b) (by simp only [List.length_cons];omega);simp [Wc,Yt] at this ⊢;omega
  split
  ·have:=Nk m (x :: a) b (by simp only [List.length_cons];omega);simp [Wc,Yt] at this ⊢;omega
  ·have:=Nk m a b Qa;simp [Wc] at this ⊢;omega
theorem Qdj : ∀ L : List (Lt × Lt),Wc (Y7 1 L) = (L.map fun p => p.1.n + p.2.n).sum
 | [] => rfl
 | p :: L => by
  have ih:=Qdj L;unfold Y7 Wc at ih ⊢;rw [List.flatMap_cons,List.map_append,List.sum_append,ih,List.map_cons,List.sum_cons];unfold Ug
  split
  ·rename_i e;unfold Vg at e;simp;omega
  ·unfold Vg;simp
/-- A lot added: never the same lots. -/
theorem Qgq {a z : List Lt} (h : Jc 1 a z = 0) : Wc (Jj 1 a z) = Wc a + Wc z:=by
 unfold Jj Xz;unfold Jc at h;rw [if_pos h];unfold W4;rw [Mv,Mv,Qdj,Nk _ _ _ (Nat.le_refl _)]
theorem Qgp {a : List Lt} {g : ByteArray} (h : Jc 1 a [⟨g,1⟩] = 0) : a ≠ Jj 1 a [⟨g,1⟩]:=fun e => by
 have:=Qgq h;have h1 : Wc [⟨g,1⟩] = 1:=by simp [Wc]
 rw [← e,h1] at this;omega
/-- One closing changed: that is the first issue. -/
theorem Qfb {c : Qd} {l : List Pd} {n : Int} {g : ByteArray} (hv : c.valid = true) (h0 : 0 < l.length) (hok : ∀ p ∈ l,Jp c p) (hs : Qz (l.getD 0 Qh).o (l.getD 0 Qh).d = ((l.getD 0 Qh).c,0)) (hn : 0 ≤ n) (h4 : n ≤ 400) (h32 : l.length ≤ 32) (hc : Jc 1 (l.getD 0 Qh).c [⟨g,1⟩] = 0) :
  ∃ x,c.auditV (l.set 0 { l.getD 0 Qh with c:=Jj 1 (l.getD 0 Qh).c [⟨g,1⟩] }) n = ((1,0,0) :: x,0):=by
 obtain ⟨p,r,rfl⟩ : ∃ p r,l = p :: r:=by
  cases l with
  | nil => exact absurd h0 (by simp)
  | cons p r => exact ⟨p,r,rfl⟩
 have e0 : (p :: r).getD 0 Qh = p:=rfl;rw [e0] at hs hc ⊢;have hp:=hok p List.mem_cons_self;have hne:=Qgp hc;have hq : Jp c { p with c:=Jj 1 p.c [⟨g,1⟩] }:=⟨hp.n,hp.a0,hp.ab,hp.o,Aj hc,hp.m,hp.l,hp.s⟩
 show ∃ x,c.auditV ({ p with c:=Jj 1 p.c [⟨g,1⟩] } :: r) n = _
 generalize hS : Jj 1 p.c [⟨g,1⟩] = S at *
 have hE : c.audE ({ p with c:=S } :: r) n = 0:=by
  refine Cd (Bt hv (fun x hx => ?_) (by simp at h32 ⊢;omega)) hn h4;rcases List.mem_cons.1 hx with rfl | hx
  ·exact hq
  ·exact hok x (List.mem_cons_of_mem _ hx)
 unfold Qd.auditV;rw [hE,if_neg (by simp)];unfold Qd.audL;rw [Tg,List.length_cons,List.range_succ_eq_map,List.flatMap_cons];unfold Qd.isP Qd.isA
 have hb : Kc (Ql ({ p with c:=S } :: r) 0) = true:=by
  show Kc { p with c:=S } = true
  unfold Kc
  show (!(decide ((Qz p.o p.d).2 = 0) && decide ((Qz p.o p.d).1 = S))) = true
  rw [hs]
  simpa using hne
 rw [hb,if_pos rfl];exact ⟨_,rfl⟩
/-- An archive that was carried forward, and its mirror, carried forward. -/
theorem Qfh {c : Qd} {k : List Pd} (hv : c.valid = true) (hk : Ns c k) (h0 : 0 < k.length) (hB : (c.carryV (Wr (Wp (k.getD 0 Qh)) k)).2 = 0) : K9 c k (c.carryV (Wr (Wp (k.getD 0 Qh)) k)).1 (k.getD 0 Qh).h (Wp (k.getD 0 Qh)):=by
 have hs:=Qf1 hB;obtain ⟨_,g1,g2,_⟩:=Tu hB;have hl : (Wr (Wp (k.getD 0 Qh)) k).length = k.length:=by simp [Wr]
 have hm : ∀ i,i < k.length → (Wr (Wp (k.getD 0 Qh)) k).getD i Qh = Xu (Wp (k.getD 0 Qh)) (k.getD i Qh):=fun i hi => by
  unfold Wr;exact Oh (z:=Qh) hi
 have hh:=Ez g1;have e0:=(hs 0 Qa).1;rw [hm 0 h0] at e0;rw [e0] at hh;refine ⟨hv,Ez hk,hh,Qio (hk.a _ (Jg h0)).1,g2.trans hl,fun i hi => ?_⟩;have:=(hs i Qa).2.2.2;rw [hm i hi] at this;exact this
theorem Cq {c : Qd} {k b : List Pd} {H h : ByteArray} (B : K9 c k b H h) (h16 : k.length ≤ 16) : (k ++ b).length ≤ 32:=by rw [List.length_append,B.len];omega
theorem Er {k b : List Pd} (h0 : 0 < k.length) : (k ++ b).getD 0 Qh = k.getD 0 Qh:=U7 h0
/-- Both halves, one closing changed. -/
theorem Qff {c : Qd} {k b : List Pd} {H h : ByteArray} (B : K9 c k b H h) (h0 : 0 < k.length) (h16 : k.length ≤ 16) {n : Int} (hn : 0 ≤ n) (h4 : n ≤ 400) {g : ByteArray} (hc : Jc 1 (k.getD 0 Qh).c [⟨g,1⟩] = 0) :
  ∃ x,c.auditV ((k ++ b).set 0 { k.getD 0 Qh with c:=Jj 1 (k.getD 0 Qh).c [⟨g,1⟩] }) n = ((1,0,0) :: x,0):=by
 have hlen : 0 < (k ++ b).length:=by rw [List.length_append];omega
 have e0:=Er (b:=b) h0;have:=Qfb (l:=k ++ b) (g:=g) B.hv hlen (Gh B) (V0 B hlen).2 hn h4 (Cq B h16) (by rw [e0];exact hc);rw [e0] at this;exact this
end
section
open Go Go.RowKit Go.Shelf
attribute [local go_sem] Zx
/-- Deals in an own row, whose lots were there before. -/
def Jz (w0 : World) (b : Nat) (W : World) (v : Value) (D : List Dl) : Prop:=∃ vs : Nat → Value,W.ownsRow b 57 7 v D.length (Q0 (fun i => Zr (D.getD i Qw) (vs i)) D.length) ∧ ∀ i,i < D.length → Zq w0 (vs i) (D.getD i Qw).l
theorem Jz.ext {w0 W W' : World} {b : Nat} {v : Value} {D : List Dl} (h : Jz w0 b W v D) (x : Qb W W') : Jz w0 b W' v D:=by
 obtain ⟨vs,h1,h2⟩:=h;exact ⟨vs,Ja h1 x,h2⟩
theorem Jz.le {w0 W : World} {b b' : Nat} {v : Value} {D : List Dl} (h : Jz w0 b W v D) (hb : b' ≤ b) : Jz w0 b' W v D:=by
 obtain ⟨vs,h1,h2⟩:=h;exact ⟨vs,U5 h1 hb,h2⟩
theorem Jz.kept {w0 W W' : World} {b b' k : Nat} {v v' : Value} {D : List Dl} {xs : List Value} {row : Option Nat} (h : Jz w0 b W v D) (hr : W.ownsRow b' 55 12 v' k xs) (hg : W.grownBy W' row) (hrow : row = v'.ownBlock) : Jz w0 b W' v D:=by
 subst hrow;obtain ⟨vs,h1,h2⟩:=h;exact ⟨vs,World.ownsRow.kept h1 hg (Ly h1 hr (by decide)),h2⟩
theorem Jz.at {w0 W : World} {b : Nat} {v : Value} {D : List Dl} (h : Jz w0 b W v D) (x : Qb w0 W) : W9 W v D:=by
 obtain ⟨vs,h1,h2⟩:=h;obtain ⟨F,c,g1,g2,g3,g4,g5,_⟩:=Ue (f:=fun i => Zr (D.getD i Qw) (vs i)) (fun _ => rfl) h1;exact ⟨F,c,vs,g1,g2,g3,g4,g5,fun i hi => (h2 i hi).ext x⟩
theorem Jz.nil (w0 W : World) (b : Nat) : Jz w0 b W (.slice none 0 0) []:=⟨fun _ => .slice none 0 0,World.ownsRow_nil _ _ _ _,fun i h => absurd h (by simp)⟩
theorem Qj5 {w0 W' : World} {b : Nat} {v' vl : Value} {D : List Dl} {d : Dl} {vs : Nat → Value} (hL : ∀ i,i < D.length → Zq w0 (vs i) (D.getD i Qw).l) (hl : Zq w0 vl d.l)
  (hown : W'.ownsRow b 57 7 v' (D.length + 1) (Q0 (fun i => Zr (D.getD i Qw) (vs i)) D.length ++ Zr d vl)) : Jz w0 b W' v' (D ++ [d]):=by
 have hlen : (D ++ [d]).length = D.length + 1:=by simp
 have e1 : ∀ i,i < D.length → (D ++ [d]).getD i Qw = D.getD i Qw:=fun i hi => by simp [List.getD_eq_getElem?_getD,List.getElem?_append_left hi]
 have e2 : (D ++ [d]).getD D.length Qw = d:=by simp [List.getD_eq_getElem?_getD]
 refine ⟨fun i => if i = D.length then vl else vs i,?_,fun i hi => ?_⟩
 ·rw [hlen, Ud, Vj (f' := fun i => Zr (D.getD i Qw) (vs i)) D.length (fun i hi => by rw [e1 i hi]; simp [show i ≠ D.length by omega]), e2]
  simpa using hown
 ·rw [hlen] at hi;by_cases e : i = D.length
  ·subst e;rw [e2];simpa using hl
  ·rw [e1 i Qa];simpa [e] using hL i Qa
/-- Periods of a mirror in an own row. -/
def Rz (w0 W : World) (v : Value) (n : Nat) (g : Nat → Pd) : Prop:=∃ vd : Nat → Value,W.ownsRow w0.heap.size 55 12 v n (Q0 (fun i => Qq (g i) (.slice none 0 0) (vd i) (.slice none 0 0)) n) ∧ ∀ i,i < n → Jz w0 w0.heap.size W (vd i) (g i).d
theorem Qkb {w0 W W' : World} {k : Nat} {v v' ud : Value} {g : Nat → Pd} {vd : Nat → Value} {ob : Obj} (hO : W.ownsRow w0.heap.size 55 12 v k (Q0 (fun i => Qq (g i) (.slice none 0 0) (vd i) (.slice none 0 0)) k)) (hL : ∀ i,i < k → Jz w0 w0.heap.size W (vd i) (g i).d) (hl : Jz w0 w0.heap.size W ud (g k).d)
  (hown : W'.ownsRow w0.heap.size 55 12 v' (k + 1) (Q0 (fun i => Qq (g i) (.slice none 0 0) (vd i) (.slice none 0 0)) k ++ Qq (g k) (.slice none 0 0) ud (.slice none 0 0))) (hg : (W.alloc ob).grownBy W' v.ownBlock) : Rz w0 W' v' (k + 1) g:=by
 refine ⟨fun i => if i = k then ud else vd i,?_,fun i hi => ?_⟩
 ·rw [Ud, Vj (f' := fun i => Qq (g i) (.slice none 0 0) (vd i) (.slice none 0 0)) k (fun i hi => by simp [show i ≠ k by omega])]
  simpa using hown
 ·have x : Qb W (W.alloc ob):=(Qb.refl _).alloc ob;by_cases e : i = k
  ·subst e;simpa using Jz.kept (hl.ext x) (hO.alloc ob) hg rfl
  ·simpa [e] using Jz.kept ((hL i Qa).ext x) (hO.alloc ob) hg rfl
theorem mir_at {w0 W : World} {v : Value} {h : ByteArray} {l : List Pd} (hM : Rz w0 W v l.length (fun i => Xu h (l.getD i Qh))) (x : Qb w0 W) : Js W v (Wr h l):=by
 obtain ⟨vd,h1,h2⟩:=hM;have hl : (Wr h l).length = l.length:=by simp [Wr]
 have hg : ∀ i,i < l.length → (Wr h l).getD i Qh = Xu h (l.getD i Qh):=fun i hi => by
  unfold Wr;exact Oh (z:=Qh) hi
 obtain ⟨F,c,g1,g2,g3,g4,g5,_⟩:=Ue (f:=fun i => Qq (Xu h (l.getD i Qh)) (.slice none 0 0) (vd i) (.slice none 0 0)) (fun _ => rfl) h1;refine ⟨F,c,fun _ => .slice none 0 0,vd,fun _ => .slice none 0 0,by rw [hl];exact g1,by rw [hl];exact g2.congr (fun i hi => by show Qq _ _ _ _ = Qq _ _ _ _;rw [hg i hi]),by rw [hl];exact g3,g4,fun e => by rw [hl];exact g5 e,fun i hi => ?_⟩;rw [hl] at hi;rw [hg i hi];exact ⟨Mu _,(h2 i hi).at x,Mu _⟩
theorem Qka {h H : ByteArray} {L D : List Dl} {j : Nat} (hj : j < L.length) (hD : D = ((L.take j).filter fun x => decide (x.w = h)).map (Uf H)) :
  ((L.getD j Qw).w = h → D ++ [Uf H (L.getD j Qw)] = ((L.take (j + 1)).filter fun x => decide (x.w = h)).map (Uf H)) ∧ (¬ (L.getD j Qw).w = h → D = ((L.take (j + 1)).filter fun x => decide (x.w = h)).map (Uf H)):=by
 have e : L.getD j Qw = L[j]:=by simp [List.getD_eq_getElem?_getD,hj]
 rw [e,List.take_succ_eq_append_getElem hj,List.filter_append,List.map_append,← hD];refine ⟨fun g => ?_,fun g => ?_⟩
 ·rw [List.filter_cons_of_pos (by simpa using g)];rfl
 ·rw [List.filter_cons_of_neg (by simpa using g)];simp
theorem Qkc (h : ByteArray) (v : Value) (l : List Pd) (w : World) (hP : Js w v l) (hd : ∀ i,i < l.length → (l.getD i Qh).d.length ≤ 64) (hl : l.length ≤ 32) :
  Calls Tryz.prog 17 #[v,.string h] w fun e w' => ∃ v',e = .returned v' ∧ Qb w w' ∧ Js w' v' (Wr h l):=by
 obtain ⟨iP,hiP,hzP0,hzP1,hzP2⟩:=info_parts S8;obtain ⟨iD,hiD,hzD0,hzD1,hzD2⟩:=info_parts Ip;obtain ⟨D,cap,vo,vd,vc,rfl,hD,_,_,_,hat0⟩:=id hP;have hat:=Lib.hid hat0;replace hd:=Lib.hid hd;clear hat0 hP
 go_enter Tryz.func17,Tryz.ntmps17
 go_upto_region 3 with (fail)
 go_loopw [5,6] (fun ov iv wr => ∃ k : Nat,k ≤ l.length ∧ iv = .int .i64 k ∧ Rz w wr ov k (fun i => Xu h (l.getD i Qh)) ∧ Qb w wr) (fun _ iv _ => l.length - (intOf iv).toNat)
 case atStart => exact ⟨0,Nat.zero_le _,rfl,⟨fun _ => .slice none 0 0,World.ownsRow_nil _ _ _ _,fun i h => absurd h Qa⟩,Qb.refl _⟩
 case round =>
  obtain ⟨k,hk,rfl,⟨rd,hO,hLo0⟩,hE⟩:=hrel;have hLo:=Lib.hid hLo0;clear hLo0;obtain ⟨wo,rfl⟩:=Qf wr;obtain ⟨FO,mO,rfl⟩:=Jt hO;by_cases hlt : k < l.length;rotate_left
  ·obtain rfl : k = l.length := by omega
   go_wp2;go_ret;exact ⟨_,rfl,hE,mir_at ⟨rd,hO,hLo.out⟩ hE⟩
  obtain ⟨b,off,rfl,hb,hc⟩:=(hD.ext hE) Qa;obtain ⟨c0,c1,c2,c3,c4,c5,c6,c7,c8,c9,c10,c11⟩:=Hy hc hlt;clear hc;have P0:=hat.out k hlt;have hdk:=hd.out k hlt;obtain ⟨G,hG⟩:=Qf (l.getD k Qh);rw [← hG] at P0 hdk c0 c1 c2 c3 c4 c5 c6 c7 c8;replace hG:=Lib.hid hG;generalize vo k = v1 at *;generalize vd k = v2 at *;generalize vc k = v3 at *;clear hat hD hd c9 c11;obtain ⟨T,cD,vs,e2,hT,_,_,_,hLs0⟩:=P0.d;subst e2;replace hLs0:=Lib.hid hLs0;clear P0;go_upto_region 5 with (fail)
  refine Q5 14 [13] (fun x => Qb wo x) mixed rfl ?_;intro vz hvz;have HC:=hvz;clear hvz;refine Qr (g:=2) [0,1,2,3,4,5,6,7,8,9,10,11] HC ?_
  constructor
  refine ⟨fun u hu => ?_,?_⟩
  ·have r1:=(hu.cell (p:=⟨b,off + k * 12 + 1,none⟩) hb).trans c1;have r2:=(hu.cell (p:=⟨b,off + k * 12 + 2,none⟩) hb).trans c2;have r3:=(hu.cell (p:=⟨b,off + k * 12 + 3,none⟩) hb).trans c3;have r4:=(hu.cell (p:=⟨b,off + k * 12 + 4,none⟩) hb).trans c4;have r5:=(hu.cell (p:=⟨b,off + k * 12 + 5,none⟩) hb).trans c5;have r6:=(hu.cell (p:=⟨b,off + k * 12 + 6,none⟩) hb).trans c6;have r7:=(hu.cell (p:=⟨b,off + k * 12 + 7,none⟩) hb).trans c7;have r8:=(hu.cell (p:=⟨b,off + k * 12 + 8,none⟩) hb).trans c8;have hbu:=Nat.lt_of_lt_of_le hb hu.size;exact Qj
  refine Qk 12 ?_;go_wp2;obtain ⟨bp,wb,hbq,hwb,HN,HC',hx,gp⟩:=Qp HC 55 #[.string ⟨#[]⟩,.int .i64 0,.int .i64 0,.bool false,.int .i64 0,.int .i64 0,.int .i64 0,.bool false,.int .i64 0,.slice none 0 0,.slice none 0 0,.slice none 0 0];rw [← hbq,← hwb];replace HC:=HC';clear hbq hwb hx HC';refine Qe HC ?_;refine Qn 13 ?_;obtain ⟨z0,z1,z2,z3,z4,z5,z6,z7,z8,z9,z10,z11⟩:=Qc.f12 HN;obtain ⟨x0,x1,x2,x3,x4,x5,x6,x7,x8,x9,x10,x11⟩:=Qc.c12 HN;have xl:=Qc.lt HN;go_wp2;obtain ⟨wq,hq,BP0,ko,kd,kh,ke⟩:=keep12 HN (by decide) (by decide) (.string h) (.int .i64 G.a.y) (.int .i64 G.a.m) (.bool G.a.s) (.int .i64 G.a.d) (.int .i64 G.b.y) (.int .i64 G.b.m) (.bool G.b.s) (.int .i64 G.b.d) (.slice none 0 0) (.slice none 0 0) (.slice none 0 0)
  rw [← hq];replace HC:=ke HC gp;clear hq ko kd kh ke HN z0 x0 z1 x1 z2 x2 z3 x3 z4 x4 z5 x5 z6 x6 z7 x7 z8 x8 z9 x9 z10 x10 z11 x11 xl;refine Qm ?_;refine Qt ?_;go_upto_region 7 with (fail)
  go_loopw [8] (fun jv wr => ∃ (j : Nat) (Dj : List Dl) (F : Option Addr) (mF : Nat),j ≤ G.d.length ∧ jv = .int .i64 j ∧ Hid (Dj = ((G.d.take j).filter fun x => decide (x.w = h)).map (Uf G.h)) ∧ Dj.length ≤ j ∧ Jz w wo.heap.size wr (.slice F Dj.length mF) Dj ∧ Qc wr bp 55 #[.string h,.int .i64 G.a.y,.int .i64 G.a.m,.bool G.a.s,.int .i64 G.a.d,.int .i64 G.b.y,.int .i64 G.b.m,.bool G.b.s,.int .i64 G.b.d,.slice none 0 0,.slice F Dj.length mF,.slice none 0 0] ∧ Qb wo wr) (fun jv _ => G.d.length - (intOf jv).toNat)
  case atStart => exact ⟨0,[],none,0,Nat.zero_le _,rfl,Lib.hid rfl,Nat.le_refl _,Jz.nil _ _ _,BP0,HC⟩
  case round =>
   clear BP0 HC;obtain ⟨j,Dj,F,mF,hj,rfl,hDj,hDl,⟨rs,hOd,hLd0⟩,BP,HX⟩:=hrel;have hLd:=Lib.hid hLd0;clear hLd0;obtain ⟨wv,rfl⟩:=Qf wr;have r0:=(HX.cell (p:=⟨b,off + k * 12,none⟩) hb).trans c0;have r10:=(HX.cell (p:=⟨b,off + k * 12 + 10,none⟩) hb).trans c10;have hbv:=Nat.lt_of_lt_of_le hb HX.size;by_cases hjl : j < G.d.length
   ·obtain ⟨b2,o2,rfl,hb2,hc2⟩:=(hT.ext (hE.trans HX)) Qa;obtain ⟨y0,y1,y2,y3,y4,y5,y6⟩:=zp7 hc2 hjl;clear hc2;have hnx:=Qka hjl hDj.out;have LT:=hLs0.out j hjl;obtain ⟨d,hd⟩:=Qf (G.d.getD j Qw);rw [← hd] at hnx LT y0 y1 y2 y3 y4 y5;replace hnx:=Lib.hid hnx;clear hd;generalize vs j = vl at *;obtain ⟨tl,sl,el,_⟩:=id LT;subst el;go_upto_region 10 with (fail)
    obtain ⟨w2,hv⟩:=Qf (wv.alloc (.cells #[.int .i64 d.on.y,.int .i64 d.on.m,.bool d.on.s,.int .i64 d.on.d,.bool d.i,.string d.w,.slice tl d.l.length sl] 57));rw [← hv];have h2 : Qb wv w2:=by rw [hv];exact (Qb.refl _).alloc _
    have BD : Qc w2 wv.heap.size 57 #[.int .i64 d.on.y,.int .i64 d.on.m,.bool d.on.s,.int .i64 d.on.d,.bool d.i,.string d.w,.slice tl d.l.length sl]:=by rw [hv];exact Qc.new _ _ _
    clear hv;generalize wv.heap.size = bd at *;have BP2:=BP.ext h2;have hb3:=Nat.lt_of_lt_of_le hb (HX.trans h2).size;have r20:=((HX.trans h2).cell (p:=⟨b,off + k * 12,none⟩) hb).trans c0;clear y0 y1 y2 y3 y4 y5 y6 hb2 r10 r0;obtain ⟨x0,x1,x2,x3,x4,x5,x6⟩:=Q7 BD;have xl:=Qc.lt BD;by_cases hw : d.w = h;rotate_left
    ·have tw : (d.w.toList == h.toList) = false:=beq_eq_false_iff_ne.2 fun e => hw (Nj e)
     have hn:=hnx.out.2 hw;clear hnx hw;go_wp2;exact ⟨⟨j + 1,Dj,F,mF,by omega,by go_num,hn,by omega,⟨rs,Ja hOd h2,hLd.out⟩,BP2,HX.trans h2⟩,by simp [intOf];omega⟩
    have tw : (d.w.toList == h.toList) = true:=by rw [hw];exact beq_self_eq_true _
    have hn:=Lib.hid (hnx.out.1 hw);clear hnx hw;go_upto_region 11 with (fail)
    clear x0 x1 x2 x3 x4 x5 x6 xl tw;refine Q5 19 [16,17,18] (fun x => Qb w2 x) mixed rfl ?_;intro vz hvz;have HC:=hvz;clear hvz;refine Qr (g:=4) [0,1,2,3,4,5,6,7,8,9,10,11,12,13,14] HC ?_
    constructor
    refine ⟨fun u hu => ?_,?_⟩
    ·obtain ⟨p0,p1,p2,p3,p4,p5,p6,p7,p8,p9,p10,p11⟩:=Qc.c12 (Qc.ext BP2 hu);have pl:=Qc.lt (Qc.ext BP2 hu);obtain ⟨x0,x1,x2,x3,x4,x5,x6⟩:=Q7 (Qc.ext BD hu);have xl:=Qc.lt (Qc.ext BD hu);have r0:=(hu.cell (p:=⟨b,off + k * 12,none⟩) hb3).trans r20;have hbu:=Nat.lt_of_lt_of_le hb3 hu.size;exact Qj
    refine Qk 15 ?_;go_wp2;have hO8:=Ja hOd (h2.trans HC);have BP8:=BP2.ext HC;have hxs:=h2.trans HC;have HX8:=HX.trans hxs;replace HC:=HC.alloc (.cells #[.int .i64 d.on.y,.int .i64 d.on.m,.bool d.on.s,.int .i64 d.on.d,.bool (!d.i),.string G.h,.slice tl d.l.length sl] 57);refine Qe HC ?_;refine Qn 16 ?_;go_wp2_with (at_builtin;refine wpList_append_own_at _ rfl _ _ 53 rfl wo.heap.size 57 iD (.agg #[.int .i64 0,.int .i64 0,.bool false,.int .i64 0,.bool false,.string ⟨#[]⟩,.slice none 0 0]) 7 80 Tryz.underlying53 hiD hzD0 hzD1 hzD2 rfl (by decide) _ _ _ rfl (hO8.alloc _) ⟨vz.heap.size,0,none⟩ 1 1 (Zr (Uf G.h d) (.slice tl d.l.length sl)) rfl rfl (Lj _ _ _) (C0 _ _ _ _) (by unfold maxLen;omega) Qa (by have:=HX.size;have:=hxs.size;simp;omega) ?_;intro o' w8 hown hgrow _ _)
    obtain ⟨F7,m7,rfl⟩:=Jt hown;have BP9:=(BP8.alloc (.cells #[.int .i64 d.on.y,.int .i64 d.on.m,.bool d.on.s,.int .i64 d.on.d,.bool (!d.i),.string G.h,.slice tl d.l.length sl] 57)).kept hgrow ((BP8.alloc (.cells #[.int .i64 d.on.y,.int .i64 d.on.m,.bool d.on.s,.int .i64 d.on.d,.bool (!d.i),.string G.h,.slice tl d.l.length sl] 57)).not_row (by decide) (hO8.alloc (.cells #[.int .i64 d.on.y,.int .i64 d.on.m,.bool d.on.s,.int .i64 d.on.d,.bool (!d.i),.string G.h,.slice tl d.l.length sl] 57)));have X9:=(HX8.alloc (.cells #[.int .i64 d.on.y,.int .i64 d.on.m,.bool d.on.s,.int .i64 d.on.d,.bool (!d.i),.string G.h,.slice tl d.l.length sl] 57)).grown hgrow (fun q hq => (hO8.lt q hq).1)
    have MN:=Qj5 (d:=Uf G.h d) hLd.out LT hown;clear hgrow hO8 BP8 HX8 hown;refine Qm ?_;refine Qn 17 ?_;go_wp2;refine Qm ?_;refine Qn 18 ?_;have fA:=Qc.frozen BP9 10;obtain ⟨a0,a1,a2,a3,a4,a5,a6,a7,a8,a9,a10,a11⟩:=Qc.c12 BP9;have al:=Qc.lt BP9;go_wp2;have BPN:=Wy BP9 10 (.slice F7 (Dj.length + 1) m7);obtain ⟨vsN,hN1,hN2⟩:=MN;have hN3:=Y8 BP9 (by decide) hN1 10 (.slice F7 (Dj.length + 1) m7);replace X9:=X9.setCell (p:=⟨bp,10,none⟩) gp (.slice F7 (Dj.length + 1) m7);generalize World.setCell _ _ _ = w9 at *;clear BP9 fA hN1 a0 a1 a2 a3 a4 a5 a6 a7 a8 a9 a10 a11 al;refine Qm ?_;refine Qt ?_;have X9':=X9;clear HX BP h2 BD BP2
    go_wp2;exact ⟨⟨j + 1,Dj ++ [Uf G.h d],F7,m7,by omega,by go_num,hn,by rw [List.length_append];simp;omega,by rw [List.length_append];exact ⟨vsN,hN3,hN2⟩,by rw [List.length_append];exact BPN,X9'⟩,by simp [intOf];omega⟩
   ·obtain rfl : j = G.d.length := by omega
    have eD : Hid (Dj = (Xu h G).d):=by unfold Hid;rw [hDj.out,List.take_length];rfl
    have hO8:=Ja hO HX;have hL8 : ∀ i,i < k → Jz w w.heap.size wv (rd i) (Xu h (l.getD i Qh)).d:=fun i hi => (hLo.out i hi).ext HX
    replace hL8:=Lib.hid hL8;have MD : Jz w w.heap.size wv (.slice F Dj.length mF) Dj:=Jz.le ⟨rs,hOd,hLd.out⟩ hE.size;obtain ⟨p0,p1,p2,p3,p4,p5,p6,p7,p8,p9,p10,p11⟩:=Qc.c12 BP;have pl:=Qc.lt BP;clear hDj hLd hLs0 hT hOd r0;go_wp2_with (at_builtin;refine wpList_append_own_at _ rfl _ _ 26 rfl w.heap.size 55 iP (.agg #[.string ⟨#[]⟩,.int .i64 0,.int .i64 0,.bool false,.int .i64 0,.int .i64 0,.int .i64 0,.bool false,.int .i64 0,.slice none 0 0,.slice none 0 0,.slice none 0 0]) 12 152 Tryz.underlying26 hiP hzP0 hzP1 hzP2 rfl (by decide) _ _ _ rfl (hO8.alloc _) ⟨wv.heap.size,0,none⟩ 1 1 (Qq ⟨h,G.a,G.b,[],[],[]⟩ (.slice none 0 0) (.slice F Dj.length mF) (.slice none 0 0)) rfl rfl (Lj _ _ _) (Gq _ _ _ _ _ _ _ _ _ _) (by unfold maxLen;omega) Qa (by have:=hE.size;have:=HX.size;simp;omega) ?_;intro o' w8 hown hgrow _ _)
    have M8:=Qkb (g:=fun i => Xu h (l.getD i Qh)) hO8 hL8.out (by show Jz _ _ _ _ (Xu h (l.getD k Qh)).d;rw [← hG.out,← eD.out];exact MD) (by show World.ownsRow _ _ _ _ _ _ (_ ++ Qq (Xu h (l.getD k Qh)) _ _ _);rw [← hG.out];exact hown) hgrow;have E8 : Qb w w8:=((hE.trans HX).alloc _).grown hgrow (fun q hq => (hO8.lt q hq).1);clear hown hgrow hO8 hL8 MD BP eD p0 p1 p2 p3 p4 p5 p6 p7 p8 p9 p10 p11 pl;go_wp2;exact ⟨⟨k + 1,by omega,by go_num,M8,E8⟩,by simp [intOf];omega⟩
end
end Go.Proofs.YtoflcheopfppoaaGreatDoor
