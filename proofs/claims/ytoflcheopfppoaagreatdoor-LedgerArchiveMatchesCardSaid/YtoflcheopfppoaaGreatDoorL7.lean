/- Walks of the program's functions and plain facts, packed; proved: the lemmas below; no conditions but those that each states. -/
import Derived.Test.YtoflcheopfppoaaGreatDoorL6
import Derived.Sort.Walk0
import Derived.Test.YtoflcheopfppoaaGreatDoorL1
import Derived.Test.YtoflcheopfppoaaGreatDoorL5
set_option maxRecDepth 100000
set_option maxHeartbeats 4000000
namespace Go.Proofs.YtoflcheopfppoaaGreatDoor
section
open Go Go.RowKit Go.Shelf
attribute [local go_sem] Z5
theorem Lj {c : Qf} {r : Rt} {x : Db} {a b : Dt} (h : x.In) : (Jj c r x a b).1.In:=by
 unfold Jj
 split
 ·exact h
 ·split
  ·exact h
  ·exact ⟨h.p,Vz _ _,h.s⟩
theorem Er {x : Db} {n : Rt} (h : x.In) : (K4 x n).1.In:=by
 unfold K4
 split
 ·exact h
 ·split
  ·exact h
  ·split
   ·exact h
   ·exact ⟨Ox.1,Ox.1,Vz _ _⟩
theorem Ek (c : Qf) (r : Rt) (f : Nat → Jz) (on : Dt) : ∀ m k x a,Db.In x → (Wy c r f on k m x a).1.In
 | 0,_,_,_,h => Lj h
 | m + 1,k,x,a,h => by
  rw [Wy]
  split
  ·exact Lj h
  ·split
   ·exact Lj h
   ·split
    ·exact Er (Lj h)
    ·exact Ek c r f on m (k + 1) _ _ (Er (Lj h))
theorem Qgx (c : Qf) (l : Ln) (f : Nat → Jz) (n : Nat) (on : Dt) (hp : l.p.In) : (c.owedV l f n on).1.p.In ∧ (c.owedV l f n on).1.i.In:=by
 have h0 : J0.In:=⟨Y6,Y6,Y6⟩;have h1 : (start l).In:=⟨hp,Ui,Ui⟩
 have H : (c.owedV l f n on).1.In:=by
  unfold Qf.owedV
  split
  ·exact h0
  ·split
   ·exact h0
   ·split
    ·exact h0
    ·split
     ·exact h0
     ·exact Ek c l.r f on n 0 _ _ h1
 exact ⟨H.p,H.i⟩
theorem Ej (A A' : Option Addr) (ca cb : Nat) (c : Qf) (B : Option Addr) (n cap : Nat) (l : Ln) (f : Nat → Jz) (hp : l.p.In) (hr : l.r.In) (hin : ∀ i,i < n → (f i).n.In) (w : World) (hC : Q8 w A ca A' cb c) (hB : Qp w B n 6 (Yg f)) (hn : n ≤ 9223372036854775807) (hZ : Z6 w) (on : Dt) :
  Calls Tryz.prog 23 #[.agg #[.slice A c.nk ca,.slice A' c.ny cb],.agg #[.int .i64 l.p.n,.int .i64 l.p.d,.int .i64 l.r.n,.int .i64 l.r.d,.int .i64 l.f.y,.int .i64 l.f.m,.bool l.f.s,.int .i64 l.f.d],.slice B n cap,.agg #[.int .i64 on.y,.int .i64 on.m,.bool on.s,.int .i64 on.d]] w fun e w' => e = .returned (.tuple #[.agg #[.int .i64 (c.owedV l f n on).1.p.n,.int .i64 (c.owedV l f n on).1.p.d,.int .i64 (c.owedV l f n on).1.i.n,.int .i64 (c.owedV l f n on).1.i.d,.int .i64 (c.owedV l f n on).1.s.n,.int .i64 (c.owedV l f n on).1.s.d],.int .i64 (c.owedV l f n on).2]) ∧ Qb w w':=by
 have NO:=fun w h => Mf A A' ca cb c w h
 have NC:=fun hv w h1 h2 => Qcc A A' ca cb c B n cap l f hp hr hin w h1 h2 hn hv
 have NW:=fun w h1 h2 z => Qgz A A' ca cb c B n cap l f hp hr hin w h1 h2 hn z on
 have ND:=fun d w h => Wq A A' ca cb c d w h
 obtain ⟨R,hR0⟩:=Qg (c.owedV l f n on);rw [← hR0];have HR:=Lib.hid hR0;clear hR0
 go_enter Tryz.func23,Tryz.ntmps23
 go_upto_region 1 with (fail)
 obtain ⟨v,hv⟩:=Qg ((((w.alloc (.cells #[.slice A c.nk ca,.slice A' c.ny cb] 25)).alloc (.cells #[.int .i64 l.p.n,.int .i64 l.p.d,.int .i64 l.r.n,.int .i64 l.r.d,.int .i64 l.f.y,.int .i64 l.f.m,.bool l.f.s,.int .i64 l.f.d] 67)).alloc (.cells #[.int .i64 on.y,.int .i64 on.m,.bool on.s,.int .i64 on.d] 51)).alloc (.cells #[.int .i64 0,.int .i64 0,.int .i64 0,.int .i64 0,.int .i64 0,.int .i64 0] 72));rw [← hv];have E : Qb w v:=by rw [hv];exact ((((Qb.refl _).alloc _).alloc _).alloc _).alloc _
 have B1 : Qa v w.heap.size 25 #[.slice A c.nk ca,.slice A' c.ny cb]:=by rw [hv];exact (((Qa.new _ _ _).alloc _).alloc _).alloc _
 have B2 : Qa v (w.heap.size + 1) 67 #[.int .i64 l.p.n,.int .i64 l.p.d,.int .i64 l.r.n,.int .i64 l.r.d,.int .i64 l.f.y,.int .i64 l.f.m,.bool l.f.s,.int .i64 l.f.d]:=by rw [hv];exact ((Qa.at _ _ _ _ (by simp)).alloc _).alloc _
 have B3 : Qa v (w.heap.size + 1 + 1) 51 #[.int .i64 on.y,.int .i64 on.m,.bool on.s,.int .i64 on.d]:=by rw [hv];exact (Qa.at _ _ _ _ (by simp)).alloc _
 have B4 : Qa v (w.heap.size + 1 + 1 + 1) 72 #[.int .i64 0,.int .i64 0,.int .i64 0,.int .i64 0,.int .i64 0,.int .i64 0]:=by rw [hv];exact Qa.at _ _ _ _ (by simp)
 clear hv;obtain ⟨b4,hb4⟩:=Qg (w.heap.size + 1 + 1 + 1);rw [← hb4] at B4 ⊢;obtain ⟨b3,hb3⟩:=Qg (w.heap.size + 1 + 1);rw [← hb3] at B3 ⊢;obtain ⟨b2,hb2⟩:=Qg (w.heap.size + 1);rw [← hb2] at B2 ⊢;obtain ⟨b1,hb1⟩:=Qg (w.heap.size);rw [← hb1] at B1 ⊢;have hbr : w.heap.size ≤ b4:=by omega
 have hbr1 : w.heap.size ≤ b1:=by omega
 have hbr2 : w.heap.size ≤ b2:=by omega
 have hbr3 : w.heap.size ≤ b3:=by omega
 have hn21 : b2 ≠ b1:=by omega
 have hn31 : b3 ≠ b1:=by omega
 have hn32 : b3 ≠ b2:=by omega
 have hn41 : b4 ≠ b1:=by omega
 have hn42 : b4 ≠ b2:=by omega
 have hn43 : b4 ≠ b3:=by omega
 clear hb1 hb2 hb3 hb4;have RB:=hB.ext E;have Z0:=hZ.ext E;have C:=hC.ext E;clear hB hZ;obtain ⟨k0,k1⟩:=B1.c2;have lk:=B1.lt;cases hv : c.valid
 ·have hr9 : R = (J0, 70) := by rw [HR.out]; unfold Qf.owedV Qf.loanE; rw [hv]; rfl
  have hc : c.chk = 70:=by unfold Qf.chk;rw [hv];rfl
  simp only [hc] at NO;subst hr9;clear HR hc hv NC NW ND;go_upto_region 2 with (go_at_call 64;(with_reducible refine Calls.mono (NO _ (hC.ext E)) ?_);rintro e w1 ⟨rfl,h1⟩)
  obtain ⟨v3,hv⟩:=Qg (w1.alloc (.cells #[.slice A c.nk ca,.slice A' c.ny cb] 130));rw [← hv];have h3 : Qb w1 v3:=by rw [hv];exact (Qb.refl _).alloc _
  have H3 : Qa v3 w1.heap.size 130 #[.slice A c.nk ca,.slice A' c.ny cb]:=by rw [hv];exact Qa.new _ _ _
  clear hv;generalize w1.heap.size = b9 at *;replace E:=(E.trans h1).trans h3;replace B4:=(B4.ext h1).ext h3;have z0:=B4.frozen 0;have z1:=B4.frozen 1;have z2:=B4.frozen 2;have z3:=B4.frozen 3;have z4:=B4.frozen 4;have z5:=B4.frozen 5;obtain ⟨x0,x1,x2,x3,x4,x5⟩:=B4.c6;have lx:=B4.lt;have H9:=Yz B4 (.int .i64 0) (.int .i64 0) (.int .i64 0) (.int .i64 0) (.int .i64 0) (.int .i64 0);have EF:=Yy E hbr (.int .i64 0) (.int .i64 0) (.int .i64 0) (.int .i64 0) (.int .i64 0) (.int .i64 0);obtain ⟨y0,y1,y2,y3,y4,y5⟩:=H9.c6;go_wp2;refine bodyPost_ret (v:=.tuple #[.agg #[.int .i64 0,.int .i64 0,.int .i64 0,.int .i64 0,.int .i64 0,.int .i64 0],.int .i64 70]) (by simp [results,Tryz.results23,go_sem,y0,y1,y2,y3,y4,y5]) rfl ⟨rfl,EF⟩
 ·have hc : c.chk = 0 := by unfold Qf.chk; rw [hv]; rfl
  simp only [hc] at NO;replace NC:=NC hv;clear hv hc;go_upto_region 4 with (go_at_call 64;(with_reducible refine Calls.mono (NO _ (hC.ext E)) ?_);rintro e w1 ⟨rfl,h1⟩)
  obtain ⟨v3,hv⟩:=Qg (w1.alloc (.cells #[.slice A c.nk ca,.slice A' c.ny cb] 130));rw [← hv];have h3 : Qb w1 v3:=by rw [hv];exact (Qb.refl _).alloc _
  have H3 : Qa v3 w1.heap.size 130 #[.slice A c.nk ca,.slice A' c.ny cb]:=by rw [hv];exact Qa.new _ _ _
  clear hv;generalize w1.heap.size = b9 at *;replace E:=(E.trans h1).trans h3;replace B2:=(B2.ext h1).ext h3;replace B3:=(B3.ext h1).ext h3;replace B4:=(B4.ext h1).ext h3;replace RB:=(RB.ext h1).ext h3;replace Z0:=(Z0.ext h1).ext h3;replace C:=(C.ext h1).ext h3;clear h1 h3 k0 k1 lk B1 NO;obtain ⟨k0,k1⟩:=H3.c2;have lk:=H3.lt;obtain ⟨p0,p1,p2,p3,p4,p5,p6,p7⟩:=B2.c8;have lp:=B2.lt;have HE:=Lib.hid (show c.loanE l f n = c.loanE l f n from rfl);obtain ⟨q,hq⟩:=Qg (c.loanE l f n);simp only [← hq] at NC;replace hq:=Lib.hid hq;clear HE;go_upto_region 5 with (go_at_call 65;(with_reducible refine Calls.mono (NC _ C RB) ?_);rintro e w2 ⟨rfl,h1⟩)
  replace E:=E.trans h1;replace B2:=B2.ext h1;replace B3:=B3.ext h1;replace B4:=B4.ext h1;replace H3:=H3.ext h1;replace RB:=RB.ext h1;replace Z0:=Z0.ext h1;replace C:=C.ext h1;clear h1 k0 k1 lk p0 p1 p2 p3 p4 p5 p6 p7 lp NC;by_cases e0 : q = 0;rotate_left
  ·have g0 : (q == 0) = false := beq_eq_false_iff_ne.2 e0;have g0n : (q != 0) = true := by rw [bne, g0]; rfl
   have hr9 : R = (J0,q):=by rw [HR.out,hq.out];unfold Qf.owedV;rw [if_pos (by rw [← hq.out];exact e0)]
   subst hr9;clear HR e0 hq NW ND;have z0:=B4.frozen 0;have z1:=B4.frozen 1;have z2:=B4.frozen 2;have z3:=B4.frozen 3;have z4:=B4.frozen 4;have z5:=B4.frozen 5;obtain ⟨x0,x1,x2,x3,x4,x5⟩:=B4.c6;have lx:=B4.lt;have H9:=Yz B4 (.int .i64 0) (.int .i64 0) (.int .i64 0) (.int .i64 0) (.int .i64 0) (.int .i64 0);have EF:=Yy E hbr (.int .i64 0) (.int .i64 0) (.int .i64 0) (.int .i64 0) (.int .i64 0) (.int .i64 0);obtain ⟨y0,y1,y2,y3,y4,y5⟩:=H9.c6;go_wp2;refine bodyPost_ret (v:=.tuple #[.agg #[.int .i64 0,.int .i64 0,.int .i64 0,.int .i64 0,.int .i64 0,.int .i64 0],.int .i64 q]) (by simp [results,Tryz.results23,go_sem,y0,y1,y2,y3,y4,y5]) rfl ⟨rfl,EF⟩
  subst e0;obtain ⟨k0,k1⟩:=H3.c2;have lk:=H3.lt;obtain ⟨p0,p1,p2,p3,p4,p5,p6,p7⟩:=B2.c8;have lp:=B2.lt;obtain ⟨o0,o1,o2,o3⟩:=B3.c4;have lo:=B3.lt
  have HR2 : Hid (R = if c.numV on = 0 then (J0,71) else if c.numV on < c.numV l.f then (J0,8) else Yb c l.r f on 0 n (start l) l.f):=by
   unfold Hid;by_cases d0 : c.numV on = 0
   ·rw [HR.out,if_pos d0];unfold Qf.owedV;rw [← hq.out,if_neg (by simp),if_pos d0]
   ·by_cases d1 : c.numV on < c.numV l.f
    ·rw [HR.out,if_neg d0,if_pos d1];unfold Qf.owedV;rw [← hq.out,if_neg (by simp),if_neg d0,if_pos d1]
    ·rw [HR.out,if_neg d0,if_neg d1];exact Qgy hq.out.symm d0 d1
  clear HR hq;generalize Yb c l.r f on 0 n (start l) l.f = Q at *;have ND1:=fun w h => ND on w h
  have ND2:=fun w h => ND l.f w h
  clear ND;generalize c.numV on = N at *;generalize c.numV l.f = M at *;go_upto_region 8 with (go_at_call 48;(with_reducible refine Calls.mono (ND1 _ C) ?_);rintro e w3 ⟨rfl,hd⟩)
  replace E:=E.trans hd;replace B2:=B2.ext hd;replace B3:=B3.ext hd;replace B4:=B4.ext hd;replace H3:=H3.ext hd;replace RB:=RB.ext hd;replace Z0:=Z0.ext hd;replace C:=C.ext hd;clear hd k0 k1 lk p0 p1 p2 p3 p4 p5 p6 p7 lp o0 o1 o2 o3 lo ND1;by_cases d0 : N = 0
  ·subst d0;have hr9:=HR2.out;rw [if_pos rfl] at hr9;subst hr9;clear HR2 NW ND2;have z0:=B4.frozen 0;have z1:=B4.frozen 1;have z2:=B4.frozen 2;have z3:=B4.frozen 3;have z4:=B4.frozen 4;have z5:=B4.frozen 5;obtain ⟨x0,x1,x2,x3,x4,x5⟩:=B4.c6;have lx:=B4.lt;have H9:=Yz B4 (.int .i64 0) (.int .i64 0) (.int .i64 0) (.int .i64 0) (.int .i64 0) (.int .i64 0);have EF:=Yy E hbr (.int .i64 0) (.int .i64 0) (.int .i64 0) (.int .i64 0) (.int .i64 0) (.int .i64 0);obtain ⟨y0,y1,y2,y3,y4,y5⟩:=H9.c6;go_wp2;refine bodyPost_ret (v:=.tuple #[.agg #[.int .i64 0,.int .i64 0,.int .i64 0,.int .i64 0,.int .i64 0,.int .i64 0],.int .i64 71]) (by simp [results,Tryz.results23,go_sem,y0,y1,y2,y3,y4,y5]) rfl ⟨rfl,EF⟩
  have d0b : (N == 0) = false:=beq_eq_false_iff_ne.2 d0;have HR3 : Hid (R = if N < M then (J0,8) else Q):=by unfold Hid;rw [HR2.out,if_neg d0]
  clear HR2 d0;obtain ⟨k0,k1⟩:=H3.c2;have lk:=H3.lt;obtain ⟨p0,p1,p2,p3,p4,p5,p6,p7⟩:=B2.c8;have lp:=B2.lt;obtain ⟨o0,o1,o2,o3⟩:=B3.c4;have lo:=B3.lt;have DAYARM:=ND2 _ C;by_cases d1 : N < M
  ·have d1b : decide (N < M) = true:=decide_eq_true d1;have hr9:=HR3.out;rw [if_pos d1] at hr9;subst hr9;clear HR3 NW d1;go_upto_region 11 with (go_at_call 48;(with_reducible refine Calls.mono (ND2 _ C) ?_);rintro e w4 ⟨rfl,hd⟩)
   replace E:=E.trans hd;replace B4:=B4.ext hd;have z0:=B4.frozen 0;have z1:=B4.frozen 1;have z2:=B4.frozen 2;have z3:=B4.frozen 3;have z4:=B4.frozen 4;have z5:=B4.frozen 5;obtain ⟨x0,x1,x2,x3,x4,x5⟩:=B4.c6;have lx:=B4.lt;have H9:=Yz B4 (.int .i64 0) (.int .i64 0) (.int .i64 0) (.int .i64 0) (.int .i64 0) (.int .i64 0);have EF:=Yy E hbr (.int .i64 0) (.int .i64 0) (.int .i64 0) (.int .i64 0) (.int .i64 0) (.int .i64 0);obtain ⟨y0,y1,y2,y3,y4,y5⟩:=H9.c6;go_wp2;refine bodyPost_ret (v:=.tuple #[.agg #[.int .i64 0,.int .i64 0,.int .i64 0,.int .i64 0,.int .i64 0,.int .i64 0],.int .i64 8]) (by simp [results,Tryz.results23,go_sem,y0,y1,y2,y3,y4,y5]) rfl ⟨rfl,EF⟩
  ·have d1b : decide (N < M) = false:=decide_eq_false d1;have hr9:=HR3.out;rw [if_neg d1] at hr9;subst hr9;clear HR3 d1;go_upto_region 12 with (go_at_call 48;(with_reducible refine Calls.mono (ND2 _ C) ?_);rintro e w4 ⟨rfl,hd⟩)
   replace E:=E.trans hd;replace B2:=B2.ext hd;replace B3:=B3.ext hd;replace B4:=B4.ext hd;replace H3:=H3.ext hd;replace RB:=RB.ext hd;replace Z0:=Z0.ext hd;replace C:=C.ext hd;clear hd k0 k1 lk p0 p1 p2 p3 p4 p5 p6 p7 lp o0 o1 o2 o3 lo ND2 DAYARM;obtain ⟨k0,k1⟩:=H3.c2;have lk:=H3.lt;obtain ⟨p0,p1,p2,p3,p4,p5,p6,p7⟩:=B2.c8;have lp:=B2.lt;obtain ⟨o0,o1,o2,o3⟩:=B3.c4;have lo:=B3.lt;obtain ⟨⟨⟨Pn,Pd⟩,⟨In_,Id⟩,⟨Sn,Sd⟩⟩,Re⟩:=R;go_wp2_with (go_at_call 66;(with_reducible refine Calls.mono (NW _ C RB Z0) ?_);rintro e w5 ⟨rfl,h1⟩;replace E:=E.trans h1;replace B4:=B4.ext h1;have z0:=B4.frozen 0;have z1:=B4.frozen 1;have z2:=B4.frozen 2;have z3:=B4.frozen 3;have z4:=B4.frozen 4;have z5:=B4.frozen 5;obtain ⟨x0,x1,x2,x3,x4,x5⟩:=B4.c6;have lx:=B4.lt)
   have H9:=Yz B4 (.int .i64 Pn) (.int .i64 Pd) (.int .i64 In_) (.int .i64 Id) (.int .i64 Sn) (.int .i64 Sd);have EF:=Yy E hbr (.int .i64 Pn) (.int .i64 Pd) (.int .i64 In_) (.int .i64 Id) (.int .i64 Sn) (.int .i64 Sd);obtain ⟨y0,y1,y2,y3,y4,y5⟩:=H9.c6;go_wp2;refine bodyPost_ret (v:=.tuple #[.agg #[.int .i64 Pn,.int .i64 Pd,.int .i64 In_,.int .i64 Id,.int .i64 Sn,.int .i64 Sd],.int .i64 Re]) (by simp [results,Tryz.results23,go_sem,y0,y1,y2,y3,y4,y5]) rfl ⟨rfl,EF⟩
theorem Qh6 (A A' : Option Addr) (ca cb : Nat) (c : Qf) (B : Option Addr) (n cap : Nat) (l : Ln) (f : Nat → Jz) (hp : l.p.In) (hr : l.r.In) (hin : ∀ i,i < n → (f i).n.In) (w : World) (hC : Q8 w A ca A' cb c) (hB : Qp w B n 6 (Yg f)) (hn : n ≤ 9223372036854775807) (hZ : Z6 w) (on : Dt) :
  Calls Tryz.prog 39 #[.agg #[.slice A c.nk ca,.slice A' c.ny cb],.agg #[.int .i64 l.p.n,.int .i64 l.p.d,.int .i64 l.r.n,.int .i64 l.r.d,.int .i64 l.f.y,.int .i64 l.f.m,.bool l.f.s,.int .i64 l.f.d],.slice B n cap,.agg #[.int .i64 on.y,.int .i64 on.m,.bool on.s,.int .i64 on.d]] w fun e w' => e = .returned (.tuple #[.agg #[.int .i64 (c.settleV l f n on).1.n,.int .i64 (c.settleV l f n on).1.d],.int .i64 (c.settleV l f n on).2]) ∧ Qb w w':=by
 have NO:=fun w h1 h2 z => Ej A A' ca cb c B n cap l f hp hr hin w h1 h2 hn z on
 have hoi:=Qgx c l f n on hp;obtain ⟨R,hR0⟩:=Qg (c.settleV l f n on);rw [← hR0];have HR:=Lib.hid hR0;clear hR0
 go_enter Tryz.func39,Tryz.ntmps39
 go_upto_region 1 with (fail)
 obtain ⟨v,hv⟩:=Qg ((((w.alloc (.cells #[.slice A c.nk ca,.slice A' c.ny cb] 25)).alloc (.cells #[.int .i64 l.p.n,.int .i64 l.p.d,.int .i64 l.r.n,.int .i64 l.r.d,.int .i64 l.f.y,.int .i64 l.f.m,.bool l.f.s,.int .i64 l.f.d] 67)).alloc (.cells #[.int .i64 on.y,.int .i64 on.m,.bool on.s,.int .i64 on.d] 51)).alloc (.cells #[.int .i64 0,.int .i64 0] 65));rw [← hv];have E : Qb w v:=by rw [hv];exact ((((Qb.refl _).alloc _).alloc _).alloc _).alloc _
 have B1 : Qa v w.heap.size 25 #[.slice A c.nk ca,.slice A' c.ny cb]:=by rw [hv];exact (((Qa.new _ _ _).alloc _).alloc _).alloc _
 have B2 : Qa v (w.heap.size + 1) 67 #[.int .i64 l.p.n,.int .i64 l.p.d,.int .i64 l.r.n,.int .i64 l.r.d,.int .i64 l.f.y,.int .i64 l.f.m,.bool l.f.s,.int .i64 l.f.d]:=by rw [hv];exact ((Qa.at _ _ _ _ (by simp)).alloc _).alloc _
 have B3 : Qa v (w.heap.size + 1 + 1) 51 #[.int .i64 on.y,.int .i64 on.m,.bool on.s,.int .i64 on.d]:=by rw [hv];exact (Qa.at _ _ _ _ (by simp)).alloc _
 have B4 : Qa v (w.heap.size + 1 + 1 + 1) 65 #[.int .i64 0,.int .i64 0]:=by rw [hv];exact Qa.at _ _ _ _ (by simp)
 clear hv;obtain ⟨b4,hb4⟩:=Qg (w.heap.size + 1 + 1 + 1);rw [← hb4] at B4 ⊢;obtain ⟨b3,hb3⟩:=Qg (w.heap.size + 1 + 1);rw [← hb3] at B3 ⊢;obtain ⟨b2,hb2⟩:=Qg (w.heap.size + 1);rw [← hb2] at B2 ⊢;obtain ⟨b1,hb1⟩:=Qg (w.heap.size);rw [← hb1] at B1 ⊢;have hbr : w.heap.size ≤ b4:=by omega
 have hbr1 : w.heap.size ≤ b1:=by omega
 have hbr2 : w.heap.size ≤ b2:=by omega
 have hbr3 : w.heap.size ≤ b3:=by omega
 have hn21 : b2 ≠ b1:=by omega
 have hn31 : b3 ≠ b1:=by omega
 have hn32 : b3 ≠ b2:=by omega
 have hn41 : b4 ≠ b1:=by omega
 have hn42 : b4 ≠ b2:=by omega
 have hn43 : b4 ≠ b3:=by omega
 clear hb1 hb2 hb3 hb4;have RB:=hB.ext E;have Z0:=hZ.ext E;have C:=hC.ext E;clear hB hZ hC;obtain ⟨k0,k1⟩:=B1.c2;have lk:=B1.lt;obtain ⟨p0,p1,p2,p3,p4,p5,p6,p7⟩:=B2.c8;have lp:=B2.lt;obtain ⟨o0,o1,o2,o3⟩:=B3.c4;have lo:=B3.lt;have HR2 : Hid (R = if (c.owedV l f n on).2 ≠ 0 then (Zm,(c.owedV l f n on).2) else Zn (c.owedV l f n on).1.p (c.owedV l f n on).1.i):=HR;clear HR;generalize c.owedV l f n on = Q at *;obtain ⟨⟨⟨Pn,Pd⟩,⟨In_,Id⟩,⟨Sn,Sd⟩⟩,Re⟩:=Q;obtain ⟨hi1,hi2⟩:=hoi;simp only [] at HR2 NO hi1 hi2;go_upto_region 2 with (go_at_call 23;(with_reducible refine Calls.mono (NO _ C RB Z0) ?_);rintro e w1 ⟨rfl,h1⟩)
 obtain ⟨v3,hv⟩:=Qg (w1.alloc (.cells #[.int .i64 Pn,.int .i64 Pd,.int .i64 In_,.int .i64 Id,.int .i64 Sn,.int .i64 Sd] 72));rw [← hv];have h3 : Qb w1 v3:=by rw [hv];exact (Qb.refl _).alloc _
 have H3 : Qa v3 w1.heap.size 72 #[.int .i64 Pn,.int .i64 Pd,.int .i64 In_,.int .i64 Id,.int .i64 Sn,.int .i64 Sd]:=by rw [hv];exact Qa.new _ _ _
 clear hv;generalize w1.heap.size = b9 at *;replace E:=(E.trans h1).trans h3;replace B4:=(B4.ext h1).ext h3;replace Z0:=(Z0.ext h1).ext h3;clear h1 h3 k0 k1 lk B1 NO p0 p1 p2 p3 p4 p5 p6 p7 lp o0 o1 o2 o3 lo B2 B3 C RB;by_cases e0 : Re = 0;rotate_left
 ·have g0 : (Re == 0) = false := beq_eq_false_iff_ne.2 e0;have g0n : (Re != 0) = true := by rw [bne, g0]; rfl
  have hr9:=HR2.out;rw [if_pos e0] at hr9;subst hr9;clear HR2 e0;have f0:=B4.frozen 0;have f1:=B4.frozen 1;obtain ⟨x0,x1⟩:=B4.c2;have lx:=B4.lt;have H9:=Qm B4 (.int .i64 0) (.int .i64 0);have EF:=(E.setCell (p:=⟨b4,0,none⟩) hbr (.int .i64 0)).setCell (p:=⟨b4,1,none⟩) hbr (.int .i64 0);obtain ⟨y0,y1⟩:=H9.c2;go_wp2;refine bodyPost_ret (v:=.tuple #[.agg #[.int .i64 0,.int .i64 0],.int .i64 Re]) (by simp [results,Tryz.results39,go_sem,y0,y1]) rfl ⟨rfl,EF⟩
 subst e0;have NS:=fun w z => Lk ⟨Pn,Pd⟩ ⟨In_,Id⟩ hi1 hi2 w z
 have hr9:=HR2.out;rw [if_neg (by simp)] at hr9;rw [← hr9] at NS;clear HR2 hr9;obtain ⟨⟨Rn,Rd⟩,Rc⟩:=R;obtain ⟨k0,k1,k2,k3,k4,k5⟩:=H3.c6;have lk:=H3.lt;go_wp2_with (first | (go_at_call 86;(with_reducible refine Calls.mono (NS _ Z0) ?_);rintro e wt ⟨rfl,ht⟩;replace E:=E.trans ht;replace B4:=B4.ext ht;have f0:=B4.frozen 0;have f1:=B4.frozen 1;obtain ⟨x0,x1⟩:=B4.c2;have lx:=B4.lt));have H9:=Qm B4 (.int .i64 Rn) (.int .i64 Rd);have EF:=(E.setCell (p:=⟨b4,0,none⟩) hbr (.int .i64 Rn)).setCell (p:=⟨b4,1,none⟩) hbr (.int .i64 Rd);obtain ⟨y0,y1⟩:=H9.c2;go_wp2;refine bodyPost_ret (v:=.tuple #[.agg #[.int .i64 Rn,.int .i64 Rd],.int .i64 Rc]) (by simp [results,Tryz.results39,go_sem,y0,y1]) rfl ⟨rfl,EF⟩
def Zc (f : Nat → Lt) (i : Nat) : List Value:=[.string (f i).g,.int .i64 (f i).n]
theorem Du (x y : ByteArray) (w : World) : (binOp .geq 9 (.string x) (.string y)).run Tryz.prog w = .ok (.bool (!J3 x y)) w:=by
 have h : (binOp .geq 9 (.string x) (.string y)).run Tryz.prog w = .ok (.bool (!Op.bytesLess x.toList y.toList)) w:=rfl;rw [h,bytesLess_eq];rfl
theorem Lr (T : Option Addr) (n cap : Nat) (f : Nat → Lt) (w : World) (hT : Qp w T n 2 (Zc f)) (hcap : n ≤ cap) (hn : n ≤ 9223372036854775807) :
  Calls Tryz.prog 68 #[.slice T n cap] w fun e w' => e = .returned (.int .i64 (Jr f n)) ∧ Qb w w':=by
 have hge:=Du
 go_enter Tryz.func68,Tryz.ntmps68
 by_cases h64 : 64 < n
 ·have g1 : decide ((64 : Int) < (n : Int)) = true:=decide_eq_true (by omega);rw [Co h64];go_wp2;go_ret;exact ⟨rfl,Qb.refl _⟩
 ·have g1 : decide ((64 : Int) < (n : Int)) = false:=decide_eq_false (by omega);go_upto_region 4 with (fail)
  go_loopw [10] (fun i wr => ∃ k : Nat,k ≤ n ∧ i = .int .i64 k ∧ Hid (∀ j,j < k → Wu f j = true) ∧ Qb w wr) (fun i _ => n - (intOf i).toNat)
  case atStart => exact ⟨0,Nat.zero_le _,rfl,(fun j h => absurd h (by omega)),Qb.refl _⟩
  case round =>
   obtain ⟨k,hk,rfl,hall,hE⟩:=hrel;obtain ⟨wo,rfl⟩:=Qg wr;obtain ⟨hcwo,hfwo,hzwo⟩:=Qb.rules hE;try simp only [World.size_alloc] at hzwo
   obtain ⟨hcbwo,hfbwo,hzbwo⟩:=Qb.rules (show Qb w wo from Qj);clear hcwo hfwo;by_cases hlt : k < n
   ·obtain ⟨b, off, rfl, hb, hc⟩ := hT (by omega);have hbo : b < wo.heap.size := Nat.lt_of_lt_of_le hb hE.size;have c0 : w.cell? ⟨b, off + k * 2, none⟩ = some (.string (f k).g) := by simpa using hc k 0 _ hlt rfl
    have c1 : w.cell? ⟨b,off + k * 2 + 1,none⟩ = some (.int .i64 (f k).n):=hc k 1 _ hlt rfl
    have hd0 : 0 < k → w.cell? ⟨b,off + (IntKind.i64.wrap ((k : Int) - 1)).toNat * 2,none⟩ = some (.string (f (k - 1)).g):=fun h => by
     rw [show (IntKind.i64.wrap ((k : Int) - 1)).toNat = k - 1 from by rw [IntKind.wrap_i64];omega]
     simpa using hc (k - 1) 0 _ (by omega) rfl
    have hin : 0 < k → (0 ≤ IntKind.i64.wrap ((k : Int) - 1) ∧ IntKind.i64.wrap ((k : Int) - 1) < (n : Int)):=fun h => by rw [IntKind.wrap_i64];omega
    have HK : Hid (Wu f k = _):=Cj f k;clear hc;go_upto_region 6 with (fail)
    refine Zd wo Qo (by kernel_rfl) Qj ?_;intro hne hrx hry;try simp only []
    try simp only [List.append_eq,List.cons_append,List.nil_append]
    have hrx0:=fun u o => hrx u (wo.heap.size) o (by first | omega | (simp;done) | (simp;omega))
    skip
    repeat (first
     | go_big_quiet_skip
     | ((with_reducible apply Y2)
        ·exact rfl
        ·exact rfl
        ·exact rfl
        intro K hK
        unfold Qy;go_big_quiet_op;(with_reducible refine hK _ ?_);clear hK K)
     | ((with_reducible apply Y4)
        ·exact rfl
        ·exact rfl
        ·exact rfl
        intro K hK
        unfold Qy;go_big_quiet_op;(with_reducible refine hK _ ?_);clear hK K)
     | (go_big_quiet_want;go_big_quiet_op;go_big_quiet_on)
     | (go_big_quiet_want;go_big_quiet_op;apply Exists.intro;refine ⟨fun u => ?_,?_⟩
        ·first
          | (go_at_call 120;refine (Vh _ _).mono ?_;rintro e w' ⟨rfl,rfl⟩;exact ⟨rfl,u,rfl⟩)
        go_big_quiet_on)
     | ((with_reducible apply Y3)
        ·first | exact Zu rfl rfl rfl | exact Zt rfl rfl rfl | exact Zs rfl rfl rfl | exact Zr rfl rfl rfl
        ·exact rfl
        ·exact rfl
        ·exact rfl
        intro K hK
        unfold Qy;go_big_quiet_op;(with_reducible refine hK _ ?_);clear hK K)
     | ((with_reducible apply Y5)
        ·first | exact Zu rfl rfl rfl | exact Zt rfl rfl rfl | exact Zs rfl rfl rfl | exact Zr rfl rfl rfl
        ·exact rfl
        ·exact rfl
        ·exact rfl
        intro K hK
        unfold Qy;go_big_quiet_op;(with_reducible refine hK _ ?_);clear hK K)
     | ((with_reducible apply Yn)
        ·first | exact Zu rfl rfl rfl | exact Zt rfl rfl rfl | exact Zs rfl rfl rfl | exact Zr rfl rfl rfl
        apply Exists.intro;refine And.intro (fun hgb => ?_) ?_
        ·intro u;try simp at hgb
         go_simp
         try simp only [if_pos hsl]
         try simp only [if_pos (hin (by omega))]
         try (simp only [hd0 (by omega)];go_simp)
         try (rw [hlook _ (Qb.trans Qj u.e) (hlk0 hgb)];go_simp)
         first
          | (with_reducible exact rfl)
          | (go_at_call 120;refine (Vh _ _).mono ?_;rintro e w' ⟨rfl,rfl⟩;exact ⟨rfl,u,rfl⟩)
        intro K hK;unfold Qy;go_big_quiet_op;(with_reducible refine hK _ ?_);clear hK K))
    clear hne hry hrx hrx0;refine wpQuiet_nil ?_;intro wn hwn;obtain ⟨hcwn,hfwn,hzwn⟩:=Qb.rules hwn;try simp only [World.size_alloc] at hzwn
    have hk0wn:=fun o => hcwn (wo.heap.size) o (by first | omega | (simp;done) | (simp;omega))
    have hj0wn:=fun o => hfwn (wo.heap.size) o (by first | omega | (simp;done) | (simp;omega))
    have hl0wn : wo.heap.size < wn.heap.size:=(by first | omega | (simp;done) | (simp;omega));obtain ⟨hcbwn,hfbwn,hzbwn⟩:=Qb.rules (show Qb wo wn from Qj);clear hcwn hfwn;generalize hg : (!Zx (f k).g || (decide (0 < k) && !J3 (f (k - 1)).g (f k).g) || ((f k).n == 0) || decide (1099511627776 < (f k).n) || decide ((f k).n < -1099511627776)) = g at *;have E2 : Qb w wn:=hE.trans (((Qb.refl _).alloc _).trans hwn);cases g
    ·go_wp2
     exact ⟨⟨k + 1,by omega,by go_num,fun j hj => by
      by_cases e : j = k
      ·subst e;exact HK.out
      ·exact hall.out j (by omega),E2⟩,by simp [intOf];omega⟩
    ·go_wp2;go_ret;exact ⟨Xs (Cm hlt HK.out h64).symm,E2⟩
   ·obtain rfl : k = n := by omega
    go_wp2;go_ret;exact ⟨Xs (Cl hall.out h64).symm,hE⟩
theorem Qce (T : Option Addr) (n cap : Nat) (f : Nat → Lt) (S : Option Addr) (m cm : Nat) (g : Nat → Lt) (w : World) (hT : Qp w T n 2 (Zc f)) (hcap : n ≤ cap) (hn : n ≤ 9223372036854775807) (hS : Qp w S m 2 (Zc g)) (hcm : m ≤ cm) (hm : m ≤ 9223372036854775807) :
  Calls Tryz.prog 110 #[.slice T n cap,.slice S m cm] w fun e w' => e = .returned (.int .i64 (Kh f n g m)) ∧ Qb w w':=by
 have N1:=Lr T n cap f w hT hcap hn;have N2:=fun w h => Lr S m cm g w h hcm hm
 unfold Kh;generalize Jr f n = a at *;generalize Jr g m = b at *;by_cases e0 : a = 0
 ·subst e0;rw [if_neg (by simp)]
  go_enter Tryz.func110,Tryz.ntmps110
  go_wp2_with (first | (go_at_call 68;(with_reducible refine Calls.mono (N1) ?_);rintro e w1 ⟨rfl,h1⟩) | (go_at_call 68;(with_reducible refine Calls.mono (N2 _ (hS.ext h1)) ?_);rintro e w2 ⟨rfl,h2⟩));go_ret;exact ⟨rfl,h1.trans h2⟩
 ·have g0 : (a == 0) = false := beq_eq_false_iff_ne.2 e0;have g0n : (a != 0) = true := by rw [bne, g0]; rfl
  rw [if_pos e0]
  go_enter Tryz.func110,Tryz.ntmps110
  go_wp2_with (go_at_call 68;(with_reducible refine Calls.mono (N1) ?_);rintro e w1 ⟨rfl,h1⟩);go_ret;exact ⟨rfl,h1⟩
theorem Qf2 (x y : Lt) (w : World) : Calls Tryz.prog 114 #[.agg #[.string x.g,.int .i64 x.n],.agg #[.string y.g,.int .i64 y.n]] w fun e w' => e = .returned (.string (Ue x y)) ∧ Qb w w':=by
 have hne : ∀ (s : ByteArray) (w : World),(binOp .neq 9 (.string s) (.string { data:=#[] })).run Tryz.prog w = .ok (.bool (!(s.toList == ([] : List UInt8)))) w:=fun s w => by
  have h : (binOp .neq 9 (.string s) (.string { data:=#[] })).run Tryz.prog w = .ok (.bool (!(s.toList == ByteArray.toList { data:=#[] }))) w:=rfl;rw [h,Lib.toList_data { data:=#[] }]
 unfold Ue;by_cases h : x.g.size = 0
 ·rw [if_pos h]
  have g0 : (x.g.toList == ([] : List UInt8)) = true:=by
   have : x.g.toList = []:=by rw [← List.length_eq_zero_iff,Lib.toList_data];simpa using h
   rw [this];rfl
  clear h
  go_enter Tryz.func114,Tryz.ntmps114
  go_wp2;go_ret;exact ⟨rfl,Qj⟩
 ·rw [if_neg h]
  have g0 : (x.g.toList == ([] : List UInt8)) = false:=by
   rw [beq_eq_false_iff_ne];intro hh;apply h;have:=congrArg List.length hh;rw [Lib.toList_data] at this
   simpa using this
  clear h
  go_enter Tryz.func114,Tryz.ntmps114
  go_wp2;go_ret;exact ⟨rfl,Qj⟩
theorem Na (x y : Lt) (w : World) : Calls Tryz.prog 112 #[.agg #[.string x.g,.int .i64 x.n],.agg #[.string y.g,.int .i64 y.n]] w fun e w' => e = .returned (.bool (J3 x.g y.g)) ∧ Qb w w':=by
 go_enter Tryz.func112,Tryz.ntmps112
 go_wp2;go_ret;exact ⟨Jd (bytesLess_eq _ _),Qj⟩
theorem Qn {W w : World} (h : Qb W w) (t : TypeId) (cs : Array Value) : ∃ b w',b = w.heap.size ∧ w' = w.alloc (.cells cs t) ∧ Qa w' b t cs ∧ Qb W w' ∧ Qb w w' ∧ W.heap.size ≤ b:=⟨_,_,rfl,rfl,Qa.new w t cs,h.alloc _,(Qb.refl w).alloc _,h.size⟩
def De (A : Nat → Nat → Nat → Act) (S : World → Nat → Nat → Nat → Prop) : Exit → Act → World → Prop:=fun e a' w' => e = .normal ∧ ∃ p q r,S w' p q r ∧ a' = A p q r
theorem Qcw {A : Nat → Nat → Nat → Act} {S : World → Nat → Nat → Nat → Prop} {w' : World} (p q r : Nat) {a' : Act} (h : S w' p q r) (ha : a' = A p q r) : De A S .normal a' w':=⟨rfl,p,q,r,h,ha⟩
theorem Qjf {P : Program} {c : Code} {Q : Exit → Act → World → Prop} {a : Act} {w : World} {A : Nat → Nat → Nat → Act} (S : World → Nat → Nat → Nat → Prop) (h1 : c.wp P (De A S) a w) (h2 : ∀ p q r w',S w' p q r → Q .normal (A p q r) w') : c.wp P Q a w :=
 Code.wp_mono (fun e a' w' ⟨he,p,q,r,hs,ha⟩ => by subst he;subst ha;exact h2 p q r w' hs) h1
theorem Ar {W : World} {b : Nat} {n m : Int} {v0 v1 : Value} (h : Qa W b 245 #[.int .u64 n,.int .u64 m]) (h' : Qa W b 252 #[v0,v1]) : False:=by
 have e:=(show W.heap[b]? = _ from h).symm.trans h';simp at e
def Uz (x y : Nat) : Nat → Nat
 | 0 => x
 | _ => y
theorem Eu (x y : Nat) : upTo (Uz x y) 2 = x * y:=by show 1 * x * y = x * y;rw [Nat.one_mul]
theorem Et {x y : Nat} (hx : 1 ≤ x) (hy : 1 ≤ y) : ∀ i,i < 2 → 1 ≤ Uz x y i:=fun i hi => by
 have : i = 0 ∨ i = 1:=by omega
 rcases this with rfl | rfl
 ·exact hx
 ·exact hy
theorem Es {x y : Nat} (hx : x < 18446744073709551616) (hy : y < 18446744073709551616) : ∀ i,i < 2 → Uz x y i < 18446744073709551616:=fun i hi => by
 have : i = 0 ∨ i = 1:=by omega
 rcases this with rfl | rfl
 ·exact hx
 ·exact hy
theorem Qas {w : World} {b : Nat} {t : TypeId} {n m : Nat} (h : Qa w b t #[.int .u64 (n : Int),.int .u64 (m : Int)]) : Qp w (some ⟨b,0,none⟩) 2 1 (Zg (Uz n m)):=Ke (f:=Zg (Uz n m)) (n:=2) (fun _ => rfl) h
theorem Qc9 (a b : Rt) (ha : a.ok = true) (hb : b.ok = true) (ba bb : Nat) (w : World) (hA : Qa w ba 65 #[.int .i64 a.n,.int .i64 a.d]) (hB : Qa w bb 65 #[.int .i64 b.n,.int .i64 b.d]) (hZ : Z6 w) :
  Calls Tryz.prog 171 #[.pointer (some ⟨bb,0,none⟩),.pointer (some ⟨ba,0,none⟩)] w fun e w' => e = .returned (.tuple #[.agg #[.int .i64 (if b.n = 0 then (Zm,9) else Jk (decide (a.n < 0) != decide (b.n < 0)) (a.n.natAbs * b.d.natAbs) (a.d.natAbs * b.n.natAbs)).1.n,.int .i64 (if b.n = 0 then (Zm,9) else Jk (decide (a.n < 0) != decide (b.n < 0)) (a.n.natAbs * b.d.natAbs) (a.d.natAbs * b.n.natAbs)).1.d],.int .i64 (if b.n = 0 then (Zm,9) else Jk (decide (a.n < 0) != decide (b.n < 0)) (a.n.natAbs * b.d.natAbs) (a.d.natAbs * b.n.natAbs)).2]) ∧ Qb w w':=by
 obtain ⟨a1,a2,a3,a4,_⟩:=J2 ha;obtain ⟨b1',b2',b3',b4',_⟩:=J2 hb;have N1:=fun w => Uj a.n (by omega) (by omega) w
 have N2:=fun w => Uj b.d (by omega) (by omega) w
 have N3:=fun w => Uj a.d (by omega) (by omega) w
 have N4:=fun w => Uj b.n (by omega) (by omega) w
 obtain ⟨R,hR0⟩:=Qg (if b.n = 0 then (Zm,9) else Jk (decide (a.n < 0) != decide (b.n < 0)) (a.n.natAbs * b.d.natAbs) (a.d.natAbs * b.n.natAbs));rw [← hR0];have HR:=Lib.hid hR0;clear hR0
 go_enter Tryz.func171,Tryz.ntmps171
 go_upto_region 1 with (fail)
 obtain ⟨v,hv⟩:=Qg (w.alloc (.cells #[.int .i64 0,.int .i64 0] 65));rw [← hv];have E : Qb w v:=by rw [hv];exact (Qb.refl _).alloc _
 have B1 : Qa v w.heap.size 65 #[.int .i64 0,.int .i64 0]:=by rw [hv];exact (Qa.new _ _ _)
 clear hv;obtain ⟨b1,hb1⟩:=Qg (w.heap.size);rw [← hb1] at B1 ⊢;have hbr : w.heap.size ≤ b1:=by omega
 clear hb1;have Z0:=hZ.ext E;have HA:=hA.ext E;have HB:=hB.ext E;clear hA hB hZ;obtain ⟨k0,k1⟩:=HA.c2;have lk:=HA.lt;obtain ⟨p0,p1⟩:=HB.c2;have lp:=HB.lt;by_cases hb0 : b.n = 0
 ·have g0 : (b.n == 0) = true := by rw [hb0]; rfl
  have hr : R = (Zm,9):=by rw [HR.out,if_pos hb0]
  subst hr;clear HR hb0;have f0:=B1.frozen 0;have f1:=B1.frozen 1;obtain ⟨x0,x1⟩:=B1.c2;have lx:=B1.lt;have H4:=Qm B1 (.int .i64 0) (.int .i64 0);have EF:=(E.setCell (p:=⟨b1,0,none⟩) hbr (.int .i64 0)).setCell (p:=⟨b1,1,none⟩) hbr (.int .i64 0);obtain ⟨y0,y1⟩:=H4.c2;go_wp2;refine bodyPost_ret (v:=.tuple #[.agg #[.int .i64 0,.int .i64 0],.int .i64 9]) (by simp [results,Tryz.results171,go_sem,y0,y1]) rfl ⟨rfl,EF⟩
 ·have g0 : (b.n == 0) = false:=beq_eq_false_iff_ne.2 hb0;have hr:=HR.out;rw [if_neg hb0] at hr;clear HR;by_cases ha0 : a.n = 0
  ·have g1 : (a.n == 0) = true := by rw [ha0]; rfl
   rw [show a.n.natAbs * b.d.natAbs = 0 by rw [ha0];simp,Te (Nat.mul_pos (by omega) (by omega))] at hr;subst hr;clear hb0 ha0;obtain ⟨z0,z1,lz⟩:=Z0;have f0:=B1.frozen 0;have f1:=B1.frozen 1;obtain ⟨x0,x1⟩:=B1.c2;have lx:=B1.lt;have H4:=Qm B1 (.int .i64 0) (.int .i64 1);have EF:=(E.setCell (p:=⟨b1,0,none⟩) hbr (.int .i64 0)).setCell (p:=⟨b1,1,none⟩) hbr (.int .i64 1);obtain ⟨y0,y1⟩:=H4.c2;go_wp2;refine bodyPost_ret (v:=.tuple #[.agg #[.int .i64 0,.int .i64 1],.int .i64 0]) (by simp [results,Tryz.results171,go_sem,y0,y1]) rfl ⟨rfl,EF⟩
  ·have g1 : (a.n == 0) = false := beq_eq_false_iff_ne.2 ha0;have NR := fun w b6 b13 neg (hneg : neg = (decide (a.n < 0) != decide (b.n < 0))) h h' => Tf (some ⟨b6, 0, none⟩) (some ⟨b13, 0, none⟩) 2 2 2 2 (Uz a.n.natAbs b.d.natAbs) (Uz a.d.natAbs b.n.natAbs) neg w h h' (fun h => by cases h) (fun h => by cases h) (by decide) (by decide) (Et (by omega) (by omega)) (Es (by omega) (by omega)) (Et (by omega) (by omega)) (Es (by omega) (by omega))
   have NR2 : ∀ (w : World) (b6 b13 : Nat),Qp w (some ⟨b6,0,none⟩) 2 1 (Zg (Uz a.n.natAbs b.d.natAbs)) → Qp w (some ⟨b13,0,none⟩) 2 1 (Zg (Uz a.d.natAbs b.n.natAbs)) → Calls Tryz.prog 163 #[.agg #[.slice (some ⟨b6,0,none⟩) 2 2,.slice (some ⟨b13,0,none⟩) 2 2],.bool (!(decide (a.n < 0) == decide (b.n < 0)))] w fun e w' => e = .returned (.tuple #[.agg #[.int .i64 R.1.n,.int .i64 R.1.d],.int .i64 R.2]) ∧ Qb w w':=fun w b6 b13 h h' => by
    have:=NR w b6 b13 _ rfl h h';rw [Eu,Eu] at this;have hr' : R = Jk (!(decide (a.n < 0) == decide (b.n < 0))) (a.n.natAbs * b.d.natAbs) (a.d.natAbs * b.n.natAbs):=hr;rw [hr'];exact this
   clear NR hr hb0 ha0 a1 a2 a3 a4 b1' b2' b3' b4';obtain ⟨⟨Rn,Rd⟩,Re⟩:=R;go_upto_region 5 with (fail)
   clear k0 k1 lk p0 p1 lp;apply Qjf (S:=fun w' b6 b13 b15 => Qb v w' ∧ Qa w' b6 245 #[.int .u64 (a.n.natAbs : Int),.int .u64 (b.d.natAbs : Int)] ∧ Qa w' b13 245 #[.int .u64 (a.d.natAbs : Int),.int .u64 (b.n.natAbs : Int)] ∧ Qa w' b15 252 #[.slice (some ⟨b6,0,none⟩) 2 2,.slice (some ⟨b13,0,none⟩) 2 2])
   ·refine Zb 17 [16] (fun x => Qb v x) Qo rfl ?_;intro vz hvz;have HC:=hvz;have mz0:=trivial
    all_goals try
     (clear mz0
      refine Qs (g:=9) [0,1,3,4,7,8,10,11] [_,_,_,_,_,_,_,_] ⟨rfl,rfl,rfl,rfl,rfl,rfl,rfl,rfl,trivial⟩ (by kernel_rfl) (by kernel_rfl) HC ?_;simp only [Qc,Qd,Qe];apply Exists.intro;refine ⟨fun u hu => ?_,?_⟩
      ·obtain ⟨k0,k1⟩:=(HA.ext hu).c2;have lk:=(HA.ext hu).lt;obtain ⟨p0,p1⟩:=(HB.ext hu).c2;have lp:=(HB.ext hu).lt;repeat (first | go_big_quiet_skip | (go_big_quiet_want;go_big_quiet_op;go_big_quiet_on))
       refine wpQuiet_nil ?_;rfl
      have mz1:=trivial)
    all_goals try
     (clear mz1
      refine Zh 2 15 rfl rfl (by kernel_rfl) ?_ ?_ <;> first
       | (simp only [Qc,Qd,Qe]
          go_wp2_with (go_at_call 162;(with_reducible refine Calls.mono (N1 _) ?_);rintro e wa ⟨rfl,h4⟩);replace HC:=HC.trans h4;try replace Q6:=Q6.ext h4
          try replace Q13:=Q13.ext h4
          try replace Q15:=Q15.ext h4
          clear h4;have mz2:=trivial
          refine Qh HC ?_)
       | (simp only [Qc,Qd,Qe]
          go_wp2;obtain ⟨b15,wb,hbq,hwb,Q15,HC',hx,hgeb15⟩:=Qn HC 252 #[.slice none 0 0,.slice none 0 0];rw [← hbq,← hwb];clear hbq hwb;replace HC:=HC';clear HC';try replace Q6:=Q6.ext hx
          try replace Q13:=Q13.ext hx
          clear hx;have mz3:=trivial;refine Qh HC ?_))
    all_goals try
     (clear mz2
      refine Zh 5 15 rfl rfl (by kernel_rfl) ?_ ?_ <;> first
       | (simp only [Qc,Qd,Qe]
          go_wp2_with (go_at_call 162;(with_reducible refine Calls.mono (N2 _) ?_);rintro e wa ⟨rfl,h4⟩);replace HC:=HC.trans h4;try replace Q6:=Q6.ext h4
          try replace Q13:=Q13.ext h4
          try replace Q15:=Q15.ext h4
          clear h4;have mz4:=trivial
          refine Qh HC ?_)
       | (simp only [Qc,Qd,Qe]
          go_wp2;obtain ⟨b15,wb,hbq,hwb,Q15,HC',hx,hgeb15⟩:=Qn HC 252 #[.slice none 0 0,.slice none 0 0];rw [← hbq,← hwb];clear hbq hwb;replace HC:=HC';clear HC';try replace Q6:=Q6.ext hx
          try replace Q13:=Q13.ext hx
          clear hx;have mz5:=trivial;refine Qh HC ?_))
    all_goals try
     (clear mz3
      refine Ql 2 rfl (by kernel_rfl) ?_;simp only [Qc,Qd,Qe];go_wp2_with (go_at_call 162;(with_reducible refine Calls.mono (N1 _) ?_);rintro e wa ⟨rfl,h4⟩);replace HC:=HC.trans h4;try replace Q6:=Q6.ext h4
      try replace Q13:=Q13.ext h4
      try replace Q15:=Q15.ext h4
      clear h4;have mz5:=trivial;refine Qh HC ?_)
    all_goals try
     (clear mz4
      refine X3 6 9 15 rfl rfl rfl (by kernel_rfl) ?_ ?_ ?_ <;> first
       | (simp only [Qc,Qd,Qe]
          go_wp2_with (go_at_call 162;(with_reducible refine Calls.mono (N3 _) ?_);rintro e wa ⟨rfl,h4⟩);replace HC:=HC.trans h4;try replace Q6:=Q6.ext h4
          try replace Q13:=Q13.ext h4
          try replace Q15:=Q15.ext h4
          clear h4;have mz7:=trivial
          refine Qh HC ?_)
       | (simp only [Qc,Qd,Qe]
          go_wp2;obtain ⟨b6,wb,hbq,hwb,Q6,HC',hx,hgeb6⟩:=Qn HC 245 #[.int .u64 (a.n.natAbs : Int),.int .u64 (b.d.natAbs : Int)];rw [← hbq,← hwb];clear hbq hwb;replace HC:=HC';clear HC';try replace Q13:=Q13.ext hx
          try replace Q15:=Q15.ext hx
          clear hx;have mz6:=trivial
          refine Qh HC ?_)
       | (simp only [Qc,Qd,Qe]
          go_wp2;obtain ⟨b15,wb,hbq,hwb,Q15,HC',hx,hgeb15⟩:=Qn HC 252 #[.slice none 0 0,.slice none 0 0];rw [← hbq,← hwb];clear hbq hwb;replace HC:=HC';clear HC';try replace Q6:=Q6.ext hx
          try replace Q13:=Q13.ext hx
          clear hx;have mz8:=trivial;refine Qh HC ?_))
    all_goals try
     (clear mz5
      refine Ql 5 rfl (by kernel_rfl) ?_;simp only [Qc,Qd,Qe];go_wp2_with (go_at_call 162;(with_reducible refine Calls.mono (N2 _) ?_);rintro e wa ⟨rfl,h4⟩);replace HC:=HC.trans h4;try replace Q6:=Q6.ext h4
      try replace Q13:=Q13.ext h4
      try replace Q15:=Q15.ext h4
      clear h4;have mz8:=trivial;refine Qh HC ?_)
    all_goals try
     (clear mz6
      refine Zh 9 15 rfl rfl (by kernel_rfl) ?_ ?_ <;> first
       | (simp only [Qc,Qd,Qe]
          go_wp2_with (go_at_call 162;(with_reducible refine Calls.mono (N3 _) ?_);rintro e wa ⟨rfl,h4⟩);replace HC:=HC.trans h4;try replace Q6:=Q6.ext h4
          try replace Q13:=Q13.ext h4
          try replace Q15:=Q15.ext h4
          clear h4;have mz9:=trivial
          refine Qh HC ?_)
       | (simp only [Qc,Qd,Qe]
          go_wp2;obtain ⟨b15,wb,hbq,hwb,Q15,HC',hx,hgeb15⟩:=Qn HC 252 #[.slice none 0 0,.slice none 0 0];rw [← hbq,← hwb];clear hbq hwb;replace HC:=HC';clear HC';try replace Q6:=Q6.ext hx
          try replace Q13:=Q13.ext hx
          clear hx;have mz10:=trivial;refine Qh HC ?_))
    all_goals try
     (clear mz7
      refine X3 6 12 15 rfl rfl rfl (by kernel_rfl) ?_ ?_ ?_ <;> first
       | (simp only [Qc,Qd,Qe]
          go_wp2_with (go_at_call 162;(with_reducible refine Calls.mono (N4 _) ?_);rintro e wa ⟨rfl,h4⟩);replace HC:=HC.trans h4;try replace Q6:=Q6.ext h4
          try replace Q13:=Q13.ext h4
          try replace Q15:=Q15.ext h4
          clear h4;have mz11:=trivial
          refine Qh HC ?_)
       | (simp only [Qc,Qd,Qe]
          go_wp2;obtain ⟨b6,wb,hbq,hwb,Q6,HC',hx,hgeb6⟩:=Qn HC 245 #[.int .u64 (a.n.natAbs : Int),.int .u64 (b.d.natAbs : Int)];rw [← hbq,← hwb];clear hbq hwb;replace HC:=HC';clear HC';try replace Q13:=Q13.ext hx
          try replace Q15:=Q15.ext hx
          clear hx;have mz9:=trivial
          refine Qh HC ?_)
       | (simp only [Qc,Qd,Qe]
          go_wp2;obtain ⟨b15,wb,hbq,hwb,Q15,HC',hx,hgeb15⟩:=Qn HC 252 #[.slice none 0 0,.slice none 0 0];rw [← hbq,← hwb];clear hbq hwb;replace HC:=HC';clear HC';try replace Q6:=Q6.ext hx
          try replace Q13:=Q13.ext hx
          clear hx;have mz12:=trivial;refine Qh HC ?_))
    all_goals try
     (clear mz8
      refine Zh 6 9 rfl rfl (by kernel_rfl) ?_ ?_ <;> first
       | (simp only [Qc,Qd,Qe]
          go_wp2_with (go_at_call 162;(with_reducible refine Calls.mono (N3 _) ?_);rintro e wa ⟨rfl,h4⟩);replace HC:=HC.trans h4;try replace Q6:=Q6.ext h4
          try replace Q13:=Q13.ext h4
          try replace Q15:=Q15.ext h4
          clear h4;have mz12:=trivial
          refine Qh HC ?_)
       | (simp only [Qc,Qd,Qe]
          go_wp2;obtain ⟨b6,wb,hbq,hwb,Q6,HC',hx,hgeb6⟩:=Qn HC 245 #[.int .u64 (a.n.natAbs : Int),.int .u64 (b.d.natAbs : Int)];rw [← hbq,← hwb];clear hbq hwb;replace HC:=HC';clear HC';try replace Q13:=Q13.ext hx
          try replace Q15:=Q15.ext hx
          clear hx;have mz10:=trivial;refine Qh HC ?_))
    all_goals try
     (clear mz9
      refine Zh 12 15 rfl rfl (by kernel_rfl) ?_ ?_ <;> first
       | (simp only [Qc,Qd,Qe]
          go_wp2_with (go_at_call 162;(with_reducible refine Calls.mono (N4 _) ?_);rintro e wa ⟨rfl,h4⟩);replace HC:=HC.trans h4;try replace Q6:=Q6.ext h4
          try replace Q13:=Q13.ext h4
          try replace Q15:=Q15.ext h4
          clear h4;have mz13:=trivial
          refine Qh HC ?_)
       | (simp only [Qc,Qd,Qe]
          go_wp2;obtain ⟨b15,wb,hbq,hwb,Q15,HC',hx,hgeb15⟩:=Qn HC 252 #[.slice none 0 0,.slice none 0 0];rw [← hbq,← hwb];clear hbq hwb;replace HC:=HC';clear HC';try replace Q6:=Q6.ext hx
          try replace Q13:=Q13.ext hx
          clear hx;have mz14:=trivial;refine Qh HC ?_))
    all_goals try
     (clear mz10
      refine Ql 9 rfl (by kernel_rfl) ?_;simp only [Qc,Qd,Qe];go_wp2_with (go_at_call 162;(with_reducible refine Calls.mono (N3 _) ?_);rintro e wa ⟨rfl,h4⟩);replace HC:=HC.trans h4;try replace Q6:=Q6.ext h4
      try replace Q13:=Q13.ext h4
      try replace Q15:=Q15.ext h4
      clear h4;have mz14:=trivial;refine Qh HC ?_)
    all_goals try
     (clear mz11
      refine X3 6 13 15 rfl rfl rfl (by kernel_rfl) ?_ ?_ ?_ <;> first
       | (simp only [Qc,Qd,Qe]
          go_wp2;obtain ⟨b6,wb,hbq,hwb,Q6,HC',hx,hgeb6⟩:=Qn HC 245 #[.int .u64 (a.n.natAbs : Int),.int .u64 (b.d.natAbs : Int)];rw [← hbq,← hwb];clear hbq hwb;replace HC:=HC';clear HC';try replace Q13:=Q13.ext hx
          try replace Q15:=Q15.ext hx
          clear hx;have mz13:=trivial
          refine Qh HC ?_)
       | (simp only [Qc,Qd,Qe]
          go_wp2;obtain ⟨b13,wb,hbq,hwb,Q13,HC',hx,hgeb13⟩:=Qn HC 245 #[.int .u64 (a.d.natAbs : Int),.int .u64 (b.n.natAbs : Int)];rw [← hbq,← hwb];clear hbq hwb;replace HC:=HC';clear HC';try replace Q6:=Q6.ext hx
          try replace Q15:=Q15.ext hx
          clear hx;have mz15:=trivial
          refine Qh HC ?_)
       | (simp only [Qc,Qd,Qe]
          go_wp2;obtain ⟨b15,wb,hbq,hwb,Q15,HC',hx,hgeb15⟩:=Qn HC 252 #[.slice none 0 0,.slice none 0 0];rw [← hbq,← hwb];clear hbq hwb;replace HC:=HC';clear HC';try replace Q6:=Q6.ext hx
          try replace Q13:=Q13.ext hx
          clear hx;have mz16:=trivial;refine Qh HC ?_))
    all_goals try
     (clear mz12
      refine Zh 6 12 rfl rfl (by kernel_rfl) ?_ ?_ <;> first
       | (simp only [Qc,Qd,Qe]
          go_wp2_with (go_at_call 162;(with_reducible refine Calls.mono (N4 _) ?_);rintro e wa ⟨rfl,h4⟩);replace HC:=HC.trans h4;try replace Q6:=Q6.ext h4
          try replace Q13:=Q13.ext h4
          try replace Q15:=Q15.ext h4
          clear h4;have mz16:=trivial
          refine Qh HC ?_)
       | (simp only [Qc,Qd,Qe]
          go_wp2;obtain ⟨b6,wb,hbq,hwb,Q6,HC',hx,hgeb6⟩:=Qn HC 245 #[.int .u64 (a.n.natAbs : Int),.int .u64 (b.d.natAbs : Int)];rw [← hbq,← hwb];clear hbq hwb;replace HC:=HC';clear HC';try replace Q13:=Q13.ext hx
          try replace Q15:=Q15.ext hx
          clear hx;have mz14:=trivial;refine Qh HC ?_))
    all_goals try
     (clear mz13
      refine Zh 13 15 rfl rfl (by kernel_rfl) ?_ ?_ <;> first
       | (simp only [Qc,Qd,Qe]
          go_wp2;obtain ⟨b13,wb,hbq,hwb,Q13,HC',hx,hgeb13⟩:=Qn HC 245 #[.int .u64 (a.d.natAbs : Int),.int .u64 (b.n.natAbs : Int)];rw [← hbq,← hwb];clear hbq hwb;replace HC:=HC';clear HC';try replace Q6:=Q6.ext hx
          try replace Q15:=Q15.ext hx
          clear hx;have mz17:=trivial
          refine Qh HC ?_)
       | (simp only [Qc,Qd,Qe]
          go_wp2;obtain ⟨b15,wb,hbq,hwb,Q15,HC',hx,hgeb15⟩:=Qn HC 252 #[.slice none 0 0,.slice none 0 0];rw [← hbq,← hwb];clear hbq hwb;replace HC:=HC';clear HC';try replace Q6:=Q6.ext hx
          try replace Q13:=Q13.ext hx
          clear hx;have mz18:=trivial;refine Qh HC ?_))
    all_goals try
     (clear mz14
      refine Ql 12 rfl (by kernel_rfl) ?_;simp only [Qc,Qd,Qe];go_wp2_with (go_at_call 162;(with_reducible refine Calls.mono (N4 _) ?_);rintro e wa ⟨rfl,h4⟩);replace HC:=HC.trans h4;try replace Q6:=Q6.ext h4
      try replace Q13:=Q13.ext h4
      try replace Q15:=Q15.ext h4
      clear h4;have mz18:=trivial;refine Qh HC ?_)
    all_goals try
     (clear mz15
      refine Zh 6 15 rfl rfl (by kernel_rfl) ?_ ?_ <;> first
       | (simp only [Qc,Qd,Qe]
          go_wp2;obtain ⟨b6,wb,hbq,hwb,Q6,HC',hx,hgeb6⟩:=Qn HC 245 #[.int .u64 (a.n.natAbs : Int),.int .u64 (b.d.natAbs : Int)];rw [← hbq,← hwb];clear hbq hwb;replace HC:=HC';clear HC';try replace Q13:=Q13.ext hx
          try replace Q15:=Q15.ext hx
          clear hx;have mz17:=trivial
          refine Qh HC ?_)
       | (simp only [Qc,Qd,Qe]
          go_wp2;obtain ⟨b15,wb,hbq,hwb,Q15,HC',hx,hgeb15⟩:=Qn HC 252 #[.slice none 0 0,.slice none 0 0];rw [← hbq,← hwb];clear hbq hwb;replace HC:=HC';clear HC';try replace Q6:=Q6.ext hx
          try replace Q13:=Q13.ext hx
          clear hx;have mz19:=trivial;refine Qh HC ?_))
    all_goals try
     (clear mz16
      refine Zh 6 13 rfl rfl (by kernel_rfl) ?_ ?_ <;> first
       | (simp only [Qc,Qd,Qe]
          go_wp2;obtain ⟨b6,wb,hbq,hwb,Q6,HC',hx,hgeb6⟩:=Qn HC 245 #[.int .u64 (a.n.natAbs : Int),.int .u64 (b.d.natAbs : Int)];rw [← hbq,← hwb];clear hbq hwb;replace HC:=HC';clear HC';try replace Q13:=Q13.ext hx
          try replace Q15:=Q15.ext hx
          clear hx;have mz18:=trivial
          refine Qh HC ?_)
       | (simp only [Qc,Qd,Qe]
          go_wp2;obtain ⟨b13,wb,hbq,hwb,Q13,HC',hx,hgeb13⟩:=Qn HC 245 #[.int .u64 (a.d.natAbs : Int),.int .u64 (b.n.natAbs : Int)];rw [← hbq,← hwb];clear hbq hwb;replace HC:=HC';clear HC';try replace Q6:=Q6.ext hx
          try replace Q15:=Q15.ext hx
          clear hx;have mz19:=trivial;refine Qh HC ?_))
    all_goals try
     (clear mz17
      refine Qs (g:=2) [14] [_] ⟨rfl,trivial⟩ (by kernel_rfl) (by kernel_rfl) HC ?_;simp only [Qc,Qd,Qe];apply Exists.intro;refine ⟨fun u hu => ?_,?_⟩
      ·obtain ⟨k0,k1⟩:=(HA.ext hu).c2;have lk:=(HA.ext hu).lt;obtain ⟨p0,p1⟩:=(HB.ext hu).c2;have lp:=(HB.ext hu).lt;repeat (first | go_big_quiet_skip | (go_big_quiet_want;go_big_quiet_op;go_big_quiet_on))
       refine wpQuiet_nil ?_;rfl
      have mz20:=trivial)
    all_goals try
     (clear mz18
      refine Ql 13 rfl (by kernel_rfl) ?_;simp only [Qc,Qd,Qe];go_wp2;obtain ⟨b13,wb,hbq,hwb,Q13,HC',hx,hgeb13⟩:=Qn HC 245 #[.int .u64 (a.d.natAbs : Int),.int .u64 (b.n.natAbs : Int)];rw [← hbq,← hwb];clear hbq hwb;replace HC:=HC';clear HC';try replace Q6:=Q6.ext hx
      try replace Q15:=Q15.ext hx
      clear hx;have mz21:=trivial;refine Qh HC ?_)
    all_goals try
     (clear mz19
      refine Ql 6 rfl (by kernel_rfl) ?_;simp only [Qc,Qd,Qe];go_wp2;obtain ⟨b6,wb,hbq,hwb,Q6,HC',hx,hgeb6⟩:=Qn HC 245 #[.int .u64 (a.n.natAbs : Int),.int .u64 (b.d.natAbs : Int)];rw [← hbq,← hwb];clear hbq hwb;replace HC:=HC';clear HC';try replace Q13:=Q13.ext hx
      try replace Q15:=Q15.ext hx
      clear hx;have mz21:=trivial;refine Qh HC ?_)
    all_goals try
     (clear mz20
      refine Ql 15 rfl (by kernel_rfl) ?_;simp only [Qc,Qd,Qe];go_wp2;obtain ⟨b15,wb,hbq,hwb,Q15,HC',hx,hgeb15⟩:=Qn HC 252 #[.slice none 0 0,.slice none 0 0];rw [← hbq,← hwb];clear hbq hwb;replace HC:=HC';clear HC';try replace Q6:=Q6.ext hx
      try replace Q13:=Q13.ext hx
      clear hx;have mz22:=trivial;refine Qh HC ?_)
    all_goals try
     (clear mz21
      refine Qs (g:=1) [14] [_] ⟨rfl,trivial⟩ (by kernel_rfl) (by kernel_rfl) HC ?_;simp only [Qc,Qd,Qe];apply Exists.intro;refine ⟨fun u hu => ?_,?_⟩
      ·obtain ⟨k0,k1⟩:=(HA.ext hu).c2;have lk:=(HA.ext hu).lt;obtain ⟨p0,p1⟩:=(HB.ext hu).c2;have lp:=(HB.ext hu).lt;repeat (first | go_big_quiet_skip | (go_big_quiet_want;go_big_quiet_op;go_big_quiet_on))
       refine wpQuiet_nil ?_;rfl
      have mz22:=trivial)
    all_goals try
     (clear mz22
      refine Qr 16 rfl (by kernel_rfl) ?_;simp only [Qc,Qd,Qe];have z0:=Q15.frozen 0;have z1:=Q15.frozen 1;obtain ⟨x0,x1⟩:=Q15.c2;have lx:=Q15.lt;have n6 : b6 ≠ b15:=fun e => Ar (e ▸ Q6) Q15
      have n13 : b13 ≠ b15:=fun e => Ar (e ▸ Q13) Q15
      have S15:=Qm Q15 (.slice (some ⟨b6,0,none⟩) 2 2) (.slice (some ⟨b13,0,none⟩) 2 2);have S6:=Qi (Qi Q6 n6 0 (.slice (some ⟨b6,0,none⟩) 2 2)) n6 1 (.slice (some ⟨b13,0,none⟩) 2 2);have S13:=Qi (Qi Q13 n13 0 (.slice (some ⟨b6,0,none⟩) 2 2)) n13 1 (.slice (some ⟨b13,0,none⟩) 2 2);have HE2:=(HC.setCell (p:=⟨b15,0,none⟩) hgeb15 (.slice (some ⟨b6,0,none⟩) 2 2)).setCell (p:=⟨b15,1,none⟩) hgeb15 (.slice (some ⟨b13,0,none⟩) 2 2);go_wp2;have mz23:=trivial;refine Qq ?_)
    all_goals try
     (clear mz23
      refine Qv (by kernel_rfl) ?_;exact Qcw b6 b13 b15 ⟨HE2,S6,S13,S15⟩ rfl)
   rintro b6 b13 b15 w5 ⟨E5,S6,S13,S15⟩;clear N1 N2 N3 N4;obtain ⟨k0,k1⟩:=(HA.ext E5).c2;have lk:=(HA.ext E5).lt;obtain ⟨p0,p1⟩:=(HB.ext E5).c2;have lp:=(HB.ext E5).lt;obtain ⟨r0,r1⟩:=S15.c2;have lr:=S15.lt;replace E:=E.trans E5;replace B1:=B1.ext E5;go_wp2_with (first | (go_at_call 163;(with_reducible refine Calls.mono (NR2 _ _ _ (Qas S6) (Qas S13)) ?_);rintro e wt ⟨rfl,ht⟩;replace E:=E.trans ht;replace B1:=B1.ext ht;have f0:=B1.frozen 0;have f1:=B1.frozen 1;obtain ⟨x0,x1⟩:=B1.c2;have lx:=B1.lt));have H4:=Qm B1 (.int .i64 Rn) (.int .i64 Rd);have EF:=(E.setCell (p:=⟨b1,0,none⟩) hbr (.int .i64 Rn)).setCell (p:=⟨b1,1,none⟩) hbr (.int .i64 Rd)
   obtain ⟨y0,y1⟩:=H4.c2;go_wp2;refine bodyPost_ret (v:=.tuple #[.agg #[.int .i64 Rn,.int .i64 Rd],.int .i64 Re]) (by simp [results,Tryz.results171,go_sem,y0,y1]) rfl ⟨rfl,EF⟩
theorem Qb0 (a b : Rt) (hia : a.In) (hib : b.In) (ba bb : Nat) (w : World) (hA : Qa w ba 65 #[.int .i64 a.n,.int .i64 a.d]) (hB : Qa w bb 65 #[.int .i64 b.n,.int .i64 b.d]) (hZ : Z6 w) :
  Calls Tryz.prog 132 #[.agg #[.int .i64 a.n,.int .i64 a.d],.agg #[.int .i64 b.n,.int .i64 b.d],.func (.func 171) #[] #[.pointer (some ⟨bb,0,none⟩),.pointer (some ⟨ba,0,none⟩)]] w fun e w' => e = .returned (.tuple #[.agg #[.int .i64 (J5 a b).1.n,.int .i64 (J5 a b).1.d],.int .i64 (J5 a b).2]) ∧ Qb w w':=by
 have NA:=fun w => Ud a.n a.d hia.1 hia.2.1 hia.2.2.1 hia.2.2.2 w
 have NB:=fun w => Ud b.n b.d hib.1 hib.2.1 hib.2.2.1 hib.2.2.2 w
 rw [show Rt.ok ⟨a.n,a.d⟩ = a.ok from rfl] at NA;rw [show Rt.ok ⟨b.n,b.d⟩ = b.ok from rfl] at NB;have NC:=fun ha hb w h1 h2 z => Qc9 a b ha hb ba bb w h1 h2 z
 have HV : Hid (J5 a b = if a.ok && b.ok then (if b.n = 0 then (Zm,9) else Jk (decide (a.n < 0) != decide (b.n < 0)) (a.n.natAbs * b.d.natAbs) (a.d.natAbs * b.n.natAbs)) else (Zm,2)):=rfl;obtain ⟨R,hR0⟩:=Qg (J5 a b);rw [← hR0];have HR:=Lib.hid hR0;clear hR0;rw [show J5 a b = R from HR.out.symm] at HV;clear HR
 go_enter Tryz.func132,Tryz.ntmps132
 go_upto_region 1 with (fail)
 obtain ⟨v,hv⟩:=Qg (((w.alloc (.cells #[.int .i64 a.n,.int .i64 a.d] 65)).alloc (.cells #[.int .i64 b.n,.int .i64 b.d] 65)).alloc (.cells #[.int .i64 0,.int .i64 0] 65));rw [← hv];have E : Qb w v:=by rw [hv];exact (((Qb.refl _).alloc _).alloc _).alloc _
 have B1 : Qa v w.heap.size 65 #[.int .i64 a.n,.int .i64 a.d]:=by rw [hv];exact ((Qa.new _ _ _).alloc _).alloc _
 have B2 : Qa v (w.heap.size + 1) 65 #[.int .i64 b.n,.int .i64 b.d]:=by rw [hv];exact (Qa.at _ _ _ _ (by simp)).alloc _
 have B3 : Qa v (w.heap.size + 1 + 1) 65 #[.int .i64 0,.int .i64 0]:=by rw [hv];exact Qa.at _ _ _ _ (by simp)
 clear hv;obtain ⟨b3,hb3⟩:=Qg (w.heap.size + 1 + 1);rw [← hb3] at B3 ⊢;obtain ⟨b2,hb2⟩:=Qg (w.heap.size + 1);rw [← hb2] at B2 ⊢;obtain ⟨b1,hb1⟩:=Qg (w.heap.size);rw [← hb1] at B1 ⊢;have hbr : w.heap.size ≤ b3:=by omega
 have hbr1 : w.heap.size ≤ b1:=by omega
 have hbr2 : w.heap.size ≤ b2:=by omega
 have hn21 : b2 ≠ b1:=by omega
 have hn31 : b3 ≠ b1:=by omega
 have hn32 : b3 ≠ b2:=by omega
 clear hb1 hb2 hb3;obtain ⟨k0,k1⟩:=B1.c2;have lk:=B1.lt;obtain ⟨p0,p1⟩:=B2.c2;have lp:=B2.lt;cases ha : a.ok
 ·simp only [ha] at NA;have hr:=HV.out;rw [ha,Bool.false_and,if_neg (by decide)] at hr;subst hr;clear HV NC NB;go_upto_region 2 with (go_at_call 121;(with_reducible refine Calls.mono (NA _) ?_);rintro e w2 ⟨rfl,h⟩)
  replace E:=E.trans h;replace B3:=B3.ext h;have f0:=B3.frozen 0;have f1:=B3.frozen 1;obtain ⟨x0,x1⟩:=B3.c2;have lx:=B3.lt;have H4:=Qm B3 (.int .i64 0) (.int .i64 0);have EF:=(E.setCell (p:=⟨b3,0,none⟩) hbr (.int .i64 0)).setCell (p:=⟨b3,1,none⟩) hbr (.int .i64 0);obtain ⟨y0,y1⟩:=H4.c2;go_wp2;refine bodyPost_ret (v:=.tuple #[.agg #[.int .i64 0,.int .i64 0],.int .i64 2]) (by simp [results,Tryz.results132,go_sem,y0,y1]) rfl ⟨rfl,EF⟩
 ·simp only [ha] at NA;cases hb : b.ok
  ·simp only [hb] at NB;have hr:=HV.out;rw [hb,Bool.and_false,if_neg (by decide)] at hr;subst hr;clear HV NC;go_upto_region 2 with (first | (go_at_call 121;(with_reducible refine Calls.mono (NA _) ?_);rintro e w1 ⟨rfl,h1⟩;clear p0 p1 lp;obtain ⟨p0,p1⟩:=(B2.ext h1).c2;have lp:=(B2.ext h1).lt) | (go_at_call 121;(with_reducible refine Calls.mono (NB _) ?_);rintro e w2 ⟨rfl,h⟩))
   replace E:=(E.trans h1).trans h;replace B3:=(B3.ext h1).ext h;have f0:=B3.frozen 0;have f1:=B3.frozen 1;obtain ⟨x0,x1⟩:=B3.c2;have lx:=B3.lt;have H4:=Qm B3 (.int .i64 0) (.int .i64 0);have EF:=(E.setCell (p:=⟨b3,0,none⟩) hbr (.int .i64 0)).setCell (p:=⟨b3,1,none⟩) hbr (.int .i64 0);obtain ⟨y0,y1⟩:=H4.c2;go_wp2;refine bodyPost_ret (v:=.tuple #[.agg #[.int .i64 0,.int .i64 0],.int .i64 2]) (by simp [results,Tryz.results132,go_sem,y0,y1]) rfl ⟨rfl,EF⟩
  ·simp only [hb] at NB;replace NC:=NC ha hb;have hr:=HV.out;rw [ha,hb,Bool.and_true,if_pos rfl] at hr;rw [← hr] at NC;clear HV hr ha hb;obtain ⟨⟨Rn,Rd⟩,Re⟩:=R;go_upto_region 3 with (first | (go_at_call 121;(with_reducible refine Calls.mono (NA _) ?_);rintro e w1 ⟨rfl,h1⟩;clear p0 p1 lp;obtain ⟨p0,p1⟩:=(B2.ext h1).c2;have lp:=(B2.ext h1).lt) | (go_at_call 121;(with_reducible refine Calls.mono (NB _) ?_);rintro e w2 ⟨rfl,h⟩))
   have e2:=(E.trans h1).trans h;replace B3:=(B3.ext h1).ext h;replace NC:=NC w2 (hA.ext e2) (hB.ext e2) (hZ.ext e2);replace E:=e2;go_wp2_with (first | (go_at_call 171;(with_reducible refine Calls.mono (NC) ?_);rintro e wt ⟨rfl,ht⟩;replace E:=E.trans ht;replace B3:=B3.ext ht;have f0:=B3.frozen 0;have f1:=B3.frozen 1;obtain ⟨x0,x1⟩:=B3.c2;have lx:=B3.lt) | (go_at_fn 171;(with_reducible refine Calls.mono (NC) ?_);rintro e wt ⟨rfl,ht⟩;replace E:=E.trans ht;replace B3:=B3.ext ht;have f0:=B3.frozen 0;have f1:=B3.frozen 1;obtain ⟨x0,x1⟩:=B3.c2;have lx:=B3.lt));have H4:=Qm B3 (.int .i64 Rn) (.int .i64 Rd);have EF:=(E.setCell (p:=⟨b3,0,none⟩) hbr (.int .i64 Rn)).setCell (p:=⟨b3,1,none⟩) hbr (.int .i64 Rd)
   obtain ⟨y0,y1⟩:=H4.c2;go_wp2;refine bodyPost_ret (v:=.tuple #[.agg #[.int .i64 Rn,.int .i64 Rd],.int .i64 Re]) (by simp [results,Tryz.results132,go_sem,y0,y1]) rfl ⟨rfl,EF⟩
theorem Qda (a b : Rt) (hia : a.In) (hib : b.In) (w : World) (hZ : Z6 w) :
  Calls Tryz.prog 137 #[.agg #[.int .i64 a.n,.int .i64 a.d],.agg #[.int .i64 b.n,.int .i64 b.d]] w fun e w' => e = .returned (.tuple #[.agg #[.int .i64 (J5 a b).1.n,.int .i64 (J5 a b).1.d],.int .i64 (J5 a b).2]) ∧ Qb w w':=by
 have NC:=fun ba bb w h1 h2 z => Qb0 a b hia hib ba bb w h1 h2 z
 obtain ⟨R,hR0⟩:=Qg (J5 a b);rw [← hR0];have HR:=Lib.hid hR0;clear hR0;rw [show J5 a b = R from HR.out.symm] at NC;clear HR
 go_enter Tryz.func137,Tryz.ntmps137
 go_upto_region 1 with (fail)
 obtain ⟨v,hv⟩:=Qg (((w.alloc (.cells #[.int .i64 a.n,.int .i64 a.d] 65)).alloc (.cells #[.int .i64 b.n,.int .i64 b.d] 65)).alloc (.cells #[.int .i64 0,.int .i64 0] 65));rw [← hv];have E : Qb w v:=by rw [hv];exact (((Qb.refl _).alloc _).alloc _).alloc _
 have B1 : Qa v w.heap.size 65 #[.int .i64 a.n,.int .i64 a.d]:=by rw [hv];exact ((Qa.new _ _ _).alloc _).alloc _
 have B2 : Qa v (w.heap.size + 1) 65 #[.int .i64 b.n,.int .i64 b.d]:=by rw [hv];exact (Qa.at _ _ _ _ (by simp)).alloc _
 have B3 : Qa v (w.heap.size + 1 + 1) 65 #[.int .i64 0,.int .i64 0]:=by rw [hv];exact Qa.at _ _ _ _ (by simp)
 clear hv;obtain ⟨b3,hb3⟩:=Qg (w.heap.size + 1 + 1);rw [← hb3] at B3 ⊢;obtain ⟨b2,hb2⟩:=Qg (w.heap.size + 1);rw [← hb2] at B2 ⊢;obtain ⟨b1,hb1⟩:=Qg (w.heap.size);rw [← hb1] at B1 ⊢;have hbr : w.heap.size ≤ b3:=by omega
 have hbr1 : w.heap.size ≤ b1:=by omega
 have hbr2 : w.heap.size ≤ b2:=by omega
 have hn21 : b2 ≠ b1:=by omega
 have hn31 : b3 ≠ b1:=by omega
 have hn32 : b3 ≠ b2:=by omega
 clear hb1 hb2 hb3;have Z0:=hZ.ext E;obtain ⟨k0,k1⟩:=B1.c2;have lk:=B1.lt;obtain ⟨p0,p1⟩:=B2.c2;have lp:=B2.lt;obtain ⟨⟨Rn,Rd⟩,Re⟩:=R;go_wp2_with (first | (go_at_call 132;(with_reducible refine Calls.mono (NC _ _ _ B1 B2 Z0) ?_);rintro e wt ⟨rfl,ht⟩;replace E:=E.trans ht;replace B3:=B3.ext ht;have f0:=B3.frozen 0;have f1:=B3.frozen 1;obtain ⟨x0,x1⟩:=B3.c2;have lx:=B3.lt));have H4:=Qm B3 (.int .i64 Rn) (.int .i64 Rd);have EF:=(E.setCell (p:=⟨b3,0,none⟩) hbr (.int .i64 Rn)).setCell (p:=⟨b3,1,none⟩) hbr (.int .i64 Rd);obtain ⟨y0,y1⟩:=H4.c2;go_wp2;refine bodyPost_ret (v:=.tuple #[.agg #[.int .i64 Rn,.int .i64 Rd],.int .i64 Re]) (by simp [results,Tryz.results137,go_sem,y0,y1]) rfl ⟨rfl,EF⟩
theorem Qil (g : Nat → Rt × Int) (n : Nat) (p1 : Nat) (w : World) (hg : ∀ i,i < n → ∀ u,Qb w u → Calls Tryz.prog 136 #[.int .i64 (i : Int),.pointer (some ⟨p1,0,none⟩)] u fun e u' => e = .returned (.tuple #[.agg #[.int .i64 (g i).1.n,.int .i64 (g i).1.d],.int .i64 (g i).2]) ∧ Qb u u') (hin : ∀ i,i < n → (g i).1.In) (hn : n ≤ 1000000) (hZ : Z6 w) :
  Calls Tryz.prog 135 #[.int .i64 (n : Int),.func (.func 136) #[] #[.pointer (some ⟨p1,0,none⟩)]] w fun e w' => e = .returned (.tuple #[.agg #[.int .i64 (Wg g n).1.n,.int .i64 (Wg g n).1.d],.int .i64 (Wg g n).2]) ∧ Qb w w':=by
 obtain ⟨V,hV0⟩:=Qg (Wg g n);rw [← hV0];replace hV0:=Lib.hid hV0
 go_enter Tryz.func135,Tryz.ntmps135
 go_upto_region 1 with (fail)
 obtain ⟨v,hv⟩:=Qg (w.alloc (.cells #[.int .i64 0,.int .i64 0] 65));rw [← hv];have E : Qb w v:=by rw [hv];exact (Qb.refl _).alloc _
 have B1 : Qa v w.heap.size 65 #[.int .i64 0,.int .i64 0]:=by rw [hv];exact (Qa.new _ _ _)
 clear hv;obtain ⟨b1,hb1⟩:=Qg (w.heap.size);rw [← hb1] at B1 ⊢;have hbr : w.heap.size ≤ b1:=by omega
 clear hb1;have Z0:=hZ.ext E;go_upto_region 3 with (go_at_call 72;(with_reducible refine Calls.mono (Xt _ _) ?_);rintro e w1 ⟨rfl,h1⟩)
 obtain ⟨v1,hv⟩:=Qg (w1.alloc (.cells #[.int .i64 0,.int .i64 1] 65));rw [← hv];have HE : Qb v v1:=by rw [hv];exact h1.alloc _
 have H6 : Qa v1 w1.heap.size 65 #[.int .i64 0,.int .i64 1]:=by rw [hv];exact Qa.new _ _ _
 clear hv;obtain ⟨b6,hb6⟩:=Qg (w1.heap.size);rw [← hb6] at H6 ⊢;have g6 : v.heap.size ≤ b6:=by have:=h1.size;omega
 clear hb6 h1
 go_loopw [12] (fun iv wr => ∃ k : Nat,k ≤ n ∧ iv = .int .i64 (k : Int) ∧ ∃ s,Rt.In s ∧ Qb v wr ∧ Qa wr b6 65 #[.int .i64 s.n,.int .i64 s.d] ∧ Hid (V = X0 g k (n - k) s)) (fun iv _ => n - (intOf iv).toNat)
 case atStart => exact ⟨0,Nat.zero_le _,rfl,Jq 0,Ui,HE,H6,hV0.out⟩
 case round =>
  clear HE H6 hV0;obtain ⟨k,hk,rfl,s,hs,HE,H6,hV⟩:=hrel;obtain ⟨wo,rfl⟩:=Qg wr;by_cases hlt : k < n
  ·obtain ⟨m, hm⟩ : ∃ m, n - k = m + 1 := ⟨n - k - 1, by omega⟩;have hm2 : n - (k + 1) = m := by omega
   have hV' : Hid (V = if (g k).2 ≠ 0 then (Zm,(g k).2) else if (Zn s (g k).1).2 ≠ 0 then (Zm,(Zn s (g k).1).2) else X0 g (k + 1) m (Zn s (g k).1).1):=by
    unfold Hid;rw [hV.out,hm];rfl
   have NG:=hg k hlt wo (E.trans HE);have hgi:=hin k hlt;clear hV hm hg hin;generalize g k = G at *;obtain ⟨⟨Gn,Gd⟩,Ge⟩:=G;simp only [] at hV' NG hgi;go_upto_region 6 with (first | (go_at_call 136;(with_reducible refine Calls.mono (NG) ?_);rintro e w8 ⟨rfl,h8⟩) | (go_at_fn 136;(with_reducible refine Calls.mono (NG) ?_);rintro e w8 ⟨rfl,h8⟩))
   obtain ⟨v2,hv⟩:=Qg (w8.alloc (.cells #[.int .i64 Gn,.int .i64 Gd] 65));rw [← hv];have E2 : Qb w8 v2:=by rw [hv];exact (Qb.refl _).alloc _
   have H8 : Qa v2 w8.heap.size 65 #[.int .i64 Gn,.int .i64 Gd]:=by rw [hv];exact Qa.new _ _ _
   clear hv;have hz:=h8.size;have h6l:=H6.lt;have hzv:=HE.size;obtain ⟨b8,hb8⟩:=Qg (w8.heap.size);rw [← hb8] at H8 ⊢;have n68 : b6 ≠ b8:=by omega
   have g8 : v.heap.size ≤ b8:=by omega
   clear hb8 hz h6l hzv;replace HE:=(HE.trans h8).trans E2;replace H6:=(H6.ext h8).ext E2;clear h8 E2 NG;by_cases h0 : Ge = 0
   ·subst h0;have NA:=fun w z => Lk s ⟨Gn,Gd⟩ hs hgi w z
    have hSi:=Vz s ⟨Gn,Gd⟩;generalize Zn s ⟨Gn,Gd⟩ = S at *;obtain ⟨⟨Sn,Sd⟩,Se⟩:=S;simp only [] at hV' NA hSi;obtain ⟨p0,p1⟩:=H6.c2;have lp:=H6.lt;obtain ⟨q0,q1⟩:=H8.c2;have lq:=H8.lt;go_upto_region 8 with (go_at_call 86;(with_reducible refine Calls.mono (NA _ (Z0.ext HE)) ?_);rintro e w9 ⟨rfl,h9⟩;replace HE:=HE.trans h9;replace H6:=H6.ext h9;replace H8:=H8.ext h9;clear q0 q1 lq p0 p1 lp;have f0:=H8.frozen 0;have f1:=H8.frozen 1;obtain ⟨x0,x1⟩:=H8.c2;have lx:=H8.lt)
    have H8b:=Qm H8 (.int .i64 Sn) (.int .i64 Sd);have H6b:=Qi (Qi H6 n68 0 (.int .i64 Sn)) n68 1 (.int .i64 Sd);have HEb:=(HE.setCell (p:=⟨b8,0,none⟩) g8 (.int .i64 Sn)).setCell (p:=⟨b8,1,none⟩) g8 (.int .i64 Sd);generalize World.setCell _ _ _ = v3 at *;clear f0 f1 x0 x1 lx H6 H8 HE;have HE:=HEb;have H6:=H6b;have H8:=H8b;clear HEb H6b H8b;by_cases h1 : Se = 0
    ·subst h1;obtain ⟨q0, q1⟩ := H8.c2;have lq := H8.lt;have f0 := H6.frozen 0;have f1 := H6.frozen 1;obtain ⟨x0, x1⟩ := H6.c2;have lx := H6.lt;have H6b := Qm H6 (.int .i64 Sn) (.int .i64 Sd);have HEb := (HE.setCell (p := ⟨b6, 0, none⟩) g6 (.int .i64 Sn)).setCell (p := ⟨b6, 1, none⟩) g6 (.int .i64 Sd);have hV2 : Hid (V = X0 g (k + 1) m ⟨Sn, Sd⟩) := by unfold Hid; rw [hV'.out, if_neg (by simp), if_neg (by simp)]
     rw [← hm2] at hV2;clear hV' hm2;go_wp2;exact ⟨⟨k + 1,by omega,by go_num,⟨Sn,Sd⟩,hSi,HEb,H6b,hV2⟩,by simp [intOf];omega⟩
    ·have g0 : (Se == 0) = false := beq_eq_false_iff_ne.2 h1;have g0n : (Se != 0) = true := by rw [bne, g0]; rfl
     have hr:=hV'.out;rw [if_neg (by simp),if_pos h1] at hr;subst hr;clear hV' h1;replace B1:=B1.ext HE;replace E:=E.trans HE;have f0:=B1.frozen 0;have f1:=B1.frozen 1;obtain ⟨x0,x1⟩:=B1.c2;have lx:=B1.lt;have H4:=Qm B1 (.int .i64 0) (.int .i64 0);have EF:=(E.setCell (p:=⟨b1,0,none⟩) hbr (.int .i64 0)).setCell (p:=⟨b1,1,none⟩) hbr (.int .i64 0);obtain ⟨y0,y1⟩:=H4.c2;go_wp2;refine bodyPost_ret (v:=.tuple #[.agg #[.int .i64 0,.int .i64 0],.int .i64 Se]) (by simp [results,Tryz.results135,go_sem,y0,y1]) rfl ⟨rfl,EF⟩
   ·have g0 : (Ge == 0) = false := beq_eq_false_iff_ne.2 h0;have g0n : (Ge != 0) = true := by rw [bne, g0]; rfl
    have hr:=hV'.out;rw [if_pos h0] at hr;subst hr;clear hV' h0;replace B1:=B1.ext HE;replace E:=E.trans HE;have f0:=B1.frozen 0;have f1:=B1.frozen 1;obtain ⟨x0,x1⟩:=B1.c2;have lx:=B1.lt;have H4:=Qm B1 (.int .i64 0) (.int .i64 0);have EF:=(E.setCell (p:=⟨b1,0,none⟩) hbr (.int .i64 0)).setCell (p:=⟨b1,1,none⟩) hbr (.int .i64 0);obtain ⟨y0,y1⟩:=H4.c2;go_wp2;refine bodyPost_ret (v:=.tuple #[.agg #[.int .i64 0,.int .i64 0],.int .i64 Ge]) (by simp [results,Tryz.results135,go_sem,y0,y1]) rfl ⟨rfl,EF⟩
  ·obtain rfl : k = n := by omega
   have hr:=hV.out;rw [Nat.sub_self] at hr;have hr2 : V = (s,0):=hr;subst hr2;clear hV hr;obtain ⟨p0,p1⟩:=H6.c2;have lp:=H6.lt;replace B1:=B1.ext HE;replace E:=E.trans HE;have f0:=B1.frozen 0;have f1:=B1.frozen 1;obtain ⟨x0,x1⟩:=B1.c2;have lx:=B1.lt;have H4:=Qm B1 (.int .i64 s.n) (.int .i64 s.d);have EF:=(E.setCell (p:=⟨b1,0,none⟩) hbr (.int .i64 s.n)).setCell (p:=⟨b1,1,none⟩) hbr (.int .i64 s.d);obtain ⟨y0,y1⟩:=H4.c2;go_wp2;refine bodyPost_ret (v:=.tuple #[.agg #[.int .i64 s.n,.int .i64 s.d],.int .i64 0]) (by simp [results,Tryz.results135,go_sem,y0,y1]) rfl ⟨rfl,EF⟩
theorem Qik (g : Nat → Rt × Int) (n : Nat) (p1 p2 : Nat) (w : World) (hg : ∀ i,i < n → ∀ u,Qb w u → Calls Tryz.prog 138 #[.int .i64 (i : Int),.pointer (some ⟨p1,0,none⟩),.pointer (some ⟨p2,0,none⟩)] u fun e u' => e = .returned (.tuple #[.agg #[.int .i64 (g i).1.n,.int .i64 (g i).1.d],.int .i64 (g i).2]) ∧ Qb u u') (hin : ∀ i,i < n → (g i).1.In) (hn : n ≤ 1000000) (hZ : Z6 w) :
  Calls Tryz.prog 135 #[.int .i64 (n : Int),.func (.func 138) #[] #[.pointer (some ⟨p1,0,none⟩),.pointer (some ⟨p2,0,none⟩)]] w fun e w' => e = .returned (.tuple #[.agg #[.int .i64 (Wg g n).1.n,.int .i64 (Wg g n).1.d],.int .i64 (Wg g n).2]) ∧ Qb w w':=by
 obtain ⟨V,hV0⟩:=Qg (Wg g n);rw [← hV0];replace hV0:=Lib.hid hV0
 go_enter Tryz.func135,Tryz.ntmps135
 go_upto_region 1 with (fail)
 obtain ⟨v,hv⟩:=Qg (w.alloc (.cells #[.int .i64 0,.int .i64 0] 65));rw [← hv];have E : Qb w v:=by rw [hv];exact (Qb.refl _).alloc _
 have B1 : Qa v w.heap.size 65 #[.int .i64 0,.int .i64 0]:=by rw [hv];exact (Qa.new _ _ _)
 clear hv;obtain ⟨b1,hb1⟩:=Qg (w.heap.size);rw [← hb1] at B1 ⊢;have hbr : w.heap.size ≤ b1:=by omega
 clear hb1;have Z0:=hZ.ext E;go_upto_region 3 with (go_at_call 72;(with_reducible refine Calls.mono (Xt _ _) ?_);rintro e w1 ⟨rfl,h1⟩)
 obtain ⟨v1,hv⟩:=Qg (w1.alloc (.cells #[.int .i64 0,.int .i64 1] 65));rw [← hv];have HE : Qb v v1:=by rw [hv];exact h1.alloc _
 have H6 : Qa v1 w1.heap.size 65 #[.int .i64 0,.int .i64 1]:=by rw [hv];exact Qa.new _ _ _
 clear hv;obtain ⟨b6,hb6⟩:=Qg (w1.heap.size);rw [← hb6] at H6 ⊢;have g6 : v.heap.size ≤ b6:=by have:=h1.size;omega
 clear hb6 h1
 go_loopw [12] (fun iv wr => ∃ k : Nat,k ≤ n ∧ iv = .int .i64 (k : Int) ∧ ∃ s,Rt.In s ∧ Qb v wr ∧ Qa wr b6 65 #[.int .i64 s.n,.int .i64 s.d] ∧ Hid (V = X0 g k (n - k) s)) (fun iv _ => n - (intOf iv).toNat)
 case atStart => exact ⟨0,Nat.zero_le _,rfl,Jq 0,Ui,HE,H6,hV0.out⟩
 case round =>
  clear HE H6 hV0;obtain ⟨k,hk,rfl,s,hs,HE,H6,hV⟩:=hrel;obtain ⟨wo,rfl⟩:=Qg wr;by_cases hlt : k < n
  ·obtain ⟨m, hm⟩ : ∃ m, n - k = m + 1 := ⟨n - k - 1, by omega⟩;have hm2 : n - (k + 1) = m := by omega
   have hV' : Hid (V = if (g k).2 ≠ 0 then (Zm,(g k).2) else if (Zn s (g k).1).2 ≠ 0 then (Zm,(Zn s (g k).1).2) else X0 g (k + 1) m (Zn s (g k).1).1):=by
    unfold Hid;rw [hV.out,hm];rfl
   have NG:=hg k hlt wo (E.trans HE);have hgi:=hin k hlt;clear hV hm hg hin;generalize g k = G at *;obtain ⟨⟨Gn,Gd⟩,Ge⟩:=G;simp only [] at hV' NG hgi;go_upto_region 6 with (first | (go_at_call 138;(with_reducible refine Calls.mono (NG) ?_);rintro e w8 ⟨rfl,h8⟩) | (go_at_fn 138;(with_reducible refine Calls.mono (NG) ?_);rintro e w8 ⟨rfl,h8⟩))
   obtain ⟨v2,hv⟩:=Qg (w8.alloc (.cells #[.int .i64 Gn,.int .i64 Gd] 65));rw [← hv];have E2 : Qb w8 v2:=by rw [hv];exact (Qb.refl _).alloc _
   have H8 : Qa v2 w8.heap.size 65 #[.int .i64 Gn,.int .i64 Gd]:=by rw [hv];exact Qa.new _ _ _
   clear hv;have hz:=h8.size;have h6l:=H6.lt;have hzv:=HE.size;obtain ⟨b8,hb8⟩:=Qg (w8.heap.size);rw [← hb8] at H8 ⊢;have n68 : b6 ≠ b8:=by omega
   have g8 : v.heap.size ≤ b8:=by omega
   clear hb8 hz h6l hzv;replace HE:=(HE.trans h8).trans E2;replace H6:=(H6.ext h8).ext E2;clear h8 E2 NG;by_cases h0 : Ge = 0
   ·subst h0;have NA:=fun w z => Lk s ⟨Gn,Gd⟩ hs hgi w z
    have hSi:=Vz s ⟨Gn,Gd⟩;generalize Zn s ⟨Gn,Gd⟩ = S at *;obtain ⟨⟨Sn,Sd⟩,Se⟩:=S;simp only [] at hV' NA hSi;obtain ⟨p0,p1⟩:=H6.c2;have lp:=H6.lt;obtain ⟨q0,q1⟩:=H8.c2;have lq:=H8.lt;go_upto_region 8 with (go_at_call 86;(with_reducible refine Calls.mono (NA _ (Z0.ext HE)) ?_);rintro e w9 ⟨rfl,h9⟩;replace HE:=HE.trans h9;replace H6:=H6.ext h9;replace H8:=H8.ext h9;clear q0 q1 lq p0 p1 lp;have f0:=H8.frozen 0;have f1:=H8.frozen 1;obtain ⟨x0,x1⟩:=H8.c2;have lx:=H8.lt)
    have H8b:=Qm H8 (.int .i64 Sn) (.int .i64 Sd);have H6b:=Qi (Qi H6 n68 0 (.int .i64 Sn)) n68 1 (.int .i64 Sd);have HEb:=(HE.setCell (p:=⟨b8,0,none⟩) g8 (.int .i64 Sn)).setCell (p:=⟨b8,1,none⟩) g8 (.int .i64 Sd);generalize World.setCell _ _ _ = v3 at *;clear f0 f1 x0 x1 lx H6 H8 HE;have HE:=HEb;have H6:=H6b;have H8:=H8b;clear HEb H6b H8b;by_cases h1 : Se = 0
    ·subst h1;obtain ⟨q0, q1⟩ := H8.c2;have lq := H8.lt;have f0 := H6.frozen 0;have f1 := H6.frozen 1;obtain ⟨x0, x1⟩ := H6.c2;have lx := H6.lt;have H6b := Qm H6 (.int .i64 Sn) (.int .i64 Sd);have HEb := (HE.setCell (p := ⟨b6, 0, none⟩) g6 (.int .i64 Sn)).setCell (p := ⟨b6, 1, none⟩) g6 (.int .i64 Sd);have hV2 : Hid (V = X0 g (k + 1) m ⟨Sn, Sd⟩) := by unfold Hid; rw [hV'.out, if_neg (by simp), if_neg (by simp)]
     rw [← hm2] at hV2;clear hV' hm2;go_wp2;exact ⟨⟨k + 1,by omega,by go_num,⟨Sn,Sd⟩,hSi,HEb,H6b,hV2⟩,by simp [intOf];omega⟩
    ·have g0 : (Se == 0) = false := beq_eq_false_iff_ne.2 h1;have g0n : (Se != 0) = true := by rw [bne, g0]; rfl
     have hr:=hV'.out;rw [if_neg (by simp),if_pos h1] at hr;subst hr;clear hV' h1;replace B1:=B1.ext HE;replace E:=E.trans HE;have f0:=B1.frozen 0;have f1:=B1.frozen 1;obtain ⟨x0,x1⟩:=B1.c2;have lx:=B1.lt;have H4:=Qm B1 (.int .i64 0) (.int .i64 0);have EF:=(E.setCell (p:=⟨b1,0,none⟩) hbr (.int .i64 0)).setCell (p:=⟨b1,1,none⟩) hbr (.int .i64 0);obtain ⟨y0,y1⟩:=H4.c2;go_wp2;refine bodyPost_ret (v:=.tuple #[.agg #[.int .i64 0,.int .i64 0],.int .i64 Se]) (by simp [results,Tryz.results135,go_sem,y0,y1]) rfl ⟨rfl,EF⟩
   ·have g0 : (Ge == 0) = false := beq_eq_false_iff_ne.2 h0;have g0n : (Ge != 0) = true := by rw [bne, g0]; rfl
    have hr:=hV'.out;rw [if_pos h0] at hr;subst hr;clear hV' h0;replace B1:=B1.ext HE;replace E:=E.trans HE;have f0:=B1.frozen 0;have f1:=B1.frozen 1;obtain ⟨x0,x1⟩:=B1.c2;have lx:=B1.lt;have H4:=Qm B1 (.int .i64 0) (.int .i64 0);have EF:=(E.setCell (p:=⟨b1,0,none⟩) hbr (.int .i64 0)).setCell (p:=⟨b1,1,none⟩) hbr (.int .i64 0);obtain ⟨y0,y1⟩:=H4.c2;go_wp2;refine bodyPost_ret (v:=.tuple #[.agg #[.int .i64 0,.int .i64 0],.int .i64 Ge]) (by simp [results,Tryz.results135,go_sem,y0,y1]) rfl ⟨rfl,EF⟩
  ·obtain rfl : k = n := by omega
   have hr:=hV.out;rw [Nat.sub_self] at hr;have hr2 : V = (s,0):=hr;subst hr2;clear hV hr;obtain ⟨p0,p1⟩:=H6.c2;have lp:=H6.lt;replace B1:=B1.ext HE;replace E:=E.trans HE;have f0:=B1.frozen 0;have f1:=B1.frozen 1;obtain ⟨x0,x1⟩:=B1.c2;have lx:=B1.lt;have H4:=Qm B1 (.int .i64 s.n) (.int .i64 s.d);have EF:=(E.setCell (p:=⟨b1,0,none⟩) hbr (.int .i64 s.n)).setCell (p:=⟨b1,1,none⟩) hbr (.int .i64 s.d);obtain ⟨y0,y1⟩:=H4.c2;go_wp2;refine bodyPost_ret (v:=.tuple #[.agg #[.int .i64 s.n,.int .i64 s.d],.int .i64 0]) (by simp [results,Tryz.results135,go_sem,y0,y1]) rfl ⟨rfl,EF⟩
def Yp (f : Nat → Tk) (i : Nat) : List Value:=[.int .i64 (f i).a.n,.int .i64 (f i).a.d,.int .i64 (f i).r.n,.int .i64 (f i).r.d]
theorem Qdb (a b : Rt) : (J5 a b).1.In:=by
 unfold J5;by_cases h : a.ok && b.ok
 ·rw [if_pos h];obtain ⟨h1,h2⟩:=Bool.and_eq_true_iff.1 h;by_cases h0 : b.n = 0
  ·rw [if_pos h0];exact Y6
  ·rw [if_neg h0];exact O9 (Nat.mul_pos (by have:=J2 h1;omega) (by omega))
 ·rw [if_neg h];exact Y6
theorem Qgb (T : Option Addr) (n cap : Nat) (f : Nat → Tk) (p1 i : Nat) (hi : i < n) (ha : (f i).a.In) (hr : (f i).r.In) (w : World) (hB : Qa w p1 109 #[.slice T n cap]) (hT : Qp w T n 4 (Yp f)) (hn : n ≤ 1000000) (hZ : Z6 w) :
  Calls Tryz.prog 136 #[.int .i64 (i : Int),.pointer (some ⟨p1,0,none⟩)] w fun e w' => e = .returned (.tuple #[.agg #[.int .i64 (J5 (f i).a (f i).r).1.n,.int .i64 (J5 (f i).a (f i).r).1.d],.int .i64 (J5 (f i).a (f i).r).2]) ∧ Qb w w':=by
 have ND:=fun w z => Qda (f i).a (f i).r ha hr w z
 generalize J5 (f i).a (f i).r = R at *;obtain ⟨⟨Rn,Rd⟩,Re⟩:=R;obtain ⟨b,off,rfl,_,_⟩:=hT (by omega)
 go_enter Tryz.func136,Tryz.ntmps136
 go_upto_region 1 with (fail)
 obtain ⟨v,hv⟩:=Qg (w.alloc (.cells #[.int .i64 0,.int .i64 0] 65));rw [← hv];have E : Qb w v:=by rw [hv];exact (Qb.refl _).alloc _
 have B1 : Qa v w.heap.size 65 #[.int .i64 0,.int .i64 0]:=by rw [hv];exact (Qa.new _ _ _)
 clear hv;obtain ⟨b1,hb1⟩:=Qg (w.heap.size);rw [← hb1] at B1 ⊢;have hbr : w.heap.size ≤ b1:=by omega
 clear hb1;have Z0:=hZ.ext E;have HB:=hB.ext E;have RT:=hT.ext E;clear hB hT hZ;refine Zb 15 [13,14] (fun x => Qb v x) Qo rfl ?_;intro vz hvz;have HC:=hvz;refine Qs (g:=5) [0,1,2,3,4,5,6,7,8,9] [_,_,_,_,_,_,_,_,_,_] ⟨rfl,rfl,rfl,rfl,rfl,rfl,rfl,rfl,rfl,rfl,trivial⟩ (by kernel_rfl) (by kernel_rfl) HC ?_;simp only [Qc,Qd,Qe];apply Exists.intro;refine ⟨fun u hu => ?_,?_⟩
 ·have k0 := (HB.ext hu).c1;have lk := (HB.ext hu).lt;obtain ⟨b', off', hTe, hb, hc⟩ := (RT.ext hu) (by omega);obtain ⟨rfl, rfl⟩ : b = b' ∧ off = off' := by simpa using hTe
  have c0 : u.cell? ⟨b,off + i * 4,none⟩ = some (.int .i64 (f i).a.n):=by simpa [Yp] using hc i 0 _ hi rfl
  have c1 : u.cell? ⟨b,off + i * 4 + 1,none⟩ = some (.int .i64 (f i).a.d):=by simpa [Yp] using hc i 1 _ hi rfl
  have c2 : u.cell? ⟨b,off + i * 4 + 2,none⟩ = some (.int .i64 (f i).r.n):=by simpa [Yp] using hc i 2 _ hi rfl
  have c3 : u.cell? ⟨b,off + i * 4 + 3,none⟩ = some (.int .i64 (f i).r.d):=by simpa [Yp] using hc i 3 _ hi rfl
  clear hc;repeat (first | go_big_quiet_skip | (go_big_quiet_want;go_big_quiet_op;go_big_quiet_on))
  refine wpQuiet_nil ?_;rfl
 refine Ql 10 rfl (by kernel_rfl) ?_;simp only [Qc,Qd,Qe];go_wp2_with (go_at_call 137;(with_reducible refine Calls.mono (ND _ (Z0.ext HC)) ?_);rintro e wa ⟨rfl,h4⟩);replace HC:=HC.trans h4;clear h4;refine Qh HC ?_;refine Qs (g:=2) [11,12] [_,_] ⟨rfl,rfl,trivial⟩ (by kernel_rfl) (by kernel_rfl) HC ?_;simp only [Qc,Qd,Qe];apply Exists.intro;refine ⟨fun u hu => ?_,?_⟩
 ·have k0 := (HB.ext hu).c1;have lk := (HB.ext hu).lt;obtain ⟨b', off', hTe, hb, hc⟩ := (RT.ext hu) (by omega);obtain ⟨rfl, rfl⟩ : b = b' ∧ off = off' := by simpa using hTe
  have c0 : u.cell? ⟨b,off + i * 4,none⟩ = some (.int .i64 (f i).a.n):=by simpa [Yp] using hc i 0 _ hi rfl
  have c1 : u.cell? ⟨b,off + i * 4 + 1,none⟩ = some (.int .i64 (f i).a.d):=by simpa [Yp] using hc i 1 _ hi rfl
  have c2 : u.cell? ⟨b,off + i * 4 + 2,none⟩ = some (.int .i64 (f i).r.n):=by simpa [Yp] using hc i 2 _ hi rfl
  have c3 : u.cell? ⟨b,off + i * 4 + 3,none⟩ = some (.int .i64 (f i).r.d):=by simpa [Yp] using hc i 3 _ hi rfl
  clear hc;repeat (first | go_big_quiet_skip | (go_big_quiet_want;go_big_quiet_op;go_big_quiet_on))
  refine wpQuiet_nil ?_;rfl
 refine Qr 13 rfl (by kernel_rfl) ?_;simp only [Qc,Qd,Qe];replace B1:=B1.ext HC;replace E:=E.trans HC;have f0:=B1.frozen 0;have f1:=B1.frozen 1;obtain ⟨x0,x1⟩:=B1.c2;have lx:=B1.lt;have H4:=Qm B1 (.int .i64 Rn) (.int .i64 Rd);have EF:=(E.setCell (p:=⟨b1,0,none⟩) hbr (.int .i64 Rn)).setCell (p:=⟨b1,1,none⟩) hbr (.int .i64 Rd);obtain ⟨y0,y1⟩:=H4.c2;go_wp2;refine Qq ?_;refine Qr 14 rfl (by kernel_rfl) ?_;simp only [Qc,Qd,Qe];go_wp2;refine Qq ?_;refine Qv (by kernel_rfl) ?_;go_wp2;refine bodyPost_ret (v:=.tuple #[.agg #[.int .i64 Rn,.int .i64 Rd],.int .i64 Re]) (by simp [results,Tryz.results136,go_sem,y0,y1]) rfl ⟨rfl,EF⟩
theorem Al (T : Option Addr) (n cap : Nat) (f : Nat → Tk) (w : World) (hin : ∀ i,i < n → (f i).a.In ∧ (f i).r.In) (hT : Qp w T n 4 (Yp f)) (hn : n ≤ 9223372036854775807) (hZ : Z6 w) :
  Calls Tryz.prog 87 #[.slice T n cap] w fun e w' => e = .returned (.tuple #[.agg #[.int .i64 (Je f n).1.n,.int .i64 (Je f n).1.d],.int .i64 (Je f n).2]) ∧ Qb w w':=by
 obtain ⟨R,hR0⟩:=Qg (Je f n);rw [← hR0];have HR:=Lib.hid hR0;clear hR0
 go_enter Tryz.func87,Tryz.ntmps87
 go_upto_region 1 with (fail)
 obtain ⟨v,hv⟩:=Qg ((w.alloc (.cells #[.slice T n cap] 109)).alloc (.cells #[.int .i64 0,.int .i64 0] 65));rw [← hv];have E : Qb w v:=by rw [hv];exact ((Qb.refl _).alloc _).alloc _
 have B1 : Qa v w.heap.size 109 #[.slice T n cap]:=by rw [hv];exact (Qa.new _ _ _).alloc _
 have B2 : Qa v (w.heap.size + 1) 65 #[.int .i64 0,.int .i64 0]:=by rw [hv];exact Qa.at _ _ _ _ (by simp)
 clear hv;obtain ⟨b2,hb2⟩:=Qg (w.heap.size + 1);rw [← hb2] at B2 ⊢;obtain ⟨b1,hb1⟩:=Qg (w.heap.size);rw [← hb1] at B1 ⊢;have hbr : w.heap.size ≤ b2:=by omega
 have hbr1 : w.heap.size ≤ b1:=by omega
 have hn21 : b2 ≠ b1:=by omega
 clear hb1 hb2;have RT:=hT.ext E;have Z0:=hZ.ext E;clear hT hZ;have k0:=B1.c1;have lk:=B1.lt;by_cases h64 : 64 < n
 ·have g1 : decide ((64 : Int) < (n : Int)) = true:=decide_eq_true (by omega);have hr:=HR.out;rw [show Je f n = (Zm,3) by unfold Je;rw [if_pos h64]] at hr;subst hr;clear HR;clear h64;have f0:=B2.frozen 0;have f1:=B2.frozen 1;obtain ⟨x0,x1⟩:=B2.c2;have lx:=B2.lt;have H4:=Qm B2 (.int .i64 0) (.int .i64 0);have EF:=(E.setCell (p:=⟨b2,0,none⟩) hbr (.int .i64 0)).setCell (p:=⟨b2,1,none⟩) hbr (.int .i64 0);obtain ⟨y0,y1⟩:=H4.c2;go_wp2;refine bodyPost_ret (v:=.tuple #[.agg #[.int .i64 0,.int .i64 0],.int .i64 3]) (by simp [results,Tryz.results87,go_sem,y0,y1]) rfl ⟨rfl,EF⟩
 ·have g1 : decide ((64 : Int) < (n : Int)) = false:=decide_eq_false (by omega);go_upto_region 4 with (fail)
  clear k0 lk
  go_loopw [12] (fun i wr => ∃ k : Nat,k ≤ n ∧ i = .int .i64 k ∧ Hid (∀ j,j < k → Vq (f j) = true) ∧ Qb v wr) (fun i _ => n - (intOf i).toNat)
  case atStart => exact ⟨0,Nat.zero_le _,rfl,(fun j h => absurd h (by omega)),Qb.refl _⟩
  case round =>
   obtain ⟨k,hk,rfl,hall,hE⟩:=hrel;obtain ⟨wo,rfl⟩:=Qg wr;by_cases hlt : k < n
   ·obtain ⟨b, off, rfl, hb, hc⟩ := (RT.ext hE) (by omega);have c0 : wo.cell? ⟨b, off + k * 4, none⟩ = some (.int .i64 (f k).a.n) := by simpa [Yp] using hc k 0 _ hlt rfl
    have c1 : wo.cell? ⟨b,off + k * 4 + 1,none⟩ = some (.int .i64 (f k).a.d):=by simpa [Yp] using hc k 1 _ hlt rfl
    have c2 : wo.cell? ⟨b,off + k * 4 + 2,none⟩ = some (.int .i64 (f k).r.n):=by simpa [Yp] using hc k 2 _ hlt rfl
    have c3 : wo.cell? ⟨b,off + k * 4 + 3,none⟩ = some (.int .i64 (f k).r.d):=by simpa [Yp] using hc k 3 _ hlt rfl
    obtain ⟨ia,ir⟩:=hin k hlt;have NN:=fun w b h => Oj (some ⟨b,0,none⟩) 1 1 (fun _ => (f k).a) w h (by decide) (fun i hi => ia)
    rw [Rz] at NN;have NP:=fun w => Oz (f k).r ir w
    have hno : Hid (Vq (f k) = false → R = (Zm,81)):=fun h => by
     rw [HR.out];unfold Je;rw [if_neg h64,if_neg (by rw [Bool.not_eq_true];exact List.all_eq_false.2 ⟨k,by simpa using hlt,by simp [h]⟩)]
    have hyes : Hid (Vq (f k) = true → ∀ j,j < k + 1 → Vq (f j) = true):=fun h j hj => by
     by_cases e : j = k
     ·subst e;exact h
     ·exact hall.out j (by omega)
    have htk : Hid (Vq (f k) = ((f k).a.nn && (f k).r.pos)):=rfl;clear hc hin RT hall HR h64;go_upto_region 6 with (fail)
    obtain ⟨v3,hv⟩:=Qg (wo.alloc (.cells #[.int .i64 (f k).a.n,.int .i64 (f k).a.d,.int .i64 (f k).r.n,.int .i64 (f k).r.d] 108));rw [← hv];have E3 : Qb wo v3:=by rw [hv];exact (Qb.refl _).alloc _
    have H3 : Qa v3 wo.heap.size 108 #[.int .i64 (f k).a.n,.int .i64 (f k).a.d,.int .i64 (f k).r.n,.int .i64 (f k).r.d]:=by rw [hv];exact Qa.new _ _ _
    clear hv c0 c1 c2 c3;replace hE:=hE.trans E3;generalize wo.heap.size = b3 at *;clear E3;obtain ⟨q0,q1,q2,q3⟩:=H3.c4;have lq:=H3.lt;generalize (f k).a.nn = nn at *;generalize (f k).r.pos = pp at *;cases nn
    ·have hr:=hno.out (by rw [htk.out];rfl);subst hr;clear hno hyes htk;go_upto_region 7 with (go_at_call 70;(with_reducible refine Calls.mono (NN _ _ (U4 (Qa.new _ _ _))) ?_);rintro e w2 ⟨rfl,h2⟩;clear q0 q1 q2 q3 lq;obtain ⟨q0,q1,q2,q3⟩:=((H3.alloc (.cells #[.int .i64 (f k).a.n,.int .i64 (f k).a.d] 65)).ext h2).c4;have lq:=((H3.alloc (.cells #[.int .i64 (f k).a.n,.int .i64 (f k).a.d] 65)).ext h2).lt)
     replace E:=((E.trans hE).alloc _).trans h2;replace B2:=((B2.ext hE).alloc _).ext h2;have f0:=B2.frozen 0;have f1:=B2.frozen 1;obtain ⟨x0,x1⟩:=B2.c2;have lx:=B2.lt;have H4:=Qm B2 (.int .i64 0) (.int .i64 0);have EF:=(E.setCell (p:=⟨b2,0,none⟩) hbr (.int .i64 0)).setCell (p:=⟨b2,1,none⟩) hbr (.int .i64 0);obtain ⟨y0,y1⟩:=H4.c2;go_wp2;refine bodyPost_ret (v:=.tuple #[.agg #[.int .i64 0,.int .i64 0],.int .i64 81]) (by simp [results,Tryz.results87,go_sem,y0,y1]) rfl ⟨rfl,EF⟩
    ·cases pp
     ·have hr:=hno.out (by rw [htk.out];rfl);subst hr;clear hno hyes htk;go_upto_region 7 with (first | (go_at_call 70;(with_reducible refine Calls.mono (NN _ _ (U4 (Qa.new _ _ _))) ?_);rintro e w2 ⟨rfl,h2⟩;clear q0 q1 q2 q3 lq;obtain ⟨q0,q1,q2,q3⟩:=((H3.alloc (.cells #[.int .i64 (f k).a.n,.int .i64 (f k).a.d] 65)).ext h2).c4;have lq:=((H3.alloc (.cells #[.int .i64 (f k).a.n,.int .i64 (f k).a.d] 65)).ext h2).lt) | (go_at_call 67;(with_reducible refine Calls.mono (NP _) ?_);rintro e w3 ⟨rfl,h3⟩))
      replace E:=(((E.trans hE).alloc _).trans h2).trans h3;replace B2:=(((B2.ext hE).alloc _).ext h2).ext h3;have f0:=B2.frozen 0;have f1:=B2.frozen 1;obtain ⟨x0,x1⟩:=B2.c2;have lx:=B2.lt;have H4:=Qm B2 (.int .i64 0) (.int .i64 0);have EF:=(E.setCell (p:=⟨b2,0,none⟩) hbr (.int .i64 0)).setCell (p:=⟨b2,1,none⟩) hbr (.int .i64 0);obtain ⟨y0,y1⟩:=H4.c2;go_wp2;refine bodyPost_ret (v:=.tuple #[.agg #[.int .i64 0,.int .i64 0],.int .i64 81]) (by simp [results,Tryz.results87,go_sem,y0,y1]) rfl ⟨rfl,EF⟩
     ·have hx:=Lib.hid (hyes.out (by rw [htk.out];rfl));clear hno hyes htk;go_wp2_with (first | (go_at_call 70;(with_reducible refine Calls.mono (NN _ _ (U4 (Qa.new _ _ _))) ?_);rintro e w2 ⟨rfl,h2⟩;clear q0 q1 q2 q3 lq;obtain ⟨q0,q1,q2,q3⟩:=((H3.alloc (.cells #[.int .i64 (f k).a.n,.int .i64 (f k).a.d] 65)).ext h2).c4;have lq:=((H3.alloc (.cells #[.int .i64 (f k).a.n,.int .i64 (f k).a.d] 65)).ext h2).lt) | (go_at_call 67;(with_reducible refine Calls.mono (NP _) ?_);rintro e w3 ⟨rfl,h3⟩));exact ⟨⟨k + 1,by omega,by go_num,hx,(((hE.alloc _).trans h2).trans h3)⟩,by simp [intOf];omega⟩
   ·obtain rfl : k = n := by omega
    have B1e:=B1.ext hE;have RTe:=RT.ext hE;have Ze:=Z0.ext hE;have NT:=Qil (fun i => J5 (f i).a (f i).r) k b1 wo (fun i hi u hu => Qgb T k cap f b1 i hi (hin i hi).1 (hin i hi).2 u (B1e.ext hu) (RTe.ext hu) (by omega) (Ze.ext hu)) (fun i hi => Qdb _ _) (by omega) Ze;rw [show Wg (fun i => J5 (f i).a (f i).r) k = R from by rw [HR.out];unfold Je;rw [if_neg h64,if_pos (List.all_eq_true.2 fun j hj => hall.out j (by simpa using hj))]] at NT;clear HR hall hin h64 RT;replace E:=E.trans hE;replace B2:=B2.ext hE;have k0:=B1e.c1;have lk:=B1e.lt;clear hE;obtain ⟨⟨Rn,Rd⟩,Re⟩:=R;go_wp2_with (first | (go_at_call 135;(with_reducible refine Calls.mono (NT) ?_);rintro e wt ⟨rfl,ht⟩;replace E:=E.trans ht;replace B2:=B2.ext ht;have f0:=B2.frozen 0;have f1:=B2.frozen 1;obtain ⟨x0,x1⟩:=B2.c2;have lx:=B2.lt))
    have H4:=Qm B2 (.int .i64 Rn) (.int .i64 Rd);have EF:=(E.setCell (p:=⟨b2,0,none⟩) hbr (.int .i64 Rn)).setCell (p:=⟨b2,1,none⟩) hbr (.int .i64 Rd);obtain ⟨y0,y1⟩:=H4.c2;go_wp2;refine bodyPost_ret (v:=.tuple #[.agg #[.int .i64 Rn,.int .i64 Rd],.int .i64 Re]) (by simp [results,Tryz.results87,go_sem,y0,y1]) rfl ⟨rfl,EF⟩
end
end Go.Proofs.YtoflcheopfppoaaGreatDoor
