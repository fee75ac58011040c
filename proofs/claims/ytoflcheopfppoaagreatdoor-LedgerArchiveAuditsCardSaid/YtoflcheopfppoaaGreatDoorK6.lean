/- Walks and plain facts, packed; no conditions but those that each states. -/
import Derived.Test.YtoflcheopfppoaaGreatDoorK5
import Derived.Laws.EntriesVeiled
import Derived.Sort.Walk0
set_option maxRecDepth 100000
set_option maxHeartbeats 4000000
namespace Go.Proofs.YtoflcheopfppoaaGreatDoor
section
open Go Go.RowKit Go.Shelf
attribute [local go_sem] Z8
section
variable {W w : World} {b : Nat} {t : TypeId} {v0 v1 v2 v3 v4 v5 : Value}
theorem Xt (h : Qb W b t #[v0,v1,v2,v3,v4,v5]) (u0 u1 u2 u3 u4 u5 : Value) : Qb ((((((W.setCell ⟨b,0,none⟩ u0).setCell ⟨b,1,none⟩ u1).setCell ⟨b,2,none⟩ u2).setCell ⟨b,3,none⟩ u3).setCell ⟨b,4,none⟩ u4).setCell ⟨b,5,none⟩ u5) b t #[u0,u1,u2,u3,u4,u5]:=by unfold Qb at h ⊢;simp [World.setCell,Array.getElem?_modify,h]
theorem Xs (h : Qc w W) (hb : w.heap.size ≤ b) (u0 u1 u2 u3 u4 u5 : Value) : Qc w ((((((W.setCell ⟨b,0,none⟩ u0).setCell ⟨b,1,none⟩ u1).setCell ⟨b,2,none⟩ u2).setCell ⟨b,3,none⟩ u3).setCell ⟨b,4,none⟩ u4).setCell ⟨b,5,none⟩ u5) :=
 (((((h.setCell (p:=⟨b,0,none⟩) hb u0).setCell (p:=⟨b,1,none⟩) hb u1).setCell (p:=⟨b,2,none⟩) hb u2).setCell (p:=⟨b,3,none⟩) hb u3).setCell (p:=⟨b,4,none⟩) hb u4).setCell (p:=⟨b,5,none⟩) hb u5
theorem Rm {b' : Nat} {cs : Array Value} (h : Qb W b t cs) (hne : b ≠ b') (u0 u1 u2 u3 u4 u5 : Value) : Qb ((((((W.setCell ⟨b',0,none⟩ u0).setCell ⟨b',1,none⟩ u1).setCell ⟨b',2,none⟩ u2).setCell ⟨b',3,none⟩ u3).setCell ⟨b',4,none⟩ u4).setCell ⟨b',5,none⟩ u5) b t cs :=
 Qg (Qg (Qg (Qg (Qg (Qg h hne 0 u0) hne 1 u1) hne 2 u2) hne 3 u3) hne 4 u4) hne 5 u5
end
structure W9 (W : World) (b : Nat) (t : TypeId) (cs : Array Value) : Prop where
 out : Qb W b t cs
def cut0 (A : Act) (S : World → Prop) : Exit → Act → World → Prop:=fun e a' w' => e = .normal ∧ S w' ∧ a' = A
theorem Ti {P : Program} {c : Code} {Q : Exit → Act → World → Prop} {a : Act} {w : World} {A : Act} (S : World → Prop) (h1 : c.wp P (cut0 A S) a w) (h2 : ∀ w',S w' → Q .normal A w') : c.wp P Q a w :=
 Code.wp_mono (fun e a' w' ⟨he,hs,ha⟩ => by subst he;subst ha;exact h2 w' hs) h1
def restJ (c : Qd) (r : Rt) (f : Nat → Yi) (on : Dt) (k m : Nat) : Nat → Db → Rt → Db × Int
 | 0,X,lf => Rv c r f on k m X lf
 | 1,X,lf => Rw c r f on k m X lf
 | _,X,lf => Rx c r f on k m X lf
theorem Ql2 (A A' : OA) (ca cb : Nat) (c : Qd) (B : OA) (n cap : Nat) (l : Ln) (f : Nat → Yi) (hp : l.p.In) (hr : l.r.In) (hin : ∀ i,i < n → (f i).n.In) (w : World) (hC : Za w A ca A' cb c) (hB : Qm w B n 6 (Yz f)) (hn : n ≤ 9223372036854775807) (hZ : Jc w) (on : Dt) :
  Calls Tryz.prog 66 #[.agg #[.slice A c.nk ca,.slice A' c.ny cb],.agg #[.int .i64 l.p.n,.int .i64 l.p.d,.int .i64 l.r.n,.int .i64 l.r.d,.int .i64 l.f.y,.int .i64 l.f.m,.bool l.f.s,.int .i64 l.f.d],.slice B n cap,.agg #[.int .i64 on.y,.int .i64 on.m,.bool on.s,.int .i64 on.d]] w fun e w' => e = .returned (.tuple #[.agg #[.int .i64 (Yv c l.r f on 0 n (start l) l.f).1.p.n,.int .i64 (Yv c l.r f on 0 n (start l) l.f).1.p.d,.int .i64 (Yv c l.r f on 0 n (start l) l.f).1.i.n,.int .i64 (Yv c l.r f on 0 n (start l) l.f).1.i.d,.int .i64 (Yv c l.r f on 0 n (start l) l.f).1.s.n,.int .i64 (Yv c l.r f on 0 n (start l) l.f).1.s.d],.int .i64 (Yv c l.r f on 0 n (start l) l.f).2]) ∧ Qc w w':=by
 obtain ⟨V,hV0⟩:=Qe (Yv c l.r f on 0 n (start l) l.f);rw [← hV0];replace hV0:=zh hV0
 go_enter Tryz.func66,Tryz.ntmps66
 go_upto_region 1 with fail
 obtain ⟨v,b1,b2,b3,b4,E,B1,B2,B3,B4,hbr1,hbr2,hbr3,hbr,hn21,hn31,hn32,hn41,hn42,hn43,hv,hb1,hb2,hb3,hb4⟩:=Gi w 130 #[.slice A c.nk ca,.slice A' c.ny cb] 67 #[.int .i64 l.p.n,.int .i64 l.p.d,.int .i64 l.r.n,.int .i64 l.r.d,.int .i64 l.f.y,.int .i64 l.f.m,.bool l.f.s,.int .i64 l.f.d] 51 #[.int .i64 on.y,.int .i64 on.m,.bool on.s,.int .i64 on.d] 72 #[.int .i64 0,.int .i64 0,.int .i64 0,.int .i64 0,.int .i64 0,.int .i64 0];rw [← hv,← hb4,← hb3,← hb2,← hb1];clear hv hb1 hb2 hb3 hb4;have C:=hC.ext E;have RB:=hB.ext E;have Z0:=hZ.ext E;clear hC hB hZ;have hv4:=B4.lt;apply K0 (S:=fun w' b => Qc v w' ∧ v.heap.size ≤ b ∧ Qb w' b 72 #[.int .i64 l.p.n,.int .i64 l.p.d,.int .i64 0,.int .i64 1,.int .i64 0,.int .i64 1])
 ·refine Zc 7 [6] (fun x => Qc v x) mixed rfl ?_;intro vz hvz;have HC:=hvz;refine Qs (g:=5) [0,1] HC ?_
  constructor
  refine ⟨fun u hu => ?_,?_⟩
  ·obtain ⟨p0,p1,p2,p3,p4,p5,p6,p7⟩:=(B2.ext hu).c8;have lp:=(B2.ext hu).lt;exact Qk
  refine Zq 2 5 ?_ ?_
  ·go_wp2_with (go_at_call 72;refine zc (Wv _ _) ?_;rintro e wa ⟨rfl,h4⟩);replace HC:=HC.trans h4;clear h4;refine Qf HC ?_;refine Zq 3 5 ?_ ?_
   ·go_wp2_with (go_at_call 72;refine zc (Wv _ _) ?_;rintro e wa ⟨rfl,h4⟩);replace HC:=HC.trans h4;clear h4;refine Qf HC ?_;refine Qs (g:=2) [4] HC ?_
    constructor
    refine ⟨fun u hu => ?_,?_⟩
    ·obtain ⟨p0,p1,p2,p3,p4,p5,p6,p7⟩:=(B2.ext hu).c8;have lp:=(B2.ext hu).lt;exact Qk
    refine Qj 5 ?_;go_wp2;obtain ⟨bq,hbq,Q,HC',hge⟩:=Wc HC 72 #[.int .i64 0,.int .i64 0,.int .i64 0,.int .i64 0,.int .i64 0,.int .i64 0];rw [← hbq];clear hbq;replace HC:=HC';clear HC';refine Qf HC ?_;refine Qr 6 ?_;have z0:=Q.frozen 0;have z1:=Q.frozen 1;have z2:=Q.frozen 2;have z3:=Q.frozen 3;have z4:=Q.frozen 4;have z5:=Q.frozen 5;obtain ⟨x0,x1,x2,x3,x4,x5⟩:=Q.c6;have lx:=Q.lt;have Q2:=Xt Q (.int .i64 l.p.n) (.int .i64 l.p.d) (.int .i64 0) (.int .i64 1) (.int .i64 0) (.int .i64 1);have HE2:=Xs HC hge (.int .i64 l.p.n) (.int .i64 l.p.d) (.int .i64 0) (.int .i64 1) (.int .i64 0) (.int .i64 1);go_wp2;refine Qq ?_;refine Qx ?_;exact Yw bq ⟨HE2,hge,Q2⟩ rfl
   ·go_wp2;obtain ⟨bq,hbq,Q,HC',hge⟩:=Wc HC 72 #[.int .i64 0,.int .i64 0,.int .i64 0,.int .i64 0,.int .i64 0,.int .i64 0];rw [← hbq];clear hbq;replace HC:=HC';clear HC';refine Qf HC ?_;refine Qj 3 ?_;go_wp2_with (go_at_call 72;refine zc (Wv _ _) ?_;rintro e wa ⟨rfl,h4⟩);replace HC:=HC.trans h4;try replace Q:=Q.ext h4
    clear h4;refine Qf HC ?_;refine Qs (g:=1) [4] HC ?_
    constructor
    refine ⟨fun u hu => ?_,?_⟩
    ·obtain ⟨p0,p1,p2,p3,p4,p5,p6,p7⟩:=(B2.ext hu).c8;have lp:=(B2.ext hu).lt;exact Qk
    refine Qr 6 ?_;have z0:=Q.frozen 0;have z1:=Q.frozen 1;have z2:=Q.frozen 2;have z3:=Q.frozen 3;have z4:=Q.frozen 4;have z5:=Q.frozen 5;obtain ⟨x0,x1,x2,x3,x4,x5⟩:=Q.c6;have lx:=Q.lt;have Q2:=Xt Q (.int .i64 l.p.n) (.int .i64 l.p.d) (.int .i64 0) (.int .i64 1) (.int .i64 0) (.int .i64 1);have HE2:=Xs HC hge (.int .i64 l.p.n) (.int .i64 l.p.d) (.int .i64 0) (.int .i64 1) (.int .i64 0) (.int .i64 1);go_wp2;refine Qq ?_;refine Qx ?_;exact Yw bq ⟨HE2,hge,Q2⟩ rfl
  ·go_wp2;obtain ⟨bq,hbq,Q,HC',hge⟩:=Wc HC 72 #[.int .i64 0,.int .i64 0,.int .i64 0,.int .i64 0,.int .i64 0,.int .i64 0];rw [← hbq];clear hbq;replace HC:=HC';clear HC';refine Qf HC ?_;refine Qj 2 ?_;go_wp2_with (go_at_call 72;refine zc (Wv _ _) ?_;rintro e wa ⟨rfl,h4⟩);replace HC:=HC.trans h4;try replace Q:=Q.ext h4
   clear h4;refine Qf HC ?_;refine Qj 3 ?_;go_wp2_with (go_at_call 72;refine zc (Wv _ _) ?_;rintro e wa ⟨rfl,h4⟩);replace HC:=HC.trans h4;try replace Q:=Q.ext h4
   clear h4;refine Qf HC ?_;refine Qs (g:=1) [4] HC ?_
   constructor
   refine ⟨fun u hu => ?_,?_⟩
   ·obtain ⟨p0,p1,p2,p3,p4,p5,p6,p7⟩:=(B2.ext hu).c8;have lp:=(B2.ext hu).lt;exact Qk
   refine Qr 6 ?_;have z0:=Q.frozen 0;have z1:=Q.frozen 1;have z2:=Q.frozen 2;have z3:=Q.frozen 3;have z4:=Q.frozen 4;have z5:=Q.frozen 5;obtain ⟨x0,x1,x2,x3,x4,x5⟩:=Q.c6;have lx:=Q.lt;have Q2:=Xt Q (.int .i64 l.p.n) (.int .i64 l.p.d) (.int .i64 0) (.int .i64 1) (.int .i64 0) (.int .i64 1);have HE2:=Xs HC hge (.int .i64 l.p.n) (.int .i64 l.p.d) (.int .i64 0) (.int .i64 1) (.int .i64 0) (.int .i64 1);go_wp2;refine Qq ?_;refine Qx ?_;exact Yw bq ⟨HE2,hge,Q2⟩ rfl
 rintro bd w1 ⟨HE,gd,Hd⟩;obtain ⟨p0,p1,p2,p3,p4,p5,p6,p7⟩:=(B2.ext HE).c8;have lp:=(B2.ext HE).lt;go_upto_region 6 with fail
 obtain ⟨w2,hw2⟩:=Qe (((w1.alloc (.cells #[.int .i64 l.f.y,.int .i64 l.f.m,.bool l.f.s,.int .i64 l.f.d] 51)).alloc (.cells #[.int .i64 0] 29)).alloc (.cells #[.func (.func 117) #[] #[.pointer (some ⟨w1.heap.size + 1,0,none⟩)]] 200));rw [← hw2];have h12 : Qc w1 w2:=by rw [hw2];exact (((Qc.refl _).alloc _).alloc _).alloc _
 have Hf : Qb w2 w1.heap.size 51 #[.int .i64 l.f.y,.int .i64 l.f.m,.bool l.f.s,.int .i64 l.f.d]:=by rw [hw2];exact ((Qb.new _ _ _).alloc _).alloc _
 have He : Qb w2 (w1.heap.size + 1) 29 #[.int .i64 0]:=by rw [hw2];exact (Qb.at _ _ _ _ (by simp)).alloc _
 have Ht : Qb w2 (w1.heap.size + 1 + 1) 200 #[.func (.func 117) #[] #[.pointer (some ⟨w1.heap.size + 1,0,none⟩)]]:=by rw [hw2];exact Qb.at _ _ _ _ (by simp)
 clear hw2 p0 p1 p2 p3 p4 p5 p6 p7 lp;have hw1:=HE.size;have hdw:=Hd.lt;replace Hd:=Hd.ext h12;replace HE:=HE.trans h12;clear h12;obtain ⟨bt,hbt⟩:=Qe (w1.heap.size + 1 + 1);rw [← hbt] at Ht ⊢;obtain ⟨be,hbe⟩:=Qe (w1.heap.size + 1);rw [← hbe] at Ht He ⊢;obtain ⟨bf,hbf⟩:=Qe (w1.heap.size);rw [← hbf] at Hf ⊢;have g2 : v.heap.size ≤ bf:=Qa;have g3 : v.heap.size ≤ be:=Qa;have n1 : bd ≠ bf:=Qa;have n2 : bd ≠ be:=Qa;have n3 : bf ≠ be:=Qa;have n4 : bt ∉ [bd,bf,be]:=by simp;omega
 have hb1v:=B1.lt;have hb2v:=B2.lt;have n5 : b2 ∉ [bd,bf,be]:=by simp;omega
 have n6 : b1 ∉ [bd,bf,be]:=by simp;omega
 have hbe4 : be ≠ b4:=Qa;have ntd : bt ≠ bd:=Qa;have gS : ∀ k,k ∈ [bd,bf,be] → v.heap.size ≤ k:=fun k hk => by simp at hk;omega
 clear hbt hbe hbf hw1 hdw;replace gS:=zh gS;replace n4:=zh n4;replace n5:=zh n5;replace n6:=zh n6;obtain ⟨k0,k1⟩:=(B1.ext HE).c2;have lk:=(B1.ext HE).lt;obtain ⟨o0,o1,o2,o3⟩:=(B3.ext HE).c4;have lo:=(B3.ext HE).lt;have ND:=fun d w h => Xr A A' ca cb c d w h
 go_upto_region 8 with (go_at_call 48;refine zc (ND on _ (C.ext HE)) ?_;rintro e w3 ⟨rfl,h4⟩)
 replace HE:=HE.trans h4;replace Hd:=Hd.ext h4;replace Hf:=Hf.ext h4;replace He:=He.ext h4;replace Ht:=Ht.ext h4;clear h4 k0 k1 lk o0 o1 o2 o3 lo;obtain ⟨L0,hL0⟩:=Qe (c.numV on);rw [← hL0];replace hL0:=zh hL0;have hX0 : (start l).In:=⟨hp,Vk,Vk⟩
 go_loopw [35] (fun iv wr => ∃ k : Nat,k ≤ n ∧ iv = .int .i64 (k : Int) ∧ ∃ X fr ee,Db.In X ∧ Qc v wr ∧ Qb wr bt 200 #[.func (.func 117) #[] #[.pointer (some ⟨be,0,none⟩)]] ∧ Qb wr bd 72 #[.int .i64 X.p.n,.int .i64 X.p.d,.int .i64 X.i.n,.int .i64 X.i.d,.int .i64 X.s.n,.int .i64 X.s.d] ∧ Qb wr bf 51 #[.int .i64 fr.y,.int .i64 fr.m,.bool fr.s,.int .i64 fr.d] ∧ Qb wr be 29 #[.int .i64 ee] ∧ Hid (ee = 0 → V = Yv c l.r f on k (n - k) X fr) ∧ Hid (ee ≠ 0 → V = (Yk,ee))) (fun iv _ => n - (intOf iv).toNat)
 case atStart => exact ⟨0,Nat.zero_le _,rfl,start l,l.f,0,hX0,HE,Ht,Hd,Hf,He,fun _ => hV0.out,fun h => absurd rfl h⟩
 case round =>
  clear HE Ht Hd Hf He hX0 hV0;obtain ⟨k,hk,rfl,X,fr,ee,hX,HE,Ht,Hd,Hf,He,h1,h2⟩:=hrel;obtain ⟨wo,rfl⟩:=Qe wr;by_cases hlt : k < n
  ·obtain ⟨m, hm⟩ : ∃ m, n - k = m + 1 := ⟨n - k - 1, Qa⟩;have hm2 : n - (k + 1) = m := Qa;rw [hm] at h1;obtain ⟨b, off, rfl, hb, hc⟩ := (RB.ext HE) Qa;have c0 : wo.cell? ⟨b, off + k * 6, none⟩ = some (.int .i64 (f k).on.y) := by simpa [Yz] using hc k 0 _ hlt rfl
   have c1 : wo.cell? ⟨b,off + k * 6 + 1,none⟩ = some (.int .i64 (f k).on.m):=by simpa [Yz] using hc k 1 _ hlt rfl
   have c2 : wo.cell? ⟨b,off + k * 6 + 2,none⟩ = some (.bool (f k).on.s):=by simpa [Yz] using hc k 2 _ hlt rfl
   have c3 : wo.cell? ⟨b,off + k * 6 + 3,none⟩ = some (.int .i64 (f k).on.d):=by simpa [Yz] using hc k 3 _ hlt rfl
   have c4 : wo.cell? ⟨b,off + k * 6 + 4,none⟩ = some (.int .i64 (f k).n.n):=by simpa [Yz] using hc k 4 _ hlt rfl
   have c5 : wo.cell? ⟨b,off + k * 6 + 5,none⟩ = some (.int .i64 (f k).n.d):=by simpa [Yz] using hc k 5 _ hlt rfl
   have hfin:=hin k hlt;clear hc RB hin hm;go_upto_region 10 with fail
   obtain ⟨v3,hv⟩:=Qe (wo.alloc (.cells #[.int .i64 (f k).on.y,.int .i64 (f k).on.m,.bool (f k).on.s,.int .i64 (f k).on.d,.int .i64 (f k).n.n,.int .i64 (f k).n.d] 78));rw [← hv];have E3 : Qc wo v3:=by rw [hv];exact (Qc.refl _).alloc _
   have H3 : Qb v3 wo.heap.size 78 #[.int .i64 (f k).on.y,.int .i64 (f k).on.m,.bool (f k).on.s,.int .i64 (f k).on.d,.int .i64 (f k).n.n,.int .i64 (f k).n.d]:=by rw [hv];exact Qb.new _ _ _
   clear hv c0 c1 c2 c3 c4 c5 hb;have h17v : wo.heap.size < v3.heap.size:=H3.lt;have ht17:=Ht.lt;have hd17:=Hd.lt;have hf17:=Hf.lt;have he17:=He.lt;obtain ⟨b17,hb17⟩:=Qe (wo.heap.size);rw [← hb17] at H3 ⊢;have n17 : b17 ∉ [bd,bf,be]:=by simp;omega
   replace n17:=zh n17;clear hb17 ht17 hd17 hf17 he17 h17v;replace HE:=HE.trans E3;replace Ht:=Ht.ext E3;replace Hd:=Hd.ext E3;replace Hf:=Hf.ext E3;replace He:=He.ext E3;clear E3;by_cases h0 : ee = 0;rotate_left
   ·have g0 : (ee == 0) = false := zb h0;have hV := zh (h2.out h0);clear h1 h2 h0;have g0n : (ee != 0) = true := by rw [bne, g0]; rfl
    have e0:=He.c1;have le:=He.lt;go_upto_region 25 with fail
    clear e0 le;apply Ti (S:=fun w' => Qc w w' ∧ Qb w' b4 72 #[.int .i64 0,.int .i64 0,.int .i64 0,.int .i64 0,.int .i64 0,.int .i64 0])
    ·refine Zc 4 [3] (fun x => W9 x be 29 #[.int .i64 ee]) mixed rfl ?_;intro vz hvz;replace He:=He.ext hvz;replace HE:=HE.trans hvz;clear hvz;refine Qs (g:=2) [0,1] (W9.mk He) ?_
     constructor
     refine ⟨fun u hu => ?_,?_⟩
     ·have e0:=hu.out.c1;have le:=hu.out.lt;exact Qk
     refine Qj 2 ?_;have R4:=B4.ext HE;have z0:=R4.frozen 0;have z1:=R4.frozen 1;have z2:=R4.frozen 2;have z3:=R4.frozen 3;have z4:=R4.frozen 4;have z5:=R4.frozen 5;obtain ⟨x0,x1,x2,x3,x4,x5⟩:=R4.c6;have lx:=R4.lt;go_wp2;have R6:=Xt R4 (.int .i64 0) (.int .i64 0) (.int .i64 0) (.int .i64 0) (.int .i64 0) (.int .i64 0);have EF:=Xs (E.trans HE) hbr (.int .i64 0) (.int .i64 0) (.int .i64 0) (.int .i64 0) (.int .i64 0) (.int .i64 0);replace He:=Rm He hbe4 (.int .i64 0) (.int .i64 0) (.int .i64 0) (.int .i64 0) (.int .i64 0) (.int .i64 0);clear z0 z1 z2 z3 z4 z5 x0 x1 x2 x3 x4 x5 lx R4;generalize World.setCell _ _ _ = wq at *;refine Qf (W9.mk He) ?_
     refine Qr 3 ?_;go_wp2;refine Qq ?_;refine Qx ?_;exact ⟨rfl,⟨EF,R6⟩,rfl⟩
    rintro w9 ⟨EF,R6⟩;obtain ⟨y0,y1,y2,y3,y4,y5⟩:=R6.c6;go_wp2;refine bodyPost_ret (v:=.tuple #[.agg #[.int .i64 0,.int .i64 0,.int .i64 0,.int .i64 0,.int .i64 0,.int .i64 0],.int .i64 ee]) U8 rfl ⟨by rw [hV.out];rfl,EF⟩
   subst h0;have e0:=He.c1;have le:=He.lt;obtain ⟨k0,k1⟩:=(B1.ext HE).c2;have lk:=(B1.ext HE).lt;obtain ⟨q0,q1,q2,q3,q4,q5⟩:=H3.c6;have lq:=H3.lt;have h1':=zh (h1.out rfl);clear h1 h2;have hdd:=fun w h => Xr A A' ca cb c (f k).on w h
   by_cases hday : L0 < c.numV (f k).on
   ·have gd1 : decide (L0 < c.numV (f k).on) = true := zt hday;have hVA : Hid (V = V4 (Jz c l.r X fr on)) := by unfold Hid; rw [h1'.out, Qnc (by rw [← hL0.out]; exact hday)]
    clear h1' hday;generalize c.numV (f k).on = L1 at *;go_upto_region 22 with (go_at_call 48;refine zc (hdd _ (C.ext HE)) ?_;rintro e w5 ⟨rfl,h4⟩)
    replace HE:=HE.trans h4;replace Ht:=Ht.ext h4;replace Hd:=Hd.ext h4;replace Hf:=Hf.ext h4;replace He:=He.ext h4;clear h4 e0 le k0 k1 lk q0 q1 q2 q3 q4 q5 lq H3 hdd;have e0:=He.c1;have le:=He.lt;have B3e:=B3.ext HE;obtain ⟨o0,o1,o2,o3⟩:=B3e.c4;have lo:=B3e.lt;have NA:=Ts A A' ca cb c l hr X hX fr on bt bd b2 b1 bf be v _ HE C Z0 Ht Hd (B2.ext HE) (B1.ext HE) Hf He g3 n1 n2 n3 n4.out n5.out n6.out;go_upto_region 24 with (first | (go_at_call 118;(with_reducible refine zc (NA) ?_);rintro e wk ⟨rfl,hO,hf,he,Y,hYin,hd,hY⟩) | (go_at_fn 118;(with_reducible refine zc (NA) ?_);rintro e wk ⟨rfl,hO,hf,he,Y,hYin,hd,hY⟩))
    replace HE:=hO.ext HE gS.out;replace Ht:=hO.held Ht n4.out;clear hO Hd Hf He NA;have Hd:=hd;have Hf:=hf;have He:=he;clear hd hf he;clear e0 le o0 o1 o2 o3 lo B3e;generalize Jz c l.r X fr on = a at *;obtain ⟨aX,ae⟩:=a;simp only [] at He hY hVA;by_cases h0 : ae = 0
    ·subst h0;have hy := hY rfl;subst hy;have hV : Hid (V = (Y, 0)) := by unfold Hid; rw [hVA.out]; exact Qcc rfl
     clear hVA hY;have e0:=He.c1;have le:=He.lt;have R4:=B4.ext HE;obtain ⟨d0,d1,d2,d3,d4,d5⟩:=Hd.c6;have ld:=Hd.lt;have z0:=R4.frozen 0;have z1:=R4.frozen 1;have z2:=R4.frozen 2;have z3:=R4.frozen 3;have z4:=R4.frozen 4;have z5:=R4.frozen 5;obtain ⟨x0,x1,x2,x3,x4,x5⟩:=R4.c6;have lx:=R4.lt;have R6:=Xt R4 (.int .i64 Y.p.n) (.int .i64 Y.p.d) (.int .i64 Y.i.n) (.int .i64 Y.i.d) (.int .i64 Y.s.n) (.int .i64 Y.s.d);have EF:=Xs (E.trans HE) hbr (.int .i64 Y.p.n) (.int .i64 Y.p.d) (.int .i64 Y.i.n) (.int .i64 Y.i.d) (.int .i64 Y.s.n) (.int .i64 Y.s.d);obtain ⟨y0,y1,y2,y3,y4,y5⟩:=R6.c6;go_wp2;refine bodyPost_ret (v:=.tuple #[.agg #[.int .i64 Y.p.n,.int .i64 Y.p.d,.int .i64 Y.i.n,.int .i64 Y.i.d,.int .i64 Y.s.n,.int .i64 Y.s.d],.int .i64 0]) U8 rfl ⟨by rw [hV.out],EF⟩
    ·have g0 : (ae == 0) = false := zb h0;have hV : Hid (V = (Yk, ae)) := by unfold Hid; rw [hVA.out]; exact Nb h0
     clear hVA hY h0;have g0n : (ae != 0) = true:=by rw [bne,g0];rfl
     have e0:=He.c1;have le:=He.lt;go_upto_region 25 with fail
     clear e0 le;apply Ti (S:=fun w' => Qc w w' ∧ Qb w' b4 72 #[.int .i64 0,.int .i64 0,.int .i64 0,.int .i64 0,.int .i64 0,.int .i64 0])
     ·refine Zc 4 [3] (fun x => W9 x be 29 #[.int .i64 ae]) mixed rfl ?_;intro vz hvz;replace He:=He.ext hvz;replace HE:=HE.trans hvz;clear hvz;refine Qs (g:=2) [0,1] (W9.mk He) ?_
      constructor
      refine ⟨fun u hu => ?_,?_⟩
      ·have e0:=hu.out.c1;have le:=hu.out.lt;exact Qk
      refine Qj 2 ?_;have R4:=B4.ext HE;have z0:=R4.frozen 0;have z1:=R4.frozen 1;have z2:=R4.frozen 2;have z3:=R4.frozen 3;have z4:=R4.frozen 4;have z5:=R4.frozen 5;obtain ⟨x0,x1,x2,x3,x4,x5⟩:=R4.c6;have lx:=R4.lt;go_wp2;have R6:=Xt R4 (.int .i64 0) (.int .i64 0) (.int .i64 0) (.int .i64 0) (.int .i64 0) (.int .i64 0);have EF:=Xs (E.trans HE) hbr (.int .i64 0) (.int .i64 0) (.int .i64 0) (.int .i64 0) (.int .i64 0) (.int .i64 0);replace He:=Rm He hbe4 (.int .i64 0) (.int .i64 0) (.int .i64 0) (.int .i64 0) (.int .i64 0) (.int .i64 0);clear z0 z1 z2 z3 z4 z5 x0 x1 x2 x3 x4 x5 lx R4;generalize World.setCell _ _ _ = wq at *;refine Qf (W9.mk He) ?_
      refine Qr 3 ?_;go_wp2;refine Qq ?_;refine Qx ?_;exact ⟨rfl,⟨EF,R6⟩,rfl⟩
     rintro w9 ⟨EF,R6⟩;obtain ⟨y0,y1,y2,y3,y4,y5⟩:=R6.c6;go_wp2;refine bodyPost_ret (v:=.tuple #[.agg #[.int .i64 0,.int .i64 0,.int .i64 0,.int .i64 0,.int .i64 0,.int .i64 0],.int .i64 ae]) U8 rfl ⟨by rw [hV.out];rfl,EF⟩
   ·have gd1 : decide (L0 < c.numV (f k).on) = false := zf hday;have hE1 : Hid ((Jz c l.r X fr (f k).on).2 ≠ 0 → V = (Yk, (Jz c l.r X fr (f k).on).2)) := fun h => by rw [h1'.out, Qna (by rw [← hL0.out]; exact hday) h]
    have hE2 : Hid ((Jz c l.r X fr (f k).on).2 = 0 → V = Rv c l.r f on k m (Jz c l.r X fr (f k).on).1 (f k).n):=fun h => by rw [h1'.out,Qnb (by rw [← hL0.out];exact hday) h]
    clear h1' hday;generalize c.numV (f k).on = L1 at *;go_upto_region 11 with (go_at_call 48;refine zc (hdd _ (C.ext HE)) ?_;rintro e w5 ⟨rfl,h4⟩)
    replace HE:=HE.trans h4;replace Ht:=Ht.ext h4;replace Hd:=Hd.ext h4;replace Hf:=Hf.ext h4;replace He:=He.ext h4;replace H3:=H3.ext h4;clear h4 e0 le k0 k1 lk q0 q1 q2 q3 q4 q5 lq hdd;obtain ⟨q0,q1,q2,q3,q4,q5⟩:=H3.c6;have lq:=H3.lt;have NA:=Ts A A' ca cb c l hr X hX fr (f k).on bt bd b2 b1 bf be v _ HE C Z0 Ht Hd (B2.ext HE) (B1.ext HE) Hf He g3 n1 n2 n3 n4.out n5.out n6.out;go_upto_region 12 with (first | (go_at_call 118;(with_reducible refine zc (NA) ?_);rintro e wk ⟨rfl,hO,hf,he,Y,hYin,hd,hY⟩) | (go_at_fn 118;(with_reducible refine zc (NA) ?_);rintro e wk ⟨rfl,hO,hf,he,Y,hYin,hd,hY⟩))
    replace HE:=hO.ext HE gS.out;replace Ht:=hO.held Ht n4.out;replace H3:=hO.held H3 (n17.out);clear hO Hd Hf He NA;have Hd:=hd;have Hf:=hf;have He:=he;clear hd hf he;clear q0 q1 q2 q3 q4 q5 lq hX;generalize Jz c l.r X fr (f k).on = a at *;obtain ⟨aX,ae⟩:=a;simp only [] at He hY hE1 hE2;obtain ⟨q0,q1,q2,q3,q4,q5⟩:=H3.c6;have lq:=H3.lt;go_upto_region 14 with fail
    obtain ⟨v4,hv⟩:=Qe ((wk.alloc (.cells #[.int .i64 (f k).n.n,.int .i64 (f k).n.d] 65)).alloc (.cells #[.pointer (some ⟨bd,2,none⟩),.pointer (some ⟨bd,0,none⟩)] 202));rw [← hv];have E4 : Qc wk v4:=by rw [hv];exact ((Qc.refl _).alloc _).alloc _
    have H8 : Qb v4 wk.heap.size 65 #[.int .i64 (f k).n.n,.int .i64 (f k).n.d]:=by rw [hv];exact (Qb.new _ _ _).alloc _
    have Hs : Qb v4 (wk.heap.size + 1) 202 #[.pointer (some ⟨bd,2,none⟩),.pointer (some ⟨bd,0,none⟩)]:=by rw [hv];exact Qb.at _ _ _ _ (by simp)
    clear hv q0 q1 q2 q3 q4 q5 lq H3 n17;obtain ⟨bs,hbs⟩:=Qe (wk.heap.size + 1);rw [← hbs] at Hs ⊢;obtain ⟨b18,hb18⟩:=Qe (wk.heap.size);rw [← hb18] at H8 ⊢;have hl1:=Ht.lt;have hl2:=Hd.lt;have hl3:=Hf.lt;have hl4:=He.lt;have hl5:=HE.size;have n8 : b18 ≠ be:=Qa;have n8d : b18 ≠ bd:=Qa;have ns : bs ≠ be:=Qa;have nsd : bs ≠ bd:=Qa;have nt8 : bt ≠ b18:=Qa;have nf8 : bf ≠ b18:=Qa;have ns8 : bs ≠ b18:=Qa;have g18 : v.heap.size ≤ b18:=Qa;clear hl1 hl2 hl3 hl4 hl5 hbs hb18;replace HE:=HE.trans E4;replace Ht:=Ht.ext E4;replace Hd:=Hd.ext E4;replace Hf:=Hf.ext E4;replace He:=He.ext E4;clear E4
    go_loopw [59] (fun jv wr => ∃ j : Nat,j ≤ 2 ∧ jv = .int .i64 (j : Int) ∧ ∃ X lf ee,Db.In X ∧ Rt.In lf ∧ Qc v wr ∧ Qb wr bt 200 #[.func (.func 117) #[] #[.pointer (some ⟨be,0,none⟩)]] ∧ Qb wr bd 72 #[.int .i64 X.p.n,.int .i64 X.p.d,.int .i64 X.i.n,.int .i64 X.i.d,.int .i64 X.s.n,.int .i64 X.s.d] ∧ Qb wr bf 51 #[.int .i64 (f k).on.y,.int .i64 (f k).on.m,.bool (f k).on.s,.int .i64 (f k).on.d] ∧ Qb wr be 29 #[.int .i64 ee] ∧ Qb wr b18 65 #[.int .i64 lf.n,.int .i64 lf.d] ∧ Qb wr bs 202 #[.pointer (some ⟨bd,2,none⟩),.pointer (some ⟨bd,0,none⟩)] ∧ Hid (ee = 0 → V = restJ c l.r f on k m j X lf) ∧ Hid (ee ≠ 0 → V = (Yk,ee))) (fun jv _ => 2 - (intOf jv).toNat)
    case atStart => exact ⟨0,by decide,rfl,Y,(f k).n,ae,hYin,hfin,HE,Ht,Hd,Hf,He,H8,Hs,fun h => by rw [hE2.out h,← hY h];rfl,fun h => hE1.out h⟩
    case round =>
     clear HE Ht Hd Hf He H8 Hs hE1 hE2 hY hYin hfin;obtain ⟨j,hj,rfl,X,lf,ee,hX,hlf,HE,Ht,Hd,Hf,He,H8,Hs,h1,h2⟩:=hrel;obtain ⟨wi,rfl⟩:=Qe wr;have e0:=He.c1;have le:=He.lt;by_cases hj2 : j < 2
     ·obtain ⟨s0,s1⟩:=Hs.c2;have ls:=Hs.lt;by_cases h0 : ee = 0
      ·subst h0;have hj3 : j = 0 ∨ j = 1:=Qa;rcases hj3 with rfl | rfl
       ·skip
        have NP:=fun w h z => Ql9 X lf hX.i hlf bd w h z
        have hpin:=Rq (x:=X.i) (n:=lf);have hpV : Hid (V = if (Zo X.i lf).2 ≠ 0 then (Yk,(Zo X.i lf).2) else Rw c l.r f on k m ⟨X.p,(Zo X.i lf).1.1,X.s⟩ (Zo X.i lf).1.2):=h1.out rfl;clear h1 h2;generalize Zo X.i lf = P at *;obtain ⟨⟨⟨Pn,Pd⟩,⟨Ln,Ld⟩⟩,Le⟩:=P;simp only [] at hpin hpV NP;go_upto_region 17 with fail
        clear e0 le s0 s1 ls;refine Zc 8 [7] (fun x => Qb x bt 200 #[.func (.func 117) #[] #[.pointer (some ⟨be,0,none⟩)]] ∧ Qb x b18 65 #[.int .i64 lf.n,.int .i64 lf.d]) mixed rfl ?_;intro vz hvz;replace HE:=HE.trans hvz;replace Ht:=Ht.ext hvz;replace Hd:=Hd.ext hvz;replace Hf:=Hf.ext hvz;replace He:=He.ext hvz;replace H8:=H8.ext hvz;replace Hs:=Hs.ext hvz;clear hvz;refine Qs (g:=5) [0,1,2] ⟨Ht,H8⟩ ?_
        constructor
        refine ⟨fun u hu => ?_,?_⟩
        ·have t0:=hu.1.c1;have lt:=hu.1.lt;obtain ⟨r0,r1⟩:=hu.2.c2;have lr:=hu.2.lt;exact Qk
        refine Qj 3 ?_;go_wp2_with (go_at_call 119;refine zc (NP _ Hd (Z0.ext HE)) ?_;rintro e wp ⟨rfl,hO,hd⟩);replace HE:=hO.ext HE (fun k hk => by rw [List.mem_singleton.1 hk];exact gd);replace Ht:=hO.held Ht (by simp only [List.mem_singleton];exact fun e => n4.out (by rw [e];simp));replace Hf:=hO.held Hf (by simp only [List.mem_singleton];exact Ne.symm n1);replace He:=hO.held He (by simp only [List.mem_singleton];exact Ne.symm n2);replace H8:=hO.held H8 (by simp only [List.mem_singleton];exact n8d);replace Hs:=hO.held Hs (by simp only [List.mem_singleton];exact nsd);clear hO Hd;have Hd:=hd;clear hd;refine Qf ⟨Ht,H8⟩ ?_;refine Qs (g:=2) [4,5] ⟨Ht,H8⟩ ?_
        constructor
        refine ⟨fun u hu => ?_,?_⟩
        ·have t0:=hu.1.c1;have lt:=hu.1.lt;obtain ⟨r0,r1⟩:=hu.2.c2;have lr:=hu.2.lt;exact Qk
        refine Qj 6 ?_;go_wp2_with (first | (go_at_call 117;(with_reducible refine zc (X9 ⟨Ln,Ld⟩ Le 0 be _ He) ?_);rintro e we ⟨rfl,h5,He2⟩) | (go_at_fn 117;(with_reducible refine zc (X9 ⟨Ln,Ld⟩ Le 0 be _ He) ?_);rintro e we ⟨rfl,h5,He2⟩));try rw [if_pos rfl] at He2
        replace HE:=h5.ext HE (fun k hk => by rw [List.mem_singleton.1 hk];exact g3);replace Ht:=h5.held Ht (by simp only [List.mem_singleton];exact fun e => n4.out (by rw [e];simp));replace Hf:=h5.held Hf (by simp only [List.mem_singleton];exact n3);replace H8:=h5.held H8 (by simp only [List.mem_singleton];exact n8);replace Hs:=h5.held Hs (by simp only [List.mem_singleton];exact ns);replace Hd:=h5.held Hd (by simp only [List.mem_singleton];exact n2);have He:=He2;clear h5 He2;refine Qf ⟨Ht,H8⟩ ?_;refine Qr 7 ?_;have z0:=H8.frozen 0;have z1:=H8.frozen 1;obtain ⟨x0,x1⟩:=H8.c2;have lx:=H8.lt;have HE:=(HE.setCell (p:=⟨b18,0,none⟩) g18 (.int .i64 Ln)).setCell (p:=⟨b18,1,none⟩) g18 (.int .i64 Ld)
        have H82:=Qo H8 (.int .i64 Ln) (.int .i64 Ld);have Ht:=Qg (Qg Ht nt8 0 (.int .i64 Ln)) nt8 1 (.int .i64 Ld);have Hd:=Qg (Qg Hd (Ne.symm n8d) 0 (.int .i64 Ln)) (Ne.symm n8d) 1 (.int .i64 Ld);have Hf:=Qg (Qg Hf nf8 0 (.int .i64 Ln)) nf8 1 (.int .i64 Ld);have He:=Qg (Qg He (Ne.symm n8) 0 (.int .i64 Ln)) (Ne.symm n8) 1 (.int .i64 Ld);have Hs:=Qg (Qg Hs ns8 0 (.int .i64 Ln)) ns8 1 (.int .i64 Ld);have H8:=H82;go_wp2;refine Qq ?_;refine Qx ?_;generalize World.setCell _ _ _ = wq at *;clear z0 z1 x0 x1 lx H82;go_wp2;exact ⟨⟨1,by decide,by rfl,⟨X.p,⟨Pn,Pd⟩,X.s⟩,⟨Ln,Ld⟩,Le,⟨hX.p,hpin.1,hX.s⟩,hpin.2,HE,Ht,Hd,Hf,He,H8,Hs,fun h => by rw [hpV.out,if_neg (by simpa using h)];rfl,fun h => by rw [hpV.out,if_pos h]⟩,by simp [intOf]⟩
       ·skip
        have NP:=fun w h z => Qma X lf hX.p hlf bd w h z
        have hpin:=Rq (x:=X.p) (n:=lf);have hpV : Hid (V = if (Zo X.p lf).2 ≠ 0 then (Yk,(Zo X.p lf).2) else Rx c l.r f on k m ⟨(Zo X.p lf).1.1,X.i,X.s⟩ (Zo X.p lf).1.2):=h1.out rfl;clear h1 h2;generalize Zo X.p lf = P at *;obtain ⟨⟨⟨Pn,Pd⟩,⟨Ln,Ld⟩⟩,Le⟩:=P;simp only [] at hpin hpV NP;go_upto_region 17 with fail
        clear e0 le s0 s1 ls;refine Zc 8 [7] (fun x => Qb x bt 200 #[.func (.func 117) #[] #[.pointer (some ⟨be,0,none⟩)]] ∧ Qb x b18 65 #[.int .i64 lf.n,.int .i64 lf.d]) mixed rfl ?_;intro vz hvz;replace HE:=HE.trans hvz;replace Ht:=Ht.ext hvz;replace Hd:=Hd.ext hvz;replace Hf:=Hf.ext hvz;replace He:=He.ext hvz;replace H8:=H8.ext hvz;replace Hs:=Hs.ext hvz;clear hvz;refine Qs (g:=5) [0,1,2] ⟨Ht,H8⟩ ?_
        constructor
        refine ⟨fun u hu => ?_,?_⟩
        ·have t0:=hu.1.c1;have lt:=hu.1.lt;obtain ⟨r0,r1⟩:=hu.2.c2;have lr:=hu.2.lt;exact Qk
        refine Qj 3 ?_;go_wp2_with (go_at_call 119;refine zc (NP _ Hd (Z0.ext HE)) ?_;rintro e wp ⟨rfl,hO,hd⟩);replace HE:=hO.ext HE (fun k hk => by rw [List.mem_singleton.1 hk];exact gd);replace Ht:=hO.held Ht (by simp only [List.mem_singleton];exact fun e => n4.out (by rw [e];simp));replace Hf:=hO.held Hf (by simp only [List.mem_singleton];exact Ne.symm n1);replace He:=hO.held He (by simp only [List.mem_singleton];exact Ne.symm n2);replace H8:=hO.held H8 (by simp only [List.mem_singleton];exact n8d);replace Hs:=hO.held Hs (by simp only [List.mem_singleton];exact nsd);clear hO Hd;have Hd:=hd;clear hd;refine Qf ⟨Ht,H8⟩ ?_;refine Qs (g:=2) [4,5] ⟨Ht,H8⟩ ?_
        constructor
        refine ⟨fun u hu => ?_,?_⟩
        ·have t0:=hu.1.c1;have lt:=hu.1.lt;obtain ⟨r0,r1⟩:=hu.2.c2;have lr:=hu.2.lt;exact Qk
        refine Qj 6 ?_;go_wp2_with (first | (go_at_call 117;(with_reducible refine zc (X9 ⟨Ln,Ld⟩ Le 0 be _ He) ?_);rintro e we ⟨rfl,h5,He2⟩) | (go_at_fn 117;(with_reducible refine zc (X9 ⟨Ln,Ld⟩ Le 0 be _ He) ?_);rintro e we ⟨rfl,h5,He2⟩));try rw [if_pos rfl] at He2
        replace HE:=h5.ext HE (fun k hk => by rw [List.mem_singleton.1 hk];exact g3);replace Ht:=h5.held Ht (by simp only [List.mem_singleton];exact fun e => n4.out (by rw [e];simp));replace Hf:=h5.held Hf (by simp only [List.mem_singleton];exact n3);replace H8:=h5.held H8 (by simp only [List.mem_singleton];exact n8);replace Hs:=h5.held Hs (by simp only [List.mem_singleton];exact ns);replace Hd:=h5.held Hd (by simp only [List.mem_singleton];exact n2);have He:=He2;clear h5 He2;refine Qf ⟨Ht,H8⟩ ?_;refine Qr 7 ?_;have z0:=H8.frozen 0;have z1:=H8.frozen 1;obtain ⟨x0,x1⟩:=H8.c2;have lx:=H8.lt;have HE:=(HE.setCell (p:=⟨b18,0,none⟩) g18 (.int .i64 Ln)).setCell (p:=⟨b18,1,none⟩) g18 (.int .i64 Ld)
        have H82:=Qo H8 (.int .i64 Ln) (.int .i64 Ld);have Ht:=Qg (Qg Ht nt8 0 (.int .i64 Ln)) nt8 1 (.int .i64 Ld);have Hd:=Qg (Qg Hd (Ne.symm n8d) 0 (.int .i64 Ln)) (Ne.symm n8d) 1 (.int .i64 Ld);have Hf:=Qg (Qg Hf nf8 0 (.int .i64 Ln)) nf8 1 (.int .i64 Ld);have He:=Qg (Qg He (Ne.symm n8) 0 (.int .i64 Ln)) (Ne.symm n8) 1 (.int .i64 Ld);have Hs:=Qg (Qg Hs ns8 0 (.int .i64 Ln)) ns8 1 (.int .i64 Ld);have H8:=H82;go_wp2;refine Qq ?_;refine Qx ?_;generalize World.setCell _ _ _ = wq at *;clear z0 z1 x0 x1 lx H82;go_wp2;exact ⟨⟨2,by decide,by rfl,⟨⟨Pn,Pd⟩,X.i,X.s⟩,⟨Ln,Ld⟩,Le,⟨hpin.1,hX.i,hX.s⟩,hpin.2,HE,Ht,Hd,Hf,He,H8,Hs,fun h => by rw [hpV.out,if_neg (by simpa using h)];rfl,fun h => by rw [hpV.out,if_pos h]⟩,by simp [intOf]⟩
      ·have g0 : (ee == 0) = false:=zb h0;have hj3 : j = 0 ∨ j = 1:=Qa;rcases hj3 with rfl | rfl
       ·go_wp2;exact ⟨⟨1,by decide,rfl,X,lf,ee,hX,hlf,HE,Ht,Hd,Hf,He,H8,Hs,fun h => absurd h h0,h2⟩,by simp [intOf]⟩
       ·go_wp2;exact ⟨⟨2,by decide,rfl,X,lf,ee,hX,hlf,HE,Ht,Hd,Hf,He,H8,Hs,fun h => absurd h h0,h2⟩,by simp [intOf]⟩
     ·obtain rfl : j = 2:=Qa;by_cases h0 : ee = 0
      ·subst h0;have NA:=fun w z => Nz X.s lf hX.s hlf w z
       have hSin:=K8 X.s lf;have hpV : Hid (V = if (Zs X.s lf).2 ≠ 0 then (Yk,(Zs X.s lf).2) else Yv c l.r f on (k + 1) m ⟨X.p,X.i,(Zs X.s lf).1⟩ (f k).on):=h1.out rfl;clear h1 h2;generalize Zs X.s lf = S at *;obtain ⟨⟨Sn,Sd⟩,Se⟩:=S;simp only [] at hSin hpV NA;go_upto_region 20 with fail
       clear e0 le;refine Zc 10 [9] (fun x => Qb x bt 200 #[.func (.func 117) #[] #[.pointer (some ⟨be,0,none⟩)]] ∧ Qb x bd 72 #[.int .i64 X.p.n,.int .i64 X.p.d,.int .i64 X.i.n,.int .i64 X.i.d,.int .i64 X.s.n,.int .i64 X.s.d] ∧ Qb x b18 65 #[.int .i64 lf.n,.int .i64 lf.d]) mixed rfl ?_;intro vz hvz;replace HE:=HE.trans hvz;replace Ht:=Ht.ext hvz;replace Hd:=Hd.ext hvz;replace Hf:=Hf.ext hvz;replace He:=He.ext hvz;replace H8:=H8.ext hvz;clear hvz;refine Qs (g:=6) [0,1,2,3] ⟨Ht,Hd,H8⟩ ?_
       constructor
       refine ⟨fun u hu => ?_,?_⟩
       ·have t0:=hu.1.c1;have lt:=hu.1.lt;obtain ⟨d0,d1,d2,d3,d4,d5⟩:=hu.2.1.c6;have ld:=hu.2.1.lt;obtain ⟨r0,r1⟩:=hu.2.2.c2;have lr:=hu.2.2.lt;exact Qk
       refine Qj 4 ?_;go_wp2_with (go_at_call 86;refine zc (NA _ (Z0.ext HE)) ?_;rintro e wc ⟨rfl,h4⟩);replace HE:=HE.trans h4;replace Ht:=Ht.ext h4;replace Hd:=Hd.ext h4;replace Hf:=Hf.ext h4;replace He:=He.ext h4;replace H8:=H8.ext h4;clear h4;refine Qf ⟨Ht,Hd,H8⟩ ?_;refine Qs (g:=3) [5,6] ⟨Ht,Hd,H8⟩ ?_
       constructor
       refine ⟨fun u hu => ?_,?_⟩
       ·have t0:=hu.1.c1;have lt:=hu.1.lt;obtain ⟨d0,d1,d2,d3,d4,d5⟩:=hu.2.1.c6;have ld:=hu.2.1.lt;obtain ⟨r0,r1⟩:=hu.2.2.c2;have lr:=hu.2.2.lt;exact Qk
       refine Qj 7 ?_;go_wp2_with (first | (go_at_call 117;(with_reducible refine zc (X9 ⟨Sn,Sd⟩ Se 0 be _ He) ?_);rintro e we ⟨rfl,h5,He2⟩) | (go_at_fn 117;(with_reducible refine zc (X9 ⟨Sn,Sd⟩ Se 0 be _ He) ?_);rintro e we ⟨rfl,h5,He2⟩));try rw [if_pos rfl] at He2
       replace HE:=h5.ext HE (fun k hk => by rw [List.mem_singleton.1 hk];exact g3);replace Ht:=h5.held Ht (by simp only [List.mem_singleton];exact fun e => n4.out (by rw [e];simp));replace Hf:=h5.held Hf (by simp only [List.mem_singleton];exact n3);replace H8:=h5.held H8 (by simp only [List.mem_singleton];exact n8);replace Hd:=h5.held Hd (by simp only [List.mem_singleton];exact n2);have He:=He2;clear h5 He2;refine Qf ⟨Ht,Hd,H8⟩ ?_;refine Qs (g:=1) [8] ⟨Ht,Hd,H8⟩ ?_
       constructor
       refine ⟨fun u hu => ?_,?_⟩
       ·have t0:=hu.1.c1;have lt:=hu.1.lt;obtain ⟨d0,d1,d2,d3,d4,d5⟩:=hu.2.1.c6;have ld:=hu.2.1.lt;obtain ⟨r0,r1⟩:=hu.2.2.c2;have lr:=hu.2.2.lt;exact Qk
       refine Qr 9 ?_;have z4:=Hd.frozen 4;have z5:=Hd.frozen 5;obtain ⟨x0,x1,x2,x3,x4,x5⟩:=Hd.c6;have lx:=Hd.lt;have HE:=(HE.setCell (p:=⟨bd,4,none⟩) gd (.int .i64 Sn)).setCell (p:=⟨bd,5,none⟩) gd (.int .i64 Sd);have Hd2:=Qix Hd (.int .i64 Sn) (.int .i64 Sd);have Ht:=Qg (Qg Ht ntd 4 (.int .i64 Sn)) ntd 5 (.int .i64 Sd);have Hf:=Qg (Qg Hf (Ne.symm n1) 4 (.int .i64 Sn)) (Ne.symm n1) 5 (.int .i64 Sd);have He:=Qg (Qg He (Ne.symm n2) 4 (.int .i64 Sn)) (Ne.symm n2) 5 (.int .i64 Sd);have Hd:=Hd2;go_wp2;refine Qq ?_;refine Qx ?_;generalize World.setCell _ _ _ = wq at *;clear z4 z5 x0 x1 x2 x3 x4 x5 lx Hd2;go_wp2;exact ⟨⟨k + 1,Qa,by go_num,⟨X.p,X.i,⟨Sn,Sd⟩⟩,(f k).on,Se,⟨hX.p,hX.i,hSin⟩,HE,Ht,Hd,Hf,He,fun h => by rw [hpV.out,if_neg (by simpa using h),hm2],fun h => by rw [hpV.out,if_pos h]⟩,zi⟩
      ·have g0 : (ee == 0) = false:=zb h0;go_wp2;exact ⟨⟨k + 1,Qa,by go_num,X,(f k).on,ee,hX,HE,Ht,Hd,Hf,He,fun h => absurd h h0,h2⟩,zi⟩
  ·obtain rfl : k = n:=Qa;by_cases h0 : ee = 0
   ·subst h0
    have hVA : Hid (V = V4 (Jz c l.r X fr on)):=by
     have:=h1.out rfl;rw [Nat.sub_self] at this;exact this
    clear h1 h2;have e0:=He.c1;have le:=He.lt;have B3e:=B3.ext HE;obtain ⟨o0,o1,o2,o3⟩:=B3e.c4;have lo:=B3e.lt;have NA:=Ts A A' ca cb c l hr X hX fr on bt bd b2 b1 bf be v _ HE C Z0 Ht Hd (B2.ext HE) (B1.ext HE) Hf He g3 n1 n2 n3 n4.out n5.out n6.out;go_upto_region 24 with (first | (go_at_call 118;(with_reducible refine zc (NA) ?_);rintro e wk ⟨rfl,hO,hf,he,Y,hYin,hd,hY⟩) | (go_at_fn 118;(with_reducible refine zc (NA) ?_);rintro e wk ⟨rfl,hO,hf,he,Y,hYin,hd,hY⟩))
    replace HE:=hO.ext HE gS.out;replace Ht:=hO.held Ht n4.out;clear hO Hd Hf He NA;have Hd:=hd;have Hf:=hf;have He:=he;clear hd hf he;clear e0 le o0 o1 o2 o3 lo B3e;generalize Jz c l.r X fr on = a at *;obtain ⟨aX,ae⟩:=a;simp only [] at He hY hVA;by_cases h0 : ae = 0
    ·subst h0;have hy := hY rfl;subst hy;have hV : Hid (V = (Y, 0)) := by unfold Hid; rw [hVA.out]; exact Qcc rfl
     clear hVA hY;have e0:=He.c1;have le:=He.lt;have R4:=B4.ext HE;obtain ⟨d0,d1,d2,d3,d4,d5⟩:=Hd.c6;have ld:=Hd.lt;have z0:=R4.frozen 0;have z1:=R4.frozen 1;have z2:=R4.frozen 2;have z3:=R4.frozen 3;have z4:=R4.frozen 4;have z5:=R4.frozen 5;obtain ⟨x0,x1,x2,x3,x4,x5⟩:=R4.c6;have lx:=R4.lt;have R6:=Xt R4 (.int .i64 Y.p.n) (.int .i64 Y.p.d) (.int .i64 Y.i.n) (.int .i64 Y.i.d) (.int .i64 Y.s.n) (.int .i64 Y.s.d);have EF:=Xs (E.trans HE) hbr (.int .i64 Y.p.n) (.int .i64 Y.p.d) (.int .i64 Y.i.n) (.int .i64 Y.i.d) (.int .i64 Y.s.n) (.int .i64 Y.s.d);obtain ⟨y0,y1,y2,y3,y4,y5⟩:=R6.c6;go_wp2;refine bodyPost_ret (v:=.tuple #[.agg #[.int .i64 Y.p.n,.int .i64 Y.p.d,.int .i64 Y.i.n,.int .i64 Y.i.d,.int .i64 Y.s.n,.int .i64 Y.s.d],.int .i64 0]) U8 rfl ⟨by rw [hV.out],EF⟩
    ·have g0 : (ae == 0) = false := zb h0;have hV : Hid (V = (Yk, ae)) := by unfold Hid; rw [hVA.out]; exact Nb h0
     clear hVA hY h0;have g0n : (ae != 0) = true:=by rw [bne,g0];rfl
     have e0:=He.c1;have le:=He.lt;go_upto_region 25 with fail
     clear e0 le;apply Ti (S:=fun w' => Qc w w' ∧ Qb w' b4 72 #[.int .i64 0,.int .i64 0,.int .i64 0,.int .i64 0,.int .i64 0,.int .i64 0])
     ·refine Zc 4 [3] (fun x => W9 x be 29 #[.int .i64 ae]) mixed rfl ?_;intro vz hvz;replace He:=He.ext hvz;replace HE:=HE.trans hvz;clear hvz;refine Qs (g:=2) [0,1] (W9.mk He) ?_
      constructor
      refine ⟨fun u hu => ?_,?_⟩
      ·have e0:=hu.out.c1;have le:=hu.out.lt;exact Qk
      refine Qj 2 ?_;have R4:=B4.ext HE;have z0:=R4.frozen 0;have z1:=R4.frozen 1;have z2:=R4.frozen 2;have z3:=R4.frozen 3;have z4:=R4.frozen 4;have z5:=R4.frozen 5;obtain ⟨x0,x1,x2,x3,x4,x5⟩:=R4.c6;have lx:=R4.lt;go_wp2;have R6:=Xt R4 (.int .i64 0) (.int .i64 0) (.int .i64 0) (.int .i64 0) (.int .i64 0) (.int .i64 0);have EF:=Xs (E.trans HE) hbr (.int .i64 0) (.int .i64 0) (.int .i64 0) (.int .i64 0) (.int .i64 0) (.int .i64 0);replace He:=Rm He hbe4 (.int .i64 0) (.int .i64 0) (.int .i64 0) (.int .i64 0) (.int .i64 0) (.int .i64 0);clear z0 z1 z2 z3 z4 z5 x0 x1 x2 x3 x4 x5 lx R4;generalize World.setCell _ _ _ = wq at *;refine Qf (W9.mk He) ?_
      refine Qr 3 ?_;go_wp2;refine Qq ?_;refine Qx ?_;exact ⟨rfl,⟨EF,R6⟩,rfl⟩
     rintro w9 ⟨EF,R6⟩;obtain ⟨y0,y1,y2,y3,y4,y5⟩:=R6.c6;go_wp2;refine bodyPost_ret (v:=.tuple #[.agg #[.int .i64 0,.int .i64 0,.int .i64 0,.int .i64 0,.int .i64 0,.int .i64 0],.int .i64 ae]) U8 rfl ⟨by rw [hV.out];rfl,EF⟩
   ·have g0 : (ee == 0) = false := zb h0;have hV := zh (h2.out h0);clear h1 h2 h0;have g0n : (ee != 0) = true := by rw [bne, g0]; rfl
    have e0:=He.c1;have le:=He.lt;go_upto_region 25 with fail
    clear e0 le;apply Ti (S:=fun w' => Qc w w' ∧ Qb w' b4 72 #[.int .i64 0,.int .i64 0,.int .i64 0,.int .i64 0,.int .i64 0,.int .i64 0])
    ·refine Zc 4 [3] (fun x => W9 x be 29 #[.int .i64 ee]) mixed rfl ?_;intro vz hvz;replace He:=He.ext hvz;replace HE:=HE.trans hvz;clear hvz;refine Qs (g:=2) [0,1] (W9.mk He) ?_
     constructor
     refine ⟨fun u hu => ?_,?_⟩
     ·have e0:=hu.out.c1;have le:=hu.out.lt;exact Qk
     refine Qj 2 ?_;have R4:=B4.ext HE;have z0:=R4.frozen 0;have z1:=R4.frozen 1;have z2:=R4.frozen 2;have z3:=R4.frozen 3;have z4:=R4.frozen 4;have z5:=R4.frozen 5;obtain ⟨x0,x1,x2,x3,x4,x5⟩:=R4.c6;have lx:=R4.lt;go_wp2;have R6:=Xt R4 (.int .i64 0) (.int .i64 0) (.int .i64 0) (.int .i64 0) (.int .i64 0) (.int .i64 0);have EF:=Xs (E.trans HE) hbr (.int .i64 0) (.int .i64 0) (.int .i64 0) (.int .i64 0) (.int .i64 0) (.int .i64 0);replace He:=Rm He hbe4 (.int .i64 0) (.int .i64 0) (.int .i64 0) (.int .i64 0) (.int .i64 0) (.int .i64 0);clear z0 z1 z2 z3 z4 z5 x0 x1 x2 x3 x4 x5 lx R4;generalize World.setCell _ _ _ = wq at *;refine Qf (W9.mk He) ?_
     refine Qr 3 ?_;go_wp2;refine Qq ?_;refine Qx ?_;exact ⟨rfl,⟨EF,R6⟩,rfl⟩
    rintro w9 ⟨EF,R6⟩;obtain ⟨y0,y1,y2,y3,y4,y5⟩:=R6.c6;go_wp2;refine bodyPost_ret (v:=.tuple #[.agg #[.int .i64 0,.int .i64 0,.int .i64 0,.int .i64 0,.int .i64 0,.int .i64 0],.int .i64 ee]) U8 rfl ⟨by rw [hV.out];rfl,EF⟩
theorem Ny {c : Qd} {r : Rt} {x : Db} {a b : Dt} (h : x.In) : (Jz c r x a b).1.In:=by
 unfold Jz
 split
 ·exact h
 ·split
  ·exact h
  ·exact ⟨h.p,K8 _ _,h.s⟩
theorem Qcv {x : Db} {n : Rt} (h : x.In) : (Nc x n).1.In:=by
 unfold Nc
 split
 ·exact h
 ·split
  ·exact h
  ·split
   ·exact h
   ·exact ⟨Rq.1,Rq.1,K8 _ _⟩
theorem Qcp (c : Qd) (r : Rt) (f : Nat → Yi) (on : Dt) : ∀ m k x a,Db.In x → (U3 c r f on k m x a).1.In
 | 0,_,_,_,h => Ny h
 | m + 1,k,x,a,h => by
  rw [U3]
  split
  ·exact Ny h
  ·split
   ·exact Ny h
   ·split
    ·exact Qcv (Ny h)
    ·exact Qcp c r f on m (k + 1) _ _ (Qcv (Ny h))
theorem Ql0 (c : Qd) (l : Ln) (f : Nat → Yi) (n : Nat) (on : Dt) (hp : l.p.In) : (c.owedV l f n on).1.p.In ∧ (c.owedV l f n on).1.i.In:=by
 have h0 : Yk.In:=⟨Xw,Xw,Xw⟩;have h1 : (start l).In:=⟨hp,Vk,Vk⟩
 have H : (c.owedV l f n on).1.In:=by
  unfold Qd.owedV
  split
  ·exact h0
  ·split
   ·exact h0
   ·split
    ·exact h0
    ·split
     ·exact h0
     ·exact Qcp c l.r f on n 0 _ _ h1
 exact ⟨H.p,H.i⟩
theorem Qco (A A' : OA) (ca cb : Nat) (c : Qd) (B : OA) (n cap : Nat) (l : Ln) (f : Nat → Yi) (hp : l.p.In) (hr : l.r.In) (hin : ∀ i,i < n → (f i).n.In) (w : World) (hC : Za w A ca A' cb c) (hB : Qm w B n 6 (Yz f)) (hn : n ≤ 9223372036854775807) (hZ : Jc w) (on : Dt) :
  Calls Tryz.prog 23 #[.agg #[.slice A c.nk ca,.slice A' c.ny cb],.agg #[.int .i64 l.p.n,.int .i64 l.p.d,.int .i64 l.r.n,.int .i64 l.r.d,.int .i64 l.f.y,.int .i64 l.f.m,.bool l.f.s,.int .i64 l.f.d],.slice B n cap,.agg #[.int .i64 on.y,.int .i64 on.m,.bool on.s,.int .i64 on.d]] w fun e w' => e = .returned (.tuple #[.agg #[.int .i64 (c.owedV l f n on).1.p.n,.int .i64 (c.owedV l f n on).1.p.d,.int .i64 (c.owedV l f n on).1.i.n,.int .i64 (c.owedV l f n on).1.i.d,.int .i64 (c.owedV l f n on).1.s.n,.int .i64 (c.owedV l f n on).1.s.d],.int .i64 (c.owedV l f n on).2]) ∧ Qc w w':=by
 have NO:=fun w h => Hm A A' ca cb c w h
 have NC:=fun hv w h1 h2 => Qgk A A' ca cb c B n cap l f hp hr hin w h1 h2 hn hv
 have NW:=fun w h1 h2 z => Ql2 A A' ca cb c B n cap l f hp hr hin w h1 h2 hn z on
 have ND:=fun d w h => Xr A A' ca cb c d w h
 obtain ⟨R,hR0⟩:=Qe (c.owedV l f n on);rw [← hR0];have HR:=zh hR0;clear hR0
 go_enter Tryz.func23,Tryz.ntmps23
 go_upto_region 1 with fail
 obtain ⟨v,b1,b2,b3,b4,E,B1,B2,B3,B4,hbr1,hbr2,hbr3,hbr,hn21,hn31,hn32,hn41,hn42,hn43,hv,hb1,hb2,hb3,hb4⟩:=Gi w 25 #[.slice A c.nk ca,.slice A' c.ny cb] 67 #[.int .i64 l.p.n,.int .i64 l.p.d,.int .i64 l.r.n,.int .i64 l.r.d,.int .i64 l.f.y,.int .i64 l.f.m,.bool l.f.s,.int .i64 l.f.d] 51 #[.int .i64 on.y,.int .i64 on.m,.bool on.s,.int .i64 on.d] 72 #[.int .i64 0,.int .i64 0,.int .i64 0,.int .i64 0,.int .i64 0,.int .i64 0];rw [← hv,← hb4,← hb3,← hb2,← hb1];clear hv hb1 hb2 hb3 hb4;have RB:=hB.ext E;have Z0:=hZ.ext E;have C:=hC.ext E;clear hB hZ;obtain ⟨k0,k1,lk⟩:=Qb.d2 B1;cases hv : c.valid
 ·have hr9 : R = (Yk, 70) := by rw [HR.out]; unfold Qd.owedV Qd.loanE; rw [hv]; rfl
  have hc : c.chk = 70:=by unfold Qd.chk;rw [hv];rfl
  simp only [hc] at NO;subst hr9;clear HR hc hv NC NW ND;go_upto_region 2 with (go_at_call 64;refine zc (NO _ (hC.ext E)) ?_;rintro e w1 ⟨rfl,h1⟩)
  obtain ⟨v3,hv⟩:=Qe (w1.alloc (.cells #[.slice A c.nk ca,.slice A' c.ny cb] 130));rw [← hv];have h3 : Qc w1 v3:=by rw [hv];exact (Qc.refl _).alloc _
  have H3 : Qb v3 w1.heap.size 130 #[.slice A c.nk ca,.slice A' c.ny cb]:=by rw [hv];exact Qb.new _ _ _
  clear hv;generalize w1.heap.size = b9 at *;replace E:=(E.trans h1).trans h3;replace B4:=(B4.ext h1).ext h3;obtain ⟨z0,z1,z2,z3,z4,z5,x0,x1,x2,x3,x4,x5,lx⟩:=Qb.e6 B4;have H9:=Xt B4 (.int .i64 0) (.int .i64 0) (.int .i64 0) (.int .i64 0) (.int .i64 0) (.int .i64 0);have EF:=Xs E hbr (.int .i64 0) (.int .i64 0) (.int .i64 0) (.int .i64 0) (.int .i64 0) (.int .i64 0);obtain ⟨y0,y1,y2,y3,y4,y5⟩:=H9.c6;go_wp2;refine bodyPost_ret (v:=.tuple #[.agg #[.int .i64 0,.int .i64 0,.int .i64 0,.int .i64 0,.int .i64 0,.int .i64 0],.int .i64 70]) U8 rfl ⟨rfl,EF⟩
 ·have hc : c.chk = 0 := by unfold Qd.chk; rw [hv]; rfl
  simp only [hc] at NO;replace NC:=NC hv;clear hv hc;go_upto_region 4 with (go_at_call 64;refine zc (NO _ (hC.ext E)) ?_;rintro e w1 ⟨rfl,h1⟩)
  obtain ⟨v3,hv⟩:=Qe (w1.alloc (.cells #[.slice A c.nk ca,.slice A' c.ny cb] 130));rw [← hv];have h3 : Qc w1 v3:=by rw [hv];exact (Qc.refl _).alloc _
  have H3 : Qb v3 w1.heap.size 130 #[.slice A c.nk ca,.slice A' c.ny cb]:=by rw [hv];exact Qb.new _ _ _
  clear hv;generalize w1.heap.size = b9 at *;replace E:=(E.trans h1).trans h3;replace B2:=(B2.ext h1).ext h3;replace B3:=(B3.ext h1).ext h3;replace B4:=(B4.ext h1).ext h3;replace RB:=(RB.ext h1).ext h3;replace Z0:=(Z0.ext h1).ext h3;replace C:=(C.ext h1).ext h3;clear h1 h3 k0 k1 lk B1 NO;obtain ⟨k0,k1,lk⟩:=Qb.d2 H3;obtain ⟨p0,p1,p2,p3,p4,p5,p6,p7,lp⟩:=Qb.d8 B2;have HE:=zh (show c.loanE l f n = c.loanE l f n from rfl);obtain ⟨q,hq⟩:=Qe (c.loanE l f n);simp only [← hq] at NC;replace hq:=zh hq;clear HE;go_upto_region 5 with (go_at_call 65;refine zc (NC _ C RB) ?_;rintro e w2 ⟨rfl,h1⟩)
  replace E:=E.trans h1;replace B2:=B2.ext h1;replace B3:=B3.ext h1;replace B4:=B4.ext h1;replace H3:=H3.ext h1;replace RB:=RB.ext h1;replace Z0:=Z0.ext h1;replace C:=C.ext h1;clear h1 k0 k1 lk p0 p1 p2 p3 p4 p5 p6 p7 lp NC;by_cases e0 : q = 0;rotate_left
  ·have g0 : (q == 0) = false := zb e0;have g0n : (q != 0) = true := by rw [bne, g0]; rfl
   have hr9 : R = (Yk,q):=by rw [HR.out,hq.out];unfold Qd.owedV;rw [if_pos (by rw [← hq.out];exact e0)]
   subst hr9;clear HR e0 hq NW ND;obtain ⟨z0,z1,z2,z3,z4,z5,x0,x1,x2,x3,x4,x5,lx⟩:=Qb.e6 B4;have H9:=Xt B4 (.int .i64 0) (.int .i64 0) (.int .i64 0) (.int .i64 0) (.int .i64 0) (.int .i64 0);have EF:=Xs E hbr (.int .i64 0) (.int .i64 0) (.int .i64 0) (.int .i64 0) (.int .i64 0) (.int .i64 0);obtain ⟨y0,y1,y2,y3,y4,y5⟩:=H9.c6;go_wp2;refine bodyPost_ret (v:=.tuple #[.agg #[.int .i64 0,.int .i64 0,.int .i64 0,.int .i64 0,.int .i64 0,.int .i64 0],.int .i64 q]) U8 rfl ⟨rfl,EF⟩
  subst e0;obtain ⟨k0,k1,lk⟩:=Qb.d2 H3;obtain ⟨p0,p1,p2,p3,p4,p5,p6,p7,lp⟩:=Qb.d8 B2;obtain ⟨o0,o1,o2,o3,lo⟩:=Qb.d4 B3
  have HR2 : Hid (R = if c.numV on = 0 then (Yk,71) else if c.numV on < c.numV l.f then (Yk,8) else Yv c l.r f on 0 n (start l) l.f):=by
   unfold Hid;by_cases d0 : c.numV on = 0
   ·rw [HR.out,if_pos d0];unfold Qd.owedV;rw [← hq.out,if_neg (by simp),if_pos d0]
   ·by_cases d1 : c.numV on < c.numV l.f
    ·rw [HR.out,if_neg d0,if_pos d1];unfold Qd.owedV;rw [← hq.out,if_neg (by simp),if_neg d0,if_pos d1]
    ·rw [HR.out,if_neg d0,if_neg d1];exact Ql1 hq.out.symm d0 d1
  clear HR hq;generalize Yv c l.r f on 0 n (start l) l.f = Q at *;have ND1:=fun w h => ND on w h
  have ND2:=fun w h => ND l.f w h
  clear ND;generalize c.numV on = N at *;generalize c.numV l.f = M at *;go_upto_region 8 with (go_at_call 48;refine zc (ND1 _ C) ?_;rintro e w3 ⟨rfl,hd⟩)
  replace E:=E.trans hd;replace B2:=B2.ext hd;replace B3:=B3.ext hd;replace B4:=B4.ext hd;replace H3:=H3.ext hd;replace RB:=RB.ext hd;replace Z0:=Z0.ext hd;replace C:=C.ext hd;clear hd k0 k1 lk p0 p1 p2 p3 p4 p5 p6 p7 lp o0 o1 o2 o3 lo ND1;by_cases d0 : N = 0
  ·subst d0;have hr9:=HR2.out;rw [if_pos rfl] at hr9;subst hr9;clear HR2 NW ND2;obtain ⟨z0,z1,z2,z3,z4,z5,x0,x1,x2,x3,x4,x5,lx⟩:=Qb.e6 B4;have H9:=Xt B4 (.int .i64 0) (.int .i64 0) (.int .i64 0) (.int .i64 0) (.int .i64 0) (.int .i64 0);have EF:=Xs E hbr (.int .i64 0) (.int .i64 0) (.int .i64 0) (.int .i64 0) (.int .i64 0) (.int .i64 0);obtain ⟨y0,y1,y2,y3,y4,y5⟩:=H9.c6;go_wp2;refine bodyPost_ret (v:=.tuple #[.agg #[.int .i64 0,.int .i64 0,.int .i64 0,.int .i64 0,.int .i64 0,.int .i64 0],.int .i64 71]) U8 rfl ⟨rfl,EF⟩
  have d0b : (N == 0) = false:=zb d0;have HR3 : Hid (R = if N < M then (Yk,8) else Q):=by unfold Hid;rw [HR2.out,if_neg d0]
  clear HR2 d0;obtain ⟨k0,k1,lk⟩:=Qb.d2 H3;obtain ⟨p0,p1,p2,p3,p4,p5,p6,p7,lp⟩:=Qb.d8 B2;obtain ⟨o0,o1,o2,o3,lo⟩:=Qb.d4 B3;have DAYARM:=ND2 _ C;by_cases d1 : N < M
  ·have d1b : decide (N < M) = true:=zt d1;have hr9:=HR3.out;rw [if_pos d1] at hr9;subst hr9;clear HR3 NW d1;go_upto_region 11 with (go_at_call 48;refine zc (ND2 _ C) ?_;rintro e w4 ⟨rfl,hd⟩)
   replace E:=E.trans hd;replace B4:=B4.ext hd;obtain ⟨z0,z1,z2,z3,z4,z5,x0,x1,x2,x3,x4,x5,lx⟩:=Qb.e6 B4;have H9:=Xt B4 (.int .i64 0) (.int .i64 0) (.int .i64 0) (.int .i64 0) (.int .i64 0) (.int .i64 0);have EF:=Xs E hbr (.int .i64 0) (.int .i64 0) (.int .i64 0) (.int .i64 0) (.int .i64 0) (.int .i64 0);obtain ⟨y0,y1,y2,y3,y4,y5⟩:=H9.c6;go_wp2;refine bodyPost_ret (v:=.tuple #[.agg #[.int .i64 0,.int .i64 0,.int .i64 0,.int .i64 0,.int .i64 0,.int .i64 0],.int .i64 8]) U8 rfl ⟨rfl,EF⟩
  ·have d1b : decide (N < M) = false:=zf d1;have hr9:=HR3.out;rw [if_neg d1] at hr9;subst hr9;clear HR3 d1;go_upto_region 12 with (go_at_call 48;refine zc (ND2 _ C) ?_;rintro e w4 ⟨rfl,hd⟩)
   replace E:=E.trans hd;replace B2:=B2.ext hd;replace B3:=B3.ext hd;replace B4:=B4.ext hd;replace H3:=H3.ext hd;replace RB:=RB.ext hd;replace Z0:=Z0.ext hd;replace C:=C.ext hd;clear hd k0 k1 lk p0 p1 p2 p3 p4 p5 p6 p7 lp o0 o1 o2 o3 lo ND2 DAYARM;obtain ⟨k0,k1,lk⟩:=Qb.d2 H3;obtain ⟨p0,p1,p2,p3,p4,p5,p6,p7,lp⟩:=Qb.d8 B2;obtain ⟨o0,o1,o2,o3,lo⟩:=Qb.d4 B3;obtain ⟨⟨⟨Pn,Pd⟩,⟨In_,Id⟩,⟨Sn,Sd⟩⟩,Re⟩:=R;go_wp2_with (go_at_call 66;refine zc (NW _ C RB Z0) ?_;rintro e w5 ⟨rfl,h1⟩;replace E:=E.trans h1;replace B4:=B4.ext h1;have z0:=B4.frozen 0;have z1:=B4.frozen 1;have z2:=B4.frozen 2;have z3:=B4.frozen 3;have z4:=B4.frozen 4;have z5:=B4.frozen 5;obtain ⟨x0,x1,x2,x3,x4,x5⟩:=B4.c6;have lx:=B4.lt)
   have H9:=Xt B4 (.int .i64 Pn) (.int .i64 Pd) (.int .i64 In_) (.int .i64 Id) (.int .i64 Sn) (.int .i64 Sd);have EF:=Xs E hbr (.int .i64 Pn) (.int .i64 Pd) (.int .i64 In_) (.int .i64 Id) (.int .i64 Sn) (.int .i64 Sd);obtain ⟨y0,y1,y2,y3,y4,y5⟩:=H9.c6;go_wp2;refine bodyPost_ret (v:=.tuple #[.agg #[.int .i64 Pn,.int .i64 Pd,.int .i64 In_,.int .i64 Id,.int .i64 Sn,.int .i64 Sd],.int .i64 Re]) U8 rfl ⟨rfl,EF⟩
theorem Qni (A A' : OA) (ca cb : Nat) (c : Qd) (B : OA) (n cap : Nat) (l : Ln) (f : Nat → Yi) (hp : l.p.In) (hr : l.r.In) (hin : ∀ i,i < n → (f i).n.In) (w : World) (hC : Za w A ca A' cb c) (hB : Qm w B n 6 (Yz f)) (hn : n ≤ 9223372036854775807) (hZ : Jc w) (on : Dt) :
  Calls Tryz.prog 39 #[.agg #[.slice A c.nk ca,.slice A' c.ny cb],.agg #[.int .i64 l.p.n,.int .i64 l.p.d,.int .i64 l.r.n,.int .i64 l.r.d,.int .i64 l.f.y,.int .i64 l.f.m,.bool l.f.s,.int .i64 l.f.d],.slice B n cap,.agg #[.int .i64 on.y,.int .i64 on.m,.bool on.s,.int .i64 on.d]] w fun e w' => e = .returned (.tuple #[.agg #[.int .i64 (c.settleV l f n on).1.n,.int .i64 (c.settleV l f n on).1.d],.int .i64 (c.settleV l f n on).2]) ∧ Qc w w':=by
 have NO:=fun w h1 h2 z => Qco A A' ca cb c B n cap l f hp hr hin w h1 h2 hn z on
 have hoi:=Ql0 c l f n on hp;obtain ⟨R,hR0⟩:=Qe (c.settleV l f n on);rw [← hR0];have HR:=zh hR0;clear hR0
 go_enter Tryz.func39,Tryz.ntmps39
 go_upto_region 1 with fail
 obtain ⟨v,b1,b2,b3,b4,E,B1,B2,B3,B4,hbr1,hbr2,hbr3,hbr,hn21,hn31,hn32,hn41,hn42,hn43,hv,hb1,hb2,hb3,hb4⟩:=Gi w 25 #[.slice A c.nk ca,.slice A' c.ny cb] 67 #[.int .i64 l.p.n,.int .i64 l.p.d,.int .i64 l.r.n,.int .i64 l.r.d,.int .i64 l.f.y,.int .i64 l.f.m,.bool l.f.s,.int .i64 l.f.d] 51 #[.int .i64 on.y,.int .i64 on.m,.bool on.s,.int .i64 on.d] 65 #[.int .i64 0,.int .i64 0];rw [← hv,← hb4,← hb3,← hb2,← hb1];clear hv hb1 hb2 hb3 hb4;have RB:=hB.ext E;have Z0:=hZ.ext E;have C:=hC.ext E;clear hB hZ hC;obtain ⟨k0,k1,lk⟩:=Qb.d2 B1;obtain ⟨p0,p1,p2,p3,p4,p5,p6,p7,lp⟩:=Qb.d8 B2;obtain ⟨o0,o1,o2,o3,lo⟩:=Qb.d4 B3;have HR2 : Hid (R = if (c.owedV l f n on).2 ≠ 0 then (Zr,(c.owedV l f n on).2) else Zs (c.owedV l f n on).1.p (c.owedV l f n on).1.i):=HR
 clear HR;generalize c.owedV l f n on = Q at *;obtain ⟨⟨⟨Pn,Pd⟩,⟨In_,Id⟩,⟨Sn,Sd⟩⟩,Re⟩:=Q;obtain ⟨hi1,hi2⟩:=hoi;simp only [] at HR2 NO hi1 hi2;go_upto_region 2 with (go_at_call 23;refine zc (NO _ C RB Z0) ?_;rintro e w1 ⟨rfl,h1⟩)
 obtain ⟨v3,hv⟩:=Qe (w1.alloc (.cells #[.int .i64 Pn,.int .i64 Pd,.int .i64 In_,.int .i64 Id,.int .i64 Sn,.int .i64 Sd] 72));rw [← hv];have h3 : Qc w1 v3:=by rw [hv];exact (Qc.refl _).alloc _
 have H3 : Qb v3 w1.heap.size 72 #[.int .i64 Pn,.int .i64 Pd,.int .i64 In_,.int .i64 Id,.int .i64 Sn,.int .i64 Sd]:=by rw [hv];exact Qb.new _ _ _
 clear hv;generalize w1.heap.size = b9 at *;replace E:=(E.trans h1).trans h3;replace B4:=(B4.ext h1).ext h3;replace Z0:=(Z0.ext h1).ext h3;clear h1 h3 k0 k1 lk B1 NO p0 p1 p2 p3 p4 p5 p6 p7 lp o0 o1 o2 o3 lo B2 B3 C RB;by_cases e0 : Re = 0;rotate_left
 ·have g0 : (Re == 0) = false := zb e0;have g0n : (Re != 0) = true := by rw [bne, g0]; rfl
  have hr9:=HR2.out;rw [if_pos e0] at hr9;subst hr9;clear HR2 e0;obtain ⟨f0,f1,x0,x1,lx⟩:=Qb.e2 B4;have H9:=Qo B4 (.int .i64 0) (.int .i64 0);have EF:=(E.setCell (p:=⟨b4,0,none⟩) hbr (.int .i64 0)).setCell (p:=⟨b4,1,none⟩) hbr (.int .i64 0);obtain ⟨y0,y1⟩:=H9.c2;go_wp2;refine bodyPost_ret (v:=.tuple #[.agg #[.int .i64 0,.int .i64 0],.int .i64 Re]) Zf rfl ⟨rfl,EF⟩
 subst e0;have NS:=fun w z => Nz ⟨Pn,Pd⟩ ⟨In_,Id⟩ hi1 hi2 w z
 have hr9:=HR2.out;rw [if_neg (by simp)] at hr9;rw [← hr9] at NS;clear HR2 hr9;obtain ⟨⟨Rn,Rd⟩,Rc⟩:=R;obtain ⟨k0,k1,k2,k3,k4,k5,lk⟩:=Qb.d6 H3;go_wp2_with (first | (go_at_call 86;refine zc (NS _ Z0) ?_;rintro e wt ⟨rfl,ht⟩;replace E:=E.trans ht;replace B4:=B4.ext ht;have f0:=B4.frozen 0;have f1:=B4.frozen 1;obtain ⟨x0,x1⟩:=B4.c2;have lx:=B4.lt));have H9:=Qo B4 (.int .i64 Rn) (.int .i64 Rd);have EF:=(E.setCell (p:=⟨b4,0,none⟩) hbr (.int .i64 Rn)).setCell (p:=⟨b4,1,none⟩) hbr (.int .i64 Rd);obtain ⟨y0,y1⟩:=H9.c2;go_wp2;refine bodyPost_ret (v:=.tuple #[.agg #[.int .i64 Rn,.int .i64 Rd],.int .i64 Rc]) Zf rfl ⟨rfl,EF⟩
def Q5 (f : Nat → Lt) (i : Nat) : List Value:=[.string (f i).g,.int .i64 (f i).n]
theorem Iv (x y : ByteArray) (w : World) : (binOp .geq 9 (.string x) (.string y)).run Tryz.prog w = .ok (.bool (!Z5 x y)) w:=by
 have h : (binOp .geq 9 (.string x) (.string y)).run Tryz.prog w = .ok (.bool (!Op.bytesLess x.toList y.toList)) w:=rfl;rw [h,bytesLess_eq];rfl
theorem lss_s (x y : ByteArray) (w : World) : (binOp .lss 9 (.string x) (.string y)).run Tryz.prog w = .ok (.bool (Z5 x y)) w:=by
 have h : (binOp .lss 9 (.string x) (.string y)).run Tryz.prog w = .ok (.bool (Op.bytesLess x.toList y.toList)) w:=rfl;rw [h,bytesLess_eq];rfl
theorem Oc (T : OA) (n cap : Nat) (f : Nat → Lt) (w : World) (hT : Qm w T n 2 (Q5 f)) (hcap : n ≤ cap) (hn : n ≤ 9223372036854775807) :
  Calls Tryz.prog 68 #[.slice T n cap] w fun e w' => e = .returned (.int .i64 (Jw f n)) ∧ Qc w w':=by
 have hge:=Iv
 go_enter Tryz.func68,Tryz.ntmps68
 by_cases h64 : 64 < n
 ·have g1 : decide ((64 : Int) < (n : Int)) = true:=zt Qa;rw [Qbe h64];go_wp2;go_ret;exact ⟨rfl,Qc.refl _⟩
 ·have g1 : decide ((64 : Int) < (n : Int)) = false:=zf Qa;go_upto_region 4 with fail
  go_loopw [10] (fun i wr => ∃ k : Nat,k ≤ n ∧ i = .int .i64 k ∧ Hid (∀ j,j < k → Wp f j = true) ∧ Qc w wr) (fun i _ => n - (intOf i).toNat)
  case atStart => exact ⟨0,Nat.zero_le _,rfl,(fun j h => absurd h Qa),Qc.refl _⟩
  case round =>
   obtain ⟨k,hk,rfl,hall,hE⟩:=hrel;obtain ⟨wo,rfl⟩:=Qe wr;obtain ⟨hcwo,hfwo,hzwo⟩:=Qc.rules hE;try simp only [World.size_alloc] at hzwo
   obtain ⟨hcbwo,hfbwo,hzbwo⟩:=Qc.rules (show Qc w wo from Qu);clear hcwo hfwo;by_cases hlt : k < n
   ·obtain ⟨b, off, rfl, hb, hc⟩ := hT Qa;have hbo : b < wo.heap.size := Nat.lt_of_lt_of_le hb hE.size;have c0 : w.cell? ⟨b, off + k * 2, none⟩ = some (.string (f k).g) := by simpa using hc k 0 _ hlt rfl
    have c1 : w.cell? ⟨b,off + k * 2 + 1,none⟩ = some (.int .i64 (f k).n):=hc k 1 _ hlt rfl
    have hd0 : 0 < k → w.cell? ⟨b,off + (IntKind.i64.wrap ((k : Int) - 1)).toNat * 2,none⟩ = some (.string (f (k - 1)).g):=fun h => by
     rw [show (IntKind.i64.wrap ((k : Int) - 1)).toNat = k - 1 from by rw [IntKind.wrap_i64];omega]
     simpa using hc (k - 1) 0 _ Qa rfl
    have hin : 0 < k → (0 ≤ IntKind.i64.wrap ((k : Int) - 1) ∧ IntKind.i64.wrap ((k : Int) - 1) < (n : Int)):=fun h => by rw [IntKind.wrap_i64];omega
    have HK : Hid (Wp f k = _):=Qa9 f k;clear hc;go_upto_region 6 with fail
    refine Vr wo mixed zK Qu ?_;intro hne hrx hry;try simp only []
    try simp only [List.append_eq,List.cons_append,List.nil_append]
    have hrx0:=fun u o => hrx u (wo.heap.size) o Q9
    skip
    have m1:=fun x1 x2 => Ot x1 x2
    refine Un ?_;clear hne hry hrx hrx0 m1;intro wn hwn;obtain ⟨hcwn,hfwn,hzwn⟩:=Qc.rules hwn;try simp only [World.size_alloc] at hzwn
    have hk0wn:=fun o => hcwn (wo.heap.size) o Q9
    have hj0wn:=fun o => hfwn (wo.heap.size) o Q9
    have hl0wn : wo.heap.size < wn.heap.size:=Q9;obtain ⟨hcbwn,hfbwn,hzbwn⟩:=Qc.rules (show Qc wo wn from Qu);clear hcwn hfwn;generalize hg : (!Zu (f k).g || (decide (0 < k) && !Z5 (f (k - 1)).g (f k).g) || ((f k).n == 0) || decide (1099511627776 < (f k).n) || decide ((f k).n < -1099511627776)) = g at *;have E2 : Qc w wn:=hE.trans (((Qc.refl _).alloc _).trans hwn);cases g
    ·go_wp2
     exact ⟨⟨k + 1,Qa,by go_num,fun j hj => by
      by_cases e : j = k
      ·subst e;exact HK.out
      ·exact hall.out j Qa,E2⟩,zi⟩
    ·go_wp2;go_ret;exact ⟨Wt (Qbc hlt HK.out h64).symm,E2⟩
   ·obtain rfl : k = n:=Qa;go_wp2;go_ret;exact ⟨Wt (Qbb hall.out h64).symm,hE⟩
theorem Qgm (T : OA) (n cap : Nat) (f : Nat → Lt) (S : OA) (m cm : Nat) (g : Nat → Lt) (w : World) (hT : Qm w T n 2 (Q5 f)) (hcap : n ≤ cap) (hn : n ≤ 9223372036854775807) (hS : Qm w S m 2 (Q5 g)) (hcm : m ≤ cm) (hm : m ≤ 9223372036854775807) :
  Calls Tryz.prog 110 #[.slice T n cap,.slice S m cm] w fun e w' => e = .returned (.int .i64 (Vp f n g m)) ∧ Qc w w':=by
 have N1:=Oc T n cap f w hT hcap hn;have N2:=fun w h => Oc S m cm g w h hcm hm
 unfold Vp;generalize Jw f n = a at *;generalize Jw g m = b at *;by_cases e0 : a = 0
 ·subst e0;rw [if_neg (by simp)]
  go_enter Tryz.func110,Tryz.ntmps110
  go_wp2_with (first | (go_at_call 68;(with_reducible refine zc (N1) ?_);rintro e w1 ⟨rfl,h1⟩) | (go_at_call 68;(with_reducible refine zc (N2 _ (hS.ext h1)) ?_);rintro e w2 ⟨rfl,h2⟩));go_ret;exact ⟨rfl,h1.trans h2⟩
 ·have g0 : (a == 0) = false := zb e0;have g0n : (a != 0) = true := by rw [bne, g0]; rfl
  rw [if_pos e0]
  go_enter Tryz.func110,Tryz.ntmps110
  go_wp2_with (go_at_call 68;refine zc (N1) ?_;rintro e w1 ⟨rfl,h1⟩);go_ret;exact ⟨rfl,h1⟩
theorem Qk3 (x y : Lt) (w : World) : Calls Tryz.prog 114 #[.agg #[.string x.g,.int .i64 x.n],.agg #[.string y.g,.int .i64 y.n]] w fun e w' => e = .returned (.string (Yd x y)) ∧ Qc w w':=by
 have hne : ∀ (s : ByteArray) (w : World),(binOp .neq 9 (.string s) (.string { data:=#[] })).run Tryz.prog w = .ok (.bool (!(s.toList == ([] : List UInt8)))) w:=fun s w => by
  have h : (binOp .neq 9 (.string s) (.string { data:=#[] })).run Tryz.prog w = .ok (.bool (!(s.toList == ByteArray.toList { data:=#[] }))) w:=rfl;rw [h,Lib.toList_data { data:=#[] }]
 unfold Yd;by_cases h : x.g.size = 0
 ·rw [if_pos h]
  have g0 : (x.g.toList == ([] : List UInt8)) = true:=by
   have : x.g.toList = []:=by rw [← List.length_eq_zero_iff,Lib.toList_data];simpa using h
   rw [this];rfl
  clear h
  go_enter Tryz.func114,Tryz.ntmps114
  go_wp2;go_ret;exact ⟨rfl,Qu⟩
 ·rw [if_neg h]
  have g0 : (x.g.toList == ([] : List UInt8)) = false:=by
   rw [beq_eq_false_iff_ne];intro hh;apply h;have:=congrArg List.length hh;rw [Lib.toList_data] at this
   simpa using this
  clear h
  go_enter Tryz.func114,Tryz.ntmps114
  go_wp2;go_ret;exact ⟨rfl,Qu⟩
theorem Aq (x y : Lt) (w : World) : Calls Tryz.prog 112 #[.agg #[.string x.g,.int .i64 x.n],.agg #[.string y.g,.int .i64 y.n]] w fun e w' => e = .returned (.bool (Z5 x.g y.g)) ∧ Qc w w':=by
 go_enter Tryz.func112,Tryz.ntmps112
 go_wp2;go_ret;exact ⟨Jo (bytesLess_eq _ _),Qu⟩
theorem Ql {W w : World} (h : Qc W w) (t : TypeId) (cs : Array Value) : ∃ b w',b = w.heap.size ∧ w' = w.alloc (.cells cs t) ∧ Qb w' b t cs ∧ Qc W w' ∧ Qc w w' ∧ W.heap.size ≤ b:=⟨_,_,rfl,rfl,Qb.new w t cs,h.alloc _,(Qc.refl w).alloc _,h.size⟩
def Ez (A : Nat → Nat → Nat → Act) (S : World → Nat → Nat → Nat → Prop) : Exit → Act → World → Prop:=fun e a' w' => e = .normal ∧ ∃ p q r,S w' p q r ∧ a' = A p q r
theorem Qg9 {A : Nat → Nat → Nat → Act} {S : World → Nat → Nat → Nat → Prop} {w' : World} (p q r : Nat) {a' : Act} (h : S w' p q r) (ha : a' = A p q r) : Ez A S .normal a' w':=⟨rfl,p,q,r,h,ha⟩
theorem Qoz {P : Program} {c : Code} {Q : Exit → Act → World → Prop} {a : Act} {w : World} {A : Nat → Nat → Nat → Act} (S : World → Nat → Nat → Nat → Prop) (h1 : c.wp P (Ez A S) a w) (h2 : ∀ p q r w',S w' p q r → Q .normal (A p q r) w') : c.wp P Q a w :=
 Code.wp_mono (fun e a' w' ⟨he,p,q,r,hs,ha⟩ => by subst he;subst ha;exact h2 p q r w' hs) h1
theorem Qcb {W : World} {b : Nat} {n m : Int} {v0 v1 : Value} (h : Qb W b 245 #[.int .u64 n,.int .u64 m]) (h' : Qb W b 252 #[v0,v1]) : False:=by
 have e:=(show W.heap[b]? = _ from h).symm.trans h';simp at e
def V5 (x y : Nat) : Nat → Nat
 | 0 => x
 | _ => y
theorem Qcy (x y : Nat) : upTo (V5 x y) 2 = x * y:=by show 1 * x * y = x * y;rw [Nat.one_mul]
theorem Qcx {x y : Nat} (hx : 1 ≤ x) (hy : 1 ≤ y) : ∀ i,i < 2 → 1 ≤ V5 x y i:=fun i hi => by
 have : i = 0 ∨ i = 1:=Qa;rcases this with rfl | rfl
 ·exact hx
 ·exact hy
theorem Qcw {x y : Nat} (hx : x < 18446744073709551616) (hy : y < 18446744073709551616) : ∀ i,i < 2 → V5 x y i < 18446744073709551616:=fun i hi => by
 have : i = 0 ∨ i = 1:=Qa;rcases this with rfl | rfl
 ·exact hx
 ·exact hy
theorem Qem {w : World} {b : Nat} {t : TypeId} {n m : Nat} (h : Qb w b t #[.int .u64 (n : Int),.int .u64 (m : Int)]) : Qm w (some ⟨b,0,none⟩) 2 1 (Zk (V5 n m)):=Lu (f:=Zk (V5 n m)) (n:=2) (fun _ => rfl) h
theorem Qhm (a b : Rt) (ha : a.ok = true) (hb : b.ok = true) (ba bb : Nat) (w : World) (hA : Qb w ba 65 #[.int .i64 a.n,.int .i64 a.d]) (hB : Qb w bb 65 #[.int .i64 b.n,.int .i64 b.d]) (hZ : Jc w) :
  Calls Tryz.prog 171 #[.pointer (some ⟨bb,0,none⟩),.pointer (some ⟨ba,0,none⟩)] w fun e w' => e = .returned (.tuple #[.agg #[.int .i64 (if b.n = 0 then (Zr,9) else J2 (decide (a.n < 0) != decide (b.n < 0)) (a.n.natAbs * b.d.natAbs) (a.d.natAbs * b.n.natAbs)).1.n,.int .i64 (if b.n = 0 then (Zr,9) else J2 (decide (a.n < 0) != decide (b.n < 0)) (a.n.natAbs * b.d.natAbs) (a.d.natAbs * b.n.natAbs)).1.d],.int .i64 (if b.n = 0 then (Zr,9) else J2 (decide (a.n < 0) != decide (b.n < 0)) (a.n.natAbs * b.d.natAbs) (a.d.natAbs * b.n.natAbs)).2]) ∧ Qc w w':=by
 obtain ⟨a1,a2,a3,a4,_⟩:=Yl ha;obtain ⟨b1',b2',b3',b4',_⟩:=Yl hb;have N1:=fun w => Vm a.n Qa Qa w
 have N2:=fun w => Vm b.d Qa Qa w
 have N3:=fun w => Vm a.d Qa Qa w
 have N4:=fun w => Vm b.n Qa Qa w
 obtain ⟨R,hR0⟩:=Qe (if b.n = 0 then (Zr,9) else J2 (decide (a.n < 0) != decide (b.n < 0)) (a.n.natAbs * b.d.natAbs) (a.d.natAbs * b.n.natAbs));rw [← hR0];have HR:=zh hR0;clear hR0
 go_enter Tryz.func171,Tryz.ntmps171
 go_upto_region 1 with fail
 obtain ⟨v,b1,E,B1,hbr,hv,hb1⟩:=J4 w 65 #[.int .i64 0,.int .i64 0];rw [← hv,← hb1];clear hv hb1;have Z0:=hZ.ext E;have HA:=hA.ext E;have HB:=hB.ext E;clear hA hB hZ;obtain ⟨k0,k1,lk⟩:=Qb.d2 HA;obtain ⟨p0,p1,lp⟩:=Qb.d2 HB;by_cases hb0 : b.n = 0
 ·have g0 : (b.n == 0) = true := by rw [hb0]; rfl
  have hr : R = (Zr,9):=by rw [HR.out,if_pos hb0]
  subst hr;clear HR hb0;obtain ⟨f0,f1,x0,x1,lx⟩:=Qb.e2 B1;have H4:=Qo B1 (.int .i64 0) (.int .i64 0);have EF:=(E.setCell (p:=⟨b1,0,none⟩) hbr (.int .i64 0)).setCell (p:=⟨b1,1,none⟩) hbr (.int .i64 0);obtain ⟨y0,y1⟩:=H4.c2;go_wp2;refine bodyPost_ret (v:=.tuple #[.agg #[.int .i64 0,.int .i64 0],.int .i64 9]) Zf rfl ⟨rfl,EF⟩
 ·have g0 : (b.n == 0) = false:=zb hb0;have hr:=HR.out;rw [if_neg hb0] at hr;clear HR;by_cases ha0 : a.n = 0
  ·have g1 : (a.n == 0) = true := by rw [ha0]; rfl
   rw [show a.n.natAbs * b.d.natAbs = 0 by rw [ha0];simp,Dq (Nat.mul_pos Qa Qa)] at hr;subst hr;clear hb0 ha0;obtain ⟨z0,z1,lz⟩:=Z0;obtain ⟨f0,f1,x0,x1,lx⟩:=Qb.e2 B1;have H4:=Qo B1 (.int .i64 0) (.int .i64 1);have EF:=(E.setCell (p:=⟨b1,0,none⟩) hbr (.int .i64 0)).setCell (p:=⟨b1,1,none⟩) hbr (.int .i64 1);obtain ⟨y0,y1⟩:=H4.c2;go_wp2;refine bodyPost_ret (v:=.tuple #[.agg #[.int .i64 0,.int .i64 1],.int .i64 0]) Zf rfl ⟨rfl,EF⟩
  ·have g1 : (a.n == 0) = false := zb ha0;have NR := fun w b6 b13 neg (hneg : neg = (decide (a.n < 0) != decide (b.n < 0))) h h' => Dr (some ⟨b6, 0, none⟩) (some ⟨b13, 0, none⟩) 2 2 2 2 (V5 a.n.natAbs b.d.natAbs) (V5 a.d.natAbs b.n.natAbs) neg w h h' (fun h => by cases h) (fun h => by cases h) zD zD (Qcx Qa Qa) (Qcw Qa Qa) (Qcx Qa Qa) (Qcw Qa Qa)
   have NR2 : ∀ (w : World) (b6 b13 : Nat),Qm w (some ⟨b6,0,none⟩) 2 1 (Zk (V5 a.n.natAbs b.d.natAbs)) → Qm w (some ⟨b13,0,none⟩) 2 1 (Zk (V5 a.d.natAbs b.n.natAbs)) → Calls Tryz.prog 163 #[.agg #[.slice (some ⟨b6,0,none⟩) 2 2,.slice (some ⟨b13,0,none⟩) 2 2],.bool (!(decide (a.n < 0) == decide (b.n < 0)))] w fun e w' => e = .returned (.tuple #[.agg #[.int .i64 R.1.n,.int .i64 R.1.d],.int .i64 R.2]) ∧ Qc w w':=fun w b6 b13 h h' => by
    have:=NR w b6 b13 _ rfl h h';rw [Qcy,Qcy] at this;have hr' : R = J2 (!(decide (a.n < 0) == decide (b.n < 0))) (a.n.natAbs * b.d.natAbs) (a.d.natAbs * b.n.natAbs):=hr;rw [hr'];exact this
   clear NR hr hb0 ha0 a1 a2 a3 a4 b1' b2' b3' b4';obtain ⟨⟨Rn,Rd⟩,Re⟩:=R;go_upto_region 5 with fail
   clear k0 k1 lk p0 p1 lp;apply Qoz (S:=fun w' b6 b13 b15 => Qc v w' ∧ Qb w' b6 245 #[.int .u64 (a.n.natAbs : Int),.int .u64 (b.d.natAbs : Int)] ∧ Qb w' b13 245 #[.int .u64 (a.d.natAbs : Int),.int .u64 (b.n.natAbs : Int)] ∧ Qb w' b15 252 #[.slice (some ⟨b6,0,none⟩) 2 2,.slice (some ⟨b13,0,none⟩) 2 2])
   ·refine Zc 17 [16] (fun x => Qc v x) mixed rfl ?_;intro vz hvz;have HC:=hvz;have mz0:=trivial
    all_goals try
     (clear mz0
      refine Qs (g:=9) [0,1,3,4,7,8,10,11] HC ?_
      constructor
      refine ⟨fun u hu => ?_,?_⟩
      ·obtain ⟨k0,k1,lk⟩:=Qb.d2 (HA.ext hu);obtain ⟨p0,p1,lp⟩:=Qb.d2 (HB.ext hu);exact Qk
      have mz1:=trivial)
    all_goals try
     (clear mz1
      refine Vt 2 15 rfl rfl zK ?_ ?_ <;> first
       | (simp only [Zg,Zh,Zi]
          go_wp2_with (go_at_call 162;refine zc (N1 _) ?_;rintro e wa ⟨rfl,h4⟩);replace HC:=HC.trans h4;try replace Q6:=Q6.ext h4
          try replace Q13:=Q13.ext h4
          try replace Q15:=Q15.ext h4
          clear h4;have mz2:=trivial
          refine Qf HC ?_)
       | (simp only [Zg,Zh,Zi]
          go_wp2;obtain ⟨b15,wb,hbq,hwb,Q15,HC',hx,hgeb15⟩:=Ql HC 252 #[.slice none 0 0,.slice none 0 0];rw [← hbq,← hwb];clear hbq hwb;replace HC:=HC';clear HC';try replace Q6:=Q6.ext hx
          try replace Q13:=Q13.ext hx
          clear hx;have mz3:=trivial;refine Qf HC ?_))
    all_goals try
     (clear mz2
      refine Vt 5 15 rfl rfl zK ?_ ?_ <;> first
       | (simp only [Zg,Zh,Zi]
          go_wp2_with (go_at_call 162;refine zc (N2 _) ?_;rintro e wa ⟨rfl,h4⟩);replace HC:=HC.trans h4;try replace Q6:=Q6.ext h4
          try replace Q13:=Q13.ext h4
          try replace Q15:=Q15.ext h4
          clear h4;have mz4:=trivial
          refine Qf HC ?_)
       | (simp only [Zg,Zh,Zi]
          go_wp2;obtain ⟨b15,wb,hbq,hwb,Q15,HC',hx,hgeb15⟩:=Ql HC 252 #[.slice none 0 0,.slice none 0 0];rw [← hbq,← hwb];clear hbq hwb;replace HC:=HC';clear HC';try replace Q6:=Q6.ext hx
          try replace Q13:=Q13.ext hx
          clear hx;have mz5:=trivial;refine Qf HC ?_))
    all_goals try
     (clear mz3
      refine Qj 2 ?_;go_wp2_with (go_at_call 162;refine zc (N1 _) ?_;rintro e wa ⟨rfl,h4⟩);replace HC:=HC.trans h4;try replace Q6:=Q6.ext h4
      try replace Q13:=Q13.ext h4
      try replace Q15:=Q15.ext h4
      clear h4;have mz5:=trivial;refine Qf HC ?_)
    all_goals try
     (clear mz4
      refine Tl 6 9 15 rfl rfl rfl zK ?_ ?_ ?_ <;> first
       | (simp only [Zg,Zh,Zi]
          go_wp2_with (go_at_call 162;refine zc (N3 _) ?_;rintro e wa ⟨rfl,h4⟩);replace HC:=HC.trans h4;try replace Q6:=Q6.ext h4
          try replace Q13:=Q13.ext h4
          try replace Q15:=Q15.ext h4
          clear h4;have mz7:=trivial
          refine Qf HC ?_)
       | (simp only [Zg,Zh,Zi]
          go_wp2;obtain ⟨b6,wb,hbq,hwb,Q6,HC',hx,hgeb6⟩:=Ql HC 245 #[.int .u64 (a.n.natAbs : Int),.int .u64 (b.d.natAbs : Int)];rw [← hbq,← hwb];clear hbq hwb;replace HC:=HC';clear HC';try replace Q13:=Q13.ext hx
          try replace Q15:=Q15.ext hx
          clear hx;have mz6:=trivial
          refine Qf HC ?_)
       | (simp only [Zg,Zh,Zi]
          go_wp2;obtain ⟨b15,wb,hbq,hwb,Q15,HC',hx,hgeb15⟩:=Ql HC 252 #[.slice none 0 0,.slice none 0 0];rw [← hbq,← hwb];clear hbq hwb;replace HC:=HC';clear HC';try replace Q6:=Q6.ext hx
          try replace Q13:=Q13.ext hx
          clear hx;have mz8:=trivial;refine Qf HC ?_))
    all_goals try
     (clear mz5
      refine Qj 5 ?_;go_wp2_with (go_at_call 162;refine zc (N2 _) ?_;rintro e wa ⟨rfl,h4⟩);replace HC:=HC.trans h4;try replace Q6:=Q6.ext h4
      try replace Q13:=Q13.ext h4
      try replace Q15:=Q15.ext h4
      clear h4;have mz8:=trivial;refine Qf HC ?_)
    all_goals try
     (clear mz6
      refine Vt 9 15 rfl rfl zK ?_ ?_ <;> first
       | (simp only [Zg,Zh,Zi]
          go_wp2_with (go_at_call 162;refine zc (N3 _) ?_;rintro e wa ⟨rfl,h4⟩);replace HC:=HC.trans h4;try replace Q6:=Q6.ext h4
          try replace Q13:=Q13.ext h4
          try replace Q15:=Q15.ext h4
          clear h4;have mz9:=trivial
          refine Qf HC ?_)
       | (simp only [Zg,Zh,Zi]
          go_wp2;obtain ⟨b15,wb,hbq,hwb,Q15,HC',hx,hgeb15⟩:=Ql HC 252 #[.slice none 0 0,.slice none 0 0];rw [← hbq,← hwb];clear hbq hwb;replace HC:=HC';clear HC';try replace Q6:=Q6.ext hx
          try replace Q13:=Q13.ext hx
          clear hx;have mz10:=trivial;refine Qf HC ?_))
    all_goals try
     (clear mz7
      refine Tl 6 12 15 rfl rfl rfl zK ?_ ?_ ?_ <;> first
       | (simp only [Zg,Zh,Zi]
          go_wp2_with (go_at_call 162;refine zc (N4 _) ?_;rintro e wa ⟨rfl,h4⟩);replace HC:=HC.trans h4;try replace Q6:=Q6.ext h4
          try replace Q13:=Q13.ext h4
          try replace Q15:=Q15.ext h4
          clear h4;have mz11:=trivial
          refine Qf HC ?_)
       | (simp only [Zg,Zh,Zi]
          go_wp2;obtain ⟨b6,wb,hbq,hwb,Q6,HC',hx,hgeb6⟩:=Ql HC 245 #[.int .u64 (a.n.natAbs : Int),.int .u64 (b.d.natAbs : Int)];rw [← hbq,← hwb];clear hbq hwb;replace HC:=HC';clear HC';try replace Q13:=Q13.ext hx
          try replace Q15:=Q15.ext hx
          clear hx;have mz9:=trivial
          refine Qf HC ?_)
       | (simp only [Zg,Zh,Zi]
          go_wp2;obtain ⟨b15,wb,hbq,hwb,Q15,HC',hx,hgeb15⟩:=Ql HC 252 #[.slice none 0 0,.slice none 0 0];rw [← hbq,← hwb];clear hbq hwb;replace HC:=HC';clear HC';try replace Q6:=Q6.ext hx
          try replace Q13:=Q13.ext hx
          clear hx;have mz12:=trivial;refine Qf HC ?_))
    all_goals try
     (clear mz8
      refine Vt 6 9 rfl rfl zK ?_ ?_ <;> first
       | (simp only [Zg,Zh,Zi]
          go_wp2_with (go_at_call 162;refine zc (N3 _) ?_;rintro e wa ⟨rfl,h4⟩);replace HC:=HC.trans h4;try replace Q6:=Q6.ext h4
          try replace Q13:=Q13.ext h4
          try replace Q15:=Q15.ext h4
          clear h4;have mz12:=trivial
          refine Qf HC ?_)
       | (simp only [Zg,Zh,Zi]
          go_wp2;obtain ⟨b6,wb,hbq,hwb,Q6,HC',hx,hgeb6⟩:=Ql HC 245 #[.int .u64 (a.n.natAbs : Int),.int .u64 (b.d.natAbs : Int)];rw [← hbq,← hwb];clear hbq hwb;replace HC:=HC';clear HC';try replace Q13:=Q13.ext hx
          try replace Q15:=Q15.ext hx
          clear hx;have mz10:=trivial;refine Qf HC ?_))
    all_goals try
     (clear mz9
      refine Vt 12 15 rfl rfl zK ?_ ?_ <;> first
       | (simp only [Zg,Zh,Zi]
          go_wp2_with (go_at_call 162;refine zc (N4 _) ?_;rintro e wa ⟨rfl,h4⟩);replace HC:=HC.trans h4;try replace Q6:=Q6.ext h4
          try replace Q13:=Q13.ext h4
          try replace Q15:=Q15.ext h4
          clear h4;have mz13:=trivial
          refine Qf HC ?_)
       | (simp only [Zg,Zh,Zi]
          go_wp2;obtain ⟨b15,wb,hbq,hwb,Q15,HC',hx,hgeb15⟩:=Ql HC 252 #[.slice none 0 0,.slice none 0 0];rw [← hbq,← hwb];clear hbq hwb;replace HC:=HC';clear HC';try replace Q6:=Q6.ext hx
          try replace Q13:=Q13.ext hx
          clear hx;have mz14:=trivial;refine Qf HC ?_))
    all_goals try
     (clear mz10
      refine Qj 9 ?_;go_wp2_with (go_at_call 162;refine zc (N3 _) ?_;rintro e wa ⟨rfl,h4⟩);replace HC:=HC.trans h4;try replace Q6:=Q6.ext h4
      try replace Q13:=Q13.ext h4
      try replace Q15:=Q15.ext h4
      clear h4;have mz14:=trivial;refine Qf HC ?_)
    all_goals try
     (clear mz11
      refine Tl 6 13 15 rfl rfl rfl zK ?_ ?_ ?_ <;> first
       | (simp only [Zg,Zh,Zi]
          go_wp2;obtain ⟨b6,wb,hbq,hwb,Q6,HC',hx,hgeb6⟩:=Ql HC 245 #[.int .u64 (a.n.natAbs : Int),.int .u64 (b.d.natAbs : Int)];rw [← hbq,← hwb];clear hbq hwb;replace HC:=HC';clear HC';try replace Q13:=Q13.ext hx
          try replace Q15:=Q15.ext hx
          clear hx;have mz13:=trivial
          refine Qf HC ?_)
       | (simp only [Zg,Zh,Zi]
          go_wp2;obtain ⟨b13,wb,hbq,hwb,Q13,HC',hx,hgeb13⟩:=Ql HC 245 #[.int .u64 (a.d.natAbs : Int),.int .u64 (b.n.natAbs : Int)];rw [← hbq,← hwb];clear hbq hwb;replace HC:=HC';clear HC';try replace Q6:=Q6.ext hx
          try replace Q15:=Q15.ext hx
          clear hx;have mz15:=trivial
          refine Qf HC ?_)
       | (simp only [Zg,Zh,Zi]
          go_wp2;obtain ⟨b15,wb,hbq,hwb,Q15,HC',hx,hgeb15⟩:=Ql HC 252 #[.slice none 0 0,.slice none 0 0];rw [← hbq,← hwb];clear hbq hwb;replace HC:=HC';clear HC';try replace Q6:=Q6.ext hx
          try replace Q13:=Q13.ext hx
          clear hx;have mz16:=trivial;refine Qf HC ?_))
    all_goals try
     (clear mz12
      refine Vt 6 12 rfl rfl zK ?_ ?_ <;> first
       | (simp only [Zg,Zh,Zi]
          go_wp2_with (go_at_call 162;refine zc (N4 _) ?_;rintro e wa ⟨rfl,h4⟩);replace HC:=HC.trans h4;try replace Q6:=Q6.ext h4
          try replace Q13:=Q13.ext h4
          try replace Q15:=Q15.ext h4
          clear h4;have mz16:=trivial
          refine Qf HC ?_)
       | (simp only [Zg,Zh,Zi]
          go_wp2;obtain ⟨b6,wb,hbq,hwb,Q6,HC',hx,hgeb6⟩:=Ql HC 245 #[.int .u64 (a.n.natAbs : Int),.int .u64 (b.d.natAbs : Int)];rw [← hbq,← hwb];clear hbq hwb;replace HC:=HC';clear HC';try replace Q13:=Q13.ext hx
          try replace Q15:=Q15.ext hx
          clear hx;have mz14:=trivial;refine Qf HC ?_))
    all_goals try
     (clear mz13
      refine Vt 13 15 rfl rfl zK ?_ ?_ <;> first
       | (simp only [Zg,Zh,Zi]
          go_wp2;obtain ⟨b13,wb,hbq,hwb,Q13,HC',hx,hgeb13⟩:=Ql HC 245 #[.int .u64 (a.d.natAbs : Int),.int .u64 (b.n.natAbs : Int)];rw [← hbq,← hwb];clear hbq hwb;replace HC:=HC';clear HC';try replace Q6:=Q6.ext hx
          try replace Q15:=Q15.ext hx
          clear hx;have mz17:=trivial
          refine Qf HC ?_)
       | (simp only [Zg,Zh,Zi]
          go_wp2;obtain ⟨b15,wb,hbq,hwb,Q15,HC',hx,hgeb15⟩:=Ql HC 252 #[.slice none 0 0,.slice none 0 0];rw [← hbq,← hwb];clear hbq hwb;replace HC:=HC';clear HC';try replace Q6:=Q6.ext hx
          try replace Q13:=Q13.ext hx
          clear hx;have mz18:=trivial;refine Qf HC ?_))
    all_goals try
     (clear mz14
      refine Qj 12 ?_;go_wp2_with (go_at_call 162;refine zc (N4 _) ?_;rintro e wa ⟨rfl,h4⟩);replace HC:=HC.trans h4;try replace Q6:=Q6.ext h4
      try replace Q13:=Q13.ext h4
      try replace Q15:=Q15.ext h4
      clear h4;have mz18:=trivial;refine Qf HC ?_)
    all_goals try
     (clear mz15
      refine Vt 6 15 rfl rfl zK ?_ ?_ <;> first
       | (simp only [Zg,Zh,Zi]
          go_wp2;obtain ⟨b6,wb,hbq,hwb,Q6,HC',hx,hgeb6⟩:=Ql HC 245 #[.int .u64 (a.n.natAbs : Int),.int .u64 (b.d.natAbs : Int)];rw [← hbq,← hwb];clear hbq hwb;replace HC:=HC';clear HC';try replace Q13:=Q13.ext hx
          try replace Q15:=Q15.ext hx
          clear hx;have mz17:=trivial
          refine Qf HC ?_)
       | (simp only [Zg,Zh,Zi]
          go_wp2;obtain ⟨b15,wb,hbq,hwb,Q15,HC',hx,hgeb15⟩:=Ql HC 252 #[.slice none 0 0,.slice none 0 0];rw [← hbq,← hwb];clear hbq hwb;replace HC:=HC';clear HC';try replace Q6:=Q6.ext hx
          try replace Q13:=Q13.ext hx
          clear hx;have mz19:=trivial;refine Qf HC ?_))
    all_goals try
     (clear mz16
      refine Vt 6 13 rfl rfl zK ?_ ?_ <;> first
       | (simp only [Zg,Zh,Zi]
          go_wp2;obtain ⟨b6,wb,hbq,hwb,Q6,HC',hx,hgeb6⟩:=Ql HC 245 #[.int .u64 (a.n.natAbs : Int),.int .u64 (b.d.natAbs : Int)];rw [← hbq,← hwb];clear hbq hwb;replace HC:=HC';clear HC';try replace Q13:=Q13.ext hx
          try replace Q15:=Q15.ext hx
          clear hx;have mz18:=trivial
          refine Qf HC ?_)
       | (simp only [Zg,Zh,Zi]
          go_wp2;obtain ⟨b13,wb,hbq,hwb,Q13,HC',hx,hgeb13⟩:=Ql HC 245 #[.int .u64 (a.d.natAbs : Int),.int .u64 (b.n.natAbs : Int)];rw [← hbq,← hwb];clear hbq hwb;replace HC:=HC';clear HC';try replace Q6:=Q6.ext hx
          try replace Q15:=Q15.ext hx
          clear hx;have mz19:=trivial;refine Qf HC ?_))
    all_goals try
     (clear mz17
      refine Qs (g:=2) [14] HC ?_
      constructor
      refine ⟨fun u hu => ?_,?_⟩
      ·obtain ⟨k0,k1,lk⟩:=Qb.d2 (HA.ext hu);obtain ⟨p0,p1,lp⟩:=Qb.d2 (HB.ext hu);exact Qk
      have mz20:=trivial)
    all_goals try
     (clear mz18
      refine Qj 13 ?_;go_wp2;obtain ⟨b13,wb,hbq,hwb,Q13,HC',hx,hgeb13⟩:=Ql HC 245 #[.int .u64 (a.d.natAbs : Int),.int .u64 (b.n.natAbs : Int)];rw [← hbq,← hwb];clear hbq hwb;replace HC:=HC';clear HC';try replace Q6:=Q6.ext hx
      try replace Q15:=Q15.ext hx
      clear hx;have mz21:=trivial;refine Qf HC ?_)
    all_goals try
     (clear mz19
      refine Qj 6 ?_;go_wp2;obtain ⟨b6,wb,hbq,hwb,Q6,HC',hx,hgeb6⟩:=Ql HC 245 #[.int .u64 (a.n.natAbs : Int),.int .u64 (b.d.natAbs : Int)];rw [← hbq,← hwb];clear hbq hwb;replace HC:=HC';clear HC';try replace Q13:=Q13.ext hx
      try replace Q15:=Q15.ext hx
      clear hx;have mz21:=trivial;refine Qf HC ?_)
    all_goals try
     (clear mz20
      refine Qj 15 ?_;go_wp2;obtain ⟨b15,wb,hbq,hwb,Q15,HC',hx,hgeb15⟩:=Ql HC 252 #[.slice none 0 0,.slice none 0 0];rw [← hbq,← hwb];clear hbq hwb;replace HC:=HC';clear HC';try replace Q6:=Q6.ext hx
      try replace Q13:=Q13.ext hx
      clear hx;have mz22:=trivial;refine Qf HC ?_)
    all_goals try
     (clear mz21
      refine Qs (g:=1) [14] HC ?_
      constructor
      refine ⟨fun u hu => ?_,?_⟩
      ·obtain ⟨k0,k1,lk⟩:=Qb.d2 (HA.ext hu);obtain ⟨p0,p1,lp⟩:=Qb.d2 (HB.ext hu);exact Qk
      have mz22:=trivial)
    all_goals try
     (clear mz22
      refine Qr 16 ?_;obtain ⟨z0,z1,x0,x1,lx⟩:=Qb.e2 Q15;have n6 : b6 ≠ b15:=fun e => Qcb (e ▸ Q6) Q15
      have n13 : b13 ≠ b15:=fun e => Qcb (e ▸ Q13) Q15
      have S15:=Qo Q15 (.slice (some ⟨b6,0,none⟩) 2 2) (.slice (some ⟨b13,0,none⟩) 2 2);have S6:=Qg (Qg Q6 n6 0 (.slice (some ⟨b6,0,none⟩) 2 2)) n6 1 (.slice (some ⟨b13,0,none⟩) 2 2);have S13:=Qg (Qg Q13 n13 0 (.slice (some ⟨b6,0,none⟩) 2 2)) n13 1 (.slice (some ⟨b13,0,none⟩) 2 2);have HE2:=(HC.setCell (p:=⟨b15,0,none⟩) hgeb15 (.slice (some ⟨b6,0,none⟩) 2 2)).setCell (p:=⟨b15,1,none⟩) hgeb15 (.slice (some ⟨b13,0,none⟩) 2 2);go_wp2;have mz23:=trivial;refine Qq ?_)
    all_goals try
     (clear mz23
      refine Qx ?_;exact Qg9 b6 b13 b15 ⟨HE2,S6,S13,S15⟩ rfl)
   rintro b6 b13 b15 w5 ⟨E5,S6,S13,S15⟩;clear N1 N2 N3 N4;obtain ⟨k0,k1,lk⟩:=Qb.d2 (HA.ext E5);obtain ⟨p0,p1,lp⟩:=Qb.d2 (HB.ext E5);obtain ⟨r0,r1,lr⟩:=Qb.d2 S15;replace E:=E.trans E5;replace B1:=B1.ext E5;go_wp2_with (first | (go_at_call 163;refine zc (NR2 _ _ _ (Qem S6) (Qem S13)) ?_;rintro e wt ⟨rfl,ht⟩;replace E:=E.trans ht;replace B1:=B1.ext ht;have f0:=B1.frozen 0;have f1:=B1.frozen 1;obtain ⟨x0,x1⟩:=B1.c2;have lx:=B1.lt));have H4:=Qo B1 (.int .i64 Rn) (.int .i64 Rd);have EF:=(E.setCell (p:=⟨b1,0,none⟩) hbr (.int .i64 Rn)).setCell (p:=⟨b1,1,none⟩) hbr (.int .i64 Rd);obtain ⟨y0,y1⟩:=H4.c2;go_wp2;refine bodyPost_ret (v:=.tuple #[.agg #[.int .i64 Rn,.int .i64 Rd],.int .i64 Re]) Zf rfl ⟨rfl,EF⟩
theorem Qf7 (a b : Rt) (hia : a.In) (hib : b.In) (ba bb : Nat) (w : World) (hA : Qb w ba 65 #[.int .i64 a.n,.int .i64 a.d]) (hB : Qb w bb 65 #[.int .i64 b.n,.int .i64 b.d]) (hZ : Jc w) :
  Calls Tryz.prog 132 #[.agg #[.int .i64 a.n,.int .i64 a.d],.agg #[.int .i64 b.n,.int .i64 b.d],.func (.func 171) #[] #[.pointer (some ⟨bb,0,none⟩),.pointer (some ⟨ba,0,none⟩)]] w fun e w' => e = .returned (.tuple #[.agg #[.int .i64 (Yn a b).1.n,.int .i64 (Yn a b).1.d],.int .i64 (Yn a b).2]) ∧ Qc w w':=by
 have NA:=fun w => Vf a.n a.d hia.1 hia.2.1 hia.2.2.1 hia.2.2.2 w
 have NB:=fun w => Vf b.n b.d hib.1 hib.2.1 hib.2.2.1 hib.2.2.2 w
 rw [show Rt.ok ⟨a.n,a.d⟩ = a.ok from rfl] at NA;rw [show Rt.ok ⟨b.n,b.d⟩ = b.ok from rfl] at NB;have NC:=fun ha hb w h1 h2 z => Qhm a b ha hb ba bb w h1 h2 z
 have HV : Hid (Yn a b = if a.ok && b.ok then (if b.n = 0 then (Zr,9) else J2 (decide (a.n < 0) != decide (b.n < 0)) (a.n.natAbs * b.d.natAbs) (a.d.natAbs * b.n.natAbs)) else (Zr,2)):=rfl;obtain ⟨R,hR0⟩:=Qe (Yn a b);rw [← hR0];have HR:=zh hR0;clear hR0;rw [show Yn a b = R from HR.out.symm] at HV;clear HR
 go_enter Tryz.func132,Tryz.ntmps132
 go_upto_region 1 with fail
 obtain ⟨v,b1,b2,b3,E,B1,B2,B3,hbr1,hbr2,hbr,hn21,hn31,hn32,hv,hb1,hb2,hb3⟩:=Up w 65 #[.int .i64 a.n,.int .i64 a.d] 65 #[.int .i64 b.n,.int .i64 b.d] 65 #[.int .i64 0,.int .i64 0];rw [← hv,← hb3,← hb2,← hb1];clear hv hb1 hb2 hb3;obtain ⟨k0,k1,lk⟩:=Qb.d2 B1;obtain ⟨p0,p1,lp⟩:=Qb.d2 B2;cases ha : a.ok
 ·simp only [ha] at NA;have hr:=HV.out;rw [ha,Bool.false_and,if_neg zD] at hr;subst hr;clear HV NC NB;go_upto_region 2 with (go_at_call 121;refine zc (NA _) ?_;rintro e w2 ⟨rfl,h⟩)
  replace E:=E.trans h;replace B3:=B3.ext h;obtain ⟨f0,f1,x0,x1,lx⟩:=Qb.e2 B3;have H4:=Qo B3 (.int .i64 0) (.int .i64 0);have EF:=(E.setCell (p:=⟨b3,0,none⟩) hbr (.int .i64 0)).setCell (p:=⟨b3,1,none⟩) hbr (.int .i64 0);obtain ⟨y0,y1⟩:=H4.c2;go_wp2;refine bodyPost_ret (v:=.tuple #[.agg #[.int .i64 0,.int .i64 0],.int .i64 2]) Zf rfl ⟨rfl,EF⟩
 ·simp only [ha] at NA;cases hb : b.ok
  ·simp only [hb] at NB;have hr:=HV.out;rw [hb,Bool.and_false,if_neg zD] at hr;subst hr;clear HV NC;go_upto_region 2 with (first | (go_at_call 121;(with_reducible refine zc (NA _) ?_);rintro e w1 ⟨rfl,h1⟩;clear p0 p1 lp;obtain ⟨p0,p1⟩:=(B2.ext h1).c2;have lp:=(B2.ext h1).lt) | (go_at_call 121;(with_reducible refine zc (NB _) ?_);rintro e w2 ⟨rfl,h⟩))
   replace E:=(E.trans h1).trans h;replace B3:=(B3.ext h1).ext h;obtain ⟨f0,f1,x0,x1,lx⟩:=Qb.e2 B3;have H4:=Qo B3 (.int .i64 0) (.int .i64 0);have EF:=(E.setCell (p:=⟨b3,0,none⟩) hbr (.int .i64 0)).setCell (p:=⟨b3,1,none⟩) hbr (.int .i64 0);obtain ⟨y0,y1⟩:=H4.c2;go_wp2;refine bodyPost_ret (v:=.tuple #[.agg #[.int .i64 0,.int .i64 0],.int .i64 2]) Zf rfl ⟨rfl,EF⟩
  ·simp only [hb] at NB;replace NC:=NC ha hb;have hr:=HV.out;rw [ha,hb,Bool.and_true,if_pos rfl] at hr;rw [← hr] at NC;clear HV hr ha hb;obtain ⟨⟨Rn,Rd⟩,Re⟩:=R;go_upto_region 3 with (first | (go_at_call 121;(with_reducible refine zc (NA _) ?_);rintro e w1 ⟨rfl,h1⟩;clear p0 p1 lp;obtain ⟨p0,p1⟩:=(B2.ext h1).c2;have lp:=(B2.ext h1).lt) | (go_at_call 121;(with_reducible refine zc (NB _) ?_);rintro e w2 ⟨rfl,h⟩))
   have e2:=(E.trans h1).trans h;replace B3:=(B3.ext h1).ext h;replace NC:=NC w2 (hA.ext e2) (hB.ext e2) (hZ.ext e2);replace E:=e2;go_wp2_with (first | (go_at_call 171;(with_reducible refine zc (NC) ?_);rintro e wt ⟨rfl,ht⟩;replace E:=E.trans ht;replace B3:=B3.ext ht;have f0:=B3.frozen 0;have f1:=B3.frozen 1;obtain ⟨x0,x1⟩:=B3.c2;have lx:=B3.lt) | (go_at_fn 171;(with_reducible refine zc (NC) ?_);rintro e wt ⟨rfl,ht⟩;replace E:=E.trans ht;replace B3:=B3.ext ht;have f0:=B3.frozen 0;have f1:=B3.frozen 1;obtain ⟨x0,x1⟩:=B3.c2;have lx:=B3.lt));have H4:=Qo B3 (.int .i64 Rn) (.int .i64 Rd);have EF:=(E.setCell (p:=⟨b3,0,none⟩) hbr (.int .i64 Rn)).setCell (p:=⟨b3,1,none⟩) hbr (.int .i64 Rd)
   obtain ⟨y0,y1⟩:=H4.c2;go_wp2;refine bodyPost_ret (v:=.tuple #[.agg #[.int .i64 Rn,.int .i64 Rd],.int .i64 Re]) Zf rfl ⟨rfl,EF⟩
theorem Qhn (a b : Rt) (hia : a.In) (hib : b.In) (w : World) (hZ : Jc w) :
  Calls Tryz.prog 137 #[.agg #[.int .i64 a.n,.int .i64 a.d],.agg #[.int .i64 b.n,.int .i64 b.d]] w fun e w' => e = .returned (.tuple #[.agg #[.int .i64 (Yn a b).1.n,.int .i64 (Yn a b).1.d],.int .i64 (Yn a b).2]) ∧ Qc w w':=by
 have NC:=fun ba bb w h1 h2 z => Qf7 a b hia hib ba bb w h1 h2 z
 obtain ⟨R,hR0⟩:=Qe (Yn a b);rw [← hR0];have HR:=zh hR0;clear hR0;rw [show Yn a b = R from HR.out.symm] at NC;clear HR
 go_enter Tryz.func137,Tryz.ntmps137
 go_upto_region 1 with fail
 obtain ⟨v,b1,b2,b3,E,B1,B2,B3,hbr1,hbr2,hbr,hn21,hn31,hn32,hv,hb1,hb2,hb3⟩:=Up w 65 #[.int .i64 a.n,.int .i64 a.d] 65 #[.int .i64 b.n,.int .i64 b.d] 65 #[.int .i64 0,.int .i64 0];rw [← hv,← hb3,← hb2,← hb1];clear hv hb1 hb2 hb3;have Z0:=hZ.ext E;obtain ⟨k0,k1,lk⟩:=Qb.d2 B1;obtain ⟨p0,p1,lp⟩:=Qb.d2 B2;obtain ⟨⟨Rn,Rd⟩,Re⟩:=R;go_wp2_with (first | (go_at_call 132;refine zc (NC _ _ _ B1 B2 Z0) ?_;rintro e wt ⟨rfl,ht⟩;replace E:=E.trans ht;replace B3:=B3.ext ht;have f0:=B3.frozen 0;have f1:=B3.frozen 1;obtain ⟨x0,x1⟩:=B3.c2;have lx:=B3.lt));have H4:=Qo B3 (.int .i64 Rn) (.int .i64 Rd);have EF:=(E.setCell (p:=⟨b3,0,none⟩) hbr (.int .i64 Rn)).setCell (p:=⟨b3,1,none⟩) hbr (.int .i64 Rd)
 obtain ⟨y0,y1⟩:=H4.c2;go_wp2;refine bodyPost_ret (v:=.tuple #[.agg #[.int .i64 Rn,.int .i64 Rd],.int .i64 Re]) Zf rfl ⟨rfl,EF⟩
end
end Go.Proofs.YtoflcheopfppoaaGreatDoor
