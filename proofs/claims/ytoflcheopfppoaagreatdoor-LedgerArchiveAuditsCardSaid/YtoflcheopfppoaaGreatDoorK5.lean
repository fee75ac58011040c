/- Walks and plain facts, packed; no conditions but those that each states. -/
import Derived.Test.YtoflcheopfppoaaGreatDoorK4
set_option maxRecDepth 100000
set_option maxHeartbeats 4000000
namespace Go.Proofs.YtoflcheopfppoaaGreatDoor
section
open Go Go.RowKit Go.Shelf
attribute [local go_sem] Z8
structure Q7 (S : List Nat) (w w' : World) : Prop where
 base : ∀ B,B ≤ w.heap.size → (∀ k,k ∈ S → B ≤ k) → Below B w w'
 keep : ∀ k,k < w.heap.size → k ∉ S → w'.heap[k]? = w.heap[k]?
 size : w.heap.size ≤ w'.heap.size
namespace Q7
variable {S T : List Nat} {a b c W : World}
theorem of_ext (h : Qc a b) : Q7 S a b:=⟨fun _ hB _ => Below.mono h hB,fun _ hk _ => h.block hk,h.size⟩
theorem refl (a : World) : Q7 S a a:=of_ext (Qc.refl a)
theorem trans (h : Q7 S a b) (k : Q7 S b c) : Q7 S a c :=
 ⟨fun B hB hS => Below.trans (h.base B hB hS) (k.base B (Nat.le_trans hB h.size) hS),fun j hj hjS => (k.keep j (Nat.lt_of_lt_of_le hj h.size) hjS).trans (h.keep j hj hjS),Nat.le_trans h.size k.size⟩
theorem set (a : World) {b : Nat} (hb : b ∈ S) (j : Nat) (u : Value) : Q7 S a (a.setCell ⟨b,j,none⟩ u) :=
 ⟨fun B hB hS => Below.setCell (Below.refl B a) (p:=⟨b,j,none⟩) (hS b hb) u,fun k _ hk => Below.heap_setCell _ _ _ k (fun e => hk (by have e' : k = b:=e;rw [e'];exact hb)),(KeepsWalks.setCell a _ u).size⟩
theorem mono (h : Q7 S a b) (hs : ∀ k,k ∈ S → k ∈ T) : Q7 T a b:=⟨fun B hB hT => h.base B hB fun k hk => hT k (hs k hk),fun k hk hkT => h.keep k hk fun h' => hkT (hs k h'),h.size⟩
theorem ext (h : Q7 S a b) (e : Qc W a) (hS : ∀ k,k ∈ S → W.heap.size ≤ k) : Qc W b:=Below.trans e (h.base W.heap.size e.size hS)
theorem held (h : Q7 S a b) {k : Nat} {t : TypeId} {cs : Array Value} (hk : Qb a k t cs) (hS : k ∉ S) : Qb b k t cs:=(h.keep k hk.lt hS).trans hk
theorem far1 (h : Q7 S a b) {k : Nat} (hk : a.heap.size ≤ k) (j : Nat) (u : Value) : Q7 S a (b.setCell ⟨k,j,none⟩ u) :=
 ⟨fun B hB hS => Below.setCell (h.base B hB hS) (p:=⟨k,j,none⟩) (Nat.le_trans hB hk) u,fun i hi hiS => (Below.heap_setCell _ _ _ i (fun e => by have e' : i = k:=e;omega)).trans (h.keep i hi hiS),Nat.le_trans h.size (KeepsWalks.setCell b _ u).size⟩
theorem far (h : Q7 S a b) {k : Nat} (hk : a.heap.size ≤ k) (i j : Nat) (u v : Value) : Q7 S a ((b.setCell ⟨k,i,none⟩ u).setCell ⟨k,j,none⟩ v):=(h.far1 hk i u).far1 hk j v
end Q7
theorem Wc {W w : World} (h : Qc W w) (t : TypeId) (cs : Array Value) : ∃ b,b = w.heap.size ∧ Qb (w.alloc (.cells cs t)) b t cs ∧ Qc W (w.alloc (.cells cs t)) ∧ W.heap.size ≤ b:=⟨_,rfl,Qb.new w t cs,h.alloc _,h.size⟩
def Ev (A : Nat → Act) (S : World → Nat → Prop) : Exit → Act → World → Prop:=fun e a' w' => e = .normal ∧ ∃ r,S w' r ∧ a' = A r
theorem Yw {A : Nat → Act} {S : World → Nat → Prop} {w' : World} (r : Nat) {a' : Act} (h : S w' r) (ha : a' = A r) : Ev A S .normal a' w':=⟨rfl,r,h,ha⟩
theorem K0 {P : Program} {c : Code} {Q : Exit → Act → World → Prop} {a : Act} {w : World} {A : Nat → Act} (S : World → Nat → Prop) (h1 : c.wp P (Ev A S) a w) (h2 : ∀ r w',S w' r → Q .normal (A r) w') : c.wp P Q a w :=
 Code.wp_mono (fun e a' w' ⟨he,r,hs,ha⟩ => by subst he;subst ha;exact h2 r w' hs) h1
section
variable {W : World} {b : Nat} {t : TypeId} {v0 v1 v2 v3 v4 v5 : Value}
theorem Pp (h : Qb W b t #[v0,v1,v2,v3,v4,v5]) (u0 u1 : Value) : Qb ((W.setCell ⟨b,0,none⟩ u0).setCell ⟨b,1,none⟩ u1) b t #[u0,u1,v2,v3,v4,v5]:=by unfold Qb at h ⊢;simp [World.setCell,Array.getElem?_modify,h]
theorem Fd (h : Qb W b t #[v0,v1,v2,v3,v4,v5]) (u0 u1 : Value) : Qb ((W.setCell ⟨b,2,none⟩ u0).setCell ⟨b,3,none⟩ u1) b t #[v0,v1,u0,u1,v4,v5]:=by unfold Qb at h ⊢;simp [World.setCell,Array.getElem?_modify,h]
theorem Qix (h : Qb W b t #[v0,v1,v2,v3,v4,v5]) (u0 u1 : Value) : Qb ((W.setCell ⟨b,4,none⟩ u0).setCell ⟨b,5,none⟩ u1) b t #[v0,v1,v2,v3,u0,u1]:=by unfold Qb at h ⊢;simp [World.setCell,Array.getElem?_modify,h]
theorem Qac (h : Qb W b t #[v0,v1,v2,v3]) (u0 u1 u2 u3 : Value) : Qb ((((W.setCell ⟨b,0,none⟩ u0).setCell ⟨b,1,none⟩ u1).setCell ⟨b,2,none⟩ u2).setCell ⟨b,3,none⟩ u3) b t #[u0,u1,u2,u3]:=by unfold Qb at h ⊢;simp [World.setCell,Array.getElem?_modify,h]
end
theorem Ru {neg : Bool} {P Q : Nat} (hQ : 1 ≤ Q) : (J2 neg P Q).1.In:=by
 by_cases h : (J2 neg P Q).2 = 0
 ·exact Qcl (Dp hQ h).1
 ·unfold J2 at h ⊢;by_cases hb : P / Nat.gcd P Q ≤ 1099511627776 ∧ Q / Nat.gcd P Q ≤ 1048576
  ·rw [if_pos hb] at h;exact absurd rfl h
  ·rw [if_neg hb];unfold Rt.In Zr;decide
theorem Xw : Zr.In:=by unfold Rt.In Zr;decide
theorem Vk : (J8 0).In:=by unfold Rt.In J8;decide
theorem Qc8 {n d : Int} (hd : 1 ≤ d) : (Ye n d).1.In:=by unfold Ye;rw [if_neg Qa];exact Ru Qa
theorem K8 (a b : Rt) : (Zs a b).1.In:=by
 unfold Zs;by_cases h : a.ok && b.ok
 ·rw [if_pos h];obtain ⟨h1,h2⟩:=Bool.and_eq_true_iff.1 h;exact Qc8 (Vh h1 h2).2.2.1
 ·rw [if_neg h];exact Xw
theorem Qd1 (a b : Rt) : (Jt a b).1.In:=by
 unfold Jt;by_cases h : a.ok && b.ok
 ·rw [if_pos h];obtain ⟨h1,h2⟩:=Bool.and_eq_true_iff.1 h;exact Qc8 (Vh h1 h2).2.2.1
 ·rw [if_neg h];exact Xw
theorem Qjm (p r : Rt) (k : Int) : (Yc p r k).1.In:=by
 unfold Yc;by_cases h : p.nn && r.nn
 ·rw [if_pos h];obtain ⟨h1,h2⟩:=Bool.and_eq_true_iff.1 h;by_cases hk : k < 0 ∨ 1099511627776 < k
  ·rw [if_pos hk];exact Xw
  ·rw [if_neg hk];exact Ru (Nr 4 fun i hi => by have:=(Yl (Ik (k:=k) (Kr h1).1 (Kr h2).1 Qa Qa i hi)).1;omega)
 ·rw [if_neg h];exact Xw
theorem Rq {x n : Rt} : (Zo x n).1.1.In ∧ (Zo x n).1.2.In:=by
 unfold Zo
 split
 ·exact ⟨Qd1 _ _,Vk⟩
 ·exact ⟨Vk,Qd1 _ _⟩
structure Db.In (x : Db) : Prop where
 p : x.p.In
 i : x.i.In
 s : x.s.In
theorem X9 (r : Rt) (f ee : Int) (be : Nat) (w : World) (hE : Qb w be 29 #[.int .i64 ee]) :
  Calls Tryz.prog 117 #[.agg #[.int .i64 r.n,.int .i64 r.d],.int .i64 f,.pointer (some ⟨be,0,none⟩)] w fun e w' => e = .returned (.agg #[.int .i64 r.n,.int .i64 r.d]) ∧ Q7 [be] w w' ∧ Qb w' be 29 #[.int .i64 (if ee = 0 then f else ee)]:=by
 by_cases h0 : ee = 0
 ·have g1 : (ee == 0) = true := by rw [h0]; rfl
  rw [if_pos h0];subst h0
  go_enter Tryz.func117,Tryz.ntmps117
  go_upto_region 1 with fail
  obtain ⟨v,b1,b2,E,B1,B2,hbr1,hbr,hn21,hv,hb1,hb2⟩:=Jy w 65 #[.int .i64 r.n,.int .i64 r.d] 65 #[.int .i64 0,.int .i64 0];rw [← hv,← hb2,← hb1];clear hv hb1 hb2;have H1:=hE.ext E;have hne : b2 ≠ be:=by have:=hE.lt;omega
  obtain ⟨k0,k1,lk⟩:=Qb.d2 B1;have f9:=H1.frozen 0;have k9:=H1.c1;have l9:=H1.lt;have H5 : Qb (v.setCell ⟨be,0,none⟩ (.int .i64 f)) be 29 #[.int .i64 f]:=by unfold Qb at H1 ⊢;simp [World.setCell,Array.getElem?_modify,H1]
  have O1 : Q7 [be] w (v.setCell ⟨be,0,none⟩ (.int .i64 f)):=(Q7.of_ext E).trans (Q7.set v (List.mem_singleton.2 rfl) 0 _);have B22:=Qg B2 hne 0 (.int .i64 f);have B12:=Qg B1 (show b1 ≠ be by have:=hE.lt;have:=hbr1;omega) 0 (.int .i64 f);go_upto_region 3 with fail
  generalize World.setCell v _ _ = vq at *;clear f9 k9 l9 k0 k1 lk;obtain ⟨k0,k1,lk⟩:=Qb.d2 B12;obtain ⟨f0,f1,x0,x1,lx⟩:=Qb.e2 B22;have H4:=Qo B22 (.int .i64 r.n) (.int .i64 r.d);have HF:=Qg (Qg H5 (Ne.symm hne) 0 (.int .i64 r.n)) (Ne.symm hne) 1 (.int .i64 r.d);have OF : Q7 [be] w ((vq.setCell ⟨b2,0,none⟩ (.int .i64 r.n)).setCell ⟨b2,1,none⟩ (.int .i64 r.d)):=O1.far Qa 0 1 _ _;obtain ⟨y0,y1⟩:=H4.c2;go_wp2;refine bodyPost_ret (v:=.agg #[.int .i64 r.n,.int .i64 r.d]) Zf rfl ⟨rfl,OF,HF⟩
 ·have g1 : (ee == 0) = false:=zb h0;rw [if_neg h0]
  go_enter Tryz.func117,Tryz.ntmps117
  go_upto_region 1 with fail
  obtain ⟨v,b1,b2,E,B1,B2,hbr1,hbr,hn21,hv,hb1,hb2⟩:=Jy w 65 #[.int .i64 r.n,.int .i64 r.d] 65 #[.int .i64 0,.int .i64 0];rw [← hv,← hb2,← hb1];clear hv hb1 hb2;have H1:=hE.ext E;have hne : b2 ≠ be:=by have:=hE.lt;omega
  obtain ⟨k0,k1,lk⟩:=Qb.d2 B1;have k9:=H1.c1;have l9:=H1.lt;have O1 : Q7 [be] w v:=Q7.of_ext E;obtain ⟨f0,f1,x0,x1,lx⟩:=Qb.e2 B2;have H4:=Qo B2 (.int .i64 r.n) (.int .i64 r.d);have HF:=Qg (Qg H1 (Ne.symm hne) 0 (.int .i64 r.n)) (Ne.symm hne) 1 (.int .i64 r.d);have OF : Q7 [be] w ((v.setCell ⟨b2,0,none⟩ (.int .i64 r.n)).setCell ⟨b2,1,none⟩ (.int .i64 r.d)):=O1.far Qa 0 1 _ _;obtain ⟨y0,y1⟩:=H4.c2;go_wp2;refine bodyPost_ret (v:=.agg #[.int .i64 r.n,.int .i64 r.d]) Zf rfl ⟨rfl,OF,HF⟩
theorem Ql9 (X : Db) (n : Rt) (hx : X.i.In) (hn : n.In) (bd : Nat) (w : World) (hD : Qb w bd 72 #[.int .i64 X.p.n,.int .i64 X.p.d,.int .i64 X.i.n,.int .i64 X.i.d,.int .i64 X.s.n,.int .i64 X.s.d]) (hZ : Jc w) :
  Calls Tryz.prog 119 #[.pointer (some ⟨bd,2,none⟩),.agg #[.int .i64 n.n,.int .i64 n.d]] w fun e w' => e = .returned (.tuple #[.agg #[.int .i64 (Zo X.i n).1.2.n,.int .i64 (Zo X.i n).1.2.d],.int .i64 (Zo X.i n).2]) ∧ Q7 [bd] w w' ∧ Qb w' bd 72 #[.int .i64 X.p.n,.int .i64 X.p.d,.int .i64 (Zo X.i n).1.1.n,.int .i64 (Zo X.i n).1.1.d,.int .i64 X.s.n,.int .i64 X.s.d]:=by
 have NL:=fun w => Qa4 n X.i hn hx w
 have N1:=fun w z => Gg X.i n hx hn w z
 have N2:=fun w z => Gg n X.i hn hx w z
 have HP : Hid ((Zo X.i n) = if (Uu n X.i).1 < 0 then (((Jt X.i n).1,J8 0),(Jt X.i n).2) else ((J8 0,(Jt n X.i).1),(Jt n X.i).2)):=rfl;obtain ⟨R,hR0⟩:=Qe (Zo X.i n);rw [← hR0] at HP ⊢;clear hR0;obtain ⟨cb,hcb⟩:=Qe (decide ((Uu n X.i).1 < 0));rw [← hcb] at NL;replace hcb:=zh hcb
 go_enter Tryz.func119,Tryz.ntmps119
 go_upto_region 1 with fail
 obtain ⟨v,b1,b2,E,B1,B2,hbr1,hbr,hn21,hv,hb1,hb2⟩:=Jy w 65 #[.int .i64 n.n,.int .i64 n.d] 65 #[.int .i64 0,.int .i64 0];rw [← hv,← hb2,← hb1];clear hv hb1 hb2;have HD:=hD.ext E;have Z0:=hZ.ext E;have hdw:=hD.lt;have hdn : ∀ b,w.heap.size ≤ b → bd ≠ b:=fun b h => by omega
 obtain ⟨k0,k1,lk⟩:=Qb.d2 B1;obtain ⟨d0,d1,d2,d3,d4,d5,ld⟩:=Qb.d6 HD;go_upto_region 1 with fail
 have m1:=fun x1 => NL x1
 refine Qy v ?_;intro w2 h2;clear m1;obtain ⟨hcbw2,hfbw2,hzbw2,hzw2⟩:=Qv v h2;replace E:=E.trans h2;replace B1:=B1.ext h2;replace B2:=B2.ext h2;replace HD:=HD.ext h2;have Z3:=Z0.ext h2;clear k0 k1 lk d0 d1 d2 d3 d4 d5 ld Z0 hD hZ NL;cases cb
 ·have hR:=HP.out;rw [if_neg (of_decide_eq_false hcb.out.symm)] at hR;clear HP hcb N1;generalize Jt n X.i = S at *;obtain ⟨⟨Sn,Sd⟩,Se⟩:=S;subst hR;go_upto_region 5 with fail
  apply K0 (S:=fun w' b => Qc w2 w' ∧ w2.heap.size ≤ b ∧ Qb w' b 65 #[.int .i64 Sn,.int .i64 Sd])
  ·refine Zc 11 [6,7,9,10] (fun x => Qc w2 x) mixed rfl ?_;intro vz hvz;have HC:=hvz;refine Qs (g:=7) [0,1,2,3] HC ?_
   constructor
   refine ⟨fun u hu => ?_,?_⟩
   ·obtain ⟨k0,k1,lk⟩:=Qb.d2 (B1.ext hu);obtain ⟨d0,d1,d2,d3,d4,d5,ld⟩:=Qb.d6 (HD.ext hu);exact Qk
   refine Zq 4 8 ?_ ?_
   ·go_wp2_with (go_at_call 89;refine zc (N2 _ (Z3.ext HC)) ?_;rintro e wa ⟨rfl,h4⟩);replace HC:=HC.trans h4;clear h4;refine Qf HC ?_;refine Qs (g:=5) [5] HC ?_
    constructor
    refine ⟨fun u hu => ?_,?_⟩
    ·obtain ⟨k0,k1,lk⟩:=Qb.d2 (B1.ext hu);obtain ⟨d0,d1,d2,d3,d4,d5,ld⟩:=Qb.d6 (HD.ext hu);exact Qk
    refine Yg (g:=3) [6,7] ?_
    constructor
    refine ⟨fun u hu => ?_,?_⟩
    ·exact Qk
    refine Qj 8 ?_;go_wp2;obtain ⟨bq,hbq,Q,HC',hge⟩:=Wc HC 65 #[.int .i64 0,.int .i64 0];rw [← hbq];clear hbq;replace HC:=HC';clear HC';refine Qf HC ?_;refine Qr 9 ?_;obtain ⟨f0,f1,z0,z1,lz⟩:=Qb.e2 Q;have Q2:=Qo Q (.int .i64 Sn) (.int .i64 Sd);have HE2:=(HC.setCell (p:=⟨bq,0,none⟩) hge (.int .i64 Sn)).setCell (p:=⟨bq,1,none⟩) hge (.int .i64 Sd);go_wp2;refine Qq ?_;refine Qr 10 ?_;go_wp2;refine Qq ?_;refine Qx ?_;exact Yw bq ⟨HE2,hge,Q2⟩ rfl
   ·go_wp2;obtain ⟨bq,hbq,Q,HC',hge⟩:=Wc HC 65 #[.int .i64 0,.int .i64 0];rw [← hbq];clear hbq;replace HC:=HC';clear HC';refine Qf HC ?_;refine Qj 4 ?_;go_wp2_with (go_at_call 89;refine zc (N2 _ (Z3.ext HC)) ?_;rintro e wa ⟨rfl,h4⟩);replace HC:=HC.trans h4;try replace Q:=Q.ext h4
    clear h4;refine Qf HC ?_;refine Qs (g:=4) [5] HC ?_
    constructor
    refine ⟨fun u hu => ?_,?_⟩
    ·obtain ⟨k0,k1,lk⟩:=Qb.d2 (B1.ext hu);obtain ⟨d0,d1,d2,d3,d4,d5,ld⟩:=Qb.d6 (HD.ext hu);exact Qk
    refine Yg (g:=2) [6,7] ?_
    constructor
    refine ⟨fun u hu => ?_,?_⟩
    ·exact Qk
    refine Qr 9 ?_;obtain ⟨f0,f1,z0,z1,lz⟩:=Qb.e2 Q;have Q2:=Qo Q (.int .i64 Sn) (.int .i64 Sd);have HE2:=(HC.setCell (p:=⟨bq,0,none⟩) hge (.int .i64 Sn)).setCell (p:=⟨bq,1,none⟩) hge (.int .i64 Sd);go_wp2;refine Qq ?_;refine Qr 10 ?_;go_wp2;refine Qq ?_;refine Qx ?_;exact Yw bq ⟨HE2,hge,Q2⟩ rfl
  rintro b6 w3 ⟨E3,hg6,H6⟩;have hw2:=E.size;replace HD:=HD.ext E3;replace B2:=B2.ext E3;replace E:=E.trans E3;have OD : Q7 [bd] w w3:=Q7.of_ext E;clear E3 B1 N2 Z3;obtain ⟨r0,r1,lr⟩:=Qb.d2 H6;have f0:=HD.frozen 2;have f1:=HD.frozen 3;obtain ⟨d0,d1,d2,d3,d4,d5,ld⟩:=Qb.d6 HD;have HD2:=Fd HD (.int .i64 0) (.int .i64 1);have OD2:=(OD.trans (Q7.set w3 (List.mem_singleton.2 rfl) 2 (.int .i64 0))).trans (Q7.set _ (List.mem_singleton.2 rfl) 3 (.int .i64 1));have B22:=Qg (Qg B2 (Ne.symm (hdn b2 hbr)) 2 (.int .i64 0)) (Ne.symm (hdn b2 hbr)) 3 (.int .i64 1);have H62:=Qg (Qg H6 (Ne.symm (hdn b6 Qa)) 2 (.int .i64 0)) (Ne.symm (hdn b6 Qa)) 3 (.int .i64 1)
  clear f0 f1 d0 d1 d2 d3 d4 d5 ld r0 r1 lr HD2 OD2 B22 H62;go_upto_region 6 with fail
  go_upto_region 7 with (go_at_call 72;refine zc (Wv _ _) ?_;rintro e wa ⟨rfl,h4⟩;replace HD:=HD.ext h4;replace B2:=B2.ext h4;replace H6:=H6.ext h4;replace OD:=OD.trans (Q7.of_ext h4);have HD2:=Fd HD (.int .i64 0) (.int .i64 1);have OD2:=(OD.trans (Q7.set _ (List.mem_singleton.2 rfl) 2 (.int .i64 0))).trans (Q7.set _ (List.mem_singleton.2 rfl) 3 (.int .i64 1));have B22:=Qg (Qg B2 (Ne.symm (hdn b2 hbr)) 2 (.int .i64 0)) (Ne.symm (hdn b2 hbr)) 3 (.int .i64 1);have H62:=Qg (Qg H6 (Ne.symm (hdn b6 Qa)) 2 (.int .i64 0)) (Ne.symm (hdn b6 Qa)) 3 (.int .i64 1);have f0:=HD.frozen 2;have f1:=HD.frozen 3;obtain ⟨d0,d1,d2,d3,d4,d5⟩:=HD.c6;have ld:=HD.lt)
  generalize World.setCell _ _ _ = w4 at *;clear f0 f1 d0 d1 d2 d3 d4 d5 ld B2 H6 HD OD h4;have hw4 : w.heap.size ≤ b2:=hbr;obtain ⟨r0,r1,lr⟩:=Qb.d2 H62;obtain ⟨f0,f1,x0,x1,lx⟩:=Qb.e2 B22;have H4:=Qo B22 (.int .i64 Sn) (.int .i64 Sd);have OF:=OD2.far hbr 0 1 (.int .i64 Sn) (.int .i64 Sd);have HF:=Qg (Qg HD2 (hdn b2 hbr) 0 (.int .i64 Sn)) (hdn b2 hbr) 1 (.int .i64 Sd);obtain ⟨y0,y1⟩:=H4.c2;go_wp2;refine bodyPost_ret (v:=.tuple #[.agg #[.int .i64 Sn,.int .i64 Sd],.int .i64 Se]) Zf rfl ⟨rfl,OF,HF⟩
 ·have hR:=HP.out;rw [if_pos (of_decide_eq_true hcb.out.symm)] at hR;clear HP hcb N2;generalize Jt X.i n = S at *;obtain ⟨⟨Sn,Sd⟩,Se⟩:=S;subst hR;go_upto_region 2 with fail
  apply K0 (S:=fun w' b => Qc w2 w' ∧ w2.heap.size ≤ b ∧ Qb w' b 65 #[.int .i64 Sn,.int .i64 Sd])
  ·refine Zc 11 [6,7,9,10] (fun x => Qc w2 x) mixed rfl ?_;intro vz hvz;have HC:=hvz;refine Qs (g:=7) [0,1,2,3] HC ?_
   constructor
   refine ⟨fun u hu => ?_,?_⟩
   ·obtain ⟨k0,k1,lk⟩:=Qb.d2 (B1.ext hu);obtain ⟨d0,d1,d2,d3,d4,d5,ld⟩:=Qb.d6 (HD.ext hu);exact Qk
   refine Zq 4 8 ?_ ?_
   ·go_wp2_with (go_at_call 89;refine zc (N1 _ (Z3.ext HC)) ?_;rintro e wa ⟨rfl,h4⟩);replace HC:=HC.trans h4;clear h4;refine Qf HC ?_;refine Qs (g:=5) [5] HC ?_
    constructor
    refine ⟨fun u hu => ?_,?_⟩
    ·obtain ⟨k0,k1,lk⟩:=Qb.d2 (B1.ext hu);obtain ⟨d0,d1,d2,d3,d4,d5,ld⟩:=Qb.d6 (HD.ext hu);exact Qk
    refine Yg (g:=3) [6,7] ?_
    constructor
    refine ⟨fun u hu => ?_,?_⟩
    ·exact Qk
    refine Qj 8 ?_;go_wp2;obtain ⟨bq,hbq,Q,HC',hge⟩:=Wc HC 65 #[.int .i64 0,.int .i64 0];rw [← hbq];clear hbq;replace HC:=HC';clear HC';refine Qf HC ?_;refine Qr 9 ?_;obtain ⟨f0,f1,z0,z1,lz⟩:=Qb.e2 Q;have Q2:=Qo Q (.int .i64 Sn) (.int .i64 Sd);have HE2:=(HC.setCell (p:=⟨bq,0,none⟩) hge (.int .i64 Sn)).setCell (p:=⟨bq,1,none⟩) hge (.int .i64 Sd);go_wp2;refine Qq ?_;refine Qr 10 ?_;go_wp2;refine Qq ?_;refine Qx ?_;exact Yw bq ⟨HE2,hge,Q2⟩ rfl
   ·go_wp2;obtain ⟨bq,hbq,Q,HC',hge⟩:=Wc HC 65 #[.int .i64 0,.int .i64 0];rw [← hbq];clear hbq;replace HC:=HC';clear HC';refine Qf HC ?_;refine Qj 4 ?_;go_wp2_with (go_at_call 89;refine zc (N1 _ (Z3.ext HC)) ?_;rintro e wa ⟨rfl,h4⟩);replace HC:=HC.trans h4;try replace Q:=Q.ext h4
    clear h4;refine Qf HC ?_;refine Qs (g:=4) [5] HC ?_
    constructor
    refine ⟨fun u hu => ?_,?_⟩
    ·obtain ⟨k0,k1,lk⟩:=Qb.d2 (B1.ext hu);obtain ⟨d0,d1,d2,d3,d4,d5,ld⟩:=Qb.d6 (HD.ext hu);exact Qk
    refine Yg (g:=2) [6,7] ?_
    constructor
    refine ⟨fun u hu => ?_,?_⟩
    ·exact Qk
    refine Qr 9 ?_;obtain ⟨f0,f1,z0,z1,lz⟩:=Qb.e2 Q;have Q2:=Qo Q (.int .i64 Sn) (.int .i64 Sd);have HE2:=(HC.setCell (p:=⟨bq,0,none⟩) hge (.int .i64 Sn)).setCell (p:=⟨bq,1,none⟩) hge (.int .i64 Sd);go_wp2;refine Qq ?_;refine Qr 10 ?_;go_wp2;refine Qq ?_;refine Qx ?_;exact Yw bq ⟨HE2,hge,Q2⟩ rfl
  rintro b6 w3 ⟨E3,hg6,H6⟩;have hw2:=E.size;replace HD:=HD.ext E3;replace B2:=B2.ext E3;replace E:=E.trans E3;have OD : Q7 [bd] w w3:=Q7.of_ext E;clear E3 B1 N1 Z3;obtain ⟨r0,r1,lr⟩:=Qb.d2 H6;have f0:=HD.frozen 2;have f1:=HD.frozen 3;obtain ⟨d0,d1,d2,d3,d4,d5,ld⟩:=Qb.d6 HD;have HD2:=Fd HD (.int .i64 Sn) (.int .i64 Sd);have OD2:=(OD.trans (Q7.set w3 (List.mem_singleton.2 rfl) 2 (.int .i64 Sn))).trans (Q7.set _ (List.mem_singleton.2 rfl) 3 (.int .i64 Sd));have B22:=Qg (Qg B2 (Ne.symm (hdn b2 hbr)) 2 (.int .i64 Sn)) (Ne.symm (hdn b2 hbr)) 3 (.int .i64 Sd);have H62:=Qg (Qg H6 (Ne.symm (hdn b6 Qa)) 2 (.int .i64 Sn)) (Ne.symm (hdn b6 Qa)) 3 (.int .i64 Sd)
  go_upto_region 4 with fail
  generalize World.setCell _ _ _ = w4 at *;clear f0 f1 d0 d1 d2 d3 d4 d5 ld r0 r1 lr B2 H6 HD OD;have hw4 : w.heap.size ≤ b2:=hbr;go_wp2_with (go_at_call 72;refine zc (Wv _ _) ?_;rintro e w5 ⟨rfl,h5⟩;replace OD2:=OD2.trans (Q7.of_ext h5);replace HD2:=HD2.ext h5;replace B22:=B22.ext h5;have f0:=B22.frozen 0;have f1:=B22.frozen 1;obtain ⟨x0,x1⟩:=B22.c2;have lx:=B22.lt);have H4:=Qo B22 (.int .i64 0) (.int .i64 1);have OF:=OD2.far hbr 0 1 (.int .i64 0) (.int .i64 1);have HF:=Qg (Qg HD2 (hdn b2 hbr) 0 (.int .i64 0)) (hdn b2 hbr) 1 (.int .i64 1);obtain ⟨y0,y1⟩:=H4.c2;go_wp2;refine bodyPost_ret (v:=.tuple #[.agg #[.int .i64 0,.int .i64 1],.int .i64 Se]) Zf rfl ⟨rfl,OF,HF⟩
theorem Qma (X : Db) (n : Rt) (hx : X.p.In) (hn : n.In) (bd : Nat) (w : World) (hD : Qb w bd 72 #[.int .i64 X.p.n,.int .i64 X.p.d,.int .i64 X.i.n,.int .i64 X.i.d,.int .i64 X.s.n,.int .i64 X.s.d]) (hZ : Jc w) :
  Calls Tryz.prog 119 #[.pointer (some ⟨bd,0,none⟩),.agg #[.int .i64 n.n,.int .i64 n.d]] w fun e w' => e = .returned (.tuple #[.agg #[.int .i64 (Zo X.p n).1.2.n,.int .i64 (Zo X.p n).1.2.d],.int .i64 (Zo X.p n).2]) ∧ Q7 [bd] w w' ∧ Qb w' bd 72 #[.int .i64 (Zo X.p n).1.1.n,.int .i64 (Zo X.p n).1.1.d,.int .i64 X.i.n,.int .i64 X.i.d,.int .i64 X.s.n,.int .i64 X.s.d]:=by
 have NL:=fun w => Qa4 n X.p hn hx w
 have N1:=fun w z => Gg X.p n hx hn w z
 have N2:=fun w z => Gg n X.p hn hx w z
 have HP : Hid ((Zo X.p n) = if (Uu n X.p).1 < 0 then (((Jt X.p n).1,J8 0),(Jt X.p n).2) else ((J8 0,(Jt n X.p).1),(Jt n X.p).2)):=rfl;obtain ⟨R,hR0⟩:=Qe (Zo X.p n);rw [← hR0] at HP ⊢;clear hR0;obtain ⟨cb,hcb⟩:=Qe (decide ((Uu n X.p).1 < 0));rw [← hcb] at NL;replace hcb:=zh hcb
 go_enter Tryz.func119,Tryz.ntmps119
 go_upto_region 1 with fail
 obtain ⟨v,b1,b2,E,B1,B2,hbr1,hbr,hn21,hv,hb1,hb2⟩:=Jy w 65 #[.int .i64 n.n,.int .i64 n.d] 65 #[.int .i64 0,.int .i64 0];rw [← hv,← hb2,← hb1];clear hv hb1 hb2;have HD:=hD.ext E;have Z0:=hZ.ext E;have hdw:=hD.lt;have hdn : ∀ b,w.heap.size ≤ b → bd ≠ b:=fun b h => by omega
 obtain ⟨k0,k1,lk⟩:=Qb.d2 B1;obtain ⟨d0,d1,d2,d3,d4,d5,ld⟩:=Qb.d6 HD;go_upto_region 1 with fail
 have m1:=fun x1 => NL x1
 refine Qy v ?_;intro w2 h2;clear m1;obtain ⟨hcbw2,hfbw2,hzbw2,hzw2⟩:=Qv v h2;replace E:=E.trans h2;replace B1:=B1.ext h2;replace B2:=B2.ext h2;replace HD:=HD.ext h2;have Z3:=Z0.ext h2;clear k0 k1 lk d0 d1 d2 d3 d4 d5 ld Z0 hD hZ NL;cases cb
 ·have hR:=HP.out;rw [if_neg (of_decide_eq_false hcb.out.symm)] at hR;clear HP hcb N1;generalize Jt n X.p = S at *;obtain ⟨⟨Sn,Sd⟩,Se⟩:=S;subst hR;go_upto_region 5 with fail
  apply K0 (S:=fun w' b => Qc w2 w' ∧ w2.heap.size ≤ b ∧ Qb w' b 65 #[.int .i64 Sn,.int .i64 Sd])
  ·refine Zc 11 [6,7,9,10] (fun x => Qc w2 x) mixed rfl ?_;intro vz hvz;have HC:=hvz;refine Qs (g:=7) [0,1,2,3] HC ?_
   constructor
   refine ⟨fun u hu => ?_,?_⟩
   ·obtain ⟨k0,k1,lk⟩:=Qb.d2 (B1.ext hu);obtain ⟨d0,d1,d2,d3,d4,d5,ld⟩:=Qb.d6 (HD.ext hu);exact Qk
   refine Zq 4 8 ?_ ?_
   ·go_wp2_with (go_at_call 89;refine zc (N2 _ (Z3.ext HC)) ?_;rintro e wa ⟨rfl,h4⟩);replace HC:=HC.trans h4;clear h4;refine Qf HC ?_;refine Qs (g:=5) [5] HC ?_
    constructor
    refine ⟨fun u hu => ?_,?_⟩
    ·obtain ⟨k0,k1,lk⟩:=Qb.d2 (B1.ext hu);obtain ⟨d0,d1,d2,d3,d4,d5,ld⟩:=Qb.d6 (HD.ext hu);exact Qk
    refine Yg (g:=3) [6,7] ?_
    constructor
    refine ⟨fun u hu => ?_,?_⟩
    ·exact Qk
    refine Qj 8 ?_;go_wp2;obtain ⟨bq,hbq,Q,HC',hge⟩:=Wc HC 65 #[.int .i64 0,.int .i64 0];rw [← hbq];clear hbq;replace HC:=HC';clear HC';refine Qf HC ?_;refine Qr 9 ?_;obtain ⟨f0,f1,z0,z1,lz⟩:=Qb.e2 Q;have Q2:=Qo Q (.int .i64 Sn) (.int .i64 Sd);have HE2:=(HC.setCell (p:=⟨bq,0,none⟩) hge (.int .i64 Sn)).setCell (p:=⟨bq,1,none⟩) hge (.int .i64 Sd);go_wp2;refine Qq ?_;refine Qr 10 ?_;go_wp2;refine Qq ?_;refine Qx ?_;exact Yw bq ⟨HE2,hge,Q2⟩ rfl
   ·go_wp2;obtain ⟨bq,hbq,Q,HC',hge⟩:=Wc HC 65 #[.int .i64 0,.int .i64 0];rw [← hbq];clear hbq;replace HC:=HC';clear HC';refine Qf HC ?_;refine Qj 4 ?_;go_wp2_with (go_at_call 89;refine zc (N2 _ (Z3.ext HC)) ?_;rintro e wa ⟨rfl,h4⟩);replace HC:=HC.trans h4;try replace Q:=Q.ext h4
    clear h4;refine Qf HC ?_;refine Qs (g:=4) [5] HC ?_
    constructor
    refine ⟨fun u hu => ?_,?_⟩
    ·obtain ⟨k0,k1,lk⟩:=Qb.d2 (B1.ext hu);obtain ⟨d0,d1,d2,d3,d4,d5,ld⟩:=Qb.d6 (HD.ext hu);exact Qk
    refine Yg (g:=2) [6,7] ?_
    constructor
    refine ⟨fun u hu => ?_,?_⟩
    ·exact Qk
    refine Qr 9 ?_;obtain ⟨f0,f1,z0,z1,lz⟩:=Qb.e2 Q;have Q2:=Qo Q (.int .i64 Sn) (.int .i64 Sd);have HE2:=(HC.setCell (p:=⟨bq,0,none⟩) hge (.int .i64 Sn)).setCell (p:=⟨bq,1,none⟩) hge (.int .i64 Sd);go_wp2;refine Qq ?_;refine Qr 10 ?_;go_wp2;refine Qq ?_;refine Qx ?_;exact Yw bq ⟨HE2,hge,Q2⟩ rfl
  rintro b6 w3 ⟨E3,hg6,H6⟩;have hw2:=E.size;replace HD:=HD.ext E3;replace B2:=B2.ext E3;replace E:=E.trans E3;have OD : Q7 [bd] w w3:=Q7.of_ext E;clear E3 B1 N2 Z3;obtain ⟨r0,r1,lr⟩:=Qb.d2 H6;have f0:=HD.frozen 0;have f1:=HD.frozen 1;obtain ⟨d0,d1,d2,d3,d4,d5,ld⟩:=Qb.d6 HD;have HD2:=Pp HD (.int .i64 0) (.int .i64 1);have OD2:=(OD.trans (Q7.set w3 (List.mem_singleton.2 rfl) 0 (.int .i64 0))).trans (Q7.set _ (List.mem_singleton.2 rfl) 1 (.int .i64 1));have B22:=Qg (Qg B2 (Ne.symm (hdn b2 hbr)) 0 (.int .i64 0)) (Ne.symm (hdn b2 hbr)) 1 (.int .i64 1);have H62:=Qg (Qg H6 (Ne.symm (hdn b6 Qa)) 0 (.int .i64 0)) (Ne.symm (hdn b6 Qa)) 1 (.int .i64 1)
  clear f0 f1 d0 d1 d2 d3 d4 d5 ld r0 r1 lr HD2 OD2 B22 H62;go_upto_region 6 with fail
  go_upto_region 7 with (go_at_call 72;refine zc (Wv _ _) ?_;rintro e wa ⟨rfl,h4⟩;replace HD:=HD.ext h4;replace B2:=B2.ext h4;replace H6:=H6.ext h4;replace OD:=OD.trans (Q7.of_ext h4);have HD2:=Pp HD (.int .i64 0) (.int .i64 1);have OD2:=(OD.trans (Q7.set _ (List.mem_singleton.2 rfl) 0 (.int .i64 0))).trans (Q7.set _ (List.mem_singleton.2 rfl) 1 (.int .i64 1));have B22:=Qg (Qg B2 (Ne.symm (hdn b2 hbr)) 0 (.int .i64 0)) (Ne.symm (hdn b2 hbr)) 1 (.int .i64 1);have H62:=Qg (Qg H6 (Ne.symm (hdn b6 Qa)) 0 (.int .i64 0)) (Ne.symm (hdn b6 Qa)) 1 (.int .i64 1);have f0:=HD.frozen 0;have f1:=HD.frozen 1;obtain ⟨d0,d1,d2,d3,d4,d5⟩:=HD.c6;have ld:=HD.lt)
  generalize World.setCell _ _ _ = w4 at *;clear f0 f1 d0 d1 d2 d3 d4 d5 ld B2 H6 HD OD h4;have hw4 : w.heap.size ≤ b2:=hbr;obtain ⟨r0,r1,lr⟩:=Qb.d2 H62;obtain ⟨f0,f1,x0,x1,lx⟩:=Qb.e2 B22;have H4:=Qo B22 (.int .i64 Sn) (.int .i64 Sd);have OF:=OD2.far hbr 0 1 (.int .i64 Sn) (.int .i64 Sd);have HF:=Qg (Qg HD2 (hdn b2 hbr) 0 (.int .i64 Sn)) (hdn b2 hbr) 1 (.int .i64 Sd);obtain ⟨y0,y1⟩:=H4.c2;go_wp2;refine bodyPost_ret (v:=.tuple #[.agg #[.int .i64 Sn,.int .i64 Sd],.int .i64 Se]) Zf rfl ⟨rfl,OF,HF⟩
 ·have hR:=HP.out;rw [if_pos (of_decide_eq_true hcb.out.symm)] at hR;clear HP hcb N2;generalize Jt X.p n = S at *;obtain ⟨⟨Sn,Sd⟩,Se⟩:=S;subst hR;go_upto_region 2 with fail
  apply K0 (S:=fun w' b => Qc w2 w' ∧ w2.heap.size ≤ b ∧ Qb w' b 65 #[.int .i64 Sn,.int .i64 Sd])
  ·refine Zc 11 [6,7,9,10] (fun x => Qc w2 x) mixed rfl ?_;intro vz hvz;have HC:=hvz;refine Qs (g:=7) [0,1,2,3] HC ?_
   constructor
   refine ⟨fun u hu => ?_,?_⟩
   ·obtain ⟨k0,k1,lk⟩:=Qb.d2 (B1.ext hu);obtain ⟨d0,d1,d2,d3,d4,d5,ld⟩:=Qb.d6 (HD.ext hu);exact Qk
   refine Zq 4 8 ?_ ?_
   ·go_wp2_with (go_at_call 89;refine zc (N1 _ (Z3.ext HC)) ?_;rintro e wa ⟨rfl,h4⟩);replace HC:=HC.trans h4;clear h4;refine Qf HC ?_;refine Qs (g:=5) [5] HC ?_
    constructor
    refine ⟨fun u hu => ?_,?_⟩
    ·obtain ⟨k0,k1,lk⟩:=Qb.d2 (B1.ext hu);obtain ⟨d0,d1,d2,d3,d4,d5,ld⟩:=Qb.d6 (HD.ext hu);exact Qk
    refine Yg (g:=3) [6,7] ?_
    constructor
    refine ⟨fun u hu => ?_,?_⟩
    ·exact Qk
    refine Qj 8 ?_;go_wp2;obtain ⟨bq,hbq,Q,HC',hge⟩:=Wc HC 65 #[.int .i64 0,.int .i64 0];rw [← hbq];clear hbq;replace HC:=HC';clear HC';refine Qf HC ?_;refine Qr 9 ?_;obtain ⟨f0,f1,z0,z1,lz⟩:=Qb.e2 Q;have Q2:=Qo Q (.int .i64 Sn) (.int .i64 Sd);have HE2:=(HC.setCell (p:=⟨bq,0,none⟩) hge (.int .i64 Sn)).setCell (p:=⟨bq,1,none⟩) hge (.int .i64 Sd);go_wp2;refine Qq ?_;refine Qr 10 ?_;go_wp2;refine Qq ?_;refine Qx ?_;exact Yw bq ⟨HE2,hge,Q2⟩ rfl
   ·go_wp2;obtain ⟨bq,hbq,Q,HC',hge⟩:=Wc HC 65 #[.int .i64 0,.int .i64 0];rw [← hbq];clear hbq;replace HC:=HC';clear HC';refine Qf HC ?_;refine Qj 4 ?_;go_wp2_with (go_at_call 89;refine zc (N1 _ (Z3.ext HC)) ?_;rintro e wa ⟨rfl,h4⟩);replace HC:=HC.trans h4;try replace Q:=Q.ext h4
    clear h4;refine Qf HC ?_;refine Qs (g:=4) [5] HC ?_
    constructor
    refine ⟨fun u hu => ?_,?_⟩
    ·obtain ⟨k0,k1,lk⟩:=Qb.d2 (B1.ext hu);obtain ⟨d0,d1,d2,d3,d4,d5,ld⟩:=Qb.d6 (HD.ext hu);exact Qk
    refine Yg (g:=2) [6,7] ?_
    constructor
    refine ⟨fun u hu => ?_,?_⟩
    ·exact Qk
    refine Qr 9 ?_;obtain ⟨f0,f1,z0,z1,lz⟩:=Qb.e2 Q;have Q2:=Qo Q (.int .i64 Sn) (.int .i64 Sd);have HE2:=(HC.setCell (p:=⟨bq,0,none⟩) hge (.int .i64 Sn)).setCell (p:=⟨bq,1,none⟩) hge (.int .i64 Sd);go_wp2;refine Qq ?_;refine Qr 10 ?_;go_wp2;refine Qq ?_;refine Qx ?_;exact Yw bq ⟨HE2,hge,Q2⟩ rfl
  rintro b6 w3 ⟨E3,hg6,H6⟩;have hw2:=E.size;replace HD:=HD.ext E3;replace B2:=B2.ext E3;replace E:=E.trans E3;have OD : Q7 [bd] w w3:=Q7.of_ext E;clear E3 B1 N1 Z3;obtain ⟨r0,r1,lr⟩:=Qb.d2 H6;have f0:=HD.frozen 0;have f1:=HD.frozen 1;obtain ⟨d0,d1,d2,d3,d4,d5,ld⟩:=Qb.d6 HD;have HD2:=Pp HD (.int .i64 Sn) (.int .i64 Sd);have OD2:=(OD.trans (Q7.set w3 (List.mem_singleton.2 rfl) 0 (.int .i64 Sn))).trans (Q7.set _ (List.mem_singleton.2 rfl) 1 (.int .i64 Sd));have B22:=Qg (Qg B2 (Ne.symm (hdn b2 hbr)) 0 (.int .i64 Sn)) (Ne.symm (hdn b2 hbr)) 1 (.int .i64 Sd);have H62:=Qg (Qg H6 (Ne.symm (hdn b6 Qa)) 0 (.int .i64 Sn)) (Ne.symm (hdn b6 Qa)) 1 (.int .i64 Sd)
  go_upto_region 4 with fail
  generalize World.setCell _ _ _ = w4 at *;clear f0 f1 d0 d1 d2 d3 d4 d5 ld r0 r1 lr B2 H6 HD OD;have hw4 : w.heap.size ≤ b2:=hbr;go_wp2_with (go_at_call 72;refine zc (Wv _ _) ?_;rintro e w5 ⟨rfl,h5⟩;replace OD2:=OD2.trans (Q7.of_ext h5);replace HD2:=HD2.ext h5;replace B22:=B22.ext h5;have f0:=B22.frozen 0;have f1:=B22.frozen 1;obtain ⟨x0,x1⟩:=B22.c2;have lx:=B22.lt);have H4:=Qo B22 (.int .i64 0) (.int .i64 1);have OF:=OD2.far hbr 0 1 (.int .i64 0) (.int .i64 1);have HF:=Qg (Qg HD2 (hdn b2 hbr) 0 (.int .i64 0)) (hdn b2 hbr) 1 (.int .i64 1);obtain ⟨y0,y1⟩:=H4.c2;go_wp2;refine bodyPost_ret (v:=.tuple #[.agg #[.int .i64 0,.int .i64 1],.int .i64 Se]) Zf rfl ⟨rfl,OF,HF⟩
end
section
/-! ### Days and schematic days -/
theorem Qlr {c : Qd} {d : Dt} (hv : c.valid = true) : c.numV d = 0 ↔ c.has d = false:=by
 unfold Qd.numV Qd.inE;rw [if_pos hv];cases h : c.has d
 ·simp
 ·have:=(Qci h).1
  simp;omega
theorem Rj {c : Qd} {d : Dt} (hv : c.valid = true) (h : c.numV d ≠ 0) : c.has d = true ∧ c.numV d = (c.num d).1 ∧ 1 ≤ c.numV d:=by
 have hh : c.has d = true:=by
  cases e : c.has d
  ·exact absurd ((Qlr hv).2 e) h
  ·rfl
 have e : c.numV d = (c.num d).1:=by unfold Qd.numV Qd.inE;rw [if_pos hv,hh];rfl
 exact ⟨hh,e,by rw [e];exact (Qci hh).1⟩
theorem R9 {c : Qd} {a b : Dt} (hv : c.valid = true) (ha : c.has a = true) (hb : c.has b = true) : c.schV a b = 30 * ((c.num b).2 - (c.num a).2) + b.d - a.d:=by
 unfold Qd.schV Qd.in2E;rw [if_pos hv,ha,hb];rfl
theorem Qcj {c : Qd} (h : c.valid = true) : c.ny ≤ 400:=by
 simp only [Qd.valid,Bool.and_eq_true,decide_eq_true_eq] at h;exact h.1.2
theorem Ks {c : Qd} {d : Dt} (hv : c.valid = true) (h : c.has d = true) : 0 ≤ (c.num d).2 ∧ (c.num d).2 ≤ 5200 ∧ 1 ≤ d.d ∧ d.d ≤ 30:=by
 obtain ⟨i,x,hx,_,hn,h1,h2⟩:=Hk h;have hl:=Ou c c.ny;have hny:=Qcj hv;have hi:=(List.getElem?_eq_some_iff.1 hx).1;have hil : c.items.length ≤ 13 * c.ny:=hl;have:=Ux (c.yr x.y) x.n x.s;have e : x.len c = (c.yr x.y).len x.n x.s:=rfl;rw [hn]
 simp only
 omega
theorem sch_bd {c : Qd} {a b : Dt} (hv : c.valid = true) (ha : c.numV a ≠ 0) (hb : c.numV b ≠ 0) (h : c.numV a ≤ c.numV b) : 0 ≤ c.schV a b ∧ c.schV a b ≤ 1099511627775:=by
 obtain ⟨ka,ea,_⟩:=Rj hv ha;obtain ⟨kb,eb,_⟩:=Rj hv hb;obtain ⟨_,_,o3,o4⟩:=Rl ka kb;have na:=Ks hv ka;have nb:=Ks hv kb;rw [R9 hv ka kb];rw [ea,eb] at h;refine ⟨?_,by omega⟩;rcases Int.lt_or_eq_of_le h with h1 | h1
 ·have:=o3 h1;omega
 ·have:=o4 h1;omega
/-! ### Ratios that exist are what comes out -/
theorem Qca {r : Rt} (h : r.ok = true) : 0 ≤ r.n ↔ (0 : Rat) ≤ r.val:=by
 have h1:=Hz (Yl h).1
 have e : r.val < 0 ↔ r.n < 0:=by
  unfold Rt.val;rw [Rat.div_lt_iff h1,Rat.zero_mul]
  constructor
  ·intro h;exact_mod_cast h
  ·intro h;exact_mod_cast h
 rw [← Rat.not_lt,e];omega
theorem Qpc : (J8 0).ok = true:=Qep (by decide) (by decide)
theorem Qpe : (J8 0).val = 0:=by rw [Qmx];rfl
theorem Qb9 {r : Rt} (h : r.ok = true) (h2 : (0 : Rat) ≤ r.val) : r.nn = true:=by
 unfold Rt.nn;rw [h];simpa using (Qca h).2 h2
theorem Qb8 {r : Rt} (h : r.nn = true) : (0 : Rat) ≤ r.val:=(Qca (Kr h).1).1 (Kr h).2
theorem Qe7 {a b : Rt} (h : (Zs a b).2 = 0) (ha : a.nn = true) (hb : b.nn = true) : (Zs a b).1.nn = true:=by
 have h1:=Qb8 ha;have h2:=Qb8 hb;exact Qb9 (Cl h).2.2.1 (by rw [Qe8 h];grind)
structure Db.Nn (x : Db) : Prop where
 p : x.p.nn = true
 i : x.i.nn = true
 s : x.s.nn = true
/-! ### The payments, one after the other -/
theorem Qlq {c : Qd} {d : Dt} (hv : c.valid = true) : 0 ≤ c.numV d:=by
 by_cases h : c.numV d = 0
 ·omega
 ·have:=(Rj hv h).2.2;omega
/-! ### What the laws say -/
end
section
open Go Go.RowKit Go.Shelf
attribute [local go_sem] Z8
theorem sch_lo (c : Qd) (a b : Dt) : -9223372036854775808 ≤ c.schV a b:=by
 by_cases h : c.in2E a b = 0
 ·have hv : c.valid = true:=by
   rcases Lm c a b with ⟨_,hE⟩ | ⟨hv,_,_⟩ | ⟨hv,_,_⟩
   ·rw [hE] at h;exact absurd h zD
   ·exact hv
   ·exact hv
  have hh : (c.has a && c.has b) = true:=by
   rcases Lm c a b with ⟨_,hE⟩ | ⟨_,_,hE⟩ | ⟨_,hh,_⟩
   ·rw [hE] at h;exact absurd h zD
   ·rw [hE] at h;exact absurd h zD
   ·exact hh
  obtain ⟨h1,h2⟩:=Bool.and_eq_true_iff.1 hh;rw [R9 hv h1 h2];have:=Ks hv h1;have:=Ks hv h2;omega
 ·unfold Qd.schV;rw [if_neg h];decide
theorem sch_hi (c : Qd) (a b : Dt) : c.schV a b ≤ 9223372036854775807:=by
 by_cases h : c.in2E a b = 0
 ·have hv : c.valid = true:=by
   rcases Lm c a b with ⟨_,hE⟩ | ⟨hv,_,_⟩ | ⟨hv,_,_⟩
   ·rw [hE] at h;exact absurd h zD
   ·exact hv
   ·exact hv
  have hh : (c.has a && c.has b) = true:=by
   rcases Lm c a b with ⟨_,hE⟩ | ⟨_,_,hE⟩ | ⟨_,hh,_⟩
   ·rw [hE] at h;exact absurd h zD
   ·rw [hE] at h;exact absurd h zD
   ·exact hh
  obtain ⟨h1,h2⟩:=Bool.and_eq_true_iff.1 hh;rw [R9 hv h1 h2];have:=Ks hv h1;have:=Ks hv h2;omega
 ·unfold Qd.schV;rw [if_neg h];decide
theorem Ts (A A' : OA) (ca cb : Nat) (c : Qd) (l : Ln) (hr : l.r.In) (X : Db) (hX : X.In) (fr tu : Dt) (bt bd bl bb bf be : Nat) (v0 w : World) (hv0 : Qc v0 w) (C : Za v0 A ca A' cb c) (Z : Jc v0) (ht : Qb w bt 200 #[.func (.func 117) #[] #[.pointer (some ⟨be,0,none⟩)]]) (hd : Qb w bd 72 #[.int .i64 X.p.n,.int .i64 X.p.d,.int .i64 X.i.n,.int .i64 X.i.d,.int .i64 X.s.n,.int .i64 X.s.d]) (hl : Qb w bl 67 #[.int .i64 l.p.n,.int .i64 l.p.d,.int .i64 l.r.n,.int .i64 l.r.d,.int .i64 l.f.y,.int .i64 l.f.m,.bool l.f.s,.int .i64 l.f.d]) (hb : Qb w bb 130 #[.slice A c.nk ca,.slice A' c.ny cb]) (hf : Qb w bf 51 #[.int .i64 fr.y,.int .i64 fr.m,.bool fr.s,.int .i64 fr.d]) (he : Qb w be 29 #[.int .i64 0]) (g3 : v0.heap.size ≤ be) (n1 : bd ≠ bf) (n2 : bd ≠ be) (n3 : bf ≠ be) (n4 : bt ∉ [bd,bf,be]) (n5 : bl ∉ [bd,bf,be]) (n6 : bb ∉ [bd,bf,be]) :
  Calls Tryz.prog 118 #[.agg #[.int .i64 tu.y,.int .i64 tu.m,.bool tu.s,.int .i64 tu.d],.pointer (some ⟨bt,0,none⟩),.pointer (some ⟨bd,0,none⟩),.pointer (some ⟨bl,0,none⟩),.pointer (some ⟨bb,0,none⟩),.pointer (some ⟨bf,0,none⟩),.pointer (some ⟨be,0,none⟩)] w fun e w' => e = .returned (.tuple #[]) ∧ Q7 [bd,bf,be] w w' ∧ Qb w' bf 51 #[.int .i64 tu.y,.int .i64 tu.m,.bool tu.s,.int .i64 tu.d] ∧ Qb w' be 29 #[.int .i64 (Jz c l.r X fr tu).2] ∧ ∃ Y : Db,Y.In ∧ Qb w' bd 72 #[.int .i64 Y.p.n,.int .i64 Y.p.d,.int .i64 Y.i.n,.int .i64 Y.i.d,.int .i64 Y.s.n,.int .i64 Y.s.d] ∧ ((Jz c l.r X fr tu).2 = 0 → Y = (Jz c l.r X fr tu).1):=by
 have NI:=fun w z => Qan X.p l.r (c.schV fr tu) hX.p hr (sch_lo c fr tu) (sch_hi c fr tu) w z
 have HV : Hid (Jz c l.r X fr tu = if (Yc X.p l.r (c.schV fr tu)).2 ≠ 0 then (X,(Yc X.p l.r (c.schV fr tu)).2) else if (Zs X.i (Yc X.p l.r (c.schV fr tu)).1).2 ≠ 0 then (X,(Zs X.i (Yc X.p l.r (c.schV fr tu)).1).2) else (⟨X.p,(Zs X.i (Yc X.p l.r (c.schV fr tu)).1).1,X.s⟩,0)):=rfl;have hMi:=Qjm X.p l.r (c.schV fr tu);generalize Jz c l.r X fr tu = V at *;generalize Yc X.p l.r (c.schV fr tu) = M at *;obtain ⟨⟨Mn,Md⟩,Me⟩:=M;simp only [] at HV NI hMi
 go_enter Tryz.func118,Tryz.ntmps118
 go_upto_region 1 with fail
 obtain ⟨v,b1,E,H7,hbr,hv,hb1⟩:=J4 w 51 #[.int .i64 tu.y,.int .i64 tu.m,.bool tu.s,.int .i64 tu.d];rw [← hv,← hb1];clear hv hb1;have n7 : b1 ≠ be:=by have:=he.lt;omega
 have n8 : b1 ≠ bd:=by have:=hd.lt;omega
 have HE:=hv0.trans E;have HO : Q7 [bd,bf,be] w v:=Q7.of_ext E;have Ht:=ht.ext E;have Hd:=hd.ext E;have Hl:=hl.ext E;have Hb:=hb.ext E;have Hf:=hf.ext E;have He:=he.ext E;clear E hv0;apply K0 (S:=fun w' b => Qc v0 w' ∧ w.heap.size ≤ b ∧ Q7 [bd,bf,be] w w' ∧ Qb w' bt 200 #[.func (.func 117) #[] #[.pointer (some ⟨be,0,none⟩)]] ∧ Qb w' bd 72 #[.int .i64 X.p.n,.int .i64 X.p.d,.int .i64 X.i.n,.int .i64 X.i.d,.int .i64 X.s.n,.int .i64 X.s.d] ∧ Qb w' bf 51 #[.int .i64 fr.y,.int .i64 fr.m,.bool fr.s,.int .i64 fr.d] ∧ Qb w' b1 51 #[.int .i64 tu.y,.int .i64 tu.m,.bool tu.s,.int .i64 tu.d] ∧ Qb w' be 29 #[.int .i64 Me] ∧ Qb w' b 65 #[.int .i64 Mn,.int .i64 Md] ∧ b1 ≠ b)
 ·refine Zc 15 [14] (fun x => Qc v0 x ∧ Qb x bt 200 #[.func (.func 117) #[] #[.pointer (some ⟨be,0,none⟩)]] ∧ Qb x bd 72 #[.int .i64 X.p.n,.int .i64 X.p.d,.int .i64 X.i.n,.int .i64 X.i.d,.int .i64 X.s.n,.int .i64 X.s.d] ∧ Qb x bl 67 #[.int .i64 l.p.n,.int .i64 l.p.d,.int .i64 l.r.n,.int .i64 l.r.d,.int .i64 l.f.y,.int .i64 l.f.m,.bool l.f.s,.int .i64 l.f.d] ∧ Qb x bb 130 #[.slice A c.nk ca,.slice A' c.ny cb] ∧ Qb x bf 51 #[.int .i64 fr.y,.int .i64 fr.m,.bool fr.s,.int .i64 fr.d] ∧ Qb x b1 51 #[.int .i64 tu.y,.int .i64 tu.m,.bool tu.s,.int .i64 tu.d]) mixed rfl ?_;intro vz hvz;replace HO:=HO.trans (Q7.of_ext hvz);replace HE:=HE.trans hvz;replace Ht:=Ht.ext hvz
  replace Hd:=Hd.ext hvz;replace Hl:=Hl.ext hvz;replace Hb:=Hb.ext hvz;replace Hf:=Hf.ext hvz;replace H7:=H7.ext hvz;replace He:=He.ext hvz;clear hvz;refine Qs (g:=7) [0,1,2,3,4,5,6,7] ⟨HE,Ht,Hd,Hl,Hb,Hf,H7⟩ ?_
  constructor
  refine ⟨fun u hu => ?_,?_⟩
  ·have t0:=hu.2.1.c1;have lt:=hu.2.1.lt;obtain ⟨d0,d1,d2,d3,d4,d5,ld⟩:=Qb.d6 hu.2.2.1;obtain ⟨p0,p1,p2,p3,p4,p5,p6,p7,lp⟩:=Qb.d8 hu.2.2.2.1;obtain ⟨k0,k1,lk⟩:=Qb.d2 hu.2.2.2.2.1;obtain ⟨f0,f1,f2,f3,lf⟩:=Qb.d4 hu.2.2.2.2.2.1;obtain ⟨s0,s1,s2,s3,ls⟩:=Qb.d4 hu.2.2.2.2.2.2;exact Qk
  refine Zq 8 13 ?_ ?_
  ·go_wp2_with (go_at_call 92;refine zc (Gw A A' ca cb c fr tu _ (C.ext HE)) ?_;rintro e wa ⟨rfl,h4⟩);replace HO:=HO.trans (Q7.of_ext h4);replace HE:=HE.trans h4;replace Ht:=Ht.ext h4;replace Hd:=Hd.ext h4;replace Hl:=Hl.ext h4;replace Hb:=Hb.ext h4;replace Hf:=Hf.ext h4;replace H7:=H7.ext h4;replace He:=He.ext h4;clear h4;refine Qf ⟨HE,Ht,Hd,Hl,Hb,Hf,H7⟩ ?_;refine Zq 9 13 ?_ ?_
   ·go_wp2_with (go_at_call 28;refine zc (NI _ (Z.ext HE)) ?_;rintro e wc ⟨rfl,h4⟩);replace HO:=HO.trans (Q7.of_ext h4);replace HE:=HE.trans h4;replace Ht:=Ht.ext h4;replace Hd:=Hd.ext h4;replace Hl:=Hl.ext h4;replace Hb:=Hb.ext h4;replace Hf:=Hf.ext h4;replace H7:=H7.ext h4;replace He:=He.ext h4;clear h4;refine Qf ⟨HE,Ht,Hd,Hl,Hb,Hf,H7⟩ ?_;refine Qs (g:=3) [10,11] ⟨HE,Ht,Hd,Hl,Hb,Hf,H7⟩ ?_
    constructor
    refine ⟨fun u hu => ?_,?_⟩
    ·have t0:=hu.2.1.c1;have lt:=hu.2.1.lt;obtain ⟨d0,d1,d2,d3,d4,d5,ld⟩:=Qb.d6 hu.2.2.1;obtain ⟨p0,p1,p2,p3,p4,p5,p6,p7,lp⟩:=Qb.d8 hu.2.2.2.1;obtain ⟨k0,k1,lk⟩:=Qb.d2 hu.2.2.2.2.1;obtain ⟨f0,f1,f2,f3,lf⟩:=Qb.d4 hu.2.2.2.2.2.1;obtain ⟨s0,s1,s2,s3,ls⟩:=Qb.d4 hu.2.2.2.2.2.2;exact Qk
    refine Zq 12 13 ?_ ?_
    ·go_wp2_with (first | (go_at_call 117;(with_reducible refine zc (X9 ⟨Mn,Md⟩ Me 0 be _ He) ?_);rintro e we ⟨rfl,h5,He2⟩) | (go_at_fn 117;(with_reducible refine zc (X9 ⟨Mn,Md⟩ Me 0 be _ He) ?_);rintro e we ⟨rfl,h5,He2⟩));try rw [if_pos rfl] at He2
     have h5':=h5.mono (T:=[bd,bf,be]) (fun k hk => by rw [List.mem_singleton.1 hk];simp);replace HO:=HO.trans h5';replace HE:=h5.ext HE (fun k hk => by rw [List.mem_singleton.1 hk];exact g3);replace Ht:=h5.held Ht (by simp only [List.mem_singleton];exact fun e => n4 (by rw [e];simp));replace Hd:=h5.held Hd (by simp only [List.mem_singleton];exact n2);replace Hl:=h5.held Hl (by simp only [List.mem_singleton];exact fun e => n5 (by rw [e];simp));replace Hb:=h5.held Hb (by simp only [List.mem_singleton];exact fun e => n6 (by rw [e];simp));replace Hf:=h5.held Hf (by simp only [List.mem_singleton];exact n3);replace H7:=h5.held H7 (by simp only [List.mem_singleton];exact n7)
     try replace Q:=h5.held Q (by simp only [List.mem_singleton];have:=he.lt;omega)
     have He:=He2;clear h5 h5' He2;refine Qf ⟨HE,Ht,Hd,Hl,Hb,Hf,H7⟩ ?_;refine Qj 13 ?_;go_wp2;obtain ⟨bq,hbq,Q,HE',hge⟩:=Wc HE 65 #[.int .i64 0,.int .i64 0];rw [← hbq];have hb1q : b1 ≠ bq:=by have:=H7.lt;omega
     have hwq : w.heap.size ≤ bq:=by have:=HO.size;omega
     have HO':=HO.trans (Q7.of_ext (S:=[bd,bf,be]) ((Qc.refl _).alloc (.cells #[.int .i64 0,.int .i64 0] 65)));clear hbq;replace Ht:=Ht.alloc (.cells #[.int .i64 0,.int .i64 0] 65);replace Hd:=Hd.alloc (.cells #[.int .i64 0,.int .i64 0] 65);replace Hl:=Hl.alloc (.cells #[.int .i64 0,.int .i64 0] 65);replace Hb:=Hb.alloc (.cells #[.int .i64 0,.int .i64 0] 65);replace Hf:=Hf.alloc (.cells #[.int .i64 0,.int .i64 0] 65);replace H7:=H7.alloc (.cells #[.int .i64 0,.int .i64 0] 65);replace He:=He.alloc (.cells #[.int .i64 0,.int .i64 0] 65);replace HE:=HE';replace HO:=HO';clear HE' HO';refine Qf ⟨HE,Ht,Hd,Hl,Hb,Hf,H7⟩ ?_;refine Qr 14 ?_;obtain ⟨z0,z1,x0,x1,lx⟩:=Qb.e2 Q
     have Q2:=Qo Q (.int .i64 Mn) (.int .i64 Md);have hbq2 : ∀ b,b < w.heap.size → b ≠ bq:=fun b h => by omega
     have Ht':=Qg (Qg Ht (hbq2 _ ht.lt) 0 (.int .i64 Mn)) (hbq2 _ ht.lt) 1 (.int .i64 Md);have Hd':=Qg (Qg Hd (hbq2 _ hd.lt) 0 (.int .i64 Mn)) (hbq2 _ hd.lt) 1 (.int .i64 Md);have Hl':=Qg (Qg Hl (hbq2 _ hl.lt) 0 (.int .i64 Mn)) (hbq2 _ hl.lt) 1 (.int .i64 Md);have Hb':=Qg (Qg Hb (hbq2 _ hb.lt) 0 (.int .i64 Mn)) (hbq2 _ hb.lt) 1 (.int .i64 Md);have Hf':=Qg (Qg Hf (hbq2 _ hf.lt) 0 (.int .i64 Mn)) (hbq2 _ hf.lt) 1 (.int .i64 Md);have He':=Qg (Qg He (hbq2 _ he.lt) 0 (.int .i64 Mn)) (hbq2 _ he.lt) 1 (.int .i64 Md);have H7':=Qg (Qg H7 hb1q 0 (.int .i64 Mn)) hb1q 1 (.int .i64 Md);have HO2:=HO.far hwq 0 1 (.int .i64 Mn) (.int .i64 Md)
     have HE2:=(HE.setCell (p:=⟨bq,0,none⟩) hge (.int .i64 Mn)).setCell (p:=⟨bq,1,none⟩) hge (.int .i64 Md);go_wp2;refine Qq ?_;refine Qx ?_;exact Yw bq ⟨HE2,hwq,HO2,Ht',Hd',Hf',H7',He',Q2,hb1q⟩ rfl
    ·go_wp2;obtain ⟨bq, hbq, Q, HE', hge⟩ := Wc HE 65 #[.int .i64 0, .int .i64 0];rw [← hbq];have hb1q : b1 ≠ bq := by have := H7.lt; omega
     have hwq : w.heap.size ≤ bq:=by have:=HO.size;omega
     have HO':=HO.trans (Q7.of_ext (S:=[bd,bf,be]) ((Qc.refl _).alloc (.cells #[.int .i64 0,.int .i64 0] 65)));clear hbq;replace Ht:=Ht.alloc (.cells #[.int .i64 0,.int .i64 0] 65);replace Hd:=Hd.alloc (.cells #[.int .i64 0,.int .i64 0] 65);replace Hl:=Hl.alloc (.cells #[.int .i64 0,.int .i64 0] 65);replace Hb:=Hb.alloc (.cells #[.int .i64 0,.int .i64 0] 65);replace Hf:=Hf.alloc (.cells #[.int .i64 0,.int .i64 0] 65);replace H7:=H7.alloc (.cells #[.int .i64 0,.int .i64 0] 65);replace He:=He.alloc (.cells #[.int .i64 0,.int .i64 0] 65);replace HE:=HE';replace HO:=HO';clear HE' HO';refine Qf ⟨HE,Ht,Hd,Hl,Hb,Hf,H7⟩ ?_;refine Qj 12 ?_;go_wp2_with (first | (go_at_call 117;(with_reducible refine zc (X9 ⟨Mn,Md⟩ Me 0 be _ He) ?_);rintro e we ⟨rfl,h5,He2⟩) | (go_at_fn 117;(with_reducible refine zc (X9 ⟨Mn,Md⟩ Me 0 be _ He) ?_);rintro e we ⟨rfl,h5,He2⟩))
     try rw [if_pos rfl] at He2
     have h5':=h5.mono (T:=[bd,bf,be]) (fun k hk => by rw [List.mem_singleton.1 hk];simp);replace HO:=HO.trans h5';replace HE:=h5.ext HE (fun k hk => by rw [List.mem_singleton.1 hk];exact g3);replace Ht:=h5.held Ht (by simp only [List.mem_singleton];exact fun e => n4 (by rw [e];simp));replace Hd:=h5.held Hd (by simp only [List.mem_singleton];exact n2);replace Hl:=h5.held Hl (by simp only [List.mem_singleton];exact fun e => n5 (by rw [e];simp));replace Hb:=h5.held Hb (by simp only [List.mem_singleton];exact fun e => n6 (by rw [e];simp));replace Hf:=h5.held Hf (by simp only [List.mem_singleton];exact n3);replace H7:=h5.held H7 (by simp only [List.mem_singleton];exact n7)
     try replace Q:=h5.held Q (by simp only [List.mem_singleton];have:=he.lt;omega)
     have He:=He2;clear h5 h5' He2;refine Qf ⟨HE,Ht,Hd,Hl,Hb,Hf,H7⟩ ?_;refine Qr 14 ?_;obtain ⟨z0,z1,x0,x1,lx⟩:=Qb.e2 Q;have Q2:=Qo Q (.int .i64 Mn) (.int .i64 Md);have hbq2 : ∀ b,b < w.heap.size → b ≠ bq:=fun b h => by omega
     have Ht':=Qg (Qg Ht (hbq2 _ ht.lt) 0 (.int .i64 Mn)) (hbq2 _ ht.lt) 1 (.int .i64 Md);have Hd':=Qg (Qg Hd (hbq2 _ hd.lt) 0 (.int .i64 Mn)) (hbq2 _ hd.lt) 1 (.int .i64 Md);have Hl':=Qg (Qg Hl (hbq2 _ hl.lt) 0 (.int .i64 Mn)) (hbq2 _ hl.lt) 1 (.int .i64 Md);have Hb':=Qg (Qg Hb (hbq2 _ hb.lt) 0 (.int .i64 Mn)) (hbq2 _ hb.lt) 1 (.int .i64 Md);have Hf':=Qg (Qg Hf (hbq2 _ hf.lt) 0 (.int .i64 Mn)) (hbq2 _ hf.lt) 1 (.int .i64 Md);have He':=Qg (Qg He (hbq2 _ he.lt) 0 (.int .i64 Mn)) (hbq2 _ he.lt) 1 (.int .i64 Md);have H7':=Qg (Qg H7 hb1q 0 (.int .i64 Mn)) hb1q 1 (.int .i64 Md);have HO2:=HO.far hwq 0 1 (.int .i64 Mn) (.int .i64 Md)
     have HE2:=(HE.setCell (p:=⟨bq,0,none⟩) hge (.int .i64 Mn)).setCell (p:=⟨bq,1,none⟩) hge (.int .i64 Md);go_wp2;refine Qq ?_;refine Qx ?_;exact Yw bq ⟨HE2,hwq,HO2,Ht',Hd',Hf',H7',He',Q2,hb1q⟩ rfl
   ·go_wp2;obtain ⟨bq, hbq, Q, HE', hge⟩ := Wc HE 65 #[.int .i64 0, .int .i64 0];rw [← hbq];have hb1q : b1 ≠ bq := by have := H7.lt; omega
    have hwq : w.heap.size ≤ bq:=by have:=HO.size;omega
    have HO':=HO.trans (Q7.of_ext (S:=[bd,bf,be]) ((Qc.refl _).alloc (.cells #[.int .i64 0,.int .i64 0] 65)));clear hbq;replace Ht:=Ht.alloc (.cells #[.int .i64 0,.int .i64 0] 65);replace Hd:=Hd.alloc (.cells #[.int .i64 0,.int .i64 0] 65);replace Hl:=Hl.alloc (.cells #[.int .i64 0,.int .i64 0] 65);replace Hb:=Hb.alloc (.cells #[.int .i64 0,.int .i64 0] 65);replace Hf:=Hf.alloc (.cells #[.int .i64 0,.int .i64 0] 65);replace H7:=H7.alloc (.cells #[.int .i64 0,.int .i64 0] 65);replace He:=He.alloc (.cells #[.int .i64 0,.int .i64 0] 65);replace HE:=HE';replace HO:=HO';clear HE' HO';refine Qf ⟨HE,Ht,Hd,Hl,Hb,Hf,H7⟩ ?_;refine Qj 9 ?_;go_wp2_with (go_at_call 28;refine zc (NI _ (Z.ext HE)) ?_;rintro e wc ⟨rfl,h4⟩)
    replace HO:=HO.trans (Q7.of_ext h4);replace HE:=HE.trans h4;replace Ht:=Ht.ext h4;replace Hd:=Hd.ext h4;replace Hl:=Hl.ext h4;replace Hb:=Hb.ext h4;replace Hf:=Hf.ext h4;replace H7:=H7.ext h4;replace He:=He.ext h4;try replace Q:=Q.ext h4
    clear h4;refine Qf ⟨HE,Ht,Hd,Hl,Hb,Hf,H7⟩ ?_;refine Qs (g:=2) [10,11] ⟨HE,Ht,Hd,Hl,Hb,Hf,H7⟩ ?_
    constructor
    refine ⟨fun u hu => ?_,?_⟩
    ·have t0:=hu.2.1.c1;have lt:=hu.2.1.lt;obtain ⟨d0,d1,d2,d3,d4,d5,ld⟩:=Qb.d6 hu.2.2.1;obtain ⟨p0,p1,p2,p3,p4,p5,p6,p7,lp⟩:=Qb.d8 hu.2.2.2.1;obtain ⟨k0,k1,lk⟩:=Qb.d2 hu.2.2.2.2.1;obtain ⟨f0,f1,f2,f3,lf⟩:=Qb.d4 hu.2.2.2.2.2.1;obtain ⟨s0,s1,s2,s3,ls⟩:=Qb.d4 hu.2.2.2.2.2.2;exact Qk
    refine Qj 12 ?_;go_wp2_with (first | (go_at_call 117;(with_reducible refine zc (X9 ⟨Mn,Md⟩ Me 0 be _ He) ?_);rintro e we ⟨rfl,h5,He2⟩) | (go_at_fn 117;(with_reducible refine zc (X9 ⟨Mn,Md⟩ Me 0 be _ He) ?_);rintro e we ⟨rfl,h5,He2⟩));try rw [if_pos rfl] at He2
    have h5':=h5.mono (T:=[bd,bf,be]) (fun k hk => by rw [List.mem_singleton.1 hk];simp);replace HO:=HO.trans h5';replace HE:=h5.ext HE (fun k hk => by rw [List.mem_singleton.1 hk];exact g3);replace Ht:=h5.held Ht (by simp only [List.mem_singleton];exact fun e => n4 (by rw [e];simp));replace Hd:=h5.held Hd (by simp only [List.mem_singleton];exact n2);replace Hl:=h5.held Hl (by simp only [List.mem_singleton];exact fun e => n5 (by rw [e];simp));replace Hb:=h5.held Hb (by simp only [List.mem_singleton];exact fun e => n6 (by rw [e];simp));replace Hf:=h5.held Hf (by simp only [List.mem_singleton];exact n3);replace H7:=h5.held H7 (by simp only [List.mem_singleton];exact n7)
    try replace Q:=h5.held Q (by simp only [List.mem_singleton];have:=he.lt;omega)
    have He:=He2;clear h5 h5' He2;refine Qf ⟨HE,Ht,Hd,Hl,Hb,Hf,H7⟩ ?_;refine Qr 14 ?_;obtain ⟨z0,z1,x0,x1,lx⟩:=Qb.e2 Q;have Q2:=Qo Q (.int .i64 Mn) (.int .i64 Md);have hbq2 : ∀ b,b < w.heap.size → b ≠ bq:=fun b h => by omega
    have Ht':=Qg (Qg Ht (hbq2 _ ht.lt) 0 (.int .i64 Mn)) (hbq2 _ ht.lt) 1 (.int .i64 Md);have Hd':=Qg (Qg Hd (hbq2 _ hd.lt) 0 (.int .i64 Mn)) (hbq2 _ hd.lt) 1 (.int .i64 Md);have Hl':=Qg (Qg Hl (hbq2 _ hl.lt) 0 (.int .i64 Mn)) (hbq2 _ hl.lt) 1 (.int .i64 Md);have Hb':=Qg (Qg Hb (hbq2 _ hb.lt) 0 (.int .i64 Mn)) (hbq2 _ hb.lt) 1 (.int .i64 Md);have Hf':=Qg (Qg Hf (hbq2 _ hf.lt) 0 (.int .i64 Mn)) (hbq2 _ hf.lt) 1 (.int .i64 Md);have He':=Qg (Qg He (hbq2 _ he.lt) 0 (.int .i64 Mn)) (hbq2 _ he.lt) 1 (.int .i64 Md);have H7':=Qg (Qg H7 hb1q 0 (.int .i64 Mn)) hb1q 1 (.int .i64 Md);have HO2:=HO.far hwq 0 1 (.int .i64 Mn) (.int .i64 Md)
    have HE2:=(HE.setCell (p:=⟨bq,0,none⟩) hge (.int .i64 Mn)).setCell (p:=⟨bq,1,none⟩) hge (.int .i64 Md);go_wp2;refine Qq ?_;refine Qx ?_;exact Yw bq ⟨HE2,hwq,HO2,Ht',Hd',Hf',H7',He',Q2,hb1q⟩ rfl
  ·go_wp2;obtain ⟨bq, hbq, Q, HE', hge⟩ := Wc HE 65 #[.int .i64 0, .int .i64 0];rw [← hbq];have hb1q : b1 ≠ bq := by have := H7.lt; omega
   have hwq : w.heap.size ≤ bq:=by have:=HO.size;omega
   have HO':=HO.trans (Q7.of_ext (S:=[bd,bf,be]) ((Qc.refl _).alloc (.cells #[.int .i64 0,.int .i64 0] 65)));clear hbq;replace Ht:=Ht.alloc (.cells #[.int .i64 0,.int .i64 0] 65);replace Hd:=Hd.alloc (.cells #[.int .i64 0,.int .i64 0] 65);replace Hl:=Hl.alloc (.cells #[.int .i64 0,.int .i64 0] 65);replace Hb:=Hb.alloc (.cells #[.int .i64 0,.int .i64 0] 65);replace Hf:=Hf.alloc (.cells #[.int .i64 0,.int .i64 0] 65);replace H7:=H7.alloc (.cells #[.int .i64 0,.int .i64 0] 65);replace He:=He.alloc (.cells #[.int .i64 0,.int .i64 0] 65);replace HE:=HE';replace HO:=HO';clear HE' HO';refine Qf ⟨HE,Ht,Hd,Hl,Hb,Hf,H7⟩ ?_;refine Qj 8 ?_;go_wp2_with (go_at_call 92;refine zc (Gw A A' ca cb c fr tu _ (C.ext HE)) ?_;rintro e wa ⟨rfl,h4⟩)
   replace HO:=HO.trans (Q7.of_ext h4);replace HE:=HE.trans h4;replace Ht:=Ht.ext h4;replace Hd:=Hd.ext h4;replace Hl:=Hl.ext h4;replace Hb:=Hb.ext h4;replace Hf:=Hf.ext h4;replace H7:=H7.ext h4;replace He:=He.ext h4;try replace Q:=Q.ext h4
   clear h4;refine Qf ⟨HE,Ht,Hd,Hl,Hb,Hf,H7⟩ ?_;refine Qj 9 ?_;go_wp2_with (go_at_call 28;refine zc (NI _ (Z.ext HE)) ?_;rintro e wc ⟨rfl,h4⟩);replace HO:=HO.trans (Q7.of_ext h4);replace HE:=HE.trans h4;replace Ht:=Ht.ext h4;replace Hd:=Hd.ext h4;replace Hl:=Hl.ext h4;replace Hb:=Hb.ext h4;replace Hf:=Hf.ext h4;replace H7:=H7.ext h4;replace He:=He.ext h4;try replace Q:=Q.ext h4
   clear h4;refine Qf ⟨HE,Ht,Hd,Hl,Hb,Hf,H7⟩ ?_;refine Qs (g:=2) [10,11] ⟨HE,Ht,Hd,Hl,Hb,Hf,H7⟩ ?_
   constructor
   refine ⟨fun u hu => ?_,?_⟩
   ·have t0:=hu.2.1.c1;have lt:=hu.2.1.lt;obtain ⟨d0,d1,d2,d3,d4,d5,ld⟩:=Qb.d6 hu.2.2.1;obtain ⟨p0,p1,p2,p3,p4,p5,p6,p7,lp⟩:=Qb.d8 hu.2.2.2.1;obtain ⟨k0,k1,lk⟩:=Qb.d2 hu.2.2.2.2.1;obtain ⟨f0,f1,f2,f3,lf⟩:=Qb.d4 hu.2.2.2.2.2.1;obtain ⟨s0,s1,s2,s3,ls⟩:=Qb.d4 hu.2.2.2.2.2.2;exact Qk
   refine Qj 12 ?_;go_wp2_with (first | (go_at_call 117;(with_reducible refine zc (X9 ⟨Mn,Md⟩ Me 0 be _ He) ?_);rintro e we ⟨rfl,h5,He2⟩) | (go_at_fn 117;(with_reducible refine zc (X9 ⟨Mn,Md⟩ Me 0 be _ He) ?_);rintro e we ⟨rfl,h5,He2⟩));try rw [if_pos rfl] at He2
   have h5':=h5.mono (T:=[bd,bf,be]) (fun k hk => by rw [List.mem_singleton.1 hk];simp);replace HO:=HO.trans h5';replace HE:=h5.ext HE (fun k hk => by rw [List.mem_singleton.1 hk];exact g3);replace Ht:=h5.held Ht (by simp only [List.mem_singleton];exact fun e => n4 (by rw [e];simp));replace Hd:=h5.held Hd (by simp only [List.mem_singleton];exact n2);replace Hl:=h5.held Hl (by simp only [List.mem_singleton];exact fun e => n5 (by rw [e];simp));replace Hb:=h5.held Hb (by simp only [List.mem_singleton];exact fun e => n6 (by rw [e];simp));replace Hf:=h5.held Hf (by simp only [List.mem_singleton];exact n3);replace H7:=h5.held H7 (by simp only [List.mem_singleton];exact n7)
   try replace Q:=h5.held Q (by simp only [List.mem_singleton];have:=he.lt;omega)
   have He:=He2;clear h5 h5' He2;refine Qf ⟨HE,Ht,Hd,Hl,Hb,Hf,H7⟩ ?_;refine Qr 14 ?_;obtain ⟨z0,z1,x0,x1,lx⟩:=Qb.e2 Q;have Q2:=Qo Q (.int .i64 Mn) (.int .i64 Md);have hbq2 : ∀ b,b < w.heap.size → b ≠ bq:=fun b h => by omega
   have Ht':=Qg (Qg Ht (hbq2 _ ht.lt) 0 (.int .i64 Mn)) (hbq2 _ ht.lt) 1 (.int .i64 Md);have Hd':=Qg (Qg Hd (hbq2 _ hd.lt) 0 (.int .i64 Mn)) (hbq2 _ hd.lt) 1 (.int .i64 Md);have Hl':=Qg (Qg Hl (hbq2 _ hl.lt) 0 (.int .i64 Mn)) (hbq2 _ hl.lt) 1 (.int .i64 Md);have Hb':=Qg (Qg Hb (hbq2 _ hb.lt) 0 (.int .i64 Mn)) (hbq2 _ hb.lt) 1 (.int .i64 Md);have Hf':=Qg (Qg Hf (hbq2 _ hf.lt) 0 (.int .i64 Mn)) (hbq2 _ hf.lt) 1 (.int .i64 Md);have He':=Qg (Qg He (hbq2 _ he.lt) 0 (.int .i64 Mn)) (hbq2 _ he.lt) 1 (.int .i64 Md);have H7':=Qg (Qg H7 hb1q 0 (.int .i64 Mn)) hb1q 1 (.int .i64 Md);have HO2:=HO.far hwq 0 1 (.int .i64 Mn) (.int .i64 Md)
   have HE2:=(HE.setCell (p:=⟨bq,0,none⟩) hge (.int .i64 Mn)).setCell (p:=⟨bq,1,none⟩) hge (.int .i64 Md);go_wp2;refine Qq ?_;refine Qx ?_;exact Yw bq ⟨HE2,hwq,HO2,Ht',Hd',Hf',H7',He',Q2,hb1q⟩ rfl
 rintro b8 w3 ⟨HE3,hw8,HO3,Ht3,Hd3,Hf3,H73,He3,Q,n9⟩;clear HE HO Ht Hd Hf He H7 Hl Hb NI;have HE:=HE3;have HO:=HO3;have Ht:=Ht3;have Hd:=Hd3;have Hf:=Hf3;have H7:=H73;have He:=He3;clear HE3 HO3 Ht3 Hd3 Hf3 H73 He3;have e0:=He.c1;have le:=He.lt;by_cases h0 : Me = 0
 ·subst h0;have NA:=fun w z => Nz X.i ⟨Mn,Md⟩ hX.i hMi w z
  have hSi:=K8 X.i ⟨Mn,Md⟩;have hV:=HV.out;rw [if_neg (by simp)] at hV;generalize Zs X.i ⟨Mn,Md⟩ = S at *;obtain ⟨⟨Sn,Sd⟩,Se⟩:=S
  have hV2 : V.2 = Se ∧ (Se = 0 → V.1 = ⟨X.p,⟨Sn,Sd⟩,X.s⟩):=by
   rw [hV];by_cases hs : Se = 0
   ·rw [if_neg (by simpa using hs)];exact ⟨hs.symm,fun _ => rfl⟩
   ·rw [if_pos hs];exact ⟨rfl,fun h => absurd h hs⟩
  replace hV2:=zh hV2;clear HV hV;go_upto_region 3 with fail
  clear e0 le;refine Zc 10 [9] (fun x => Qc v0 x ∧ Qb x bt 200 #[.func (.func 117) #[] #[.pointer (some ⟨be,0,none⟩)]] ∧ Qb x bd 72 #[.int .i64 X.p.n,.int .i64 X.p.d,.int .i64 X.i.n,.int .i64 X.i.d,.int .i64 X.s.n,.int .i64 X.s.d] ∧ Qb x b8 65 #[.int .i64 Mn,.int .i64 Md] ∧ True) mixed rfl ?_;intro vz hvz;replace HO:=HO.trans (Q7.of_ext hvz);replace HE:=HE.trans hvz;replace Ht:=Ht.ext hvz;replace Hd:=Hd.ext hvz;replace Hf:=Hf.ext hvz;replace H7:=H7.ext hvz;replace He:=He.ext hvz;replace Q:=Q.ext hvz;clear hvz;refine Qs (g:=6) [0,1,2,3] ⟨HE,Ht,Hd,Q,trivial⟩ ?_
  constructor
  refine ⟨fun u hu => ?_,?_⟩
  ·have t0:=hu.2.1.c1;have lt:=hu.2.1.lt;obtain ⟨d0,d1,d2,d3,d4,d5,ld⟩:=Qb.d6 hu.2.2.1;obtain ⟨r0,r1,lr⟩:=Qb.d2 hu.2.2.2.1;exact Qk
  refine Qj 4 ?_;go_wp2_with (go_at_call 86;refine zc (NA _ (Z.ext HE)) ?_;rintro e wc ⟨rfl,h4⟩);replace HO:=HO.trans (Q7.of_ext h4);replace HE:=HE.trans h4;replace Ht:=Ht.ext h4;replace Hd:=Hd.ext h4;replace Hf:=Hf.ext h4;replace H7:=H7.ext h4;replace He:=He.ext h4;replace Q:=Q.ext h4;clear h4;refine Qf ⟨HE,Ht,Hd,Q,trivial⟩ ?_;refine Qs (g:=3) [5,6] ⟨HE,Ht,Hd,Q,trivial⟩ ?_
  constructor
  refine ⟨fun u hu => ?_,?_⟩
  ·have t0:=hu.2.1.c1;have lt:=hu.2.1.lt;obtain ⟨d0,d1,d2,d3,d4,d5,ld⟩:=Qb.d6 hu.2.2.1;obtain ⟨r0,r1,lr⟩:=Qb.d2 hu.2.2.2.1;exact Qk
  refine Qj 7 ?_;go_wp2_with (first | (go_at_call 117;(with_reducible refine zc (X9 ⟨Sn,Sd⟩ Se 0 be _ He) ?_);rintro e we ⟨rfl,h5,He2⟩) | (go_at_fn 117;(with_reducible refine zc (X9 ⟨Sn,Sd⟩ Se 0 be _ He) ?_);rintro e we ⟨rfl,h5,He2⟩));try rw [if_pos rfl] at He2
  have h5':=h5.mono (T:=[bd,bf,be]) (fun k hk => by rw [List.mem_singleton.1 hk];simp);replace HO:=HO.trans h5';replace HE:=h5.ext HE (fun k hk => by rw [List.mem_singleton.1 hk];exact g3);replace Ht:=h5.held Ht (by simp only [List.mem_singleton];exact fun e => n4 (by rw [e];simp));replace Hd:=h5.held Hd (by simp only [List.mem_singleton];exact n2);replace Hf:=h5.held Hf (by simp only [List.mem_singleton];exact n3);replace H7:=h5.held H7 (by simp only [List.mem_singleton];exact n7);replace Q:=h5.held Q (by simp only [List.mem_singleton];have:=he.lt;omega);have He:=He2;clear h5 h5' He2;refine Qf ⟨HE,Ht,Hd,Q,trivial⟩ ?_;refine Qs (g:=1) [8] ⟨HE,Ht,Hd,Q,trivial⟩ ?_
  constructor
  refine ⟨fun u hu => ?_,?_⟩
  ·have t0:=hu.2.1.c1;have lt:=hu.2.1.lt;obtain ⟨d0,d1,d2,d3,d4,d5,ld⟩:=Qb.d6 hu.2.2.1;obtain ⟨r0,r1,lr⟩:=Qb.d2 hu.2.2.2.1;exact Qk
  refine Qr 9 ?_;have z2:=Hd.frozen 2;have z3:=Hd.frozen 3;obtain ⟨x0,x1,x2,x3,x4,x5,lx⟩:=Qb.d6 Hd;have Hd2:=Fd Hd (.int .i64 Sn) (.int .i64 Sd);have Hf:=Qg (Qg Hf (Ne.symm n1) 2 (.int .i64 Sn)) (Ne.symm n1) 3 (.int .i64 Sd);have He:=Qg (Qg He (Ne.symm n2) 2 (.int .i64 Sn)) (Ne.symm n2) 3 (.int .i64 Sd);have H7:=Qg (Qg H7 (n8) 2 (.int .i64 Sn)) (n8) 3 (.int .i64 Sd);have HO:=(HO.trans (Q7.set _ (by simp : bd ∈ [bd,bf,be]) 2 (.int .i64 Sn))).trans (Q7.set _ (by simp : bd ∈ [bd,bf,be]) 3 (.int .i64 Sd));go_wp2;refine Qq ?_;refine Qx ?_;have Hd:=Hd2;generalize World.setCell _ _ _ = wq at *;clear z2 z3 x0 x1 x2 x3 x4 x5 lx
  have YY : ∃ Y : Db,Y.In ∧ Qb (World.setCell (World.setCell (World.setCell (World.setCell wq ⟨bf,0,none⟩ (.int .i64 tu.y)) ⟨bf,1,none⟩ (.int .i64 tu.m)) ⟨bf,2,none⟩ (.bool tu.s)) ⟨bf,3,none⟩ (.int .i64 tu.d)) bd 72 #[.int .i64 Y.p.n,.int .i64 Y.p.d,.int .i64 Y.i.n,.int .i64 Y.i.d,.int .i64 Y.s.n,.int .i64 Y.s.d] ∧ (V.2 = 0 → Y = V.1) :=
   ⟨⟨X.p,⟨Sn,Sd⟩,X.s⟩,⟨hX.p,hSi,hX.s⟩,Qg (Qg (Qg (Qg Hd n1 0 (.int .i64 tu.y)) n1 1 (.int .i64 tu.m)) n1 2 (.bool tu.s)) n1 3 (.int .i64 tu.d),fun h => (hV2.out.2 (hV2.out.1.symm.trans h)).symm⟩
  have hVe:=zh hV2.out.1;obtain ⟨s0,s1,s2,s3,ls⟩:=Qb.d4 H7;obtain ⟨f0,f1,f2,f3,lf⟩:=Qb.d4 Hf;have z0:=Hf.frozen 0;have z1:=Hf.frozen 1;have z2:=Hf.frozen 2;have z3:=Hf.frozen 3;have Hf2:=Qac Hf (.int .i64 tu.y) (.int .i64 tu.m) (.bool tu.s) (.int .i64 tu.d);have He2:=Qg (Qg (Qg (Qg He (Ne.symm n3) 0 (.int .i64 tu.y)) (Ne.symm n3) 1 (.int .i64 tu.m)) (Ne.symm n3) 2 (.bool tu.s)) (Ne.symm n3) 3 (.int .i64 tu.d);have Hd2:=Qg (Qg (Qg (Qg Hd n1 0 (.int .i64 tu.y)) n1 1 (.int .i64 tu.m)) n1 2 (.bool tu.s)) n1 3 (.int .i64 tu.d);have OF:=(((HO.trans (Q7.set _ (by simp : bf ∈ [bd,bf,be]) 0 (.int .i64 tu.y))).trans (Q7.set _ (by simp : bf ∈ [bd,bf,be]) 1 (.int .i64 tu.m))).trans (Q7.set _ (by simp : bf ∈ [bd,bf,be]) 2 (.bool tu.s))).trans (Q7.set _ (by simp : bf ∈ [bd,bf,be]) 3 (.int .i64 tu.d))
  go_wp2
  (try simp only [Exit.inBlock,Exit.then])
  refine bodyPost_end (results_none rfl _ _ _) rfl ⟨rfl,OF,Hf2,by rw [hVe.out];exact He2,YY⟩
 ·have g0 : (Me == 0) = false:=zb h0;have hV:=HV.out;rw [if_pos h0] at hV
  have YY : ∃ Y : Db,Y.In ∧ Qb (World.setCell (World.setCell (World.setCell (World.setCell w3 ⟨bf,0,none⟩ (.int .i64 tu.y)) ⟨bf,1,none⟩ (.int .i64 tu.m)) ⟨bf,2,none⟩ (.bool tu.s)) ⟨bf,3,none⟩ (.int .i64 tu.d)) bd 72 #[.int .i64 Y.p.n,.int .i64 Y.p.d,.int .i64 Y.i.n,.int .i64 Y.i.d,.int .i64 Y.s.n,.int .i64 Y.s.d] ∧ (V.2 = 0 → Y = V.1) :=
   ⟨X,hX,Qg (Qg (Qg (Qg Hd n1 0 (.int .i64 tu.y)) n1 1 (.int .i64 tu.m)) n1 2 (.bool tu.s)) n1 3 (.int .i64 tu.d),fun h => by rw [hV]⟩
  have hVe : V.2 = Me:=by rw [hV]
  clear HV hV h0;replace hVe:=zh hVe;obtain ⟨s0,s1,s2,s3,ls⟩:=Qb.d4 H7;obtain ⟨f0,f1,f2,f3,lf⟩:=Qb.d4 Hf;have z0:=Hf.frozen 0;have z1:=Hf.frozen 1;have z2:=Hf.frozen 2;have z3:=Hf.frozen 3;have Hf2:=Qac Hf (.int .i64 tu.y) (.int .i64 tu.m) (.bool tu.s) (.int .i64 tu.d);have He2:=Qg (Qg (Qg (Qg He (Ne.symm n3) 0 (.int .i64 tu.y)) (Ne.symm n3) 1 (.int .i64 tu.m)) (Ne.symm n3) 2 (.bool tu.s)) (Ne.symm n3) 3 (.int .i64 tu.d);have Hd2:=Qg (Qg (Qg (Qg Hd n1 0 (.int .i64 tu.y)) n1 1 (.int .i64 tu.m)) n1 2 (.bool tu.s)) n1 3 (.int .i64 tu.d);have OF:=(((HO.trans (Q7.set _ (by simp : bf ∈ [bd,bf,be]) 0 (.int .i64 tu.y))).trans (Q7.set _ (by simp : bf ∈ [bd,bf,be]) 1 (.int .i64 tu.m))).trans (Q7.set _ (by simp : bf ∈ [bd,bf,be]) 2 (.bool tu.s))).trans (Q7.set _ (by simp : bf ∈ [bd,bf,be]) 3 (.int .i64 tu.d))
  go_wp2
  (try simp only [Exit.inBlock,Exit.then])
  refine bodyPost_end (results_none rfl _ _ _) rfl ⟨rfl,OF,Hf2,by rw [hVe.out];exact He2,YY⟩
end
section
def V4 (v : Db × Int) : Db × Int:=if v.2 ≠ 0 then (Yk,v.2) else v
def Yv (c : Qd) (r : Rt) (f : Nat → Yi) (on : Dt) (i m : Nat) (x : Db) (a : Dt) : Db × Int:=V4 (U3 c r f on i m x a)
def Rx (c : Qd) (r : Rt) (f : Nat → Yi) (on : Dt) (i m : Nat) (x : Db) (lf : Rt) : Db × Int:=if (Zs x.s lf).2 ≠ 0 then (Yk,(Zs x.s lf).2) else Yv c r f on (i + 1) m ⟨x.p,x.i,(Zs x.s lf).1⟩ (f i).on
def Rw (c : Qd) (r : Rt) (f : Nat → Yi) (on : Dt) (i m : Nat) (x : Db) (lf : Rt) : Db × Int:=if (Zo x.p lf).2 ≠ 0 then (Yk,(Zo x.p lf).2) else Rx c r f on i m ⟨(Zo x.p lf).1.1,x.i,x.s⟩ (Zo x.p lf).1.2
def Rv (c : Qd) (r : Rt) (f : Nat → Yi) (on : Dt) (i m : Nat) (x : Db) (lf : Rt) : Db × Int:=if (Zo x.i lf).2 ≠ 0 then (Yk,(Zo x.i lf).2) else Rw c r f on i m ⟨x.p,(Zo x.i lf).1.1,x.s⟩ (Zo x.i lf).1.2
theorem Nb {v : Db × Int} (h : v.2 ≠ 0) : V4 v = (Yk,v.2):=by unfold V4;rw [if_pos h]
theorem Qcc {v : Db × Int} (h : v.2 = 0) : V4 v = v:=by unfold V4;rw [if_neg (by simpa using h)]
theorem Qnc {c : Qd} {r : Rt} {f : Nat → Yi} {on : Dt} {i m : Nat} {x : Db} {a : Dt} (h : c.numV on < c.numV (f i).on) : Yv c r f on i (m + 1) x a = V4 (Jz c r x a on):=by
 unfold Yv;rw [U3,if_pos h]
theorem Qna {c : Qd} {r : Rt} {f : Nat → Yi} {on : Dt} {i m : Nat} {x : Db} {a : Dt} (h : ¬ c.numV on < c.numV (f i).on) (h2 : (Jz c r x a (f i).on).2 ≠ 0) : Yv c r f on i (m + 1) x a = (Yk,(Jz c r x a (f i).on).2):=by
 unfold Yv;rw [U3,if_neg h,if_pos h2];exact Nb h2
theorem Qnb {c : Qd} {r : Rt} {f : Nat → Yi} {on : Dt} {i m : Nat} {x : Db} {a : Dt} (h : ¬ c.numV on < c.numV (f i).on) (h2 : (Jz c r x a (f i).on).2 = 0) : Yv c r f on i (m + 1) x a = Rv c r f on i m (Jz c r x a (f i).on).1 (f i).n:=by
 unfold Yv;rw [U3,if_neg h,if_neg (by simpa using h2)];generalize (Jz c r x a (f i).on).1 = X;generalize (f i).n = n;unfold Nc Rv Rw Rx Yv;by_cases e1 : (Zo X.i n).2 ≠ 0
 ·rw [if_pos e1,if_pos e1,if_pos e1];exact Nb e1
 ·rw [if_neg e1,if_neg e1]
  simp only
  by_cases e2 : (Zo X.p (Zo X.i n).1.2).2 ≠ 0
  ·rw [if_pos e2,if_pos e2,if_pos e2];exact Nb e2
  ·rw [if_neg e2,if_neg e2];by_cases e3 : (Zs X.s (Zo X.p (Zo X.i n).1.2).1.2).2 ≠ 0
   ·rw [if_pos e3,if_pos e3,if_pos e3];exact Nb e3
   ·rw [if_neg e3,if_neg e3]
    simp
theorem Ql1 {c : Qd} {l : Ln} {f : Nat → Yi} {n : Nat} {on : Dt} (h1 : c.loanE l f n = 0) (h2 : c.numV on ≠ 0) (h3 : ¬ c.numV on < c.numV l.f) : c.owedV l f n on = Yv c l.r f on 0 n (start l) l.f:=by
 unfold Qd.owedV Yv V4;rw [if_neg (by rw [h1];decide),if_neg h2,if_neg h3];by_cases e : (U3 c l.r f on 0 n (start l) l.f).2 ≠ 0
 ·rw [if_pos e,if_pos e]
 ·rw [if_neg e,if_neg e];have e':=Decidable.not_not.1 e;exact Prod.ext rfl e'.symm
end
end Go.Proofs.YtoflcheopfppoaaGreatDoor
