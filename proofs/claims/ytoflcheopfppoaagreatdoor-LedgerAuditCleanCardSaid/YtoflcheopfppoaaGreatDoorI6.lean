/- Walks of the program's functions and plain facts, packed; proved: the lemmas below; no conditions but those that each states. -/
import Derived.Test.YtoflcheopfppoaaGreatDoorI4
import Derived.Test.YtoflcheopfppoaaGreatDoorI1
import Derived.Test.YtoflcheopfppoaaGreatDoorI5
set_option maxRecDepth 100000
set_option maxHeartbeats 4000000
namespace Go.Proofs.YtoflcheopfppoaaGreatDoor
section
open Go Go.RowKit Go.Shelf
attribute [local go_sem] Zx
theorem Qp {W w : World} (h : Qb W w) (t : TypeId) (cs : Array Value) : ∃ b w',b = w.heap.size ∧ w' = w.alloc (.cells cs t) ∧ Qc w' b t cs ∧ Qb W w' ∧ Qb w w' ∧ W.heap.size ≤ b:=⟨_,_,rfl,rfl,Qc.new w t cs,h.alloc _,(Qb.refl w).alloc _,h.size⟩
def Au (A : Nat → Nat → Nat → Act) (S : World → Nat → Nat → Nat → Prop) : Exit → Act → World → Prop:=fun e a' w' => e = .normal ∧ ∃ p q r,S w' p q r ∧ a' = A p q r
theorem Qgw {A : Nat → Nat → Nat → Act} {S : World → Nat → Nat → Nat → Prop} {w' : World} (p q r : Nat) {a' : Act} (h : S w' p q r) (ha : a' = A p q r) : Au A S .normal a' w':=⟨rfl,p,q,r,h,ha⟩
theorem Qn3 {P : Program} {c : Code} {Q : Exit → Act → World → Prop} {a : Act} {w : World} {A : Nat → Nat → Nat → Act} (S : World → Nat → Nat → Nat → Prop) (h1 : c.wp P (Au A S) a w) (h2 : ∀ p q r w',S w' p q r → Q .normal (A p q r) w') : c.wp P Q a w :=
 Code.wp_mono (fun e a' w' ⟨he,p,q,r,hs,ha⟩ => by subst he;subst ha;exact h2 p q r w' hs) h1
theorem Qbb {W : World} {b : Nat} {n m : Int} {v0 v1 : Value} (h : Qc W b 245 #[.int .u64 n,.int .u64 m]) (h' : Qc W b 252 #[v0,v1]) : False:=by
 have e:=(show W.heap[b]? = _ from h).symm.trans h';simp at e
def Ka (x y : Nat) : Nat → Nat
 | 0 => x
 | _ => y
theorem Qbz (x y : Nat) : upTo (Ka x y) 2 = x * y:=by show 1 * x * y = x * y;rw [Nat.one_mul]
theorem Qby {x y : Nat} (hx : 1 ≤ x) (hy : 1 ≤ y) : ∀ i,i < 2 → 1 ≤ Ka x y i:=fun i hi => by
 have : i = 0 ∨ i = 1:=by omega
 rcases this with rfl | rfl
 ·exact hx
 ·exact hy
theorem Qbx {x y : Nat} (hx : x < 18446744073709551616) (hy : y < 18446744073709551616) : ∀ i,i < 2 → Ka x y i < 18446744073709551616:=fun i hi => by
 have : i = 0 ∨ i = 1:=by omega
 rcases this with rfl | rfl
 ·exact hx
 ·exact hy
theorem Qdv {w : World} {b : Nat} {t : TypeId} {n m : Nat} (h : Qc w b t #[.int .u64 (n : Int),.int .u64 (m : Int)]) : Qs w (some ⟨b,0,none⟩) 2 1 (Zd (Ka n m)):=L3 (f:=Zd (Ka n m)) (n:=2) (fun _ => rfl) h
theorem Qhb (a b : Rt) (ha : a.ok = true) (hb : b.ok = true) (ba bb : Nat) (w : World) (hA : Qc w ba 65 #[.int .i64 a.n,.int .i64 a.d]) (hB : Qc w bb 65 #[.int .i64 b.n,.int .i64 b.d]) (hZ : Z6 w) :
  Calls Tryz.prog 171 #[.pointer (some ⟨bb,0,none⟩),.pointer (some ⟨ba,0,none⟩)] w fun e w' => e = .returned (.tuple #[.agg #[.int .i64 (if b.n = 0 then (Zk,9) else Jn (decide (a.n < 0) != decide (b.n < 0)) (a.n.natAbs * b.d.natAbs) (a.d.natAbs * b.n.natAbs)).1.n,.int .i64 (if b.n = 0 then (Zk,9) else Jn (decide (a.n < 0) != decide (b.n < 0)) (a.n.natAbs * b.d.natAbs) (a.d.natAbs * b.n.natAbs)).1.d],.int .i64 (if b.n = 0 then (Zk,9) else Jn (decide (a.n < 0) != decide (b.n < 0)) (a.n.natAbs * b.d.natAbs) (a.d.natAbs * b.n.natAbs)).2]) ∧ Qb w w':=by
 obtain ⟨a1,a2,a3,a4,_⟩:=J9 ha;obtain ⟨b1',b2',b3',b4',_⟩:=J9 hb;have N1:=fun w => Vr a.n Qa Qa w
 have N2:=fun w => Vr b.d Qa Qa w
 have N3:=fun w => Vr a.d Qa Qa w
 have N4:=fun w => Vr b.n Qa Qa w
 obtain ⟨R,hR0⟩:=Qf (if b.n = 0 then (Zk,9) else Jn (decide (a.n < 0) != decide (b.n < 0)) (a.n.natAbs * b.d.natAbs) (a.d.natAbs * b.n.natAbs));rw [← hR0];have HR:=Lib.hid hR0;clear hR0
 go_enter Tryz.func171,Tryz.ntmps171
 go_upto_region 1 with (fail)
 obtain ⟨v,b1,E,B1,hbr,hv,hb1⟩:=Yi w 65 #[.int .i64 0,.int .i64 0];rw [← hv,← hb1];clear hv hb1;have Z0:=hZ.ext E;have HA:=hA.ext E;have HB:=hB.ext E;clear hA hB hZ;obtain ⟨k0,k1⟩:=HA.c2;have lk:=HA.lt;obtain ⟨p0,p1⟩:=HB.c2;have lp:=HB.lt;by_cases hb0 : b.n = 0
 ·have g0 : (b.n == 0) = true := by rw [hb0]; rfl
  have hr : R = (Zk,9):=by rw [HR.out,if_pos hb0]
  subst hr;clear HR hb0;have f0:=B1.frozen 0;have f1:=B1.frozen 1;obtain ⟨x0,x1⟩:=B1.c2;have lx:=B1.lt;have H4:=Qo B1 (.int .i64 0) (.int .i64 0);have EF:=(E.setCell (p:=⟨b1,0,none⟩) hbr (.int .i64 0)).setCell (p:=⟨b1,1,none⟩) hbr (.int .i64 0);obtain ⟨y0,y1⟩:=H4.c2;go_wp2;refine bodyPost_ret (v:=.tuple #[.agg #[.int .i64 0,.int .i64 0],.int .i64 9]) (by simp [results,Tryz.results171,go_sem,y0,y1]) rfl ⟨rfl,EF⟩
 ·have g0 : (b.n == 0) = false:=beq_eq_false_iff_ne.2 hb0;have hr:=HR.out;rw [if_neg hb0] at hr;clear HR;by_cases ha0 : a.n = 0
  ·have g1 : (a.n == 0) = true := by rw [ha0]; rfl
   rw [show a.n.natAbs * b.d.natAbs = 0 by rw [ha0];simp,Dd (Nat.mul_pos Qa Qa)] at hr;subst hr;clear hb0 ha0;obtain ⟨z0,z1,lz⟩:=Z0;have f0:=B1.frozen 0;have f1:=B1.frozen 1;obtain ⟨x0,x1⟩:=B1.c2;have lx:=B1.lt;have H4:=Qo B1 (.int .i64 0) (.int .i64 1);have EF:=(E.setCell (p:=⟨b1,0,none⟩) hbr (.int .i64 0)).setCell (p:=⟨b1,1,none⟩) hbr (.int .i64 1);obtain ⟨y0,y1⟩:=H4.c2;go_wp2;refine bodyPost_ret (v:=.tuple #[.agg #[.int .i64 0,.int .i64 1],.int .i64 0]) (by simp [results,Tryz.results171,go_sem,y0,y1]) rfl ⟨rfl,EF⟩
  ·have g1 : (a.n == 0) = false := beq_eq_false_iff_ne.2 ha0;have NR := fun w b6 b13 neg (hneg : neg = (decide (a.n < 0) != decide (b.n < 0))) h h' => De (some ⟨b6, 0, none⟩) (some ⟨b13, 0, none⟩) 2 2 2 2 (Ka a.n.natAbs b.d.natAbs) (Ka a.d.natAbs b.n.natAbs) neg w h h' (fun h => by cases h) (fun h => by cases h) (by decide) (by decide) (Qby Qa Qa) (Qbx Qa Qa) (Qby Qa Qa) (Qbx Qa Qa)
   have NR2 : ∀ (w : World) (b6 b13 : Nat),Qs w (some ⟨b6,0,none⟩) 2 1 (Zd (Ka a.n.natAbs b.d.natAbs)) → Qs w (some ⟨b13,0,none⟩) 2 1 (Zd (Ka a.d.natAbs b.n.natAbs)) → Calls Tryz.prog 163 #[.agg #[.slice (some ⟨b6,0,none⟩) 2 2,.slice (some ⟨b13,0,none⟩) 2 2],.bool (!(decide (a.n < 0) == decide (b.n < 0)))] w fun e w' => e = .returned (.tuple #[.agg #[.int .i64 R.1.n,.int .i64 R.1.d],.int .i64 R.2]) ∧ Qb w w':=fun w b6 b13 h h' => by
    have:=NR w b6 b13 _ rfl h h';rw [Qbz,Qbz] at this;have hr' : R = Jn (!(decide (a.n < 0) == decide (b.n < 0))) (a.n.natAbs * b.d.natAbs) (a.d.natAbs * b.n.natAbs):=hr;rw [hr'];exact this
   clear NR hr hb0 ha0 a1 a2 a3 a4 b1' b2' b3' b4';obtain ⟨⟨Rn,Rd⟩,Re⟩:=R;go_upto_region 5 with (fail)
   clear k0 k1 lk p0 p1 lp;apply Qn3 (S:=fun w' b6 b13 b15 => Qb v w' ∧ Qc w' b6 245 #[.int .u64 (a.n.natAbs : Int),.int .u64 (b.d.natAbs : Int)] ∧ Qc w' b13 245 #[.int .u64 (a.d.natAbs : Int),.int .u64 (b.n.natAbs : Int)] ∧ Qc w' b15 252 #[.slice (some ⟨b6,0,none⟩) 2 2,.slice (some ⟨b13,0,none⟩) 2 2])
   ·refine Q5 17 [16] (fun x => Qb v x) mixed rfl ?_;intro vz hvz;have HC:=hvz;have mz0:=trivial
    all_goals try
     (clear mz0
      refine Qr (g:=9) [0,1,3,4,7,8,10,11] HC ?_
      constructor
      refine ⟨fun u hu => ?_,?_⟩
      ·obtain ⟨k0,k1⟩:=(HA.ext hu).c2;have lk:=(HA.ext hu).lt;obtain ⟨p0,p1⟩:=(HB.ext hu).c2;have lp:=(HB.ext hu).lt;exact Qj
      have mz1:=trivial)
    all_goals try
     (clear mz1
      refine Vt 2 15 rfl rfl (by kernel_rfl) ?_ ?_ <;> first
       | (simp only [Q8,Q9,Za]
          go_wp2_with (go_at_call 162;(with_reducible refine zc (N1 _) ?_);rintro e wa ⟨rfl,h4⟩);replace HC:=HC.trans h4;try replace Q6:=Q6.ext h4
          try replace Q13:=Q13.ext h4
          try replace Q15:=Q15.ext h4
          clear h4;have mz2:=trivial
          refine Qe HC ?_)
       | (simp only [Q8,Q9,Za]
          go_wp2;obtain ⟨b15,wb,hbq,hwb,Q15,HC',hx,hgeb15⟩:=Qp HC 252 #[.slice none 0 0,.slice none 0 0];rw [← hbq,← hwb];clear hbq hwb;replace HC:=HC';clear HC';try replace Q6:=Q6.ext hx
          try replace Q13:=Q13.ext hx
          clear hx;have mz3:=trivial;refine Qe HC ?_))
    all_goals try
     (clear mz2
      refine Vt 5 15 rfl rfl (by kernel_rfl) ?_ ?_ <;> first
       | (simp only [Q8,Q9,Za]
          go_wp2_with (go_at_call 162;(with_reducible refine zc (N2 _) ?_);rintro e wa ⟨rfl,h4⟩);replace HC:=HC.trans h4;try replace Q6:=Q6.ext h4
          try replace Q13:=Q13.ext h4
          try replace Q15:=Q15.ext h4
          clear h4;have mz4:=trivial
          refine Qe HC ?_)
       | (simp only [Q8,Q9,Za]
          go_wp2;obtain ⟨b15,wb,hbq,hwb,Q15,HC',hx,hgeb15⟩:=Qp HC 252 #[.slice none 0 0,.slice none 0 0];rw [← hbq,← hwb];clear hbq hwb;replace HC:=HC';clear HC';try replace Q6:=Q6.ext hx
          try replace Q13:=Q13.ext hx
          clear hx;have mz5:=trivial;refine Qe HC ?_))
    all_goals try
     (clear mz3
      refine Qk 2 ?_;go_wp2_with (go_at_call 162;(with_reducible refine zc (N1 _) ?_);rintro e wa ⟨rfl,h4⟩);replace HC:=HC.trans h4;try replace Q6:=Q6.ext h4
      try replace Q13:=Q13.ext h4
      try replace Q15:=Q15.ext h4
      clear h4;have mz5:=trivial;refine Qe HC ?_)
    all_goals try
     (clear mz4
      refine Ru 6 9 15 rfl rfl rfl (by kernel_rfl) ?_ ?_ ?_ <;> first
       | (simp only [Q8,Q9,Za]
          go_wp2_with (go_at_call 162;(with_reducible refine zc (N3 _) ?_);rintro e wa ⟨rfl,h4⟩);replace HC:=HC.trans h4;try replace Q6:=Q6.ext h4
          try replace Q13:=Q13.ext h4
          try replace Q15:=Q15.ext h4
          clear h4;have mz7:=trivial
          refine Qe HC ?_)
       | (simp only [Q8,Q9,Za]
          go_wp2;obtain ⟨b6,wb,hbq,hwb,Q6,HC',hx,hgeb6⟩:=Qp HC 245 #[.int .u64 (a.n.natAbs : Int),.int .u64 (b.d.natAbs : Int)];rw [← hbq,← hwb];clear hbq hwb;replace HC:=HC';clear HC';try replace Q13:=Q13.ext hx
          try replace Q15:=Q15.ext hx
          clear hx;have mz6:=trivial
          refine Qe HC ?_)
       | (simp only [Q8,Q9,Za]
          go_wp2;obtain ⟨b15,wb,hbq,hwb,Q15,HC',hx,hgeb15⟩:=Qp HC 252 #[.slice none 0 0,.slice none 0 0];rw [← hbq,← hwb];clear hbq hwb;replace HC:=HC';clear HC';try replace Q6:=Q6.ext hx
          try replace Q13:=Q13.ext hx
          clear hx;have mz8:=trivial;refine Qe HC ?_))
    all_goals try
     (clear mz5
      refine Qk 5 ?_;go_wp2_with (go_at_call 162;(with_reducible refine zc (N2 _) ?_);rintro e wa ⟨rfl,h4⟩);replace HC:=HC.trans h4;try replace Q6:=Q6.ext h4
      try replace Q13:=Q13.ext h4
      try replace Q15:=Q15.ext h4
      clear h4;have mz8:=trivial;refine Qe HC ?_)
    all_goals try
     (clear mz6
      refine Vt 9 15 rfl rfl (by kernel_rfl) ?_ ?_ <;> first
       | (simp only [Q8,Q9,Za]
          go_wp2_with (go_at_call 162;(with_reducible refine zc (N3 _) ?_);rintro e wa ⟨rfl,h4⟩);replace HC:=HC.trans h4;try replace Q6:=Q6.ext h4
          try replace Q13:=Q13.ext h4
          try replace Q15:=Q15.ext h4
          clear h4;have mz9:=trivial
          refine Qe HC ?_)
       | (simp only [Q8,Q9,Za]
          go_wp2;obtain ⟨b15,wb,hbq,hwb,Q15,HC',hx,hgeb15⟩:=Qp HC 252 #[.slice none 0 0,.slice none 0 0];rw [← hbq,← hwb];clear hbq hwb;replace HC:=HC';clear HC';try replace Q6:=Q6.ext hx
          try replace Q13:=Q13.ext hx
          clear hx;have mz10:=trivial;refine Qe HC ?_))
    all_goals try
     (clear mz7
      refine Ru 6 12 15 rfl rfl rfl (by kernel_rfl) ?_ ?_ ?_ <;> first
       | (simp only [Q8,Q9,Za]
          go_wp2_with (go_at_call 162;(with_reducible refine zc (N4 _) ?_);rintro e wa ⟨rfl,h4⟩);replace HC:=HC.trans h4;try replace Q6:=Q6.ext h4
          try replace Q13:=Q13.ext h4
          try replace Q15:=Q15.ext h4
          clear h4;have mz11:=trivial
          refine Qe HC ?_)
       | (simp only [Q8,Q9,Za]
          go_wp2;obtain ⟨b6,wb,hbq,hwb,Q6,HC',hx,hgeb6⟩:=Qp HC 245 #[.int .u64 (a.n.natAbs : Int),.int .u64 (b.d.natAbs : Int)];rw [← hbq,← hwb];clear hbq hwb;replace HC:=HC';clear HC';try replace Q13:=Q13.ext hx
          try replace Q15:=Q15.ext hx
          clear hx;have mz9:=trivial
          refine Qe HC ?_)
       | (simp only [Q8,Q9,Za]
          go_wp2;obtain ⟨b15,wb,hbq,hwb,Q15,HC',hx,hgeb15⟩:=Qp HC 252 #[.slice none 0 0,.slice none 0 0];rw [← hbq,← hwb];clear hbq hwb;replace HC:=HC';clear HC';try replace Q6:=Q6.ext hx
          try replace Q13:=Q13.ext hx
          clear hx;have mz12:=trivial;refine Qe HC ?_))
    all_goals try
     (clear mz8
      refine Vt 6 9 rfl rfl (by kernel_rfl) ?_ ?_ <;> first
       | (simp only [Q8,Q9,Za]
          go_wp2_with (go_at_call 162;(with_reducible refine zc (N3 _) ?_);rintro e wa ⟨rfl,h4⟩);replace HC:=HC.trans h4;try replace Q6:=Q6.ext h4
          try replace Q13:=Q13.ext h4
          try replace Q15:=Q15.ext h4
          clear h4;have mz12:=trivial
          refine Qe HC ?_)
       | (simp only [Q8,Q9,Za]
          go_wp2;obtain ⟨b6,wb,hbq,hwb,Q6,HC',hx,hgeb6⟩:=Qp HC 245 #[.int .u64 (a.n.natAbs : Int),.int .u64 (b.d.natAbs : Int)];rw [← hbq,← hwb];clear hbq hwb;replace HC:=HC';clear HC';try replace Q13:=Q13.ext hx
          try replace Q15:=Q15.ext hx
          clear hx;have mz10:=trivial;refine Qe HC ?_))
    all_goals try
     (clear mz9
      refine Vt 12 15 rfl rfl (by kernel_rfl) ?_ ?_ <;> first
       | (simp only [Q8,Q9,Za]
          go_wp2_with (go_at_call 162;(with_reducible refine zc (N4 _) ?_);rintro e wa ⟨rfl,h4⟩);replace HC:=HC.trans h4;try replace Q6:=Q6.ext h4
          try replace Q13:=Q13.ext h4
          try replace Q15:=Q15.ext h4
          clear h4;have mz13:=trivial
          refine Qe HC ?_)
       | (simp only [Q8,Q9,Za]
          go_wp2;obtain ⟨b15,wb,hbq,hwb,Q15,HC',hx,hgeb15⟩:=Qp HC 252 #[.slice none 0 0,.slice none 0 0];rw [← hbq,← hwb];clear hbq hwb;replace HC:=HC';clear HC';try replace Q6:=Q6.ext hx
          try replace Q13:=Q13.ext hx
          clear hx;have mz14:=trivial;refine Qe HC ?_))
    all_goals try
     (clear mz10
      refine Qk 9 ?_;go_wp2_with (go_at_call 162;(with_reducible refine zc (N3 _) ?_);rintro e wa ⟨rfl,h4⟩);replace HC:=HC.trans h4;try replace Q6:=Q6.ext h4
      try replace Q13:=Q13.ext h4
      try replace Q15:=Q15.ext h4
      clear h4;have mz14:=trivial;refine Qe HC ?_)
    all_goals try
     (clear mz11
      refine Ru 6 13 15 rfl rfl rfl (by kernel_rfl) ?_ ?_ ?_ <;> first
       | (simp only [Q8,Q9,Za]
          go_wp2;obtain ⟨b6,wb,hbq,hwb,Q6,HC',hx,hgeb6⟩:=Qp HC 245 #[.int .u64 (a.n.natAbs : Int),.int .u64 (b.d.natAbs : Int)];rw [← hbq,← hwb];clear hbq hwb;replace HC:=HC';clear HC';try replace Q13:=Q13.ext hx
          try replace Q15:=Q15.ext hx
          clear hx;have mz13:=trivial
          refine Qe HC ?_)
       | (simp only [Q8,Q9,Za]
          go_wp2;obtain ⟨b13,wb,hbq,hwb,Q13,HC',hx,hgeb13⟩:=Qp HC 245 #[.int .u64 (a.d.natAbs : Int),.int .u64 (b.n.natAbs : Int)];rw [← hbq,← hwb];clear hbq hwb;replace HC:=HC';clear HC';try replace Q6:=Q6.ext hx
          try replace Q15:=Q15.ext hx
          clear hx;have mz15:=trivial
          refine Qe HC ?_)
       | (simp only [Q8,Q9,Za]
          go_wp2;obtain ⟨b15,wb,hbq,hwb,Q15,HC',hx,hgeb15⟩:=Qp HC 252 #[.slice none 0 0,.slice none 0 0];rw [← hbq,← hwb];clear hbq hwb;replace HC:=HC';clear HC';try replace Q6:=Q6.ext hx
          try replace Q13:=Q13.ext hx
          clear hx;have mz16:=trivial;refine Qe HC ?_))
    all_goals try
     (clear mz12
      refine Vt 6 12 rfl rfl (by kernel_rfl) ?_ ?_ <;> first
       | (simp only [Q8,Q9,Za]
          go_wp2_with (go_at_call 162;(with_reducible refine zc (N4 _) ?_);rintro e wa ⟨rfl,h4⟩);replace HC:=HC.trans h4;try replace Q6:=Q6.ext h4
          try replace Q13:=Q13.ext h4
          try replace Q15:=Q15.ext h4
          clear h4;have mz16:=trivial
          refine Qe HC ?_)
       | (simp only [Q8,Q9,Za]
          go_wp2;obtain ⟨b6,wb,hbq,hwb,Q6,HC',hx,hgeb6⟩:=Qp HC 245 #[.int .u64 (a.n.natAbs : Int),.int .u64 (b.d.natAbs : Int)];rw [← hbq,← hwb];clear hbq hwb;replace HC:=HC';clear HC';try replace Q13:=Q13.ext hx
          try replace Q15:=Q15.ext hx
          clear hx;have mz14:=trivial;refine Qe HC ?_))
    all_goals try
     (clear mz13
      refine Vt 13 15 rfl rfl (by kernel_rfl) ?_ ?_ <;> first
       | (simp only [Q8,Q9,Za]
          go_wp2;obtain ⟨b13,wb,hbq,hwb,Q13,HC',hx,hgeb13⟩:=Qp HC 245 #[.int .u64 (a.d.natAbs : Int),.int .u64 (b.n.natAbs : Int)];rw [← hbq,← hwb];clear hbq hwb;replace HC:=HC';clear HC';try replace Q6:=Q6.ext hx
          try replace Q15:=Q15.ext hx
          clear hx;have mz17:=trivial
          refine Qe HC ?_)
       | (simp only [Q8,Q9,Za]
          go_wp2;obtain ⟨b15,wb,hbq,hwb,Q15,HC',hx,hgeb15⟩:=Qp HC 252 #[.slice none 0 0,.slice none 0 0];rw [← hbq,← hwb];clear hbq hwb;replace HC:=HC';clear HC';try replace Q6:=Q6.ext hx
          try replace Q13:=Q13.ext hx
          clear hx;have mz18:=trivial;refine Qe HC ?_))
    all_goals try
     (clear mz14
      refine Qk 12 ?_;go_wp2_with (go_at_call 162;(with_reducible refine zc (N4 _) ?_);rintro e wa ⟨rfl,h4⟩);replace HC:=HC.trans h4;try replace Q6:=Q6.ext h4
      try replace Q13:=Q13.ext h4
      try replace Q15:=Q15.ext h4
      clear h4;have mz18:=trivial;refine Qe HC ?_)
    all_goals try
     (clear mz15
      refine Vt 6 15 rfl rfl (by kernel_rfl) ?_ ?_ <;> first
       | (simp only [Q8,Q9,Za]
          go_wp2;obtain ⟨b6,wb,hbq,hwb,Q6,HC',hx,hgeb6⟩:=Qp HC 245 #[.int .u64 (a.n.natAbs : Int),.int .u64 (b.d.natAbs : Int)];rw [← hbq,← hwb];clear hbq hwb;replace HC:=HC';clear HC';try replace Q13:=Q13.ext hx
          try replace Q15:=Q15.ext hx
          clear hx;have mz17:=trivial
          refine Qe HC ?_)
       | (simp only [Q8,Q9,Za]
          go_wp2;obtain ⟨b15,wb,hbq,hwb,Q15,HC',hx,hgeb15⟩:=Qp HC 252 #[.slice none 0 0,.slice none 0 0];rw [← hbq,← hwb];clear hbq hwb;replace HC:=HC';clear HC';try replace Q6:=Q6.ext hx
          try replace Q13:=Q13.ext hx
          clear hx;have mz19:=trivial;refine Qe HC ?_))
    all_goals try
     (clear mz16
      refine Vt 6 13 rfl rfl (by kernel_rfl) ?_ ?_ <;> first
       | (simp only [Q8,Q9,Za]
          go_wp2;obtain ⟨b6,wb,hbq,hwb,Q6,HC',hx,hgeb6⟩:=Qp HC 245 #[.int .u64 (a.n.natAbs : Int),.int .u64 (b.d.natAbs : Int)];rw [← hbq,← hwb];clear hbq hwb;replace HC:=HC';clear HC';try replace Q13:=Q13.ext hx
          try replace Q15:=Q15.ext hx
          clear hx;have mz18:=trivial
          refine Qe HC ?_)
       | (simp only [Q8,Q9,Za]
          go_wp2;obtain ⟨b13,wb,hbq,hwb,Q13,HC',hx,hgeb13⟩:=Qp HC 245 #[.int .u64 (a.d.natAbs : Int),.int .u64 (b.n.natAbs : Int)];rw [← hbq,← hwb];clear hbq hwb;replace HC:=HC';clear HC';try replace Q6:=Q6.ext hx
          try replace Q15:=Q15.ext hx
          clear hx;have mz19:=trivial;refine Qe HC ?_))
    all_goals try
     (clear mz17
      refine Qr (g:=2) [14] HC ?_
      constructor
      refine ⟨fun u hu => ?_,?_⟩
      ·obtain ⟨k0,k1⟩:=(HA.ext hu).c2;have lk:=(HA.ext hu).lt;obtain ⟨p0,p1⟩:=(HB.ext hu).c2;have lp:=(HB.ext hu).lt;exact Qj
      have mz20:=trivial)
    all_goals try
     (clear mz18
      refine Qk 13 ?_;go_wp2;obtain ⟨b13,wb,hbq,hwb,Q13,HC',hx,hgeb13⟩:=Qp HC 245 #[.int .u64 (a.d.natAbs : Int),.int .u64 (b.n.natAbs : Int)];rw [← hbq,← hwb];clear hbq hwb;replace HC:=HC';clear HC';try replace Q6:=Q6.ext hx
      try replace Q15:=Q15.ext hx
      clear hx;have mz21:=trivial;refine Qe HC ?_)
    all_goals try
     (clear mz19
      refine Qk 6 ?_;go_wp2;obtain ⟨b6,wb,hbq,hwb,Q6,HC',hx,hgeb6⟩:=Qp HC 245 #[.int .u64 (a.n.natAbs : Int),.int .u64 (b.d.natAbs : Int)];rw [← hbq,← hwb];clear hbq hwb;replace HC:=HC';clear HC';try replace Q13:=Q13.ext hx
      try replace Q15:=Q15.ext hx
      clear hx;have mz21:=trivial;refine Qe HC ?_)
    all_goals try
     (clear mz20
      refine Qk 15 ?_;go_wp2;obtain ⟨b15,wb,hbq,hwb,Q15,HC',hx,hgeb15⟩:=Qp HC 252 #[.slice none 0 0,.slice none 0 0];rw [← hbq,← hwb];clear hbq hwb;replace HC:=HC';clear HC';try replace Q6:=Q6.ext hx
      try replace Q13:=Q13.ext hx
      clear hx;have mz22:=trivial;refine Qe HC ?_)
    all_goals try
     (clear mz21
      refine Qr (g:=1) [14] HC ?_
      constructor
      refine ⟨fun u hu => ?_,?_⟩
      ·obtain ⟨k0,k1⟩:=(HA.ext hu).c2;have lk:=(HA.ext hu).lt;obtain ⟨p0,p1⟩:=(HB.ext hu).c2;have lp:=(HB.ext hu).lt;exact Qj
      have mz22:=trivial)
    all_goals try
     (clear mz22
      refine Qn 16 ?_;have z0:=Q15.frozen 0;have z1:=Q15.frozen 1;obtain ⟨x0,x1⟩:=Q15.c2;have lx:=Q15.lt;have n6 : b6 ≠ b15:=fun e => Qbb (e ▸ Q6) Q15
      have n13 : b13 ≠ b15:=fun e => Qbb (e ▸ Q13) Q15
      have S15:=Qo Q15 (.slice (some ⟨b6,0,none⟩) 2 2) (.slice (some ⟨b13,0,none⟩) 2 2);have S6:=Qg (Qg Q6 n6 0 (.slice (some ⟨b6,0,none⟩) 2 2)) n6 1 (.slice (some ⟨b13,0,none⟩) 2 2);have S13:=Qg (Qg Q13 n13 0 (.slice (some ⟨b6,0,none⟩) 2 2)) n13 1 (.slice (some ⟨b13,0,none⟩) 2 2);have HE2:=(HC.setCell (p:=⟨b15,0,none⟩) hgeb15 (.slice (some ⟨b6,0,none⟩) 2 2)).setCell (p:=⟨b15,1,none⟩) hgeb15 (.slice (some ⟨b13,0,none⟩) 2 2);go_wp2;have mz23:=trivial;refine Qm ?_)
    all_goals try
     (clear mz23
      refine Qt ?_;exact Qgw b6 b13 b15 ⟨HE2,S6,S13,S15⟩ rfl)
   rintro b6 b13 b15 w5 ⟨E5,S6,S13,S15⟩;clear N1 N2 N3 N4;obtain ⟨k0,k1⟩:=(HA.ext E5).c2;have lk:=(HA.ext E5).lt;obtain ⟨p0,p1⟩:=(HB.ext E5).c2;have lp:=(HB.ext E5).lt;obtain ⟨r0,r1⟩:=S15.c2;have lr:=S15.lt;replace E:=E.trans E5;replace B1:=B1.ext E5;go_wp2_with (first | (go_at_call 163;(with_reducible refine zc (NR2 _ _ _ (Qdv S6) (Qdv S13)) ?_);rintro e wt ⟨rfl,ht⟩;replace E:=E.trans ht;replace B1:=B1.ext ht;have f0:=B1.frozen 0;have f1:=B1.frozen 1;obtain ⟨x0,x1⟩:=B1.c2;have lx:=B1.lt));have H4:=Qo B1 (.int .i64 Rn) (.int .i64 Rd);have EF:=(E.setCell (p:=⟨b1,0,none⟩) hbr (.int .i64 Rn)).setCell (p:=⟨b1,1,none⟩) hbr (.int .i64 Rd)
   obtain ⟨y0,y1⟩:=H4.c2;go_wp2;refine bodyPost_ret (v:=.tuple #[.agg #[.int .i64 Rn,.int .i64 Rd],.int .i64 Re]) (by simp [results,Tryz.results171,go_sem,y0,y1]) rfl ⟨rfl,EF⟩
theorem Qfr (a b : Rt) (hia : a.In) (hib : b.In) (ba bb : Nat) (w : World) (hA : Qc w ba 65 #[.int .i64 a.n,.int .i64 a.d]) (hB : Qc w bb 65 #[.int .i64 b.n,.int .i64 b.d]) (hZ : Z6 w) :
  Calls Tryz.prog 132 #[.agg #[.int .i64 a.n,.int .i64 a.d],.agg #[.int .i64 b.n,.int .i64 b.d],.func (.func 171) #[] #[.pointer (some ⟨bb,0,none⟩),.pointer (some ⟨ba,0,none⟩)]] w fun e w' => e = .returned (.tuple #[.agg #[.int .i64 (Yc a b).1.n,.int .i64 (Yc a b).1.d],.int .i64 (Yc a b).2]) ∧ Qb w w':=by
 have NA:=fun w => Vl a.n a.d hia.1 hia.2.1 hia.2.2.1 hia.2.2.2 w
 have NB:=fun w => Vl b.n b.d hib.1 hib.2.1 hib.2.2.1 hib.2.2.2 w
 rw [show Rt.ok ⟨a.n,a.d⟩ = a.ok from rfl] at NA;rw [show Rt.ok ⟨b.n,b.d⟩ = b.ok from rfl] at NB;have NC:=fun ha hb w h1 h2 z => Qhb a b ha hb ba bb w h1 h2 z
 have HV : Hid (Yc a b = if a.ok && b.ok then (if b.n = 0 then (Zk,9) else Jn (decide (a.n < 0) != decide (b.n < 0)) (a.n.natAbs * b.d.natAbs) (a.d.natAbs * b.n.natAbs)) else (Zk,2)):=rfl;obtain ⟨R,hR0⟩:=Qf (Yc a b);rw [← hR0];have HR:=Lib.hid hR0;clear hR0;rw [show Yc a b = R from HR.out.symm] at HV;clear HR
 go_enter Tryz.func132,Tryz.ntmps132
 go_upto_region 1 with (fail)
 obtain ⟨v,b1,b2,b3,E,B1,B2,B3,hbr1,hbr2,hbr,hn21,hn31,hn32,hv,hb1,hb2,hb3⟩:=Uq w 65 #[.int .i64 a.n,.int .i64 a.d] 65 #[.int .i64 b.n,.int .i64 b.d] 65 #[.int .i64 0,.int .i64 0];rw [← hv,← hb3,← hb2,← hb1];clear hv hb1 hb2 hb3;obtain ⟨k0,k1⟩:=B1.c2;have lk:=B1.lt;obtain ⟨p0,p1⟩:=B2.c2;have lp:=B2.lt;cases ha : a.ok
 ·simp only [ha] at NA;have hr:=HV.out;rw [ha,Bool.false_and,if_neg (by decide)] at hr;subst hr;clear HV NC NB;go_upto_region 2 with (go_at_call 121;(with_reducible refine zc (NA _) ?_);rintro e w2 ⟨rfl,h⟩)
  replace E:=E.trans h;replace B3:=B3.ext h;have f0:=B3.frozen 0;have f1:=B3.frozen 1;obtain ⟨x0,x1⟩:=B3.c2;have lx:=B3.lt;have H4:=Qo B3 (.int .i64 0) (.int .i64 0);have EF:=(E.setCell (p:=⟨b3,0,none⟩) hbr (.int .i64 0)).setCell (p:=⟨b3,1,none⟩) hbr (.int .i64 0);obtain ⟨y0,y1⟩:=H4.c2;go_wp2;refine bodyPost_ret (v:=.tuple #[.agg #[.int .i64 0,.int .i64 0],.int .i64 2]) (by simp [results,Tryz.results132,go_sem,y0,y1]) rfl ⟨rfl,EF⟩
 ·simp only [ha] at NA;cases hb : b.ok
  ·simp only [hb] at NB;have hr:=HV.out;rw [hb,Bool.and_false,if_neg (by decide)] at hr;subst hr;clear HV NC;go_upto_region 2 with (first | (go_at_call 121;(with_reducible refine zc (NA _) ?_);rintro e w1 ⟨rfl,h1⟩;clear p0 p1 lp;obtain ⟨p0,p1⟩:=(B2.ext h1).c2;have lp:=(B2.ext h1).lt) | (go_at_call 121;(with_reducible refine zc (NB _) ?_);rintro e w2 ⟨rfl,h⟩))
   replace E:=(E.trans h1).trans h;replace B3:=(B3.ext h1).ext h;have f0:=B3.frozen 0;have f1:=B3.frozen 1;obtain ⟨x0,x1⟩:=B3.c2;have lx:=B3.lt;have H4:=Qo B3 (.int .i64 0) (.int .i64 0);have EF:=(E.setCell (p:=⟨b3,0,none⟩) hbr (.int .i64 0)).setCell (p:=⟨b3,1,none⟩) hbr (.int .i64 0);obtain ⟨y0,y1⟩:=H4.c2;go_wp2;refine bodyPost_ret (v:=.tuple #[.agg #[.int .i64 0,.int .i64 0],.int .i64 2]) (by simp [results,Tryz.results132,go_sem,y0,y1]) rfl ⟨rfl,EF⟩
  ·simp only [hb] at NB;replace NC:=NC ha hb;have hr:=HV.out;rw [ha,hb,Bool.and_true,if_pos rfl] at hr;rw [← hr] at NC;clear HV hr ha hb;obtain ⟨⟨Rn,Rd⟩,Re⟩:=R;go_upto_region 3 with (first | (go_at_call 121;(with_reducible refine zc (NA _) ?_);rintro e w1 ⟨rfl,h1⟩;clear p0 p1 lp;obtain ⟨p0,p1⟩:=(B2.ext h1).c2;have lp:=(B2.ext h1).lt) | (go_at_call 121;(with_reducible refine zc (NB _) ?_);rintro e w2 ⟨rfl,h⟩))
   have e2:=(E.trans h1).trans h;replace B3:=(B3.ext h1).ext h;replace NC:=NC w2 (hA.ext e2) (hB.ext e2) (hZ.ext e2);replace E:=e2;go_wp2_with (first | (go_at_call 171;(with_reducible refine zc (NC) ?_);rintro e wt ⟨rfl,ht⟩;replace E:=E.trans ht;replace B3:=B3.ext ht;have f0:=B3.frozen 0;have f1:=B3.frozen 1;obtain ⟨x0,x1⟩:=B3.c2;have lx:=B3.lt) | (go_at_fn 171;(with_reducible refine zc (NC) ?_);rintro e wt ⟨rfl,ht⟩;replace E:=E.trans ht;replace B3:=B3.ext ht;have f0:=B3.frozen 0;have f1:=B3.frozen 1;obtain ⟨x0,x1⟩:=B3.c2;have lx:=B3.lt));have H4:=Qo B3 (.int .i64 Rn) (.int .i64 Rd);have EF:=(E.setCell (p:=⟨b3,0,none⟩) hbr (.int .i64 Rn)).setCell (p:=⟨b3,1,none⟩) hbr (.int .i64 Rd)
   obtain ⟨y0,y1⟩:=H4.c2;go_wp2;refine bodyPost_ret (v:=.tuple #[.agg #[.int .i64 Rn,.int .i64 Rd],.int .i64 Re]) (by simp [results,Tryz.results132,go_sem,y0,y1]) rfl ⟨rfl,EF⟩
theorem Qhc (a b : Rt) (hia : a.In) (hib : b.In) (w : World) (hZ : Z6 w) :
  Calls Tryz.prog 137 #[.agg #[.int .i64 a.n,.int .i64 a.d],.agg #[.int .i64 b.n,.int .i64 b.d]] w fun e w' => e = .returned (.tuple #[.agg #[.int .i64 (Yc a b).1.n,.int .i64 (Yc a b).1.d],.int .i64 (Yc a b).2]) ∧ Qb w w':=by
 have NC:=fun ba bb w h1 h2 z => Qfr a b hia hib ba bb w h1 h2 z
 obtain ⟨R,hR0⟩:=Qf (Yc a b);rw [← hR0];have HR:=Lib.hid hR0;clear hR0;rw [show Yc a b = R from HR.out.symm] at NC;clear HR
 go_enter Tryz.func137,Tryz.ntmps137
 go_upto_region 1 with (fail)
 obtain ⟨v,b1,b2,b3,E,B1,B2,B3,hbr1,hbr2,hbr,hn21,hn31,hn32,hv,hb1,hb2,hb3⟩:=Uq w 65 #[.int .i64 a.n,.int .i64 a.d] 65 #[.int .i64 b.n,.int .i64 b.d] 65 #[.int .i64 0,.int .i64 0];rw [← hv,← hb3,← hb2,← hb1];clear hv hb1 hb2 hb3;have Z0:=hZ.ext E;obtain ⟨k0,k1⟩:=B1.c2;have lk:=B1.lt;obtain ⟨p0,p1⟩:=B2.c2;have lp:=B2.lt;obtain ⟨⟨Rn,Rd⟩,Re⟩:=R;go_wp2_with (first | (go_at_call 132;(with_reducible refine zc (NC _ _ _ B1 B2 Z0) ?_);rintro e wt ⟨rfl,ht⟩;replace E:=E.trans ht;replace B3:=B3.ext ht;have f0:=B3.frozen 0;have f1:=B3.frozen 1;obtain ⟨x0,x1⟩:=B3.c2;have lx:=B3.lt));have H4:=Qo B3 (.int .i64 Rn) (.int .i64 Rd);have EF:=(E.setCell (p:=⟨b3,0,none⟩) hbr (.int .i64 Rn)).setCell (p:=⟨b3,1,none⟩) hbr (.int .i64 Rd)
 obtain ⟨y0,y1⟩:=H4.c2;go_wp2;refine bodyPost_ret (v:=.tuple #[.agg #[.int .i64 Rn,.int .i64 Rd],.int .i64 Re]) (by simp [results,Tryz.results137,go_sem,y0,y1]) rfl ⟨rfl,EF⟩
theorem Qne (g : Nat → Rt × Int) (n : Nat) (p1 : Nat) (w : World) (hg : ∀ i,i < n → ∀ u,Qb w u → Calls Tryz.prog 136 #[.int .i64 (i : Int),.pointer (some ⟨p1,0,none⟩)] u fun e u' => e = .returned (.tuple #[.agg #[.int .i64 (g i).1.n,.int .i64 (g i).1.d],.int .i64 (g i).2]) ∧ Qb u u') (hin : ∀ i,i < n → (g i).1.In) (hn : n ≤ 1000000) (hZ : Z6 w) :
  Calls Tryz.prog 135 #[.int .i64 (n : Int),.func (.func 136) #[] #[.pointer (some ⟨p1,0,none⟩)]] w fun e w' => e = .returned (.tuple #[.agg #[.int .i64 (Un g n).1.n,.int .i64 (Un g n).1.d],.int .i64 (Un g n).2]) ∧ Qb w w':=by
 obtain ⟨V,hV0⟩:=Qf (Un g n);rw [← hV0];replace hV0:=Lib.hid hV0
 go_enter Tryz.func135,Tryz.ntmps135
 go_upto_region 1 with (fail)
 obtain ⟨v,b1,E,B1,hbr,hv,hb1⟩:=Yi w 65 #[.int .i64 0,.int .i64 0];rw [← hv,← hb1];clear hv hb1;have Z0:=hZ.ext E;go_upto_region 3 with (go_at_call 72;(with_reducible refine zc (Wt _ _) ?_);rintro e w1 ⟨rfl,h1⟩)
 obtain ⟨v1,hv⟩:=Qf (w1.alloc (.cells #[.int .i64 0,.int .i64 1] 65));rw [← hv];have HE : Qb v v1:=by rw [hv];exact h1.alloc _
 have H6 : Qc v1 w1.heap.size 65 #[.int .i64 0,.int .i64 1]:=by rw [hv];exact Qc.new _ _ _
 clear hv;obtain ⟨b6,hb6⟩:=Qf (w1.heap.size);rw [← hb6] at H6 ⊢;have g6 : v.heap.size ≤ b6:=by have:=h1.size;omega
 clear hb6 h1
 go_loopw [12] (fun iv wr => ∃ k : Nat,k ≤ n ∧ iv = .int .i64 (k : Int) ∧ ∃ s,Rt.In s ∧ Qb v wr ∧ Qc wr b6 65 #[.int .i64 s.n,.int .i64 s.d] ∧ Hid (V = W8 g k (n - k) s)) (fun iv _ => n - (intOf iv).toNat)
 case atStart => exact ⟨0,Nat.zero_le _,rfl,Ju 0,Vp,HE,H6,hV0.out⟩
 case round =>
  clear HE H6 hV0;obtain ⟨k,hk,rfl,s,hs,HE,H6,hV⟩:=hrel;obtain ⟨wo,rfl⟩:=Qf wr;by_cases hlt : k < n
  ·obtain ⟨m, hm⟩ : ∃ m, n - k = m + 1 := ⟨n - k - 1, by omega⟩;have hm2 : n - (k + 1) = m := by omega
   have hV' : Hid (V = if (g k).2 ≠ 0 then (Zk,(g k).2) else if (Zm s (g k).1).2 ≠ 0 then (Zk,(Zm s (g k).1).2) else W8 g (k + 1) m (Zm s (g k).1).1):=by
    unfold Hid;rw [hV.out,hm];rfl
   have NG:=hg k hlt wo (E.trans HE);have hgi:=hin k hlt;clear hV hm hg hin;generalize g k = G at *;obtain ⟨⟨Gn,Gd⟩,Ge⟩:=G;simp only [] at hV' NG hgi;go_upto_region 6 with (first | (go_at_call 136;(with_reducible refine zc (NG) ?_);rintro e w8 ⟨rfl,h8⟩) | (go_at_fn 136;(with_reducible refine zc (NG) ?_);rintro e w8 ⟨rfl,h8⟩))
   obtain ⟨v2,hv⟩:=Qf (w8.alloc (.cells #[.int .i64 Gn,.int .i64 Gd] 65));rw [← hv];have E2 : Qb w8 v2:=by rw [hv];exact (Qb.refl _).alloc _
   have H8 : Qc v2 w8.heap.size 65 #[.int .i64 Gn,.int .i64 Gd]:=by rw [hv];exact Qc.new _ _ _
   clear hv;have hz:=h8.size;have h6l:=H6.lt;have hzv:=HE.size;obtain ⟨b8,hb8⟩:=Qf (w8.heap.size);rw [← hb8] at H8 ⊢;have n68 : b6 ≠ b8:=by omega
   have g8 : v.heap.size ≤ b8:=by omega
   clear hb8 hz h6l hzv;replace HE:=(HE.trans h8).trans E2;replace H6:=(H6.ext h8).ext E2;clear h8 E2 NG;by_cases h0 : Ge = 0
   ·subst h0;have NA:=fun w z => Nx s ⟨Gn,Gd⟩ hs hgi w z
    have hSi:=Lf s ⟨Gn,Gd⟩;generalize Zm s ⟨Gn,Gd⟩ = S at *;obtain ⟨⟨Sn,Sd⟩,Se⟩:=S;simp only [] at hV' NA hSi;obtain ⟨p0,p1⟩:=H6.c2;have lp:=H6.lt;obtain ⟨q0,q1⟩:=H8.c2;have lq:=H8.lt;go_upto_region 8 with (go_at_call 86;(with_reducible refine zc (NA _ (Z0.ext HE)) ?_);rintro e w9 ⟨rfl,h9⟩;replace HE:=HE.trans h9;replace H6:=H6.ext h9;replace H8:=H8.ext h9;clear q0 q1 lq p0 p1 lp;have f0:=H8.frozen 0;have f1:=H8.frozen 1;obtain ⟨x0,x1⟩:=H8.c2;have lx:=H8.lt)
    have H8b:=Qo H8 (.int .i64 Sn) (.int .i64 Sd);have H6b:=Qg (Qg H6 n68 0 (.int .i64 Sn)) n68 1 (.int .i64 Sd);have HEb:=(HE.setCell (p:=⟨b8,0,none⟩) g8 (.int .i64 Sn)).setCell (p:=⟨b8,1,none⟩) g8 (.int .i64 Sd);generalize World.setCell _ _ _ = v3 at *;clear f0 f1 x0 x1 lx H6 H8 HE;have HE:=HEb;have H6:=H6b;have H8:=H8b;clear HEb H6b H8b;by_cases h1 : Se = 0
    ·subst h1;obtain ⟨q0, q1⟩ := H8.c2;have lq := H8.lt;have f0 := H6.frozen 0;have f1 := H6.frozen 1;obtain ⟨x0, x1⟩ := H6.c2;have lx := H6.lt;have H6b := Qo H6 (.int .i64 Sn) (.int .i64 Sd);have HEb := (HE.setCell (p := ⟨b6, 0, none⟩) g6 (.int .i64 Sn)).setCell (p := ⟨b6, 1, none⟩) g6 (.int .i64 Sd);have hV2 : Hid (V = W8 g (k + 1) m ⟨Sn, Sd⟩) := by unfold Hid; rw [hV'.out, if_neg (by simp), if_neg (by simp)]
     rw [← hm2] at hV2;clear hV' hm2;go_wp2;exact ⟨⟨k + 1,by omega,by go_num,⟨Sn,Sd⟩,hSi,HEb,H6b,hV2⟩,by simp [intOf];omega⟩
    ·have g0 : (Se == 0) = false := beq_eq_false_iff_ne.2 h1;have g0n : (Se != 0) = true := by rw [bne, g0]; rfl
     have hr:=hV'.out;rw [if_neg (by simp),if_pos h1] at hr;subst hr;clear hV' h1;replace B1:=B1.ext HE;replace E:=E.trans HE;have f0:=B1.frozen 0;have f1:=B1.frozen 1;obtain ⟨x0,x1⟩:=B1.c2;have lx:=B1.lt;have H4:=Qo B1 (.int .i64 0) (.int .i64 0);have EF:=(E.setCell (p:=⟨b1,0,none⟩) hbr (.int .i64 0)).setCell (p:=⟨b1,1,none⟩) hbr (.int .i64 0);obtain ⟨y0,y1⟩:=H4.c2;go_wp2;refine bodyPost_ret (v:=.tuple #[.agg #[.int .i64 0,.int .i64 0],.int .i64 Se]) (by simp [results,Tryz.results135,go_sem,y0,y1]) rfl ⟨rfl,EF⟩
   ·have g0 : (Ge == 0) = false := beq_eq_false_iff_ne.2 h0;have g0n : (Ge != 0) = true := by rw [bne, g0]; rfl
    have hr:=hV'.out;rw [if_pos h0] at hr;subst hr;clear hV' h0;replace B1:=B1.ext HE;replace E:=E.trans HE;have f0:=B1.frozen 0;have f1:=B1.frozen 1;obtain ⟨x0,x1⟩:=B1.c2;have lx:=B1.lt;have H4:=Qo B1 (.int .i64 0) (.int .i64 0);have EF:=(E.setCell (p:=⟨b1,0,none⟩) hbr (.int .i64 0)).setCell (p:=⟨b1,1,none⟩) hbr (.int .i64 0);obtain ⟨y0,y1⟩:=H4.c2;go_wp2;refine bodyPost_ret (v:=.tuple #[.agg #[.int .i64 0,.int .i64 0],.int .i64 Ge]) (by simp [results,Tryz.results135,go_sem,y0,y1]) rfl ⟨rfl,EF⟩
  ·obtain rfl : k = n := by omega
   have hr:=hV.out;rw [Nat.sub_self] at hr;have hr2 : V = (s,0):=hr;subst hr2;clear hV hr;obtain ⟨p0,p1⟩:=H6.c2;have lp:=H6.lt;replace B1:=B1.ext HE;replace E:=E.trans HE;have f0:=B1.frozen 0;have f1:=B1.frozen 1;obtain ⟨x0,x1⟩:=B1.c2;have lx:=B1.lt;have H4:=Qo B1 (.int .i64 s.n) (.int .i64 s.d);have EF:=(E.setCell (p:=⟨b1,0,none⟩) hbr (.int .i64 s.n)).setCell (p:=⟨b1,1,none⟩) hbr (.int .i64 s.d);obtain ⟨y0,y1⟩:=H4.c2;go_wp2;refine bodyPost_ret (v:=.tuple #[.agg #[.int .i64 s.n,.int .i64 s.d],.int .i64 0]) (by simp [results,Tryz.results135,go_sem,y0,y1]) rfl ⟨rfl,EF⟩
theorem Qnd (g : Nat → Rt × Int) (n : Nat) (p1 p2 : Nat) (w : World) (hg : ∀ i,i < n → ∀ u,Qb w u → Calls Tryz.prog 138 #[.int .i64 (i : Int),.pointer (some ⟨p1,0,none⟩),.pointer (some ⟨p2,0,none⟩)] u fun e u' => e = .returned (.tuple #[.agg #[.int .i64 (g i).1.n,.int .i64 (g i).1.d],.int .i64 (g i).2]) ∧ Qb u u') (hin : ∀ i,i < n → (g i).1.In) (hn : n ≤ 1000000) (hZ : Z6 w) :
  Calls Tryz.prog 135 #[.int .i64 (n : Int),.func (.func 138) #[] #[.pointer (some ⟨p1,0,none⟩),.pointer (some ⟨p2,0,none⟩)]] w fun e w' => e = .returned (.tuple #[.agg #[.int .i64 (Un g n).1.n,.int .i64 (Un g n).1.d],.int .i64 (Un g n).2]) ∧ Qb w w':=by
 obtain ⟨V,hV0⟩:=Qf (Un g n);rw [← hV0];replace hV0:=Lib.hid hV0
 go_enter Tryz.func135,Tryz.ntmps135
 go_upto_region 1 with (fail)
 obtain ⟨v,b1,E,B1,hbr,hv,hb1⟩:=Yi w 65 #[.int .i64 0,.int .i64 0];rw [← hv,← hb1];clear hv hb1;have Z0:=hZ.ext E;go_upto_region 3 with (go_at_call 72;(with_reducible refine zc (Wt _ _) ?_);rintro e w1 ⟨rfl,h1⟩)
 obtain ⟨v1,hv⟩:=Qf (w1.alloc (.cells #[.int .i64 0,.int .i64 1] 65));rw [← hv];have HE : Qb v v1:=by rw [hv];exact h1.alloc _
 have H6 : Qc v1 w1.heap.size 65 #[.int .i64 0,.int .i64 1]:=by rw [hv];exact Qc.new _ _ _
 clear hv;obtain ⟨b6,hb6⟩:=Qf (w1.heap.size);rw [← hb6] at H6 ⊢;have g6 : v.heap.size ≤ b6:=by have:=h1.size;omega
 clear hb6 h1
 go_loopw [12] (fun iv wr => ∃ k : Nat,k ≤ n ∧ iv = .int .i64 (k : Int) ∧ ∃ s,Rt.In s ∧ Qb v wr ∧ Qc wr b6 65 #[.int .i64 s.n,.int .i64 s.d] ∧ Hid (V = W8 g k (n - k) s)) (fun iv _ => n - (intOf iv).toNat)
 case atStart => exact ⟨0,Nat.zero_le _,rfl,Ju 0,Vp,HE,H6,hV0.out⟩
 case round =>
  clear HE H6 hV0;obtain ⟨k,hk,rfl,s,hs,HE,H6,hV⟩:=hrel;obtain ⟨wo,rfl⟩:=Qf wr;by_cases hlt : k < n
  ·obtain ⟨m, hm⟩ : ∃ m, n - k = m + 1 := ⟨n - k - 1, by omega⟩;have hm2 : n - (k + 1) = m := by omega
   have hV' : Hid (V = if (g k).2 ≠ 0 then (Zk,(g k).2) else if (Zm s (g k).1).2 ≠ 0 then (Zk,(Zm s (g k).1).2) else W8 g (k + 1) m (Zm s (g k).1).1):=by
    unfold Hid;rw [hV.out,hm];rfl
   have NG:=hg k hlt wo (E.trans HE);have hgi:=hin k hlt;clear hV hm hg hin;generalize g k = G at *;obtain ⟨⟨Gn,Gd⟩,Ge⟩:=G;simp only [] at hV' NG hgi;go_upto_region 6 with (first | (go_at_call 138;(with_reducible refine zc (NG) ?_);rintro e w8 ⟨rfl,h8⟩) | (go_at_fn 138;(with_reducible refine zc (NG) ?_);rintro e w8 ⟨rfl,h8⟩))
   obtain ⟨v2,hv⟩:=Qf (w8.alloc (.cells #[.int .i64 Gn,.int .i64 Gd] 65));rw [← hv];have E2 : Qb w8 v2:=by rw [hv];exact (Qb.refl _).alloc _
   have H8 : Qc v2 w8.heap.size 65 #[.int .i64 Gn,.int .i64 Gd]:=by rw [hv];exact Qc.new _ _ _
   clear hv;have hz:=h8.size;have h6l:=H6.lt;have hzv:=HE.size;obtain ⟨b8,hb8⟩:=Qf (w8.heap.size);rw [← hb8] at H8 ⊢;have n68 : b6 ≠ b8:=by omega
   have g8 : v.heap.size ≤ b8:=by omega
   clear hb8 hz h6l hzv;replace HE:=(HE.trans h8).trans E2;replace H6:=(H6.ext h8).ext E2;clear h8 E2 NG;by_cases h0 : Ge = 0
   ·subst h0;have NA:=fun w z => Nx s ⟨Gn,Gd⟩ hs hgi w z
    have hSi:=Lf s ⟨Gn,Gd⟩;generalize Zm s ⟨Gn,Gd⟩ = S at *;obtain ⟨⟨Sn,Sd⟩,Se⟩:=S;simp only [] at hV' NA hSi;obtain ⟨p0,p1⟩:=H6.c2;have lp:=H6.lt;obtain ⟨q0,q1⟩:=H8.c2;have lq:=H8.lt;go_upto_region 8 with (go_at_call 86;(with_reducible refine zc (NA _ (Z0.ext HE)) ?_);rintro e w9 ⟨rfl,h9⟩;replace HE:=HE.trans h9;replace H6:=H6.ext h9;replace H8:=H8.ext h9;clear q0 q1 lq p0 p1 lp;have f0:=H8.frozen 0;have f1:=H8.frozen 1;obtain ⟨x0,x1⟩:=H8.c2;have lx:=H8.lt)
    have H8b:=Qo H8 (.int .i64 Sn) (.int .i64 Sd);have H6b:=Qg (Qg H6 n68 0 (.int .i64 Sn)) n68 1 (.int .i64 Sd);have HEb:=(HE.setCell (p:=⟨b8,0,none⟩) g8 (.int .i64 Sn)).setCell (p:=⟨b8,1,none⟩) g8 (.int .i64 Sd);generalize World.setCell _ _ _ = v3 at *;clear f0 f1 x0 x1 lx H6 H8 HE;have HE:=HEb;have H6:=H6b;have H8:=H8b;clear HEb H6b H8b;by_cases h1 : Se = 0
    ·subst h1;obtain ⟨q0, q1⟩ := H8.c2;have lq := H8.lt;have f0 := H6.frozen 0;have f1 := H6.frozen 1;obtain ⟨x0, x1⟩ := H6.c2;have lx := H6.lt;have H6b := Qo H6 (.int .i64 Sn) (.int .i64 Sd);have HEb := (HE.setCell (p := ⟨b6, 0, none⟩) g6 (.int .i64 Sn)).setCell (p := ⟨b6, 1, none⟩) g6 (.int .i64 Sd);have hV2 : Hid (V = W8 g (k + 1) m ⟨Sn, Sd⟩) := by unfold Hid; rw [hV'.out, if_neg (by simp), if_neg (by simp)]
     rw [← hm2] at hV2;clear hV' hm2;go_wp2;exact ⟨⟨k + 1,by omega,by go_num,⟨Sn,Sd⟩,hSi,HEb,H6b,hV2⟩,by simp [intOf];omega⟩
    ·have g0 : (Se == 0) = false := beq_eq_false_iff_ne.2 h1;have g0n : (Se != 0) = true := by rw [bne, g0]; rfl
     have hr:=hV'.out;rw [if_neg (by simp),if_pos h1] at hr;subst hr;clear hV' h1;replace B1:=B1.ext HE;replace E:=E.trans HE;have f0:=B1.frozen 0;have f1:=B1.frozen 1;obtain ⟨x0,x1⟩:=B1.c2;have lx:=B1.lt;have H4:=Qo B1 (.int .i64 0) (.int .i64 0);have EF:=(E.setCell (p:=⟨b1,0,none⟩) hbr (.int .i64 0)).setCell (p:=⟨b1,1,none⟩) hbr (.int .i64 0);obtain ⟨y0,y1⟩:=H4.c2;go_wp2;refine bodyPost_ret (v:=.tuple #[.agg #[.int .i64 0,.int .i64 0],.int .i64 Se]) (by simp [results,Tryz.results135,go_sem,y0,y1]) rfl ⟨rfl,EF⟩
   ·have g0 : (Ge == 0) = false := beq_eq_false_iff_ne.2 h0;have g0n : (Ge != 0) = true := by rw [bne, g0]; rfl
    have hr:=hV'.out;rw [if_pos h0] at hr;subst hr;clear hV' h0;replace B1:=B1.ext HE;replace E:=E.trans HE;have f0:=B1.frozen 0;have f1:=B1.frozen 1;obtain ⟨x0,x1⟩:=B1.c2;have lx:=B1.lt;have H4:=Qo B1 (.int .i64 0) (.int .i64 0);have EF:=(E.setCell (p:=⟨b1,0,none⟩) hbr (.int .i64 0)).setCell (p:=⟨b1,1,none⟩) hbr (.int .i64 0);obtain ⟨y0,y1⟩:=H4.c2;go_wp2;refine bodyPost_ret (v:=.tuple #[.agg #[.int .i64 0,.int .i64 0],.int .i64 Ge]) (by simp [results,Tryz.results135,go_sem,y0,y1]) rfl ⟨rfl,EF⟩
  ·obtain rfl : k = n := by omega
   have hr:=hV.out;rw [Nat.sub_self] at hr;have hr2 : V = (s,0):=hr;subst hr2;clear hV hr;obtain ⟨p0,p1⟩:=H6.c2;have lp:=H6.lt;replace B1:=B1.ext HE;replace E:=E.trans HE;have f0:=B1.frozen 0;have f1:=B1.frozen 1;obtain ⟨x0,x1⟩:=B1.c2;have lx:=B1.lt;have H4:=Qo B1 (.int .i64 s.n) (.int .i64 s.d);have EF:=(E.setCell (p:=⟨b1,0,none⟩) hbr (.int .i64 s.n)).setCell (p:=⟨b1,1,none⟩) hbr (.int .i64 s.d);obtain ⟨y0,y1⟩:=H4.c2;go_wp2;refine bodyPost_ret (v:=.tuple #[.agg #[.int .i64 s.n,.int .i64 s.d],.int .i64 0]) (by simp [results,Tryz.results135,go_sem,y0,y1]) rfl ⟨rfl,EF⟩
def Y3 (f : Nat → Tk) (i : Nat) : List Value:=[.int .i64 (f i).a.n,.int .i64 (f i).a.d,.int .i64 (f i).r.n,.int .i64 (f i).r.d]
theorem Qhd (a b : Rt) : (Yc a b).1.In:=by
 unfold Yc;by_cases h : a.ok && b.ok
 ·rw [if_pos h];obtain ⟨h1,h2⟩:=Bool.and_eq_true_iff.1 h;by_cases h0 : b.n = 0
  ·rw [if_pos h0];exact Xh
  ·rw [if_neg h0];exact Fu (Nat.mul_pos (by have:=J9 h1;omega) Qa)
 ·rw [if_neg h];exact Xh
theorem Qky (T : Option Addr) (n cap : Nat) (f : Nat → Tk) (p1 i : Nat) (hi : i < n) (ha : (f i).a.In) (hr : (f i).r.In) (w : World) (hB : Qc w p1 109 #[.slice T n cap]) (hT : Qs w T n 4 (Y3 f)) (hn : n ≤ 1000000) (hZ : Z6 w) :
  Calls Tryz.prog 136 #[.int .i64 (i : Int),.pointer (some ⟨p1,0,none⟩)] w fun e w' => e = .returned (.tuple #[.agg #[.int .i64 (Yc (f i).a (f i).r).1.n,.int .i64 (Yc (f i).a (f i).r).1.d],.int .i64 (Yc (f i).a (f i).r).2]) ∧ Qb w w':=by
 have ND:=fun w z => Qhc (f i).a (f i).r ha hr w z
 generalize Yc (f i).a (f i).r = R at *;obtain ⟨⟨Rn,Rd⟩,Re⟩:=R;obtain ⟨b,off,rfl,_,_⟩:=hT Qa
 go_enter Tryz.func136,Tryz.ntmps136
 go_upto_region 1 with (fail)
 obtain ⟨v,b1,E,B1,hbr,hv,hb1⟩:=Yi w 65 #[.int .i64 0,.int .i64 0];rw [← hv,← hb1];clear hv hb1;have Z0:=hZ.ext E;have HB:=hB.ext E;have RT:=hT.ext E;clear hB hT hZ;refine Q5 15 [13,14] (fun x => Qb v x) mixed rfl ?_;intro vz hvz;have HC:=hvz;refine Qr (g:=5) [0,1,2,3,4,5,6,7,8,9] HC ?_
 constructor
 refine ⟨fun u hu => ?_,?_⟩
 ·have k0 := (HB.ext hu).c1;have lk := (HB.ext hu).lt;obtain ⟨b', off', hTe, hb, hc⟩ := (RT.ext hu) Qa;obtain ⟨rfl, rfl⟩ : b = b' ∧ off = off' := by simpa using hTe
  have c0 : u.cell? ⟨b,off + i * 4,none⟩ = some (.int .i64 (f i).a.n):=by simpa [Y3] using hc i 0 _ hi rfl
  have c1 : u.cell? ⟨b,off + i * 4 + 1,none⟩ = some (.int .i64 (f i).a.d):=by simpa [Y3] using hc i 1 _ hi rfl
  have c2 : u.cell? ⟨b,off + i * 4 + 2,none⟩ = some (.int .i64 (f i).r.n):=by simpa [Y3] using hc i 2 _ hi rfl
  have c3 : u.cell? ⟨b,off + i * 4 + 3,none⟩ = some (.int .i64 (f i).r.d):=by simpa [Y3] using hc i 3 _ hi rfl
  clear hc;exact Qj
 refine Qk 10 ?_;go_wp2_with (go_at_call 137;(with_reducible refine zc (ND _ (Z0.ext HC)) ?_);rintro e wa ⟨rfl,h4⟩);replace HC:=HC.trans h4;clear h4;refine Qe HC ?_;refine Qr (g:=2) [11,12] HC ?_
 constructor
 refine ⟨fun u hu => ?_,?_⟩
 ·have k0 := (HB.ext hu).c1;have lk := (HB.ext hu).lt;obtain ⟨b', off', hTe, hb, hc⟩ := (RT.ext hu) Qa;obtain ⟨rfl, rfl⟩ : b = b' ∧ off = off' := by simpa using hTe
  have c0 : u.cell? ⟨b,off + i * 4,none⟩ = some (.int .i64 (f i).a.n):=by simpa [Y3] using hc i 0 _ hi rfl
  have c1 : u.cell? ⟨b,off + i * 4 + 1,none⟩ = some (.int .i64 (f i).a.d):=by simpa [Y3] using hc i 1 _ hi rfl
  have c2 : u.cell? ⟨b,off + i * 4 + 2,none⟩ = some (.int .i64 (f i).r.n):=by simpa [Y3] using hc i 2 _ hi rfl
  have c3 : u.cell? ⟨b,off + i * 4 + 3,none⟩ = some (.int .i64 (f i).r.d):=by simpa [Y3] using hc i 3 _ hi rfl
  clear hc;exact Qj
 refine Qn 13 ?_;replace B1:=B1.ext HC;replace E:=E.trans HC;have f0:=B1.frozen 0;have f1:=B1.frozen 1;obtain ⟨x0,x1⟩:=B1.c2;have lx:=B1.lt;have H4:=Qo B1 (.int .i64 Rn) (.int .i64 Rd);have EF:=(E.setCell (p:=⟨b1,0,none⟩) hbr (.int .i64 Rn)).setCell (p:=⟨b1,1,none⟩) hbr (.int .i64 Rd);obtain ⟨y0,y1⟩:=H4.c2;go_wp2;refine Qm ?_;refine Qn 14 ?_;go_wp2;refine Qm ?_;refine Qt ?_;go_wp2;refine bodyPost_ret (v:=.tuple #[.agg #[.int .i64 Rn,.int .i64 Rd],.int .i64 Re]) (by simp [results,Tryz.results136,go_sem,y0,y1]) rfl ⟨rfl,EF⟩
theorem Qa4 (T : Option Addr) (n cap : Nat) (f : Nat → Tk) (w : World) (hin : ∀ i,i < n → (f i).a.In ∧ (f i).r.In) (hT : Qs w T n 4 (Y3 f)) (hn : n ≤ 9223372036854775807) (hZ : Z6 w) :
  Calls Tryz.prog 87 #[.slice T n cap] w fun e w' => e = .returned (.tuple #[.agg #[.int .i64 (Jh f n).1.n,.int .i64 (Jh f n).1.d],.int .i64 (Jh f n).2]) ∧ Qb w w':=by
 obtain ⟨R,hR0⟩:=Qf (Jh f n);rw [← hR0];have HR:=Lib.hid hR0;clear hR0
 go_enter Tryz.func87,Tryz.ntmps87
 go_upto_region 1 with (fail)
 obtain ⟨v,b1,b2,E,B1,B2,hbr1,hbr,hn21,hv,hb1,hb2⟩:=Yb w 109 #[.slice T n cap] 65 #[.int .i64 0,.int .i64 0];rw [← hv,← hb2,← hb1];clear hv hb1 hb2;have RT:=hT.ext E;have Z0:=hZ.ext E;clear hT hZ;have k0:=B1.c1;have lk:=B1.lt;by_cases h64 : 64 < n
 ·have g1 : decide ((64 : Int) < (n : Int)) = true:=decide_eq_true Qa;have hr:=HR.out;rw [show Jh f n = (Zk,3) by unfold Jh;rw [if_pos h64]] at hr;subst hr;clear HR;clear h64;have f0:=B2.frozen 0;have f1:=B2.frozen 1;obtain ⟨x0,x1⟩:=B2.c2;have lx:=B2.lt;have H4:=Qo B2 (.int .i64 0) (.int .i64 0);have EF:=(E.setCell (p:=⟨b2,0,none⟩) hbr (.int .i64 0)).setCell (p:=⟨b2,1,none⟩) hbr (.int .i64 0);obtain ⟨y0,y1⟩:=H4.c2;go_wp2;refine bodyPost_ret (v:=.tuple #[.agg #[.int .i64 0,.int .i64 0],.int .i64 3]) (by simp [results,Tryz.results87,go_sem,y0,y1]) rfl ⟨rfl,EF⟩
 ·have g1 : decide ((64 : Int) < (n : Int)) = false:=decide_eq_false Qa;go_upto_region 4 with (fail)
  clear k0 lk
  go_loopw [12] (fun i wr => ∃ k : Nat,k ≤ n ∧ i = .int .i64 k ∧ Hid (∀ j,j < k → K4 (f j) = true) ∧ Qb v wr) (fun i _ => n - (intOf i).toNat)
  case atStart => exact ⟨0,Nat.zero_le _,rfl,(fun j h => absurd h Qa),Qb.refl _⟩
  case round =>
   obtain ⟨k,hk,rfl,hall,hE⟩:=hrel;obtain ⟨wo,rfl⟩:=Qf wr;by_cases hlt : k < n
   ·obtain ⟨b, off, rfl, hb, hc⟩ := (RT.ext hE) Qa;have c0 : wo.cell? ⟨b, off + k * 4, none⟩ = some (.int .i64 (f k).a.n) := by simpa [Y3] using hc k 0 _ hlt rfl
    have c1 : wo.cell? ⟨b,off + k * 4 + 1,none⟩ = some (.int .i64 (f k).a.d):=by simpa [Y3] using hc k 1 _ hlt rfl
    have c2 : wo.cell? ⟨b,off + k * 4 + 2,none⟩ = some (.int .i64 (f k).r.n):=by simpa [Y3] using hc k 2 _ hlt rfl
    have c3 : wo.cell? ⟨b,off + k * 4 + 3,none⟩ = some (.int .i64 (f k).r.d):=by simpa [Y3] using hc k 3 _ hlt rfl
    obtain ⟨ia,ir⟩:=hin k hlt;have NN:=fun w b h => Fg (some ⟨b,0,none⟩) 1 1 (fun _ => (f k).a) w h (by decide) (fun i hi => ia)
    rw [Px] at NN;have NP:=fun w => Fs (f k).r ir w
    have hno : Hid (K4 (f k) = false → R = (Zk,81)):=fun h => by
     rw [HR.out];unfold Jh;rw [if_neg h64,if_neg (by rw [Bool.not_eq_true];exact List.all_eq_false.2 ⟨k,by simpa using hlt,by simp [h]⟩)]
    have hyes : Hid (K4 (f k) = true → ∀ j,j < k + 1 → K4 (f j) = true):=fun h j hj => by
     by_cases e : j = k
     ·subst e;exact h
     ·exact hall.out j Qa
    have htk : Hid (K4 (f k) = ((f k).a.nn && (f k).r.pos)):=rfl;clear hc hin RT hall HR h64;go_upto_region 6 with (fail)
    obtain ⟨v3,hv⟩:=Qf (wo.alloc (.cells #[.int .i64 (f k).a.n,.int .i64 (f k).a.d,.int .i64 (f k).r.n,.int .i64 (f k).r.d] 108));rw [← hv];have E3 : Qb wo v3:=by rw [hv];exact (Qb.refl _).alloc _
    have H3 : Qc v3 wo.heap.size 108 #[.int .i64 (f k).a.n,.int .i64 (f k).a.d,.int .i64 (f k).r.n,.int .i64 (f k).r.d]:=by rw [hv];exact Qc.new _ _ _
    clear hv c0 c1 c2 c3;replace hE:=hE.trans E3;generalize wo.heap.size = b3 at *;clear E3;obtain ⟨q0,q1,q2,q3⟩:=H3.c4;have lq:=H3.lt;generalize (f k).a.nn = nn at *;generalize (f k).r.pos = pp at *;cases nn
    ·have hr:=hno.out (by rw [htk.out];rfl);subst hr;clear hno hyes htk;go_upto_region 7 with (go_at_call 70;(with_reducible refine zc (NN _ _ (Kb (Qc.new _ _ _))) ?_);rintro e w2 ⟨rfl,h2⟩;clear q0 q1 q2 q3 lq;obtain ⟨q0,q1,q2,q3⟩:=((H3.alloc (.cells #[.int .i64 (f k).a.n,.int .i64 (f k).a.d] 65)).ext h2).c4;have lq:=((H3.alloc (.cells #[.int .i64 (f k).a.n,.int .i64 (f k).a.d] 65)).ext h2).lt)
     replace E:=((E.trans hE).alloc _).trans h2;replace B2:=((B2.ext hE).alloc _).ext h2;have f0:=B2.frozen 0;have f1:=B2.frozen 1;obtain ⟨x0,x1⟩:=B2.c2;have lx:=B2.lt;have H4:=Qo B2 (.int .i64 0) (.int .i64 0);have EF:=(E.setCell (p:=⟨b2,0,none⟩) hbr (.int .i64 0)).setCell (p:=⟨b2,1,none⟩) hbr (.int .i64 0);obtain ⟨y0,y1⟩:=H4.c2;go_wp2;refine bodyPost_ret (v:=.tuple #[.agg #[.int .i64 0,.int .i64 0],.int .i64 81]) (by simp [results,Tryz.results87,go_sem,y0,y1]) rfl ⟨rfl,EF⟩
    ·cases pp
     ·have hr:=hno.out (by rw [htk.out];rfl);subst hr;clear hno hyes htk;go_upto_region 7 with (first | (go_at_call 70;(with_reducible refine zc (NN _ _ (Kb (Qc.new _ _ _))) ?_);rintro e w2 ⟨rfl,h2⟩;clear q0 q1 q2 q3 lq;obtain ⟨q0,q1,q2,q3⟩:=((H3.alloc (.cells #[.int .i64 (f k).a.n,.int .i64 (f k).a.d] 65)).ext h2).c4;have lq:=((H3.alloc (.cells #[.int .i64 (f k).a.n,.int .i64 (f k).a.d] 65)).ext h2).lt) | (go_at_call 67;(with_reducible refine zc (NP _) ?_);rintro e w3 ⟨rfl,h3⟩))
      replace E:=(((E.trans hE).alloc _).trans h2).trans h3;replace B2:=(((B2.ext hE).alloc _).ext h2).ext h3;have f0:=B2.frozen 0;have f1:=B2.frozen 1;obtain ⟨x0,x1⟩:=B2.c2;have lx:=B2.lt;have H4:=Qo B2 (.int .i64 0) (.int .i64 0);have EF:=(E.setCell (p:=⟨b2,0,none⟩) hbr (.int .i64 0)).setCell (p:=⟨b2,1,none⟩) hbr (.int .i64 0);obtain ⟨y0,y1⟩:=H4.c2;go_wp2;refine bodyPost_ret (v:=.tuple #[.agg #[.int .i64 0,.int .i64 0],.int .i64 81]) (by simp [results,Tryz.results87,go_sem,y0,y1]) rfl ⟨rfl,EF⟩
     ·have hx:=Lib.hid (hyes.out (by rw [htk.out];rfl));clear hno hyes htk;go_wp2_with (first | (go_at_call 70;(with_reducible refine zc (NN _ _ (Kb (Qc.new _ _ _))) ?_);rintro e w2 ⟨rfl,h2⟩;clear q0 q1 q2 q3 lq;obtain ⟨q0,q1,q2,q3⟩:=((H3.alloc (.cells #[.int .i64 (f k).a.n,.int .i64 (f k).a.d] 65)).ext h2).c4;have lq:=((H3.alloc (.cells #[.int .i64 (f k).a.n,.int .i64 (f k).a.d] 65)).ext h2).lt) | (go_at_call 67;(with_reducible refine zc (NP _) ?_);rintro e w3 ⟨rfl,h3⟩));exact ⟨⟨k + 1,by omega,by go_num,hx,(((hE.alloc _).trans h2).trans h3)⟩,by simp [intOf];omega⟩
   ·obtain rfl : k = n := by omega
    have B1e:=B1.ext hE;have RTe:=RT.ext hE;have Ze:=Z0.ext hE;have NT:=Qne (fun i => Yc (f i).a (f i).r) k b1 wo (fun i hi u hu => Qky T k cap f b1 i hi (hin i hi).1 (hin i hi).2 u (B1e.ext hu) (RTe.ext hu) Qa (Ze.ext hu)) (fun i hi => Qhd _ _) Qa Ze;rw [show Un (fun i => Yc (f i).a (f i).r) k = R from by rw [HR.out];unfold Jh;rw [if_neg h64,if_pos (List.all_eq_true.2 fun j hj => hall.out j (by simpa using hj))]] at NT;clear HR hall hin h64 RT;replace E:=E.trans hE;replace B2:=B2.ext hE;have k0:=B1e.c1;have lk:=B1e.lt;clear hE;obtain ⟨⟨Rn,Rd⟩,Re⟩:=R;go_wp2_with (first | (go_at_call 135;(with_reducible refine zc (NT) ?_);rintro e wt ⟨rfl,ht⟩;replace E:=E.trans ht;replace B2:=B2.ext ht;have f0:=B2.frozen 0;have f1:=B2.frozen 1;obtain ⟨x0,x1⟩:=B2.c2;have lx:=B2.lt))
    have H4:=Qo B2 (.int .i64 Rn) (.int .i64 Rd);have EF:=(E.setCell (p:=⟨b2,0,none⟩) hbr (.int .i64 Rn)).setCell (p:=⟨b2,1,none⟩) hbr (.int .i64 Rd);obtain ⟨y0,y1⟩:=H4.c2;go_wp2;refine bodyPost_ret (v:=.tuple #[.agg #[.int .i64 Rn,.int .i64 Rd],.int .i64 Re]) (by simp [results,Tryz.results87,go_sem,y0,y1]) rfl ⟨rfl,EF⟩
section
variable {W : World} {b : Nat} {t : TypeId} {v0 v1 v2 v3 v4 v5 v6 v7 v8 v9 v10 : Value}
theorem Qc.c11 (h : Qc W b t #[v0,v1,v2,v3,v4,v5,v6,v7,v8,v9,v10]) : W.cell? ⟨b,0,none⟩ = some v0 ∧ W.cell? ⟨b,1,none⟩ = some v1 ∧ W.cell? ⟨b,2,none⟩ = some v2 ∧ W.cell? ⟨b,3,none⟩ = some v3 ∧ W.cell? ⟨b,4,none⟩ = some v4 ∧ W.cell? ⟨b,5,none⟩ = some v5 ∧ W.cell? ⟨b,6,none⟩ = some v6 ∧ W.cell? ⟨b,7,none⟩ = some v7 ∧ W.cell? ⟨b,8,none⟩ = some v8 ∧ W.cell? ⟨b,9,none⟩ = some v9 ∧ W.cell? ⟨b,10,none⟩ = some v10:=⟨h.cell 0,h.cell 1,h.cell 2,h.cell 3,h.cell 4,h.cell 5,h.cell 6,h.cell 7,h.cell 8,h.cell 9,h.cell 10⟩
end
def Zu (f : Nat → Cw) (i : Nat) : List Value:=[.int .i64 (f i).w,.int .i64 (f i).s.n,.int .i64 (f i).s.d,.int .i64 (f i).f.y,.int .i64 (f i).f.m,.bool (f i).f.s,.int .i64 (f i).f.d,.int .i64 (f i).t.y,.int .i64 (f i).t.m,.bool (f i).t.s,.int .i64 (f i).t.d]
theorem Qcy (c : Qd) (a b : Dt) : -1000000 ≤ c.schV a b ∧ c.schV a b ≤ 1000000:=by
 by_cases h : c.in2E a b = 0
 ·have hv : c.valid = true:=by
   rcases Lu c a b with ⟨_,hE⟩ | ⟨hv,_,_⟩ | ⟨hv,_,_⟩
   ·rw [hE] at h;exact absurd h (by decide)
   ·exact hv
   ·exact hv
  have hh : (c.has a && c.has b) = true:=by
   rcases Lu c a b with ⟨_,hE⟩ | ⟨_,_,hE⟩ | ⟨_,hh,_⟩
   ·rw [hE] at h;exact absurd h (by decide)
   ·rw [hE] at h;exact absurd h (by decide)
   ·exact hh
  obtain ⟨h1,h2⟩:=Bool.and_eq_true_iff.1 hh;rw [Rk hv h1 h2];have:=Kx hv h1;have:=Kx hv h2;omega
 ·unfold Qd.schV;rw [if_neg h];exact ⟨by decide,by decide⟩
theorem Qhv {c : Qd} {x : Cw} (hs : x.s.In) (h1 : -9223372036854775808 ≤ x.w) (h2 : x.w ≤ 9223372036854775807) (h3 : -1000000 ≤ c.schV x.f x.t ∧ c.schV x.f x.t ≤ 1000000) : ∀ i,i < 3 → (Uu c x i).In:=fun i hi => by
 have h4 : i = 0 ∨ i = 1 ∨ i = 2:=by omega
 rcases h4 with rfl | rfl | rfl
 ·show (Ju x.w).In
  unfold Rt.In Ju;simp only;omega
 ·exact hs
 ·show (Ju (c.schV x.f x.t + 1)).In
  unfold Rt.In Ju;simp only;omega
theorem rows3 {w : World} {b : Nat} {t : TypeId} {c : Qd} {x : Cw} (h : Qc w b t #[.int .i64 x.w,.int .i64 1,.int .i64 x.s.n,.int .i64 x.s.d,.int .i64 (c.schV x.f x.t + 1),.int .i64 1]) : Qs w (some ⟨b,0,none⟩) 3 2 (Xj (Uu c x)):=L3 (f:=Xj (Uu c x)) (n:=3) (fun _ => rfl) h
theorem Ql8 (f : Nat → Rt) (n : Nat) : (Yz f n).1.In:=by
 unfold Yz
 split
 ·exact Xh
 ·split
  ·rename_i h
   exact Fu (Nm n fun i hi => by have:=J9 (List.all_eq_true.1 h i (by simpa using hi));omega)
  ·exact Xh
theorem Qe1 (A A' : Option Addr) (ca cb : Nat) (c : Qd) (T : Option Addr) (n cap : Nat) (f : Nat → Cw) (p1 p2 i : Nat) (hi : i < n) (hs : (f i).s.In) (hw1 : -9223372036854775808 ≤ (f i).w) (hw2 : (f i).w ≤ 9223372036854775807) (w : World) (hC : Zg w A ca A' cb c) (hB : Qc w p1 113 #[.slice T n cap]) (hK : Qc w p2 130 #[.slice A c.nk ca,.slice A' c.ny cb]) (hT : Qs w T n 11 (Zu f)) (hn : n ≤ 1000000) (hZ : Z6 w) :
  Calls Tryz.prog 138 #[.int .i64 (i : Int),.pointer (some ⟨p1,0,none⟩),.pointer (some ⟨p2,0,none⟩)] w fun e w' => e = .returned (.tuple #[.agg #[.int .i64 (Yz (Uu c (f i)) 3).1.n,.int .i64 (Yz (Uu c (f i)) 3).1.d],.int .i64 (Yz (Uu c (f i)) 3).2]) ∧ Qb w w':=by
 have hsm:=Qcy c (f i).f (f i).t;have NP:=fun w b h z => Qb6 (some ⟨b,0,none⟩) 3 3 (Uu c (f i)) w h (by decide) (Qhv hs hw1 hw2 hsm) z
 have hw : IntKind.i64.wrap (c.schV (f i).f (f i).t + 1) = c.schV (f i).f (f i).t + 1:=Zy Qa Qa;generalize Yz (Uu c (f i)) 3 = R at *;obtain ⟨⟨Rn,Rd⟩,Re⟩:=R;obtain ⟨b,off,rfl,_,_⟩:=hT Qa;clear hsm hs hw1 hw2
 go_enter Tryz.func138,Tryz.ntmps138
 go_upto_region 1 with (fail)
 obtain ⟨v,b1,E,B1,hbr,hv,hb1⟩:=Yi w 65 #[.int .i64 0,.int .i64 0];rw [← hv,← hb1];clear hv hb1;have Z0:=hZ.ext E;have C:=hC.ext E;have HB:=hB.ext E;have HK:=hK.ext E;have RT:=hT.ext E;clear hB hT hZ hC hK;refine Q5 31 [29,30] (fun x => Qb v x) mixed rfl ?_;intro vz hvz;have HC:=hvz;refine Qr (g:=10) [0,1,2,3,4,6,7,8,9,10,11,12,13,14,15,16,17,18,19,20,21] HC ?_
 constructor
 refine ⟨fun u hu => ?_,?_⟩
 ·have k0 := (HB.ext hu).c1;have lk := (HB.ext hu).lt;obtain ⟨p0, p1'⟩ := (HK.ext hu).c2;have lp := (HK.ext hu).lt;obtain ⟨b', off', hTe, hb, hc⟩ := (RT.ext hu) Qa;obtain ⟨rfl, rfl⟩ : b = b' ∧ off = off' := by simpa using hTe
  have c0 : u.cell? ⟨b,off + i * 11,none⟩ = some (.int .i64 (f i).w):=by simpa [Zu] using hc i 0 _ hi rfl
  have c1 : u.cell? ⟨b,off + i * 11 + 1,none⟩ = some (.int .i64 (f i).s.n):=by simpa [Zu] using hc i 1 _ hi rfl
  have c2 : u.cell? ⟨b,off + i * 11 + 2,none⟩ = some (.int .i64 (f i).s.d):=by simpa [Zu] using hc i 2 _ hi rfl
  have c3 : u.cell? ⟨b,off + i * 11 + 3,none⟩ = some (.int .i64 (f i).f.y):=by simpa [Zu] using hc i 3 _ hi rfl
  have c4 : u.cell? ⟨b,off + i * 11 + 4,none⟩ = some (.int .i64 (f i).f.m):=by simpa [Zu] using hc i 4 _ hi rfl
  have c5 : u.cell? ⟨b,off + i * 11 + 5,none⟩ = some (.bool (f i).f.s):=by simpa [Zu] using hc i 5 _ hi rfl
  have c6 : u.cell? ⟨b,off + i * 11 + 6,none⟩ = some (.int .i64 (f i).f.d):=by simpa [Zu] using hc i 6 _ hi rfl
  have c7 : u.cell? ⟨b,off + i * 11 + 7,none⟩ = some (.int .i64 (f i).t.y):=by simpa [Zu] using hc i 7 _ hi rfl
  have c8 : u.cell? ⟨b,off + i * 11 + 8,none⟩ = some (.int .i64 (f i).t.m):=by simpa [Zu] using hc i 8 _ hi rfl
  have c9 : u.cell? ⟨b,off + i * 11 + 9,none⟩ = some (.bool (f i).t.s):=by simpa [Zu] using hc i 9 _ hi rfl
  have c10 : u.cell? ⟨b,off + i * 11 + 10,none⟩ = some (.int .i64 (f i).t.d):=by simpa [Zu] using hc i 10 _ hi rfl
  clear hc;exact Qj
 refine Qk 5 ?_;go_wp2_with (go_at_call 72;(with_reducible refine zc (Wt _ _) ?_);rintro e wa ⟨rfl,h4⟩);replace HC:=HC.trans h4;clear h4;refine Qe HC ?_;refine Qk 22 ?_;go_wp2_with (go_at_call 92;(with_reducible refine zc (Gg A A' ca cb c (f i).f (f i).t _ (C.ext HC)) ?_);rintro e wa ⟨rfl,h4⟩);replace HC:=HC.trans h4;clear h4;refine Qe HC ?_;refine Qr (g:=7) [23] HC ?_
 constructor
 refine ⟨fun u hu => ?_,?_⟩
 ·have k0 := (HB.ext hu).c1;have lk := (HB.ext hu).lt;obtain ⟨p0, p1'⟩ := (HK.ext hu).c2;have lp := (HK.ext hu).lt;obtain ⟨b', off', hTe, hb, hc⟩ := (RT.ext hu) Qa;obtain ⟨rfl, rfl⟩ : b = b' ∧ off = off' := by simpa using hTe
  have c0 : u.cell? ⟨b,off + i * 11,none⟩ = some (.int .i64 (f i).w):=by simpa [Zu] using hc i 0 _ hi rfl
  have c1 : u.cell? ⟨b,off + i * 11 + 1,none⟩ = some (.int .i64 (f i).s.n):=by simpa [Zu] using hc i 1 _ hi rfl
  have c2 : u.cell? ⟨b,off + i * 11 + 2,none⟩ = some (.int .i64 (f i).s.d):=by simpa [Zu] using hc i 2 _ hi rfl
  have c3 : u.cell? ⟨b,off + i * 11 + 3,none⟩ = some (.int .i64 (f i).f.y):=by simpa [Zu] using hc i 3 _ hi rfl
  have c4 : u.cell? ⟨b,off + i * 11 + 4,none⟩ = some (.int .i64 (f i).f.m):=by simpa [Zu] using hc i 4 _ hi rfl
  have c5 : u.cell? ⟨b,off + i * 11 + 5,none⟩ = some (.bool (f i).f.s):=by simpa [Zu] using hc i 5 _ hi rfl
  have c6 : u.cell? ⟨b,off + i * 11 + 6,none⟩ = some (.int .i64 (f i).f.d):=by simpa [Zu] using hc i 6 _ hi rfl
  have c7 : u.cell? ⟨b,off + i * 11 + 7,none⟩ = some (.int .i64 (f i).t.y):=by simpa [Zu] using hc i 7 _ hi rfl
  have c8 : u.cell? ⟨b,off + i * 11 + 8,none⟩ = some (.int .i64 (f i).t.m):=by simpa [Zu] using hc i 8 _ hi rfl
  have c9 : u.cell? ⟨b,off + i * 11 + 9,none⟩ = some (.bool (f i).t.s):=by simpa [Zu] using hc i 9 _ hi rfl
  have c10 : u.cell? ⟨b,off + i * 11 + 10,none⟩ = some (.int .i64 (f i).t.d):=by simpa [Zu] using hc i 10 _ hi rfl
  clear hc;exact Qj
 refine Qk 24 ?_;go_wp2_with (go_at_call 72;(with_reducible refine zc (Wt _ _) ?_);rintro e wa ⟨rfl,h4⟩);replace HC:=HC.trans h4;clear h4;refine Qe HC ?_;refine Qk 25 ?_;go_wp2;obtain ⟨b6,wb,hbq,hwb,Q6,HC',hx,_⟩:=Qp HC 65 #[.int .i64 (f i).w,.int .i64 1,.int .i64 (f i).s.n,.int .i64 (f i).s.d,.int .i64 (c.schV (f i).f (f i).t + 1),.int .i64 1];rw [← hbq,← hwb];clear hbq hwb hx;replace HC:=HC';clear HC';refine Qe HC ?_;refine Qk 26 ?_;go_wp2_with (go_at_call 71;(with_reducible refine zc (NP _ _ (rows3 Q6) (Z0.ext HC)) ?_);rintro e wa ⟨rfl,h4⟩);replace HC:=HC.trans h4;clear h4 Q6;refine Qe HC ?_;refine Qr (g:=2) [27,28] HC ?_
 constructor
 refine ⟨fun u hu => ?_,?_⟩
 ·have k0 := (HB.ext hu).c1;have lk := (HB.ext hu).lt;obtain ⟨p0, p1'⟩ := (HK.ext hu).c2;have lp := (HK.ext hu).lt;obtain ⟨b', off', hTe, hb, hc⟩ := (RT.ext hu) Qa;obtain ⟨rfl, rfl⟩ : b = b' ∧ off = off' := by simpa using hTe
  have c0 : u.cell? ⟨b,off + i * 11,none⟩ = some (.int .i64 (f i).w):=by simpa [Zu] using hc i 0 _ hi rfl
  have c1 : u.cell? ⟨b,off + i * 11 + 1,none⟩ = some (.int .i64 (f i).s.n):=by simpa [Zu] using hc i 1 _ hi rfl
  have c2 : u.cell? ⟨b,off + i * 11 + 2,none⟩ = some (.int .i64 (f i).s.d):=by simpa [Zu] using hc i 2 _ hi rfl
  have c3 : u.cell? ⟨b,off + i * 11 + 3,none⟩ = some (.int .i64 (f i).f.y):=by simpa [Zu] using hc i 3 _ hi rfl
  have c4 : u.cell? ⟨b,off + i * 11 + 4,none⟩ = some (.int .i64 (f i).f.m):=by simpa [Zu] using hc i 4 _ hi rfl
  have c5 : u.cell? ⟨b,off + i * 11 + 5,none⟩ = some (.bool (f i).f.s):=by simpa [Zu] using hc i 5 _ hi rfl
  have c6 : u.cell? ⟨b,off + i * 11 + 6,none⟩ = some (.int .i64 (f i).f.d):=by simpa [Zu] using hc i 6 _ hi rfl
  have c7 : u.cell? ⟨b,off + i * 11 + 7,none⟩ = some (.int .i64 (f i).t.y):=by simpa [Zu] using hc i 7 _ hi rfl
  have c8 : u.cell? ⟨b,off + i * 11 + 8,none⟩ = some (.int .i64 (f i).t.m):=by simpa [Zu] using hc i 8 _ hi rfl
  have c9 : u.cell? ⟨b,off + i * 11 + 9,none⟩ = some (.bool (f i).t.s):=by simpa [Zu] using hc i 9 _ hi rfl
  have c10 : u.cell? ⟨b,off + i * 11 + 10,none⟩ = some (.int .i64 (f i).t.d):=by simpa [Zu] using hc i 10 _ hi rfl
  clear hc;exact Qj
 refine Qn 29 ?_;replace B1:=B1.ext HC;replace E:=E.trans HC;have f0:=B1.frozen 0;have f1:=B1.frozen 1;obtain ⟨x0,x1⟩:=B1.c2;have lx:=B1.lt;have H4:=Qo B1 (.int .i64 Rn) (.int .i64 Rd);have EF:=(E.setCell (p:=⟨b1,0,none⟩) hbr (.int .i64 Rn)).setCell (p:=⟨b1,1,none⟩) hbr (.int .i64 Rd);obtain ⟨y0,y1⟩:=H4.c2;go_wp2;refine Qm ?_;refine Qn 30 ?_;go_wp2;refine Qm ?_;refine Qt ?_;go_wp2;refine bodyPost_ret (v:=.tuple #[.agg #[.int .i64 Rn,.int .i64 Rd],.int .i64 Re]) (by simp [results,Tryz.results138,go_sem,y0,y1]) rfl ⟨rfl,EF⟩
theorem Qe3 (A A' : Option Addr) (ca cb : Nat) (c : Qd) (T : Option Addr) (n cap : Nat) (f : Nat → Cw) (w : World) (hC : Zg w A ca A' cb c) (hin : ∀ i,i < n → (f i).s.In ∧ -9223372036854775808 ≤ (f i).w ∧ (f i).w ≤ 9223372036854775807) (hT : Qs w T n 11 (Zu f)) (hn : n ≤ 9223372036854775807) (hZ : Z6 w) :
  Calls Tryz.prog 88 #[.agg #[.slice A c.nk ca,.slice A' c.ny cb],.slice T n cap] w fun e w' => e = .returned (.tuple #[.agg #[.int .i64 (c.availV f n).1.n,.int .i64 (c.availV f n).1.d],.int .i64 (c.availV f n).2]) ∧ Qb w w':=by
 obtain ⟨R,hR0⟩:=Qf (c.availV f n);rw [← hR0];have HR:=Lib.hid hR0;clear hR0
 go_enter Tryz.func88,Tryz.ntmps88
 go_upto_region 1 with (fail)
 obtain ⟨v,b1,b2,b3,E,B1,B2,B3,hbr1,hbr2,hbr,hn21,hn31,hn32,hv,hb1,hb2,hb3⟩:=Uq w 130 #[.slice A c.nk ca,.slice A' c.ny cb] 113 #[.slice T n cap] 65 #[.int .i64 0,.int .i64 0];rw [← hv,← hb3,← hb2,← hb1];clear hv hb1 hb2 hb3;have RT:=hT.ext E;have Z0:=hZ.ext E;have C:=hC.ext E;clear hT hZ hC;have s0:=B2.c1;have ls:=B2.lt;by_cases h64 : 64 < n
 ·have g1 : decide ((64 : Int) < (n : Int)) = true:=decide_eq_true Qa;have hr:=HR.out;rw [show c.availV f n = (Zk,3) by unfold Qd.availV;rw [if_pos h64]] at hr;subst hr;clear HR;clear h64;have f0:=B3.frozen 0;have f1:=B3.frozen 1;obtain ⟨x0,x1⟩:=B3.c2;have lx:=B3.lt;have H4:=Qo B3 (.int .i64 0) (.int .i64 0);have EF:=(E.setCell (p:=⟨b3,0,none⟩) hbr (.int .i64 0)).setCell (p:=⟨b3,1,none⟩) hbr (.int .i64 0);obtain ⟨y0,y1⟩:=H4.c2;go_wp2;refine bodyPost_ret (v:=.tuple #[.agg #[.int .i64 0,.int .i64 0],.int .i64 3]) (by simp [results,Tryz.results88,go_sem,y0,y1]) rfl ⟨rfl,EF⟩
 ·have g1 : decide ((64 : Int) < (n : Int)) = false:=decide_eq_false Qa;go_upto_region 4 with (fail)
  clear s0 ls
  go_loopw [14] (fun i wr => ∃ k : Nat,k ≤ n ∧ i = .int .i64 k ∧ Hid (∀ j,j < k → c.crewOk (f j) = true) ∧ Qb v wr) (fun i _ => n - (intOf i).toNat)
  case atStart => exact ⟨0,Nat.zero_le _,rfl,(fun j h => absurd h Qa),Qb.refl _⟩
  case round =>
   obtain ⟨k,hk,rfl,hall,hE⟩:=hrel;obtain ⟨wo,rfl⟩:=Qf wr;by_cases hlt : k < n
   ·obtain ⟨b, off, rfl, hb, hc⟩ := (RT.ext hE) Qa;have c0 : wo.cell? ⟨b, off + k * 11, none⟩ = some (.int .i64 (f k).w) := by simpa [Zu] using hc k 0 _ hlt rfl
    have c1 : wo.cell? ⟨b,off + k * 11 + 1,none⟩ = some (.int .i64 (f k).s.n):=by simpa [Zu] using hc k 1 _ hlt rfl
    have c2 : wo.cell? ⟨b,off + k * 11 + 2,none⟩ = some (.int .i64 (f k).s.d):=by simpa [Zu] using hc k 2 _ hlt rfl
    have c3 : wo.cell? ⟨b,off + k * 11 + 3,none⟩ = some (.int .i64 (f k).f.y):=by simpa [Zu] using hc k 3 _ hlt rfl
    have c4 : wo.cell? ⟨b,off + k * 11 + 4,none⟩ = some (.int .i64 (f k).f.m):=by simpa [Zu] using hc k 4 _ hlt rfl
    have c5 : wo.cell? ⟨b,off + k * 11 + 5,none⟩ = some (.bool (f k).f.s):=by simpa [Zu] using hc k 5 _ hlt rfl
    have c6 : wo.cell? ⟨b,off + k * 11 + 6,none⟩ = some (.int .i64 (f k).f.d):=by simpa [Zu] using hc k 6 _ hlt rfl
    have c7 : wo.cell? ⟨b,off + k * 11 + 7,none⟩ = some (.int .i64 (f k).t.y):=by simpa [Zu] using hc k 7 _ hlt rfl
    have c8 : wo.cell? ⟨b,off + k * 11 + 8,none⟩ = some (.int .i64 (f k).t.m):=by simpa [Zu] using hc k 8 _ hlt rfl
    have c9 : wo.cell? ⟨b,off + k * 11 + 9,none⟩ = some (.bool (f k).t.s):=by simpa [Zu] using hc k 9 _ hlt rfl
    have c10 : wo.cell? ⟨b,off + k * 11 + 10,none⟩ = some (.int .i64 (f k).t.d):=by simpa [Zu] using hc k 10 _ hlt rfl
    obtain ⟨is,_⟩:=hin k hlt;have NS:=fun w => Hu (f k).s is w
    have NSP:=fun w h => Dr A A' ca cb c (f k).f (f k).t w h
    have hno : Hid (c.crewOk (f k) = false → R = (Zk,81)):=fun h => by
     rw [HR.out];unfold Qd.availV;rw [if_neg h64,if_neg (by rw [Bool.not_eq_true];exact List.all_eq_false.2 ⟨k,by simpa using hlt,by simp [h]⟩)]
    have hyes : Hid (c.crewOk (f k) = true → ∀ j,j < k + 1 → c.crewOk (f j) = true):=fun h j hj => by
     by_cases e : j = k
     ·subst e;exact h
     ·exact hall.out j Qa
    have hck : Hid (c.crewOk (f k) = (decide (0 ≤ (f k).w) && decide ((f k).w ≤ 4096) && (f k).s.shr && (decide (0 < c.numV (f k).f) && decide (c.numV (f k).f ≤ c.numV (f k).t)))):=rfl;clear hc hin RT hall HR h64;go_upto_region 6 with (fail)
    obtain ⟨v3,hv⟩:=Qf (wo.alloc (.cells #[.int .i64 (f k).w,.int .i64 (f k).s.n,.int .i64 (f k).s.d,.int .i64 (f k).f.y,.int .i64 (f k).f.m,.bool (f k).f.s,.int .i64 (f k).f.d,.int .i64 (f k).t.y,.int .i64 (f k).t.m,.bool (f k).t.s,.int .i64 (f k).t.d] 112));rw [← hv];have E3 : Qb wo v3:=by rw [hv];exact (Qb.refl _).alloc _
    have H3 : Qc v3 wo.heap.size 112 #[.int .i64 (f k).w,.int .i64 (f k).s.n,.int .i64 (f k).s.d,.int .i64 (f k).f.y,.int .i64 (f k).f.m,.bool (f k).f.s,.int .i64 (f k).f.d,.int .i64 (f k).t.y,.int .i64 (f k).t.m,.bool (f k).t.s,.int .i64 (f k).t.d]:=by rw [hv];exact Qc.new _ _ _
    clear hv c0 c1 c2 c3 c4 c5 c6 c7 c8 c9 c10;replace hE:=hE.trans E3;generalize wo.heap.size = b4 at *;clear E3;obtain ⟨q0,q1,q2,q3,q4,q5,q6,q7,q8,q9,q10⟩:=H3.c11;have lq:=H3.lt;obtain ⟨k0,k1⟩:=(B1.ext hE).c2;have lk:=(B1.ext hE).lt;generalize (decide (0 < c.numV (f k).f) && decide (c.numV (f k).f ≤ c.numV (f k).t)) = sp at *;generalize (f k).s.shr = sh at *;by_cases w0 : (f k).w < 0
    ·have gw : decide ((f k).w < 0) = true:=decide_eq_true w0;have hr:=hno.out (by rw [hck.out,decide_eq_false Qa];rfl);subst hr;clear hno hyes hck w0;replace E:=E.trans hE;replace B3:=B3.ext hE;have f0:=B3.frozen 0;have f1:=B3.frozen 1;obtain ⟨x0,x1⟩:=B3.c2;have lx:=B3.lt;have H4:=Qo B3 (.int .i64 0) (.int .i64 0);have EF:=(E.setCell (p:=⟨b3,0,none⟩) hbr (.int .i64 0)).setCell (p:=⟨b3,1,none⟩) hbr (.int .i64 0);obtain ⟨y0,y1⟩:=H4.c2;go_wp2;refine bodyPost_ret (v:=.tuple #[.agg #[.int .i64 0,.int .i64 0],.int .i64 81]) (by simp [results,Tryz.results88,go_sem,y0,y1]) rfl ⟨rfl,EF⟩
    ·have gw : decide ((f k).w < 0) = false:=decide_eq_false w0;by_cases w1 : 4096 < (f k).w
     ·have gw1 : decide (4096 < (f k).w) = true:=decide_eq_true w1;have hr:=hno.out (by rw [hck.out,decide_eq_false (show ¬ (f k).w ≤ 4096 by omega),Bool.and_false];rfl);subst hr;clear hno hyes hck w0 w1;replace E:=E.trans hE;replace B3:=B3.ext hE;have f0:=B3.frozen 0;have f1:=B3.frozen 1;obtain ⟨x0,x1⟩:=B3.c2;have lx:=B3.lt;have H4:=Qo B3 (.int .i64 0) (.int .i64 0);have EF:=(E.setCell (p:=⟨b3,0,none⟩) hbr (.int .i64 0)).setCell (p:=⟨b3,1,none⟩) hbr (.int .i64 0);obtain ⟨y0,y1⟩:=H4.c2;go_wp2;refine bodyPost_ret (v:=.tuple #[.agg #[.int .i64 0,.int .i64 0],.int .i64 81]) (by simp [results,Tryz.results88,go_sem,y0,y1]) rfl ⟨rfl,EF⟩
     ·have gw1 : decide (4096 < (f k).w) = false:=decide_eq_false w1;cases sh
      ·have hr:=hno.out (by rw [hck.out,Bool.and_false];rfl);subst hr;clear hno hyes hck w0 w1;go_upto_region 7 with (go_at_call 90;(with_reducible refine zc (NS _) ?_);rintro e w2 ⟨rfl,h2⟩;clear q0 q1 q2 q3 q4 q5 q6 q7 q8 q9 q10 lq k0 k1 lk;obtain ⟨q0,q1,q2,q3,q4,q5,q6,q7,q8,q9,q10⟩:=(H3.ext h2).c11;have lq:=(H3.ext h2).lt;obtain ⟨k0,k1⟩:=((B1.ext hE).ext h2).c2;have lk:=((B1.ext hE).ext h2).lt)
       replace E:=(E.trans hE).trans h2;replace B3:=(B3.ext hE).ext h2;have f0:=B3.frozen 0;have f1:=B3.frozen 1;obtain ⟨x0,x1⟩:=B3.c2;have lx:=B3.lt;have H4:=Qo B3 (.int .i64 0) (.int .i64 0);have EF:=(E.setCell (p:=⟨b3,0,none⟩) hbr (.int .i64 0)).setCell (p:=⟨b3,1,none⟩) hbr (.int .i64 0);obtain ⟨y0,y1⟩:=H4.c2;go_wp2;refine bodyPost_ret (v:=.tuple #[.agg #[.int .i64 0,.int .i64 0],.int .i64 81]) (by simp [results,Tryz.results88,go_sem,y0,y1]) rfl ⟨rfl,EF⟩
      ·cases sp
       ·have hr:=hno.out (by rw [hck.out,Bool.and_false]);subst hr;clear hno hyes hck w0 w1;go_upto_region 7 with (first | (go_at_call 90;(with_reducible refine zc (NS _) ?_);rintro e w2 ⟨rfl,h2⟩;clear q0 q1 q2 q3 q4 q5 q6 q7 q8 q9 q10 lq k0 k1 lk;obtain ⟨q0,q1,q2,q3,q4,q5,q6,q7,q8,q9,q10⟩:=(H3.ext h2).c11;have lq:=(H3.ext h2).lt;obtain ⟨k0,k1⟩:=((B1.ext hE).ext h2).c2;have lk:=((B1.ext hE).ext h2).lt) | (go_at_call 91;(with_reducible refine zc (NSP _ ((C.ext hE).ext h2)) ?_);rintro e w3 ⟨rfl,h3⟩))
        replace E:=((E.trans hE).trans h2).trans h3;replace B3:=((B3.ext hE).ext h2).ext h3;have f0:=B3.frozen 0;have f1:=B3.frozen 1;obtain ⟨x0,x1⟩:=B3.c2;have lx:=B3.lt;have H4:=Qo B3 (.int .i64 0) (.int .i64 0);have EF:=(E.setCell (p:=⟨b3,0,none⟩) hbr (.int .i64 0)).setCell (p:=⟨b3,1,none⟩) hbr (.int .i64 0);obtain ⟨y0,y1⟩:=H4.c2;go_wp2;refine bodyPost_ret (v:=.tuple #[.agg #[.int .i64 0,.int .i64 0],.int .i64 81]) (by simp [results,Tryz.results88,go_sem,y0,y1]) rfl ⟨rfl,EF⟩
       ·have hx:=Lib.hid (hyes.out (by rw [hck.out,decide_eq_true (show 0 ≤ (f k).w by omega),decide_eq_true (show (f k).w ≤ 4096 by omega)];rfl));clear hno hyes hck w0 w1;go_wp2_with (first | (go_at_call 90;(with_reducible refine zc (NS _) ?_);rintro e w2 ⟨rfl,h2⟩;clear q0 q1 q2 q3 q4 q5 q6 q7 q8 q9 q10 lq k0 k1 lk;obtain ⟨q0,q1,q2,q3,q4,q5,q6,q7,q8,q9,q10⟩:=(H3.ext h2).c11;have lq:=(H3.ext h2).lt;obtain ⟨k0,k1⟩:=((B1.ext hE).ext h2).c2;have lk:=((B1.ext hE).ext h2).lt) | (go_at_call 91;(with_reducible refine zc (NSP _ ((C.ext hE).ext h2)) ?_);rintro e w3 ⟨rfl,h3⟩));exact ⟨⟨k + 1,by omega,by go_num,hx,(hE.trans h2).trans h3⟩,by simp [intOf];omega⟩
   ·obtain rfl : k = n := by omega
    have B2e:=B2.ext hE;have B1e:=B1.ext hE;have RTe:=RT.ext hE;have Ze:=Z0.ext hE;have Ce:=C.ext hE;have NT:=Qnd (fun i => Yz (Uu c (f i)) 3) k b2 b1 wo (fun i hi u hu => Qe1 A A' ca cb c T k cap f b2 b1 i hi (hin i hi).1 (hin i hi).2.1 (hin i hi).2.2 u (Ce.ext hu) (B2e.ext hu) (B1e.ext hu) (RTe.ext hu) Qa (Ze.ext hu)) (fun i hi => Ql8 _ _) Qa Ze;rw [show Un (fun i => Yz (Uu c (f i)) 3) k = R from by rw [HR.out];unfold Qd.availV;rw [if_neg h64,if_pos (List.all_eq_true.2 fun j hj => hall.out j (by simpa using hj))]] at NT;clear HR hall hin h64 RT;replace E:=E.trans hE;replace B3:=B3.ext hE;have s0:=B2e.c1;have ls:=B2e.lt;clear hE;obtain ⟨⟨Rn,Rd⟩,Re⟩:=R
    go_wp2_with (first | (go_at_call 135;(with_reducible refine zc (NT) ?_);rintro e wt ⟨rfl,ht⟩;replace E:=E.trans ht;replace B3:=B3.ext ht;have f0:=B3.frozen 0;have f1:=B3.frozen 1;obtain ⟨x0,x1⟩:=B3.c2;have lx:=B3.lt));have H4:=Qo B3 (.int .i64 Rn) (.int .i64 Rd);have EF:=(E.setCell (p:=⟨b3,0,none⟩) hbr (.int .i64 Rn)).setCell (p:=⟨b3,1,none⟩) hbr (.int .i64 Rd);obtain ⟨y0,y1⟩:=H4.c2;go_wp2;refine bodyPost_ret (v:=.tuple #[.agg #[.int .i64 Rn,.int .i64 Rd],.int .i64 Re]) (by simp [results,Tryz.results88,go_sem,y0,y1]) rfl ⟨rfl,EF⟩
theorem Yo {w w' : World} {base size n : Nat} {e : TypeId} {v : Value} {xs : List Value} (h : w.ownsRow base e size v n xs) (x : Qb w w') : w'.ownsRow base e size v n xs:=h.kept (Ml x) (by
 rcases h.2 with ⟨rfl,_⟩ | ⟨g,cap,cur,rfl,_⟩
 ·exact .inl rfl
 ·exact .inr (by simp [Value.ownBlock]))
theorem Qh5 (W : World) (b j : Nat) (v : Value) : W.grownBy (W.setCell ⟨b,j,none⟩ v) (some b) :=
 ⟨rfl,rfl,rfl,(KeepsWalks.setCell W _ v).size,fun k _ hk => Below.heap_setCell _ _ _ k (fun e => hk (by rw [e]))⟩
theorem Iq : (Tryz.prog.info? 85).map (fun i => (i.zero,i.size,i.bytes)) = some (some (.agg #[.string ⟨#[]⟩,.int .i64 0]),2,24):=by kernel_rfl
theorem Qf4 (s : ByteArray) (n : Int) : ∀ u ∈ [Value.string s,.int .i64 n],u.oneCell' = true:=by simp [Value.oneCell']
theorem Lr {w : World} {b : Nat} {t : TypeId} {cs : Array Value} (h : Qc w b t cs) : ∀ j u,cs.toList[j]? = some u → w.cell? ((⟨b,0,none⟩ : Addr).add j) = some u:=fun j u hj => by
 have e : (⟨b,0,none⟩ : Addr).add j = ⟨b,j,none⟩:=by unfold Addr.add;split <;> simp_all
 rw [e,h.cell j]
 simpa using hj
/-- What a step leaves that writes only the box bo and rows of its own from B0 on. -/
structure Wj (B0 bo : Nat) (w w' : World) : Prop where
 ext : ∀ W0 : World,Qb W0 w → W0.heap.size ≤ bo → W0.heap.size ≤ B0 → Qb W0 w'
 held : ∀ b t cs,Qc w b t cs → b ≠ bo → b < B0 → Qc w' b t cs
namespace Wj
variable {B0 bo : Nat} {w w' w'' : World}
theorem refl : Wj B0 bo w w:=⟨fun _ h _ _ => h,fun _ _ _ h _ _ => h⟩
theorem of_ext (x : Qb w w') : Wj B0 bo w w':=⟨fun _ h _ _ => h.trans x,fun _ _ _ h _ _ => h.ext x⟩
theorem trans (h : Wj B0 bo w w') (k : Wj B0 bo w' w'') : Wj B0 bo w w'':=⟨fun W0 h0 h1 h2 => k.ext W0 (h.ext W0 h0 h1 h2) h1 h2,fun b t cs h0 h1 h2 => k.held b t cs (h.held b t cs h0 h1 h2) h1 h2⟩
theorem grown {v : Value} {e : TypeId} {s n : Nat} {xs : List Value} (ho : w.ownsRow B0 e s v n xs) (hg : w.grownBy w' v.ownBlock) : Wj B0 bo w w' :=
 ⟨fun _ h0 _ h2 => h0.grown hg (fun q hq => Nat.le_trans h2 (Va ho q hq).1),fun b _ _ h _ hb => h.kept hg (fun e => by have:=(Va ho b e.symm).1;omega)⟩
theorem set (j : Nat) (u : Value) : Wj B0 bo w (w.setCell ⟨bo,j,none⟩ u) :=
 ⟨fun _ h0 h1 _ => h0.setCell (p:=⟨bo,j,none⟩) h1 u,fun _ _ _ h hne _ => Qg h hne j u⟩
end Wj
theorem Qil {W : World} {b : Nat} {t : TypeId} {v0 : Value} (h : Qc W b t #[v0]) (u : Value) : Qc (W.setCell ⟨b,0,none⟩ u) b t #[u]:=by unfold Qc at h ⊢;simp [World.setCell,Array.getElem?_modify,h]
theorem Y8 {W : World} {b : Nat} {t e : TypeId} {cs : Array Value} (h : Qc W b t cs) (hte : t ≠ e) {base size k : Nat} {v : Value} {xs : List Value} (hr : W.ownsRow base e size v k xs) (j : Nat) (u : Value) : (W.setCell ⟨b,j,none⟩ u).ownsRow base e size v k xs :=
 hr.kept (Qh5 W b j u) (.inr (Ne.symm (h.not_row hte hr)))
def Jw (l : Lt) : List Value:=[.string l.g,.int .i64 l.n]
theorem Qlo (sg : Int) (x y : Lt) (B0 bs bo : Nat) (F : Option Addr) (k cap : Nat) (xs : List Value) (w : World) (HS : Qc w bs 3 #[.int .i64 sg]) (HO : Qc w bo 52 #[.slice F k cap]) (hO : w.ownsRow B0 85 2 (.slice F k cap) k xs) (hk : k ≤ 1000) (_hlen : xs.length = k * 2) (hb0 : B0 ≤ w.heap.size) (hw1 : -9223372036854775808 ≤ sg * y.n) (hw2 : sg * y.n ≤ 9223372036854775807) (hw3 : -9223372036854775808 ≤ x.n + sg * y.n) (hw4 : x.n + sg * y.n ≤ 9223372036854775807) :
  Calls Tryz.prog 113 #[.agg #[.string x.g,.int .i64 x.n],.agg #[.string y.g,.int .i64 y.n],.pointer (some ⟨bs,0,none⟩),.pointer (some ⟨bo,0,none⟩)] w fun e w' => e = .returned (.bool (Xy sg x y)) ∧ Wj B0 bo w w' ∧ (Xy sg x y = true → ∃ F' k' cap',Qc w' bo 52 #[.slice F' k' cap'] ∧ w'.ownsRow B0 85 2 (.slice F' k' cap') k' (xs ++ (Ug sg (x,y)).flatMap Jw)):=by
 obtain ⟨i0,hi,hz0,hz1,hz2⟩:=info_parts Iq;obtain ⟨N,hN⟩:=Qf (Vg sg x y);have hm : IntKind.i64.wrap (sg * y.n) = sg * y.n:=Zy hw1 hw2;have hadd : IntKind.i64.wrap (x.n + sg * y.n) = N:=by rw [hN];exact Zy hw3 hw4
 have hxs : Hid (xs ++ (Ug sg (x,y)).flatMap Jw = if N = 0 then xs else xs ++ [.string (Wa x y),.int .i64 N]):=by
  unfold Hid Ug Jw;rw [hN];by_cases h : Vg sg x y = 0
  ·rw [if_pos h,if_pos h];simp
  ·rw [if_neg h,if_neg h];simp
 have hok : Xy sg x y = !(decide (1099511627776 < N) || decide (N < -1099511627776)):=by rw [hN];rfl
 rw [hok];clear hok hN hw1 hw2 hw3 hw4
 go_enter Tryz.func113,Tryz.ntmps113
 go_upto_region 1 with (fail)
 obtain ⟨v,b1,b2,E,B1,B2,hbr1,hbr,hn21,hv,hb1,hb2⟩:=Yb w 85 #[.string x.g,.int .i64 x.n] 85 #[.string y.g,.int .i64 y.n];rw [← hv,← hb2,← hb1];clear hv hb1 hb2;have hrl : ∀ q,(Value.slice F k cap).ownBlock = some q → q < w.heap.size:=fun q h => (hO.lt q h).2
 replace HS:=HS.ext E;replace HO:=HO.ext E;replace hO:=Yo hO E;obtain ⟨p0,p1⟩:=B1.c2;have lp:=B1.lt;obtain ⟨r0,r1⟩:=B2.c2;have lr:=B2.lt;have s0:=HS.c1;have ls:=HS.lt;by_cases g1 : 1099511627776 < N
 ·have d1 : decide (1099511627776 < N) = true:=decide_eq_true g1;clear g1;go_wp2;go_ret;exact ⟨Yn (by rw [d1];rfl),.of_ext E,fun h => by rw [d1] at h;cases h⟩
 ·have d1 : decide (1099511627776 < N) = false:=decide_eq_false g1;by_cases g2 : N < -1099511627776
  ·have d2 : decide (N < -1099511627776) = true:=decide_eq_true g2;clear g1 g2;go_wp2;go_ret;exact ⟨Yn (by rw [d1,d2];rfl),.of_ext E,fun h => by rw [d1,d2] at h;cases h⟩
  ·have d2 : decide (N < -1099511627776) = false:=decide_eq_false g2;clear g1 g2;by_cases g3 : N = 0
   ·subst g3;go_wp2;go_ret;refine ⟨rfl,.of_ext E,?_⟩;exact ⟨_,_,_,HO,by rw [hxs.out,if_pos trivial];exact hO⟩
   ·have d3 : (N == 0) = false := beq_eq_false_iff_ne.2 g3;have d3n : (N != 0) = true := by rw [bne, d3]; rfl
    rw [if_neg g3] at hxs;clear g3;go_upto_region 5 with (fail)
    clear p0 p1 lp r0 r1 lr s0 ls;refine Q5 9 [8] (fun u => Qc u bo 52 #[.slice F k cap] ∧ Qc u b1 85 #[.string x.g,.int .i64 x.n] ∧ Qc u b2 85 #[.string y.g,.int .i64 y.n]) mixed rfl ?_;intro vz hvz;have HC:=hvz;replace HO:=HO.ext hvz;replace B1:=B1.ext hvz;replace B2:=B2.ext hvz;refine Qr (g:=5) [0,1,2,4] ⟨HO,B1,B2⟩ ?_
    constructor
    refine ⟨fun u hu => ?_,?_⟩
    ·have o0:=hu.1.c1;have lo:=hu.1.lt;obtain ⟨p0,p1⟩:=hu.2.1.c2;have lp:=hu.2.1.lt;obtain ⟨r0,r1⟩:=hu.2.2.c2;have lr:=hu.2.2.lt;exact Qj
    refine Qk 3 ?_;go_wp2_with (go_at_call 114;(with_reducible refine zc (Qkp x y _) ?_);rintro e wa ⟨rfl,h4⟩);replace HC:=HC.trans h4;replace HO:=HO.ext h4;replace B1:=B1.ext h4;replace B2:=B2.ext h4;clear h4;refine Qe ⟨HO,B1,B2⟩ ?_;refine Qr (g:=3) [5] ⟨HO,B1,B2⟩ ?_
    constructor
    refine ⟨fun u hu => ?_,?_⟩
    ·have o0:=hu.1.c1;have lo:=hu.1.lt;obtain ⟨p0,p1⟩:=hu.2.1.c2;have lp:=hu.2.1.lt;obtain ⟨r0,r1⟩:=hu.2.2.c2;have lr:=hu.2.2.lt;exact Qj
    refine Qk 6 ?_;go_wp2;obtain ⟨bq,wb,hbq,hwb,Q6,HC',hx,hge⟩:=Qp HC 85 #[.string (Wa x y),.int .i64 N];rw [← hbq,← hwb];clear hbq hwb;replace HC:=HC';replace HO:=HO.ext hx;replace B1:=B1.ext hx;replace B2:=B2.ext hx;clear hx HC';refine Qe ⟨HO,B1,B2⟩ ?_;refine Qk 7 ?_;go_wp2_with (at_builtin;refine wpList_append_own_at _ rfl _ _ 52 rfl B0 85 i0 (.agg #[.string ⟨#[]⟩,.int .i64 0]) 2 24 Tryz.underlying52 hi hz0 hz1 hz2 rfl (by decide) _ _ _ rfl (Yo hO HC) ⟨bq,0,none⟩ 1 1 [.string (Wa x y),.int .i64 N] rfl rfl (Lr Q6) (Qf4 _ _) (by unfold maxLen;omega) Qa (by have:=HC.size;have:=E.size;omega) ?_;intro vn wn hown hgrow _ _);obtain ⟨Fn,mn,rfl⟩:=Jt hown
    replace B1:=B1.kept hgrow (fun e => by have:=hrl b1 e.symm;omega);replace B2:=B2.kept hgrow (fun e => by have:=hrl b2 e.symm;omega);replace HO:=HO.kept hgrow (HO.not_row (by decide) (Yo hO HC));have HP:=(Wj.of_ext (E.trans HC)).trans (Wj.grown (bo:=bo) (Yo hO HC) hgrow);clear hgrow Q6;refine Qe ⟨HO,B1,B2⟩ ?_;refine Qn 8 ?_;have z0:=HO.frozen 0;have o0:=HO.c1;have lo:=HO.lt;go_wp2;have HP2:=HP.trans (Wj.set 0 (.slice Fn (k + 1) mn));have HO2:=Qil HO (.slice Fn (k + 1) mn);have hown2:=Y8 HO (by decide) hown 0 (.slice Fn (k + 1) mn);clear HP hown HO B1 B2;generalize World.setCell _ _ _ = wq at *;clear z0 o0 lo;refine Qm ?_;refine Qt ?_
    go_wp2;go_ret;refine ⟨Yn (by rw [d1,d2];rfl),HP2,fun _ => ?_⟩;exact ⟨_,_,_,HO2,by rw [hxs.out];exact hown2⟩
end
end Go.Proofs.YtoflcheopfppoaaGreatDoor
