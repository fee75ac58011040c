/- Walks and plain facts, packed; no conditions but those that each states. -/
import Derived.Test.YtoflcheopfppoaaGreatDoorK11
import Derived.Laws.MakeOwn
import Derived.Laws.OwnMore
import Derived.Laws.CopyOwn
set_option maxRecDepth 100000
set_option maxHeartbeats 4000000
namespace Go.Proofs.YtoflcheopfppoaaGreatDoor
section
structure Inv (ni : Nat) (m : Mt) : Prop where
 o : ∀ o : Nat,0 ≤ m.2 o → (m.2 o).toNat < ni ∧ m.1 (m.2 o).toNat = o
 i : ∀ k,k < ni → 0 ≤ m.1 k → 0 ≤ m.2 (m.1 k).toNat
structure Gk (ni : Nat) (m : Mt) (b : Bl) (i : Nat) (m' : Mt) : Prop where
 o : ∀ o : Nat,0 ≤ m'.2 o → (m'.2 o).toNat < ni ∧ m'.1 (m'.2 o).toNat = o
 b : 0 ≤ m'.2 i ∧ b (m'.2 i).toNat = false
 p : ∀ o : Nat,0 ≤ m.2 o → 0 ≤ m'.2 o
theorem Qer {ni : Nat} {b : Bl} {m : Mt} {k i : Nat} (hn : k < ni) (hb : b k = false) (ho : ∀ o : Nat,0 ≤ m.2 o → (m.2 o).toNat < ni ∧ m.1 (m.2 o).toNat = o) (hk : ∀ o : Nat,o ≠ i → m.2 o ≠ k) : Gk ni m b i (Xf m k i):=by
 refine ⟨fun o h => ?_,?_,fun o h => ?_⟩
 ·have h' : 0 ≤ Qh m.2 i k o:=h
  show (Qh m.2 i k o).toNat < ni ∧ Qh m.1 k i (Qh m.2 i k o).toNat = o
  by_cases e : o = i
  ·subst e;rw [Z9];exact ⟨by omega,by rw [show ((k : Int)).toNat = k by omega,Z9]⟩
  ·rw [Zp _ _ e] at h' ⊢;obtain ⟨h1,h2⟩:=ho o h';have h3:=hk o e;exact ⟨h1,(Zp _ _ Qa).trans h2⟩
 ·show 0 ≤ Qh m.2 i k i ∧ b (Qh m.2 i k i).toNat = false
  rw [Z9];exact ⟨by omega,by rw [show ((k : Int)).toNat = k by omega];exact hb⟩
 ·show 0 ≤ Qh m.2 i k o
  by_cases e : o = i
  ·subst e;rw [Z9];omega
  ·rw [Zp _ _ e];exact h
theorem Sf {adj : Nat → List Nat} {ni : Nat} (hadj : ∀ o,∀ k ∈ adj o,k < ni) {m : Mt} (ho : ∀ o : Nat,0 ≤ m.2 o → (m.2 o).toNat < ni ∧ m.1 (m.2 o).toNat = o) : ∀ (n : Nat) (b : Bl) (i : Nat) (m' : Mt),(Q4 adj n m b i).1 = some m' → Gk ni m b i m' ∧ ∀ k,b k = true → m'.1 k = m.1 k
 | 0,_,_,_,hs => by simp [Q4] at hs
 | n + 1,b,i,m',hs => by
  have go : ∀ (l : List Nat) (b0 b : Bl),(∀ k ∈ l,k ∈ adj i) → (∀ k,b0 k = true → b k = true) → (Z4 (Q4 adj n) i l m b).1 = some m' → Gk ni m b0 i m' ∧ ∀ k,b0 k = true → m'.1 k = m.1 k:=fun l => by
   induction l with
   | nil => intro b0 b _ _ hs;simp [Z4] at hs
   | cons k r ih =>
    intro b0 b hl hb hs;have hr : ∀ x ∈ r,x ∈ adj i:=fun x hx => hl x (List.mem_cons_of_mem _ hx)
    have hki:=hadj i k (hl k List.mem_cons_self);unfold Z4 at hs
    split at hs
    ·exact ih b0 b hr hb hs
    rename_i hbk
    have hbk0 : b0 k = false:=by
     cases e : b0 k
     ·rfl
     ·exact absurd (hb k e) hbk
    have hne : ∀ x,b0 x = true → x ≠ k:=fun x hx e => by subst e;rw [hx] at hbk0;exact absurd hbk0 (by decide)
    split at hs
    ·rename_i hm
     obtain rfl : Xf m k i = m':=by simpa using hs
     refine ⟨Qer hki hbk0 ho fun o _ h => ?_,fun x hx => Zp _ _ (hne x hx)⟩;have:=(ho o Qa).2;rw [h,show ((k : Int)).toNat = k by omega] at this;omega
    rename_i hm
    have hk:=Sf hadj ho n (Qh b k true) (m.1 k).toNat;have hm2:=fun x hx => Kg adj n m (Qh b k true) (m.1 k).toNat x hx
    generalize Q4 adj n m (Qh b k true) (m.1 k).toNat = Q at *;obtain ⟨o,b2⟩:=Q;have hu : ∀ x,b0 x = true → Qh b k true x = true:=fun x hx => by rw [Zp b true (hne x hx)];exact hb x hx
    cases o with
    | none => exact ih b0 b2 hr (fun x hx => hm2 x (hu x hx)) hs
    | some m1 =>
     obtain rfl : Xf m1 k i = m':=by simpa using hs
     obtain ⟨W,hW⟩:=hk m1 rfl;have hkk:=hW k (Z9 _ _ _)
     have W2:=Qer (b:=b0) (m:=m1) (i:=i) hki hbk0 W.o fun o _ h => by
      have h1:=(W.o o Qa).2;rw [h,show ((k : Int)).toNat = k by omega,hkk] at h1;have h2:=W.b.2;rw [show (m.1 k).toNat = o by omega,h,show ((k : Int)).toNat = k by omega,Z9] at h2;exact absurd h2 (by decide)
     refine ⟨⟨W2.o,W2.b,fun o h => W2.p o (W.p o h)⟩,fun x hx => (Zp _ _ (hne x hx)).trans (hW x (hu x hx))⟩
  exact go (adj i) b b (fun k hk => hk) (fun _ h => h) hs
structure Ur (adj : Nat → List Nat) (ni : Nat) (D : Nat → Prop) (fx : Bl) (m : Nat → Int) : Prop where
 a : ∀ k,k < ni → fx k = false → 0 ≤ m k → D (m k).toNat ∧ k ∈ adj (m k).toNat
 u : ∀ x : Int,0 ≤ x → Yb ni m x ≤ 1
 f : ∀ k,k < ni → fx k = true → 0 ≤ m k → ¬ D (m k).toNat
def Wj (ni : Nat) (m : Nat → Int) (o : Nat) : Prop:=Yb ni m (o : Int) = 0
structure Ua (adj : Nat → List Nat) (D : Nat → Prop) (fx : Bl) (M : List (Nat × Nat)) : Prop where
 a : ∀ p ∈ M,D p.1 ∧ p.2 ∈ adj p.1 ∧ fx p.2 = false
 o : M.Pairwise fun p q => p.1 ≠ q.1
 i : M.Pairwise fun p q => p.2 ≠ q.2
def Ky (fx : Bl) (m : Nat → Int) : Nat → List (Nat × Nat)
 | 0 => []
 | n + 1 => Ky fx m n ++ (if fx n = false ∧ 0 ≤ m n then [((m n).toNat,n)] else [])
theorem Qd8 (fx : Bl) (m : Nat → Int) : ∀ n,(Ky fx m n).length = Zx n fx m
 | 0 => rfl
 | n + 1 => by unfold Ky Zx;rw [List.length_append,Qd8 fx m n];split <;> rfl
theorem Gh {fx : Bl} {m : Nat → Int} {p : Nat × Nat} : ∀ {n : Nat},p ∈ Ky fx m n → p.2 < n ∧ fx p.2 = false ∧ 0 ≤ m p.2 ∧ p.1 = (m p.2).toNat
 | n + 1,h => by
  unfold Ky at h;rcases List.mem_append.1 h with h | h
  ·obtain ⟨h1,h2⟩:=Gh h;exact ⟨by omega,h2⟩
  ·split at h
   ·rename_i e
    rw [List.mem_singleton] at h;subst h;exact ⟨by simp,e.1,e.2,rfl⟩
   ·exact absurd h (by simp)
theorem Bm (fx : Bl) (m : Nat → Int) : ∀ n,(Ky fx m n).Pairwise fun p q => p.2 ≠ q.2
 | 0 => List.Pairwise.nil
 | n + 1 => by
  unfold Ky;refine List.pairwise_append.2 ⟨Bm fx m n,by split <;> simp,fun p hp q hq => ?_⟩;have h1:=(Gh hp).1
  split at hq
  ·rw [List.mem_singleton] at hq;subst hq;show p.2 ≠ n;omega
  ·exact absurd hq (by simp)
theorem Ca {adj : Nat → List Nat} {ni : Nat} {D : Nat → Prop} {fx : Bl} {m : Nat → Int} (V : Ur adj ni D fx m) : ∃ M,Ua adj D fx M ∧ M.length = Zx ni fx m:=by
 refine ⟨Ky fx m ni,⟨fun p hp => ?_,(Bm fx m ni).imp_of_mem fun {p q} hp hq hne e => ?_,Bm fx m ni⟩,Qd8 fx m ni⟩
 ·obtain ⟨h1,h2,h3,h4⟩:=Gh hp;have:=V.a p.2 h1 h2 h3;rw [← h4] at this;exact ⟨this.1,this.2,h2⟩
 ·obtain ⟨h1,h2,h3,h4⟩:=Gh hp;obtain ⟨g1,g2,g3,g4⟩:=Gh hq;exact hne (Mc (V.u (m p.2) h3) h1 g1 rfl Qa)
theorem Dm {fx : Bl} {m : Nat → Int} : ∀ (n : Nat) (l : List Nat),l.Nodup → (∀ k ∈ l,k < n ∧ fx k = false ∧ 0 ≤ m k) → l.length ≤ Zx n fx m
 | 0,l,_,h => by
  cases l with
  | nil => exact Nat.le_refl _
  | cons k r => exact absurd (h k List.mem_cons_self).1 Qa
 | n + 1,l,hd,h => by
  by_cases e : n ∈ l
  ·have h1:=Dm n (l.erase n) (hd.erase n) (fun k hk => by
    obtain ⟨g1,g2⟩:=(hd.mem_erase_iff).1 hk;obtain ⟨q1,q2⟩:=h k g2;exact ⟨by omega,q2⟩)
   rw [List.length_erase_of_mem e] at h1;have h2:=(h n e).2;unfold Zx;rw [if_pos h2];omega
  ·have:=Dm n l hd fun k hk => by
    obtain ⟨q1,q2⟩:=h k hk;have : k ≠ n:=fun e' => e (by rw [← e'];exact hk)
    exact ⟨by omega,q2⟩
   unfold Zx;omega
theorem Ie {adj : Nat → List Nat} {ni : Nat} {D : Nat → Prop} {fx : Bl} {m : Nat → Int} (hadj : ∀ o,∀ k ∈ adj o,k < ni) (V : Ur adj ni D fx m) (hd : ∀ o,D o → Wj ni m o → Vu adj fx m o) {M : List (Nat × Nat)} (hM : Ua adj D fx M) : M.length ≤ Zx ni fx m:=by
 have each : ∀ p : Nat × Nat,∃ k,p ∈ M → (k < ni ∧ fx k = false ∧ 0 ≤ m k) ∧ ((Vu adj fx m p.1 ∧ k = p.2 ∧ Vu adj fx m (m k).toNat) ∨ (¬ Vu adj fx m p.1 ∧ m k = p.1)):=fun p => by
  by_cases hp : p ∈ M
  ·obtain ⟨h1,h2,h3⟩:=hM.a p hp;by_cases e : Vu adj fx m p.1
   ·obtain ⟨A,R,hc,hA⟩:=id e
    have hR : R p.2:=by
     rcases hc.1 p.1 hA p.2 h2 with g | g
     ·exact g
     ·rw [h3] at g;exact absurd g (by decide)
    obtain ⟨g1,g2⟩:=hc.2 p.2 hR;exact ⟨p.2,fun _ => ⟨⟨hadj p.1 p.2 h2,h3,g1⟩,.inl ⟨e,rfl,A,R,hc,g2⟩⟩⟩
   ·have hf : ¬ Wj ni m p.1:=fun h => e (hd p.1 h1 h)
    obtain ⟨k,hk,hm⟩:=Kj (n:=ni) (m:=m) (x:=(p.1 : Int)) (by unfold Wj at hf;omega);refine ⟨k,fun _ => ⟨⟨hk,?_,by omega⟩,.inr ⟨e,hm⟩⟩⟩;cases hfk : fx k
    ·rfl
    ·exact absurd (by rw [hm];exact h1) (V.f k hk hfk Qa)
  ·exact ⟨0,fun h => absurd h hp⟩
 obtain ⟨g,hg⟩:=Classical.axiomOfChoice each
 have hpw : (M.map g).Nodup:=by
  refine List.pairwise_map.2 ((hM.o.and hM.i).imp_of_mem fun {p q} hp hq hne e => ?_);obtain ⟨_,h1⟩:=hg p hp;obtain ⟨_,h2⟩:=hg q hq;rcases h1 with ⟨a1,a2,a3⟩ | ⟨a1,a2⟩
  ·rcases h2 with ⟨b1,b2,b3⟩ | ⟨b1,b2⟩
   ·exact hne.2 (by rw [← a2,← b2,e])
   ·rw [e,b2] at a3;exact b1 (by simpa using a3)
  ·rcases h2 with ⟨b1,b2,b3⟩ | ⟨b1,b2⟩
   ·rw [← e,a2] at b3;exact a1 (by simpa using b3)
   ·rw [e] at a2;exact hne.1 Qa
 have:=Dm ni (M.map g) hpw (fun k hk => by
  obtain ⟨p,hp,rfl⟩:=List.mem_map.1 hk;exact (hg p hp).1)
 simpa using this
def Nu (adj : Nat → List Nat) (D : Nat → Prop) (fx : Bl) (s : Nat) : Prop:=(∃ M,Ua adj D fx M ∧ M.length = s) ∧ ∀ M,Ua adj D fx M → M.length ≤ s
theorem Ri {adj : Nat → List Nat} {D : Nat → Prop} {fx : Bl} {s t : Nat} (h1 : Nu adj D fx s) (h2 : Nu adj D fx t) : s = t:=by
 obtain ⟨⟨M,hM,rfl⟩,h1⟩:=h1;obtain ⟨⟨N,hN,rfl⟩,h2⟩:=h2;have:=h1 N hN;have:=h2 M hM;omega
def Top (adj : Nat → List Nat) (ni : Nat) (D : Nat → Prop) (fx : Bl) (m : Nat → Int) : Prop:=Ur adj ni D fx m ∧ ∀ M,Ua adj D fx M → M.length ≤ Zx ni fx m
theorem Top.nu {adj : Nat → List Nat} {ni : Nat} {D : Nat → Prop} {fx : Bl} {m : Nat → Int} (h : Top adj ni D fx m) : Nu adj D fx (Zx ni fx m):=⟨Ca h.1,h.2⟩
theorem Qes {adj : Nat → List Nat} {ni : Nat} {D : Nat → Prop} {fx : Bl} {m m' : Mt} {i : Nat} (V : Ur adj ni D fx m.1) (hi : D i) (hf : Wj ni m.1 i) (W : Vx adj ni fx m fx i m') : Ur adj ni D fx m'.1:=by
 have hu : ∀ x : Int,0 ≤ x → Yb ni m'.1 x ≤ 1:=fun x hx => by
  rw [W.c x hx];by_cases e : x = i
  ·subst e;unfold Wj at hf;rw [hf];simp
  ·rw [if_neg e];exact V.u x hx
 refine ⟨fun k hk hfk h0 => ?_,hu,fun k hk hfk h0 => ?_⟩
 ·rcases W.a k with e | ⟨_,ha⟩
  ·rw [e] at h0 ⊢;exact V.a k hk hfk h0
  ·refine ⟨?_,ha⟩;have hc:=W.c (m'.1 k) h0;by_cases e : m'.1 k = i
   ·rw [e];simpa using hi
   ·rw [if_neg e] at hc;have hp:=Lc hk (rfl : m'.1 k = m'.1 k);obtain ⟨k1,g1,g2⟩:=Kj (n:=ni) (m:=m.1) (x:=m'.1 k) Qa;cases hf1 : fx k1
    ·have:=(V.a k1 g1 hf1 Qa).1;rw [g2] at this;exact this
    ·have h3:=W.k k1 hf1;have h4:=Mc (hu _ h0) hk g1 rfl (h3.trans g2);subst h4;rw [hfk] at hf1;exact absurd hf1 (by decide)
 ·rw [W.k k hfk] at h0 ⊢;exact V.f k hk hfk h0
theorem Qn3 {adj : Nat → List Nat} {ni : Nat} {D : Nat → Prop} {fx : Bl} {m : Mt} (hadj : ∀ o,∀ k ∈ adj o,k < ni) (V : Ur adj ni D fx m.1) (h : ∀ o,D o → Wj ni m.1 o → (Q4 adj ni m fx o).1 = none) : Top adj ni D fx m.1 :=
 ⟨V,fun _ hM => Ie hadj V (fun o ho hf => Ic hadj (Mf ni fx) (h o ho hf)) hM⟩
def Zt (adj : Nat → List Nat) (ni : Nat) (fx : Bl) : Nat → Nat → Mt → Mt × Nat
 | 0,_,m => (m,0)
 | n + 1,s,m => match (Q4 adj ni m fx s).1 with
  | none => Zt adj ni fx n (s + 1) m
  | some m' => ((Zt adj ni fx n (s + 1) m').1,(Zt adj ni fx n (s + 1) m').2 + 1)
structure Vv (adj : Nat → List Nat) (ni f : Nat) (fx : Bl) (s : Nat) (m : Mt) : Prop where
 v : Ur adj ni (fun o => f ≤ o ∧ o < s) fx m.1
 x : ∀ k,k < ni → fx k = true → m.1 k < 0
 d : ∀ o,f ≤ o → o < s → Wj ni m.1 o → Vu adj fx m.1 o
 i : Inv ni m
theorem Qao {adj : Nat → List Nat} {ni : Nat} {fx : Bl} {m m' : Mt} {i : Nat} (I : Inv ni m) (W : Vx adj ni fx m fx i m') (O : Gk ni m fx i m') : Inv ni m':=by
 refine ⟨O.o,fun k hk h0 => ?_⟩;have hc:=W.c (m'.1 k) h0;by_cases e : m'.1 k = i
 ·rw [e];simpa using O.b.1
 ·rw [if_neg e] at hc;have hp:=Lc hk (rfl : m'.1 k = m'.1 k);obtain ⟨k1,g1,g2⟩:=Kj (n:=ni) (m:=m.1) (x:=m'.1 k) Qa;rw [← g2];exact O.p _ (I.i k1 g1 Qa)
theorem Fc {adj : Nat → List Nat} {ni f : Nat} {fx : Bl} (hadj : ∀ o,∀ k ∈ adj o,k < ni) : ∀ (n s : Nat) (m : Mt),f ≤ s → Vv adj ni f fx s m → Vv adj ni f fx (s + n) (Zt adj ni fx n s m).1 ∧ Zx ni fx (Zt adj ni fx n s m).1.1 = Zx ni fx m.1 + (Zt adj ni fx n s m).2
 | 0,s,m,_,h => ⟨h,rfl⟩
 | n + 1,s,m,hs,h => by
  have hfree : Wj ni m.1 s:=by
   unfold Wj;refine Nat.eq_zero_of_not_pos fun hp => ?_
   obtain ⟨k,g1,g2⟩:=Kj hp;cases e : fx k
   ·have:=(h.v.a k g1 e Qa).1;omega
   ·have:=h.x k g1 e;omega
  have V' : Ur adj ni (fun o => f ≤ o ∧ o < s + 1) fx m.1:=⟨fun k hk hf h0 => by
   obtain ⟨g1,g2⟩:=h.v.a k hk hf h0;exact ⟨⟨g1.1,by have:=g1.2;omega⟩,g2⟩,h.v.u,fun k hk hf h0 => by have:=h.x k hk hf;omega⟩
  unfold Zt
  cases e : (Q4 adj ni m fx s).1 with
  | none =>
   have:=Fc hadj n (s + 1) m Qa ⟨V',h.x,fun o h1 h2 h3 => by
    by_cases e' : o = s
    ·subst e';exact Ic hadj (Mf ni fx) e
    ·exact h.d o h1 Qa h3,h.i⟩
   rw [show s + (n + 1) = s + 1 + n by omega]
   exact this
  | some m' =>
   have W:=Sc (fx:=fx) hadj ni fx s m' (fun _ h => h) e;obtain ⟨O,_⟩:=Sf hadj h.i.o ni fx s m' e;have V2:=Qes V' ⟨hs,by simp⟩ hfree W
   obtain ⟨g1,g2⟩:=Fc hadj n (s + 1) m' Qa ⟨V2,fun k hk hf => by rw [W.k k hf];exact h.x k hk hf,fun o h1 h2 h3 => by
    have hc:=W.c (o : Int) Qa;unfold Wj at h3;by_cases e' : o = s
    ·subst e';rw [if_pos rfl] at hc;omega
    ·exact Qhf e (h.d o h1 Qa (by unfold Wj;omega)),Qao h.i W O⟩
   rw [show s + (n + 1) = s + 1 + n by omega];refine ⟨g1,?_⟩;have:=W.s
   simp only
   omega
theorem Pj {adj : Nat → List Nat} {ni f : Nat} {fx : Bl} (hadj : ∀ o,∀ k ∈ adj o,k < ni) {s : Nat} {m : Mt} (hs : f ≤ s) (h : Vv adj ni f fx s m) : Vv adj ni f fx (s + 1) ((Q4 adj ni m fx s).1.getD m) ∧ ∀ n,(Zt adj ni fx (n + 1) s m).1 = (Zt adj ni fx n (s + 1) ((Q4 adj ni m fx s).1.getD m)).1:=by
 have g:=(Fc hadj 1 s m hs h).1;unfold Zt at g
 constructor
 ·cases e : (Q4 adj ni m fx s).1 with
  | none => rw [e] at g;exact g
  | some m' => rw [e] at g;exact g
 ·intro n
  conv => lhs;unfold Zt
  cases e : (Q4 adj ni m fx s).1 with
  | none => rfl
  | some m' => rfl
def Jg : Mt:=(fun _ => -1,fun _ => -1)
theorem Qgz (ni : Nat) (x : Int) (hx : 0 ≤ x) : Yb ni Jg.1 x = 0:=by
 refine Nat.eq_zero_of_not_pos fun hp => ?_
 obtain ⟨k,_,h⟩:=Kj hp;have h : (-1 : Int) = x:=h;omega
theorem Qd6 (fx : Bl) : ∀ ni,Zx ni fx Jg.1 = 0
 | 0 => rfl
 | n + 1 => by unfold Zx;rw [Qd6 fx n,if_neg (by rintro ⟨_,h⟩;have h : (0 : Int) ≤ -1:=h;omega)]
theorem Oi (adj : Nat → List Nat) (ni f : Nat) (fx : Bl) : Vv adj ni f fx f Jg :=
 ⟨⟨fun k _ _ h => by have h : (0 : Int) ≤ -1:=h;omega,fun x hx => by rw [Qgz ni x hx];omega,fun k _ _ h => by have h : (0 : Int) ≤ -1:=h;omega⟩,fun k _ _ => by show (-1 : Int) < 0;omega,fun o h1 h2 _ => by omega,⟨fun o h => by have h : (0 : Int) ≤ -1:=h;omega,fun k _ h => by have h : (0 : Int) ≤ -1:=h;omega⟩⟩
theorem I0 {adj : Nat → List Nat} {ni : Nat} (hadj : ∀ o,∀ k ∈ adj o,k < ni) (fx : Bl) (f n : Nat) : Top adj ni (fun o => f ≤ o ∧ o < f + n) fx (Zt adj ni fx n f Jg).1.1 ∧ Inv ni (Zt adj ni fx n f Jg).1 ∧ Nu adj (fun o => f ≤ o ∧ o < f + n) fx (Zt adj ni fx n f Jg).2:=by
 obtain ⟨g1,g2⟩:=Fc hadj n f Jg (Nat.le_refl _) (Oi adj ni f fx);have T : Top adj ni (fun o => f ≤ o ∧ o < f + n) fx (Zt adj ni fx n f Jg).1.1:=⟨g1.v,fun M hM => Ie hadj g1.v (fun o ho hf => g1.d o ho.1 ho.2 hf) hM⟩;have h:=T.nu;rw [g2,Qd6,Nat.zero_add] at h;exact ⟨T,g1.i,h⟩
theorem Pg {ni : Nat} {m : Mt} {o : Nat} (I : Inv ni m) : m.2 o < 0 ↔ Wj ni m.1 o:=by
 unfold Wj
 constructor
 ·intro h;refine Nat.eq_zero_of_not_pos fun hp => ?_
  obtain ⟨k,g1,g2⟩:=Kj hp;have:=I.i k g1 Qa;rw [g2] at this;have : 0 ≤ m.2 o:=by simpa using this
  omega
 ·intro h;refine Int.not_le.1 fun h0 => ?_
  obtain ⟨g1,g2⟩:=I.o o h0;have:=Lc g1 g2;omega
theorem Qd5 {fx : Bl} {m : Nat → Int} {k : Nat} (hm : ¬ 0 ≤ m k) : ∀ {n : Nat},Zx n (Qh fx k true) m = Zx n fx m
 | 0 => rfl
 | n + 1 => by
  unfold Zx;rw [Qd5 hm];by_cases e : n = k
  ·subst e;simp [hm]
  ·rw [Zp fx true e]
def Jd (m : Mt) (i : Nat) : Nat → Int:=if 0 ≤ m.2 i then Qh m.1 (m.2 i).toNat (-1) else m.1
def Ym (m : Mt) (i k : Nat) : Mt:=(Qh (Jd m i) k i,Qh (if 0 ≤ m.1 k then Qh m.2 (m.1 k).toNat (-1) else m.2) i k)
def U7 (adj : Nat → List Nat) (ni : Nat) (fx : Bl) : Nat → Nat → Mt → Option Mt
 | 0,_,_ => none
 | n + 1,j,m => if m.2 j < 0 then (match (Q4 adj ni m fx j).1 with | some m' => some m' | none => U7 adj ni fx n (j + 1) m) else U7 adj ni fx n (j + 1) m
def Xy (adj : Nat → List Nat) (ni no : Nat) (fx : Bl) (m : Mt) (i k : Nat) : Option Mt :=
 if m.2 i < 0 ∨ m.1 k < 0 then some (Ym m i k) else U7 adj ni (Qh fx k true) (no - (i + 1)) (i + 1) (Ym m i k)
def Xo (adj : Nat → List Nat) (ni no : Nat) (i : Nat) : List Nat → Mt → Bl → Option (Nat × Mt × Bl)
 | [],_,_ => none
 | k :: r,m,fx =>
  if fx k then Xo adj ni no i r m fx
  else if m.2 i = k then some (k,m,Qh fx k true)
  else match Xy adj ni no fx m i k with
   | some m' => some (k,m',Qh fx k true)
   | none => Xo adj ni no i r m fx
def Ya (adj : Nat → List Nat) (ni no : Nat) : Nat → Nat → Mt → Bl → List (Nat × Nat)
 | 0,_,_,_ => []
 | n + 1,i,m,fx => match Xo adj ni no i (adj i) m fx with
  | some (k,m',fx') => (i,k) :: Ya adj ni no n (i + 1) m' fx'
  | none => Ya adj ni no n (i + 1) m fx
def Yf (adj : Nat → List Nat) (ni no : Nat) (i : Nat) (left : Int) (fx : Bl) : List Nat → Option Nat
 | [] => none
 | k :: r => if fx k then Yf adj ni no i left fx r else if ((Zt adj ni (Qh fx k true) (no - (i + 1)) (i + 1) Jg).2 : Int) = left - 1 then some k else Yf adj ni no i left fx r
def Y9 (adj : Nat → List Nat) (ni no : Nat) : Nat → Nat → Int → Bl → List (Nat × Nat)
 | 0,_,_,_ => []
 | n + 1,i,left,fx => match Yf adj ni no i left fx (adj i) with
  | some k => (i,k) :: Y9 adj ni no n (i + 1) (left - 1) (Qh fx k true)
  | none => Y9 adj ni no n (i + 1) left fx
def Xn (i no : Nat) : Nat → Prop:=fun o => i ≤ o ∧ o < no
structure Uq (adj : Nat → List Nat) (ni no i : Nat) (fx : Bl) (m : Mt) : Prop where
 t : Top adj ni (Xn i no) fx m.1
 i : Inv ni m
theorem Et {adj : Nat → List Nat} {no i k : Nat} {fx : Bl} {M : List (Nat × Nat)} (hM : Ua adj (Xn (i + 1) no) (Qh fx k true) M) (hi : i < no) (hk : k ∈ adj i) (hf : fx k = false) : Ua adj (Xn i no) fx ((i,k) :: M):=by
 refine ⟨fun p hp => ?_,List.pairwise_cons.2 ⟨fun q hq => ?_,hM.o⟩,List.pairwise_cons.2 ⟨fun q hq => ?_,hM.i⟩⟩
 ·rcases List.mem_cons.1 hp with rfl | hp
  ·exact ⟨⟨Nat.le_refl _,hi⟩,hk,hf⟩
  ·obtain ⟨h1,h2,h3⟩:=hM.a p hp;refine ⟨⟨by have:=h1.1;omega,h1.2⟩,h2,?_⟩;by_cases e : p.2 = k
   ·rw [e];exact hf
   ·rw [Zp fx true e] at h3;exact h3
 ·have:=(hM.a q hq).1.1
  show i ≠ q.1;omega
 ·intro e;have:=(hM.a q hq).2.2;have e : k = q.2:=e;rw [← e,Z9] at this;exact absurd this (by decide)
theorem Eu {adj : Nat → List Nat} {no i k s : Nat} {fx : Bl} {M : List (Nat × Nat)} (hM : Ua adj (Xn (i + 1) no) (Qh fx k true) M) (hi : i < no) (hk : k ∈ adj i) (hf : fx k = false) (h : ∀ M,Ua adj (Xn i no) fx M → M.length ≤ s) : M.length + 1 ≤ s:=h ((i,k) :: M) (Et hM hi hk hf)
theorem Qoe {adj : Nat → List Nat} {ni no i k : Nat} {fx : Bl} {m : Nat → Int} (V : Ur adj ni (Xn i no) fx m) (hk : m k = i) (hn : k < ni) : Ur adj ni (Xn (i + 1) no) (Qh fx k true) m:=by
 refine ⟨fun x hx hf h0 => ?_,V.u,fun x hx hf h0 => ?_⟩
 ·have e : x ≠ k := fun e => by subst e; rw [Z9] at hf; exact absurd hf (by decide)
  rw [Zp fx true e] at hf;obtain ⟨g1,g2⟩:=V.a x hx hf h0;refine ⟨⟨?_,g1.2⟩,g2⟩;have h1:=g1.1;refine Nat.lt_of_le_of_ne h1 fun h2 => e ?_
  exact Mc (V.u (i : Int) Qa) hx hn Qa hk
 ·by_cases e : x = k
  ·subst e;rw [hk];intro h;have:=h.1;simp only [Int.toNat_natCast] at this;omega
  ·rw [Zp fx true e] at hf;have:=V.f x hx hf h0;exact fun h => this ⟨by have:=h.1;omega,h.2⟩
theorem Qgi {adj : Nat → List Nat} {ni no i k : Nat} {fx : Bl} {m : Mt} (J : Uq adj ni no i fx m) (hi : i < no) (hk : k ∈ adj i) (hn : k < ni) (hf : fx k = false) (hm : m.1 k = i) : Uq adj ni no (i + 1) (Qh fx k true) m ∧ Zx ni (Qh fx k true) m.1 + 1 = Zx ni fx m.1:=by
 have hs:=Bk hf (show 0 ≤ m.1 k by omega) hn;refine ⟨⟨⟨Qoe J.t.1 hm hn,fun M hM => ?_⟩,J.i⟩,hs⟩;have:=Eu hM hi hk hf J.t.2;omega
theorem Qn0 {adj : Nat → List Nat} {ni no i k : Nat} {fx : Bl} {m : Mt} (J : Uq adj ni no i fx m) (hi : i < no) (hn : k < ni) (hf : fx k = false) (hm : m.2 i ≠ k) :
  Ur adj ni (Xn (i + 1) no) (Qh fx k true) (Ym m i k).1 ∧ Inv ni (Ym m i k) ∧ Zx ni (Qh fx k true) (Ym m i k).1 + (if 0 ≤ m.2 i then 1 else 0) + (if 0 ≤ m.1 k then 1 else 0) = Zx ni fx m.1:=by
 have V:=J.t.1;have I:=J.i
 -- the partner of i dropped
 have hold : ∀ h : 0 ≤ m.2 i,(m.2 i).toNat < ni ∧ m.1 (m.2 i).toNat = i ∧ (m.2 i).toNat ≠ k ∧ fx (m.2 i).toNat = false:=fun h => by
  obtain ⟨g1,g2⟩:=I.o i h;refine ⟨g1,g2,fun e => hm Qa,?_⟩;cases e : fx (m.2 i).toNat
  ·rfl
  ·refine absurd ?_ (V.f _ g1 e Qa);rw [g2];exact ⟨by simp,by simpa using hi⟩
 have hA : ∀ x,Jd m i x = m.1 x ∨ Jd m i x = -1:=fun x => by
  unfold Jd
  split
  ·by_cases e : x = (m.2 i).toNat
   ·subst e;exact .inr (Z9 _ _ _)
   ·exact .inl (Zp _ _ e)
  ·exact .inl rfl
 have hAk : Jd m i k = m.1 k:=by
  unfold Jd
  split
  ·rename_i h;exact Zp _ _ (fun e => (hold h).2.2.1 e.symm)
  ·rfl
 have hAi : ∀ x,x < ni → Jd m i x ≠ i:=fun x hx e => by
  have hx0 : m.1 x = i:=by
   rcases hA x with h | h
   ·rw [← h];exact e
   ·rw [h] at e;omega
  have h0 : 0 ≤ m.2 i:=by have:=I.i x hx Qa;rw [hx0] at this;simpa using this
  obtain ⟨g1,g2,_,_⟩:=hold h0;have:=Mc (V.u (i : Int) Qa) hx g1 hx0 g2;unfold Jd at e;rw [if_pos h0,this,Z9] at e;omega
 have hAc : ∀ x : Int,0 ≤ x → Yb ni (Jd m i) x ≤ Yb ni m.1 x:=fun x hx => by
  unfold Jd
  split
  ·rename_i h
   have:=Od m.1 (-1 : Int) x (hold h).1;rw [if_neg (show ¬ (-1 : Int) = x by omega)] at this;omega
  ·exact Nat.le_refl _
 have hu : ∀ x : Int,0 ≤ x → Yb ni (Qh (Jd m i) k i) x ≤ 1:=fun x hx => by
  have h1:=Od (Jd m i) (i : Int) x hn;have h2:=hAc x hx;have h3:=V.u x hx;by_cases e : (i : Int) = x
  ·have h4 : Yb ni (Jd m i) x = 0:=by
    refine Nat.eq_zero_of_not_pos fun hp => ?_
    obtain ⟨y,q1,q2⟩:=Kj hp;exact hAi y q1 (q2.trans e.symm)
   rw [if_pos e] at h1;omega
  ·rw [if_neg e] at h1;omega
 refine ⟨⟨fun x hx hfx h0 => ?_,hu,fun x hx hfx h0 => ?_⟩,⟨fun o h => ?_,fun x hx h0 => ?_⟩,?_⟩
 ·have e : x ≠ k := fun e => by subst e; rw [Z9] at hfx; exact absurd hfx (by decide)
  rw [Zp fx true e] at hfx;have h0' : 0 ≤ Qh (Jd m i) k i x:=h0
  show Xn (i + 1) no (Qh (Jd m i) k i x).toNat ∧ x ∈ adj (Qh (Jd m i) k i x).toNat
  rw [Zp _ _ e] at h0' ⊢
  have h1 : Jd m i x = m.1 x:=by
   rcases hA x with h | h
   ·exact h
   ·omega
  have h2:=hAi x hx;rw [h1] at h0' h2 ⊢;obtain ⟨g1,g2⟩:=V.a x hx hfx h0';exact ⟨⟨by have:=g1.1;omega,g1.2⟩,g2⟩
 ·have h0' : 0 ≤ Qh (Jd m i) k i x:=h0
  show ¬ Xn (i + 1) no (Qh (Jd m i) k i x).toNat
  by_cases e : x = k
  ·subst e;rw [Z9];intro h;have:=h.1;simp only [Int.toNat_natCast] at this;omega
  ·rw [Zp _ _ e] at h0' ⊢;rw [Zp fx true e] at hfx
   have h1 : Jd m i x = m.1 x:=by
    rcases hA x with h | h
    ·exact h
    ·omega
   rw [h1] at h0' ⊢;exact fun h => V.f x hx hfx h0' ⟨by have:=h.1;omega,h.2⟩
 ·have h' : 0 ≤ Qh (if 0 ≤ m.1 k then Qh m.2 (m.1 k).toNat (-1) else m.2) i k o:=h
  show (Qh (if 0 ≤ m.1 k then Qh m.2 (m.1 k).toNat (-1) else m.2) i k o).toNat < ni ∧ Qh (Jd m i) k i (Qh (if 0 ≤ m.1 k then Qh m.2 (m.1 k).toNat (-1) else m.2) i k o).toNat = o
  by_cases e : o = i
  ·subst e;rw [Z9];exact ⟨by omega,by rw [show ((k : Int)).toNat = k by omega,Z9]⟩
  ·rw [Zp _ _ e] at h' ⊢
   have h2 : (if 0 ≤ m.1 k then Qh m.2 (m.1 k).toNat (-1) else m.2) o = m.2 o ∧ (0 ≤ m.1 k → o ≠ (m.1 k).toNat):=by
    by_cases c : 0 ≤ m.1 k
    ·rw [if_pos c] at h' ⊢;by_cases e2 : o = (m.1 k).toNat
     ·rw [e2,Z9] at h';omega
     ·exact ⟨Zp _ _ e2,fun _ => e2⟩
    ·rw [if_neg c];exact ⟨rfl,fun h => absurd h c⟩
   rw [h2.1] at h' ⊢;obtain ⟨g1,g2⟩:=I.o o h'
   have g3 : (m.2 o).toNat ≠ k:=fun e2 => by
    rw [e2] at g2;exact h2.2 Qa Qa
   refine ⟨g1,(Zp _ _ g3).trans ?_⟩;unfold Jd
   split
   ·rename_i c
    refine (Zp _ _ fun e2 => e ?_).trans g2;have:=(hold c).2.1;rw [← e2,g2] at this;omega
   ·exact g2
 ·have h0' : 0 ≤ Qh (Jd m i) k i x:=h0
  show 0 ≤ Qh (if 0 ≤ m.1 k then Qh m.2 (m.1 k).toNat (-1) else m.2) i k (Qh (Jd m i) k i x).toNat
  by_cases e : x = k
  ·subst e;rw [Z9,show ((i : Int)).toNat = i by omega,Z9];omega
  ·rw [Zp _ _ e] at h0' ⊢
   have h1 : Jd m i x = m.1 x:=by
    rcases hA x with h | h
    ·exact h
    ·omega
   have h2:=hAi x hx;rw [h1] at h0' h2 ⊢;rw [Zp _ _ Qa];have h3:=I.i x hx h0'
   split
   ·rename_i c
    rw [Zp _ _ fun e2 => e (Mc (V.u (m.1 x) h0') hx hn rfl Qa)];exact h3
   ·exact h3
 ·show Zx ni (Qh fx k true) (Qh (Jd m i) k i) + _ + _ = _
  rw [Tb (fx':=Qh fx k true) (m':=Jd m i) fun x hx => ⟨rfl,fun hfx => by
   have e : x ≠ k:=fun e => by subst e;rw [Z9] at hfx;exact absurd hfx (by decide)
   rw [Zp _ _ e]⟩]
  have h1 : Zx ni fx (Jd m i) + (if 0 ≤ m.2 i then 1 else 0) = Zx ni fx m.1:=by
   unfold Jd
   split
   ·rename_i c
    obtain ⟨g1,g2,g3,g4⟩:=hold c;have:=Tc m.1 (-1 : Int) g4 g1;rw [if_pos (show 0 ≤ m.1 (m.2 i).toNat by omega),if_neg (show ¬ (0 : Int) ≤ -1 by omega)] at this;omega
   ·rfl
  have h2 : Zx ni (Qh fx k true) (Jd m i) + (if 0 ≤ m.1 k then 1 else 0) = Zx ni fx (Jd m i):=by
   by_cases c : 0 ≤ m.1 k
   ·rw [if_pos c];exact Bk hf (by rw [hAk];exact c) hn
   ·rw [if_neg c];exact Qd5 (by rw [hAk];exact c)
  omega
theorem Bs {adj : Nat → List Nat} {ni : Nat} {fx : Bl} {m m' : Mt} : ∀ {n j : Nat},U7 adj ni fx n j m = some m' → ∃ j',(j ≤ j' ∧ j' < j + n) ∧ m.2 j' < 0 ∧ (Q4 adj ni m fx j').1 = some m'
 | n + 1,j,h => by
  have more : U7 adj ni fx n (j + 1) m = some m' → ∃ j',(j ≤ j' ∧ j' < j + (n + 1)) ∧ m.2 j' < 0 ∧ (Q4 adj ni m fx j').1 = some m':=fun h => by
   obtain ⟨j',h1,h2⟩:=Bs h;exact ⟨j',⟨by omega,by omega⟩,h2⟩
  unfold U7 at h
  split at h
  ·rename_i hm
   split at h
   ·rename_i m'' e
    obtain rfl : m'' = m':=by simpa using h
    exact ⟨j,⟨Nat.le_refl _,by omega⟩,hm,e⟩
   ·exact more h
  ·exact more h
theorem Br {adj : Nat → List Nat} {ni : Nat} {fx : Bl} {m : Mt} : ∀ {n j : Nat},U7 adj ni fx n j m = none → ∀ j',j ≤ j' → j' < j + n → m.2 j' < 0 → (Q4 adj ni m fx j').1 = none
 | 0,j,_,j',h1,h2,_ => by omega
 | n + 1,j,h,j',h1,h2,h3 => by
  unfold U7 at h;by_cases e : j' = j
  ·subst e;rw [if_pos h3] at h
   split at h
   ·exact absurd h (by simp)
   ·rename_i e;exact e
  ·split at h
   ·split at h
    ·exact absurd h (by simp)
    ·exact Br h j' Qa Qa h3
   ·exact Br h j' Qa Qa h3
theorem Qgj {adj : Nat → List Nat} {ni no i k : Nat} {fx : Bl} {m : Mt} (hadj : ∀ o,∀ k ∈ adj o,k < ni) (J : Uq adj ni no i fx m) (hi : i < no) (hk : k ∈ adj i) (hf : fx k = false) (hm : m.2 i ≠ k) :
  (∀ m',Xy adj ni no fx m i k = some m' → Uq adj ni no (i + 1) (Qh fx k true) m' ∧ Zx ni (Qh fx k true) m'.1 + 1 = Zx ni fx m.1) ∧ (Xy adj ni no fx m i k = none → ∀ s,Nu adj (Xn (i + 1) no) (Qh fx k true) s → s + 1 ≠ Zx ni fx m.1):=by
 obtain ⟨V,I,hs⟩:=Qn0 J hi (hadj i k hk) hf hm;have hc:=fun M (hM : Ua adj (Xn (i + 1) no) (Qh fx k true) M) => Eu hM hi hk hf J.t.2
 unfold Xy
 split
 ·rename_i h
  refine ⟨fun m' e => ?_,fun e => absurd e (by simp)⟩;obtain rfl : Ym m i k = m':=by simpa using e
  obtain ⟨M,h1,h2⟩:=Ca V;have h3:=hc M h1
  have h4 : Zx ni (Qh fx k true) (Ym m i k).1 + 1 = Zx ni fx m.1:=by
   rcases h with h | h
   ·rw [if_neg (show ¬ 0 ≤ m.2 i by omega)] at hs;split at hs <;> omega
   ·rw [if_neg (show ¬ 0 ≤ m.1 k by omega)] at hs;split at hs <;> omega
  exact ⟨⟨⟨V,fun M hM => by have:=hc M hM;omega⟩,I⟩,h4⟩
 ·rename_i h
  rw [if_pos (show 0 ≤ m.2 i by omega),if_pos (show 0 ≤ m.1 k by omega)] at hs;refine ⟨fun m' e => ?_,fun e s hn => ?_⟩
  ·obtain ⟨j,hj,hj0,ha⟩:=Bs e;have W:=Sc (fx:=Qh fx k true) hadj ni (Qh fx k true) j m' (fun _ h => h) ha;obtain ⟨O,_⟩:=Sf hadj I.o ni (Qh fx k true) j m' ha;have V2:=Qes V ⟨hj.1,by omega⟩ ((Pg I).1 hj0) W;have:=W.s;exact ⟨⟨⟨V2,fun M hM => by have:=hc M hM;omega⟩,Qao I W O⟩,by omega⟩
  ·have T : Top adj ni (Xn (i + 1) no) (Qh fx k true) (Ym m i k).1:=Qn3 hadj V fun o ho hfr => Br e o ho.1 (by have:=ho.2;omega) ((Pg I).2 hfr)
   have:=Ri hn T.nu;omega
theorem ref_nu {adj : Nat → List Nat} {ni no i k : Nat} {fx : Bl} (hadj : ∀ o,∀ k ∈ adj o,k < ni) (hi : i < no) : Nu adj (Xn (i + 1) no) (Qh fx k true) (Zt adj ni (Qh fx k true) (no - (i + 1)) (i + 1) Jg).2:=by
 have:=(I0 hadj (Qh fx k true) (i + 1) (no - (i + 1))).2.2;rw [show i + 1 + (no - (i + 1)) = no by omega] at this;exact this
theorem Ee {adj : Nat → List Nat} {ni no i : Nat} {fx : Bl} {m : Mt} (hadj : ∀ o,∀ k ∈ adj o,k < ni) (J : Uq adj ni no i fx m) (hi : i < no) : ∀ (l : List Nat),(∀ k ∈ l,k ∈ adj i) →
  (∀ k m' fx',Xo adj ni no i l m fx = some (k,m',fx') → k ∈ adj i ∧ fx k = false ∧ fx' = Qh fx k true ∧ Uq adj ni no (i + 1) fx' m' ∧ Zx ni fx' m'.1 + 1 = Zx ni fx m.1 ∧ Yf adj ni no i (Zx ni fx m.1) fx l = some k) ∧
  (Xo adj ni no i l m fx = none → Yf adj ni no i (Zx ni fx m.1) fx l = none ∧ ∀ k ∈ l,fx k = false → m.2 i ≠ k)
 | [],_ => ⟨fun k m' fx' h => by simp [Xo] at h,fun _ => ⟨rfl,fun k hk => absurd hk (by simp)⟩⟩
 | k :: r,hl => by
  have IH:=Ee hadj J hi r fun x hx => hl x (List.mem_cons_of_mem _ hx)
  have hk:=hl k List.mem_cons_self;unfold Xo Yf;by_cases hf : fx k = true
  ·rw [if_pos hf,if_pos hf];refine ⟨IH.1,fun h => ⟨(IH.2 h).1,fun x hx hfx => ?_⟩⟩;rcases List.mem_cons.1 hx with rfl | hx
   ·rw [hf] at hfx;exact absurd hfx (by decide)
   ·exact (IH.2 h).2 x hx hfx
  rw [if_neg hf,if_neg hf];have hf' : fx k = false:=by simpa using hf
  have hn:=ref_nu (fx:=fx) (k:=k) hadj hi;by_cases hm : m.2 i = k
  ·rw [if_pos hm]
   have hm1 : m.1 k = i:=by
    have:=(J.i.o i Qa).2;rw [hm] at this;simpa using this
   obtain ⟨g1,g2⟩:=Qgi J hi hk (hadj i k hk) hf' hm1;have e:=Ri hn g1.t.nu;refine ⟨fun k' m' fx' h => ?_,fun h => absurd h (by simp)⟩;obtain ⟨rfl,rfl,rfl⟩ : k = k' ∧ m = m' ∧ Qh fx k true = fx':=by simpa using h
   exact ⟨hk,hf',rfl,g1,g2,by rw [if_pos Qa]⟩
  ·rw [if_neg hm];obtain ⟨g1,g2⟩:=Qgj hadj J hi hk hf' hm
   cases hs : Xy adj ni no fx m i k with
   | some m1 =>
    obtain ⟨q1,q2⟩:=g1 m1 hs;have e:=Ri hn q1.t.nu;refine ⟨fun k' m' fx' h => ?_,fun h => absurd h (by simp)⟩;obtain ⟨rfl,rfl,rfl⟩ : k = k' ∧ m1 = m' ∧ Qh fx k true = fx':=by simpa using h
    exact ⟨hk,hf',rfl,q1,q2,by rw [if_pos Qa]⟩
   | none =>
    have:=g2 hs _ hn;rw [if_neg Qa];refine ⟨IH.1,fun h => ⟨(IH.2 h).1,fun x hx hfx => ?_⟩⟩;rcases List.mem_cons.1 hx with rfl | hx
    ·exact hm
    ·exact (IH.2 h).2 x hx hfx
theorem Qgh {adj : Nat → List Nat} {ni no i : Nat} {fx : Bl} {m : Mt} (J : Uq adj ni no i fx m) (hi : i < no) (h : ∀ k ∈ adj i,fx k = false → m.2 i ≠ k) : Uq adj ni no (i + 1) fx m:=by
 have hfr : m.2 i < 0:=by
  refine Int.not_le.1 fun h0 => ?_
  obtain ⟨g1,g2⟩:=J.i.o i h0;cases hf : fx (m.2 i).toNat
  ·have:=(J.t.1.a _ g1 hf Qa).2;rw [g2] at this;exact h _ (by simpa using this) hf Qa
  ·have:=J.t.1.f _ g1 hf Qa;rw [g2] at this;exact this ⟨by simp,by simpa using hi⟩
 have hF:=(Pg J.i).1 hfr;refine ⟨⟨⟨fun k hk hf h0 => ?_,J.t.1.u,fun k hk hf h0 hr => J.t.1.f k hk hf h0 ⟨by have:=hr.1;omega,hr.2⟩⟩,fun M hM => J.t.2 M ⟨fun p hp => ?_,hM.o,hM.i⟩⟩,J.i⟩
 ·obtain ⟨g1,g2⟩:=J.t.1.a k hk hf h0;refine ⟨⟨?_,g1.2⟩,g2⟩;refine Nat.lt_of_le_of_ne g1.1 fun e => ?_
  have:=Lc (m:=m.1) (x:=(i : Int)) hk Qa;unfold Wj at hF;omega
 ·obtain ⟨h1,h2⟩:=hM.a p hp;exact ⟨⟨by have:=h1.1;omega,h1.2⟩,h2⟩
theorem St {adj : Nat → List Nat} {ni no : Nat} (hadj : ∀ o,∀ k ∈ adj o,k < ni) : ∀ (n i : Nat) (m : Mt) (fx : Bl),i + n = no → Uq adj ni no i fx m →
  Ya adj ni no n i m fx = Y9 adj ni no n i (Zx ni fx m.1) fx ∧ Ua adj (Xn i no) fx (Ya adj ni no n i m fx) ∧ (Ya adj ni no n i m fx).length = Zx ni fx m.1 ∧ (Ya adj ni no n i m fx).Pairwise fun p q => p.1 < q.1
 | 0,i,m,fx,hn,J => by
  refine ⟨rfl,⟨fun p hp => absurd hp (by simp [Ya]),List.Pairwise.nil,List.Pairwise.nil⟩,?_,List.Pairwise.nil⟩;obtain ⟨M,h1,h2⟩:=Ca J.t.1
  cases M with
  | nil => exact h2
  | cons p r =>
   have:=(h1.a p List.mem_cons_self).1;have h3:=this.1;have h4:=this.2
   omega
 | n + 1,i,m,fx,hn,J => by
  have hi : i < no:=by omega
  obtain ⟨g1,g2⟩:=Ee hadj J hi (adj i) fun _ h => h
  unfold Ya Y9
  cases h : Xo adj ni no i (adj i) m fx with
  | none =>
   obtain ⟨q1,q2⟩:=g2 h;rw [q1];obtain ⟨c1,c2,c3,c4⟩:=St hadj n (i + 1) m fx Qa (Qgh J hi q2)
   exact ⟨c1,⟨fun p hp => by obtain ⟨a1,a2⟩:=c2.a p hp;exact ⟨⟨by have:=a1.1;omega,a1.2⟩,a2⟩,c2.o,c2.i⟩,c3,c4⟩
  | some x =>
   obtain ⟨k,m',fx'⟩:=x;obtain ⟨q1,q2,rfl,q4,q5,q6⟩:=g1 k m' fx' h;rw [q6];obtain ⟨c1,c2,c3,c4⟩:=St hadj n (i + 1) m' (Qh fx k true) Qa q4;refine ⟨?_,Et c2 hi q1 q2,?_,List.pairwise_cons.2 ⟨fun q hq => ?_,c4⟩⟩
   ·show (i,k) :: _ = (i,k) :: _
    rw [c1,show ((Zx ni fx m.1 : Nat) : Int) - 1 = ((Zx ni (Qh fx k true) m'.1 : Nat) : Int) by omega]
   ·show (Ya adj ni no n (i + 1) m' (Qh fx k true)).length + 1 = _
    omega
   ·have:=(c2.a q hq).1.1
    show i < q.1;omega
def Kh (adj : Nat → List Nat) (ni no : Nat) : List (Nat × Nat):=Ya adj ni no no 0 (Zt adj ni (fun _ => false) no 0 Jg).1 (fun _ => false)
def Eg (adj : Nat → List Nat) (ni no : Nat) : List (Nat × Nat):=Y9 adj ni no no 0 (Zt adj ni (fun _ => false) no 0 Jg).2 (fun _ => false)
theorem Qgt {adj : Nat → List Nat} {ni no : Nat} (hadj : ∀ o,∀ k ∈ adj o,k < ni) : Kh adj ni no = Eg adj ni no ∧ Ua adj (Xn 0 no) (fun _ => false) (Kh adj ni no) ∧ Nu adj (Xn 0 no) (fun _ => false) (Kh adj ni no).length ∧ (Kh adj ni no).Pairwise fun p q => p.1 < q.1:=by
 obtain ⟨T,I,N⟩:=I0 hadj (fun _ => false) 0 no;simp only [Nat.zero_add] at T N;have J : Uq adj ni no 0 (fun _ => false) (Zt adj ni (fun _ => false) no 0 Jg).1:=⟨T,I⟩;obtain ⟨c1,c2,c3,c4⟩:=St hadj no 0 _ _ Qa J;have e:=Ri N J.t.nu;refine ⟨?_,c2,?_,c4⟩
 ·unfold Kh Eg;rw [c1,e]
 ·unfold Kh;rw [c3];exact J.t.nu
structure LtOk (x : Lt) : Prop where
 g : Zu x.g = true
 n0 : x.n ≠ 0
 hi : x.n ≤ 1099511627776
 lo : -1099511627776 ≤ x.n
structure LsOk (l : List Lt) : Prop where
 a : ∀ x ∈ l,LtOk x
 s : l.Pairwise fun x y => Z5 x.g y.g = true
theorem LsOk.up {x : Lt} {l : List Lt} (h : LsOk (x :: l)) : ∀ y ∈ l,Z5 x.g y.g = true:=(List.pairwise_cons.1 h.s).1
theorem Qk6 {s : ByteArray} (h : Zu s = true) : s.size ≠ 0:=by
 unfold Zu at h;simp only [Bool.and_eq_true,decide_eq_true_eq] at h;omega
theorem Qb0 {x y : Lt} (h : LtOk x) : Yd x y = x.g:=by unfold Yd;rw [if_neg (Qk6 h.g)]
theorem Qk4 {y : Lt} : Yd Y2 y = y.g:=rfl
def Ke (a b : List Lt) (p : Lt × Lt) : Prop:=(p.1 ∈ a ∧ p.2 = Y2) ∨ (p.1 = Y2 ∧ p.2 ∈ b) ∨ (p.1 ∈ a ∧ p.2 ∈ b)
theorem Ke.l {a b : List Lt} {x : Lt} {p : Lt × Lt} (h : Ke a b p) : Ke (x :: a) b p:=by
 rcases h with ⟨h1,h2⟩ | ⟨h1,h2⟩ | ⟨h1,h2⟩
 ·exact .inl ⟨List.mem_cons_of_mem _ h1,h2⟩
 ·exact .inr (.inl ⟨h1,h2⟩)
 ·exact .inr (.inr ⟨List.mem_cons_of_mem _ h1,h2⟩)
theorem Ke.r {a b : List Lt} {y : Lt} {p : Lt × Lt} (h : Ke a b p) : Ke a (y :: b) p:=by
 rcases h with ⟨h1,h2⟩ | ⟨h1,h2⟩ | ⟨h1,h2⟩
 ·exact .inl ⟨h1,h2⟩
 ·exact .inr (.inl ⟨h1,List.mem_cons_of_mem _ h2⟩)
 ·exact .inr (.inr ⟨h1,List.mem_cons_of_mem _ h2⟩)
theorem Ke.up {a b : List Lt} {p : Lt × Lt} {u : ByteArray} (h : Ke a b p) (ha : LsOk a) (h1 : ∀ x ∈ a,Z5 u x.g = true) (h2 : ∀ y ∈ b,Z5 u y.g = true) : Z5 u (Yd p.1 p.2) = true:=by
 rcases h with ⟨h3,h4⟩ | ⟨h3,h4⟩ | ⟨h3,h4⟩
 ·rw [Qb0 (ha.a _ h3)];exact h1 _ h3
 ·rw [h3,Qk4];exact h2 _ h4
 ·rw [Qb0 (ha.a _ h3)];exact h1 _ h3
structure Wy (c : Qd) (p : Pd) : Prop where
 n : Zu p.h = true
 a0 : 0 < c.numV p.a
 ab : c.numV p.a ≤ c.numV p.b
 o : Yx p.o = 0
 k : Yx p.c = 0
 m : p.d.length ≤ 64
 l : ∀ x ∈ p.d,Zu x.w = true ∧ x.w ≠ p.h ∧ Wd x.l = true ∧ c.numV p.a ≤ c.numV x.on ∧ c.numV x.on ≤ c.numV p.b
 s : p.d.Pairwise fun x y => c.numV x.on ≤ c.numV y.on
theorem Qmc {c : Qd} {p : Pd} (h : c.perOk p = true) : Wy c p:=by
 have k:=pdOk h;unfold Qd.perOk at h;rw [Bool.and_eq_true] at h;obtain ⟨h1,h2⟩:=h;unfold Qd.perHead Qd.spanV at h1;simp only [Bool.and_eq_true,decide_eq_true_eq] at h1;have h3 : ∀ i,i < p.d.length → c.dealOk p i = true:=fun i hi => List.all_eq_true.1 h2 i (by simpa using hi)
 refine ⟨h1.1.1.1.1,h1.1.1.1.2.1,h1.1.1.1.2.2,h1.1.1.2,h1.1.2,h1.2,fun x hx => ?_,k.sorted⟩;obtain ⟨i,hi,rfl⟩:=List.mem_iff_getElem.1 hx;have h4:=h3 i hi;unfold Qd.dealOk at h4;simp only [Bool.not_eq_true',Bool.or_eq_false_iff,decide_eq_false_iff_not,Bool.not_eq_false'] at h4;rw [Pd.dl_get hi] at h4;have h5:=k.lo 0 Qa;have h6:=k.mono (i:=0) (j:=i) Qa hi;have h7 : p.d.getD i Zd = p.d[i]:=by simp [List.getD_eq_getElem?_getD,hi]
 rw [h7] at h6;have h8 : c.numV p.a ≤ c.numV (p.d.getD 0 Zd).on:=h5;exact ⟨h4.1.1.2,h4.1.2,h4.2,Qa,Qa⟩
structure DivOk (c : Qd) (p x y : Pd) : Prop where
 b : c.behV x y = true
 xy : x.c = y.o
 j : Qaz x y = p
 s : Zw x.o x.d = (x.c,0)
 t : Zw y.o y.d = Zw p.o p.d
 m : x.d.length + y.d.length = p.d.length
 px : Wy c x
 py : Wy c y
structure JnOk (c : Qd) (w q : Pd) : Prop where
 h : w.h = q.h
 b : w.b = q.b
 k : w.c = q.c
 ok : Wy c w
def Qd.links (c : Qd) : List Pd → Prop
 | x :: y :: r => (c.behV x y = true ∧ x.c = y.o) ∧ c.links (y :: r)
 | _ => True
def joinsV (l : List Pd) : Pd:=match l with | [] => noPd | x :: r => r.foldl Qaz x
structure CarOk (c : Qd) (k : List Pd) : Prop where
 a : ∀ x ∈ k,Wy c x ∧ Zw x.o x.d = (x.c,0)
 l : c.links k
theorem Qfj {c : Qd} {l : List Pd} (h : c.archE l = 0) : c.valid = true ∧ ∀ p ∈ l,Wy c p:=by
 unfold Qd.archE at h
 split at h
 ·rename_i h1;exact absurd h h1
 rename_i h1
 have hv : c.valid = true:=by
  have h2 : c.chk = 0:=Decidable.not_not.1 h1;unfold Qd.chk at h2
  split at h2
  ·assumption
  ·exact absurd h2 zD
 refine ⟨hv,fun p hp => ?_⟩
 split at h
 ·exact absurd h zD
 unfold Qd.persE at h
 split at h
 ·rename_i h3;exact Qmc (List.all_eq_true.1 h3 p hp)
 ·exact absurd h zD
structure CjOk (c : Qd) (k : List Pd) (i : Nat) (w : Pd) : Prop where
 hi : i < k.length
 j : JnOk c w (k.getD i Qp)
 s : Zw w.o w.d = (w.c,0)
 o : w.o = (k.getD 0 Qp).o
structure TopS (c : Qd) (p : Pd) (W : List Lt) (P : List Pd) (r : Pd) : Prop where
 a : ∀ x ∈ P,Wy c x ∧ Zw x.o x.d = (x.c,0)
 s : Zw r.o r.d = (W,0)
 l : c.links (P ++ [r])
 j : joinsV (P ++ [r]) = p
 ok : Wy c r
abbrev Rf:=Nat × Nat
def Qn : Rf:=(0,0)
def Yt (p : Pd) (b : Bool) (i : Nat) : Nat → List Rf
 | 0 => []
 | k + 1 => Yt p b i k ++ (if (p.d.getD k Zd).i = b then [(i,k)] else [])
def Ys (l : List Pd) (b : Bool) : Nat → List Rf
 | 0 => []
 | i + 1 => Ys l b i ++ Yt (l.getD i Qp) b i (l.getD i Qp).d.length
def Zb (l : List Pd) (b : Bool) : List Rf:=Ys l b l.length
def Q3 (l : List Pd) (r : Rf) : Dl:=(l.getD r.1 Qp).d.getD r.2 Zd
theorem Qdg {p : Pd} {b : Bool} {i : Nat} {x : Rf} : ∀ {n : Nat},x ∈ Yt p b i n ↔ x.1 = i ∧ x.2 < n ∧ (p.d.getD x.2 Zd).i = b
 | 0 => by simp [Yt]
 | n + 1 => by
  unfold Yt;rw [List.mem_append,Qdg]
  constructor
  ·rintro (⟨h1,h2,h3⟩ | h)
   ·exact ⟨h1,Qa,h3⟩
   ·split at h
    ·rename_i e
     rw [List.mem_singleton] at h;subst h;exact ⟨rfl,by simp,e⟩
    ·exact absurd h (by simp)
  ·rintro ⟨h1,h2,h3⟩;by_cases e : x.2 = n
   ·right
    rw [← e,if_pos h3,List.mem_singleton];exact Prod.ext h1 rfl
   ·exact .inl ⟨h1,Qa,h3⟩
theorem Qdf {l : List Pd} {b : Bool} {x : Rf} : ∀ {n : Nat},x ∈ Ys l b n ↔ x.1 < n ∧ x.2 < (l.getD x.1 Qp).d.length ∧ (Q3 l x).i = b
 | 0 => by simp [Ys]
 | n + 1 => by
  unfold Ys;rw [List.mem_append,Qdf,Qdg]
  constructor
  ·rintro (⟨h1,h2⟩ | ⟨h1,h2,h3⟩)
   ·exact ⟨Qa,h2⟩
   ·subst h1;exact ⟨Qa,h2,h3⟩
  ·rintro ⟨h1,h2,h3⟩;by_cases e : x.1 = n
   ·right;subst e;exact ⟨rfl,h2,h3⟩
   ·exact .inl ⟨Qa,h2,h3⟩
theorem Vl {l : List Pd} {b : Bool} {x : Rf} : x ∈ Zb l b ↔ x.1 < l.length ∧ x.2 < (l.getD x.1 Qp).d.length ∧ (Q3 l x).i = b:=Qdf
def Qd.mayB (c : Qd) (l : List Pd) (days : Int) (x y : Rf) : Bool :=
 decide ((Q3 l x).w = (l.getD y.1 Qp).h) && decide ((Q3 l y).w = (l.getD x.1 Qp).h) && decide ((Q3 l x).l = (Q3 l y).l) && decide (0 ≤ c.numV (Q3 l y).on - c.numV (Q3 l x).on) && decide (c.numV (Q3 l y).on - c.numV (Q3 l x).on ≤ days)
def Qd.adjA (c : Qd) (l : List Pd) (days : Int) (o : Nat) : List Nat:=(List.range (Zb l true).length).filter fun k => c.mayB l days ((Zb l false).getD o Qn) ((Zb l true).getD k Qn)
def Qd.matchI (c : Qd) (l : List Pd) (days : Int) : List (Nat × Nat):=Kh (c.adjA l days) (Zb l true).length (Zb l false).length
def Qd.matchL (c : Qd) (l : List Pd) (days : Int) : List (Rf × Rf):=(c.matchI l days).map fun p => ((Zb l false).getD p.1 Qn,(Zb l true).getD p.2 Qn)
def Qd.audE (c : Qd) (l : List Pd) (days : Int) : Int:=if c.archE l ≠ 0 then c.archE l else if days < 0 ∨ 400 < days then 8 else 0
theorem Cm (c : Qd) (l : List Pd) (days : Int) : ∀ o,∀ k ∈ c.adjA l days o,k < (Zb l true).length:=fun _ _ hk => List.mem_range.1 (List.mem_filter.1 hk).1
theorem Gq {α : Type} {z : α} {l : List α} {x : α} (h : x ∈ l) : ∃ i,i < l.length ∧ l.getD i z = x:=by
 obtain ⟨i,hi,rfl⟩:=List.mem_iff_getElem.1 h;exact ⟨i,hi,by simp [List.getD_eq_getElem?_getD,hi]⟩
theorem J6 {α : Type} {z : α} {l : List α} {i : Nat} (h : i < l.length) : l.getD i z ∈ l:=by
 simp [List.getD_eq_getElem?_getD,h]
theorem pok_at {c : Qd} {l : List Pd} (h : ∀ p ∈ l,Wy c p) {x : Rf} {b : Bool} (hx : x ∈ Zb l b) : Wy c (l.getD x.1 Qp) ∧ Q3 l x ∈ (l.getD x.1 Qp).d:=by
 obtain ⟨h1,h2,_⟩:=Vl.1 hx;exact ⟨h _ (J6 h1),J6 h2⟩
theorem Gr {c : Qd} {l : List Pd} {days : Int} (h : c.audE l days = 0) : (c.valid = true ∧ ∀ p ∈ l,Wy c p) ∧ 0 ≤ days ∧ days ≤ 400:=by
 unfold Qd.audE at h
 split at h
 ·rename_i h1;exact absurd h h1
 rename_i h1
 split at h
 ·exact absurd h zD
 ·exact ⟨Qfj (Decidable.not_not.1 h1),Qa,Qa⟩
end
section
open Go Go.RowKit Go.Shelf
attribute [local go_sem] Z8
structure K3 (W : World) (ba : Nat) (A A' : OA) (ca cb : Nat) (c : Qd) (vl : Value) (l : List Pd) : Prop where
 b : Qb W ba 132 #[.slice A c.nk ca,.slice A' c.ny cb,vl,.slice none 0 0]
 C : Za W A ca A' cb c
 P : J9 W vl l
theorem K3.ext {W W' : World} {ba : Nat} {A A' : OA} {ca cb : Nat} {c : Qd} {vl : Value} {l : List Pd} (h : K3 W ba A A' ca cb c vl l) (x : Qc W W') : K3 W' ba A A' ca cb c vl l:=⟨h.b.ext x,h.C.ext x,h.P.ext x⟩
theorem Oj {W : World} {b : Nat} {t : TypeId} {v0 v1 v2 v3 v4 v5 v6 : Value} (h : Qb W b t #[v0,v1,v2,v3,v4,v5,v6]) (u0 u1 u2 u3 u4 u5 u6 : Value) : Qb (((((((W.setCell ⟨b,0,none⟩ u0).setCell ⟨b,1,none⟩ u1).setCell ⟨b,2,none⟩ u2).setCell ⟨b,3,none⟩ u3).setCell ⟨b,4,none⟩ u4).setCell ⟨b,5,none⟩ u5).setCell ⟨b,6,none⟩ u6) b t #[u0,u1,u2,u3,u4,u5,u6]:=by unfold Qb at h ⊢;simp [World.setCell,Array.getElem?_modify,h]
theorem Og {w W : World} {b : Nat} (h : Qc w W) (hb : w.heap.size ≤ b) (u0 u1 u2 u3 u4 u5 u6 : Value) : Qc w (((((((W.setCell ⟨b,0,none⟩ u0).setCell ⟨b,1,none⟩ u1).setCell ⟨b,2,none⟩ u2).setCell ⟨b,3,none⟩ u3).setCell ⟨b,4,none⟩ u4).setCell ⟨b,5,none⟩ u5).setCell ⟨b,6,none⟩ u6) :=
 (((((((h.setCell (p:=⟨b,0,none⟩) hb u0).setCell (p:=⟨b,1,none⟩) hb u1).setCell (p:=⟨b,2,none⟩) hb u2).setCell (p:=⟨b,3,none⟩) hb u3).setCell (p:=⟨b,4,none⟩) hb u4).setCell (p:=⟨b,5,none⟩) hb u5).setCell (p:=⟨b,6,none⟩) hb u6)
def cutE (A : OA → Nat → OA → Nat → Nat → Nat → Act) (S : World → OA → Nat → OA → Nat → Nat → Nat → Prop) : Exit → Act → World → Prop:=fun e a' w' => e = .normal ∧ ∃ F1 m1 F2 m2 p1 p2,S w' F1 m1 F2 m2 p1 p2 ∧ a' = A F1 m1 F2 m2 p1 p2
theorem Qha {A : OA → Nat → OA → Nat → Nat → Nat → Act} {S : World → OA → Nat → OA → Nat → Nat → Nat → Prop} {w' : World} (F1 : OA) (m1 : Nat) (F2 : OA) (m2 p1 p2 : Nat) {a' : Act} (h : S w' F1 m1 F2 m2 p1 p2) (ha : a' = A F1 m1 F2 m2 p1 p2) : cutE A S .normal a' w':=⟨rfl,F1,m1,F2,m2,p1,p2,h,ha⟩
theorem Qo1 {P : Program} {c : Code} {Q : Exit → Act → World → Prop} {a : Act} {w : World} {A : OA → Nat → OA → Nat → Nat → Nat → Act} (S : World → OA → Nat → OA → Nat → Nat → Nat → Prop) (h1 : c.wp P (cutE A S) a w) (h2 : ∀ F1 m1 F2 m2 p1 p2 w',S w' F1 m1 F2 m2 p1 p2 → Q .normal (A F1 m1 F2 m2 p1 p2) w') : c.wp P Q a w :=
 Code.wp_mono (fun e a' w' ⟨he,F1,m1,F2,m2,p1,p2,hs,ha⟩ => by subst he;subst ha;exact h2 F1 m1 F2 m2 p1 p2 w' hs) h1
theorem Qfq (A A' : OA) (ca cb : Nat) (c : Qd) (l : List Pd) (vl : Value) (days : Int) (w : World) (hC : Za w A ca A' cb c) (hP : J9 w vl l) :
  Calls Tryz.prog 34 #[.agg #[.slice A c.nk ca,.slice A' c.ny cb],vl,.int .i64 days] w fun e w' => ∃ pv,e = .returned (.tuple #[pv,.int .i64 (c.audE l days)]) ∧ Qc w w' ∧ (c.audE l days = 0 → ∃ ba,pv = .pointer (some ⟨ba,0,none⟩) ∧ w.heap.size ≤ ba ∧ Qb w' ba 132 #[.slice A c.nk ca,.slice A' c.ny cb,vl,.slice none 0 0]):=by
 have NV:=fun w h1 h2 => Qfl A A' ca cb c vl l w h1 h2
 obtain ⟨pe,hpe⟩:=Qe (c.archE l);simp only [← hpe] at NV;replace hpe:=zh hpe;obtain ⟨RE,hRE⟩:=Qe (c.audE l days);rw [← hRE];replace hRE:=zh hRE
 go_enter Tryz.func34,Tryz.ntmps34
 go_upto_region 1 with fail
 obtain ⟨v,b1,E,B1,hbr,hv,hb1⟩:=J4 w 25 #[.slice A c.nk ca,.slice A' c.ny cb];rw [← hv,← hb1];clear hv hb1;have C:=hC.ext E;clear hC;obtain ⟨k0,k1,kl⟩:=Qb.d2 B1;go_upto_region 2 with (go_at_call 58;refine zc (NV _ C (hP.ext E)) ?_;rintro e w1 ⟨rfl,hx⟩;replace E:=E.trans hx;replace C:=C.ext hx;replace B1:=B1.ext hx;clear hx;clear k0 k1 kl;obtain ⟨k0,k1⟩:=B1.c2;have kl:=B1.lt)
 obtain ⟨vb1,hv⟩:=Qe (w1.alloc (.cells #[.slice A c.nk ca,.slice A' c.ny cb] 130));rw [← hv];have hx : Qc w1 vb1:=by rw [hv];exact (Qc.refl _).alloc _
 have B6 : Qb vb1 w1.heap.size 130 #[.slice A c.nk ca,.slice A' c.ny cb]:=by rw [hv];exact Qb.new _ _ _
 clear hv;generalize w1.heap.size = bb1 at *;clear k0 k1 kl;replace E:=E.trans hx;replace C:=C.ext hx;replace B1:=B1.ext hx;clear hx;obtain ⟨k0,k1,kl⟩:=Qb.d2 B1;obtain ⟨q0,q1,ql⟩:=Qb.d2 B6;clear NV;by_cases e0 : pe = 0;rotate_left
 ·have g0 : (pe == 0) = false := zb e0;have g0n : (pe != 0) = true := by rw [bne, g0]; rfl
  obtain rfl : RE = pe:=by rw [hRE.out];unfold Qd.audE;rw [← hpe.out];exact if_pos e0
  clear hRE hpe;go_wp2;go_ret2;exact ⟨_,rfl,E,fun h => absurd h e0⟩
 subst e0;by_cases hd : days < 0 ∨ 400 < days
 ·obtain rfl : RE = 8 := by rw [hRE.out]; unfold Qd.audE; rw [← hpe.out, if_neg (by simp), if_pos hd]
  clear hRE hpe;by_cases h1 : days < 0
  ·have g1 : decide (days < 0) = true:=zt h1;clear hd;go_wp2;go_ret2;exact ⟨_,rfl,E,fun h => absurd h zD⟩
  ·have g1 : decide (days < 0) = false:=zf h1;have g2 : decide (400 < days) = true:=zt Qa;clear hd h1;go_wp2;go_ret2;exact ⟨_,rfl,E,fun h => absurd h zD⟩
 obtain rfl : RE = 0:=by rw [hRE.out];unfold Qd.audE;rw [← hpe.out,if_neg (by simp),if_neg hd]
 have g1 : decide (days < 0) = false:=zf Qa;have g2 : decide (400 < days) = false:=zf Qa;clear hd hRE hpe;obtain ⟨DL,cL,_,_,_,e1,_⟩:=id hP;subst e1;go_wp2;go_ret2;exact ⟨_,rfl,E.alloc _,_,rfl,E.size,Qb.new _ _ _⟩
theorem Ig (A A' : OA) (ca cb : Nat) (c : Qd) (l : List Pd) (vl : Value) (ba : Nat) (x : Rf) (W0 w : World) (x0 : Qc W0 w) (hA : K3 W0 ba A A' ca cb c vl l) (hi : x.1 < l.length) (hk : x.2 < (l.getD x.1 Qp).d.length) :
  Calls Tryz.prog 125 #[.pointer (some ⟨ba,0,none⟩),.agg #[.int .i64 (x.1 : Nat),.int .i64 (x.2 : Nat)]] w fun e w' => ∃ F m,e = .returned (.agg #[.int .i64 (Q3 l x).on.y,.int .i64 (Q3 l x).on.m,.bool (Q3 l x).on.s,.int .i64 (Q3 l x).on.d,.bool (Q3 l x).i,.string (Q3 l x).w,.slice F (Q3 l x).l.length m]) ∧ Qc w w' ∧ Zl W0 (.slice F (Q3 l x).l.length m) (Q3 l x).l:=by
 obtain ⟨D,cap,vo,vd,vc,e0,hD,hcap,hmax,_,hat⟩:=id hA.P;subst e0;obtain ⟨T,ct,vs,e1,hT,hct,hmt,_,hatT⟩:=id (hat x.1 hi).d
 have hll : ∃ F m,vs x.2 = .slice F (Q3 l x).l.length m:=by
  obtain ⟨F,m,e,_⟩:=id (hatT x.2 hk);exact ⟨F,m,e⟩
 have hL : Zl W0 (vs x.2) (Q3 l x).l:=hatT x.2 hk;obtain ⟨F,m,hvs⟩:=hll;rw [hvs] at hL;obtain ⟨b,off,hDe,hb,hc⟩:=hD Qa;subst hDe;obtain ⟨b',off',hTe,hb',hc'⟩:=hT Qa;subst hTe
 have c10 : W0.cell? ⟨b,off + x.1 * 12 + 10,none⟩ = some (.slice (some ⟨b',off',none⟩) (l.getD x.1 Qp).d.length ct):=by
  have:=hc x.1 10 (vd x.1) hi rfl;rw [e1] at this;exact this
 have d0 : W0.cell? ⟨b',off' + x.2 * 7,none⟩ = some (.int .i64 (Q3 l x).on.y):=by simpa [Zm,Q3] using hc' x.2 0 _ hk rfl
 have d1 : W0.cell? ⟨b',off' + x.2 * 7 + 1,none⟩ = some (.int .i64 (Q3 l x).on.m):=by simpa [Zm,Q3] using hc' x.2 1 _ hk rfl
 have d2 : W0.cell? ⟨b',off' + x.2 * 7 + 2,none⟩ = some (.bool (Q3 l x).on.s):=by simpa [Zm,Q3] using hc' x.2 2 _ hk rfl
 have d3 : W0.cell? ⟨b',off' + x.2 * 7 + 3,none⟩ = some (.int .i64 (Q3 l x).on.d):=by simpa [Zm,Q3] using hc' x.2 3 _ hk rfl
 have d4 : W0.cell? ⟨b',off' + x.2 * 7 + 4,none⟩ = some (.bool (Q3 l x).i):=by simpa [Zm,Q3] using hc' x.2 4 _ hk rfl
 have d5 : W0.cell? ⟨b',off' + x.2 * 7 + 5,none⟩ = some (.string (Q3 l x).w):=by simpa [Zm,Q3] using hc' x.2 5 _ hk rfl
 have d6 : W0.cell? ⟨b',off' + x.2 * 7 + 6,none⟩ = some (.slice F (Q3 l x).l.length m):=by
  have:=hc' x.2 6 (vs x.2) hk rfl;rw [hvs] at this;exact this
 clear hc hc' hD hT hat hatT hvs e1 hcap hct;have hA1:=hA.b;clear hA;generalize Q3 l x = G at *;generalize (l.getD x.1 Qp).d.length = nd at *;generalize l.length = nl at *;obtain ⟨x1,x2⟩:=x
 simp only at *
 go_enter Tryz.func125,Tryz.ntmps125
 go_upto_region 1 with fail
 obtain ⟨v,b1,b2,E,B1,B4,hbr1,hbr,hn21,hv,hb1,hb2⟩:=Jy w 33 #[.int .i64 (x1 : Nat),.int .i64 (x2 : Nat)] 57 #[.int .i64 0,.int .i64 0,.bool false,.int .i64 0,.bool false,.string ⟨#[]⟩,.slice none 0 0];rw [← hv,← hb2,← hb1];clear hv hb1 hb2;have E0:=x0.trans E;go_upto_region 1 with fail
 refine Zc 14 [13] (fun x => Qc v x) mixed rfl ?_;intro vz hvz;have HC:=hvz;refine Qs (g:=1) [0,1,2,3,4,5,6,7,8,9,10,11,12] HC ?_
 constructor
 refine ⟨fun u hu => ?_,?_⟩
 ·obtain ⟨k0,k1,kl⟩:=Qb.d2 (Qb.ext B1 hu);obtain ⟨a0,a1,a2,a3,al⟩:=Qb.d4 (Qb.ext hA1 (E0.trans hu));have r10:=((E0.trans hu).cell (p:=⟨b,off + x1 * 12 + 10,none⟩) hb).trans c10;have hbu:=Nat.lt_of_lt_of_le hb (E0.trans hu).size;have hbu':=Nat.lt_of_lt_of_le hb' (E0.trans hu).size;have q0:=((E0.trans hu).cell (p:=⟨b',off' + x2 * 7,none⟩) hb').trans d0;have q1:=((E0.trans hu).cell (p:=⟨b',off' + x2 * 7 + 1,none⟩) hb').trans d1;have q2:=((E0.trans hu).cell (p:=⟨b',off' + x2 * 7 + 2,none⟩) hb').trans d2;have q3:=((E0.trans hu).cell (p:=⟨b',off' + x2 * 7 + 3,none⟩) hb').trans d3;have q4:=((E0.trans hu).cell (p:=⟨b',off' + x2 * 7 + 4,none⟩) hb').trans d4
  have q5:=((E0.trans hu).cell (p:=⟨b',off' + x2 * 7 + 5,none⟩) hb').trans d5;have q6:=((E0.trans hu).cell (p:=⟨b',off' + x2 * 7 + 6,none⟩) hb').trans d6;exact Qk
 refine Qr 13 ?_;have Hs:=Qb.ext B4 HC;obtain ⟨z0,z1,z2,z3,z4,z5,z6,y0,y1,y2,y3,y4,y5,y6,yl⟩:=Qb.e7 Hs;go_wp2;have HX:=Oj Hs (.int .i64 G.on.y) (.int .i64 G.on.m) (.bool G.on.s) (.int .i64 G.on.d) (.bool G.i) (.string G.w) (.slice F G.l.length m);have EX:=Og (E.trans HC) hbr (.int .i64 G.on.y) (.int .i64 G.on.m) (.bool G.on.s) (.int .i64 G.on.d) (.bool G.i) (.string G.w) (.slice F G.l.length m);clear Hs z0 z1 z2 z3 z4 z5 z6 y0 y1 y2 y3 y4 y5 y6 yl;generalize World.setCell _ _ _ = wq at *;refine Qq ?_;refine Qx ?_;obtain ⟨y0,y1,y2,y3,y4,y5,y6,yl⟩:=Qb.d7 HX;go_wp2;refine bodyPost_ret (v:=.agg #[.int .i64 G.on.y,.int .i64 G.on.m,.bool G.on.s,.int .i64 G.on.d,.bool G.i,.string G.w,.slice F G.l.length m]) (by simp [results,Tryz.results125,go_sem,y0,y1,y2,y3,y4,y5,y6]) rfl ⟨F,m,rfl,EX,hL⟩
set_option maxHeartbeats 20000000 in
theorem Qkj (A A' : OA) (ca cb : Nat) (c : Qd) (l : List Pd) (vl : Value) (ba : Nat) (days : Int) (x y : Rf) (W0 w : World) (x0 : Qc W0 w) (hA : K3 W0 ba A A' ca cb c vl l) (hv : c.valid = true) (hx1 : x.1 < l.length) (hx2 : x.2 < (l.getD x.1 Qp).d.length) (hy1 : y.1 < l.length) (hy2 : y.2 < (l.getD y.1 Qp).d.length) :
  Calls Tryz.prog 79 #[.pointer (some ⟨ba,0,none⟩),.agg #[.int .i64 (x.1 : Nat),.int .i64 (x.2 : Nat)],.agg #[.int .i64 (y.1 : Nat),.int .i64 (y.2 : Nat)],.int .i64 days] w fun e w' => e = .returned (.bool (c.mayB l days x y)) ∧ Qc w w':=by
 have N1:=fun w h => Ig A A' ca cb c l vl ba x W0 w h hA hx1 hx2
 have N2:=fun w h => Ig A A' ca cb c l vl ba y W0 w h hA hy1 hy2
 have ND:=fun d w h => Xr A A' ca cb c d w h
 have bX:=Rk hv (Q3 l x).on;have bY:=Rk hv (Q3 l y).on;obtain ⟨D,cap,vo,vd,vc,e0,hD,hcap,hmax,_,hat⟩:=id hA.P;subst e0;obtain ⟨b,off,hDe,hb,hc⟩:=hD Qa;subst hDe;have c1 : W0.cell? ⟨b,off + x.1 * 12,none⟩ = some (.string (l.getD x.1 Qp).h):=by simpa [Qi] using hc x.1 0 _ hx1 rfl
 have c2 : W0.cell? ⟨b,off + y.1 * 12,none⟩ = some (.string (l.getD y.1 Qp).h):=by simpa [Qi] using hc y.1 0 _ hy1 rfl
 clear hc hD hat hcap;obtain ⟨RB,hRB⟩:=Qe (c.mayB l days x y);rw [← hRB];unfold Qd.mayB at hRB;generalize hX : Q3 l x = GX at *;generalize hY : Q3 l y = GY at *;clear hX hY;generalize (l.getD x.1 Qp).h = px at *;generalize (l.getD y.1 Qp).h = py at *;generalize l.length = nl at *;obtain ⟨x1,x2⟩:=x;obtain ⟨y1,y2⟩:=y
 simp only at *
 replace hRB:=zh hRB;have hA1:=hA.b
 go_enter Tryz.func79,Tryz.ntmps79
 go_upto_region 1 with fail
 obtain ⟨v,b1,b2,E,B1,B2,hbr1,hbr,hn21,hv,hb1,hb2⟩:=Jy w 33 #[.int .i64 (x1 : Nat),.int .i64 (x2 : Nat)] 33 #[.int .i64 (y1 : Nat),.int .i64 (y2 : Nat)];rw [← hv,← hb2,← hb1];clear hv hb1 hb2;have E0:=x0.trans E;have HA1:=hA1.ext E0;go_upto_region 1 with fail
 apply Qo1 (S:=fun w' F1 m1 F2 m2 p1 p2 => Qc v w' ∧ Qb w' p1 57 #[.int .i64 GX.on.y,.int .i64 GX.on.m,.bool GX.on.s,.int .i64 GX.on.d,.bool GX.i,.string GX.w,.slice F1 GX.l.length m1] ∧ Qb w' p2 57 #[.int .i64 GY.on.y,.int .i64 GY.on.m,.bool GY.on.s,.int .i64 GY.on.d,.bool GY.i,.string GY.w,.slice F2 GY.l.length m2] ∧ Zl W0 (.slice F1 GX.l.length m1) GX.l ∧ Zl W0 (.slice F2 GY.l.length m2) GY.l)
 ·refine Zc 10 [8,9] (fun x => Qc v x) mixed rfl ?_;intro vz hvz;have HC:=hvz;have mz0:=trivial
  all_goals try
   (clear mz0
    refine Qs (g:=6) [0,1,3,4] HC ?_
    constructor
    refine ⟨fun u hu => ?_,?_⟩
    ·obtain ⟨k0,k1,kl⟩:=Qb.d2 (Qb.ext B1 hu);obtain ⟨l0,l1,ll⟩:=Qb.d2 (Qb.ext B2 hu);exact Qk
    have mz1:=trivial)
  all_goals try
   (clear mz1
    refine Um 2 6 7 ?_ ?_ ?_
    focus
     go_wp2_with (go_at_call 125;refine zc (N1 _ (E0.trans HC)) ?_;rintro e wc ⟨F1,m1,rfl,hj,L1⟩);replace HC:=HC.trans hj;try replace H10:=H10.ext hj
     try replace H11:=H11.ext hj
     clear hj;have mz2:=trivial;refine Qf HC ?_
    rotate_left
    focus
     go_wp2;obtain ⟨p1,wb,hbq,hwb,H10,HC',hx,gp1⟩:=Ql HC 57 #[.int .i64 0,.int .i64 0,.bool false,.int .i64 0,.bool false,.string ⟨#[]⟩,.slice none 0 0];rw [← hbq,← hwb];try have ne : p2 < p1:=by have:=H11.lt;omega
     replace HC:=HC';try replace H11:=H11.ext hx
     clear hbq hwb hx HC';have mz3:=trivial;refine Qf HC ?_
    rotate_left
    focus
     go_wp2;obtain ⟨p2,wb,hbq,hwb,H11,HC',hx,gp2⟩:=Ql HC 57 #[.int .i64 0,.int .i64 0,.bool false,.int .i64 0,.bool false,.string ⟨#[]⟩,.slice none 0 0];rw [← hbq,← hwb];try have ne : p1 < p2:=by have:=H10.lt;omega
     replace HC:=HC';try replace H10:=H10.ext hx
     clear hbq hwb hx HC';have mz4:=trivial;refine Qf HC ?_
    rotate_left)
  all_goals try
   (clear mz2
    refine Um 5 6 7 ?_ ?_ ?_
    focus
     go_wp2_with (go_at_call 125;refine zc (N2 _ (E0.trans HC)) ?_;rintro e wc ⟨F2,m2,rfl,hj,L2⟩);replace HC:=HC.trans hj;try replace H10:=H10.ext hj
     try replace H11:=H11.ext hj
     clear hj;have mz5:=trivial;refine Qf HC ?_
    rotate_left
    focus
     go_wp2;obtain ⟨p1,wb,hbq,hwb,H10,HC',hx,gp1⟩:=Ql HC 57 #[.int .i64 0,.int .i64 0,.bool false,.int .i64 0,.bool false,.string ⟨#[]⟩,.slice none 0 0];rw [← hbq,← hwb];try have ne : p2 < p1:=by have:=H11.lt;omega
     replace HC:=HC';try replace H11:=H11.ext hx
     clear hbq hwb hx HC';have mz6:=trivial;refine Qf HC ?_
    rotate_left
    focus
     go_wp2;obtain ⟨p2,wb,hbq,hwb,H11,HC',hx,gp2⟩:=Ql HC 57 #[.int .i64 0,.int .i64 0,.bool false,.int .i64 0,.bool false,.string ⟨#[]⟩,.slice none 0 0];rw [← hbq,← hwb];try have ne : p1 < p2:=by have:=H10.lt;omega
     replace HC:=HC';try replace H10:=H10.ext hx
     clear hbq hwb hx HC';have mz7:=trivial;refine Qf HC ?_
    rotate_left)
  all_goals try
   (clear mz3
    refine Zq 2 7 ?_ ?_
    focus
     go_wp2_with (go_at_call 125;refine zc (N1 _ (E0.trans HC)) ?_;rintro e wc ⟨F1,m1,rfl,hj,L1⟩);replace HC:=HC.trans hj;try replace H10:=H10.ext hj
     try replace H11:=H11.ext hj
     clear hj;have mz6:=trivial;refine Qf HC ?_
    rotate_left
    focus
     go_wp2;obtain ⟨p2,wb,hbq,hwb,H11,HC',hx,gp2⟩:=Ql HC 57 #[.int .i64 0,.int .i64 0,.bool false,.int .i64 0,.bool false,.string ⟨#[]⟩,.slice none 0 0];rw [← hbq,← hwb];try have ne : p1 < p2:=by have:=H10.lt;omega
     replace HC:=HC';try replace H10:=H10.ext hx
     clear hbq hwb hx HC';have mz8:=trivial;refine Qf HC ?_
    rotate_left)
  all_goals try
   (clear mz4
    refine Zq 2 6 ?_ ?_
    focus
     go_wp2_with (go_at_call 125;refine zc (N1 _ (E0.trans HC)) ?_;rintro e wc ⟨F1,m1,rfl,hj,L1⟩);replace HC:=HC.trans hj;try replace H10:=H10.ext hj
     try replace H11:=H11.ext hj
     clear hj;have mz7:=trivial;refine Qf HC ?_
    rotate_left
    focus
     go_wp2;obtain ⟨p1,wb,hbq,hwb,H10,HC',hx,gp1⟩:=Ql HC 57 #[.int .i64 0,.int .i64 0,.bool false,.int .i64 0,.bool false,.string ⟨#[]⟩,.slice none 0 0];rw [← hbq,← hwb];try have ne : p2 < p1:=by have:=H11.lt;omega
     replace HC:=HC';try replace H11:=H11.ext hx
     clear hbq hwb hx HC';have mz8:=trivial;refine Qf HC ?_
    rotate_left)
  all_goals try
   (clear mz5
    refine Zq 6 7 ?_ ?_
    focus
     go_wp2;obtain ⟨p1,wb,hbq,hwb,H10,HC',hx,gp1⟩:=Ql HC 57 #[.int .i64 0,.int .i64 0,.bool false,.int .i64 0,.bool false,.string ⟨#[]⟩,.slice none 0 0];rw [← hbq,← hwb];try have ne : p2 < p1:=by have:=H11.lt;omega
     replace HC:=HC';try replace H11:=H11.ext hx
     clear hbq hwb hx HC';have mz9:=trivial;refine Qf HC ?_
    rotate_left
    focus
     go_wp2;obtain ⟨p2,wb,hbq,hwb,H11,HC',hx,gp2⟩:=Ql HC 57 #[.int .i64 0,.int .i64 0,.bool false,.int .i64 0,.bool false,.string ⟨#[]⟩,.slice none 0 0];rw [← hbq,← hwb];try have ne : p1 < p2:=by have:=H10.lt;omega
     replace HC:=HC';try replace H10:=H10.ext hx
     clear hbq hwb hx HC';have mz10:=trivial;refine Qf HC ?_
    rotate_left)
  all_goals try
   (clear mz6
    refine Zq 5 7 ?_ ?_
    focus
     go_wp2_with (go_at_call 125;refine zc (N2 _ (E0.trans HC)) ?_;rintro e wc ⟨F2,m2,rfl,hj,L2⟩);replace HC:=HC.trans hj;try replace H10:=H10.ext hj
     try replace H11:=H11.ext hj
     clear hj;have mz9:=trivial;refine Qf HC ?_
    rotate_left
    focus
     go_wp2;obtain ⟨p2,wb,hbq,hwb,H11,HC',hx,gp2⟩:=Ql HC 57 #[.int .i64 0,.int .i64 0,.bool false,.int .i64 0,.bool false,.string ⟨#[]⟩,.slice none 0 0];rw [← hbq,← hwb];try have ne : p1 < p2:=by have:=H10.lt;omega
     replace HC:=HC';try replace H10:=H10.ext hx
     clear hbq hwb hx HC';have mz11:=trivial;refine Qf HC ?_
    rotate_left)
  all_goals try
   (clear mz7
    refine Zq 5 6 ?_ ?_
    focus
     go_wp2_with (go_at_call 125;refine zc (N2 _ (E0.trans HC)) ?_;rintro e wc ⟨F2,m2,rfl,hj,L2⟩);replace HC:=HC.trans hj;try replace H10:=H10.ext hj
     try replace H11:=H11.ext hj
     clear hj;have mz10:=trivial;refine Qf HC ?_
    rotate_left
    focus
     go_wp2;obtain ⟨p1,wb,hbq,hwb,H10,HC',hx,gp1⟩:=Ql HC 57 #[.int .i64 0,.int .i64 0,.bool false,.int .i64 0,.bool false,.string ⟨#[]⟩,.slice none 0 0];rw [← hbq,← hwb];try have ne : p2 < p1:=by have:=H11.lt;omega
     replace HC:=HC';try replace H11:=H11.ext hx
     clear hbq hwb hx HC';have mz11:=trivial;refine Qf HC ?_
    rotate_left)
  all_goals try
   (clear mz8
    refine Qj 2 ?_;go_wp2_with (go_at_call 125;refine zc (N1 _ (E0.trans HC)) ?_;rintro e wc ⟨F1,m1,rfl,hj,L1⟩);replace HC:=HC.trans hj;try replace H10:=H10.ext hj
    try replace H11:=H11.ext hj
    clear hj;have mz11:=trivial;refine Qf HC ?_)
  all_goals try
   (clear mz9
    refine Qj 7 ?_;go_wp2;obtain ⟨p2,wb,hbq,hwb,H11,HC',hx,gp2⟩:=Ql HC 57 #[.int .i64 0,.int .i64 0,.bool false,.int .i64 0,.bool false,.string ⟨#[]⟩,.slice none 0 0];rw [← hbq,← hwb];try have ne : p1 < p2:=by have:=H10.lt;omega
    replace HC:=HC';try replace H10:=H10.ext hx
    clear hbq hwb hx HC';have mz12:=trivial;refine Qf HC ?_)
  all_goals try
   (clear mz10
    refine Qj 6 ?_;go_wp2;obtain ⟨p1,wb,hbq,hwb,H10,HC',hx,gp1⟩:=Ql HC 57 #[.int .i64 0,.int .i64 0,.bool false,.int .i64 0,.bool false,.string ⟨#[]⟩,.slice none 0 0];rw [← hbq,← hwb];try have ne : p2 < p1:=by have:=H11.lt;omega
    replace HC:=HC';try replace H11:=H11.ext hx
    clear hbq hwb hx HC';have mz12:=trivial;refine Qf HC ?_)
  all_goals try
   (clear mz11
    refine Qj 5 ?_;go_wp2_with (go_at_call 125;refine zc (N2 _ (E0.trans HC)) ?_;rintro e wc ⟨F2,m2,rfl,hj,L2⟩);replace HC:=HC.trans hj;try replace H10:=H10.ext hj
    try replace H11:=H11.ext hj
    clear hj;have mz12:=trivial;refine Qf HC ?_)
  all_goals try
   (clear mz12
    refine Qr 8 ?_;obtain ⟨z0,z1,z2,z3,z4,z5,z6,u0,u1,u2,u3,u4,u5,u6,lx⟩:=Qb.e7 H10;have hgp : v.heap.size ≤ p1:=gp1;go_wp2;have Hn:=Oj H10 (.int .i64 GX.on.y) (.int .i64 GX.on.m) (.bool GX.on.s) (.int .i64 GX.on.d) (.bool GX.i) (.string GX.w) (.slice F1 GX.l.length m1);have On:=Kt H11 (show p2 ≠ p1 by omega) (.int .i64 GX.on.y) (.int .i64 GX.on.m) (.bool GX.on.s) (.int .i64 GX.on.d) (.bool GX.i) (.string GX.w) (.slice F1 GX.l.length m1);replace HC:=Og HC hgp (.int .i64 GX.on.y) (.int .i64 GX.on.m) (.bool GX.on.s) (.int .i64 GX.on.d) (.bool GX.i) (.string GX.w) (.slice F1 GX.l.length m1);clear H10 z0 z1 z2 z3 z4 z5 z6 u0 u1 u2 u3 u4 u5 u6 lx hgp;have H10:=Hn
    replace H11:=On;clear Hn On;generalize World.setCell _ _ _ = wq at *;have mz13:=trivial;refine Qq ?_)
  all_goals try
   (clear mz13
    refine Qr 9 ?_;obtain ⟨z0,z1,z2,z3,z4,z5,z6,u0,u1,u2,u3,u4,u5,u6,lx⟩:=Qb.e7 H11;have hgp : v.heap.size ≤ p2:=gp2;go_wp2;have Hn:=Oj H11 (.int .i64 GY.on.y) (.int .i64 GY.on.m) (.bool GY.on.s) (.int .i64 GY.on.d) (.bool GY.i) (.string GY.w) (.slice F2 GY.l.length m2);have On:=Kt H10 (show p1 ≠ p2 by omega) (.int .i64 GY.on.y) (.int .i64 GY.on.m) (.bool GY.on.s) (.int .i64 GY.on.d) (.bool GY.i) (.string GY.w) (.slice F2 GY.l.length m2);replace HC:=Og HC hgp (.int .i64 GY.on.y) (.int .i64 GY.on.m) (.bool GY.on.s) (.int .i64 GY.on.d) (.bool GY.i) (.string GY.w) (.slice F2 GY.l.length m2);clear H11 z0 z1 z2 z3 z4 z5 z6 u0 u1 u2 u3 u4 u5 u6 lx hgp;have H11:=Hn
    replace H10:=On;clear Hn On;generalize World.setCell _ _ _ = wq at *;have mz14:=trivial;refine Qq ?_)
  all_goals try
   (clear mz14
    refine Qx ?_;exact Qha F1 m1 F2 m2 p1 p2 ⟨HC,H10,H11,L1,L2⟩ rfl)
 rintro F1 m1 F2 m2 p1 p2 w1 ⟨hx,BX,BY,L1,L2⟩;replace E0:=E0.trans hx;replace E:=E.trans hx;replace B1:=B1.ext hx;replace B2:=B2.ext hx;replace HA1:=HA1.ext hx;have C:=hA.C.ext E0;have r1:=(E0.cell (p:=⟨b,off + x1 * 12,none⟩) hb).trans c1;have r2:=(E0.cell (p:=⟨b,off + y1 * 12,none⟩) hb).trans c2;have hbw:=Nat.lt_of_lt_of_le hb E0.size;clear hx N1 N2 c1 c2;obtain ⟨x0',x1',x2',x3',x4',x5',x6',xl⟩:=Qb.d7 BX;obtain ⟨y0',y1',y2',y3',y4',y5',y6',yl⟩:=Qb.d7 BY;obtain ⟨k0,k1,kl⟩:=Qb.d2 B1;obtain ⟨l0,l1,ll⟩:=Qb.d2 B2;obtain ⟨a0,a1,a2,a3,al⟩:=Qb.d4 HA1;have NE:=fun w h1 h2 => S8 (.slice F1 GX.l.length m1) (.slice F2 GY.l.length m2) GX.l GY.l w h1 h2
 go_upto_region 2 with fail
 by_cases g1 : GX.w = py;rotate_left
 ·obtain rfl : RB = false:=by
   rw [hRB.out];rw [zf g1];rfl
  have t1 : (GX.w.toList == py.toList) = false:=zb fun h => g1 (Wu h)
  have t1n : (GX.w.toList != py.toList) = true:=by rw [bne,t1];rfl
  clear g1;clear hRB;have n1:=fun u : XW _ => NE _ (L1.ext (E0.trans u.e)) (L2.ext (E0.trans u.e))
  refine Qy w1 ?_;intro w2 h2;clear n1;obtain ⟨hcbw2,hfbw2,hzbw2,hzw2⟩:=Qv w1 h2;go_wp2;go_ret;exact ⟨rfl,E.trans h2⟩
 have t1 : (GX.w.toList == py.toList) = true:=by rw [g1];exact beq_self_eq_true _
 have t1n : (GX.w.toList != py.toList) = false:=by rw [bne,t1];rfl
 replace g1:=zh g1;by_cases g2 : GY.w = px;rotate_left
 ·obtain rfl : RB = false:=by
   rw [hRB.out];rw [zf g2,Bool.and_false];rfl
  have t2 : (GY.w.toList == px.toList) = false:=zb fun h => g2 (Wu h)
  have t2n : (GY.w.toList != px.toList) = true:=by rw [bne,t2];rfl
  clear g2;clear hRB;have n1:=fun u : XW _ => NE _ (L1.ext (E0.trans u.e)) (L2.ext (E0.trans u.e))
  refine Qy w1 ?_;intro w2 h2;clear n1;obtain ⟨hcbw2,hfbw2,hzbw2,hzw2⟩:=Qv w1 h2;go_wp2;go_ret;exact ⟨rfl,E.trans h2⟩
 have t2 : (GY.w.toList == px.toList) = true:=by rw [g2];exact beq_self_eq_true _
 have t2n : (GY.w.toList != px.toList) = false:=by rw [bne,t2];rfl
 replace g2:=zh g2;by_cases g3 : GX.l = GY.l;rotate_left
 ·rw [zf g3] at NE
  obtain rfl : RB = false:=by
   rw [hRB.out];rw [zf g3,Bool.and_false];rfl
  clear g3;clear hRB;have n1:=fun u : XW _ => NE _ (L1.ext (E0.trans u.e)) (L2.ext (E0.trans u.e))
  refine Qy w1 ?_;intro w2 h2;clear n1;obtain ⟨hcbw2,hfbw2,hzbw2,hzw2⟩:=Qv w1 h2;go_wp2;go_ret;exact ⟨rfl,E.trans h2⟩
 rw [zt g3] at NE;replace g3:=zh g3;have n1:=fun u : XW _ => NE _ (L1.ext (E0.trans u.e)) (L2.ext (E0.trans u.e))
 refine Qy w1 ?_;intro w2 h2;clear n1;obtain ⟨hcbw2,hfbw2,hzbw2,hzw2⟩:=Qv w1 h2;clear NE t1 t1n t2 t2n r1 r2 hbw;replace E0:=E0.trans h2;replace E:=E.trans h2;replace BX:=BX.ext h2;replace BY:=BY.ext h2;replace HA1:=HA1.ext h2;replace C:=C.ext h2;clear x0' x1' x2' x3' x4' x5' x6' xl y0' y1' y2' y3' y4' y5' y6' yl k0 k1 kl l0 l1 ll a0 a1 a2 a3 al h2 L1 L2;obtain ⟨x0',x1',x2',x3',x4',x5',x6',xl⟩:=Qb.d7 BX;obtain ⟨y0',y1',y2',y3',y4',y5',y6',yl⟩:=Qb.d7 BY;obtain ⟨a0,a1,a2,a3,al⟩:=Qb.d4 HA1;have NX:=ND GX.on;have NY:=ND GY.on;clear ND
 have hres : Hid (RB = (decide (0 ≤ c.numV GY.on - c.numV GX.on) && decide (c.numV GY.on - c.numV GX.on ≤ days))):=by
  unfold Hid;rw [hRB.out,zt g1.out,zt g2.out,zt g3.out];rfl
 clear hRB;generalize c.numV GX.on = nx at *;generalize c.numV GY.on = ny at *;go_upto_region 4 with fail
 have n1:=fun u : XW _ => NX _ (C.ext u.e)
 have n2:=fun u : XW _ => NY _ (C.ext u.e)
 refine Qy w2 ?_;intro w3 h3;clear n1 n2;obtain ⟨_,_,_,_⟩:=Qv w2 h3;obtain ⟨d,hd⟩:=Qe (ny - nx);rw [← hd] at hres;by_cases q1 : 0 ≤ ny - nx
 ·by_cases q2 : ny - nx ≤ days
  ·have f1 : decide (0 ≤ ny - nx) = true:=zt q1;have f2 : decide (ny - nx ≤ days) = true:=zt q2;go_wp2;go_ret;exact ⟨by rw [hres.out,hd,f1,f2];rfl,E.trans h3⟩
  ·have f1 : decide (0 ≤ ny - nx) = true:=zt q1;have f2 : decide (ny - nx ≤ days) = false:=zf q2;go_wp2;go_ret;exact ⟨by rw [hres.out,hd,f1,f2];rfl,E.trans h3⟩
 ·have f1 : decide (0 ≤ ny - nx) = false:=zf q1;go_wp2;go_ret;exact ⟨by rw [hres.out,hd,f1];rfl,E.trans h3⟩
end
section
open Go Go.RowKit Go.Shelf
structure Qw (W : World) (t : TypeId) (A : OA) (n b : Nat) (g : Nat → Value) : Prop where
 a : 0 < n → A = some ⟨b,0,none⟩
 h : 0 < n → ∃ cs : Array Value,Qb W b t cs ∧ n ≤ cs.size ∧ ∀ k,k < n → cs[k]? = some (g k)
section
variable {W W' : World} {t t' : TypeId} {A A' : OA} {n n' b b' k : Nat} {g g' : Nat → Value} {cs : Array Value}
theorem Qw.cell (h : Qw W t A n b g) (hk : k < n) : W.cell? ⟨b,k,none⟩ = some (g k):=by
 obtain ⟨cs,h1,_,h3⟩:=h.h Qa;rw [h1.cell k,h3 k hk]
theorem Qw.lt (h : Qw W t A n b g) (hn : 0 < n) : b < W.heap.size:=by
 obtain ⟨cs,h1,_⟩:=h.h hn;exact h1.lt
theorem Qw.frozen (h : Qw W t A n b g) (hn : 0 < n) (k : Nat) : W.frozen? ⟨b,k,none⟩ = false:=by
 obtain ⟨cs,h1,_⟩:=h.h hn;exact h1.frozen k
theorem Qw.ext (h : Qw W t A n b g) (x : Qc W W') : Qw W' t A n b g:=⟨h.a,fun hn => by
 obtain ⟨cs,h1,h2⟩:=h.h hn;exact ⟨cs,h1.ext x,h2⟩⟩
theorem Qw.congr (h : Qw W t A n b g) (e : ∀ k,k < n → g k = g' k) : Qw W t A n b g':=⟨h.a,fun hn => by
 obtain ⟨cs,h1,h2,h3⟩:=h.h hn;exact ⟨cs,h1,h2,fun k hk => by rw [← e k hk];exact h3 k hk⟩⟩
theorem Kn (h : Qb W b t cs) (i : Nat) (u : Value) : Qb (W.setCell ⟨b,i,none⟩ u) b t (cs.setIfInBounds i u):=by unfold Qb at h ⊢;simp [World.setCell,Array.getElem?_modify,h]
theorem Wn (h : Qb W b t cs) (hne : b ≠ b') (j : Nat) (u : Value) : Qb (W.setCell ⟨b',j,none⟩ u) b t cs:=by unfold Qb at h ⊢;simp [World.setCell,Array.getElem?_modify,h,Ne.symm hne]
theorem Y7 {cs' : Array Value} (h : Qb W b t cs) (h' : Qb W b' t' cs') (hne : t ≠ t') : b ≠ b':=fun e => by
 subst e;unfold Qb at h h';rw [h] at h';injection h' with h'
 injection h' with _ h2
 exact hne h2
theorem Qw.set (h : Qw W t A n b g) (hk : k < n) (u : Value) : Qw (W.setCell ⟨b,k,none⟩ u) t A n b (fun x => if x = k then u else g x):=⟨h.a,fun hn => by
 obtain ⟨cs,h1,h2,h3⟩:=h.h hn;refine ⟨_,Kn h1 k u,by simpa using h2,fun x hx => ?_⟩;have hs : k < cs.size:=Qa;by_cases e : x = k
 ·subst e;simp [Array.setIfInBounds,hs]
 ·simp [Ne.symm e,h3 x hx,e]⟩
theorem Qw.oth (h : Qw W t A n b g) (hne : 0 < n → b ≠ b') (j : Nat) (u : Value) : Qw (W.setCell ⟨b',j,none⟩ u) t A n b g:=⟨h.a,fun hn => by
 obtain ⟨cs,h1,h2⟩:=h.h hn;exact ⟨cs,Wn h1 (hne hn) j u,h2⟩⟩
theorem Qw.kept {row : Option Nat} (h : Qw W t A n b g) (hg : W.grownBy W' row) (hne : 0 < n → some b ≠ row) : Qw W' t A n b g:=⟨h.a,fun hn => by
 obtain ⟨cs,h1,h2⟩:=h.h hn;exact ⟨cs,h1.kept hg (hne hn),h2⟩⟩
theorem Qw.apart (h : Qw W t A n b g) (h' : Qb W b' t' cs) (hne : t ≠ t') (hn : 0 < n) : b ≠ b':=by
 obtain ⟨ds,h1,_⟩:=h.h hn;exact Y7 h1 h' hne
theorem Qw.apart2 (h : Qw W t A n b g) (h' : Qw W t' A' n' b' g') (hne : t ≠ t') (hn : 0 < n) (hn' : 0 < n') : b ≠ b':=by
 obtain ⟨ds,h1,_⟩:=h.h hn;obtain ⟨es,h2,_⟩:=h'.h hn';exact Y7 h1 h2 hne
theorem Oa {base : Nat} {v : Value} {xs : List Value} (h : W.ownsRow base t 1 v n xs) (hx : ∀ k,k < n → xs[k]? = some (g k)) : ∃ A cap b,v = .slice A n cap ∧ base ≤ b ∧ (0 < n → b < W.heap.size ∧ v.ownBlock = some b) ∧ Qw W t A n b g:=by
 rcases h.2 with ⟨rfl,rfl⟩ | ⟨q,cap,cur,rfl,h1,h2,h3,h4,h5,h6⟩
 ·exact ⟨none,0,base,rfl,Nat.le_refl _,fun h => absurd h Qa,fun h => absurd h Qa,fun h => absurd h Qa⟩
 ·refine ⟨_, cap, q, rfl, h1, fun _ => ⟨(Array.getElem?_eq_some_iff.1 h2).1, rfl⟩, fun _ => rfl, fun _ => ⟨cur, h2, by rw [h5]; omega, fun k hk => ?_⟩⟩;have := hx k hk;rw [← h6, Nat.mul_one, List.getElem?_take_of_lt hk] at this
  simpa using this
theorem Tv (W : World) (t : TypeId) (n : Nat) (z : Value) : Qw (W.alloc (.cells (Array.replicate n z) t)) t (some ⟨W.heap.size,0,none⟩) n W.heap.size (fun _ => z) :=
 ⟨fun _ => rfl,fun _ => ⟨_,Qb.new _ _ _,by simp,fun k hk => by simp [hk]⟩⟩
end
end
section
open Go Go.RowKit Go.Shelf
attribute [local go_sem] Z8
structure KM (bm bs : Nat) (vo vi vy : Value) (O I X : OA) (no ni cO cI cX : Nat) (W : World) : Prop where
 p : Qb W bm 166 #[.pointer (some ⟨bs,0,none⟩)]
 s : Qb W bs 213 #[vo,vi,vy,.slice O no cO,.slice I ni cI,.slice X ni cX,.func (.func 127) #[] #[.pointer (some ⟨bm,0,none⟩)]]
structure MS (W0 W : World) (bm bs : Nat) (vo vi vy : Value) (O I X : OA) (no ni cO cI cX : Nat) (bo bi bf : Nat) (m : Mt) (fx : Bl) : Prop where
 e : Qc W0 W
 km : KM bm bs vo vi vy O I X no ni cO cI cX W
 o : Qw W 3 O no bo fun k => .int .i64 (m.2 k)
 i : Qw W 3 I ni bi fun k => .int .i64 (m.1 k)
 f : Qw W 4 X ni bf fun k => .bool (fx k)
 oi : 0 < no → 0 < ni → bo ≠ bi
 lo : 0 < no → W0.heap.size ≤ bo
 li : 0 < ni → W0.heap.size ≤ bi
 lf : 0 < ni → W0.heap.size ≤ bf
def Nw (W : World) (vy : Value) (no : Nat) (adj : Nat → List Nat) : Prop:=∃ Y cap,∃ vs : Nat → Value,vy = .slice Y no cap ∧ Qm W Y no 1 (fun i => [vs i]) ∧ ∀ i,i < no → ∃ D cd,(adj i).length ≤ 1000000 ∧ vs i = .slice D (adj i).length cd ∧ Qm W D (adj i).length 1 (fun k => [.int .i64 (((adj i).getD k 0 : Nat) : Int)])
def Fr (S : Nat → Prop) (W W' : World) : Prop:=W.heap.size ≤ W'.heap.size ∧ ∀ b,b < W.heap.size → ¬ S b → W'.heap[b]? = W.heap[b]?
def SN (no ni bo bi bn : Nat) : Nat → Prop:=fun b => (0 < no ∧ b = bo) ∨ (0 < ni ∧ (b = bi ∨ b = bn))
theorem sn_o {no ni bo bi bn : Nat} (h : 0 < no) : SN no ni bo bi bn bo:=Or.inl ⟨h,rfl⟩
theorem sn_i {no ni bo bi bn : Nat} (h : 0 < ni) : SN no ni bo bi bn bi:=Or.inr ⟨h,Or.inl rfl⟩
theorem sn_n {no ni bo bi bn : Nat} (h : 0 < ni) : SN no ni bo bi bn bn:=Or.inr ⟨h,Or.inr rfl⟩
theorem Fr.refl (S : Nat → Prop) (W : World) : Fr S W W:=⟨Nat.le_refl _,fun _ _ _ => rfl⟩
theorem Fr.trans {S : Nat → Prop} {W W1 W2 : World} (h : Fr S W W1) (k : Fr S W1 W2) : Fr S W W2:=⟨Nat.le_trans h.1 k.1,fun b hb hs => (k.2 b (Nat.lt_of_lt_of_le hb h.1) hs).trans (h.2 b hb hs)⟩
theorem Fr.ext {S : Nat → Prop} {W W1 W2 : World} (h : Fr S W W1) (k : Qc W1 W2) : Fr S W W2:=⟨Nat.le_trans h.1 k.size,fun b hb hs => (k.block (Nat.lt_of_lt_of_le hb h.1)).trans (h.2 b hb hs)⟩
theorem Fr.set {S : Nat → Prop} {W W1 : World} (h : Fr S W W1) {b : Nat} (hb : S b) (j : Nat) (u : Value) : Fr S W (W1.setCell ⟨b,j,none⟩ u):=by
 refine ⟨by simpa [World.setCell] using h.1,fun c hc hs => ?_⟩;have : b ≠ c:=fun e => hs (by rw [← e];exact hb)
 rw [← h.2 c hc hs];simp [World.setCell,Array.getElem?_modify,this]
theorem Fr.held {S : Nat → Prop} {W W' : World} (h : Fr S W W') {b : Nat} {t : TypeId} {cs : Array Value} (hb : Qb W b t cs) (hs : ¬ S b) : Qb W' b t cs:=(h.2 b hb.lt hs).trans hb
theorem Fr.mono {S S' : Nat → Prop} {W W' : World} (h : Fr S W W') (k : ∀ b,S b → S' b) : Fr S' W W':=⟨h.1,fun b hb hs => h.2 b hb fun h => hs (k b h)⟩
section
variable {W0 W W' : World} {bm bs : Nat} {vo vi vy : Value} {O I X : OA} {no ni cO cI cX : Nat} {bo bi bf : Nat} {m : Mt} {fx : Bl}
theorem KM.ext (h : KM bm bs vo vi vy O I X no ni cO cI cX W) (x : Qc W W') : KM bm bs vo vi vy O I X no ni cO cI cX W':=⟨h.p.ext x,h.s.ext x⟩
theorem MS.ext (h : MS W0 W bm bs vo vi vy O I X no ni cO cI cX bo bi bf m fx) (x : Qc W W') : MS W0 W' bm bs vo vi vy O I X no ni cO cI cX bo bi bf m fx:=⟨h.e.trans x,h.km.ext x,h.o.ext x,h.i.ext x,h.f.ext x,h.oi,h.lo,h.li,h.lf⟩
theorem MS.congr {m' : Mt} {fx' : Bl} (h : MS W0 W bm bs vo vi vy O I X no ni cO cI cX bo bi bf m fx) (e1 : ∀ k,k < ni → m.1 k = m'.1 k) (e2 : ∀ k,k < no → m.2 k = m'.2 k) (e3 : ∀ k,k < ni → fx k = fx' k) : MS W0 W bm bs vo vi vy O I X no ni cO cI cX bo bi bf m' fx':=⟨h.e,h.km,h.o.congr fun k hk => by rw [e2 k hk],h.i.congr fun k hk => by rw [e1 k hk],h.f.congr fun k hk => by rw [e3 k hk],h.oi,h.lo,h.li,h.lf⟩
theorem KM.set (h : KM bm bs vo vi vy O I X no ni cO cI cX W) {b : Nat} {t : TypeId} {cs : Array Value} (hb : Qb W b t cs) (h1 : t ≠ 166) (h2 : t ≠ 213) (j : Nat) (u : Value) : KM bm bs vo vi vy O I X no ni cO cI cX (W.setCell ⟨b,j,none⟩ u) :=
 ⟨Wn h.p (Ne.symm (Y7 hb h.p h1)) j u,Wn h.s (Ne.symm (Y7 hb h.s h2)) j u⟩
theorem MS.setO (h : MS W0 W bm bs vo vi vy O I X no ni cO cI cX bo bi bf m fx) {i : Nat} (hi : i < no) (v : Int) : MS W0 (W.setCell ⟨bo,i,none⟩ (.int .i64 v)) bm bs vo vi vy O I X no ni cO cI cX bo bi bf (m.1,Qh m.2 i v) fx:=by
 obtain ⟨cs,h1,_⟩:=h.o.h Qa;refine ⟨h.e.setCell (p:=⟨bo,i,none⟩) (h.lo Qa) _,h.km.set h1 zD zD _ _,(h.o.set hi _).congr fun k _ => ?_,h.i.oth (fun hn => Ne.symm (h.oi Qa hn)) _ _,h.f.oth (fun hn => Ne.symm (h.o.apart2 h.f zD Qa hn)) _ _,h.oi,h.lo,h.li,h.lf⟩;by_cases e : k = i
 ·subst e;simp [Qh]
 ·simp [Qh,e]
theorem MS.setI (h : MS W0 W bm bs vo vi vy O I X no ni cO cI cX bo bi bf m fx) {k : Nat} (hk : k < ni) (v : Int) : MS W0 (W.setCell ⟨bi,k,none⟩ (.int .i64 v)) bm bs vo vi vy O I X no ni cO cI cX bo bi bf (Qh m.1 k v,m.2) fx:=by
 obtain ⟨cs,h1,_⟩:=h.i.h Qa;refine ⟨h.e.setCell (p:=⟨bi,k,none⟩) (h.li Qa) _,h.km.set h1 zD zD _ _,h.o.oth (fun hn => h.oi hn Qa) _ _,(h.i.set hk _).congr fun x _ => ?_,h.f.oth (fun hn => Ne.symm (h.i.apart2 h.f zD Qa hn)) _ _,h.oi,h.lo,h.li,h.lf⟩;by_cases e : x = k
 ·subst e;simp [Qh]
 ·simp [Qh,e]
theorem MS.setF (h : MS W0 W bm bs vo vi vy O I X no ni cO cI cX bo bi bf m fx) {k : Nat} (hk : k < ni) (v : Bool) : MS W0 (W.setCell ⟨bf,k,none⟩ (.bool v)) bm bs vo vi vy O I X no ni cO cI cX bo bi bf m (Qh fx k v):=by
 obtain ⟨cs,h1,_⟩:=h.f.h Qa;refine ⟨h.e.setCell (p:=⟨bf,k,none⟩) (h.lf Qa) _,h.km.set h1 zD zD _ _,h.o.oth (fun hn => h.o.apart2 h.f zD hn Qa) _ _,h.i.oth (fun hn => h.i.apart2 h.f zD hn Qa) _ _,(h.f.set hk _).congr fun x _ => ?_,h.oi,h.lo,h.li,h.lf⟩;by_cases e : x = k
 ·subst e;simp [Qh]
 ·simp [Qh,e]
theorem MS.setN (h : MS W0 W bm bs vo vi vy O I X no ni cO cI cX bo bi bf m fx) {N : OA} {bn k : Nat} {g : Nat → Value} (hN : Qw W 4 N ni bn g) (hk : k < ni) (hl : W0.heap.size ≤ bn) (hne : bn ≠ bf) (u : Value) : MS W0 (W.setCell ⟨bn,k,none⟩ u) bm bs vo vi vy O I X no ni cO cI cX bo bi bf m fx:=by
 obtain ⟨cs,h1,_⟩:=hN.h Qa;exact ⟨h.e.setCell (p:=⟨bn,k,none⟩) hl _,h.km.set h1 zD zD _ _,h.o.oth (fun hn => h.o.apart2 hN zD hn Qa) _ _,h.i.oth (fun hn => h.i.apart2 hN zD hn Qa) _ _,h.f.oth (fun _ => Ne.symm hne) _ _,h.oi,h.lo,h.li,h.lf⟩
end
theorem S4 {l : List Nat} {t : Nat} (h : t < l.length) : l.drop t = l.getD t 0 :: l.drop (t + 1):=by
 rw [List.drop_eq_getElem_cons h,List.getD_eq_getElem?_getD,List.getElem?_eq_getElem h];rfl
theorem Dg (sn fx : Bl) (k : Nat) : (fun x => Qh sn k true x || fx x) = Qh (fun x => sn x || fx x) k true:=by
 funext x
 unfold Qh;by_cases e : x = k <;> simp [e]
theorem Sa {rec : Mt → Bl → Nat → Option Mt × Bl} {i k : Nat} {r : List Nat} {m : Mt} {b : Bl} (h : b k = true) : Z4 rec i (k :: r) m b = Z4 rec i r m b:=by
 conv => lhs;unfold Z4
 rw [if_pos h]
theorem Ag {rec : Mt → Bl → Nat → Option Mt × Bl} {i k : Nat} {r : List Nat} {m : Mt} {b : Bl} (h : b k = false) (hm : m.1 k < 0) : Z4 rec i (k :: r) m b = (some (Xf m k i),Qh b k true):=by
 conv => lhs;unfold Z4
 rw [if_neg (by simp [h]),if_pos hm]
theorem Ai {rec : Mt → Bl → Nat → Option Mt × Bl} {i k : Nat} {r : List Nat} {m m1 : Mt} {b b2 : Bl} (h : b k = false) (hm : ¬ m.1 k < 0) (hr : rec m (Qh b k true) (m.1 k).toNat = (some m1,b2)) : Z4 rec i (k :: r) m b = (some (Xf m1 k i),b2):=by
 conv => lhs;unfold Z4
 rw [if_neg (by simp [h]),if_neg hm,hr]
theorem Ah {rec : Mt → Bl → Nat → Option Mt × Bl} {i k : Nat} {r : List Nat} {m : Mt} {b b2 : Bl} (h : b k = false) (hm : ¬ m.1 k < 0) (hr : rec m (Qh b k true) (m.1 k).toNat = (none,b2)) : Z4 rec i (k :: r) m b = Z4 rec i r m b2:=by
 conv => lhs;unfold Z4
 rw [if_neg (by simp [h]),if_neg hm,hr]
theorem Tu {W : World} {N : OA} {ni bn k : Nat} {sn : Bl} (h : Qw W 4 N ni bn (fun x => .bool (sn x))) (hk : k < ni) (b : Bool) : Qw (W.setCell ⟨bn,k,none⟩ (.bool b)) 4 N ni bn (fun x => .bool (Qh sn k b x)):=(h.set hk _).congr fun x _ => by
 by_cases e : x = k
 ·subst e;simp [Qh]
 ·simp [Qh,e]
set_option maxHeartbeats 40000000 in
theorem Am {adj : Nat → List Nat} (W0 : World) (bm bs : Nat) (vo vi vy : Value) (O I X : OA) (no ni cO cI cX bo bi bf : Nat) (m : Mt) (fx : Bl) (hadj : ∀ o,∀ k ∈ adj o,k < ni) (hY : Nw W0 vy no adj) (hm : ∀ k,k < ni → 0 ≤ m.1 k → (m.1 k).toNat < no) :
  ∀ (n : Nat) (W : World) (sn : Bl) (i : Nat) (N : OA) (cN bn : Nat),i < no → J7 ni (fun k => sn k || fx k) ≤ n → MS W0 W bm bs vo vi vy O I X no ni cO cI cX bo bi bf m fx → Qw W 4 N ni bn (fun x => .bool (sn x)) → (0 < ni → bn ≠ bf) → (0 < ni → W0.heap.size ≤ bn) → Calls Tryz.prog 127 #[.int .i64 i,.slice N ni cN,.pointer (some ⟨bm,0,none⟩)] W fun e W' => e = .returned (.bool (Q4 adj n m (fun k => sn k || fx k) i).1.isSome) ∧ MS W0 W' bm bs vo vi vy O I X no ni cO cI cX bo bi bf ((Q4 adj n m (fun k => sn k || fx k) i).1.getD m) fx ∧ Fr (SN no ni bo bi bn) W W' ∧ ∃ sn' : Bl,Qw W' 4 N ni bn (fun x => .bool (sn' x)) ∧ ∀ k,(sn' k || fx k) = (Q4 adj n m (fun k => sn k || fx k) i).2 k:=by
 intro n
 induction n using Nat.strongRecOn with
 | _ n IH =>
 intro W sn i N cN bn hi hc hM hN hne hl;obtain ⟨Y,cY,vs,rfl,hYr,hYi⟩:=id hY;have hr0:=Ak (adj:=adj) (n:=n) (m:=m) (b:=fun k => sn k || fx k) (i:=i) (hadj i) hc;obtain ⟨R,hR⟩:=Qe (Q4 adj n m (fun k => sn k || fx k) i);rw [← hR] at hr0 ⊢;replace hr0:=zh hr0.symm;clear hR;replace hc:=zh hc;have hno : 0 < no:=Qa;have hYr2:=hYr.ext hM.e;obtain ⟨D,cD,hl6,hv,hDr⟩:=hYi i hi;obtain ⟨b,off,hYe,hb,hcc⟩:=hYr2 hno;subst hYe
 have c0 : W.cell? ⟨b,off + i,none⟩ = some (.slice D (adj i).length cD):=by
  have:=hcc i 0 (vs i) hi rfl;rw [hv] at this
  simpa using this
 clear hcc hYr2 hv;obtain ⟨la,hla⟩:=Qe ((adj i).length);rw [← hla] at c0 hDr hl6;replace hla:=zh hla
 go_enter Tryz.func127,Tryz.ntmps127
 have m0:=hM.km.p.c1;have ml:=hM.km.p.lt;obtain ⟨s0,s1,s2,s3,s4,s5,s6,sl⟩:=Qb.d7 hM.km.s;go_upto_region 2 with fail
 clear c0 hb m0 ml s0 s1 s2 s3 s4 s5 s6 sl
 go_loopw [16] (fun iv wr => ∃ (t : Nat) (sn' : Bl),t ≤ la ∧ iv = .int .i64 t ∧ MS W0 wr bm bs vo vi (.slice (some ⟨b,off,none⟩) no cY) O I X no ni cO cI cX bo bi bf m fx ∧ Qw wr 4 N ni bn (fun x => .bool (sn' x)) ∧ Hid (Z4 (Q4 adj (n - 1)) i ((adj i).drop t) m (fun k => sn' k || fx k) = R) ∧ Hid (J7 ni (fun k => sn' k || fx k) ≤ n) ∧ Fr (SN no ni bo bi bn) W wr) (fun iv _ => la - (intOf iv).toNat)
 case atStart => exact ⟨0,sn,Nat.zero_le _,rfl,hM,hN,hr0,hc,Fr.refl _ _⟩
 case round =>
  clear hM hN hc hr0;obtain ⟨t,sn',ht,rfl,M,N1,hr,hc,F⟩:=hrel;obtain ⟨wo,rfl⟩:=Qe wr;by_cases hlt : t < la;rotate_left
  ·obtain rfl : t = la:=Qa
   have hR : R = (none,fun k => sn' k || fx k):=by
    have h:=hr.out;rw [hla.out,List.drop_length] at h;exact h.symm
   subst hR;clear hr hc IH;go_wp2;go_ret;exact ⟨rfl,M,F,sn',N1,fun _ => rfl⟩
  obtain ⟨bd,offd,rfl,hbd,hcd⟩:=(hDr.ext M.e) Qa;obtain ⟨k,hk⟩:=Qe ((adj i).getD t 0)
  have d0 : wo.cell? ⟨bd,offd + t,none⟩ = some (.int .i64 (k : Int)):=by
   have:=hcd t 0 (.int .i64 (((adj i).getD t 0 : Nat) : Int)) hlt rfl;rw [← hk] at this
   simpa using this
  clear hcd;have hkn : k < ni:=hadj i k (by rw [hk];exact J6 (by rw [← hla.out];exact hlt));have hdr:=S4 (l:=adj i) (t:=t) (by rw [← hla.out];exact hlt);rw [← hk] at hdr;replace hdr:=zh hdr;clear hk;have hni : 0 < ni:=Qa;have hNe:=N1.a hni;have hXe:=M.f.a hni;have hIe:=M.i.a hni;have hOe:=M.o.a hno;subst hNe;subst hXe;subst hIe;subst hOe;have n0:=N1.cell hkn;have nl:=N1.lt hni;have x0:=M.f.cell hkn;have xl:=M.f.lt hni;have m0:=M.km.p.c1;have ml:=M.km.p.lt;obtain ⟨s0,s1,s2,s3,s4,s5,s6,sl⟩:=Qb.d7 M.km.s;cases hs : sn' k
  rotate_left
  ·rw [hs] at n0
   have hr2 : Hid (Z4 (Q4 adj (n - 1)) i ((adj i).drop (t + 1)) m (fun k => sn' k || fx k) = R):=by
    have h:=hr.out;rw [hdr.out,Sa (by simp [hs])] at h;exact h
   clear hr IH hs hdr;go_wp2;exact ⟨⟨t + 1,sn',Qa,by go_num,M,N1,hr2,hc,F⟩,zi⟩
  rw [hs] at n0;cases hf : fx k
  rotate_left
  ·rw [hf] at x0
   have hr2 : Hid (Z4 (Q4 adj (n - 1)) i ((adj i).drop (t + 1)) m (fun k => sn' k || fx k) = R):=by
    have h:=hr.out;rw [hdr.out,Sa (by simp [hf])] at h;exact h
   clear hr IH hs hf hdr;go_wp2;exact ⟨⟨t + 1,sn',Qa,by go_num,M,N1,hr2,hc,F⟩,zi⟩
  rw [hf] at x0;have hbk : (fun k => sn' k || fx k) k = false:=by simp [hs,hf]
  have nz:=N1.frozen hni k;go_upto_region 6 with fail
  have M2:=M.setN N1 hkn (hl hni) (hne hni) (.bool true);have N2:=Tu N1 hkn true;have F2:=F.set (b:=bn) (sn_n hni) k (.bool true);generalize World.setCell _ _ _ = w2 at *;clear M N1 F n0 nl nz x0 xl d0 hbd hs hf m0 ml s0 s1 s2 s3 s4 s5 s6 sl;have i0:=M2.i.cell hkn;have il:=M2.i.lt hni;have m0:=M2.km.p.c1;have ml:=M2.km.p.lt;obtain ⟨s0,s1,s2,s3,s4,s5,s6,sl⟩:=Qb.d7 M2.km.s;by_cases hmk : m.1 k < 0
  ·have hR : R = (some (Xf m k i),Qh (fun k => sn' k || fx k) k true):=by
    have h:=hr.out;rw [hdr.out,Ag hbk hmk] at h;exact h.symm
   subst hR;clear hr hc hdr IH hbk;have hmb : decide (m.1 k < 0) = true:=zt hmk;go_upto_region 6 with fail
   refine Qy w2 ?_;intro w3 h3;obtain ⟨_,_,_,_⟩:=Qv w2 h3;have M3:=M2.ext h3;have N3:=N2.ext h3;have F3:=F2.ext h3;clear M2 N2 F2 i0 il m0 ml s0 s1 s2 s3 s4 s5 s6 sl;go_upto_region 7 with fail
   refine Zc 16 [15] (fun x => KM bm bs vo vi (.slice (some ⟨b,off,none⟩) no cY) (some ⟨bo,0,none⟩) (some ⟨bi,0,none⟩) (some ⟨bf,0,none⟩) no ni cO cI cX x) mixed rfl ?_;intro vz hvz;have M7:=M3.ext hvz;have N7:=N3.ext hvz;have F7:=F3.ext hvz;have HC:=M7.km;refine Qs (g:=3) [0,1,2,3,4,5,6,7,8,9,10,11,12] HC ?_
   constructor
   refine ⟨fun u hu => ?_,?_⟩
   ·have m0:=hu.p.c1;have ml:=hu.p.lt;obtain ⟨s0,s1,s2,s3,s4,s5,s6,sl⟩:=Qb.d7 hu.s;exact Qk
   refine Qj 13 ?_;have fz:=M7.o.frozen hno i;have fc:=M7.o.cell hi;have fl:=M7.o.lt hno;go_wp2;replace N7:=N7.oth (fun hn => Ne.symm (M7.o.apart2 N7 zD hno hn)) i (.int .i64 (k : Int));replace F7:=F7.set (b:=bo) (sn_o hno) i (.int .i64 (k : Int));replace M7:=M7.setO hi (k : Int);have HC:=M7.km;clear fz fc fl;generalize World.setCell _ _ _ = wq at *;refine Qf HC ?_;refine Qs (g:=1) [14] HC ?_
   constructor
   refine ⟨fun u hu => ?_,?_⟩
   ·have m0:=hu.p.c1;have ml:=hu.p.lt;obtain ⟨s0,s1,s2,s3,s4,s5,s6,sl⟩:=Qb.d7 hu.s;exact Qk
   refine Qr 15 ?_;have fz:=M7.i.frozen hni k;have fc:=M7.i.cell hkn;have fl:=M7.i.lt hni;go_wp2;replace N7:=N7.oth (fun hn => Ne.symm (M7.i.apart2 N7 zD hni hn)) k (.int .i64 (i : Int));replace F7:=F7.set (b:=bi) (sn_i hni) k (.int .i64 (i : Int));replace M7:=M7.setI hkn (i : Int);clear fz fc fl;generalize World.setCell _ _ _ = wq at *;refine Qq ?_;refine Qx ?_;go_wp2;go_ret;exact ⟨rfl,M7,F7,Qh sn' k true,N7,fun x => congrFun (Dg sn' fx k) x⟩
  have hmb : decide (m.1 k < 0) = false:=zf hmk;obtain ⟨p,hp⟩ : ∃ p : Nat,m.1 k = p:=⟨(m.1 k).toNat,Qa⟩;have hpn : p < no:=by have:=hm k hkn Qa;rw [hp] at this;simpa using this
  have hpt : (m.1 k).toNat = p:=Qa;rw [hp] at i0 hmb;have hc1:=G4 (b:=fun k => sn' k || fx k) (k:=k) hbk hkn;have hc2:=hc.out;rw [← Dg] at hc1;have IHc:=fun v h1 h2 => IH (n - 1) Qa v (Qh sn' k true) p (some ⟨bn,0,none⟩) cN bn hpn Qa h1 h2 hne hl
  have hq : ∀ x,(fun k => sn' k || fx k) x = true → (Q4 adj (n - 1) m (fun x => Qh sn' k true x || fx x) p).2 x = true:=fun x hx => by
   refine Kg adj (n - 1) m _ p x ?_
   show (Qh sn' k true x || fx x) = true
   by_cases e : x = k
   ·rw [e,Z9];rfl
   ·rw [Zp _ _ e];exact hx
  have hqe : Q4 adj (n - 1) m (Qh (fun k => sn' k || fx k) k true) (m.1 k).toNat = Q4 adj (n - 1) m (fun x => Qh sn' k true x || fx x) p:=by rw [Dg,hpt]
  generalize Q4 adj (n - 1) m (fun x => Qh sn' k true x || fx x) p = Q at *;obtain ⟨ro,b2⟩:=Q;clear hc1 hc2 IH;replace hmk:=zh hmk;replace hp:=zh hp;replace hpt:=zh hpt;replace hq:=zh hq;replace hqe:=zh hqe;go_upto_region 6 with fail
  cases ro with
  | none =>
   simp only [Option.isSome,Option.getD] at IHc;refine Qe0 21 w2 mixed zK Qu ?_;intro hne hrx hry;try simp only []
   try simp only [List.append_eq,List.cons_append,List.nil_append]
   simp only [List.take_succ_cons,List.take_zero,List.drop_succ_cons,List.drop_zero];refine zuk ?_;clear hne hry hrx;intro wz hz;obtain ⟨hcwz,hfwz,hzwz⟩:=Qc.rules hz;try simp only [World.size_alloc] at hzwz
   obtain ⟨hcbwz,hfbwz,hzbwz⟩:=Qc.rules (show Qc w2 wz from Qu);clear hcwz hfwz;have M5:=M2.ext hz;have N5:=N2.ext hz;have F5:=F2.ext hz;have HC:=M5.km;have i0:=M5.i.cell hkn;have il:=M5.i.lt hni;clear m0 ml s0 s1 s2 s3 s4 s5 s6 sl;have m0:=HC.p.c1;have ml:=HC.p.lt;obtain ⟨s0,s1,s2,s3,s4,s5,s6,sl⟩:=Qb.d7 HC.s;go_wp2_with (go_at_call 127;refine zc (IHc _ M5 N5) ?_;rintro e w3 ⟨rfl,M6,F6,sn3,N6,hb3⟩)
   have hr2 : Hid (Z4 (Q4 adj (n - 1)) i ((adj i).drop (t + 1)) m (fun k => sn3 k || fx k) = R):=by
    have h:=hr.out;rw [hdr.out,Ah hbk (Int.not_lt.2 hmk.out) hqe.out] at h;rw [show (fun k => sn3 k || fx k) = b2 from funext hb3];exact h
   have hc3 : Hid (J7 ni (fun k => sn3 k || fx k) ≤ n):=by
    rw [show (fun k => sn3 k || fx k) = b2 from funext hb3];exact Nat.le_trans (G3 hq.out ni) hc.out
   have F8:=F5.trans F6;clear hr hc hdr hq hqe;go_wp2
   exact ⟨⟨t + 1,sn3,Qa,by go_num,M6,N6,hr2,hc3,F8⟩,zi⟩
  | some m1 =>
   simp only [Option.isSome,Option.getD] at IHc;refine Qe0 21 w2 mixed zK Qu ?_;intro hne hrx hry;try simp only []
   try simp only [List.append_eq,List.cons_append,List.nil_append]
   simp only [List.take_succ_cons,List.take_zero,List.drop_succ_cons,List.drop_zero];refine zuk ?_;clear hne hry hrx;intro wz hz;obtain ⟨hcwz,hfwz,hzwz⟩:=Qc.rules hz;try simp only [World.size_alloc] at hzwz
   obtain ⟨hcbwz,hfbwz,hzbwz⟩:=Qc.rules (show Qc w2 wz from Qu);clear hcwz hfwz;have M5:=M2.ext hz;have N5:=N2.ext hz;have F5:=F2.ext hz;have HC:=M5.km;have i0:=M5.i.cell hkn;have il:=M5.i.lt hni;clear m0 ml s0 s1 s2 s3 s4 s5 s6 sl;have m0:=HC.p.c1;have ml:=HC.p.lt;obtain ⟨s0,s1,s2,s3,s4,s5,s6,sl⟩:=Qb.d7 HC.s;go_wp2_with (go_at_call 127;refine zc (IHc _ M5 N5) ?_;rintro e w3 ⟨rfl,M6,F6,sn3,N6,hb3⟩)
   have hR : R = (some (Xf m1 k i),b2):=by
    have h:=hr.out;rw [hdr.out,Ai hbk (Int.not_lt.2 hmk.out) hqe.out] at h;exact h.symm
   subst hR;replace F6:=F5.trans F6;clear hr hc hdr hq hqe hbk HC M5 N5 F5;go_upto_region 7 with fail
   refine Zc 16 [15] (fun x => KM bm bs vo vi (.slice (some ⟨b,off,none⟩) no cY) (some ⟨bo,0,none⟩) (some ⟨bi,0,none⟩) (some ⟨bf,0,none⟩) no ni cO cI cX x) mixed rfl ?_;intro vz hvz;have M7:=M6.ext hvz;have N7:=N6.ext hvz;have F7:=F6.ext hvz;have HC:=M7.km;refine Qs (g:=3) [0,1,2,3,4,5,6,7,8,9,10,11,12] HC ?_
   constructor
   refine ⟨fun u hu => ?_,?_⟩
   ·have m0:=hu.p.c1;have ml:=hu.p.lt;obtain ⟨s0,s1,s2,s3,s4,s5,s6,sl⟩:=Qb.d7 hu.s;exact Qk
   refine Qj 13 ?_;have fz:=M7.o.frozen hno i;have fc:=M7.o.cell hi;have fl:=M7.o.lt hno;go_wp2;replace N7:=N7.oth (fun hn => Ne.symm (M7.o.apart2 N7 zD hno hn)) i (.int .i64 (k : Int));replace F7:=F7.set (b:=bo) (sn_o hno) i (.int .i64 (k : Int));replace M7:=M7.setO hi (k : Int);have HC:=M7.km;clear fz fc fl;generalize World.setCell _ _ _ = wq at *;refine Qf HC ?_;refine Qs (g:=1) [14] HC ?_
   constructor
   refine ⟨fun u hu => ?_,?_⟩
   ·have m0:=hu.p.c1;have ml:=hu.p.lt;obtain ⟨s0,s1,s2,s3,s4,s5,s6,sl⟩:=Qb.d7 hu.s;exact Qk
   refine Qr 15 ?_;have fz:=M7.i.frozen hni k;have fc:=M7.i.cell hkn;have fl:=M7.i.lt hni;go_wp2;replace N7:=N7.oth (fun hn => Ne.symm (M7.i.apart2 N7 zD hni hn)) k (.int .i64 (i : Int));replace F7:=F7.set (b:=bi) (sn_i hni) k (.int .i64 (i : Int));replace M7:=M7.setI hkn (i : Int);clear fz fc fl;generalize World.setCell _ _ _ = wq at *;refine Qq ?_;refine Qx ?_;go_wp2;go_ret;exact ⟨rfl,M7,F7,sn3,N7,fun x => congrFun (funext hb3) x⟩
theorem Ms : (Tryz.prog.info? 3).map (fun i => (i.zero,i.size,i.bytes)) = some (some (.int .i64 0),1,8):=by kernel_rfl
theorem Qjf : (Tryz.prog.info? 4).map (fun i => (i.zero,i.size,i.bytes)) = some (some (.bool false),1,1):=by kernel_rfl
theorem Ba {P : Program} (t e : TypeId) (i : TypeInfo) (z : Value) (ht : P.underlying t = some (.slice e)) (hi : P.info? e = some i) (hz : i.zero = some z)
  (kl kc : IntKind) (n : Nat) (hbytes : i.bytes * n ≤ 281474976710656) (h63 : n ≤ 9223372036854775807) (w : World) :
  (Instr.makeSlice t (.int kl (n : Int)) (.int kc (n : Int))).run P w = .ok (.slice (some ⟨w.heap.size,0,none⟩) n n) (w.alloc (.cells (madeCells z.cells (n * i.size)) e)):=by
 have h : ((i.bytes * n : Nat) : Int) ≤ 281474976710656:=Qa;rw [Int.natCast_mul] at h;have hr:=run_make (P:=P) w t e i z ht hi hz kl kc n n Qa (Int.le_refl _) h Qa
 simpa only [Int.toNat_natCast] using hr
theorem Qke (n : Nat) (z : Value) : madeCells #[z] (n * 1) = Array.replicate n z:=by
 apply Array.ext';rw [Nat.mul_one,toList_madeCells_one,Array.toList_replicate]
theorem P3 {v z : Value} (n : Nat) (w : World) {t : TypeId} (h : v.cells = #[z]) : w.alloc (.cells (madeCells v.cells (n * 1)) t) = w.alloc (.cells (Array.replicate n z) t):=by rw [h,Qke]
theorem Qkq (n : Nat) (hn : n ≤ 1000000) (w : World) : (Instr.makeSlice 125 (.int .i64 (n : Int)) (.int .i64 (n : Int))).run Tryz.prog w = .ok (.slice (some ⟨w.heap.size,0,none⟩) n n) (w.alloc (.cells (Array.replicate n (.int .i64 0)) 3)):=by
 obtain ⟨i0,hi,hz0,hz1,hz2⟩:=info_parts Ms;have h:=Ba (P:=Tryz.prog) 125 3 i0 _ Tryz.underlying125 hi hz0 .i64 .i64 n (by rw [hz2];omega) Qa w;rw [hz1] at h;rw [h];exact congrArg _ (P3 n w rfl)
theorem Fu (n : Nat) (hn : n ≤ 1000000) (w : World) : (Instr.makeSlice 171 (.int .i64 (n : Int)) (.int .i64 (n : Int))).run Tryz.prog w = .ok (.slice (some ⟨w.heap.size,0,none⟩) n n) (w.alloc (.cells (Array.replicate n (.bool false)) 4)):=by
 obtain ⟨i0,hi,hz0,hz1,hz2⟩:=info_parts Qjf;have h:=Ba (P:=Tryz.prog) 171 4 i0 _ Tryz.underlying171 hi hz0 .i64 .i64 n (by rw [hz2];omega) Qa w;rw [hz1] at h;rw [h];exact congrArg _ (P3 n w rfl)
theorem Qw.offM {W : World} {t t' : TypeId} {A : OA} {n b b' : Nat} {g : Nat → Value} {cs : Array Value} (h : Qw W t A n b g) (hb : Qb W b' t' cs) (ht : t ≠ t') (j : Nat) (u : Value) : Qw (W.setCell ⟨b',j,none⟩ u) t A n b g:=h.oth (fun hn => by
 obtain ⟨c,h1,_⟩:=h.h hn;exact Y7 h1 hb ht) j u
end
end Go.Proofs.YtoflcheopfppoaaGreatDoor
