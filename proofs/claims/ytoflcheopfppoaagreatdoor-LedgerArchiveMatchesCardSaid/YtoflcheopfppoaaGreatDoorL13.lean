/- Walks of the program's functions and plain facts, packed; proved: the lemmas below; no conditions but those that each states. -/
import Derived.Test.YtoflcheopfppoaaGreatDoorL12
import Derived.Test.YtoflcheopfppoaaGreatDoorL10
import Derived.Test.YtoflcheopfppoaaGreatDoorL3
set_option maxRecDepth 100000
set_option maxHeartbeats 4000000
namespace Go.Proofs.YtoflcheopfppoaaGreatDoor
section
/-- The outs' side of a state. -/
structure Inv (ni : Nat) (m : Mt) : Prop where
 o : ∀ o : Nat,0 ≤ m.2 o → (m.2 o).toNat < ni ∧ m.1 (m.2 o).toNat = o
 i : ∀ k,k < ni → 0 ≤ m.1 k → 0 ≤ m.2 (m.1 k).toNat
structure Mv (ni : Nat) (m : Mt) (b : Bl) (i : Nat) (m' : Mt) : Prop where
 o : ∀ o : Nat,0 ≤ m'.2 o → (m'.2 o).toNat < ni ∧ m'.1 (m'.2 o).toNat = o
 b : 0 ≤ m'.2 i ∧ b (m'.2 i).toNat = false
 p : ∀ o : Nat,0 ≤ m.2 o → 0 ≤ m'.2 o
theorem Qax {ni : Nat} {b : Bl} {m : Mt} {k i : Nat} (hn : k < ni) (hb : b k = false) (ho : ∀ o : Nat,0 ≤ m.2 o → (m.2 o).toNat < ni ∧ m.1 (m.2 o).toNat = o) (hk : ∀ o : Nat,o ≠ i → m.2 o ≠ k) : Mv ni m b i (Ys m k i):=by
 refine ⟨fun o h => ?_,?_,fun o h => ?_⟩
 ·have h' : 0 ≤ Qk m.2 i k o:=h
  show (Qk m.2 i k o).toNat < ni ∧ Qk m.1 k i (Qk m.2 i k o).toNat = o
  by_cases e : o = i
  ·subst e;rw [Z4];exact ⟨by omega,by rw [show ((k : Int)).toNat = k by omega,Z4]⟩
  ·rw [Zl _ _ e] at h' ⊢;obtain ⟨h1,h2⟩:=ho o h';have h3:=hk o e;exact ⟨h1,(Zl _ _ (by omega)).trans h2⟩
 ·show 0 ≤ Qk m.2 i k i ∧ b (Qk m.2 i k i).toNat = false
  rw [Z4];exact ⟨by omega,by rw [show ((k : Int)).toNat = k by omega];exact hb⟩
 ·show 0 ≤ Qk m.2 i k o
  by_cases e : o = i
  ·subst e;rw [Z4];omega
  ·rw [Zl _ _ e];exact h
theorem G3 {adj : Nat → List Nat} {ni : Nat} (hadj : ∀ o,∀ k ∈ adj o,k < ni) {m : Mt} (ho : ∀ o : Nat,0 ≤ m.2 o → (m.2 o).toNat < ni ∧ m.1 (m.2 o).toNat = o) : ∀ (n : Nat) (b : Bl) (i : Nat) (m' : Mt),(Q3 adj n m b i).1 = some m' → Mv ni m b i m' ∧ ∀ k,b k = true → m'.1 k = m.1 k
 | 0,_,_,_,hs => by simp [Q3] at hs
 | n + 1,b,i,m',hs => by
  have go : ∀ (l : List Nat) (b0 b : Bl),(∀ k ∈ l,k ∈ adj i) → (∀ k,b0 k = true → b k = true) → (Zy (Q3 adj n) i l m b).1 = some m' → Mv ni m b0 i m' ∧ ∀ k,b0 k = true → m'.1 k = m.1 k:=fun l => by
   induction l with
   | nil => intro b0 b _ _ hs;simp [Zy] at hs
   | cons k r ih =>
    intro b0 b hl hb hs;have hr : ∀ x ∈ r,x ∈ adj i:=fun x hx => hl x (List.mem_cons_of_mem _ hx)
    have hki:=hadj i k (hl k List.mem_cons_self);unfold Zy at hs
    split at hs
    ·exact ih b0 b hr hb hs
    rename_i hbk
    have hbk0 : b0 k = false:=by
     cases e : b0 k
     ·rfl
     ·exact absurd (hb k e) hbk
    have hne : ∀ x,b0 x = true → x ≠ k:=fun x hx e => by subst e;rw [hx] at hbk0;exact absurd hbk0 (by decide)
    split at hs
    ·rename_i hm
     obtain rfl : Ys m k i = m':=by simpa using hs
     refine ⟨Qax hki hbk0 ho fun o _ h => ?_,fun x hx => Zl _ _ (hne x hx)⟩;have:=(ho o (by omega)).2;rw [h,show ((k : Int)).toNat = k by omega] at this;omega
    rename_i hm
    have hk:=G3 hadj ho n (Qk b k true) (m.1 k).toNat;have hm2:=fun x hx => Va adj n m (Qk b k true) (m.1 k).toNat x hx
    generalize Q3 adj n m (Qk b k true) (m.1 k).toNat = Q at *;obtain ⟨o,b2⟩:=Q;have hu : ∀ x,b0 x = true → Qk b k true x = true:=fun x hx => by rw [Zl b true (hne x hx)];exact hb x hx
    cases o with
    | none => exact ih b0 b2 hr (fun x hx => hm2 x (hu x hx)) hs
    | some m1 =>
     obtain rfl : Ys m1 k i = m':=by simpa using hs
     obtain ⟨W,hW⟩:=hk m1 rfl;have hkk:=hW k (Z4 _ _ _)
     have W2:=Qax (b:=b0) (m:=m1) (i:=i) hki hbk0 W.o fun o _ h => by
      have h1:=(W.o o (by omega)).2;rw [h,show ((k : Int)).toNat = k by omega,hkk] at h1;have h2:=W.b.2;rw [show (m.1 k).toNat = o by omega,h,show ((k : Int)).toNat = k by omega,Z4] at h2;exact absurd h2 (by decide)
     refine ⟨⟨W2.o,W2.b,fun o h => W2.p o (W.p o h)⟩,fun x hx => (Zl _ _ (hne x hx)).trans (hW x (hu x hx))⟩
  exact go (adj i) b b (fun k hk => hk) (fun _ h => h) hs
/-- A matching, kept as the ins' partners: those that are not fixed have partners among D. -/
structure Wl (adj : Nat → List Nat) (ni : Nat) (D : Nat → Prop) (fx : Bl) (m : Nat → Int) : Prop where
 a : ∀ k,k < ni → fx k = false → 0 ≤ m k → D (m k).toNat ∧ k ∈ adj (m k).toNat
 u : ∀ x : Int,0 ≤ x → Jt ni m x ≤ 1
 f : ∀ k,k < ni → fx k = true → 0 ≤ m k → ¬ D (m k).toNat
def Xk (ni : Nat) (m : Nat → Int) (o : Nat) : Prop:=Jt ni m (o : Int) = 0
structure X5 (adj : Nat → List Nat) (D : Nat → Prop) (fx : Bl) (M : List (Nat × Nat)) : Prop where
 a : ∀ p ∈ M,D p.1 ∧ p.2 ∈ adj p.1 ∧ fx p.2 = false
 o : M.Pairwise fun p q => p.1 ≠ q.1
 i : M.Pairwise fun p q => p.2 ≠ q.2
def Vp (fx : Bl) (m : Nat → Int) : Nat → List (Nat × Nat)
 | 0 => []
 | n + 1 => Vp fx m n ++ (if fx n = false ∧ 0 ≤ m n then [((m n).toNat,n)] else [])
theorem Qaf (fx : Bl) (m : Nat → Int) : ∀ n,(Vp fx m n).length = Zq n fx m
 | 0 => rfl
 | n + 1 => by unfold Vp Zq;rw [List.length_append,Qaf fx m n];split <;> rfl
theorem Ms {fx : Bl} {m : Nat → Int} {p : Nat × Nat} : ∀ {n : Nat},p ∈ Vp fx m n → p.2 < n ∧ fx p.2 = false ∧ 0 ≤ m p.2 ∧ p.1 = (m p.2).toNat
 | n + 1,h => by
  unfold Vp at h;rcases List.mem_append.1 h with h | h
  ·obtain ⟨h1,h2⟩:=Ms h;exact ⟨by omega,h2⟩
  ·split at h
   ·rename_i e
    rw [List.mem_singleton] at h;subst h;exact ⟨by simp,e.1,e.2,rfl⟩
   ·exact absurd h (by simp)
theorem Tv (fx : Bl) (m : Nat → Int) : ∀ n,(Vp fx m n).Pairwise fun p q => p.2 ≠ q.2
 | 0 => List.Pairwise.nil
 | n + 1 => by
  unfold Vp;refine List.pairwise_append.2 ⟨Tv fx m n,by split <;> simp,fun p hp q hq => ?_⟩;have h1:=(Ms hp).1
  split at hq
  ·rw [List.mem_singleton] at hq;subst hq;show p.2 ≠ n;omega
  ·exact absurd hq (by simp)
theorem Sj {adj : Nat → List Nat} {ni : Nat} {D : Nat → Prop} {fx : Bl} {m : Nat → Int} (V : Wl adj ni D fx m) : ∃ M,X5 adj D fx M ∧ M.length = Zq ni fx m:=by
 refine ⟨Vp fx m ni,⟨fun p hp => ?_,(Tv fx m ni).imp_of_mem fun {p q} hp hq hne e => ?_,Tv fx m ni⟩,Qaf fx m ni⟩
 ·obtain ⟨h1,h2,h3,h4⟩:=Ms hp;have:=V.a p.2 h1 h2 h3;rw [← h4] at this;exact ⟨this.1,this.2,h2⟩
 ·obtain ⟨h1,h2,h3,h4⟩:=Ms hp;obtain ⟨g1,g2,g3,g4⟩:=Ms hq;exact hne (Kn (V.u (m p.2) h3) h1 g1 rfl (by omega))
theorem Tb {fx : Bl} {m : Nat → Int} : ∀ (n : Nat) (l : List Nat),l.Nodup → (∀ k ∈ l,k < n ∧ fx k = false ∧ 0 ≤ m k) → l.length ≤ Zq n fx m
 | 0,l,_,h => by
  cases l with
  | nil => exact Nat.le_refl _
  | cons k r => exact absurd (h k List.mem_cons_self).1 (by omega)
 | n + 1,l,hd,h => by
  by_cases e : n ∈ l
  ·have h1:=Tb n (l.erase n) (hd.erase n) (fun k hk => by
    obtain ⟨g1,g2⟩:=(hd.mem_erase_iff).1 hk;obtain ⟨q1,q2⟩:=h k g2;exact ⟨by omega,q2⟩)
   rw [List.length_erase_of_mem e] at h1;have h2:=(h n e).2;unfold Zq;rw [if_pos h2];omega
  ·have:=Tb n l hd fun k hk => by
    obtain ⟨q1,q2⟩:=h k hk;have : k ≠ n:=fun e' => e (by rw [← e'];exact hk)
    exact ⟨by omega,q2⟩
   unfold Zq;omega
theorem Di {adj : Nat → List Nat} {ni : Nat} {D : Nat → Prop} {fx : Bl} {m : Nat → Int} (hadj : ∀ o,∀ k ∈ adj o,k < ni) (V : Wl adj ni D fx m) (hd : ∀ o,D o → Xk ni m o → Um adj fx m o) {M : List (Nat × Nat)} (hM : X5 adj D fx M) : M.length ≤ Zq ni fx m:=by
 have each : ∀ p : Nat × Nat,∃ k,p ∈ M → (k < ni ∧ fx k = false ∧ 0 ≤ m k) ∧ ((Um adj fx m p.1 ∧ k = p.2 ∧ Um adj fx m (m k).toNat) ∨ (¬ Um adj fx m p.1 ∧ m k = p.1)):=fun p => by
  by_cases hp : p ∈ M
  ·obtain ⟨h1,h2,h3⟩:=hM.a p hp;by_cases e : Um adj fx m p.1
   ·obtain ⟨A,R,hc,hA⟩:=id e
    have hR : R p.2:=by
     rcases hc.1 p.1 hA p.2 h2 with g | g
     ·exact g
     ·rw [h3] at g;exact absurd g (by decide)
    obtain ⟨g1,g2⟩:=hc.2 p.2 hR;exact ⟨p.2,fun _ => ⟨⟨hadj p.1 p.2 h2,h3,g1⟩,.inl ⟨e,rfl,A,R,hc,g2⟩⟩⟩
   ·have hf : ¬ Xk ni m p.1:=fun h => e (hd p.1 h1 h)
    obtain ⟨k,hk,hm⟩:=Vc (n:=ni) (m:=m) (x:=(p.1 : Int)) (by unfold Xk at hf;omega);refine ⟨k,fun _ => ⟨⟨hk,?_,by omega⟩,.inr ⟨e,hm⟩⟩⟩;cases hfk : fx k
    ·rfl
    ·exact absurd (by rw [hm];exact h1) (V.f k hk hfk (by omega))
  ·exact ⟨0,fun h => absurd h hp⟩
 obtain ⟨g,hg⟩:=Classical.axiomOfChoice each
 have hpw : (M.map g).Nodup:=by
  refine List.pairwise_map.2 ((hM.o.and hM.i).imp_of_mem fun {p q} hp hq hne e => ?_);obtain ⟨_,h1⟩:=hg p hp;obtain ⟨_,h2⟩:=hg q hq;rcases h1 with ⟨a1,a2,a3⟩ | ⟨a1,a2⟩
  ·rcases h2 with ⟨b1,b2,b3⟩ | ⟨b1,b2⟩
   ·exact hne.2 (by rw [← a2,← b2,e])
   ·rw [e,b2] at a3;exact b1 (by simpa using a3)
  ·rcases h2 with ⟨b1,b2,b3⟩ | ⟨b1,b2⟩
   ·rw [← e,a2] at b3;exact a1 (by simpa using b3)
   ·rw [e] at a2;exact hne.1 (by omega)
 have:=Tb ni (M.map g) hpw (fun k hk => by
  obtain ⟨p,hp,rfl⟩:=List.mem_map.1 hk;exact (hg p hp).1)
 simpa using this
/-- How many can be matched. -/
def Nu (adj : Nat → List Nat) (D : Nat → Prop) (fx : Bl) (s : Nat) : Prop:=(∃ M,X5 adj D fx M ∧ M.length = s) ∧ ∀ M,X5 adj D fx M → M.length ≤ s
theorem Ol {adj : Nat → List Nat} {D : Nat → Prop} {fx : Bl} {s t : Nat} (h1 : Nu adj D fx s) (h2 : Nu adj D fx t) : s = t:=by
 obtain ⟨⟨M,hM,rfl⟩,h1⟩:=h1;obtain ⟨⟨N,hN,rfl⟩,h2⟩:=h2;have:=h1 N hN;have:=h2 M hM;omega
def Top (adj : Nat → List Nat) (ni : Nat) (D : Nat → Prop) (fx : Bl) (m : Nat → Int) : Prop:=Wl adj ni D fx m ∧ ∀ M,X5 adj D fx M → M.length ≤ Zq ni fx m
theorem Top.nu {adj : Nat → List Nat} {ni : Nat} {D : Nat → Prop} {fx : Bl} {m : Nat → Int} (h : Top adj ni D fx m) : Nu adj D fx (Zq ni fx m):=⟨Sj h.1,h.2⟩
theorem Qay {adj : Nat → List Nat} {ni : Nat} {D : Nat → Prop} {fx : Bl} {m m' : Mt} {i : Nat} (V : Wl adj ni D fx m.1) (hi : D i) (hf : Xk ni m.1 i) (W : Us adj ni fx m fx i m') : Wl adj ni D fx m'.1:=by
 have hu : ∀ x : Int,0 ≤ x → Jt ni m'.1 x ≤ 1:=fun x hx => by
  rw [W.c x hx];by_cases e : x = i
  ·subst e;unfold Xk at hf;rw [hf];simp
  ·rw [if_neg e];exact V.u x hx
 refine ⟨fun k hk hfk h0 => ?_,hu,fun k hk hfk h0 => ?_⟩
 ·rcases W.a k with e | ⟨_,ha⟩
  ·rw [e] at h0 ⊢;exact V.a k hk hfk h0
  ·refine ⟨?_,ha⟩;have hc:=W.c (m'.1 k) h0;by_cases e : m'.1 k = i
   ·rw [e];simpa using hi
   ·rw [if_neg e] at hc;have hp:=V1 hk (rfl : m'.1 k = m'.1 k);obtain ⟨k1,g1,g2⟩:=Vc (n:=ni) (m:=m.1) (x:=m'.1 k) (by omega);cases hf1 : fx k1
    ·have:=(V.a k1 g1 hf1 (by omega)).1;rw [g2] at this;exact this
    ·have h3:=W.k k1 hf1;have h4:=Kn (hu _ h0) hk g1 rfl (h3.trans g2);subst h4;rw [hfk] at hf1;exact absurd hf1 (by decide)
 ·rw [W.k k hfk] at h0 ⊢;exact V.f k hk hfk h0
theorem Qij {adj : Nat → List Nat} {ni : Nat} {D : Nat → Prop} {fx : Bl} {m : Mt} (hadj : ∀ o,∀ k ∈ adj o,k < ni) (V : Wl adj ni D fx m.1) (h : ∀ o,D o → Xk ni m.1 o → (Q3 adj ni m fx o).1 = none) : Top adj ni D fx m.1 :=
 ⟨V,fun _ hM => Di hadj V (fun o ho hf => Dh hadj (Ko ni fx) (h o ho hf)) hM⟩
/-- The outs one after the other. -/
def Zo (adj : Nat → List Nat) (ni : Nat) (fx : Bl) : Nat → Nat → Mt → Mt × Nat
 | 0,_,m => (m,0)
 | n + 1,s,m => match (Q3 adj ni m fx s).1 with
  | none => Zo adj ni fx n (s + 1) m
  | some m' => ((Zo adj ni fx n (s + 1) m').1,(Zo adj ni fx n (s + 1) m').2 + 1)
structure Up (adj : Nat → List Nat) (ni f : Nat) (fx : Bl) (s : Nat) (m : Mt) : Prop where
 v : Wl adj ni (fun o => f ≤ o ∧ o < s) fx m.1
 x : ∀ k,k < ni → fx k = true → m.1 k < 0
 d : ∀ o,f ≤ o → o < s → Xk ni m.1 o → Um adj fx m.1 o
 i : Inv ni m
theorem Br {adj : Nat → List Nat} {ni : Nat} {fx : Bl} {m m' : Mt} {i : Nat} (I : Inv ni m) (W : Us adj ni fx m fx i m') (O : Mv ni m fx i m') : Inv ni m':=by
 refine ⟨O.o,fun k hk h0 => ?_⟩;have hc:=W.c (m'.1 k) h0;by_cases e : m'.1 k = i
 ·rw [e];simpa using O.b.1
 ·rw [if_neg e] at hc;have hp:=V1 hk (rfl : m'.1 k = m'.1 k);obtain ⟨k1,g1,g2⟩:=Vc (n:=ni) (m:=m.1) (x:=m'.1 k) (by omega);rw [← g2];exact O.p _ (I.i k1 g1 (by omega))
theorem Nq {adj : Nat → List Nat} {ni f : Nat} {fx : Bl} (hadj : ∀ o,∀ k ∈ adj o,k < ni) : ∀ (n s : Nat) (m : Mt),f ≤ s → Up adj ni f fx s m → Up adj ni f fx (s + n) (Zo adj ni fx n s m).1 ∧ Zq ni fx (Zo adj ni fx n s m).1.1 = Zq ni fx m.1 + (Zo adj ni fx n s m).2
 | 0,s,m,_,h => ⟨h,rfl⟩
 | n + 1,s,m,hs,h => by
  have hfree : Xk ni m.1 s:=by
   unfold Xk;refine Nat.eq_zero_of_not_pos fun hp => ?_
   obtain ⟨k,g1,g2⟩:=Vc hp;cases e : fx k
   ·have:=(h.v.a k g1 e (by omega)).1;omega
   ·have:=h.x k g1 e;omega
  have V' : Wl adj ni (fun o => f ≤ o ∧ o < s + 1) fx m.1:=⟨fun k hk hf h0 => by
   obtain ⟨g1,g2⟩:=h.v.a k hk hf h0;exact ⟨⟨g1.1,by have:=g1.2;omega⟩,g2⟩,h.v.u,fun k hk hf h0 => by have:=h.x k hk hf;omega⟩
  unfold Zo
  cases e : (Q3 adj ni m fx s).1 with
  | none =>
   have:=Nq hadj n (s + 1) m (by omega) ⟨V',h.x,fun o h1 h2 h3 => by
    by_cases e' : o = s
    ·subst e';exact Dh hadj (Ko ni fx) e
    ·exact h.d o h1 (by omega) h3,h.i⟩
   rw [show s + (n + 1) = s + 1 + n by omega]
   exact this
  | some m' =>
   have W:=G0 (fx:=fx) hadj ni fx s m' (fun _ h => h) e;obtain ⟨O,_⟩:=G3 hadj h.i.o ni fx s m' e;have V2:=Qay V' ⟨hs,by simp⟩ hfree W
   obtain ⟨g1,g2⟩:=Nq hadj n (s + 1) m' (by omega) ⟨V2,fun k hk hf => by rw [W.k k hf];exact h.x k hk hf,fun o h1 h2 h3 => by
    have hc:=W.c (o : Int) (by omega);unfold Xk at h3;by_cases e' : o = s
    ·subst e';rw [if_pos rfl] at hc;omega
    ·exact Qc2 e (h.d o h1 (by omega) (by unfold Xk;omega)),Br h.i W O⟩
   rw [show s + (n + 1) = s + 1 + n by omega];refine ⟨g1,?_⟩;have:=W.s
   simp only
   omega
theorem F9 {adj : Nat → List Nat} {ni f : Nat} {fx : Bl} (hadj : ∀ o,∀ k ∈ adj o,k < ni) {s : Nat} {m : Mt} (hs : f ≤ s) (h : Up adj ni f fx s m) : Up adj ni f fx (s + 1) ((Q3 adj ni m fx s).1.getD m) ∧ ∀ n,(Zo adj ni fx (n + 1) s m).1 = (Zo adj ni fx n (s + 1) ((Q3 adj ni m fx s).1.getD m)).1:=by
 have g:=(Nq hadj 1 s m hs h).1;unfold Zo at g
 constructor
 ·cases e : (Q3 adj ni m fx s).1 with
  | none => rw [e] at g;exact g
  | some m' => rw [e] at g;exact g
 ·intro n
  conv => lhs;unfold Zo
  cases e : (Q3 adj ni m fx s).1 with
  | none => rfl
  | some m' => rfl
def Z8 : Mt:=(fun _ => -1,fun _ => -1)
theorem Qcp (ni : Nat) (x : Int) (hx : 0 ≤ x) : Jt ni Z8.1 x = 0:=by
 refine Nat.eq_zero_of_not_pos fun hp => ?_
 obtain ⟨k,_,h⟩:=Vc hp;have h : (-1 : Int) = x:=h;omega
theorem Qad (fx : Bl) : ∀ ni,Zq ni fx Z8.1 = 0
 | 0 => rfl
 | n + 1 => by unfold Zq;rw [Qad fx n,if_neg (by rintro ⟨_,h⟩;have h : (0 : Int) ≤ -1:=h;omega)]
theorem Lw (adj : Nat → List Nat) (ni f : Nat) (fx : Bl) : Up adj ni f fx f Z8 :=
 ⟨⟨fun k _ _ h => by have h : (0 : Int) ≤ -1:=h;omega,fun x hx => by rw [Qcp ni x hx];omega,fun k _ _ h => by have h : (0 : Int) ≤ -1:=h;omega⟩,fun k _ _ => by show (-1 : Int) < 0;omega,fun o h1 h2 _ => by omega,⟨fun o h => by have h : (0 : Int) ≤ -1:=h;omega,fun k _ h => by have h : (0 : Int) ≤ -1:=h;omega⟩⟩
theorem Dy {adj : Nat → List Nat} {ni : Nat} (hadj : ∀ o,∀ k ∈ adj o,k < ni) (fx : Bl) (f n : Nat) : Top adj ni (fun o => f ≤ o ∧ o < f + n) fx (Zo adj ni fx n f Z8).1.1 ∧ Inv ni (Zo adj ni fx n f Z8).1 ∧ Nu adj (fun o => f ≤ o ∧ o < f + n) fx (Zo adj ni fx n f Z8).2:=by
 obtain ⟨g1,g2⟩:=Nq hadj n f Z8 (Nat.le_refl _) (Lw adj ni f fx);have T : Top adj ni (fun o => f ≤ o ∧ o < f + n) fx (Zo adj ni fx n f Z8).1.1:=⟨g1.v,fun M hM => Di hadj g1.v (fun o ho hf => g1.d o ho.1 ho.2 hf) hM⟩;have h:=T.nu;rw [g2,Qad,Nat.zero_add] at h;exact ⟨T,g1.i,h⟩
theorem Fy {ni : Nat} {m : Mt} {o : Nat} (I : Inv ni m) : m.2 o < 0 ↔ Xk ni m.1 o:=by
 unfold Xk
 constructor
 ·intro h;refine Nat.eq_zero_of_not_pos fun hp => ?_
  obtain ⟨k,g1,g2⟩:=Vc hp;have:=I.i k g1 (by omega);rw [g2] at this;have : 0 ≤ m.2 o:=by simpa using this
  omega
 ·intro h;refine Int.not_le.1 fun h0 => ?_
  obtain ⟨g1,g2⟩:=I.o o h0;have:=V1 g1 g2;omega
theorem Qac {fx : Bl} {m : Nat → Int} {k : Nat} (hm : ¬ 0 ≤ m k) : ∀ {n : Nat},Zq n (Qk fx k true) m = Zq n fx m
 | 0 => rfl
 | n + 1 => by
  unfold Zq;rw [Qac hm];by_cases e : n = k
  ·subst e;simp [hm]
  ·rw [Zl fx true e]
/-- An out and an in made a pair, whatever partners they had. -/
def Z7 (m : Mt) (i : Nat) : Nat → Int:=if 0 ≤ m.2 i then Qk m.1 (m.2 i).toNat (-1) else m.1
def J4 (m : Mt) (i k : Nat) : Mt:=(Qk (Z7 m i) k i,Qk (if 0 ≤ m.1 k then Qk m.2 (m.1 k).toNat (-1) else m.2) i k)
def W7 (adj : Nat → List Nat) (ni : Nat) (fx : Bl) : Nat → Nat → Mt → Option Mt
 | 0,_,_ => none
 | n + 1,j,m => if m.2 j < 0 then (match (Q3 adj ni m fx j).1 with | some m' => some m' | none => W7 adj ni fx n (j + 1) m) else W7 adj ni fx n (j + 1) m
def Y9 (adj : Nat → List Nat) (ni no : Nat) (fx : Bl) (m : Mt) (i k : Nat) : Option Mt :=
 if m.2 i < 0 ∨ m.1 k < 0 then some (J4 m i k) else W7 adj ni (Qk fx k true) (no - (i + 1)) (i + 1) (J4 m i k)
def Yv (adj : Nat → List Nat) (ni no : Nat) (i : Nat) : List Nat → Mt → Bl → Option (Nat × Mt × Bl)
 | [],_,_ => none
 | k :: r,m,fx =>
  if fx k then Yv adj ni no i r m fx
  else if m.2 i = k then some (k,m,Qk fx k true)
  else match Y9 adj ni no fx m i k with
   | some m' => some (k,m',Qk fx k true)
   | none => Yv adj ni no i r m fx
def Js (adj : Nat → List Nat) (ni no : Nat) : Nat → Nat → Mt → Bl → List (Nat × Nat)
 | 0,_,_,_ => []
 | n + 1,i,m,fx => match Yv adj ni no i (adj i) m fx with
  | some (k,m',fx') => (i,k) :: Js adj ni no n (i + 1) m' fx'
  | none => Js adj ni no n (i + 1) m fx
/-- The reference's choice. -/
def Jw (adj : Nat → List Nat) (ni no : Nat) (i : Nat) (left : Int) (fx : Bl) : List Nat → Option Nat
 | [] => none
 | k :: r => if fx k then Jw adj ni no i left fx r else if ((Zo adj ni (Qk fx k true) (no - (i + 1)) (i + 1) Z8).2 : Int) = left - 1 then some k else Jw adj ni no i left fx r
def Yo (adj : Nat → List Nat) (ni no : Nat) : Nat → Nat → Int → Bl → List (Nat × Nat)
 | 0,_,_,_ => []
 | n + 1,i,left,fx => match Jw adj ni no i left fx (adj i) with
  | some k => (i,k) :: Yo adj ni no n (i + 1) (left - 1) (Qk fx k true)
  | none => Yo adj ni no n (i + 1) left fx
def Yu (i no : Nat) : Nat → Prop:=fun o => i ≤ o ∧ o < no
structure Wj (adj : Nat → List Nat) (ni no i : Nat) (fx : Bl) (m : Mt) : Prop where
 t : Top adj ni (Yu i no) fx m.1
 i : Inv ni m
theorem P7 {adj : Nat → List Nat} {no i k : Nat} {fx : Bl} {M : List (Nat × Nat)} (hM : X5 adj (Yu (i + 1) no) (Qk fx k true) M) (hi : i < no) (hk : k ∈ adj i) (hf : fx k = false) : X5 adj (Yu i no) fx ((i,k) :: M):=by
 refine ⟨fun p hp => ?_,List.pairwise_cons.2 ⟨fun q hq => ?_,hM.o⟩,List.pairwise_cons.2 ⟨fun q hq => ?_,hM.i⟩⟩
 ·rcases List.mem_cons.1 hp with rfl | hp
  ·exact ⟨⟨Nat.le_refl _,hi⟩,hk,hf⟩
  ·obtain ⟨h1,h2,h3⟩:=hM.a p hp;refine ⟨⟨by have:=h1.1;omega,h1.2⟩,h2,?_⟩;by_cases e : p.2 = k
   ·rw [e];exact hf
   ·rw [Zl fx true e] at h3;exact h3
 ·have:=(hM.a q hq).1.1
  show i ≠ q.1;omega
 ·intro e;have:=(hM.a q hq).2.2;have e : k = q.2:=e;rw [← e,Z4] at this;exact absurd this (by decide)
theorem P9 {adj : Nat → List Nat} {no i k s : Nat} {fx : Bl} {M : List (Nat × Nat)} (hM : X5 adj (Yu (i + 1) no) (Qk fx k true) M) (hi : i < no) (hk : k ∈ adj i) (hf : fx k = false) (h : ∀ M,X5 adj (Yu i no) fx M → M.length ≤ s) : M.length + 1 ≤ s:=h ((i,k) :: M) (P7 hM hi hk hf)
theorem Qiu {adj : Nat → List Nat} {ni no i k : Nat} {fx : Bl} {m : Nat → Int} (V : Wl adj ni (Yu i no) fx m) (hk : m k = i) (hn : k < ni) : Wl adj ni (Yu (i + 1) no) (Qk fx k true) m:=by
 refine ⟨fun x hx hf h0 => ?_,V.u,fun x hx hf h0 => ?_⟩
 ·have e : x ≠ k := fun e => by subst e; rw [Z4] at hf; exact absurd hf (by decide)
  rw [Zl fx true e] at hf;obtain ⟨g1,g2⟩:=V.a x hx hf h0;refine ⟨⟨?_,g1.2⟩,g2⟩;have h1:=g1.1;refine Nat.lt_of_le_of_ne h1 fun h2 => e ?_
  exact Kn (V.u (i : Int) (by omega)) hx hn (by omega) hk
 ·by_cases e : x = k
  ·subst e;rw [hk];intro h;have:=h.1;simp only [Int.toNat_natCast] at this;omega
  ·rw [Zl fx true e] at hf;have:=V.f x hx hf h0;exact fun h => this ⟨by have:=h.1;omega,h.2⟩
theorem Qca {adj : Nat → List Nat} {ni no i k : Nat} {fx : Bl} {m : Mt} (J : Wj adj ni no i fx m) (hi : i < no) (hk : k ∈ adj i) (hn : k < ni) (hf : fx k = false) (hm : m.1 k = i) : Wj adj ni no (i + 1) (Qk fx k true) m ∧ Zq ni (Qk fx k true) m.1 + 1 = Zq ni fx m.1:=by
 have hs:=Tu hf (show 0 ≤ m.1 k by omega) hn;refine ⟨⟨⟨Qiu J.t.1 hm hn,fun M hM => ?_⟩,J.i⟩,hs⟩;have:=P9 hM hi hk hf J.t.2;omega
theorem Qig {adj : Nat → List Nat} {ni no i k : Nat} {fx : Bl} {m : Mt} (J : Wj adj ni no i fx m) (hi : i < no) (hn : k < ni) (hf : fx k = false) (hm : m.2 i ≠ k) :
  Wl adj ni (Yu (i + 1) no) (Qk fx k true) (J4 m i k).1 ∧ Inv ni (J4 m i k) ∧ Zq ni (Qk fx k true) (J4 m i k).1 + (if 0 ≤ m.2 i then 1 else 0) + (if 0 ≤ m.1 k then 1 else 0) = Zq ni fx m.1:=by
 have V:=J.t.1;have I:=J.i
 -- the partner of i dropped
 have hold : ∀ h : 0 ≤ m.2 i,(m.2 i).toNat < ni ∧ m.1 (m.2 i).toNat = i ∧ (m.2 i).toNat ≠ k ∧ fx (m.2 i).toNat = false:=fun h => by
  obtain ⟨g1,g2⟩:=I.o i h;refine ⟨g1,g2,fun e => hm (by omega),?_⟩;cases e : fx (m.2 i).toNat
  ·rfl
  ·refine absurd ?_ (V.f _ g1 e (by omega));rw [g2];exact ⟨by simp,by simpa using hi⟩
 have hA : ∀ x,Z7 m i x = m.1 x ∨ Z7 m i x = -1:=fun x => by
  unfold Z7
  split
  ·by_cases e : x = (m.2 i).toNat
   ·subst e;exact .inr (Z4 _ _ _)
   ·exact .inl (Zl _ _ e)
  ·exact .inl rfl
 have hAk : Z7 m i k = m.1 k:=by
  unfold Z7
  split
  ·rename_i h;exact Zl _ _ (fun e => (hold h).2.2.1 e.symm)
  ·rfl
 have hAi : ∀ x,x < ni → Z7 m i x ≠ i:=fun x hx e => by
  have hx0 : m.1 x = i:=by
   rcases hA x with h | h
   ·rw [← h];exact e
   ·rw [h] at e;omega
  have h0 : 0 ≤ m.2 i:=by have:=I.i x hx (by omega);rw [hx0] at this;simpa using this
  obtain ⟨g1,g2,_,_⟩:=hold h0;have:=Kn (V.u (i : Int) (by omega)) hx g1 hx0 g2;unfold Z7 at e;rw [if_pos h0,this,Z4] at e;omega
 have hAc : ∀ x : Int,0 ≤ x → Jt ni (Z7 m i) x ≤ Jt ni m.1 x:=fun x hx => by
  unfold Z7
  split
  ·rename_i h
   have:=Ls m.1 (-1 : Int) x (hold h).1;rw [if_neg (show ¬ (-1 : Int) = x by omega)] at this;omega
  ·exact Nat.le_refl _
 have hu : ∀ x : Int,0 ≤ x → Jt ni (Qk (Z7 m i) k i) x ≤ 1:=fun x hx => by
  have h1:=Ls (Z7 m i) (i : Int) x hn;have h2:=hAc x hx;have h3:=V.u x hx;by_cases e : (i : Int) = x
  ·have h4 : Jt ni (Z7 m i) x = 0:=by
    refine Nat.eq_zero_of_not_pos fun hp => ?_
    obtain ⟨y,q1,q2⟩:=Vc hp;exact hAi y q1 (q2.trans e.symm)
   rw [if_pos e] at h1;omega
  ·rw [if_neg e] at h1;omega
 refine ⟨⟨fun x hx hfx h0 => ?_,hu,fun x hx hfx h0 => ?_⟩,⟨fun o h => ?_,fun x hx h0 => ?_⟩,?_⟩
 ·have e : x ≠ k := fun e => by subst e; rw [Z4] at hfx; exact absurd hfx (by decide)
  rw [Zl fx true e] at hfx;have h0' : 0 ≤ Qk (Z7 m i) k i x:=h0
  show Yu (i + 1) no (Qk (Z7 m i) k i x).toNat ∧ x ∈ adj (Qk (Z7 m i) k i x).toNat
  rw [Zl _ _ e] at h0' ⊢
  have h1 : Z7 m i x = m.1 x:=by
   rcases hA x with h | h
   ·exact h
   ·omega
  have h2:=hAi x hx;rw [h1] at h0' h2 ⊢;obtain ⟨g1,g2⟩:=V.a x hx hfx h0';exact ⟨⟨by have:=g1.1;omega,g1.2⟩,g2⟩
 ·have h0' : 0 ≤ Qk (Z7 m i) k i x:=h0
  show ¬ Yu (i + 1) no (Qk (Z7 m i) k i x).toNat
  by_cases e : x = k
  ·subst e;rw [Z4];intro h;have:=h.1;simp only [Int.toNat_natCast] at this;omega
  ·rw [Zl _ _ e] at h0' ⊢;rw [Zl fx true e] at hfx
   have h1 : Z7 m i x = m.1 x:=by
    rcases hA x with h | h
    ·exact h
    ·omega
   rw [h1] at h0' ⊢;exact fun h => V.f x hx hfx h0' ⟨by have:=h.1;omega,h.2⟩
 ·have h' : 0 ≤ Qk (if 0 ≤ m.1 k then Qk m.2 (m.1 k).toNat (-1) else m.2) i k o:=h
  show (Qk (if 0 ≤ m.1 k then Qk m.2 (m.1 k).toNat (-1) else m.2) i k o).toNat < ni ∧ Qk (Z7 m i) k i (Qk (if 0 ≤ m.1 k then Qk m.2 (m.1 k).toNat (-1) else m.2) i k o).toNat = o
  by_cases e : o = i
  ·subst e;rw [Z4];exact ⟨by omega,by rw [show ((k : Int)).toNat = k by omega,Z4]⟩
  ·rw [Zl _ _ e] at h' ⊢
   have h2 : (if 0 ≤ m.1 k then Qk m.2 (m.1 k).toNat (-1) else m.2) o = m.2 o ∧ (0 ≤ m.1 k → o ≠ (m.1 k).toNat):=by
    by_cases c : 0 ≤ m.1 k
    ·rw [if_pos c] at h' ⊢;by_cases e2 : o = (m.1 k).toNat
     ·rw [e2,Z4] at h';omega
     ·exact ⟨Zl _ _ e2,fun _ => e2⟩
    ·rw [if_neg c];exact ⟨rfl,fun h => absurd h c⟩
   rw [h2.1] at h' ⊢;obtain ⟨g1,g2⟩:=I.o o h'
   have g3 : (m.2 o).toNat ≠ k:=fun e2 => by
    rw [e2] at g2;exact h2.2 (by omega) (by omega)
   refine ⟨g1,(Zl _ _ g3).trans ?_⟩;unfold Z7
   split
   ·rename_i c
    refine (Zl _ _ fun e2 => e ?_).trans g2;have:=(hold c).2.1;rw [← e2,g2] at this;omega
   ·exact g2
 ·have h0' : 0 ≤ Qk (Z7 m i) k i x:=h0
  show 0 ≤ Qk (if 0 ≤ m.1 k then Qk m.2 (m.1 k).toNat (-1) else m.2) i k (Qk (Z7 m i) k i x).toNat
  by_cases e : x = k
  ·subst e;rw [Z4,show ((i : Int)).toNat = i by omega,Z4];omega
  ·rw [Zl _ _ e] at h0' ⊢
   have h1 : Z7 m i x = m.1 x:=by
    rcases hA x with h | h
    ·exact h
    ·omega
   have h2:=hAi x hx;rw [h1] at h0' h2 ⊢;rw [Zl _ _ (by omega)];have h3:=I.i x hx h0'
   split
   ·rename_i c
    rw [Zl _ _ fun e2 => e (Kn (V.u (m.1 x) h0') hx hn rfl (by omega))];exact h3
   ·exact h3
 ·show Zq ni (Qk fx k true) (Qk (Z7 m i) k i) + _ + _ = _
  rw [Hx (fx':=Qk fx k true) (m':=Z7 m i) fun x hx => ⟨rfl,fun hfx => by
   have e : x ≠ k:=fun e => by subst e;rw [Z4] at hfx;exact absurd hfx (by decide)
   rw [Zl _ _ e]⟩]
  have h1 : Zq ni fx (Z7 m i) + (if 0 ≤ m.2 i then 1 else 0) = Zq ni fx m.1:=by
   unfold Z7
   split
   ·rename_i c
    obtain ⟨g1,g2,g3,g4⟩:=hold c;have:=Hy m.1 (-1 : Int) g4 g1;rw [if_pos (show 0 ≤ m.1 (m.2 i).toNat by omega),if_neg (show ¬ (0 : Int) ≤ -1 by omega)] at this;omega
   ·rfl
  have h2 : Zq ni (Qk fx k true) (Z7 m i) + (if 0 ≤ m.1 k then 1 else 0) = Zq ni fx (Z7 m i):=by
   by_cases c : 0 ≤ m.1 k
   ·rw [if_pos c];exact Tu hf (by rw [hAk];exact c) hn
   ·rw [if_neg c];exact Qac (by rw [hAk];exact c)
  omega
theorem Sa {adj : Nat → List Nat} {ni : Nat} {fx : Bl} {m m' : Mt} : ∀ {n j : Nat},W7 adj ni fx n j m = some m' → ∃ j',(j ≤ j' ∧ j' < j + n) ∧ m.2 j' < 0 ∧ (Q3 adj ni m fx j').1 = some m'
 | n + 1,j,h => by
  have more : W7 adj ni fx n (j + 1) m = some m' → ∃ j',(j ≤ j' ∧ j' < j + (n + 1)) ∧ m.2 j' < 0 ∧ (Q3 adj ni m fx j').1 = some m':=fun h => by
   obtain ⟨j',h1,h2⟩:=Sa h;exact ⟨j',⟨by omega,by omega⟩,h2⟩
  unfold W7 at h
  split at h
  ·rename_i hm
   split at h
   ·rename_i m'' e
    obtain rfl : m'' = m':=by simpa using h
    exact ⟨j,⟨Nat.le_refl _,by omega⟩,hm,e⟩
   ·exact more h
  ·exact more h
theorem Tz {adj : Nat → List Nat} {ni : Nat} {fx : Bl} {m : Mt} : ∀ {n j : Nat},W7 adj ni fx n j m = none → ∀ j',j ≤ j' → j' < j + n → m.2 j' < 0 → (Q3 adj ni m fx j').1 = none
 | 0,j,_,j',h1,h2,_ => by omega
 | n + 1,j,h,j',h1,h2,h3 => by
  unfold W7 at h;by_cases e : j' = j
  ·subst e;rw [if_pos h3] at h
   split at h
   ·exact absurd h (by simp)
   ·rename_i e;exact e
  ·split at h
   ·split at h
    ·exact absurd h (by simp)
    ·exact Tz h j' (by omega) (by omega) h3
   ·exact Tz h j' (by omega) (by omega) h3
theorem Qcb {adj : Nat → List Nat} {ni no i k : Nat} {fx : Bl} {m : Mt} (hadj : ∀ o,∀ k ∈ adj o,k < ni) (J : Wj adj ni no i fx m) (hi : i < no) (hk : k ∈ adj i) (hf : fx k = false) (hm : m.2 i ≠ k) :
  (∀ m',Y9 adj ni no fx m i k = some m' → Wj adj ni no (i + 1) (Qk fx k true) m' ∧ Zq ni (Qk fx k true) m'.1 + 1 = Zq ni fx m.1) ∧ (Y9 adj ni no fx m i k = none → ∀ s,Nu adj (Yu (i + 1) no) (Qk fx k true) s → s + 1 ≠ Zq ni fx m.1):=by
 obtain ⟨V,I,hs⟩:=Qig J hi (hadj i k hk) hf hm;have hc:=fun M (hM : X5 adj (Yu (i + 1) no) (Qk fx k true) M) => P9 hM hi hk hf J.t.2
 unfold Y9
 split
 ·rename_i h
  refine ⟨fun m' e => ?_,fun e => absurd e (by simp)⟩;obtain rfl : J4 m i k = m':=by simpa using e
  obtain ⟨M,h1,h2⟩:=Sj V;have h3:=hc M h1
  have h4 : Zq ni (Qk fx k true) (J4 m i k).1 + 1 = Zq ni fx m.1:=by
   rcases h with h | h
   ·rw [if_neg (show ¬ 0 ≤ m.2 i by omega)] at hs;split at hs <;> omega
   ·rw [if_neg (show ¬ 0 ≤ m.1 k by omega)] at hs;split at hs <;> omega
  exact ⟨⟨⟨V,fun M hM => by have:=hc M hM;omega⟩,I⟩,h4⟩
 ·rename_i h
  rw [if_pos (show 0 ≤ m.2 i by omega),if_pos (show 0 ≤ m.1 k by omega)] at hs;refine ⟨fun m' e => ?_,fun e s hn => ?_⟩
  ·obtain ⟨j,hj,hj0,ha⟩:=Sa e;have W:=G0 (fx:=Qk fx k true) hadj ni (Qk fx k true) j m' (fun _ h => h) ha;obtain ⟨O,_⟩:=G3 hadj I.o ni (Qk fx k true) j m' ha;have V2:=Qay V ⟨hj.1,by omega⟩ ((Fy I).1 hj0) W;have:=W.s;exact ⟨⟨⟨V2,fun M hM => by have:=hc M hM;omega⟩,Br I W O⟩,by omega⟩
  ·have T : Top adj ni (Yu (i + 1) no) (Qk fx k true) (J4 m i k).1:=Qij hadj V fun o ho hfr => Tz e o ho.1 (by have:=ho.2;omega) ((Fy I).2 hfr)
   have:=Ol hn T.nu;omega
theorem ref_nu {adj : Nat → List Nat} {ni no i k : Nat} {fx : Bl} (hadj : ∀ o,∀ k ∈ adj o,k < ni) (hi : i < no) : Nu adj (Yu (i + 1) no) (Qk fx k true) (Zo adj ni (Qk fx k true) (no - (i + 1)) (i + 1) Z8).2:=by
 have:=(Dy hadj (Qk fx k true) (i + 1) (no - (i + 1))).2.2;rw [show i + 1 + (no - (i + 1)) = no by omega] at this;exact this
theorem Pv {adj : Nat → List Nat} {ni no i : Nat} {fx : Bl} {m : Mt} (hadj : ∀ o,∀ k ∈ adj o,k < ni) (J : Wj adj ni no i fx m) (hi : i < no) : ∀ (l : List Nat),(∀ k ∈ l,k ∈ adj i) →
  (∀ k m' fx',Yv adj ni no i l m fx = some (k,m',fx') → k ∈ adj i ∧ fx k = false ∧ fx' = Qk fx k true ∧ Wj adj ni no (i + 1) fx' m' ∧ Zq ni fx' m'.1 + 1 = Zq ni fx m.1 ∧ Jw adj ni no i (Zq ni fx m.1) fx l = some k) ∧
  (Yv adj ni no i l m fx = none → Jw adj ni no i (Zq ni fx m.1) fx l = none ∧ ∀ k ∈ l,fx k = false → m.2 i ≠ k)
 | [],_ => ⟨fun k m' fx' h => by simp [Yv] at h,fun _ => ⟨rfl,fun k hk => absurd hk (by simp)⟩⟩
 | k :: r,hl => by
  have IH:=Pv hadj J hi r fun x hx => hl x (List.mem_cons_of_mem _ hx)
  have hk:=hl k List.mem_cons_self;unfold Yv Jw;by_cases hf : fx k = true
  ·rw [if_pos hf,if_pos hf];refine ⟨IH.1,fun h => ⟨(IH.2 h).1,fun x hx hfx => ?_⟩⟩;rcases List.mem_cons.1 hx with rfl | hx
   ·rw [hf] at hfx;exact absurd hfx (by decide)
   ·exact (IH.2 h).2 x hx hfx
  rw [if_neg hf,if_neg hf];have hf' : fx k = false:=by simpa using hf
  have hn:=ref_nu (fx:=fx) (k:=k) hadj hi;by_cases hm : m.2 i = k
  ·rw [if_pos hm]
   have hm1 : m.1 k = i:=by
    have:=(J.i.o i (by omega)).2;rw [hm] at this;simpa using this
   obtain ⟨g1,g2⟩:=Qca J hi hk (hadj i k hk) hf' hm1;have e:=Ol hn g1.t.nu;refine ⟨fun k' m' fx' h => ?_,fun h => absurd h (by simp)⟩;obtain ⟨rfl,rfl,rfl⟩ : k = k' ∧ m = m' ∧ Qk fx k true = fx':=by simpa using h
   exact ⟨hk,hf',rfl,g1,g2,by rw [if_pos (by omega)]⟩
  ·rw [if_neg hm];obtain ⟨g1,g2⟩:=Qcb hadj J hi hk hf' hm
   cases hs : Y9 adj ni no fx m i k with
   | some m1 =>
    obtain ⟨q1,q2⟩:=g1 m1 hs;have e:=Ol hn q1.t.nu;refine ⟨fun k' m' fx' h => ?_,fun h => absurd h (by simp)⟩;obtain ⟨rfl,rfl,rfl⟩ : k = k' ∧ m1 = m' ∧ Qk fx k true = fx':=by simpa using h
    exact ⟨hk,hf',rfl,q1,q2,by rw [if_pos (by omega)]⟩
   | none =>
    have:=g2 hs _ hn;rw [if_neg (by omega)];refine ⟨IH.1,fun h => ⟨(IH.2 h).1,fun x hx hfx => ?_⟩⟩;rcases List.mem_cons.1 hx with rfl | hx
    ·exact hm
    ·exact (IH.2 h).2 x hx hfx
theorem Qb9 {adj : Nat → List Nat} {ni no i : Nat} {fx : Bl} {m : Mt} (J : Wj adj ni no i fx m) (hi : i < no) (h : ∀ k ∈ adj i,fx k = false → m.2 i ≠ k) : Wj adj ni no (i + 1) fx m:=by
 have hfr : m.2 i < 0:=by
  refine Int.not_le.1 fun h0 => ?_
  obtain ⟨g1,g2⟩:=J.i.o i h0;cases hf : fx (m.2 i).toNat
  ·have:=(J.t.1.a _ g1 hf (by omega)).2;rw [g2] at this;exact h _ (by simpa using this) hf (by omega)
  ·have:=J.t.1.f _ g1 hf (by omega);rw [g2] at this;exact this ⟨by simp,by simpa using hi⟩
 have hF:=(Fy J.i).1 hfr;refine ⟨⟨⟨fun k hk hf h0 => ?_,J.t.1.u,fun k hk hf h0 hr => J.t.1.f k hk hf h0 ⟨by have:=hr.1;omega,hr.2⟩⟩,fun M hM => J.t.2 M ⟨fun p hp => ?_,hM.o,hM.i⟩⟩,J.i⟩
 ·obtain ⟨g1,g2⟩:=J.t.1.a k hk hf h0;refine ⟨⟨?_,g1.2⟩,g2⟩;refine Nat.lt_of_le_of_ne g1.1 fun e => ?_
  have:=V1 (m:=m.1) (x:=(i : Int)) hk (by omega);unfold Xk at hF;omega
 ·obtain ⟨h1,h2⟩:=hM.a p hp;exact ⟨⟨by have:=h1.1;omega,h1.2⟩,h2⟩
/-- The program's choice is the reference's; and no list of pairs is longer. -/
theorem Fd {adj : Nat → List Nat} {ni no : Nat} (hadj : ∀ o,∀ k ∈ adj o,k < ni) : ∀ (n i : Nat) (m : Mt) (fx : Bl),i + n = no → Wj adj ni no i fx m →
  Js adj ni no n i m fx = Yo adj ni no n i (Zq ni fx m.1) fx ∧ X5 adj (Yu i no) fx (Js adj ni no n i m fx) ∧ (Js adj ni no n i m fx).length = Zq ni fx m.1 ∧ (Js adj ni no n i m fx).Pairwise fun p q => p.1 < q.1
 | 0,i,m,fx,hn,J => by
  refine ⟨rfl,⟨fun p hp => absurd hp (by simp [Js]),List.Pairwise.nil,List.Pairwise.nil⟩,?_,List.Pairwise.nil⟩;obtain ⟨M,h1,h2⟩:=Sj J.t.1
  cases M with
  | nil => exact h2
  | cons p r =>
   have:=(h1.a p List.mem_cons_self).1;have h3:=this.1;have h4:=this.2
   omega
 | n + 1,i,m,fx,hn,J => by
  have hi : i < no:=by omega
  obtain ⟨g1,g2⟩:=Pv hadj J hi (adj i) fun _ h => h
  unfold Js Yo
  cases h : Yv adj ni no i (adj i) m fx with
  | none =>
   obtain ⟨q1,q2⟩:=g2 h;rw [q1];obtain ⟨c1,c2,c3,c4⟩:=Fd hadj n (i + 1) m fx (by omega) (Qb9 J hi q2)
   exact ⟨c1,⟨fun p hp => by obtain ⟨a1,a2⟩:=c2.a p hp;exact ⟨⟨by have:=a1.1;omega,a1.2⟩,a2⟩,c2.o,c2.i⟩,c3,c4⟩
  | some x =>
   obtain ⟨k,m',fx'⟩:=x;obtain ⟨q1,q2,rfl,q4,q5,q6⟩:=g1 k m' fx' h;rw [q6];obtain ⟨c1,c2,c3,c4⟩:=Fd hadj n (i + 1) m' (Qk fx k true) (by omega) q4;refine ⟨?_,P7 c2 hi q1 q2,?_,List.pairwise_cons.2 ⟨fun q hq => ?_,c4⟩⟩
   ·show (i,k) :: _ = (i,k) :: _
    rw [c1,show ((Zq ni fx m.1 : Nat) : Int) - 1 = ((Zq ni (Qk fx k true) m'.1 : Nat) : Int) by omega]
   ·show (Js adj ni no n (i + 1) m' (Qk fx k true)).length + 1 = _
    omega
   ·have:=(c2.a q hq).1.1
    show i < q.1;omega
/-- The whole: as the program begins it. -/
def Vb (adj : Nat → List Nat) (ni no : Nat) : List (Nat × Nat):=Js adj ni no no 0 (Zo adj ni (fun _ => false) no 0 Z8).1 (fun _ => false)
def Pw (adj : Nat → List Nat) (ni no : Nat) : List (Nat × Nat):=Yo adj ni no no 0 (Zo adj ni (fun _ => false) no 0 Z8).2 (fun _ => false)
theorem Qcl {adj : Nat → List Nat} {ni no : Nat} (hadj : ∀ o,∀ k ∈ adj o,k < ni) : Vb adj ni no = Pw adj ni no ∧ X5 adj (Yu 0 no) (fun _ => false) (Vb adj ni no) ∧ Nu adj (Yu 0 no) (fun _ => false) (Vb adj ni no).length ∧ (Vb adj ni no).Pairwise fun p q => p.1 < q.1:=by
 obtain ⟨T,I,N⟩:=Dy hadj (fun _ => false) 0 no;simp only [Nat.zero_add] at T N;have J : Wj adj ni no 0 (fun _ => false) (Zo adj ni (fun _ => false) no 0 Z8).1:=⟨T,I⟩;obtain ⟨c1,c2,c3,c4⟩:=Fd hadj no 0 _ _ (by omega) J;have e:=Ol N J.t.nu;refine ⟨?_,c2,?_,c4⟩
 ·unfold Vb Pw;rw [c1,e]
 ·unfold Vb;rw [c3];exact J.t.nu
structure LtOk (x : Lt) : Prop where
 g : Zx x.g = true
 n0 : x.n ≠ 0
 hi : x.n ≤ 1099511627776
 lo : -1099511627776 ≤ x.n
structure LsOk (l : List Lt) : Prop where
 a : ∀ x ∈ l,LtOk x
 s : l.Pairwise fun x y => J3 x.g y.g = true
theorem LsOk.up {x : Lt} {l : List Lt} (h : LsOk (x :: l)) : ∀ y ∈ l,J3 x.g y.g = true:=(List.pairwise_cons.1 h.s).1
theorem Qf4 {s : ByteArray} (h : Zx s = true) : s.size ≠ 0:=by
 unfold Zx at h;simp only [Bool.and_eq_true,decide_eq_true_eq] at h;omega
theorem Ah {x y : Lt} (h : LtOk x) : Ue x y = x.g:=by unfold Ue;rw [if_neg (Qf4 h.g)]
theorem Qf3 {y : Lt} : Ue Xg y = y.g:=rfl
/-- Where the pairs of a merge come from. -/
def U9 (a b : List Lt) (p : Lt × Lt) : Prop:=(p.1 ∈ a ∧ p.2 = Xg) ∨ (p.1 = Xg ∧ p.2 ∈ b) ∨ (p.1 ∈ a ∧ p.2 ∈ b)
theorem U9.l {a b : List Lt} {x : Lt} {p : Lt × Lt} (h : U9 a b p) : U9 (x :: a) b p:=by
 rcases h with ⟨h1,h2⟩ | ⟨h1,h2⟩ | ⟨h1,h2⟩
 ·exact .inl ⟨List.mem_cons_of_mem _ h1,h2⟩
 ·exact .inr (.inl ⟨h1,h2⟩)
 ·exact .inr (.inr ⟨List.mem_cons_of_mem _ h1,h2⟩)
theorem U9.r {a b : List Lt} {y : Lt} {p : Lt × Lt} (h : U9 a b p) : U9 a (y :: b) p:=by
 rcases h with ⟨h1,h2⟩ | ⟨h1,h2⟩ | ⟨h1,h2⟩
 ·exact .inl ⟨h1,h2⟩
 ·exact .inr (.inl ⟨h1,List.mem_cons_of_mem _ h2⟩)
 ·exact .inr (.inr ⟨h1,List.mem_cons_of_mem _ h2⟩)
theorem U9.up {a b : List Lt} {p : Lt × Lt} {u : ByteArray} (h : U9 a b p) (ha : LsOk a) (h1 : ∀ x ∈ a,J3 u x.g = true) (h2 : ∀ y ∈ b,J3 u y.g = true) : J3 u (Ue p.1 p.2) = true:=by
 rcases h with ⟨h3,h4⟩ | ⟨h3,h4⟩ | ⟨h3,h4⟩
 ·rw [Ah (ha.a _ h3)];exact h1 _ h3
 ·rw [h3,Qf3];exact h2 _ h4
 ·rw [Ah (ha.a _ h3)];exact h1 _ h3
/-- What a valid period says, deal by deal. -/
structure Xu (c : Qf) (p : Pd) : Prop where
 n : Zx p.h = true
 a0 : 0 < c.numV p.a
 ab : c.numV p.a ≤ c.numV p.b
 o : Yd p.o = 0
 k : Yd p.c = 0
 m : p.d.length ≤ 64
 l : ∀ x ∈ p.d,Zx x.w = true ∧ x.w ≠ p.h ∧ Xi x.l = true ∧ c.numV p.a ≤ c.numV x.on ∧ c.numV x.on ≤ c.numV p.b
 s : p.d.Pairwise fun x y => c.numV x.on ≤ c.numV y.on
theorem Qg7 {c : Qf} {p : Pd} (h : c.perOk p = true) : Xu c p:=by
 have k:=pdOk h;unfold Qf.perOk at h;rw [Bool.and_eq_true] at h;obtain ⟨h1,h2⟩:=h;unfold Qf.perHead Qf.spanV at h1;simp only [Bool.and_eq_true,decide_eq_true_eq] at h1;have h3 : ∀ i,i < p.d.length → c.dealOk p i = true:=fun i hi => List.all_eq_true.1 h2 i (by simpa using hi)
 refine ⟨h1.1.1.1.1,h1.1.1.1.2.1,h1.1.1.1.2.2,h1.1.1.2,h1.1.2,h1.2,fun x hx => ?_,k.sorted⟩;obtain ⟨i,hi,rfl⟩:=List.mem_iff_getElem.1 hx;have h4:=h3 i hi;unfold Qf.dealOk at h4;simp only [Bool.not_eq_true',Bool.or_eq_false_iff,decide_eq_false_iff_not,Bool.not_eq_false'] at h4;rw [Pd.dl_get hi] at h4;have h5:=k.lo 0 (by omega);have h6:=k.mono (i:=0) (j:=i) (by omega) hi;have h7 : p.d.getD i Zi = p.d[i]:=by simp [List.getD_eq_getElem?_getD,hi]
 rw [h7] at h6;have h8 : c.numV p.a ≤ c.numV (p.d.getD 0 Zi).on:=h5;exact ⟨h4.1.1.2,h4.1.2,h4.2,by omega,by omega⟩
/-- Both parts of a period that is divided. -/
structure DivOk (c : Qf) (p x y : Pd) : Prop where
 b : c.behV x y = true
 xy : x.c = y.o
 j : Ca x y = p
 s : J8 x.o x.d = (x.c,0)
 t : J8 y.o y.d = J8 p.o p.d
 m : x.d.length + y.d.length = p.d.length
 px : Xu c x
 py : Xu c y
/-- The join of the first periods, w, whose last one is q. -/
structure JnOk (c : Qf) (w q : Pd) : Prop where
 h : w.h = q.h
 b : w.b = q.b
 k : w.c = q.c
 ok : Xu c w
/-- Periods that follow each other. -/
def Qf.links (c : Qf) : List Pd → Prop
 | x :: y :: r => (c.behV x y = true ∧ x.c = y.o) ∧ c.links (y :: r)
 | _ => True
def joinsV (l : List Pd) : Pd:=match l with | [] => noPd | x :: r => r.foldl Ca x
/-- What Carry has made. -/
structure CarOk (c : Qf) (k : List Pd) : Prop where
 a : ∀ x ∈ k,Xu c x ∧ J8 x.o x.d = (x.c,0)
 l : c.links k
theorem Qbm {c : Qf} {l : List Pd} (h : c.archE l = 0) : c.valid = true ∧ ∀ p ∈ l,Xu c p:=by
 unfold Qf.archE at h
 split at h
 ·rename_i h1;exact absurd h h1
 rename_i h1
 have hv : c.valid = true:=by
  have h2 : c.chk = 0:=Decidable.not_not.1 h1;unfold Qf.chk at h2
  split at h2
  ·assumption
  ·exact absurd h2 (by decide)
 refine ⟨hv,fun p hp => ?_⟩
 split at h
 ·exact absurd h (by decide)
 unfold Qf.persE at h
 split at h
 ·rename_i h3;exact Qg7 (List.all_eq_true.1 h3 p hp)
 ·exact absurd h (by decide)
/-- The loop of CarryJoins: w is the join of the first i + 1 periods. -/
structure CjOk (c : Qf) (k : List Pd) (i : Nat) (w : Pd) : Prop where
 hi : i < k.length
 j : JnOk c w (k.getD i Qx)
 s : J8 w.o w.d = (w.c,0)
 o : w.o = (k.getD 0 Qx).o
/-- The loop of TopCarries: P are the parts made, r is what is left of p, W is the balance of the whole. -/
structure TopS (c : Qf) (p : Pd) (W : List Lt) (P : List Pd) (r : Pd) : Prop where
 a : ∀ x ∈ P,Xu c x ∧ J8 x.o x.d = (x.c,0)
 s : J8 r.o r.d = (W,0)
 l : c.links (P ++ [r])
 j : joinsV (P ++ [r]) = p
 ok : Xu c r
abbrev Rf:=Nat × Nat
def Q7 : Rf:=(0,0)
def J7 (p : Pd) (b : Bool) (i : Nat) : Nat → List Rf
 | 0 => []
 | k + 1 => J7 p b i k ++ (if (p.d.getD k Zi).i = b then [(i,k)] else [])
def J6 (l : List Pd) (b : Bool) : Nat → List Rf
 | 0 => []
 | i + 1 => J6 l b i ++ J7 (l.getD i Qx) b i (l.getD i Qx).d.length
def Q9 (l : List Pd) (b : Bool) : List Rf:=J6 l b l.length
def Q0 (l : List Pd) (r : Rf) : Dl:=(l.getD r.1 Qx).d.getD r.2 Zi
theorem Il {p : Pd} {b : Bool} {i : Nat} {x : Rf} : ∀ {n : Nat},x ∈ J7 p b i n ↔ x.1 = i ∧ x.2 < n ∧ (p.d.getD x.2 Zi).i = b
 | 0 => by simp [J7]
 | n + 1 => by
  unfold J7;rw [List.mem_append,Il]
  constructor
  ·rintro (⟨h1,h2,h3⟩ | h)
   ·exact ⟨h1,by omega,h3⟩
   ·split at h
    ·rename_i e
     rw [List.mem_singleton] at h;subst h;exact ⟨rfl,by simp,e⟩
    ·exact absurd h (by simp)
  ·rintro ⟨h1,h2,h3⟩;by_cases e : x.2 = n
   ·right
    rw [← e,if_pos h3,List.mem_singleton];exact Prod.ext h1 rfl
   ·exact .inl ⟨h1,by omega,h3⟩
theorem Ik {l : List Pd} {b : Bool} {x : Rf} : ∀ {n : Nat},x ∈ J6 l b n ↔ x.1 < n ∧ x.2 < (l.getD x.1 Qx).d.length ∧ (Q0 l x).i = b
 | 0 => by simp [J6]
 | n + 1 => by
  unfold J6;rw [List.mem_append,Ik,Il]
  constructor
  ·rintro (⟨h1,h2⟩ | ⟨h1,h2,h3⟩)
   ·exact ⟨by omega,h2⟩
   ·subst h1;exact ⟨by omega,h2,h3⟩
  ·rintro ⟨h1,h2,h3⟩;by_cases e : x.1 = n
   ·right;subst e;exact ⟨rfl,h2,h3⟩
   ·exact .inl ⟨by omega,h2,h3⟩
theorem U3 {l : List Pd} {b : Bool} {x : Rf} : x ∈ Q9 l b ↔ x.1 < l.length ∧ x.2 < (l.getD x.1 Qx).d.length ∧ (Q0 l x).i = b:=Ik
def Qf.mayB (c : Qf) (l : List Pd) (days : Int) (x y : Rf) : Bool :=
 decide ((Q0 l x).w = (l.getD y.1 Qx).h) && decide ((Q0 l y).w = (l.getD x.1 Qx).h) && decide ((Q0 l x).l = (Q0 l y).l) && decide (0 ≤ c.numV (Q0 l y).on - c.numV (Q0 l x).on) && decide (c.numV (Q0 l y).on - c.numV (Q0 l x).on ≤ days)
def Qf.adjA (c : Qf) (l : List Pd) (days : Int) (o : Nat) : List Nat:=(List.range (Q9 l true).length).filter fun k => c.mayB l days ((Q9 l false).getD o Q7) ((Q9 l true).getD k Q7)
def Qf.matchI (c : Qf) (l : List Pd) (days : Int) : List (Nat × Nat):=Vb (c.adjA l days) (Q9 l true).length (Q9 l false).length
def Qf.matchL (c : Qf) (l : List Pd) (days : Int) : List (Rf × Rf):=(c.matchI l days).map fun p => ((Q9 l false).getD p.1 Q7,(Q9 l true).getD p.2 Q7)
def Qf.audE (c : Qf) (l : List Pd) (days : Int) : Int:=if c.archE l ≠ 0 then c.archE l else if days < 0 ∨ 400 < days then 8 else 0
def Qf.matchV (c : Qf) (l : List Pd) (days : Int) : List (Rf × Rf) × Int:=if c.audE l days ≠ 0 then ([],c.audE l days) else (c.matchL l days,0)
theorem Su (c : Qf) (l : List Pd) (days : Int) : ∀ o,∀ k ∈ c.adjA l days o,k < (Q9 l true).length:=fun _ _ hk => List.mem_range.1 (List.mem_filter.1 hk).1
theorem Xy {α : Type} {z : α} {l : List α} {i : Nat} (h : i < l.length) : l.getD i z ∈ l:=by
 simp [List.getD_eq_getElem?_getD,h]
theorem pok_at {c : Qf} {l : List Pd} (h : ∀ p ∈ l,Xu c p) {x : Rf} {b : Bool} (hx : x ∈ Q9 l b) : Xu c (l.getD x.1 Qx) ∧ Q0 l x ∈ (l.getD x.1 Qx).d:=by
 obtain ⟨h1,h2,_⟩:=U3.1 hx;exact ⟨h _ (Xy h1),Xy h2⟩
theorem Gs {c : Qf} {l : List Pd} {days : Int} (h : c.audE l days = 0) : (c.valid = true ∧ ∀ p ∈ l,Xu c p) ∧ 0 ≤ days ∧ days ≤ 400:=by
 unfold Qf.audE at h
 split at h
 ·rename_i h1;exact absurd h h1
 rename_i h1
 split at h
 ·exact absurd h (by decide)
 ·exact ⟨Qbm (Decidable.not_not.1 h1),by omega,by omega⟩
end
section
open Go Go.RowKit Go.Shelf
attribute [local go_sem] Z5
structure Vv (W : World) (ba : Nat) (A A' : Option Addr) (ca cb : Nat) (c : Qf) (vl : Value) (l : List Pd) : Prop where
 b : Qa W ba 132 #[.slice A c.nk ca,.slice A' c.ny cb,vl,.slice none 0 0]
 C : Q8 W A ca A' cb c
 P : Yf W vl l
theorem Vv.ext {W W' : World} {ba : Nat} {A A' : Option Addr} {ca cb : Nat} {c : Qf} {vl : Value} {l : List Pd} (h : Vv W ba A A' ca cb c vl l) (x : Qb W W') : Vv W' ba A A' ca cb c vl l:=⟨h.b.ext x,h.C.ext x,h.P.ext x⟩
theorem V9 {W : World} {b : Nat} {t : TypeId} {v0 v1 v2 v3 v4 v5 v6 : Value} (h : Qa W b t #[v0,v1,v2,v3,v4,v5,v6]) (u0 u1 u2 u3 u4 u5 u6 : Value) : Qa (((((((W.setCell ⟨b,0,none⟩ u0).setCell ⟨b,1,none⟩ u1).setCell ⟨b,2,none⟩ u2).setCell ⟨b,3,none⟩ u3).setCell ⟨b,4,none⟩ u4).setCell ⟨b,5,none⟩ u5).setCell ⟨b,6,none⟩ u6) b t #[u0,u1,u2,u3,u4,u5,u6]:=by unfold Qa at h ⊢;simp [World.setCell,Array.getElem?_modify,h]
theorem V4 {w W : World} {b : Nat} (h : Qb w W) (hb : w.heap.size ≤ b) (u0 u1 u2 u3 u4 u5 u6 : Value) : Qb w (((((((W.setCell ⟨b,0,none⟩ u0).setCell ⟨b,1,none⟩ u1).setCell ⟨b,2,none⟩ u2).setCell ⟨b,3,none⟩ u3).setCell ⟨b,4,none⟩ u4).setCell ⟨b,5,none⟩ u5).setCell ⟨b,6,none⟩ u6) :=
 (((((((h.setCell (p:=⟨b,0,none⟩) hb u0).setCell (p:=⟨b,1,none⟩) hb u1).setCell (p:=⟨b,2,none⟩) hb u2).setCell (p:=⟨b,3,none⟩) hb u3).setCell (p:=⟨b,4,none⟩) hb u4).setCell (p:=⟨b,5,none⟩) hb u5).setCell (p:=⟨b,6,none⟩) hb u6)
def cutE (A : Option Addr → Nat → Option Addr → Nat → Nat → Nat → Act) (S : World → Option Addr → Nat → Option Addr → Nat → Nat → Nat → Prop) : Exit → Act → World → Prop:=fun e a' w' => e = .normal ∧ ∃ F1 m1 F2 m2 p1 p2,S w' F1 m1 F2 m2 p1 p2 ∧ a' = A F1 m1 F2 m2 p1 p2
theorem Qcx {A : Option Addr → Nat → Option Addr → Nat → Nat → Nat → Act} {S : World → Option Addr → Nat → Option Addr → Nat → Nat → Nat → Prop} {w' : World} (F1 : Option Addr) (m1 : Nat) (F2 : Option Addr) (m2 p1 p2 : Nat) {a' : Act} (h : S w' F1 m1 F2 m2 p1 p2) (ha : a' = A F1 m1 F2 m2 p1 p2) : cutE A S .normal a' w':=⟨rfl,F1,m1,F2,m2,p1,p2,h,ha⟩
theorem Qjh {P : Program} {c : Code} {Q : Exit → Act → World → Prop} {a : Act} {w : World} {A : Option Addr → Nat → Option Addr → Nat → Nat → Nat → Act} (S : World → Option Addr → Nat → Option Addr → Nat → Nat → Nat → Prop) (h1 : c.wp P (cutE A S) a w) (h2 : ∀ F1 m1 F2 m2 p1 p2 w',S w' F1 m1 F2 m2 p1 p2 → Q .normal (A F1 m1 F2 m2 p1 p2) w') : c.wp P Q a w :=
 Code.wp_mono (fun e a' w' ⟨he,F1,m1,F2,m2,p1,p2,hs,ha⟩ => by subst he;subst ha;exact h2 F1 m1 F2 m2 p1 p2 w' hs) h1
theorem Qbo (A A' : Option Addr) (ca cb : Nat) (c : Qf) (l : List Pd) (vl : Value) (days : Int) (w : World) (hC : Q8 w A ca A' cb c) (hP : Yf w vl l) :
  Calls Tryz.prog 34 #[.agg #[.slice A c.nk ca,.slice A' c.ny cb],vl,.int .i64 days] w fun e w' => ∃ pv,e = .returned (.tuple #[pv,.int .i64 (c.audE l days)]) ∧ Qb w w' ∧ (c.audE l days = 0 → ∃ ba,pv = .pointer (some ⟨ba,0,none⟩) ∧ w.heap.size ≤ ba ∧ Qa w' ba 132 #[.slice A c.nk ca,.slice A' c.ny cb,vl,.slice none 0 0]):=by
 have NV:=fun w h1 h2 => Qbn A A' ca cb c vl l w h1 h2
 obtain ⟨pe,hpe⟩:=Qg (c.archE l);simp only [← hpe] at NV;replace hpe:=Lib.hid hpe;obtain ⟨RE,hRE⟩:=Qg (c.audE l days);rw [← hRE];replace hRE:=Lib.hid hRE
 go_enter Tryz.func34,Tryz.ntmps34
 go_upto_region 1 with (fail)
 obtain ⟨v,hv⟩:=Qg (w.alloc (.cells #[.slice A c.nk ca,.slice A' c.ny cb] 25));rw [← hv];have E : Qb w v:=by rw [hv];exact (Qb.refl _).alloc _
 have B1 : Qa v w.heap.size 25 #[.slice A c.nk ca,.slice A' c.ny cb]:=by rw [hv];exact (Qa.new _ _ _)
 clear hv;obtain ⟨b1,hb1⟩:=Qg (w.heap.size);rw [← hb1] at B1 ⊢;have hbr : w.heap.size ≤ b1:=by omega
 clear hb1;have C:=hC.ext E;clear hC;obtain ⟨k0,k1⟩:=B1.c2;have kl:=B1.lt;go_upto_region 2 with (go_at_call 58;(with_reducible refine Calls.mono (NV _ C (hP.ext E)) ?_);rintro e w1 ⟨rfl,hx⟩;replace E:=E.trans hx;replace C:=C.ext hx;replace B1:=B1.ext hx;clear hx;clear k0 k1 kl;obtain ⟨k0,k1⟩:=B1.c2;have kl:=B1.lt)
 obtain ⟨vb1,hv⟩:=Qg (w1.alloc (.cells #[.slice A c.nk ca,.slice A' c.ny cb] 130));rw [← hv];have hx : Qb w1 vb1:=by rw [hv];exact (Qb.refl _).alloc _
 have B6 : Qa vb1 w1.heap.size 130 #[.slice A c.nk ca,.slice A' c.ny cb]:=by rw [hv];exact Qa.new _ _ _
 clear hv;generalize w1.heap.size = bb1 at *;clear k0 k1 kl;replace E:=E.trans hx;replace C:=C.ext hx;replace B1:=B1.ext hx;clear hx;obtain ⟨k0,k1⟩:=B1.c2;have kl:=B1.lt;obtain ⟨q0,q1⟩:=B6.c2;have ql:=B6.lt;clear NV;by_cases e0 : pe = 0;rotate_left
 ·have g0 : (pe == 0) = false := beq_eq_false_iff_ne.2 e0;have g0n : (pe != 0) = true := by rw [bne, g0]; rfl
  obtain rfl : RE = pe:=by rw [hRE.out];unfold Qf.audE;rw [← hpe.out];exact if_pos e0
  clear hRE hpe;go_wp2;go_ret2;exact ⟨_,rfl,E,fun h => absurd h e0⟩
 subst e0;by_cases hd : days < 0 ∨ 400 < days
 ·obtain rfl : RE = 8 := by rw [hRE.out]; unfold Qf.audE; rw [← hpe.out, if_neg (by simp), if_pos hd]
  clear hRE hpe;by_cases h1 : days < 0
  ·have g1 : decide (days < 0) = true:=decide_eq_true h1;clear hd;go_wp2;go_ret2;exact ⟨_,rfl,E,fun h => absurd h (by decide)⟩
  ·have g1 : decide (days < 0) = false:=decide_eq_false h1;have g2 : decide (400 < days) = true:=decide_eq_true (by omega);clear hd h1;go_wp2;go_ret2;exact ⟨_,rfl,E,fun h => absurd h (by decide)⟩
 obtain rfl : RE = 0:=by rw [hRE.out];unfold Qf.audE;rw [← hpe.out,if_neg (by simp),if_neg hd]
 have g1 : decide (days < 0) = false:=decide_eq_false (by omega);have g2 : decide (400 < days) = false:=decide_eq_false (by omega);clear hd hRE hpe;obtain ⟨DL,cL,_,_,_,e1,_⟩:=id hP;subst e1;go_wp2;go_ret2;exact ⟨_,rfl,E.alloc _,_,rfl,E.size,Qa.new _ _ _⟩
theorem Dj (A A' : Option Addr) (ca cb : Nat) (c : Qf) (l : List Pd) (vl : Value) (ba : Nat) (x : Rf) (W0 w : World) (x0 : Qb W0 w) (hA : Vv W0 ba A A' ca cb c vl l) (hi : x.1 < l.length) (hk : x.2 < (l.getD x.1 Qx).d.length) :
  Calls Tryz.prog 125 #[.pointer (some ⟨ba,0,none⟩),.agg #[.int .i64 (x.1 : Nat),.int .i64 (x.2 : Nat)]] w fun e w' => ∃ F m,e = .returned (.agg #[.int .i64 (Q0 l x).on.y,.int .i64 (Q0 l x).on.m,.bool (Q0 l x).on.s,.int .i64 (Q0 l x).on.d,.bool (Q0 l x).i,.string (Q0 l x).w,.slice F (Q0 l x).l.length m]) ∧ Qb w w' ∧ Zz W0 (.slice F (Q0 l x).l.length m) (Q0 l x).l:=by
 obtain ⟨D,cap,vo,vd,vc,e0,hD,hcap,hmax,_,hat⟩:=id hA.P;subst e0;obtain ⟨T,ct,vs,e1,hT,hct,hmt,_,hatT⟩:=id (hat x.1 hi).d
 have hll : ∃ F m,vs x.2 = .slice F (Q0 l x).l.length m:=by
  obtain ⟨F,m,e,_⟩:=id (hatT x.2 hk);exact ⟨F,m,e⟩
 have hL : Zz W0 (vs x.2) (Q0 l x).l:=hatT x.2 hk;obtain ⟨F,m,hvs⟩:=hll;rw [hvs] at hL;obtain ⟨b,off,hDe,hb,hc⟩:=hD (by omega);subst hDe;obtain ⟨b',off',hTe,hb',hc'⟩:=hT (by omega);subst hTe
 have c10 : W0.cell? ⟨b,off + x.1 * 12 + 10,none⟩ = some (.slice (some ⟨b',off',none⟩) (l.getD x.1 Qx).d.length ct):=by
  have:=hc x.1 10 (vd x.1) hi rfl;rw [e1] at this;exact this
 have d0 : W0.cell? ⟨b',off' + x.2 * 7,none⟩ = some (.int .i64 (Q0 l x).on.y):=by simpa [Qz,Q0] using hc' x.2 0 _ hk rfl
 have d1 : W0.cell? ⟨b',off' + x.2 * 7 + 1,none⟩ = some (.int .i64 (Q0 l x).on.m):=by simpa [Qz,Q0] using hc' x.2 1 _ hk rfl
 have d2 : W0.cell? ⟨b',off' + x.2 * 7 + 2,none⟩ = some (.bool (Q0 l x).on.s):=by simpa [Qz,Q0] using hc' x.2 2 _ hk rfl
 have d3 : W0.cell? ⟨b',off' + x.2 * 7 + 3,none⟩ = some (.int .i64 (Q0 l x).on.d):=by simpa [Qz,Q0] using hc' x.2 3 _ hk rfl
 have d4 : W0.cell? ⟨b',off' + x.2 * 7 + 4,none⟩ = some (.bool (Q0 l x).i):=by simpa [Qz,Q0] using hc' x.2 4 _ hk rfl
 have d5 : W0.cell? ⟨b',off' + x.2 * 7 + 5,none⟩ = some (.string (Q0 l x).w):=by simpa [Qz,Q0] using hc' x.2 5 _ hk rfl
 have d6 : W0.cell? ⟨b',off' + x.2 * 7 + 6,none⟩ = some (.slice F (Q0 l x).l.length m):=by
  have:=hc' x.2 6 (vs x.2) hk rfl;rw [hvs] at this;exact this
 clear hc hc' hD hT hat hatT hvs e1 hcap hct;have hA1:=hA.b;clear hA;generalize Q0 l x = G at *;generalize (l.getD x.1 Qx).d.length = nd at *;generalize l.length = nl at *;obtain ⟨x1,x2⟩:=x
 simp only at *
 go_enter Tryz.func125,Tryz.ntmps125
 go_upto_region 1 with (fail)
 obtain ⟨v,hv⟩:=Qg ((w.alloc (.cells #[.int .i64 (x1 : Nat),.int .i64 (x2 : Nat)] 33)).alloc (.cells #[.int .i64 0,.int .i64 0,.bool false,.int .i64 0,.bool false,.string ⟨#[]⟩,.slice none 0 0] 57));rw [← hv];have E : Qb w v:=by rw [hv];exact ((Qb.refl _).alloc _).alloc _
 have B1 : Qa v w.heap.size 33 #[.int .i64 (x1 : Nat),.int .i64 (x2 : Nat)]:=by rw [hv];exact (Qa.new _ _ _).alloc _
 have B4 : Qa v (w.heap.size + 1) 57 #[.int .i64 0,.int .i64 0,.bool false,.int .i64 0,.bool false,.string ⟨#[]⟩,.slice none 0 0]:=by rw [hv];exact Qa.at _ _ _ _ (by simp)
 clear hv;obtain ⟨b2,hb2⟩:=Qg (w.heap.size + 1);rw [← hb2] at B4 ⊢;obtain ⟨b1,hb1⟩:=Qg (w.heap.size);rw [← hb1] at B1 ⊢;have hbr : w.heap.size ≤ b2:=by omega
 have hbr1 : w.heap.size ≤ b1:=by omega
 have hn21 : b2 ≠ b1:=by omega
 clear hb1 hb2;have E0:=x0.trans E;go_upto_region 1 with (fail)
 refine Zb 14 [13] (fun x => Qb v x) Qo rfl ?_;intro vz hvz;have HC:=hvz;refine Qs (g:=1) [0,1,2,3,4,5,6,7,8,9,10,11,12] [_,_,_,_,_,_,_,_,_,_,_,_,_] ⟨rfl,rfl,rfl,rfl,rfl,rfl,rfl,rfl,rfl,rfl,rfl,rfl,rfl,trivial⟩ (by kernel_rfl) (by kernel_rfl) HC ?_;simp only [Qc,Qd,Qe];apply Exists.intro;refine ⟨fun u hu => ?_,?_⟩
 ·obtain ⟨k0,k1⟩:=Qa.c2 (Qa.ext B1 hu);have kl:=Qa.lt (Qa.ext B1 hu);obtain ⟨a0,a1,a2,a3⟩:=Qa.c4 (Qa.ext hA1 (E0.trans hu));have al:=Qa.lt (Qa.ext hA1 (E0.trans hu));have r10:=((E0.trans hu).cell (p:=⟨b,off + x1 * 12 + 10,none⟩) hb).trans c10;have hbu:=Nat.lt_of_lt_of_le hb (E0.trans hu).size;have hbu':=Nat.lt_of_lt_of_le hb' (E0.trans hu).size;have q0:=((E0.trans hu).cell (p:=⟨b',off' + x2 * 7,none⟩) hb').trans d0;have q1:=((E0.trans hu).cell (p:=⟨b',off' + x2 * 7 + 1,none⟩) hb').trans d1;have q2:=((E0.trans hu).cell (p:=⟨b',off' + x2 * 7 + 2,none⟩) hb').trans d2;have q3:=((E0.trans hu).cell (p:=⟨b',off' + x2 * 7 + 3,none⟩) hb').trans d3
  have q4:=((E0.trans hu).cell (p:=⟨b',off' + x2 * 7 + 4,none⟩) hb').trans d4;have q5:=((E0.trans hu).cell (p:=⟨b',off' + x2 * 7 + 5,none⟩) hb').trans d5;have q6:=((E0.trans hu).cell (p:=⟨b',off' + x2 * 7 + 6,none⟩) hb').trans d6;repeat (first | go_big_quiet_skip | (go_big_quiet_want;go_big_quiet_op;go_big_quiet_on))
  refine wpQuiet_nil ?_;rfl
 refine Qr 13 rfl (by kernel_rfl) ?_;simp only [Qc,Qd,Qe];have Hs:=Qa.ext B4 HC;have z0:=Qa.frozen Hs 0;have z1:=Qa.frozen Hs 1;have z2:=Qa.frozen Hs 2;have z3:=Qa.frozen Hs 3;have z4:=Qa.frozen Hs 4;have z5:=Qa.frozen Hs 5;have z6:=Qa.frozen Hs 6;obtain ⟨y0,y1,y2,y3,y4,y5,y6⟩:=Q4 Hs;have yl:=Qa.lt Hs;go_wp2;have HX:=V9 Hs (.int .i64 G.on.y) (.int .i64 G.on.m) (.bool G.on.s) (.int .i64 G.on.d) (.bool G.i) (.string G.w) (.slice F G.l.length m);have EX:=V4 (E.trans HC) hbr (.int .i64 G.on.y) (.int .i64 G.on.m) (.bool G.on.s) (.int .i64 G.on.d) (.bool G.i) (.string G.w) (.slice F G.l.length m);clear Hs z0 z1 z2 z3 z4 z5 z6 y0 y1 y2 y3 y4 y5 y6 yl
 generalize World.setCell _ _ _ = wq at *;refine Qq ?_;refine Qv (by kernel_rfl) ?_;obtain ⟨y0,y1,y2,y3,y4,y5,y6⟩:=Q4 HX;have yl:=Qa.lt HX;go_wp2;refine bodyPost_ret (v:=.agg #[.int .i64 G.on.y,.int .i64 G.on.m,.bool G.on.s,.int .i64 G.on.d,.bool G.i,.string G.w,.slice F G.l.length m]) (by simp [results,Tryz.results125,go_sem,y0,y1,y2,y3,y4,y5,y6]) rfl ⟨F,m,rfl,EX,hL⟩
set_option maxHeartbeats 20000000 in
theorem Qfk (A A' : Option Addr) (ca cb : Nat) (c : Qf) (l : List Pd) (vl : Value) (ba : Nat) (days : Int) (x y : Rf) (W0 w : World) (x0 : Qb W0 w) (hA : Vv W0 ba A A' ca cb c vl l) (hv : c.valid = true) (hx1 : x.1 < l.length) (hx2 : x.2 < (l.getD x.1 Qx).d.length) (hy1 : y.1 < l.length) (hy2 : y.2 < (l.getD y.1 Qx).d.length) :
  Calls Tryz.prog 79 #[.pointer (some ⟨ba,0,none⟩),.agg #[.int .i64 (x.1 : Nat),.int .i64 (x.2 : Nat)],.agg #[.int .i64 (y.1 : Nat),.int .i64 (y.2 : Nat)],.int .i64 days] w fun e w' => e = .returned (.bool (c.mayB l days x y)) ∧ Qb w w':=by
 have N1:=fun w h => Dj A A' ca cb c l vl ba x W0 w h hA hx1 hx2
 have N2:=fun w h => Dj A A' ca cb c l vl ba y W0 w h hA hy1 hy2
 have ND:=fun d w h => Wq A A' ca cb c d w h
 have bX:=Oo hv (Q0 l x).on;have bY:=Oo hv (Q0 l y).on;obtain ⟨D,cap,vo,vd,vc,e0,hD,hcap,hmax,_,hat⟩:=id hA.P;subst e0;obtain ⟨b,off,hDe,hb,hc⟩:=hD (by omega);subst hDe;have c1 : W0.cell? ⟨b,off + x.1 * 12,none⟩ = some (.string (l.getD x.1 Qx).h):=by simpa [Qu] using hc x.1 0 _ hx1 rfl
 have c2 : W0.cell? ⟨b,off + y.1 * 12,none⟩ = some (.string (l.getD y.1 Qx).h):=by simpa [Qu] using hc y.1 0 _ hy1 rfl
 clear hc hD hat hcap;obtain ⟨RB,hRB⟩:=Qg (c.mayB l days x y);rw [← hRB];unfold Qf.mayB at hRB;generalize hX : Q0 l x = GX at *;generalize hY : Q0 l y = GY at *;clear hX hY;generalize (l.getD x.1 Qx).h = px at *;generalize (l.getD y.1 Qx).h = py at *;generalize l.length = nl at *;obtain ⟨x1,x2⟩:=x;obtain ⟨y1,y2⟩:=y
 simp only at *
 replace hRB:=Lib.hid hRB;have hA1:=hA.b
 go_enter Tryz.func79,Tryz.ntmps79
 go_upto_region 1 with (fail)
 obtain ⟨v,hv⟩:=Qg ((w.alloc (.cells #[.int .i64 (x1 : Nat),.int .i64 (x2 : Nat)] 33)).alloc (.cells #[.int .i64 (y1 : Nat),.int .i64 (y2 : Nat)] 33));rw [← hv];have E : Qb w v:=by rw [hv];exact ((Qb.refl _).alloc _).alloc _
 have B1 : Qa v w.heap.size 33 #[.int .i64 (x1 : Nat),.int .i64 (x2 : Nat)]:=by rw [hv];exact (Qa.new _ _ _).alloc _
 have B2 : Qa v (w.heap.size + 1) 33 #[.int .i64 (y1 : Nat),.int .i64 (y2 : Nat)]:=by rw [hv];exact Qa.at _ _ _ _ (by simp)
 clear hv;obtain ⟨b2,hb2⟩:=Qg (w.heap.size + 1);rw [← hb2] at B2 ⊢;obtain ⟨b1,hb1⟩:=Qg (w.heap.size);rw [← hb1] at B1 ⊢;have hbr : w.heap.size ≤ b2:=by omega
 have hbr1 : w.heap.size ≤ b1:=by omega
 have hn21 : b2 ≠ b1:=by omega
 clear hb1 hb2;have E0:=x0.trans E;have HA1:=hA1.ext E0;go_upto_region 1 with (fail)
 apply Qjh (S:=fun w' F1 m1 F2 m2 p1 p2 => Qb v w' ∧ Qa w' p1 57 #[.int .i64 GX.on.y,.int .i64 GX.on.m,.bool GX.on.s,.int .i64 GX.on.d,.bool GX.i,.string GX.w,.slice F1 GX.l.length m1] ∧ Qa w' p2 57 #[.int .i64 GY.on.y,.int .i64 GY.on.m,.bool GY.on.s,.int .i64 GY.on.d,.bool GY.i,.string GY.w,.slice F2 GY.l.length m2] ∧ Zz W0 (.slice F1 GX.l.length m1) GX.l ∧ Zz W0 (.slice F2 GY.l.length m2) GY.l)
 ·refine Zb 10 [8,9] (fun x => Qb v x) Qo rfl ?_;intro vz hvz;have HC:=hvz;have mz0:=trivial
  all_goals try
   (clear mz0
    refine Qs (g:=6) [0,1,3,4] [_,_,_,_] ⟨rfl,rfl,rfl,rfl,trivial⟩ (by kernel_rfl) (by kernel_rfl) HC ?_;simp only [Qc,Qd,Qe];apply Exists.intro;refine ⟨fun u hu => ?_,?_⟩
    ·obtain ⟨k0,k1⟩:=Qa.c2 (Qa.ext B1 hu);have kl:=Qa.lt (Qa.ext B1 hu);obtain ⟨l0,l1⟩:=Qa.c2 (Qa.ext B2 hu);have ll:=Qa.lt (Qa.ext B2 hu);repeat (first | go_big_quiet_skip | (go_big_quiet_want;go_big_quiet_op;go_big_quiet_on))
     refine wpQuiet_nil ?_;rfl
    have mz1:=trivial)
  all_goals try
   (clear mz1
    refine X3 2 6 7 rfl rfl rfl (by kernel_rfl) ?_ ?_ ?_
    focus
     simp only [Qc,Qd,Qe];go_wp2_with (go_at_call 125;(with_reducible refine Calls.mono (N1 _ (E0.trans HC)) ?_);rintro e wc ⟨F1,m1,rfl,hj,L1⟩);replace HC:=HC.trans hj;try replace H10:=H10.ext hj
     try replace H11:=H11.ext hj
     clear hj;have mz2:=trivial;refine Qh HC ?_
    rotate_left
    focus
     simp only [Qc,Qd,Qe];go_wp2;obtain ⟨p1,wb,hbq,hwb,H10,HC',hx,gp1⟩:=Qn HC 57 #[.int .i64 0,.int .i64 0,.bool false,.int .i64 0,.bool false,.string ⟨#[]⟩,.slice none 0 0];rw [← hbq,← hwb];try have ne : p2 < p1:=by have:=H11.lt;omega
     replace HC:=HC';try replace H11:=H11.ext hx
     clear hbq hwb hx HC';have mz3:=trivial;refine Qh HC ?_
    rotate_left
    focus
     simp only [Qc,Qd,Qe];go_wp2;obtain ⟨p2,wb,hbq,hwb,H11,HC',hx,gp2⟩:=Qn HC 57 #[.int .i64 0,.int .i64 0,.bool false,.int .i64 0,.bool false,.string ⟨#[]⟩,.slice none 0 0];rw [← hbq,← hwb];try have ne : p1 < p2:=by have:=H10.lt;omega
     replace HC:=HC';try replace H10:=H10.ext hx
     clear hbq hwb hx HC';have mz4:=trivial;refine Qh HC ?_
    rotate_left)
  all_goals try
   (clear mz2
    refine X3 5 6 7 rfl rfl rfl (by kernel_rfl) ?_ ?_ ?_
    focus
     simp only [Qc,Qd,Qe];go_wp2_with (go_at_call 125;(with_reducible refine Calls.mono (N2 _ (E0.trans HC)) ?_);rintro e wc ⟨F2,m2,rfl,hj,L2⟩);replace HC:=HC.trans hj;try replace H10:=H10.ext hj
     try replace H11:=H11.ext hj
     clear hj;have mz5:=trivial;refine Qh HC ?_
    rotate_left
    focus
     simp only [Qc,Qd,Qe];go_wp2;obtain ⟨p1,wb,hbq,hwb,H10,HC',hx,gp1⟩:=Qn HC 57 #[.int .i64 0,.int .i64 0,.bool false,.int .i64 0,.bool false,.string ⟨#[]⟩,.slice none 0 0];rw [← hbq,← hwb];try have ne : p2 < p1:=by have:=H11.lt;omega
     replace HC:=HC';try replace H11:=H11.ext hx
     clear hbq hwb hx HC';have mz6:=trivial;refine Qh HC ?_
    rotate_left
    focus
     simp only [Qc,Qd,Qe];go_wp2;obtain ⟨p2,wb,hbq,hwb,H11,HC',hx,gp2⟩:=Qn HC 57 #[.int .i64 0,.int .i64 0,.bool false,.int .i64 0,.bool false,.string ⟨#[]⟩,.slice none 0 0];rw [← hbq,← hwb];try have ne : p1 < p2:=by have:=H10.lt;omega
     replace HC:=HC';try replace H10:=H10.ext hx
     clear hbq hwb hx HC';have mz7:=trivial;refine Qh HC ?_
    rotate_left)
  all_goals try
   (clear mz3
    refine Zh 2 7 rfl rfl (by kernel_rfl) ?_ ?_
    focus
     simp only [Qc,Qd,Qe];go_wp2_with (go_at_call 125;(with_reducible refine Calls.mono (N1 _ (E0.trans HC)) ?_);rintro e wc ⟨F1,m1,rfl,hj,L1⟩);replace HC:=HC.trans hj;try replace H10:=H10.ext hj
     try replace H11:=H11.ext hj
     clear hj;have mz6:=trivial;refine Qh HC ?_
    rotate_left
    focus
     simp only [Qc,Qd,Qe];go_wp2;obtain ⟨p2,wb,hbq,hwb,H11,HC',hx,gp2⟩:=Qn HC 57 #[.int .i64 0,.int .i64 0,.bool false,.int .i64 0,.bool false,.string ⟨#[]⟩,.slice none 0 0];rw [← hbq,← hwb];try have ne : p1 < p2:=by have:=H10.lt;omega
     replace HC:=HC';try replace H10:=H10.ext hx
     clear hbq hwb hx HC';have mz8:=trivial;refine Qh HC ?_
    rotate_left)
  all_goals try
   (clear mz4
    refine Zh 2 6 rfl rfl (by kernel_rfl) ?_ ?_
    focus
     simp only [Qc,Qd,Qe];go_wp2_with (go_at_call 125;(with_reducible refine Calls.mono (N1 _ (E0.trans HC)) ?_);rintro e wc ⟨F1,m1,rfl,hj,L1⟩);replace HC:=HC.trans hj;try replace H10:=H10.ext hj
     try replace H11:=H11.ext hj
     clear hj;have mz7:=trivial;refine Qh HC ?_
    rotate_left
    focus
     simp only [Qc,Qd,Qe];go_wp2;obtain ⟨p1,wb,hbq,hwb,H10,HC',hx,gp1⟩:=Qn HC 57 #[.int .i64 0,.int .i64 0,.bool false,.int .i64 0,.bool false,.string ⟨#[]⟩,.slice none 0 0];rw [← hbq,← hwb];try have ne : p2 < p1:=by have:=H11.lt;omega
     replace HC:=HC';try replace H11:=H11.ext hx
     clear hbq hwb hx HC';have mz8:=trivial;refine Qh HC ?_
    rotate_left)
  all_goals try
   (clear mz5
    refine Zh 6 7 rfl rfl (by kernel_rfl) ?_ ?_
    focus
     simp only [Qc,Qd,Qe];go_wp2;obtain ⟨p1,wb,hbq,hwb,H10,HC',hx,gp1⟩:=Qn HC 57 #[.int .i64 0,.int .i64 0,.bool false,.int .i64 0,.bool false,.string ⟨#[]⟩,.slice none 0 0];rw [← hbq,← hwb];try have ne : p2 < p1:=by have:=H11.lt;omega
     replace HC:=HC';try replace H11:=H11.ext hx
     clear hbq hwb hx HC';have mz9:=trivial;refine Qh HC ?_
    rotate_left
    focus
     simp only [Qc,Qd,Qe];go_wp2;obtain ⟨p2,wb,hbq,hwb,H11,HC',hx,gp2⟩:=Qn HC 57 #[.int .i64 0,.int .i64 0,.bool false,.int .i64 0,.bool false,.string ⟨#[]⟩,.slice none 0 0];rw [← hbq,← hwb];try have ne : p1 < p2:=by have:=H10.lt;omega
     replace HC:=HC';try replace H10:=H10.ext hx
     clear hbq hwb hx HC';have mz10:=trivial;refine Qh HC ?_
    rotate_left)
  all_goals try
   (clear mz6
    refine Zh 5 7 rfl rfl (by kernel_rfl) ?_ ?_
    focus
     simp only [Qc,Qd,Qe];go_wp2_with (go_at_call 125;(with_reducible refine Calls.mono (N2 _ (E0.trans HC)) ?_);rintro e wc ⟨F2,m2,rfl,hj,L2⟩);replace HC:=HC.trans hj;try replace H10:=H10.ext hj
     try replace H11:=H11.ext hj
     clear hj;have mz9:=trivial;refine Qh HC ?_
    rotate_left
    focus
     simp only [Qc,Qd,Qe];go_wp2;obtain ⟨p2,wb,hbq,hwb,H11,HC',hx,gp2⟩:=Qn HC 57 #[.int .i64 0,.int .i64 0,.bool false,.int .i64 0,.bool false,.string ⟨#[]⟩,.slice none 0 0];rw [← hbq,← hwb];try have ne : p1 < p2:=by have:=H10.lt;omega
     replace HC:=HC';try replace H10:=H10.ext hx
     clear hbq hwb hx HC';have mz11:=trivial;refine Qh HC ?_
    rotate_left)
  all_goals try
   (clear mz7
    refine Zh 5 6 rfl rfl (by kernel_rfl) ?_ ?_
    focus
     simp only [Qc,Qd,Qe];go_wp2_with (go_at_call 125;(with_reducible refine Calls.mono (N2 _ (E0.trans HC)) ?_);rintro e wc ⟨F2,m2,rfl,hj,L2⟩);replace HC:=HC.trans hj;try replace H10:=H10.ext hj
     try replace H11:=H11.ext hj
     clear hj;have mz10:=trivial;refine Qh HC ?_
    rotate_left
    focus
     simp only [Qc,Qd,Qe];go_wp2;obtain ⟨p1,wb,hbq,hwb,H10,HC',hx,gp1⟩:=Qn HC 57 #[.int .i64 0,.int .i64 0,.bool false,.int .i64 0,.bool false,.string ⟨#[]⟩,.slice none 0 0];rw [← hbq,← hwb];try have ne : p2 < p1:=by have:=H11.lt;omega
     replace HC:=HC';try replace H11:=H11.ext hx
     clear hbq hwb hx HC';have mz11:=trivial;refine Qh HC ?_
    rotate_left)
  all_goals try
   (clear mz8
    refine Ql 2 rfl (by kernel_rfl) ?_;simp only [Qc,Qd,Qe];go_wp2_with (go_at_call 125;(with_reducible refine Calls.mono (N1 _ (E0.trans HC)) ?_);rintro e wc ⟨F1,m1,rfl,hj,L1⟩);replace HC:=HC.trans hj;try replace H10:=H10.ext hj
    try replace H11:=H11.ext hj
    clear hj;have mz11:=trivial;refine Qh HC ?_)
  all_goals try
   (clear mz9
    refine Ql 7 rfl (by kernel_rfl) ?_;simp only [Qc,Qd,Qe];go_wp2;obtain ⟨p2,wb,hbq,hwb,H11,HC',hx,gp2⟩:=Qn HC 57 #[.int .i64 0,.int .i64 0,.bool false,.int .i64 0,.bool false,.string ⟨#[]⟩,.slice none 0 0];rw [← hbq,← hwb];try have ne : p1 < p2:=by have:=H10.lt;omega
    replace HC:=HC';try replace H10:=H10.ext hx
    clear hbq hwb hx HC';have mz12:=trivial;refine Qh HC ?_)
  all_goals try
   (clear mz10
    refine Ql 6 rfl (by kernel_rfl) ?_;simp only [Qc,Qd,Qe];go_wp2;obtain ⟨p1,wb,hbq,hwb,H10,HC',hx,gp1⟩:=Qn HC 57 #[.int .i64 0,.int .i64 0,.bool false,.int .i64 0,.bool false,.string ⟨#[]⟩,.slice none 0 0];rw [← hbq,← hwb];try have ne : p2 < p1:=by have:=H11.lt;omega
    replace HC:=HC';try replace H11:=H11.ext hx
    clear hbq hwb hx HC';have mz12:=trivial;refine Qh HC ?_)
  all_goals try
   (clear mz11
    refine Ql 5 rfl (by kernel_rfl) ?_;simp only [Qc,Qd,Qe];go_wp2_with (go_at_call 125;(with_reducible refine Calls.mono (N2 _ (E0.trans HC)) ?_);rintro e wc ⟨F2,m2,rfl,hj,L2⟩);replace HC:=HC.trans hj;try replace H10:=H10.ext hj
    try replace H11:=H11.ext hj
    clear hj;have mz12:=trivial;refine Qh HC ?_)
  all_goals try
   (clear mz12
    refine Qr 8 rfl (by kernel_rfl) ?_;simp only [Qc,Qd,Qe];have z0:=Qa.frozen H10 0;have z1:=Qa.frozen H10 1;have z2:=Qa.frozen H10 2;have z3:=Qa.frozen H10 3;have z4:=Qa.frozen H10 4;have z5:=Qa.frozen H10 5;have z6:=Qa.frozen H10 6;obtain ⟨u0,u1,u2,u3,u4,u5,u6⟩:=Q4 H10;have lx:=Qa.lt H10;have hgp : v.heap.size ≤ p1:=gp1;go_wp2;have Hn:=V9 H10 (.int .i64 GX.on.y) (.int .i64 GX.on.m) (.bool GX.on.s) (.int .i64 GX.on.d) (.bool GX.i) (.string GX.w) (.slice F1 GX.l.length m1);have On:=Ug H11 (show p2 ≠ p1 by omega) (.int .i64 GX.on.y) (.int .i64 GX.on.m) (.bool GX.on.s) (.int .i64 GX.on.d) (.bool GX.i) (.string GX.w) (.slice F1 GX.l.length m1)
    replace HC:=V4 HC hgp (.int .i64 GX.on.y) (.int .i64 GX.on.m) (.bool GX.on.s) (.int .i64 GX.on.d) (.bool GX.i) (.string GX.w) (.slice F1 GX.l.length m1);clear H10 z0 z1 z2 z3 z4 z5 z6 u0 u1 u2 u3 u4 u5 u6 lx hgp;have H10:=Hn;replace H11:=On;clear Hn On;generalize World.setCell _ _ _ = wq at *;have mz13:=trivial;refine Qq ?_)
  all_goals try
   (clear mz13
    refine Qr 9 rfl (by kernel_rfl) ?_;simp only [Qc,Qd,Qe];have z0:=Qa.frozen H11 0;have z1:=Qa.frozen H11 1;have z2:=Qa.frozen H11 2;have z3:=Qa.frozen H11 3;have z4:=Qa.frozen H11 4;have z5:=Qa.frozen H11 5;have z6:=Qa.frozen H11 6;obtain ⟨u0,u1,u2,u3,u4,u5,u6⟩:=Q4 H11;have lx:=Qa.lt H11;have hgp : v.heap.size ≤ p2:=gp2;go_wp2;have Hn:=V9 H11 (.int .i64 GY.on.y) (.int .i64 GY.on.m) (.bool GY.on.s) (.int .i64 GY.on.d) (.bool GY.i) (.string GY.w) (.slice F2 GY.l.length m2);have On:=Ug H10 (show p1 ≠ p2 by omega) (.int .i64 GY.on.y) (.int .i64 GY.on.m) (.bool GY.on.s) (.int .i64 GY.on.d) (.bool GY.i) (.string GY.w) (.slice F2 GY.l.length m2)
    replace HC:=V4 HC hgp (.int .i64 GY.on.y) (.int .i64 GY.on.m) (.bool GY.on.s) (.int .i64 GY.on.d) (.bool GY.i) (.string GY.w) (.slice F2 GY.l.length m2);clear H11 z0 z1 z2 z3 z4 z5 z6 u0 u1 u2 u3 u4 u5 u6 lx hgp;have H11:=Hn;replace H10:=On;clear Hn On;generalize World.setCell _ _ _ = wq at *;have mz14:=trivial;refine Qq ?_)
  all_goals try
   (clear mz14
    refine Qv (by kernel_rfl) ?_;exact Qcx F1 m1 F2 m2 p1 p2 ⟨HC,H10,H11,L1,L2⟩ rfl)
 rintro F1 m1 F2 m2 p1 p2 w1 ⟨hx,BX,BY,L1,L2⟩;replace E0:=E0.trans hx;replace E:=E.trans hx;replace B1:=B1.ext hx;replace B2:=B2.ext hx;replace HA1:=HA1.ext hx;have C:=hA.C.ext E0;have r1:=(E0.cell (p:=⟨b,off + x1 * 12,none⟩) hb).trans c1;have r2:=(E0.cell (p:=⟨b,off + y1 * 12,none⟩) hb).trans c2;have hbw:=Nat.lt_of_lt_of_le hb E0.size;clear hx N1 N2 c1 c2;obtain ⟨x0',x1',x2',x3',x4',x5',x6'⟩:=Q4 BX;have xl:=Qa.lt BX;obtain ⟨y0',y1',y2',y3',y4',y5',y6'⟩:=Q4 BY;have yl:=Qa.lt BY;obtain ⟨k0,k1⟩:=Qa.c2 B1;have kl:=Qa.lt B1;obtain ⟨l0,l1⟩:=Qa.c2 B2;have ll:=Qa.lt B2;obtain ⟨a0,a1,a2,a3⟩:=Qa.c4 HA1;have al:=Qa.lt HA1
 have NE:=fun w h1 h2 => Qdq (.slice F1 GX.l.length m1) (.slice F2 GY.l.length m2) GX.l GY.l w h1 h2
 go_upto_region 2 with (fail)
 by_cases g1 : GX.w = py;rotate_left
 ·obtain rfl : RB = false:=by
   rw [hRB.out];rw [decide_eq_false g1];rfl
  have t1 : (GX.w.toList == py.toList) = false:=beq_eq_false_iff_ne.2 fun h => g1 (Vr h)
  have t1n : (GX.w.toList != py.toList) = true:=by rw [bne,t1];rfl
  clear g1;clear hRB;refine Zd w1 Qo (by kernel_rfl) Qj ?_;intro hne hrx hry;try simp only []
  try simp only [List.append_eq,List.cons_append,List.nil_append]
  skip
  repeat (first
   | go_big_quiet_skip
   | (go_big_quiet_want;go_big_quiet_op;go_big_quiet_on)
   | (go_big_quiet_want;go_big_quiet_op;apply Exists.intro;refine ⟨fun u => ?_,?_⟩
      ·first
        | (go_at_call 74;(with_reducible refine Calls.mono (NE _ (L1.ext (E0.trans u.e)) (L2.ext (E0.trans u.e))) ?_);rintro e w' ⟨rfl,hb⟩;exact ⟨rfl,u.back hb⟩)
      go_big_quiet_on))
  clear hne hry hrx;refine wpQuiet_nil ?_;intro w2 h2;obtain ⟨hcw2,hfw2,hzw2⟩:=Qb.rules h2;try simp only [World.size_alloc] at hzw2
  obtain ⟨hcbw2,hfbw2,hzbw2⟩:=Qb.rules (show Qb w1 w2 from Qj);clear hcw2 hfw2;go_wp2;go_ret;exact ⟨rfl,E.trans h2⟩
 have t1 : (GX.w.toList == py.toList) = true:=by rw [g1];exact beq_self_eq_true _
 have t1n : (GX.w.toList != py.toList) = false:=by rw [bne,t1];rfl
 replace g1:=Lib.hid g1;by_cases g2 : GY.w = px;rotate_left
 ·obtain rfl : RB = false:=by
   rw [hRB.out];rw [decide_eq_false g2,Bool.and_false];rfl
  have t2 : (GY.w.toList == px.toList) = false:=beq_eq_false_iff_ne.2 fun h => g2 (Vr h)
  have t2n : (GY.w.toList != px.toList) = true:=by rw [bne,t2];rfl
  clear g2;clear hRB;refine Zd w1 Qo (by kernel_rfl) Qj ?_;intro hne hrx hry;try simp only []
  try simp only [List.append_eq,List.cons_append,List.nil_append]
  skip
  repeat (first
   | go_big_quiet_skip
   | (go_big_quiet_want;go_big_quiet_op;go_big_quiet_on)
   | (go_big_quiet_want;go_big_quiet_op;apply Exists.intro;refine ⟨fun u => ?_,?_⟩
      ·first
        | (go_at_call 74;(with_reducible refine Calls.mono (NE _ (L1.ext (E0.trans u.e)) (L2.ext (E0.trans u.e))) ?_);rintro e w' ⟨rfl,hb⟩;exact ⟨rfl,u.back hb⟩)
      go_big_quiet_on))
  clear hne hry hrx;refine wpQuiet_nil ?_;intro w2 h2;obtain ⟨hcw2,hfw2,hzw2⟩:=Qb.rules h2;try simp only [World.size_alloc] at hzw2
  obtain ⟨hcbw2,hfbw2,hzbw2⟩:=Qb.rules (show Qb w1 w2 from Qj);clear hcw2 hfw2;go_wp2;go_ret;exact ⟨rfl,E.trans h2⟩
 have t2 : (GY.w.toList == px.toList) = true:=by rw [g2];exact beq_self_eq_true _
 have t2n : (GY.w.toList != px.toList) = false:=by rw [bne,t2];rfl
 replace g2:=Lib.hid g2;by_cases g3 : GX.l = GY.l;rotate_left
 ·rw [decide_eq_false g3] at NE
  obtain rfl : RB = false:=by
   rw [hRB.out];rw [decide_eq_false g3,Bool.and_false];rfl
  clear g3;clear hRB;refine Zd w1 Qo (by kernel_rfl) Qj ?_;intro hne hrx hry;try simp only []
  try simp only [List.append_eq,List.cons_append,List.nil_append]
  skip
  repeat (first
   | go_big_quiet_skip
   | (go_big_quiet_want;go_big_quiet_op;go_big_quiet_on)
   | (go_big_quiet_want;go_big_quiet_op;apply Exists.intro;refine ⟨fun u => ?_,?_⟩
      ·first
        | (go_at_call 74;(with_reducible refine Calls.mono (NE _ (L1.ext (E0.trans u.e)) (L2.ext (E0.trans u.e))) ?_);rintro e w' ⟨rfl,hb⟩;exact ⟨rfl,u.back hb⟩)
      go_big_quiet_on))
  clear hne hry hrx;refine wpQuiet_nil ?_;intro w2 h2;obtain ⟨hcw2,hfw2,hzw2⟩:=Qb.rules h2;try simp only [World.size_alloc] at hzw2
  obtain ⟨hcbw2,hfbw2,hzbw2⟩:=Qb.rules (show Qb w1 w2 from Qj);clear hcw2 hfw2;go_wp2;go_ret;exact ⟨rfl,E.trans h2⟩
 rw [decide_eq_true g3] at NE;replace g3:=Lib.hid g3;refine Zd w1 Qo (by kernel_rfl) Qj ?_;intro hne hrx hry;try simp only []
 try simp only [List.append_eq,List.cons_append,List.nil_append]
 skip
 repeat (first
  | go_big_quiet_skip
  | (go_big_quiet_want;go_big_quiet_op;go_big_quiet_on)
  | (go_big_quiet_want;go_big_quiet_op;apply Exists.intro;refine ⟨fun u => ?_,?_⟩
     ·first
       | (go_at_call 74;(with_reducible refine Calls.mono (NE _ (L1.ext (E0.trans u.e)) (L2.ext (E0.trans u.e))) ?_);rintro e w' ⟨rfl,hb⟩;exact ⟨rfl,u.back hb⟩)
     go_big_quiet_on))
 clear hne hry hrx;refine wpQuiet_nil ?_;intro w2 h2;obtain ⟨hcw2,hfw2,hzw2⟩:=Qb.rules h2;try simp only [World.size_alloc] at hzw2
 obtain ⟨hcbw2,hfbw2,hzbw2⟩:=Qb.rules (show Qb w1 w2 from Qj);clear hcw2 hfw2;clear NE t1 t1n t2 t2n r1 r2 hbw;replace E0:=E0.trans h2;replace E:=E.trans h2;replace BX:=BX.ext h2;replace BY:=BY.ext h2;replace HA1:=HA1.ext h2;replace C:=C.ext h2;clear x0' x1' x2' x3' x4' x5' x6' xl y0' y1' y2' y3' y4' y5' y6' yl k0 k1 kl l0 l1 ll a0 a1 a2 a3 al h2 L1 L2;obtain ⟨x0',x1',x2',x3',x4',x5',x6'⟩:=Q4 BX;have xl:=Qa.lt BX;obtain ⟨y0',y1',y2',y3',y4',y5',y6'⟩:=Q4 BY;have yl:=Qa.lt BY;obtain ⟨a0,a1,a2,a3⟩:=Qa.c4 HA1;have al:=Qa.lt HA1;have NX:=ND GX.on;have NY:=ND GY.on;clear ND
 have hres : Hid (RB = (decide (0 ≤ c.numV GY.on - c.numV GX.on) && decide (c.numV GY.on - c.numV GX.on ≤ days))):=by
  unfold Hid;rw [hRB.out,decide_eq_true g1.out,decide_eq_true g2.out,decide_eq_true g3.out];rfl
 clear hRB;generalize c.numV GX.on = nx at *;generalize c.numV GY.on = ny at *;go_upto_region 4 with (fail)
 refine Zd w2 Qo (by kernel_rfl) Qj ?_;intro hne hrx hry;try simp only []
 try simp only [List.append_eq,List.cons_append,List.nil_append]
 skip
 repeat (first
  | go_big_quiet_skip
  | (go_big_quiet_want;go_big_quiet_op;go_big_quiet_on)
  | (go_big_quiet_want;go_big_quiet_op;apply Exists.intro;refine ⟨fun u => ?_,?_⟩
     ·first
       | (go_at_call 48;(with_reducible refine Calls.mono (NX _ (C.ext u.e)) ?_);rintro e w' ⟨rfl,hb⟩;exact ⟨rfl,u.back hb⟩)
       | (go_at_call 48;(with_reducible refine Calls.mono (NY _ (C.ext u.e)) ?_);rintro e w' ⟨rfl,hb⟩;exact ⟨rfl,u.back hb⟩)
     go_big_quiet_on))
 clear hne hry hrx;refine wpQuiet_nil ?_;intro w3 h3;obtain ⟨hcw3,hfw3,hzw3⟩:=Qb.rules h3;try simp only [World.size_alloc] at hzw3
 obtain ⟨hcbw3,hfbw3,hzbw3⟩:=Qb.rules (show Qb w2 w3 from Qj);clear hcw3 hfw3;obtain ⟨d,hd⟩:=Qg (ny - nx);rw [← hd] at hres;by_cases q1 : 0 ≤ ny - nx
 ·by_cases q2 : ny - nx ≤ days
  ·have f1 : decide (0 ≤ ny - nx) = true:=decide_eq_true q1;have f2 : decide (ny - nx ≤ days) = true:=decide_eq_true q2;go_wp2;go_ret;exact ⟨by rw [hres.out,hd,f1,f2];rfl,E.trans h3⟩
  ·have f1 : decide (0 ≤ ny - nx) = true:=decide_eq_true q1;have f2 : decide (ny - nx ≤ days) = false:=decide_eq_false q2;go_wp2;go_ret;exact ⟨by rw [hres.out,hd,f1,f2];rfl,E.trans h3⟩
 ·have f1 : decide (0 ≤ ny - nx) = false:=decide_eq_false q1;go_wp2;go_ret;exact ⟨by rw [hres.out,hd,f1];rfl,E.trans h3⟩
end
section
open Go Go.RowKit Go.Shelf
/-- A slice from its block's begin: n cells of it. -/
structure Qw (W : World) (t : TypeId) (A : Option Addr) (n b : Nat) (g : Nat → Value) : Prop where
 a : 0 < n → A = some ⟨b,0,none⟩
 h : 0 < n → ∃ cs : Array Value,Qa W b t cs ∧ n ≤ cs.size ∧ ∀ k,k < n → cs[k]? = some (g k)
section
variable {W W' : World} {t t' : TypeId} {A A' : Option Addr} {n n' b b' k : Nat} {g g' : Nat → Value} {cs : Array Value}
theorem Qw.cell (h : Qw W t A n b g) (hk : k < n) : W.cell? ⟨b,k,none⟩ = some (g k):=by
 obtain ⟨cs,h1,_,h3⟩:=h.h (by omega);rw [h1.cell k,h3 k hk]
theorem Qw.lt (h : Qw W t A n b g) (hn : 0 < n) : b < W.heap.size:=by
 obtain ⟨cs,h1,_⟩:=h.h hn;exact h1.lt
theorem Qw.frozen (h : Qw W t A n b g) (hn : 0 < n) (k : Nat) : W.frozen? ⟨b,k,none⟩ = false:=by
 obtain ⟨cs,h1,_⟩:=h.h hn;exact h1.frozen k
theorem Qw.ext (h : Qw W t A n b g) (x : Qb W W') : Qw W' t A n b g:=⟨h.a,fun hn => by
 obtain ⟨cs,h1,h2⟩:=h.h hn;exact ⟨cs,h1.ext x,h2⟩⟩
theorem Qw.congr (h : Qw W t A n b g) (e : ∀ k,k < n → g k = g' k) : Qw W t A n b g':=⟨h.a,fun hn => by
 obtain ⟨cs,h1,h2,h3⟩:=h.h hn;exact ⟨cs,h1,h2,fun k hk => by rw [← e k hk];exact h3 k hk⟩⟩
theorem Kt (h : Qa W b t cs) (i : Nat) (u : Value) : Qa (W.setCell ⟨b,i,none⟩ u) b t (cs.setIfInBounds i u):=by unfold Qa at h ⊢;simp [World.setCell,Array.getElem?_modify,h]
theorem X8 (h : Qa W b t cs) (hne : b ≠ b') (j : Nat) (u : Value) : Qa (W.setCell ⟨b',j,none⟩ u) b t cs:=by unfold Qa at h ⊢;simp [World.setCell,Array.getElem?_modify,h,Ne.symm hne]
theorem Yq {cs' : Array Value} (h : Qa W b t cs) (h' : Qa W b' t' cs') (hne : t ≠ t') : b ≠ b':=fun e => by
 subst e;unfold Qa at h h';rw [h] at h';injection h' with h'
 injection h' with _ h2
 exact hne h2
theorem Qw.set (h : Qw W t A n b g) (hk : k < n) (u : Value) : Qw (W.setCell ⟨b,k,none⟩ u) t A n b (fun x => if x = k then u else g x):=⟨h.a,fun hn => by
 obtain ⟨cs,h1,h2,h3⟩:=h.h hn;refine ⟨_,Kt h1 k u,by simpa using h2,fun x hx => ?_⟩;have hs : k < cs.size:=by omega
 by_cases e : x = k
 ·subst e;simp [Array.setIfInBounds,hs]
 ·simp [Ne.symm e,h3 x hx,e]⟩
theorem Qw.oth (h : Qw W t A n b g) (hne : 0 < n → b ≠ b') (j : Nat) (u : Value) : Qw (W.setCell ⟨b',j,none⟩ u) t A n b g:=⟨h.a,fun hn => by
 obtain ⟨cs,h1,h2⟩:=h.h hn;exact ⟨cs,X8 h1 (hne hn) j u,h2⟩⟩
theorem Qw.kept {row : Option Nat} (h : Qw W t A n b g) (hg : W.grownBy W' row) (hne : 0 < n → some b ≠ row) : Qw W' t A n b g:=⟨h.a,fun hn => by
 obtain ⟨cs,h1,h2⟩:=h.h hn;exact ⟨cs,h1.kept hg (hne hn),h2⟩⟩
theorem Qw.apart (h : Qw W t A n b g) (h' : Qa W b' t' cs) (hne : t ≠ t') (hn : 0 < n) : b ≠ b':=by
 obtain ⟨ds,h1,_⟩:=h.h hn;exact Yq h1 h' hne
theorem Qw.apart2 (h : Qw W t A n b g) (h' : Qw W t' A' n' b' g') (hne : t ≠ t') (hn : 0 < n) (hn' : 0 < n') : b ≠ b':=by
 obtain ⟨ds,h1,_⟩:=h.h hn;obtain ⟨es,h2,_⟩:=h'.h hn';exact Yq h1 h2 hne
/-- A row of one's own, of cells one by one, is such an array. -/
theorem Mw {base : Nat} {v : Value} {xs : List Value} (h : W.ownsRow base t 1 v n xs) (hx : ∀ k,k < n → xs[k]? = some (g k)) : ∃ A cap b,v = .slice A n cap ∧ base ≤ b ∧ (0 < n → b < W.heap.size ∧ v.ownBlock = some b) ∧ Qw W t A n b g:=by
 rcases h.2 with ⟨rfl,rfl⟩ | ⟨q,cap,cur,rfl,h1,h2,h3,h4,h5,h6⟩
 ·exact ⟨none,0,base,rfl,Nat.le_refl _,fun h => absurd h (by omega),fun h => absurd h (by omega),fun h => absurd h (by omega)⟩
 ·refine ⟨_, cap, q, rfl, h1, fun _ => ⟨(Array.getElem?_eq_some_iff.1 h2).1, rfl⟩, fun _ => rfl, fun _ => ⟨cur, h2, by rw [h5]; omega, fun k hk => ?_⟩⟩;have := hx k hk;rw [← h6, Nat.mul_one, List.getElem?_take_of_lt hk] at this
  simpa using this
theorem Gr (W : World) (t : TypeId) (n : Nat) (z : Value) : Qw (W.alloc (.cells (Array.replicate n z) t)) t (some ⟨W.heap.size,0,none⟩) n W.heap.size (fun _ => z) :=
 ⟨fun _ => rfl,fun _ => ⟨_,Qa.new _ _ _,by simp,fun k hk => by simp [hk]⟩⟩
end
end
end Go.Proofs.YtoflcheopfppoaaGreatDoor
