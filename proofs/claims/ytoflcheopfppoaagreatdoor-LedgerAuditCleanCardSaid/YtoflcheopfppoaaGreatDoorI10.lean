/- Walks of the program's functions and plain facts, packed; proved: the lemmas below; no conditions but those that each states. -/
import Derived.Test.YtoflcheopfppoaaGreatDoorI8
import Derived.Test.YtoflcheopfppoaaGreatDoorI3
import Derived.Test.YtoflcheopfppoaaGreatDoorI9
import Derived.Laws.MakeOwn
import Derived.Laws.OwnMore
import Derived.Laws.CopyOwn
import Derived.Test.YtoflcheopfppoaaGreatDoorI2
import Derived.Test.YtoflcheopfppoaaGreatDoorI1
set_option maxRecDepth 100000
set_option maxHeartbeats 4000000
namespace Go.Proofs.YtoflcheopfppoaaGreatDoor
section
theorem Qc1 {x y : ByteArray} : Jf x y = true ↔ x.toList < y.toList:=by simp [Jf]
theorem sl_no {x y : ByteArray} : Jf x y = false ↔ ¬ x.toList < y.toList:=by simp [Jf]
theorem Dp {x y z : ByteArray} (h1 : Jf x y = true) (h2 : Jf y z = true) : Jf x z = true:=by
 rw [Qc1] at h1 h2 ⊢;exact List.lt_trans h1 h2
theorem sl_eq {x y : ByteArray} (h1 : Jf x y = false) (h2 : Jf y x = false) : x.toList = y.toList:=by
 rw [sl_no] at h1 h2;exact List.le_antisymm (List.not_lt.1 h2) (List.not_lt.1 h1)
structure LtOk (x : Lt) : Prop where
 g : Z9 x.g = true
 n0 : x.n ≠ 0
 hi : x.n ≤ 1099511627776
 lo : -1099511627776 ≤ x.n
structure Ww (l : List Lt) : Prop where
 a : ∀ x ∈ l,LtOk x
 s : l.Pairwise fun x y => Jf x.g y.g = true
theorem Ww.tail {x : Lt} {l : List Lt} (h : Ww (x :: l)) : Ww l:=⟨fun y hy => h.a y (List.mem_cons_of_mem _ hy),(List.pairwise_cons.1 h.s).2⟩
theorem Ww.up {x : Lt} {l : List Lt} (h : Ww (x :: l)) : ∀ y ∈ l,Jf x.g y.g = true:=(List.pairwise_cons.1 h.s).1
theorem Qak {l : List Lt} (h : Y6 l = 0) : Ww l:=by
 unfold Y6 Jy at h
 split at h
 ·exact absurd h (by decide)
 split at h
 ·rename_i h1
  have h2 : ∀ k,k < l.length → Uh (Zb l) k = true:=fun k hk => List.all_eq_true.1 h1 k (by simpa using hk)
  have h3 : ∀ k,k < l.length → LtOk (Zb l k):=fun k hk => by
   have:=h2 k hk;unfold Uh at this;simp only [Bool.and_eq_true,decide_eq_true_eq] at this;exact ⟨this.1.1,this.2.1,this.2.2.1,this.2.2.2⟩
  have h4 : ∀ k,k + 1 < l.length → Jf (Zb l k).g (Zb l (k + 1)).g = true:=fun k hk => by
   have:=h2 (k + 1) hk;unfold Uh at this;simp only [Bool.and_eq_true,decide_eq_true_eq,Bool.or_eq_true] at this;rcases this.1.2 with h | h
   ·omega
   ·exact h
  have h5 : ∀ j i,i < j → j < l.length → Jf (Zb l i).g (Zb l j).g = true:=fun j => by
   induction j with
   | zero => intro i hi;omega
   | succ j ih =>
    intro i hi hj;by_cases e : i = j
    ·subst e;exact h4 i hj
    ·exact Dp (ih i Qa Qa) (h4 j hj)
  refine ⟨fun x hx => ?_,List.pairwise_iff_getElem.2 fun i j hi hj hij => ?_⟩
  ·obtain ⟨i,hi,rfl⟩:=List.mem_iff_getElem.1 hx;rw [← U3 hi];exact h3 i hi
  ·rw [← U3 hi,← U3 hj];exact h5 j i hij hj
 ·exact absurd h (by decide)
theorem Qlf {l : List Lt} (h : Ww l) (h64 : l.length ≤ 64) : Y6 l = 0:=by
 refine Qaj (fun j hj => ?_) Qa;have h1:=h.a _ (List.getElem_mem hj);rw [← U3 hj] at h1;unfold Uh;simp only [Bool.and_eq_true,decide_eq_true_eq,Bool.or_eq_true];refine ⟨⟨h1.g,?_⟩,h1.n0,h1.hi,h1.lo⟩;by_cases e : j = 0
 ·exact .inl e
 ·right
  have h2:=List.pairwise_iff_getElem.1 h.s (j - 1) j Qa hj Qa
  rwa [← U3 hj,← U3 Qa] at h2
theorem Qkr {s : ByteArray} (h : Z9 s = true) : s.size ≠ 0:=by
 unfold Z9 at h;simp only [Bool.and_eq_true,decide_eq_true_eq] at h;omega
theorem Lx {x y : Lt} (h : LtOk x) : Wa x y = x.g:=by unfold Wa;rw [if_neg (Qkr h.g)]
theorem Fe {y : Lt} : Wa Yt y = y.g:=rfl
/-- Where the pairs of a merge come from. -/
def Vx (a b : List Lt) (p : Lt × Lt) : Prop:=(p.1 ∈ a ∧ p.2 = Yt) ∨ (p.1 = Yt ∧ p.2 ∈ b) ∨ (p.1 ∈ a ∧ p.2 ∈ b)
theorem Vx.l {a b : List Lt} {x : Lt} {p : Lt × Lt} (h : Vx a b p) : Vx (x :: a) b p:=by
 rcases h with ⟨h1,h2⟩ | ⟨h1,h2⟩ | ⟨h1,h2⟩
 ·exact .inl ⟨List.mem_cons_of_mem _ h1,h2⟩
 ·exact .inr (.inl ⟨h1,h2⟩)
 ·exact .inr (.inr ⟨List.mem_cons_of_mem _ h1,h2⟩)
theorem Vx.r {a b : List Lt} {y : Lt} {p : Lt × Lt} (h : Vx a b p) : Vx a (y :: b) p:=by
 rcases h with ⟨h1,h2⟩ | ⟨h1,h2⟩ | ⟨h1,h2⟩
 ·exact .inl ⟨h1,h2⟩
 ·exact .inr (.inl ⟨h1,List.mem_cons_of_mem _ h2⟩)
 ·exact .inr (.inr ⟨h1,List.mem_cons_of_mem _ h2⟩)
theorem U6 : ∀ (m : Nat) (a b : List Lt) (p : Lt × Lt),p ∈ Jb m a b → Vx a b p
 | 0,_,_,p,h => by simp [Jb] at h
 | m + 1,[],[],p,h => by simp [Jb] at h
 | m + 1,x :: a,[],p,h => by
  rw [Jb,List.mem_cons] at h;rcases h with rfl | h
  ·exact .inl ⟨List.mem_cons_self,rfl⟩
  ·exact (U6 m a [] p h).l
 | m + 1,[],y :: b,p,h => by
  rw [Jb,List.mem_cons] at h;rcases h with rfl | h
  ·exact .inr (.inl ⟨rfl,List.mem_cons_self⟩)
  ·exact (U6 m [] b p h).r
 | m + 1,x :: a,y :: b,p,h => by
  rw [Jb] at h
  split at h
  ·rw [List.mem_cons] at h;rcases h with rfl | h
   ·exact .inl ⟨List.mem_cons_self,rfl⟩
   ·exact (U6 m a (y :: b) p h).l
  split at h
  ·rw [List.mem_cons] at h;rcases h with rfl | h
   ·exact .inr (.inl ⟨rfl,List.mem_cons_self⟩)
   ·exact (U6 m (x :: a) b p h).r
  ·rw [List.mem_cons] at h;rcases h with rfl | h
   ·exact .inr (.inr ⟨List.mem_cons_self,List.mem_cons_self⟩)
   ·exact (U6 m a b p h).l.r
theorem Vx.up {a b : List Lt} {p : Lt × Lt} {u : ByteArray} (h : Vx a b p) (ha : Ww a) (h1 : ∀ x ∈ a,Jf u x.g = true) (h2 : ∀ y ∈ b,Jf u y.g = true) : Jf u (Wa p.1 p.2) = true:=by
 rcases h with ⟨h3,h4⟩ | ⟨h3,h4⟩ | ⟨h3,h4⟩
 ·rw [Lx (ha.a _ h3)];exact h1 _ h3
 ·rw [h3,Fe];exact h2 _ h4
 ·rw [Lx (ha.a _ h3)];exact h1 _ h3
theorem Nb : ∀ (m : Nat) (a b : List Lt),Ww a → Ww b → (Jb m a b).Pairwise fun p q => Jf (Wa p.1 p.2) (Wa q.1 q.2) = true
 | 0,_,_,_,_ => by rw [Jb];exact List.Pairwise.nil
 | m + 1,[],[],_,_ => by rw [Jb];exact List.Pairwise.nil
 | m + 1,x :: a,[],ha,hb => by
  rw [Jb];refine List.pairwise_cons.2 ⟨fun p hp => ?_,Nb m a [] ha.tail hb⟩;rw [Lx (ha.a x List.mem_cons_self)]
  exact (U6 m a [] p hp).up ha.tail ha.up (fun y hy => absurd hy (by simp))
 | m + 1,[],y :: b,ha,hb => by
  rw [Jb];refine List.pairwise_cons.2 ⟨fun p hp => ?_,Nb m [] b ha hb.tail⟩;rw [Fe]
  exact (U6 m [] b p hp).up ha (fun y hy => absurd hy (by simp)) hb.up
 | m + 1,x :: a,y :: b,ha,hb => by
  rw [Jb]
  split
  ·rename_i h
   refine List.pairwise_cons.2 ⟨fun p hp => ?_,Nb m a (y :: b) ha.tail hb⟩;rw [Lx (ha.a x List.mem_cons_self)];refine (U6 m a (y :: b) p hp).up ha.tail ha.up (fun z hz => ?_);rcases List.mem_cons.1 hz with rfl | hz
   ·exact h
   ·exact Dp h (hb.up z hz)
  rename_i hxy
  split
  ·rename_i h
   refine List.pairwise_cons.2 ⟨fun p hp => ?_,Nb m (x :: a) b ha hb.tail⟩;rw [Fe];refine (U6 m (x :: a) b p hp).up ha (fun z hz => ?_) hb.up;rcases List.mem_cons.1 hz with rfl | hz
   ·exact h
   ·exact Dp h (ha.up z hz)
  ·rename_i hyx
   refine List.pairwise_cons.2 ⟨fun p hp => ?_,Nb m a b ha.tail hb.tail⟩;rw [Lx (ha.a x List.mem_cons_self)];have e:=sl_eq (by simpa using hxy) (by simpa using hyx);refine (U6 m a b p hp).up ha.tail ha.up (fun z hz => ?_);have h1:=hb.up z hz;rw [Qc1] at h1 ⊢;rw [e];exact h1
theorem out_ok {sg : Int} {m : Nat} {a b : List Lt} (ha : Ww a) (hb : Ww b) (h : Xc sg (Jb m a b) = true) : Ww (Y7 sg (Jb m a b)):=by
 refine ⟨fun x hx => ?_,?_⟩
 ·obtain ⟨p,hp,hx⟩:=List.mem_flatMap.1 hx;have h1 : Xy sg p.1 p.2 = true:=List.all_eq_true.1 h p hp;unfold Ug at hx
  split at hx
  ·exact absurd hx (by simp)
  rename_i h0
  simp only [List.mem_singleton] at hx;subst hx;unfold Xy at h1;simp only [Bool.not_eq_true',Bool.or_eq_false_iff,decide_eq_false_iff_not] at h1;refine ⟨?_,h0,by show Vg sg p.1 p.2 ≤ _;omega,by show _ ≤ Vg sg p.1 p.2;omega⟩;rcases U6 m a b p hp with ⟨h3,_⟩ | ⟨h3,h4⟩ | ⟨h3,_⟩
  ·show Z9 (Wa p.1 p.2) = true
   rw [Lx (ha.a _ h3)];exact (ha.a _ h3).g
  ·show Z9 (Wa p.1 p.2) = true
   rw [h3,Fe];exact (hb.a _ h4).g
  ·show Z9 (Wa p.1 p.2) = true
   rw [Lx (ha.a _ h3)];exact (ha.a _ h3).g
 ·unfold Y7;refine List.pairwise_flatMap.2 ⟨fun p _ => ?_,(Nb m a b ha hb).imp fun {p q} hpq x hx y hy => ?_⟩
  ·unfold Ug
   split
   ·exact List.Pairwise.nil
   ·exact List.pairwise_singleton _ _
  ·unfold Ug at hx hy
   split at hx
   ·exact absurd hx (by simp)
   split at hy
   ·exact absurd hy (by simp)
   simp only [List.mem_singleton] at hx hy;subst hx;subst hy;exact hpq
theorem Aj {sg : Int} {a b : List Lt} (h : Jc sg a b = 0) : Y6 (Jj sg a b) = 0:=by
 unfold Jj Xz;unfold Jc at h;rw [if_pos h];unfold Yx at h
 split at h
 ·rename_i h1;exact absurd h h1
 rename_i h1
 have h2 : Kd (Zb a) a.length (Zb b) b.length = 0:=Decidable.not_not.1 h1;unfold Kd at h2
 split at h2
 ·rename_i h3;exact absurd h2 h3
 rename_i h3
 have ha : Y6 a = 0:=Decidable.not_not.1 h3;have hb : Y6 b = 0:=h2
 split at h
 ·rename_i h4
  split at h
  ·exact absurd h (by decide)
  rename_i h5
  unfold W4 at h4 h5 ⊢;rw [Mv,Mv] at h4 h5 ⊢;exact Qlf (out_ok (Qak ha) (Qak hb) h4) Qa
 ·exact absurd h (by decide)
theorem Qda : ∀ (d : List Dl) (s : List Lt),Y6 s = 0 → (Qz s d).2 = 0 → Y6 (Qz s d).1 = 0
 | [],s,h,_ => h
 | x :: r,s,h,h2 => by
  unfold Qz at h2 ⊢
  split at h2
  ·rename_i h3;exact absurd h2 h3
  rename_i h3
  rw [if_neg h3];exact Qda r _ (Aj (Decidable.not_not.1 h3)) h2
/-- What a valid period says, deal by deal. -/
structure Jp (c : Qd) (p : Pd) : Prop where
 n : Z9 p.h = true
 a0 : 0 < c.numV p.a
 ab : c.numV p.a ≤ c.numV p.b
 o : Y6 p.o = 0
 k : Y6 p.c = 0
 m : p.d.length ≤ 64
 l : ∀ x ∈ p.d,Z9 x.w = true ∧ x.w ≠ p.h ∧ Uw x.l = true ∧ c.numV p.a ≤ c.numV x.on ∧ c.numV x.on ≤ c.numV p.b
 s : p.d.Pairwise fun x y => c.numV x.on ≤ c.numV y.on
theorem Qls {c : Qd} {p : Pd} (h : c.perOk p = true) : Jp c p:=by
 have k:=pdOk h;unfold Qd.perOk at h;rw [Bool.and_eq_true] at h;obtain ⟨h1,h2⟩:=h;unfold Qd.perHead Qd.spanV at h1;simp only [Bool.and_eq_true,decide_eq_true_eq] at h1;have h3 : ∀ i,i < p.d.length → c.dealOk p i = true:=fun i hi => List.all_eq_true.1 h2 i (by simpa using hi)
 refine ⟨h1.1.1.1.1,h1.1.1.1.2.1,h1.1.1.1.2.2,h1.1.1.2,h1.1.2,h1.2,fun x hx => ?_,k.sorted⟩;obtain ⟨i,hi,rfl⟩:=List.mem_iff_getElem.1 hx;have h4:=h3 i hi;unfold Qd.dealOk at h4;simp only [Bool.not_eq_true',Bool.or_eq_false_iff,decide_eq_false_iff_not,Bool.not_eq_false'] at h4;rw [Pd.dl_get hi] at h4;have h5:=k.lo 0 Qa;have h6:=k.mono (i:=0) (j:=i) Qa hi;have h7 : p.d.getD i Qw = p.d[i]:=by simp [List.getD_eq_getElem?_getD,hi]
 rw [h7] at h6;have h8 : c.numV p.a ≤ c.numV (p.d.getD 0 Qw).on:=h5;exact ⟨h4.1.1.2,h4.1.2,h4.2,by omega,by omega⟩
theorem Ql4 {c : Qd} {p : Pd} (h : Jp c p) : c.perOk p = true:=by
 refine Qlt ?_ fun k hk => ?_
 ·unfold Qd.perHead Qd.spanV;simp only [Bool.and_eq_true,decide_eq_true_eq];exact ⟨⟨⟨⟨h.n,h.a0,h.ab⟩,h.o⟩,h.k⟩,h.m⟩
 ·obtain ⟨h1, h2, h3, h4, h5⟩ := h.l _ (List.getElem_mem hk);unfold Qd.dealOk;rw [Pd.dl_get hk];simp only [Bool.not_eq_true', Bool.or_eq_false_iff, decide_eq_false_iff_not, Bool.not_eq_false'];refine ⟨⟨⟨⟨?_, by omega⟩, h1⟩, h2⟩, h3⟩
  cases k with
  | zero => show ¬ _ < c.numV p.a;omega
  | succ k =>
   show ¬ _ < c.numV (p.dl k).on
   rw [Pd.dl_get Qa];have:=List.pairwise_iff_getElem.1 h.s k (k + 1) Qa hk Qa;omega
theorem Qbh {c : Qd} {d : Dt} (h : c.numV d ≠ 0) : c.has d = true ∧ c.inE d = 0 ∧ c.numV d = (c.num d).1:=by
 unfold Qd.numV at h ⊢
 split at h
 ·rename_i h1
  refine ⟨?_,h1,by rw [if_pos h1]⟩;unfold Qd.inE at h1
  split at h1
  ·split at h1
   ·assumption
   ·exact absurd h1 (by decide)
  ·exact absurd h1 (by decide)
 ·exact absurd rfl h
/-- Both parts of a period that is divided. -/
structure DivOk (c : Qd) (p x y : Pd) : Prop where
 b : c.behV x y = true
 xy : x.c = y.o
 j : I6 x y = p
 s : Qz x.o x.d = (x.c,0)
 t : Qz y.o y.d = Qz p.o p.d
 m : x.d.length + y.d.length = p.d.length
 px : Jp c x
 py : Jp c y
/-- The join of the first periods, w, whose last one is q. -/
structure JnOk (c : Qd) (w q : Pd) : Prop where
 h : w.h = q.h
 b : w.b = q.b
 k : w.c = q.c
 ok : Jp c w
/-- Periods that follow each other. -/
def Qd.links (c : Qd) : List Pd → Prop
 | x :: y :: r => (c.behV x y = true ∧ x.c = y.o) ∧ c.links (y :: r)
 | _ => True
theorem Qaf {c : Qd} : ∀ {l : List Pd} {i : Nat} (h : i + 1 < l.length),c.links l → c.behV l[i] l[i + 1] = true ∧ l[i].c = l[i + 1].o
 | x :: y :: r,0,_,hl => hl.1
 | x :: y :: r,i + 1,h,hl => Qaf (l:=y :: r) (i:=i) (by simpa using h) hl.2
 | [x],_,h,_ => absurd h (by simp)
 | [],_,h,_ => absurd h (by simp)
def joinsV (l : List Pd) : Pd:=match l with | [] => noPd | x :: r => r.foldl I6 x
/-- What Carry has made. -/
structure Ns (c : Qd) (k : List Pd) : Prop where
 a : ∀ x ∈ k,Jp c x ∧ Qz x.o x.d = (x.c,0)
 l : c.links k
theorem Qfu {c : Qd} {q : Option Pd} {p : Pd} (hp : Jp c p) (ho : Y6 (q.elim p.o (·.c)) = 0) (hs : (Qz (q.elim p.o (·.c)) p.d).2 = 0) : Jp c (Yg q p) ∧ Qz (Yg q p).o (Yg q p).d = ((Yg q p).c,0) :=
 ⟨⟨hp.n,hp.a0,hp.ab,ho,Qda _ _ ho hs,hp.m,hp.l,hp.s⟩,by show Qz (q.elim p.o (·.c)) p.d = ((Qz (q.elim p.o (·.c)) p.d).1,0);rw [← hs]⟩
theorem Cv {c : Qd} : ∀ (l : List Pd) (q : Option Pd),(∀ p ∈ l,Jp c p) → (∀ x,q = some x → Jp c x) → (c.carR q l).2 = 0 → (c.carR q l).1.length = l.length ∧ (∀ x ∈ (c.carR q l).1,Jp c x ∧ Qz x.o x.d = (x.c,0)) ∧ (match q with | some x => c.links (x :: (c.carR q l).1) | none => c.links (c.carR q l).1) ∧ (q = none → ((c.carR q l).1.head?.map (·.o)) = l.head?.map (·.o))
 | [],q,_,_,_ => by
  refine ⟨rfl,fun x hx => absurd hx (by simp [Qd.carR]),?_,fun _ => rfl⟩
  cases q with
  | none => trivial
  | some x => trivial
 | p :: r,q,hl,hq,h => by
  cases h1 : (q.any fun q => !c.behV q p)
  ·by_cases h2 : (Qz (q.elim p.o (·.c)) p.d).2 = 0
   ·have hp:=hl p List.mem_cons_self
    have ho : Y6 (q.elim p.o (·.c)) = 0:=by
     cases q with
     | none => exact hp.o
     | some x => exact (hq x rfl).k
    obtain ⟨g1,g2⟩:=Qfu hp ho h2;rw [Gl h1 h2] at h ⊢
    split at h
    ·rename_i h3;exact absurd h h3
    rename_i h3
    rw [if_neg h3];obtain ⟨i1,i2,i3,_⟩:=Cv r (some (Yg q p)) (fun x hx => hl x (List.mem_cons_of_mem _ hx)) (fun x hx => by cases hx;exact g1) (Decidable.not_not.1 h3);refine ⟨by simp [i1],fun x hx => ?_,?_,fun hn => by subst hn;rfl⟩
    ·rcases List.mem_cons.1 hx with rfl | hx
     ·exact ⟨g1,g2⟩
     ·exact i2 x hx
    ·cases q with
     | none => exact i3
     | some x =>
      refine ⟨⟨?_,rfl⟩,i3⟩;have : c.behV x p = true:=by simpa using h1
      exact this
   ·rw [Gm h1 h2] at h;exact absurd h h2
  ·rw [Gk h1] at h;exact absurd h (by decide)
theorem Bv {c : Qd} {l : List Pd} (h : c.archE l = 0) : c.valid = true ∧ ∀ p ∈ l,Jp c p:=by
 unfold Qd.archE at h
 split at h
 ·rename_i h1;exact absurd h h1
 rename_i h1
 have hv : c.valid = true:=by
  have h2 : c.chk = 0:=Decidable.not_not.1 h1;unfold Qd.chk at h2
  split at h2
  ·assumption
  ·exact absurd h2 (by decide)
 refine ⟨hv,fun p hp => ?_⟩
 split at h
 ·exact absurd h (by decide)
 unfold Qd.persE at h
 split at h
 ·rename_i h3;exact Qls (List.all_eq_true.1 h3 p hp)
 ·exact absurd h (by decide)
theorem Tu {c : Qd} {l : List Pd} (h : (c.carryV l).2 = 0) : c.valid = true ∧ Ns c (c.carryV l).1 ∧ (c.carryV l).1.length = l.length ∧ (c.carryV l).1.head?.map (·.o) = l.head?.map (·.o):=by
 unfold Qd.carryV at h ⊢
 split at h
 ·rename_i h1;exact absurd h h1
 rename_i h1
 rw [if_neg h1];obtain ⟨hv,hp⟩:=Bv (Decidable.not_not.1 h1);obtain ⟨g1,g2,g3,g4⟩:=Cv l none hp (fun x hx => by cases hx) h;exact ⟨hv,⟨g2,g3⟩,g1,g4 rfl⟩
/-- The loop of CarryJoins: w is the join of the first i + 1 periods. -/
structure CjOk (c : Qd) (k : List Pd) (i : Nat) (w : Pd) : Prop where
 hi : i < k.length
 j : JnOk c w (k.getD i Qh)
 s : Qz w.o w.d = (w.c,0)
 o : w.o = (k.getD 0 Qh).o
theorem Es {k : List Pd} {i : Nat} (h : i < k.length) : k.getD i Qh = k[i]:=by simp [List.getD_eq_getElem?_getD,h]
/-- The loop of TopCarries: P are the parts made, r is what is left of p, W is the balance of the whole. -/
structure TopS (c : Qd) (p : Pd) (W : List Lt) (P : List Pd) (r : Pd) : Prop where
 a : ∀ x ∈ P,Jp c x ∧ Qz x.o x.d = (x.c,0)
 s : Qz r.o r.d = (W,0)
 l : c.links (P ++ [r])
 j : joinsV (P ++ [r]) = p
 ok : Jp c r
abbrev Rf:=Nat × Nat
def Qy : Rf:=(0,0)
def Y1 (p : Pd) (b : Bool) (i : Nat) : Nat → List Rf
 | 0 => []
 | k + 1 => Y1 p b i k ++ (if (p.d.getD k Qw).i = b then [(i,k)] else [])
def Y0 (l : List Pd) (b : Bool) : Nat → List Rf
 | 0 => []
 | i + 1 => Y0 l b i ++ Y1 (l.getD i Qh) b i (l.getD i Qh).d.length
def Zf (l : List Pd) (b : Bool) : List Rf:=Y0 l b l.length
def Q4 (l : List Pd) (r : Rf) : Dl:=(l.getD r.1 Qh).d.getD r.2 Qw
theorem Fx {p : Pd} {b : Bool} {i : Nat} {x : Rf} : ∀ {n : Nat},x ∈ Y1 p b i n ↔ x.1 = i ∧ x.2 < n ∧ (p.d.getD x.2 Qw).i = b
 | 0 => by simp [Y1]
 | n + 1 => by
  unfold Y1;rw [List.mem_append,Fx]
  constructor
  ·rintro (⟨h1,h2,h3⟩ | h)
   ·exact ⟨h1,by omega,h3⟩
   ·split at h
    ·rename_i e
     rw [List.mem_singleton] at h;subst h;exact ⟨rfl,by simp,e⟩
    ·exact absurd h (by simp)
  ·rintro ⟨h1,h2,h3⟩;by_cases e : x.2 = n
   ·right
    rw [← e,if_pos h3,List.mem_singleton];exact Prod.ext h1 rfl
   ·exact .inl ⟨h1,by omega,h3⟩
theorem Dh {l : List Pd} {b : Bool} {x : Rf} : ∀ {n : Nat},x ∈ Y0 l b n ↔ x.1 < n ∧ x.2 < (l.getD x.1 Qh).d.length ∧ (Q4 l x).i = b
 | 0 => by simp [Y0]
 | n + 1 => by
  unfold Y0;rw [List.mem_append,Dh,Fx]
  constructor
  ·rintro (⟨h1,h2⟩ | ⟨h1,h2,h3⟩)
   ·exact ⟨by omega,h2⟩
   ·subst h1;exact ⟨by omega,h2,h3⟩
  ·rintro ⟨h1,h2,h3⟩;by_cases e : x.1 = n
   ·right;subst e;exact ⟨rfl,h2,h3⟩
   ·exact .inl ⟨by omega,h2,h3⟩
theorem Y2 {l : List Pd} {b : Bool} {x : Rf} : x ∈ Zf l b ↔ x.1 < l.length ∧ x.2 < (l.getD x.1 Qh).d.length ∧ (Q4 l x).i = b:=Dh
/-- The W7 of references. -/
def Hi (x y : Rf) : Prop:=x.1 < y.1 ∨ (x.1 = y.1 ∧ x.2 < y.2)
theorem Qci (p : Pd) (b : Bool) (i : Nat) : ∀ n,(Y1 p b i n).Pairwise Hi
 | 0 => List.Pairwise.nil
 | n + 1 => by
  unfold Y1;refine List.pairwise_append.2 ⟨Qci p b i n,by split <;> simp,fun x hx y hy => ?_⟩;obtain ⟨h1,h2,_⟩:=Fx.1 hx
  split at hy
  ·rw [List.mem_singleton] at hy;subst hy;exact .inr ⟨h1,h2⟩
  ·exact absurd hy (by simp)
theorem Qcg (l : List Pd) (b : Bool) : ∀ n,(Y0 l b n).Pairwise Hi
 | 0 => List.Pairwise.nil
 | n + 1 => by
  unfold Y0;refine List.pairwise_append.2 ⟨Qcg l b n,Qci _ b n _,fun x hx y hy => ?_⟩;have h1:=(Dh.1 hx).1;have h2:=(Fx.1 hy).1;exact .inl Qa
theorem Qml (l : List Pd) (b : Bool) : (Zf l b).Pairwise Hi:=Qcg l b _
def Qd.mayB (c : Qd) (l : List Pd) (days : Int) (x y : Rf) : Bool :=
 decide ((Q4 l x).w = (l.getD y.1 Qh).h) && decide ((Q4 l y).w = (l.getD x.1 Qh).h) && decide ((Q4 l x).l = (Q4 l y).l) && decide (0 ≤ c.numV (Q4 l y).on - c.numV (Q4 l x).on) && decide (c.numV (Q4 l y).on - c.numV (Q4 l x).on ≤ days)
def Qd.adjA (c : Qd) (l : List Pd) (days : Int) (o : Nat) : List Nat:=(List.range (Zf l true).length).filter fun k => c.mayB l days ((Zf l false).getD o Qy) ((Zf l true).getD k Qy)
def Qd.matchI (c : Qd) (l : List Pd) (days : Int) : List (Nat × Nat):=Kn (c.adjA l days) (Zf l true).length (Zf l false).length
def Qd.matchL (c : Qd) (l : List Pd) (days : Int) : List (Rf × Rf):=(c.matchI l days).map fun p => ((Zf l false).getD p.1 Qy,(Zf l true).getD p.2 Qy)
def Qd.audE (c : Qd) (l : List Pd) (days : Int) : Int:=if c.archE l ≠ 0 then c.archE l else if days < 0 ∨ 400 < days then 8 else 0
theorem Gb (c : Qd) (l : List Pd) (days : Int) : ∀ o,∀ k ∈ c.adjA l days o,k < (Zf l true).length:=fun _ _ hk => List.mem_range.1 (List.mem_filter.1 hk).1
/-- Pairs of references, of whatever numbers. -/
abbrev Mr:=(Int × Int) × (Int × Int)
def Xi (x : Rf) : Int × Int:=(x.1,x.2)
def X8 (p : Rf × Rf) : Mr:=(Xi p.1,Xi p.2)
def Vq (l : List Pd) (r : Int × Int) : Bool:=decide (0 ≤ r.1 ∧ r.1 < l.length) && decide (0 ≤ r.2 ∧ r.2 < (l.getD r.1.toNat Qh).d.length)
def Yq (r : Int × Int) : Rf:=(r.1.toNat,r.2.toNat)
/-- What pairs asks of one pair. -/
def Qd.pairB (c : Qd) (l : List Pd) (days : Int) (m : Mr) : Bool :=
 Vq l m.1 && Vq l m.2 && !(Q4 l (Yq m.1)).i && (Q4 l (Yq m.2)).i && decide ((Q4 l (Yq m.1)).w = (l.getD m.2.1.toNat Qh).h) && decide ((Q4 l (Yq m.2)).w = (l.getD m.1.1.toNat Qh).h) && !decide ((l.getD m.1.1.toNat Qh).h = (l.getD m.2.1.toNat Qh).h) && decide ((Q4 l (Yq m.1)).l = (Q4 l (Yq m.2)).l)
  && decide (c.in2E (Q4 l (Yq m.1)).on (Q4 l (Yq m.2)).on = 0) && decide (0 ≤ c.betV (Q4 l (Yq m.1)).on (Q4 l (Yq m.2)).on) && decide (c.betV (Q4 l (Yq m.1)).on (Q4 l (Yq m.2)).on ≤ days)
def Kg : Mr:=((0,0),(0,0))
def newB (M : List Mr) (i : Nat) : Bool:=(List.range i).all fun k => !(decide ((M.getD k Kg).1 = (M.getD i Kg).1) || decide ((M.getD k Kg).2 = (M.getD i Kg).2))
def Qd.pairsB (c : Qd) (l : List Pd) (days : Int) (M : List Mr) : Bool:=(List.range M.length).all fun i => c.pairB l days (M.getD i Kg) && newB M i
theorem Qcp {l : List Pd} {r : Int × Int} (h : Vq l r = true) : Xi (Yq r) = r:=by
 unfold Vq at h;simp only [Bool.and_eq_true,decide_eq_true_eq] at h;unfold Xi Yq;exact Prod.ext (by show ((r.1.toNat : Nat) : Int) = r.1;omega) (by show ((r.2.toNat : Nat) : Int) = r.2;omega)
theorem Qcn {x y : Rf} (h : Xi x = Xi y) : x = y:=by
 unfold Xi at h;simp only [Prod.mk.injEq] at h;exact Prod.ext Qa Qa
theorem Km {α : Type} {z : α} {l : List α} {x : α} (h : x ∈ l) : ∃ i,i < l.length ∧ l.getD i z = x:=by
 obtain ⟨i,hi,rfl⟩:=List.mem_iff_getElem.1 h;exact ⟨i,hi,by simp [List.getD_eq_getElem?_getD,hi]⟩
theorem Jg {α : Type} {z : α} {l : List α} {i : Nat} (h : i < l.length) : l.getD i z ∈ l:=by
 simp [List.getD_eq_getElem?_getD,h]
theorem Qcl {l : List Pd} {b : Bool} {i j : Nat} (h : i < j) (hj : j < (Zf l b).length) : Hi ((Zf l b).getD i Qy) ((Zf l b).getD j Qy):=by
 have:=List.pairwise_iff_getElem.1 (Qml l b) i j Qa hj h
 simpa [List.getD_eq_getElem?_getD,hj,show i < (Zf l b).length by omega] using this
theorem Qca {x y : Rf} (h : Hi x y) : x ≠ y:=fun e => by subst e;rcases h with h | ⟨_,h⟩ <;> omega
theorem Qck {l : List Pd} {b : Bool} {i j : Nat} (hi : i < (Zf l b).length) (hj : j < (Zf l b).length) (h : (Zf l b).getD i Qy = (Zf l b).getD j Qy) : i = j:=by
 rcases Nat.lt_trichotomy i j with g | g | g
 ·exact absurd h (Qca (Qcl g hj))
 ·exact g
 ·exact absurd h.symm (Qca (Qcl g hi))
theorem Gc {c : Qd} {l : List Pd} {days : Int} {o k : Nat} : k ∈ c.adjA l days o ↔ k < (Zf l true).length ∧ c.mayB l days ((Zf l false).getD o Qy) ((Zf l true).getD k Qy) = true:=by
 unfold Qd.adjA;rw [List.mem_filter,List.mem_range]
theorem Qb4 {c : Qd} {l : List Pd} (h : ∀ p ∈ l,Jp c p) {x : Rf} {b : Bool} (hx : x ∈ Zf l b) : Jp c (l.getD x.1 Qh) ∧ Q4 l x ∈ (l.getD x.1 Qh).d:=by
 obtain ⟨h1,h2,_⟩:=Y2.1 hx;exact ⟨h _ (Jg h1),Jg h2⟩
theorem Qbk {c : Qd} {l : List Pd} (h : ∀ p ∈ l,Jp c p) {x : Rf} {b : Bool} (hx : x ∈ Zf l b) : 0 < c.numV (Q4 l x).on:=by
 obtain ⟨h1,h2⟩:=Qb4 h hx;have:=h1.a0;have:=(h1.l _ h2).2.2.2.1;omega
theorem Qe9 {c : Qd} {a b : Dt} (hv : c.valid = true) (ha : c.numV a ≠ 0) (hb : c.numV b ≠ 0) : c.in2E a b = 0 ∧ c.betV a b = c.numV b - c.numV a:=by
 obtain ⟨a1,_,a3⟩:=Qbh ha;obtain ⟨b1,_,b3⟩:=Qbh hb;have h : c.in2E a b = 0:=by unfold Qd.in2E;rw [if_pos hv,a1,b1];rfl
 exact ⟨h,by unfold Qd.betV;rw [if_pos h,a3,b3]⟩
/-- What may match is a pair as the chapter asks, and the other way round. -/
theorem Qap {c : Qd} {l : List Pd} {days : Int} (hv : c.valid = true) (h : ∀ p ∈ l,Jp c p) {x y : Rf} (hx : x ∈ Zf l false) (hy : y ∈ Zf l true) : c.pairB l days (X8 (x,y)) = c.mayB l days x y:=by
 obtain ⟨x1,x2,x3⟩:=Y2.1 hx;obtain ⟨y1,y2,y3⟩:=Y2.1 hy;have hx0:=Qbk h hx;have hy0:=Qbk h hy;obtain ⟨b1,b2⟩:=Qe9 (a:=(Q4 l x).on) (b:=(Q4 l y).on) hv Qa Qa;obtain ⟨p1,p2⟩:=Qb4 h hx;have hne:=(p1.l _ p2).2.1;have ex : Yq (X8 (x,y)).1 = x:=by unfold Yq X8 Xi;simp
 have ey : Yq (X8 (x,y)).2 = y:=by unfold Yq X8 Xi;simp
 have ox : Vq l (X8 (x,y)).1 = true:=by
  unfold Vq X8 Xi;simp only [Bool.and_eq_true,decide_eq_true_eq,Int.toNat_natCast];exact ⟨⟨by omega,by omega⟩,by omega,by omega⟩
 have oy : Vq l (X8 (x,y)).2 = true:=by
  unfold Vq X8 Xi;simp only [Bool.and_eq_true,decide_eq_true_eq,Int.toNat_natCast];exact ⟨⟨by omega,by omega⟩,by omega,by omega⟩
 have e1 : (X8 (x,y)).1.1.toNat = x.1:=by unfold X8 Xi;simp
 have e2 : (X8 (x,y)).2.1.toNat = y.1:=by unfold X8 Xi;simp
 unfold Qd.pairB Qd.mayB;rw [ox,oy,ex,ey,e1,e2,x3,y3,b2,decide_eq_true b1];simp only [Bool.not_false,Bool.true_and,Bool.and_true];by_cases g1 : (Q4 l x).w = (l.getD y.1 Qh).h
 ·have : ¬ (l.getD x.1 Qh).h = (l.getD y.1 Qh).h:=fun e => hne (by rw [g1,e])
  rw [decide_eq_true g1,decide_eq_false this]
  simp
 ·rw [decide_eq_false g1]
  simp
theorem Oh {α β : Type} {f : α → β} {z : α} {z' : β} {l : List α} {i : Nat} (h : i < l.length) : (l.map f).getD i z' = f (l.getD i z):=by
 simp [List.getD_eq_getElem?_getD,h]
theorem Qj2 {c : Qd} {l : List Pd} {days : Int} (hv : c.valid = true) (h : ∀ p ∈ l,Jp c p) {M : List Mr} (hM : c.pairsB l days M = true) : M.length ≤ (c.matchL l days).length:=by
 obtain ⟨_,_,hN,_⟩:=Sa (no:=(Zf l false).length) (Gb c l days);have hlen : (c.matchL l days).length = (c.matchI l days).length:=by unfold Qd.matchL;simp
 have h1 : ∀ i,i < M.length → c.pairB l days (M.getD i Kg) = true ∧ newB M i = true:=fun i hi => by
  have:=List.all_eq_true.1 hM i (by simpa using hi)
  rwa [Bool.and_eq_true] at this
 have each : ∀ m : Mr,∃ p : Nat × Nat,c.pairB l days m = true → p.1 < (Zf l false).length ∧ p.2 < (Zf l true).length ∧ Xi ((Zf l false).getD p.1 Qy) = m.1 ∧ Xi ((Zf l true).getD p.2 Qy) = m.2:=fun m => by
  by_cases e : c.pairB l days m = true
  ·have e':=e;unfold Qd.pairB at e';simp only [Bool.and_eq_true,Bool.not_eq_true'] at e';obtain ⟨⟨⟨⟨⟨⟨⟨⟨⟨⟨q1,q2⟩,q3⟩,q4⟩,_⟩,_⟩,_⟩,_⟩,_⟩,_⟩,_⟩:=e'
   have m1 : Yq m.1 ∈ Zf l false:=by
    unfold Vq at q1;simp only [Bool.and_eq_true,decide_eq_true_eq] at q1;exact Y2.2 ⟨by show m.1.1.toNat < _;omega,by show m.1.2.toNat < (l.getD m.1.1.toNat Qh).d.length;omega,q3⟩
   have m2 : Yq m.2 ∈ Zf l true:=by
    unfold Vq at q2;simp only [Bool.and_eq_true,decide_eq_true_eq] at q2;exact Y2.2 ⟨by show m.2.1.toNat < _;omega,by show m.2.2.toNat < (l.getD m.2.1.toNat Qh).d.length;omega,q4⟩
   obtain ⟨a,ha,ha'⟩:=Km (z:=Qy) m1;obtain ⟨b,hb,hb'⟩:=Km (z:=Qy) m2;exact ⟨(a,b),fun _ => ⟨ha,hb,by show Xi ((Zf l false).getD a Qy) = _;rw [ha'];exact Qcp q1,by show Xi ((Zf l true).getD b Qy) = _;rw [hb'];exact Qcp q2⟩⟩
  ·exact ⟨(0,0),fun h => absurd h e⟩
 obtain ⟨g,hg⟩:=Classical.axiomOfChoice each
 have hmem : ∀ m ∈ M,c.pairB l days m = true:=fun m hm => by
  obtain ⟨i,hi,rfl⟩:=Km (z:=Kg) hm;exact (h1 i hi).1
 have hpw : M.Pairwise fun a b => a.1 ≠ b.1 ∧ a.2 ≠ b.2:=List.pairwise_iff_getElem.2 fun i j hi hj hij => by
  have:=List.all_eq_true.1 (h1 j hj).2 i (by simpa using hij);simp only [Bool.not_eq_true',Bool.or_eq_false_iff,decide_eq_false_iff_not] at this;have gi : M.getD i Kg = M[i]:=by simp [List.getD_eq_getElem?_getD,hi]
  have gj : M.getD j Kg = M[j]:=by simp [List.getD_eq_getElem?_getD,hj]
  rwa [gi,gj] at this
 have:=hN.2 (M.map g) ⟨fun p hp => ?_,?_,?_⟩
 ·rw [hlen];simpa [Qd.matchI] using this
 ·obtain ⟨m,hm,rfl⟩:=List.mem_map.1 hp;have hb:=hmem m hm;obtain ⟨q1,q2,q3,q4⟩:=hg m hb;refine ⟨⟨Nat.zero_le _,q1⟩,Gc.2 ⟨q2,?_⟩,rfl⟩;rw [← Qap hv h (Jg q1) (Jg q2)];rw [show X8 ((Zf l false).getD (g m).1 Qy,(Zf l true).getD (g m).2 Qy) = m from Prod.ext q3 q4];exact hb
 ·refine List.pairwise_map.2 (hpw.imp_of_mem fun {a b} ha hb hab e => hab.1 ?_);rw [← (hg a (hmem a ha)).2.2.1,← (hg b (hmem b hb)).2.2.1,e]
 ·refine List.pairwise_map.2 (hpw.imp_of_mem fun {a b} ha hb hab e => hab.2 ?_);rw [← (hg a (hmem a ha)).2.2.2,← (hg b (hmem b hb)).2.2.2,e]
theorem Ca {c : Qd} {l : List Pd} {days : Int} (h : c.audE l days = 0) : (c.valid = true ∧ ∀ p ∈ l,Jp c p) ∧ 0 ≤ days ∧ days ≤ 400:=by
 unfold Qd.audE at h
 split at h
 ·rename_i h1;exact absurd h h1
 rename_i h1
 split at h
 ·exact absurd h (by decide)
 ·exact ⟨Bv (Decidable.not_not.1 h1),by omega,by omega⟩
end
section
open Go Go.RowKit Go.Shelf
attribute [local go_sem] Zx
structure K8 (W : World) (ba : Nat) (A A' : Option Addr) (ca cb : Nat) (c : Qd) (vl : Value) (l : List Pd) : Prop where
 b : Qc W ba 132 #[.slice A c.nk ca,.slice A' c.ny cb,vl,.slice none 0 0]
 C : Zg W A ca A' cb c
 P : Js W vl l
theorem K8.ext {W W' : World} {ba : Nat} {A A' : Option Addr} {ca cb : Nat} {c : Qd} {vl : Value} {l : List Pd} (h : K8 W ba A A' ca cb c vl l) (x : Qb W W') : K8 W' ba A A' ca cb c vl l:=⟨h.b.ext x,h.C.ext x,h.P.ext x⟩
theorem S4 {W : World} {b : Nat} {t : TypeId} {v0 v1 v2 v3 v4 v5 v6 : Value} (h : Qc W b t #[v0,v1,v2,v3,v4,v5,v6]) (u0 u1 u2 u3 u4 u5 u6 : Value) : Qc (((((((W.setCell ⟨b,0,none⟩ u0).setCell ⟨b,1,none⟩ u1).setCell ⟨b,2,none⟩ u2).setCell ⟨b,3,none⟩ u3).setCell ⟨b,4,none⟩ u4).setCell ⟨b,5,none⟩ u5).setCell ⟨b,6,none⟩ u6) b t #[u0,u1,u2,u3,u4,u5,u6]:=by unfold Qc at h ⊢;simp [World.setCell,Array.getElem?_modify,h]
theorem Su {w W : World} {b : Nat} (h : Qb w W) (hb : w.heap.size ≤ b) (u0 u1 u2 u3 u4 u5 u6 : Value) : Qb w (((((((W.setCell ⟨b,0,none⟩ u0).setCell ⟨b,1,none⟩ u1).setCell ⟨b,2,none⟩ u2).setCell ⟨b,3,none⟩ u3).setCell ⟨b,4,none⟩ u4).setCell ⟨b,5,none⟩ u5).setCell ⟨b,6,none⟩ u6) :=
 (((((((h.setCell (p:=⟨b,0,none⟩) hb u0).setCell (p:=⟨b,1,none⟩) hb u1).setCell (p:=⟨b,2,none⟩) hb u2).setCell (p:=⟨b,3,none⟩) hb u3).setCell (p:=⟨b,4,none⟩) hb u4).setCell (p:=⟨b,5,none⟩) hb u5).setCell (p:=⟨b,6,none⟩) hb u6)
def cutE (A : Option Addr → Nat → Option Addr → Nat → Nat → Nat → Act) (S : World → Option Addr → Nat → Option Addr → Nat → Nat → Nat → Prop) : Exit → Act → World → Prop:=fun e a' w' => e = .normal ∧ ∃ F1 m1 F2 m2 p1 p2,S w' F1 m1 F2 m2 p1 p2 ∧ a' = A F1 m1 F2 m2 p1 p2
theorem Qgx {A : Option Addr → Nat → Option Addr → Nat → Nat → Nat → Act} {S : World → Option Addr → Nat → Option Addr → Nat → Nat → Nat → Prop} {w' : World} (F1 : Option Addr) (m1 : Nat) (F2 : Option Addr) (m2 p1 p2 : Nat) {a' : Act} (h : S w' F1 m1 F2 m2 p1 p2) (ha : a' = A F1 m1 F2 m2 p1 p2) : cutE A S .normal a' w':=⟨rfl,F1,m1,F2,m2,p1,p2,h,ha⟩
theorem Qn5 {P : Program} {c : Code} {Q : Exit → Act → World → Prop} {a : Act} {w : World} {A : Option Addr → Nat → Option Addr → Nat → Nat → Nat → Act} (S : World → Option Addr → Nat → Option Addr → Nat → Nat → Nat → Prop) (h1 : c.wp P (cutE A S) a w) (h2 : ∀ F1 m1 F2 m2 p1 p2 w',S w' F1 m1 F2 m2 p1 p2 → Q .normal (A F1 m1 F2 m2 p1 p2) w') : c.wp P Q a w :=
 Code.wp_mono (fun e a' w' ⟨he,F1,m1,F2,m2,p1,p2,hs,ha⟩ => by subst he;subst ha;exact h2 F1 m1 F2 m2 p1 p2 w' hs) h1
theorem Qex (A A' : Option Addr) (ca cb : Nat) (c : Qd) (l : List Pd) (vl : Value) (days : Int) (w : World) (hC : Zg w A ca A' cb c) (hP : Js w vl l) :
  Calls Tryz.prog 34 #[.agg #[.slice A c.nk ca,.slice A' c.ny cb],vl,.int .i64 days] w fun e w' => ∃ pv,e = .returned (.tuple #[pv,.int .i64 (c.audE l days)]) ∧ Qb w w' ∧ (c.audE l days = 0 → ∃ ba,pv = .pointer (some ⟨ba,0,none⟩) ∧ w.heap.size ≤ ba ∧ Qc w' ba 132 #[.slice A c.nk ca,.slice A' c.ny cb,vl,.slice none 0 0]):=by
 have NV:=fun w h1 h2 => Bw A A' ca cb c vl l w h1 h2
 obtain ⟨pe,hpe⟩:=Qf (c.archE l);simp only [← hpe] at NV;replace hpe:=Lib.hid hpe;obtain ⟨RE,hRE⟩:=Qf (c.audE l days);rw [← hRE];replace hRE:=Lib.hid hRE
 go_enter Tryz.func34,Tryz.ntmps34
 go_upto_region 1 with (fail)
 obtain ⟨v,b1,E,B1,hbr,hv,hb1⟩:=Yi w 25 #[.slice A c.nk ca,.slice A' c.ny cb];rw [← hv,← hb1];clear hv hb1;have C:=hC.ext E;clear hC;obtain ⟨k0,k1⟩:=B1.c2;have kl:=B1.lt;go_upto_region 2 with (go_at_call 58;(with_reducible refine zc (NV _ C (hP.ext E)) ?_);rintro e w1 ⟨rfl,hx⟩;replace E:=E.trans hx;replace C:=C.ext hx;replace B1:=B1.ext hx;clear hx;clear k0 k1 kl;obtain ⟨k0,k1⟩:=B1.c2;have kl:=B1.lt)
 obtain ⟨vb1,hv⟩:=Qf (w1.alloc (.cells #[.slice A c.nk ca,.slice A' c.ny cb] 130));rw [← hv];have hx : Qb w1 vb1:=by rw [hv];exact (Qb.refl _).alloc _
 have B6 : Qc vb1 w1.heap.size 130 #[.slice A c.nk ca,.slice A' c.ny cb]:=by rw [hv];exact Qc.new _ _ _
 clear hv;generalize w1.heap.size = bb1 at *;clear k0 k1 kl;replace E:=E.trans hx;replace C:=C.ext hx;replace B1:=B1.ext hx;clear hx;obtain ⟨k0,k1⟩:=B1.c2;have kl:=B1.lt;obtain ⟨q0,q1⟩:=B6.c2;have ql:=B6.lt;clear NV;by_cases e0 : pe = 0;rotate_left
 ·have g0 : (pe == 0) = false := beq_eq_false_iff_ne.2 e0;have g0n : (pe != 0) = true := by rw [bne, g0]; rfl
  obtain rfl : RE = pe:=by rw [hRE.out];unfold Qd.audE;rw [← hpe.out];exact if_pos e0
  clear hRE hpe;go_wp2;go_ret2;exact ⟨_,rfl,E,fun h => absurd h e0⟩
 subst e0;by_cases hd : days < 0 ∨ 400 < days
 ·obtain rfl : RE = 8 := by rw [hRE.out]; unfold Qd.audE; rw [← hpe.out, if_neg (by simp), if_pos hd]
  clear hRE hpe;by_cases h1 : days < 0
  ·have g1 : decide (days < 0) = true:=decide_eq_true h1;clear hd;go_wp2;go_ret2;exact ⟨_,rfl,E,fun h => absurd h (by decide)⟩
  ·have g1 : decide (days < 0) = false:=decide_eq_false h1;have g2 : decide (400 < days) = true:=decide_eq_true Qa;clear hd h1;go_wp2;go_ret2;exact ⟨_,rfl,E,fun h => absurd h (by decide)⟩
 obtain rfl : RE = 0:=by rw [hRE.out];unfold Qd.audE;rw [← hpe.out,if_neg (by simp),if_neg hd]
 have g1 : decide (days < 0) = false:=decide_eq_false Qa;have g2 : decide (400 < days) = false:=decide_eq_false Qa;clear hd hRE hpe;obtain ⟨DL,cL,_,_,_,e1,_⟩:=id hP;subst e1;go_wp2;go_ret2;exact ⟨_,rfl,E.alloc _,_,rfl,E.size,Qc.new _ _ _⟩
theorem A3 (A A' : Option Addr) (ca cb : Nat) (c : Qd) (l : List Pd) (vl : Value) (ba : Nat) (x : Rf) (W0 w : World) (x0 : Qb W0 w) (hA : K8 W0 ba A A' ca cb c vl l) (hi : x.1 < l.length) (hk : x.2 < (l.getD x.1 Qh).d.length) :
  Calls Tryz.prog 125 #[.pointer (some ⟨ba,0,none⟩),.agg #[.int .i64 (x.1 : Nat),.int .i64 (x.2 : Nat)]] w fun e w' => ∃ F m,e = .returned (.agg #[.int .i64 (Q4 l x).on.y,.int .i64 (Q4 l x).on.m,.bool (Q4 l x).on.s,.int .i64 (Q4 l x).on.d,.bool (Q4 l x).i,.string (Q4 l x).w,.slice F (Q4 l x).l.length m]) ∧ Qb w w' ∧ Zq W0 (.slice F (Q4 l x).l.length m) (Q4 l x).l:=by
 obtain ⟨D,cap,vo,vd,vc,e0,hD,hcap,hmax,_,hat⟩:=id hA.P;subst e0;obtain ⟨T,ct,vs,e1,hT,hct,hmt,_,hatT⟩:=id (hat x.1 hi).d
 have hll : ∃ F m,vs x.2 = .slice F (Q4 l x).l.length m:=by
  obtain ⟨F,m,e,_⟩:=id (hatT x.2 hk);exact ⟨F,m,e⟩
 have hL : Zq W0 (vs x.2) (Q4 l x).l:=hatT x.2 hk;obtain ⟨F,m,hvs⟩:=hll;rw [hvs] at hL;obtain ⟨b,off,hDe,hb,hc⟩:=hD Qa;subst hDe;obtain ⟨b',off',hTe,hb',hc'⟩:=hT Qa;subst hTe
 have c10 : W0.cell? ⟨b,off + x.1 * 12 + 10,none⟩ = some (.slice (some ⟨b',off',none⟩) (l.getD x.1 Qh).d.length ct):=by
  have:=hc x.1 10 (vd x.1) hi rfl;rw [e1] at this;exact this
 have d0 : W0.cell? ⟨b',off' + x.2 * 7,none⟩ = some (.int .i64 (Q4 l x).on.y):=by simpa [Zr,Q4] using hc' x.2 0 _ hk rfl
 have d1 : W0.cell? ⟨b',off' + x.2 * 7 + 1,none⟩ = some (.int .i64 (Q4 l x).on.m):=by simpa [Zr,Q4] using hc' x.2 1 _ hk rfl
 have d2 : W0.cell? ⟨b',off' + x.2 * 7 + 2,none⟩ = some (.bool (Q4 l x).on.s):=by simpa [Zr,Q4] using hc' x.2 2 _ hk rfl
 have d3 : W0.cell? ⟨b',off' + x.2 * 7 + 3,none⟩ = some (.int .i64 (Q4 l x).on.d):=by simpa [Zr,Q4] using hc' x.2 3 _ hk rfl
 have d4 : W0.cell? ⟨b',off' + x.2 * 7 + 4,none⟩ = some (.bool (Q4 l x).i):=by simpa [Zr,Q4] using hc' x.2 4 _ hk rfl
 have d5 : W0.cell? ⟨b',off' + x.2 * 7 + 5,none⟩ = some (.string (Q4 l x).w):=by simpa [Zr,Q4] using hc' x.2 5 _ hk rfl
 have d6 : W0.cell? ⟨b',off' + x.2 * 7 + 6,none⟩ = some (.slice F (Q4 l x).l.length m):=by
  have:=hc' x.2 6 (vs x.2) hk rfl;rw [hvs] at this;exact this
 clear hc hc' hD hT hat hatT hvs e1 hcap hct;have hA1:=hA.b;clear hA;generalize Q4 l x = G at *;generalize (l.getD x.1 Qh).d.length = nd at *;generalize l.length = nl at *;obtain ⟨x1,x2⟩:=x
 simp only at *
 go_enter Tryz.func125,Tryz.ntmps125
 go_upto_region 1 with (fail)
 obtain ⟨v,b1,b2,E,B1,B4,hbr1,hbr,hn21,hv,hb1,hb2⟩:=Yb w 33 #[.int .i64 (x1 : Nat),.int .i64 (x2 : Nat)] 57 #[.int .i64 0,.int .i64 0,.bool false,.int .i64 0,.bool false,.string ⟨#[]⟩,.slice none 0 0];rw [← hv,← hb2,← hb1];clear hv hb1 hb2;have E0:=x0.trans E;go_upto_region 1 with (fail)
 refine Q5 14 [13] (fun x => Qb v x) mixed rfl ?_;intro vz hvz;have HC:=hvz;refine Qr (g:=1) [0,1,2,3,4,5,6,7,8,9,10,11,12] HC ?_
 constructor
 refine ⟨fun u hu => ?_,?_⟩
 ·obtain ⟨k0,k1⟩:=Qc.c2 (Qc.ext B1 hu);have kl:=Qc.lt (Qc.ext B1 hu);obtain ⟨a0,a1,a2,a3⟩:=Qc.c4 (Qc.ext hA1 (E0.trans hu));have al:=Qc.lt (Qc.ext hA1 (E0.trans hu));have r10:=((E0.trans hu).cell (p:=⟨b,off + x1 * 12 + 10,none⟩) hb).trans c10;have hbu:=Nat.lt_of_lt_of_le hb (E0.trans hu).size;have hbu':=Nat.lt_of_lt_of_le hb' (E0.trans hu).size;have q0:=((E0.trans hu).cell (p:=⟨b',off' + x2 * 7,none⟩) hb').trans d0;have q1:=((E0.trans hu).cell (p:=⟨b',off' + x2 * 7 + 1,none⟩) hb').trans d1;have q2:=((E0.trans hu).cell (p:=⟨b',off' + x2 * 7 + 2,none⟩) hb').trans d2;have q3:=((E0.trans hu).cell (p:=⟨b',off' + x2 * 7 + 3,none⟩) hb').trans d3
  have q4:=((E0.trans hu).cell (p:=⟨b',off' + x2 * 7 + 4,none⟩) hb').trans d4;have q5:=((E0.trans hu).cell (p:=⟨b',off' + x2 * 7 + 5,none⟩) hb').trans d5;have q6:=((E0.trans hu).cell (p:=⟨b',off' + x2 * 7 + 6,none⟩) hb').trans d6;exact Qj
 refine Qn 13 ?_;have Hs:=Qc.ext B4 HC;have z0:=Qc.frozen Hs 0;have z1:=Qc.frozen Hs 1;have z2:=Qc.frozen Hs 2;have z3:=Qc.frozen Hs 3;have z4:=Qc.frozen Hs 4;have z5:=Qc.frozen Hs 5;have z6:=Qc.frozen Hs 6;obtain ⟨y0,y1,y2,y3,y4,y5,y6⟩:=Q7 Hs;have yl:=Qc.lt Hs;go_wp2;have HX:=S4 Hs (.int .i64 G.on.y) (.int .i64 G.on.m) (.bool G.on.s) (.int .i64 G.on.d) (.bool G.i) (.string G.w) (.slice F G.l.length m);have EX:=Su (E.trans HC) hbr (.int .i64 G.on.y) (.int .i64 G.on.m) (.bool G.on.s) (.int .i64 G.on.d) (.bool G.i) (.string G.w) (.slice F G.l.length m);clear Hs z0 z1 z2 z3 z4 z5 z6 y0 y1 y2 y3 y4 y5 y6 yl;generalize World.setCell _ _ _ = wq at *
 refine Qm ?_;refine Qt ?_;obtain ⟨y0,y1,y2,y3,y4,y5,y6⟩:=Q7 HX;have yl:=Qc.lt HX;go_wp2;refine bodyPost_ret (v:=.agg #[.int .i64 G.on.y,.int .i64 G.on.m,.bool G.on.s,.int .i64 G.on.d,.bool G.i,.string G.w,.slice F G.l.length m]) (by simp [results,Tryz.results125,go_sem,y0,y1,y2,y3,y4,y5,y6]) rfl ⟨F,m,rfl,EX,hL⟩
set_option maxHeartbeats 20000000 in
theorem Qj1 (A A' : Option Addr) (ca cb : Nat) (c : Qd) (l : List Pd) (vl : Value) (ba : Nat) (days : Int) (x y : Rf) (W0 w : World) (x0 : Qb W0 w) (hA : K8 W0 ba A A' ca cb c vl l) (hv : c.valid = true) (hx1 : x.1 < l.length) (hx2 : x.2 < (l.getD x.1 Qh).d.length) (hy1 : y.1 < l.length) (hy2 : y.2 < (l.getD y.1 Qh).d.length) :
  Calls Tryz.prog 79 #[.pointer (some ⟨ba,0,none⟩),.agg #[.int .i64 (x.1 : Nat),.int .i64 (x.2 : Nat)],.agg #[.int .i64 (y.1 : Nat),.int .i64 (y.2 : Nat)],.int .i64 days] w fun e w' => e = .returned (.bool (c.mayB l days x y)) ∧ Qb w w':=by
 have N1:=fun w h => A3 A A' ca cb c l vl ba x W0 w h hA hx1 hx2
 have N2:=fun w h => A3 A A' ca cb c l vl ba y W0 w h hA hy1 hy2
 have ND:=fun d w h => Yy A A' ca cb c d w h
 have bX:=Py hv (Q4 l x).on;have bY:=Py hv (Q4 l y).on;obtain ⟨D,cap,vo,vd,vc,e0,hD,hcap,hmax,_,hat⟩:=id hA.P;subst e0;obtain ⟨b,off,hDe,hb,hc⟩:=hD Qa;subst hDe;have c1 : W0.cell? ⟨b,off + x.1 * 12,none⟩ = some (.string (l.getD x.1 Qh).h):=by simpa [Qq] using hc x.1 0 _ hx1 rfl
 have c2 : W0.cell? ⟨b,off + y.1 * 12,none⟩ = some (.string (l.getD y.1 Qh).h):=by simpa [Qq] using hc y.1 0 _ hy1 rfl
 clear hc hD hat hcap;obtain ⟨RB,hRB⟩:=Qf (c.mayB l days x y);rw [← hRB];unfold Qd.mayB at hRB;generalize hX : Q4 l x = GX at *;generalize hY : Q4 l y = GY at *;clear hX hY;generalize (l.getD x.1 Qh).h = px at *;generalize (l.getD y.1 Qh).h = py at *;generalize l.length = nl at *;obtain ⟨x1,x2⟩:=x;obtain ⟨y1,y2⟩:=y
 simp only at *
 replace hRB:=Lib.hid hRB;have hA1:=hA.b
 go_enter Tryz.func79,Tryz.ntmps79
 go_upto_region 1 with (fail)
 obtain ⟨v,b1,b2,E,B1,B2,hbr1,hbr,hn21,hv,hb1,hb2⟩:=Yb w 33 #[.int .i64 (x1 : Nat),.int .i64 (x2 : Nat)] 33 #[.int .i64 (y1 : Nat),.int .i64 (y2 : Nat)];rw [← hv,← hb2,← hb1];clear hv hb1 hb2;have E0:=x0.trans E;have HA1:=hA1.ext E0;go_upto_region 1 with (fail)
 apply Qn5 (S:=fun w' F1 m1 F2 m2 p1 p2 => Qb v w' ∧ Qc w' p1 57 #[.int .i64 GX.on.y,.int .i64 GX.on.m,.bool GX.on.s,.int .i64 GX.on.d,.bool GX.i,.string GX.w,.slice F1 GX.l.length m1] ∧ Qc w' p2 57 #[.int .i64 GY.on.y,.int .i64 GY.on.m,.bool GY.on.s,.int .i64 GY.on.d,.bool GY.i,.string GY.w,.slice F2 GY.l.length m2] ∧ Zq W0 (.slice F1 GX.l.length m1) GX.l ∧ Zq W0 (.slice F2 GY.l.length m2) GY.l)
 ·refine Q5 10 [8,9] (fun x => Qb v x) mixed rfl ?_;intro vz hvz;have HC:=hvz;have mz0:=trivial
  all_goals try
   (clear mz0
    refine Qr (g:=6) [0,1,3,4] HC ?_
    constructor
    refine ⟨fun u hu => ?_,?_⟩
    ·obtain ⟨k0,k1⟩:=Qc.c2 (Qc.ext B1 hu);have kl:=Qc.lt (Qc.ext B1 hu);obtain ⟨l0,l1⟩:=Qc.c2 (Qc.ext B2 hu);have ll:=Qc.lt (Qc.ext B2 hu);exact Qj
    have mz1:=trivial)
  all_goals try
   (clear mz1
    refine Up 2 6 7 ?_ ?_ ?_
    focus
     go_wp2_with (go_at_call 125;(with_reducible refine zc (N1 _ (E0.trans HC)) ?_);rintro e wc ⟨F1,m1,rfl,hj,L1⟩);replace HC:=HC.trans hj;try replace H10:=H10.ext hj
     try replace H11:=H11.ext hj
     clear hj;have mz2:=trivial;refine Qe HC ?_
    rotate_left
    focus
     go_wp2;obtain ⟨p1,wb,hbq,hwb,H10,HC',hx,gp1⟩:=Qp HC 57 #[.int .i64 0,.int .i64 0,.bool false,.int .i64 0,.bool false,.string ⟨#[]⟩,.slice none 0 0];rw [← hbq,← hwb];try have ne : p2 < p1:=by have:=H11.lt;omega
     replace HC:=HC';try replace H11:=H11.ext hx
     clear hbq hwb hx HC';have mz3:=trivial;refine Qe HC ?_
    rotate_left
    focus
     go_wp2;obtain ⟨p2,wb,hbq,hwb,H11,HC',hx,gp2⟩:=Qp HC 57 #[.int .i64 0,.int .i64 0,.bool false,.int .i64 0,.bool false,.string ⟨#[]⟩,.slice none 0 0];rw [← hbq,← hwb];try have ne : p1 < p2:=by have:=H10.lt;omega
     replace HC:=HC';try replace H10:=H10.ext hx
     clear hbq hwb hx HC';have mz4:=trivial;refine Qe HC ?_
    rotate_left)
  all_goals try
   (clear mz2
    refine Up 5 6 7 ?_ ?_ ?_
    focus
     go_wp2_with (go_at_call 125;(with_reducible refine zc (N2 _ (E0.trans HC)) ?_);rintro e wc ⟨F2,m2,rfl,hj,L2⟩);replace HC:=HC.trans hj;try replace H10:=H10.ext hj
     try replace H11:=H11.ext hj
     clear hj;have mz5:=trivial;refine Qe HC ?_
    rotate_left
    focus
     go_wp2;obtain ⟨p1,wb,hbq,hwb,H10,HC',hx,gp1⟩:=Qp HC 57 #[.int .i64 0,.int .i64 0,.bool false,.int .i64 0,.bool false,.string ⟨#[]⟩,.slice none 0 0];rw [← hbq,← hwb];try have ne : p2 < p1:=by have:=H11.lt;omega
     replace HC:=HC';try replace H11:=H11.ext hx
     clear hbq hwb hx HC';have mz6:=trivial;refine Qe HC ?_
    rotate_left
    focus
     go_wp2;obtain ⟨p2,wb,hbq,hwb,H11,HC',hx,gp2⟩:=Qp HC 57 #[.int .i64 0,.int .i64 0,.bool false,.int .i64 0,.bool false,.string ⟨#[]⟩,.slice none 0 0];rw [← hbq,← hwb];try have ne : p1 < p2:=by have:=H10.lt;omega
     replace HC:=HC';try replace H10:=H10.ext hx
     clear hbq hwb hx HC';have mz7:=trivial;refine Qe HC ?_
    rotate_left)
  all_goals try
   (clear mz3
    refine Zp 2 7 ?_ ?_
    focus
     go_wp2_with (go_at_call 125;(with_reducible refine zc (N1 _ (E0.trans HC)) ?_);rintro e wc ⟨F1,m1,rfl,hj,L1⟩);replace HC:=HC.trans hj;try replace H10:=H10.ext hj
     try replace H11:=H11.ext hj
     clear hj;have mz6:=trivial;refine Qe HC ?_
    rotate_left
    focus
     go_wp2;obtain ⟨p2,wb,hbq,hwb,H11,HC',hx,gp2⟩:=Qp HC 57 #[.int .i64 0,.int .i64 0,.bool false,.int .i64 0,.bool false,.string ⟨#[]⟩,.slice none 0 0];rw [← hbq,← hwb];try have ne : p1 < p2:=by have:=H10.lt;omega
     replace HC:=HC';try replace H10:=H10.ext hx
     clear hbq hwb hx HC';have mz8:=trivial;refine Qe HC ?_
    rotate_left)
  all_goals try
   (clear mz4
    refine Zp 2 6 ?_ ?_
    focus
     go_wp2_with (go_at_call 125;(with_reducible refine zc (N1 _ (E0.trans HC)) ?_);rintro e wc ⟨F1,m1,rfl,hj,L1⟩);replace HC:=HC.trans hj;try replace H10:=H10.ext hj
     try replace H11:=H11.ext hj
     clear hj;have mz7:=trivial;refine Qe HC ?_
    rotate_left
    focus
     go_wp2;obtain ⟨p1,wb,hbq,hwb,H10,HC',hx,gp1⟩:=Qp HC 57 #[.int .i64 0,.int .i64 0,.bool false,.int .i64 0,.bool false,.string ⟨#[]⟩,.slice none 0 0];rw [← hbq,← hwb];try have ne : p2 < p1:=by have:=H11.lt;omega
     replace HC:=HC';try replace H11:=H11.ext hx
     clear hbq hwb hx HC';have mz8:=trivial;refine Qe HC ?_
    rotate_left)
  all_goals try
   (clear mz5
    refine Zp 6 7 ?_ ?_
    focus
     go_wp2;obtain ⟨p1,wb,hbq,hwb,H10,HC',hx,gp1⟩:=Qp HC 57 #[.int .i64 0,.int .i64 0,.bool false,.int .i64 0,.bool false,.string ⟨#[]⟩,.slice none 0 0];rw [← hbq,← hwb];try have ne : p2 < p1:=by have:=H11.lt;omega
     replace HC:=HC';try replace H11:=H11.ext hx
     clear hbq hwb hx HC';have mz9:=trivial;refine Qe HC ?_
    rotate_left
    focus
     go_wp2;obtain ⟨p2,wb,hbq,hwb,H11,HC',hx,gp2⟩:=Qp HC 57 #[.int .i64 0,.int .i64 0,.bool false,.int .i64 0,.bool false,.string ⟨#[]⟩,.slice none 0 0];rw [← hbq,← hwb];try have ne : p1 < p2:=by have:=H10.lt;omega
     replace HC:=HC';try replace H10:=H10.ext hx
     clear hbq hwb hx HC';have mz10:=trivial;refine Qe HC ?_
    rotate_left)
  all_goals try
   (clear mz6
    refine Zp 5 7 ?_ ?_
    focus
     go_wp2_with (go_at_call 125;(with_reducible refine zc (N2 _ (E0.trans HC)) ?_);rintro e wc ⟨F2,m2,rfl,hj,L2⟩);replace HC:=HC.trans hj;try replace H10:=H10.ext hj
     try replace H11:=H11.ext hj
     clear hj;have mz9:=trivial;refine Qe HC ?_
    rotate_left
    focus
     go_wp2;obtain ⟨p2,wb,hbq,hwb,H11,HC',hx,gp2⟩:=Qp HC 57 #[.int .i64 0,.int .i64 0,.bool false,.int .i64 0,.bool false,.string ⟨#[]⟩,.slice none 0 0];rw [← hbq,← hwb];try have ne : p1 < p2:=by have:=H10.lt;omega
     replace HC:=HC';try replace H10:=H10.ext hx
     clear hbq hwb hx HC';have mz11:=trivial;refine Qe HC ?_
    rotate_left)
  all_goals try
   (clear mz7
    refine Zp 5 6 ?_ ?_
    focus
     go_wp2_with (go_at_call 125;(with_reducible refine zc (N2 _ (E0.trans HC)) ?_);rintro e wc ⟨F2,m2,rfl,hj,L2⟩);replace HC:=HC.trans hj;try replace H10:=H10.ext hj
     try replace H11:=H11.ext hj
     clear hj;have mz10:=trivial;refine Qe HC ?_
    rotate_left
    focus
     go_wp2;obtain ⟨p1,wb,hbq,hwb,H10,HC',hx,gp1⟩:=Qp HC 57 #[.int .i64 0,.int .i64 0,.bool false,.int .i64 0,.bool false,.string ⟨#[]⟩,.slice none 0 0];rw [← hbq,← hwb];try have ne : p2 < p1:=by have:=H11.lt;omega
     replace HC:=HC';try replace H11:=H11.ext hx
     clear hbq hwb hx HC';have mz11:=trivial;refine Qe HC ?_
    rotate_left)
  all_goals try
   (clear mz8
    refine Qk 2 ?_;go_wp2_with (go_at_call 125;(with_reducible refine zc (N1 _ (E0.trans HC)) ?_);rintro e wc ⟨F1,m1,rfl,hj,L1⟩);replace HC:=HC.trans hj;try replace H10:=H10.ext hj
    try replace H11:=H11.ext hj
    clear hj;have mz11:=trivial;refine Qe HC ?_)
  all_goals try
   (clear mz9
    refine Qk 7 ?_;go_wp2;obtain ⟨p2,wb,hbq,hwb,H11,HC',hx,gp2⟩:=Qp HC 57 #[.int .i64 0,.int .i64 0,.bool false,.int .i64 0,.bool false,.string ⟨#[]⟩,.slice none 0 0];rw [← hbq,← hwb];try have ne : p1 < p2:=by have:=H10.lt;omega
    replace HC:=HC';try replace H10:=H10.ext hx
    clear hbq hwb hx HC';have mz12:=trivial;refine Qe HC ?_)
  all_goals try
   (clear mz10
    refine Qk 6 ?_;go_wp2;obtain ⟨p1,wb,hbq,hwb,H10,HC',hx,gp1⟩:=Qp HC 57 #[.int .i64 0,.int .i64 0,.bool false,.int .i64 0,.bool false,.string ⟨#[]⟩,.slice none 0 0];rw [← hbq,← hwb];try have ne : p2 < p1:=by have:=H11.lt;omega
    replace HC:=HC';try replace H11:=H11.ext hx
    clear hbq hwb hx HC';have mz12:=trivial;refine Qe HC ?_)
  all_goals try
   (clear mz11
    refine Qk 5 ?_;go_wp2_with (go_at_call 125;(with_reducible refine zc (N2 _ (E0.trans HC)) ?_);rintro e wc ⟨F2,m2,rfl,hj,L2⟩);replace HC:=HC.trans hj;try replace H10:=H10.ext hj
    try replace H11:=H11.ext hj
    clear hj;have mz12:=trivial;refine Qe HC ?_)
  all_goals try
   (clear mz12
    refine Qn 8 ?_;have z0:=Qc.frozen H10 0;have z1:=Qc.frozen H10 1;have z2:=Qc.frozen H10 2;have z3:=Qc.frozen H10 3;have z4:=Qc.frozen H10 4;have z5:=Qc.frozen H10 5;have z6:=Qc.frozen H10 6;obtain ⟨u0,u1,u2,u3,u4,u5,u6⟩:=Q7 H10;have lx:=Qc.lt H10;have hgp : v.heap.size ≤ p1:=gp1;go_wp2;have Hn:=S4 H10 (.int .i64 GX.on.y) (.int .i64 GX.on.m) (.bool GX.on.s) (.int .i64 GX.on.d) (.bool GX.i) (.string GX.w) (.slice F1 GX.l.length m1);have On:=Qbp H11 (show p2 ≠ p1 by omega) (.int .i64 GX.on.y) (.int .i64 GX.on.m) (.bool GX.on.s) (.int .i64 GX.on.d) (.bool GX.i) (.string GX.w) (.slice F1 GX.l.length m1);replace HC:=Su HC hgp (.int .i64 GX.on.y) (.int .i64 GX.on.m) (.bool GX.on.s) (.int .i64 GX.on.d) (.bool GX.i) (.string GX.w) (.slice F1 GX.l.length m1)
    skip
    clear H10 z0 z1 z2 z3 z4 z5 z6 u0 u1 u2 u3 u4 u5 u6 lx hgp;have H10:=Hn;replace H11:=On;clear Hn On;generalize World.setCell _ _ _ = wq at *;have mz13:=trivial;refine Qm ?_)
  all_goals try
   (clear mz13
    refine Qn 9 ?_;have z0:=Qc.frozen H11 0;have z1:=Qc.frozen H11 1;have z2:=Qc.frozen H11 2;have z3:=Qc.frozen H11 3;have z4:=Qc.frozen H11 4;have z5:=Qc.frozen H11 5;have z6:=Qc.frozen H11 6;obtain ⟨u0,u1,u2,u3,u4,u5,u6⟩:=Q7 H11;have lx:=Qc.lt H11;have hgp : v.heap.size ≤ p2:=gp2;go_wp2;have Hn:=S4 H11 (.int .i64 GY.on.y) (.int .i64 GY.on.m) (.bool GY.on.s) (.int .i64 GY.on.d) (.bool GY.i) (.string GY.w) (.slice F2 GY.l.length m2);have On:=Qbp H10 (show p1 ≠ p2 by omega) (.int .i64 GY.on.y) (.int .i64 GY.on.m) (.bool GY.on.s) (.int .i64 GY.on.d) (.bool GY.i) (.string GY.w) (.slice F2 GY.l.length m2);replace HC:=Su HC hgp (.int .i64 GY.on.y) (.int .i64 GY.on.m) (.bool GY.on.s) (.int .i64 GY.on.d) (.bool GY.i) (.string GY.w) (.slice F2 GY.l.length m2)
    skip
    clear H11 z0 z1 z2 z3 z4 z5 z6 u0 u1 u2 u3 u4 u5 u6 lx hgp;have H11:=Hn;replace H10:=On;clear Hn On;generalize World.setCell _ _ _ = wq at *;have mz14:=trivial;refine Qm ?_)
  all_goals try
   (clear mz14
    refine Qt ?_;exact Qgx F1 m1 F2 m2 p1 p2 ⟨HC,H10,H11,L1,L2⟩ rfl)
 rintro F1 m1 F2 m2 p1 p2 w1 ⟨hx,BX,BY,L1,L2⟩;replace E0:=E0.trans hx;replace E:=E.trans hx;replace B1:=B1.ext hx;replace B2:=B2.ext hx;replace HA1:=HA1.ext hx;have C:=hA.C.ext E0;have r1:=(E0.cell (p:=⟨b,off + x1 * 12,none⟩) hb).trans c1;have r2:=(E0.cell (p:=⟨b,off + y1 * 12,none⟩) hb).trans c2;have hbw:=Nat.lt_of_lt_of_le hb E0.size;clear hx N1 N2 c1 c2;obtain ⟨x0',x1',x2',x3',x4',x5',x6'⟩:=Q7 BX;have xl:=Qc.lt BX;obtain ⟨y0',y1',y2',y3',y4',y5',y6'⟩:=Q7 BY;have yl:=Qc.lt BY;obtain ⟨k0,k1⟩:=Qc.c2 B1;have kl:=Qc.lt B1;obtain ⟨l0,l1⟩:=Qc.c2 B2;have ll:=Qc.lt B2;obtain ⟨a0,a1,a2,a3⟩:=Qc.c4 HA1;have al:=Qc.lt HA1
 have NE:=fun w h1 h2 => St (.slice F1 GX.l.length m1) (.slice F2 GY.l.length m2) GX.l GY.l w h1 h2
 go_upto_region 2 with (fail)
 by_cases g1 : GX.w = py;rotate_left
 ·obtain rfl : RB = false:=by
   rw [hRB.out];rw [decide_eq_false g1];rfl
  have t1 : (GX.w.toList == py.toList) = false:=beq_eq_false_iff_ne.2 fun h => g1 (Nj h)
  have t1n : (GX.w.toList != py.toList) = true:=by rw [bne,t1];rfl
  clear g1;clear hRB;have n1:=fun u : XW _ => NE _ (L1.ext (E0.trans u.e)) (L2.ext (E0.trans u.e))
  refine Zo w1 ?_;intro w2 h2;clear n1;obtain ⟨hcbw2,hfbw2,hzbw2,hzw2⟩:=Zn w1 h2;go_wp2;go_ret;exact ⟨rfl,E.trans h2⟩
 have t1 : (GX.w.toList == py.toList) = true:=by rw [g1];exact beq_self_eq_true _
 have t1n : (GX.w.toList != py.toList) = false:=by rw [bne,t1];rfl
 replace g1:=Lib.hid g1;by_cases g2 : GY.w = px;rotate_left
 ·obtain rfl : RB = false:=by
   rw [hRB.out];rw [decide_eq_false g2,Bool.and_false];rfl
  have t2 : (GY.w.toList == px.toList) = false:=beq_eq_false_iff_ne.2 fun h => g2 (Nj h)
  have t2n : (GY.w.toList != px.toList) = true:=by rw [bne,t2];rfl
  clear g2;clear hRB;have n1:=fun u : XW _ => NE _ (L1.ext (E0.trans u.e)) (L2.ext (E0.trans u.e))
  refine Zo w1 ?_;intro w2 h2;clear n1;obtain ⟨hcbw2,hfbw2,hzbw2,hzw2⟩:=Zn w1 h2;go_wp2;go_ret;exact ⟨rfl,E.trans h2⟩
 have t2 : (GY.w.toList == px.toList) = true:=by rw [g2];exact beq_self_eq_true _
 have t2n : (GY.w.toList != px.toList) = false:=by rw [bne,t2];rfl
 replace g2:=Lib.hid g2;by_cases g3 : GX.l = GY.l;rotate_left
 ·rw [decide_eq_false g3] at NE
  obtain rfl : RB = false:=by
   rw [hRB.out];rw [decide_eq_false g3,Bool.and_false];rfl
  clear g3;clear hRB;have n1:=fun u : XW _ => NE _ (L1.ext (E0.trans u.e)) (L2.ext (E0.trans u.e))
  refine Zo w1 ?_;intro w2 h2;clear n1;obtain ⟨hcbw2,hfbw2,hzbw2,hzw2⟩:=Zn w1 h2;go_wp2;go_ret;exact ⟨rfl,E.trans h2⟩
 rw [decide_eq_true g3] at NE;replace g3:=Lib.hid g3;have n1:=fun u : XW _ => NE _ (L1.ext (E0.trans u.e)) (L2.ext (E0.trans u.e))
 refine Zo w1 ?_;intro w2 h2;clear n1;obtain ⟨hcbw2,hfbw2,hzbw2,hzw2⟩:=Zn w1 h2;clear NE t1 t1n t2 t2n r1 r2 hbw;replace E0:=E0.trans h2;replace E:=E.trans h2;replace BX:=BX.ext h2;replace BY:=BY.ext h2;replace HA1:=HA1.ext h2;replace C:=C.ext h2;clear x0' x1' x2' x3' x4' x5' x6' xl y0' y1' y2' y3' y4' y5' y6' yl k0 k1 kl l0 l1 ll a0 a1 a2 a3 al h2 L1 L2;obtain ⟨x0',x1',x2',x3',x4',x5',x6'⟩:=Q7 BX;have xl:=Qc.lt BX;obtain ⟨y0',y1',y2',y3',y4',y5',y6'⟩:=Q7 BY;have yl:=Qc.lt BY;obtain ⟨a0,a1,a2,a3⟩:=Qc.c4 HA1;have al:=Qc.lt HA1;have NX:=ND GX.on;have NY:=ND GY.on;clear ND
 have hres : Hid (RB = (decide (0 ≤ c.numV GY.on - c.numV GX.on) && decide (c.numV GY.on - c.numV GX.on ≤ days))):=by
  unfold Hid;rw [hRB.out,decide_eq_true g1.out,decide_eq_true g2.out,decide_eq_true g3.out];rfl
 clear hRB;generalize c.numV GX.on = nx at *;generalize c.numV GY.on = ny at *;go_upto_region 4 with (fail)
 have n1:=fun u : XW _ => NX _ (C.ext u.e)
 have n2:=fun u : XW _ => NY _ (C.ext u.e)
 refine Zo w2 ?_;intro w3 h3;clear n1 n2;obtain ⟨hcbw3,hfbw3,hzbw3,hzw3⟩:=Zn w2 h3;obtain ⟨d,hd⟩:=Qf (ny - nx);rw [← hd] at hres;by_cases q1 : 0 ≤ ny - nx
 ·by_cases q2 : ny - nx ≤ days
  ·have f1 : decide (0 ≤ ny - nx) = true:=decide_eq_true q1;have f2 : decide (ny - nx ≤ days) = true:=decide_eq_true q2;go_wp2;go_ret;exact ⟨by rw [hres.out,hd,f1,f2];rfl,E.trans h3⟩
  ·have f1 : decide (0 ≤ ny - nx) = true:=decide_eq_true q1;have f2 : decide (ny - nx ≤ days) = false:=decide_eq_false q2;go_wp2;go_ret;exact ⟨by rw [hres.out,hd,f1,f2];rfl,E.trans h3⟩
 ·have f1 : decide (0 ≤ ny - nx) = false:=decide_eq_false q1;go_wp2;go_ret;exact ⟨by rw [hres.out,hd,f1];rfl,E.trans h3⟩
end
section
open Go Go.RowKit Go.Shelf
/-- A slice from its block's begin: n cells of it. -/
structure Qx (W : World) (t : TypeId) (A : Option Addr) (n b : Nat) (g : Nat → Value) : Prop where
 a : 0 < n → A = some ⟨b,0,none⟩
 h : 0 < n → ∃ cs : Array Value,Qc W b t cs ∧ n ≤ cs.size ∧ ∀ k,k < n → cs[k]? = some (g k)
section
variable {W W' : World} {t t' : TypeId} {A A' : Option Addr} {n n' b b' k : Nat} {g g' : Nat → Value} {cs : Array Value}
theorem Qx.cell (h : Qx W t A n b g) (hk : k < n) : W.cell? ⟨b,k,none⟩ = some (g k):=by
 obtain ⟨cs,h1,_,h3⟩:=h.h Qa;rw [h1.cell k,h3 k hk]
theorem Qx.lt (h : Qx W t A n b g) (hn : 0 < n) : b < W.heap.size:=by
 obtain ⟨cs,h1,_⟩:=h.h hn;exact h1.lt
theorem Qx.frozen (h : Qx W t A n b g) (hn : 0 < n) (k : Nat) : W.frozen? ⟨b,k,none⟩ = false:=by
 obtain ⟨cs,h1,_⟩:=h.h hn;exact h1.frozen k
theorem Qx.ext (h : Qx W t A n b g) (x : Qb W W') : Qx W' t A n b g:=⟨h.a,fun hn => by
 obtain ⟨cs,h1,h2⟩:=h.h hn;exact ⟨cs,h1.ext x,h2⟩⟩
theorem Qx.congr (h : Qx W t A n b g) (e : ∀ k,k < n → g k = g' k) : Qx W t A n b g':=⟨h.a,fun hn => by
 obtain ⟨cs,h1,h2,h3⟩:=h.h hn;exact ⟨cs,h1,h2,fun k hk => by rw [← e k hk];exact h3 k hk⟩⟩
theorem Ls (h : Qc W b t cs) (i : Nat) (u : Value) : Qc (W.setCell ⟨b,i,none⟩ u) b t (cs.setIfInBounds i u):=by unfold Qc at h ⊢;simp [World.setCell,Array.getElem?_modify,h]
theorem Wn (h : Qc W b t cs) (hne : b ≠ b') (j : Nat) (u : Value) : Qc (W.setCell ⟨b',j,none⟩ u) b t cs:=by unfold Qc at h ⊢;simp [World.setCell,Array.getElem?_modify,h,Ne.symm hne]
theorem Xt {cs' : Array Value} (h : Qc W b t cs) (h' : Qc W b' t' cs') (hne : t ≠ t') : b ≠ b':=fun e => by
 subst e;unfold Qc at h h';rw [h] at h';injection h' with h'
 injection h' with _ h2
 exact hne h2
theorem Qx.set (h : Qx W t A n b g) (hk : k < n) (u : Value) : Qx (W.setCell ⟨b,k,none⟩ u) t A n b (fun x => if x = k then u else g x):=⟨h.a,fun hn => by
 obtain ⟨cs,h1,h2,h3⟩:=h.h hn;refine ⟨_,Ls h1 k u,by simpa using h2,fun x hx => ?_⟩;have hs : k < cs.size:=by omega
 by_cases e : x = k
 ·subst e;simp [Array.setIfInBounds,hs]
 ·simp [Ne.symm e,h3 x hx,e]⟩
theorem Qx.oth (h : Qx W t A n b g) (hne : 0 < n → b ≠ b') (j : Nat) (u : Value) : Qx (W.setCell ⟨b',j,none⟩ u) t A n b g:=⟨h.a,fun hn => by
 obtain ⟨cs,h1,h2⟩:=h.h hn;exact ⟨cs,Wn h1 (hne hn) j u,h2⟩⟩
theorem Qx.kept {row : Option Nat} (h : Qx W t A n b g) (hg : W.grownBy W' row) (hne : 0 < n → some b ≠ row) : Qx W' t A n b g:=⟨h.a,fun hn => by
 obtain ⟨cs,h1,h2⟩:=h.h hn;exact ⟨cs,h1.kept hg (hne hn),h2⟩⟩
theorem Qx.apart (h : Qx W t A n b g) (h' : Qc W b' t' cs) (hne : t ≠ t') (hn : 0 < n) : b ≠ b':=by
 obtain ⟨ds,h1,_⟩:=h.h hn;exact Xt h1 h' hne
theorem Qx.apart2 (h : Qx W t A n b g) (h' : Qx W t' A' n' b' g') (hne : t ≠ t') (hn : 0 < n) (hn' : 0 < n') : b ≠ b':=by
 obtain ⟨ds,h1,_⟩:=h.h hn;obtain ⟨es,h2,_⟩:=h'.h hn';exact Xt h1 h2 hne
/-- A row of one's own, of cells one by one, is such an array. -/
theorem Tf {base : Nat} {v : Value} {xs : List Value} (h : W.ownsRow base t 1 v n xs) (hx : ∀ k,k < n → xs[k]? = some (g k)) : ∃ A cap b,v = .slice A n cap ∧ base ≤ b ∧ (0 < n → b < W.heap.size ∧ v.ownBlock = some b) ∧ Qx W t A n b g:=by
 rcases h.2 with ⟨rfl,rfl⟩ | ⟨q,cap,cur,rfl,h1,h2,h3,h4,h5,h6⟩
 ·exact ⟨none,0,base,rfl,Nat.le_refl _,fun h => absurd h Qa,fun h => absurd h Qa,fun h => absurd h Qa⟩
 ·refine ⟨_, cap, q, rfl, h1, fun _ => ⟨(Array.getElem?_eq_some_iff.1 h2).1, rfl⟩, fun _ => rfl, fun _ => ⟨cur, h2, by rw [h5]; omega, fun k hk => ?_⟩⟩;have := hx k hk;rw [← h6, Nat.mul_one, List.getElem?_take_of_lt hk] at this
  simpa using this
theorem Qeu (W : World) (t : TypeId) (n : Nat) (z : Value) : Qx (W.alloc (.cells (Array.replicate n z) t)) t (some ⟨W.heap.size,0,none⟩) n W.heap.size (fun _ => z) :=
 ⟨fun _ => rfl,fun _ => ⟨_,Qc.new _ _ _,by simp,fun k hk => by simp [hk]⟩⟩
end
end
section
open Go Go.RowKit Go.Shelf
attribute [local go_sem] Zx
/-- What nothing changes: the variable that holds the matcher, and the matcher. -/
structure KM (bm bs : Nat) (vo vi vy : Value) (O I X : Option Addr) (no ni cO cI cX : Nat) (W : World) : Prop where
 p : Qc W bm 166 #[.pointer (some ⟨bs,0,none⟩)]
 s : Qc W bs 213 #[vo,vi,vy,.slice O no cO,.slice I ni cI,.slice X ni cX,.func (.func 127) #[] #[.pointer (some ⟨bm,0,none⟩)]]
structure MS (W0 W : World) (bm bs : Nat) (vo vi vy : Value) (O I X : Option Addr) (no ni cO cI cX : Nat) (bo bi bf : Nat) (m : Mt) (fx : Bl) : Prop where
 e : Qb W0 W
 km : KM bm bs vo vi vy O I X no ni cO cI cX W
 o : Qx W 3 O no bo fun k => .int .i64 (m.2 k)
 i : Qx W 3 I ni bi fun k => .int .i64 (m.1 k)
 f : Qx W 4 X ni bf fun k => .bool (fx k)
 oi : 0 < no → 0 < ni → bo ≠ bi
 lo : 0 < no → W0.heap.size ≤ bo
 li : 0 < ni → W0.heap.size ≤ bi
 lf : 0 < ni → W0.heap.size ≤ bf
/-- The ins of each out, in memory. -/
def Nt (W : World) (vy : Value) (no : Nat) (adj : Nat → List Nat) : Prop:=∃ Y cap,∃ vs : Nat → Value,vy = .slice Y no cap ∧ Qs W Y no 1 (fun i => [vs i]) ∧ ∀ i,i < no → ∃ D cd,(adj i).length ≤ 1000000 ∧ vs i = .slice D (adj i).length cd ∧ Qs W D (adj i).length 1 (fun k => [.int .i64 (((adj i).getD k 0 : Nat) : Int)])
/-- Blocks but those of S stay as they are. -/
def Fr (S : Nat → Prop) (W W' : World) : Prop:=W.heap.size ≤ W'.heap.size ∧ ∀ b,b < W.heap.size → ¬ S b → W'.heap[b]? = W.heap[b]?
/-- The blocks that a search writes. -/
def SN (no ni bo bi bn : Nat) : Nat → Prop:=fun b => (0 < no ∧ b = bo) ∨ (0 < ni ∧ (b = bi ∨ b = bn))
theorem sn_o {no ni bo bi bn : Nat} (h : 0 < no) : SN no ni bo bi bn bo:=Or.inl ⟨h,rfl⟩
theorem sn_i {no ni bo bi bn : Nat} (h : 0 < ni) : SN no ni bo bi bn bi:=Or.inr ⟨h,Or.inl rfl⟩
theorem sn_n {no ni bo bi bn : Nat} (h : 0 < ni) : SN no ni bo bi bn bn:=Or.inr ⟨h,Or.inr rfl⟩
theorem Fr.refl (S : Nat → Prop) (W : World) : Fr S W W:=⟨Nat.le_refl _,fun _ _ _ => rfl⟩
theorem Fr.trans {S : Nat → Prop} {W W1 W2 : World} (h : Fr S W W1) (k : Fr S W1 W2) : Fr S W W2:=⟨Nat.le_trans h.1 k.1,fun b hb hs => (k.2 b (Nat.lt_of_lt_of_le hb h.1) hs).trans (h.2 b hb hs)⟩
theorem Fr.ext {S : Nat → Prop} {W W1 W2 : World} (h : Fr S W W1) (k : Qb W1 W2) : Fr S W W2:=⟨Nat.le_trans h.1 k.size,fun b hb hs => (k.block (Nat.lt_of_lt_of_le hb h.1)).trans (h.2 b hb hs)⟩
theorem Fr.set {S : Nat → Prop} {W W1 : World} (h : Fr S W W1) {b : Nat} (hb : S b) (j : Nat) (u : Value) : Fr S W (W1.setCell ⟨b,j,none⟩ u):=by
 refine ⟨by simpa [World.setCell] using h.1,fun c hc hs => ?_⟩;have : b ≠ c:=fun e => hs (by rw [← e];exact hb)
 rw [← h.2 c hc hs];simp [World.setCell,Array.getElem?_modify,this]
theorem Fr.held {S : Nat → Prop} {W W' : World} (h : Fr S W W') {b : Nat} {t : TypeId} {cs : Array Value} (hb : Qc W b t cs) (hs : ¬ S b) : Qc W' b t cs:=(h.2 b hb.lt hs).trans hb
theorem Fr.mono {S S' : Nat → Prop} {W W' : World} (h : Fr S W W') (k : ∀ b,S b → S' b) : Fr S' W W':=⟨h.1,fun b hb hs => h.2 b hb fun h => hs (k b h)⟩
section
variable {W0 W W' : World} {bm bs : Nat} {vo vi vy : Value} {O I X : Option Addr} {no ni cO cI cX : Nat} {bo bi bf : Nat} {m : Mt} {fx : Bl}
theorem KM.ext (h : KM bm bs vo vi vy O I X no ni cO cI cX W) (x : Qb W W') : KM bm bs vo vi vy O I X no ni cO cI cX W':=⟨h.p.ext x,h.s.ext x⟩
theorem MS.ext (h : MS W0 W bm bs vo vi vy O I X no ni cO cI cX bo bi bf m fx) (x : Qb W W') : MS W0 W' bm bs vo vi vy O I X no ni cO cI cX bo bi bf m fx:=⟨h.e.trans x,h.km.ext x,h.o.ext x,h.i.ext x,h.f.ext x,h.oi,h.lo,h.li,h.lf⟩
theorem MS.congr {m' : Mt} {fx' : Bl} (h : MS W0 W bm bs vo vi vy O I X no ni cO cI cX bo bi bf m fx) (e1 : ∀ k,k < ni → m.1 k = m'.1 k) (e2 : ∀ k,k < no → m.2 k = m'.2 k) (e3 : ∀ k,k < ni → fx k = fx' k) : MS W0 W bm bs vo vi vy O I X no ni cO cI cX bo bi bf m' fx':=⟨h.e,h.km,h.o.congr fun k hk => by rw [e2 k hk],h.i.congr fun k hk => by rw [e1 k hk],h.f.congr fun k hk => by rw [e3 k hk],h.oi,h.lo,h.li,h.lf⟩
theorem KM.set (h : KM bm bs vo vi vy O I X no ni cO cI cX W) {b : Nat} {t : TypeId} {cs : Array Value} (hb : Qc W b t cs) (h1 : t ≠ 166) (h2 : t ≠ 213) (j : Nat) (u : Value) : KM bm bs vo vi vy O I X no ni cO cI cX (W.setCell ⟨b,j,none⟩ u) :=
 ⟨Wn h.p (Ne.symm (Xt hb h.p h1)) j u,Wn h.s (Ne.symm (Xt hb h.s h2)) j u⟩
theorem MS.setO (h : MS W0 W bm bs vo vi vy O I X no ni cO cI cX bo bi bf m fx) {i : Nat} (hi : i < no) (v : Int) : MS W0 (W.setCell ⟨bo,i,none⟩ (.int .i64 v)) bm bs vo vi vy O I X no ni cO cI cX bo bi bf (m.1,Qi m.2 i v) fx:=by
 obtain ⟨cs,h1,_⟩:=h.o.h Qa;refine ⟨h.e.setCell (p:=⟨bo,i,none⟩) (h.lo Qa) _,h.km.set h1 (by decide) (by decide) _ _,(h.o.set hi _).congr fun k _ => ?_,h.i.oth (fun hn => Ne.symm (h.oi Qa hn)) _ _,h.f.oth (fun hn => Ne.symm (h.o.apart2 h.f (by decide) Qa hn)) _ _,h.oi,h.lo,h.li,h.lf⟩;by_cases e : k = i
 ·subst e;simp [Qi]
 ·simp [Qi,e]
theorem MS.setI (h : MS W0 W bm bs vo vi vy O I X no ni cO cI cX bo bi bf m fx) {k : Nat} (hk : k < ni) (v : Int) : MS W0 (W.setCell ⟨bi,k,none⟩ (.int .i64 v)) bm bs vo vi vy O I X no ni cO cI cX bo bi bf (Qi m.1 k v,m.2) fx:=by
 obtain ⟨cs,h1,_⟩:=h.i.h Qa;refine ⟨h.e.setCell (p:=⟨bi,k,none⟩) (h.li Qa) _,h.km.set h1 (by decide) (by decide) _ _,h.o.oth (fun hn => h.oi hn Qa) _ _,(h.i.set hk _).congr fun x _ => ?_,h.f.oth (fun hn => Ne.symm (h.i.apart2 h.f (by decide) Qa hn)) _ _,h.oi,h.lo,h.li,h.lf⟩;by_cases e : x = k
 ·subst e;simp [Qi]
 ·simp [Qi,e]
theorem MS.setF (h : MS W0 W bm bs vo vi vy O I X no ni cO cI cX bo bi bf m fx) {k : Nat} (hk : k < ni) (v : Bool) : MS W0 (W.setCell ⟨bf,k,none⟩ (.bool v)) bm bs vo vi vy O I X no ni cO cI cX bo bi bf m (Qi fx k v):=by
 obtain ⟨cs,h1,_⟩:=h.f.h Qa;refine ⟨h.e.setCell (p:=⟨bf,k,none⟩) (h.lf Qa) _,h.km.set h1 (by decide) (by decide) _ _,h.o.oth (fun hn => h.o.apart2 h.f (by decide) hn Qa) _ _,h.i.oth (fun hn => h.i.apart2 h.f (by decide) hn Qa) _ _,(h.f.set hk _).congr fun x _ => ?_,h.oi,h.lo,h.li,h.lf⟩;by_cases e : x = k
 ·subst e;simp [Qi]
 ·simp [Qi,e]
theorem MS.setN (h : MS W0 W bm bs vo vi vy O I X no ni cO cI cX bo bi bf m fx) {N : Option Addr} {bn k : Nat} {g : Nat → Value} (hN : Qx W 4 N ni bn g) (hk : k < ni) (hl : W0.heap.size ≤ bn) (hne : bn ≠ bf) (u : Value) : MS W0 (W.setCell ⟨bn,k,none⟩ u) bm bs vo vi vy O I X no ni cO cI cX bo bi bf m fx:=by
 obtain ⟨cs,h1,_⟩:=hN.h Qa;exact ⟨h.e.setCell (p:=⟨bn,k,none⟩) hl _,h.km.set h1 (by decide) (by decide) _ _,h.o.oth (fun hn => h.o.apart2 hN (by decide) hn Qa) _ _,h.i.oth (fun hn => h.i.apart2 hN (by decide) hn Qa) _ _,h.f.oth (fun _ => Ne.symm hne) _ _,h.oi,h.lo,h.li,h.lf⟩
end
theorem So {l : List Nat} {t : Nat} (h : t < l.length) : l.drop t = l.getD t 0 :: l.drop (t + 1):=by
 rw [List.drop_eq_getElem_cons h,List.getD_eq_getElem?_getD,List.getElem?_eq_getElem h];rfl
theorem P4 (sn fx : Bl) (k : Nat) : (fun x => Qi sn k true x || fx x) = Qi (fun x => sn x || fx x) k true:=by
 funext x
 unfold Qi;by_cases e : x = k <;> simp [e]
theorem Ch {rec : Mt → Bl → Nat → Option Mt × Bl} {i k : Nat} {r : List Nat} {m : Mt} {b : Bl} (h : b k = true) : Z7 rec i (k :: r) m b = Z7 rec i r m b:=by
 conv => lhs;unfold Z7
 rw [if_pos h]
theorem Qey {rec : Mt → Bl → Nat → Option Mt × Bl} {i k : Nat} {r : List Nat} {m : Mt} {b : Bl} (h : b k = false) (hm : m.1 k < 0) : Z7 rec i (k :: r) m b = (some (Xv m k i),Qi b k true):=by
 conv => lhs;unfold Z7
 rw [if_neg (by simp [h]),if_pos hm]
theorem Qe0 {rec : Mt → Bl → Nat → Option Mt × Bl} {i k : Nat} {r : List Nat} {m m1 : Mt} {b b2 : Bl} (h : b k = false) (hm : ¬ m.1 k < 0) (hr : rec m (Qi b k true) (m.1 k).toNat = (some m1,b2)) : Z7 rec i (k :: r) m b = (some (Xv m1 k i),b2):=by
 conv => lhs;unfold Z7
 rw [if_neg (by simp [h]),if_neg hm,hr]
theorem Qez {rec : Mt → Bl → Nat → Option Mt × Bl} {i k : Nat} {r : List Nat} {m : Mt} {b b2 : Bl} (h : b k = false) (hm : ¬ m.1 k < 0) (hr : rec m (Qi b k true) (m.1 k).toNat = (none,b2)) : Z7 rec i (k :: r) m b = Z7 rec i r m b2:=by
 conv => lhs;unfold Z7
 rw [if_neg (by simp [h]),if_neg hm,hr]
theorem Bs {W : World} {N : Option Addr} {ni bn k : Nat} {sn : Bl} (h : Qx W 4 N ni bn (fun x => .bool (sn x))) (hk : k < ni) (b : Bool) : Qx (W.setCell ⟨bn,k,none⟩ (.bool b)) 4 N ni bn (fun x => .bool (Qi sn k b x)):=(h.set hk _).congr fun x _ => by
 by_cases e : x = k
 ·subst e;simp [Qi]
 ·simp [Qi,e]
set_option maxHeartbeats 40000000 in
theorem Cj {adj : Nat → List Nat} (W0 : World) (bm bs : Nat) (vo vi vy : Value) (O I X : Option Addr) (no ni cO cI cX bo bi bf : Nat) (m : Mt) (fx : Bl) (hadj : ∀ o,∀ k ∈ adj o,k < ni) (hY : Nt W0 vy no adj) (hm : ∀ k,k < ni → 0 ≤ m.1 k → (m.1 k).toNat < no) :
  ∀ (n : Nat) (W : World) (sn : Bl) (i : Nat) (N : Option Addr) (cN bn : Nat),i < no → J7 ni (fun k => sn k || fx k) ≤ n → MS W0 W bm bs vo vi vy O I X no ni cO cI cX bo bi bf m fx → Qx W 4 N ni bn (fun x => .bool (sn x)) → (0 < ni → bn ≠ bf) → (0 < ni → W0.heap.size ≤ bn) → Calls Tryz.prog 127 #[.int .i64 i,.slice N ni cN,.pointer (some ⟨bm,0,none⟩)] W fun e W' => e = .returned (.bool (Zh adj n m (fun k => sn k || fx k) i).1.isSome) ∧ MS W0 W' bm bs vo vi vy O I X no ni cO cI cX bo bi bf ((Zh adj n m (fun k => sn k || fx k) i).1.getD m) fx ∧ Fr (SN no ni bo bi bn) W W' ∧ ∃ sn' : Bl,Qx W' 4 N ni bn (fun x => .bool (sn' x)) ∧ ∀ k,(sn' k || fx k) = (Zh adj n m (fun k => sn k || fx k) i).2 k:=by
 intro n
 induction n using Nat.strongRecOn with
 | _ n IH =>
 intro W sn i N cN bn hi hc hM hN hne hl;obtain ⟨Y,cY,vs,rfl,hYr,hYi⟩:=id hY;have hr0:=aug_eq (adj:=adj) (n:=n) (m:=m) (b:=fun k => sn k || fx k) (i:=i) (hadj i) hc;obtain ⟨R,hR⟩:=Qf (Zh adj n m (fun k => sn k || fx k) i);rw [← hR] at hr0 ⊢;replace hr0:=Lib.hid hr0.symm;clear hR;replace hc:=Lib.hid hc;have hno : 0 < no:=by omega
 have hYr2:=hYr.ext hM.e;obtain ⟨D,cD,hl6,hv,hDr⟩:=hYi i hi;obtain ⟨b,off,hYe,hb,hcc⟩:=hYr2 hno;subst hYe
 have c0 : W.cell? ⟨b,off + i,none⟩ = some (.slice D (adj i).length cD):=by
  have:=hcc i 0 (vs i) hi rfl;rw [hv] at this
  simpa using this
 clear hcc hYr2 hv;obtain ⟨la,hla⟩:=Qf ((adj i).length);rw [← hla] at c0 hDr hl6;replace hla:=Lib.hid hla
 go_enter Tryz.func127,Tryz.ntmps127
 have m0:=hM.km.p.c1;have ml:=hM.km.p.lt;obtain ⟨s0,s1,s2,s3,s4,s5,s6⟩:=Q7 hM.km.s;have sl:=hM.km.s.lt;go_upto_region 2 with (fail)
 clear c0 hb m0 ml s0 s1 s2 s3 s4 s5 s6 sl
 go_loopw [16] (fun iv wr => ∃ (t : Nat) (sn' : Bl),t ≤ la ∧ iv = .int .i64 t ∧ MS W0 wr bm bs vo vi (.slice (some ⟨b,off,none⟩) no cY) O I X no ni cO cI cX bo bi bf m fx ∧ Qx wr 4 N ni bn (fun x => .bool (sn' x)) ∧ Hid (Z7 (Zh adj (n - 1)) i ((adj i).drop t) m (fun k => sn' k || fx k) = R) ∧ Hid (J7 ni (fun k => sn' k || fx k) ≤ n) ∧ Fr (SN no ni bo bi bn) W wr) (fun iv _ => la - (intOf iv).toNat)
 case atStart => exact ⟨0,sn,Nat.zero_le _,rfl,hM,hN,hr0,hc,Fr.refl _ _⟩
 case round =>
  clear hM hN hc hr0;obtain ⟨t,sn',ht,rfl,M,N1,hr,hc,F⟩:=hrel;obtain ⟨wo,rfl⟩:=Qf wr;by_cases hlt : t < la;rotate_left
  ·obtain rfl : t = la := by omega
   have hR : R = (none,fun k => sn' k || fx k):=by
    have h:=hr.out;rw [hla.out,List.drop_length] at h;exact h.symm
   subst hR;clear hr hc IH;go_wp2;go_ret;exact ⟨rfl,M,F,sn',N1,fun _ => rfl⟩
  obtain ⟨bd,offd,rfl,hbd,hcd⟩:=(hDr.ext M.e) Qa;obtain ⟨k,hk⟩:=Qf ((adj i).getD t 0)
  have d0 : wo.cell? ⟨bd,offd + t,none⟩ = some (.int .i64 (k : Int)):=by
   have:=hcd t 0 (.int .i64 (((adj i).getD t 0 : Nat) : Int)) hlt rfl;rw [← hk] at this
   simpa using this
  clear hcd;have hkn : k < ni:=hadj i k (by rw [hk];exact Jg (by rw [← hla.out];exact hlt));have hdr:=So (l:=adj i) (t:=t) (by rw [← hla.out];exact hlt);rw [← hk] at hdr;replace hdr:=Lib.hid hdr;clear hk;have hni : 0 < ni:=by omega
  have hNe:=N1.a hni;have hXe:=M.f.a hni;have hIe:=M.i.a hni;have hOe:=M.o.a hno;subst hNe;subst hXe;subst hIe;subst hOe;have n0:=N1.cell hkn;have nl:=N1.lt hni;have x0:=M.f.cell hkn;have xl:=M.f.lt hni;have m0:=M.km.p.c1;have ml:=M.km.p.lt;obtain ⟨s0,s1,s2,s3,s4,s5,s6⟩:=Q7 M.km.s;have sl:=M.km.s.lt;cases hs : sn' k
  rotate_left
  ·rw [hs] at n0
   have hr2 : Hid (Z7 (Zh adj (n - 1)) i ((adj i).drop (t + 1)) m (fun k => sn' k || fx k) = R):=by
    have h:=hr.out;rw [hdr.out,Ch (by simp [hs])] at h;exact h
   clear hr IH hs hdr;go_wp2;exact ⟨⟨t + 1,sn',by omega,by go_num,M,N1,hr2,hc,F⟩,by simp [intOf];omega⟩
  rw [hs] at n0;cases hf : fx k
  rotate_left
  ·rw [hf] at x0
   have hr2 : Hid (Z7 (Zh adj (n - 1)) i ((adj i).drop (t + 1)) m (fun k => sn' k || fx k) = R):=by
    have h:=hr.out;rw [hdr.out,Ch (by simp [hf])] at h;exact h
   clear hr IH hs hf hdr;go_wp2;exact ⟨⟨t + 1,sn',by omega,by go_num,M,N1,hr2,hc,F⟩,by simp [intOf];omega⟩
  rw [hf] at x0;have hbk : (fun k => sn' k || fx k) k = false:=by simp [hs,hf]
  have nz:=N1.frozen hni k;go_upto_region 6 with (fail)
  have M2:=M.setN N1 hkn (hl hni) (hne hni) (.bool true);have N2:=Bs N1 hkn true;have F2:=F.set (b:=bn) (sn_n hni) k (.bool true);generalize World.setCell _ _ _ = w2 at *;clear M N1 F n0 nl nz x0 xl d0 hbd hs hf m0 ml s0 s1 s2 s3 s4 s5 s6 sl;have i0:=M2.i.cell hkn;have il:=M2.i.lt hni;have m0:=M2.km.p.c1;have ml:=M2.km.p.lt;obtain ⟨s0,s1,s2,s3,s4,s5,s6⟩:=Q7 M2.km.s;have sl:=M2.km.s.lt;by_cases hmk : m.1 k < 0
  ·have hR : R = (some (Xv m k i),Qi (fun k => sn' k || fx k) k true):=by
    have h:=hr.out;rw [hdr.out,Qey hbk hmk] at h;exact h.symm
   subst hR;clear hr hc hdr IH hbk;have hmb : decide (m.1 k < 0) = true:=decide_eq_true hmk;go_upto_region 6 with (fail)
   refine Zo w2 ?_;intro w3 h3;obtain ⟨hcbw3,hfbw3,hzbw3,hzw3⟩:=Zn w2 h3;have M3:=M2.ext h3;have N3:=N2.ext h3;have F3:=F2.ext h3;clear M2 N2 F2 i0 il m0 ml s0 s1 s2 s3 s4 s5 s6 sl;go_upto_region 7 with (fail)
   refine Q5 16 [15] (fun x => KM bm bs vo vi (.slice (some ⟨b,off,none⟩) no cY) (some ⟨bo,0,none⟩) (some ⟨bi,0,none⟩) (some ⟨bf,0,none⟩) no ni cO cI cX x) mixed rfl ?_;intro vz hvz;have M7:=M3.ext hvz;have N7:=N3.ext hvz;have F7:=F3.ext hvz;have HC:=M7.km;refine Qr (g:=3) [0,1,2,3,4,5,6,7,8,9,10,11,12] HC ?_
   constructor
   refine ⟨fun u hu => ?_,?_⟩
   ·have m0:=hu.p.c1;have ml:=hu.p.lt;obtain ⟨s0,s1,s2,s3,s4,s5,s6⟩:=Q7 hu.s;have sl:=hu.s.lt;exact Qj
   refine Qk 13 ?_;have fz:=M7.o.frozen hno i;have fc:=M7.o.cell hi;have fl:=M7.o.lt hno;go_wp2;replace N7:=N7.oth (fun hn => Ne.symm (M7.o.apart2 N7 (by decide) hno hn)) i (.int .i64 (k : Int));replace F7:=F7.set (b:=bo) (sn_o hno) i (.int .i64 (k : Int));replace M7:=M7.setO hi (k : Int);have HC:=M7.km;clear fz fc fl;generalize World.setCell _ _ _ = wq at *;refine Qe HC ?_;refine Qr (g:=1) [14] HC ?_
   constructor
   refine ⟨fun u hu => ?_,?_⟩
   ·have m0:=hu.p.c1;have ml:=hu.p.lt;obtain ⟨s0,s1,s2,s3,s4,s5,s6⟩:=Q7 hu.s;have sl:=hu.s.lt;exact Qj
   refine Qn 15 ?_;have fz:=M7.i.frozen hni k;have fc:=M7.i.cell hkn;have fl:=M7.i.lt hni;go_wp2;replace N7:=N7.oth (fun hn => Ne.symm (M7.i.apart2 N7 (by decide) hni hn)) k (.int .i64 (i : Int));replace F7:=F7.set (b:=bi) (sn_i hni) k (.int .i64 (i : Int));replace M7:=M7.setI hkn (i : Int);clear fz fc fl;generalize World.setCell _ _ _ = wq at *;refine Qm ?_;refine Qt ?_;go_wp2;go_ret;exact ⟨rfl,M7,F7,Qi sn' k true,N7,fun x => congrFun (P4 sn' fx k) x⟩
  have hmb : decide (m.1 k < 0) = false:=decide_eq_false hmk;obtain ⟨p,hp⟩ : ∃ p : Nat,m.1 k = p:=⟨(m.1 k).toNat,by omega⟩;have hpn : p < no:=by have:=hm k hkn Qa;rw [hp] at this;simpa using this
  have hpt : (m.1 k).toNat = p:=by omega
  rw [hp] at i0 hmb;have hc1:=Sc (b:=fun k => sn' k || fx k) (k:=k) hbk hkn;have hc2:=hc.out;rw [← P4] at hc1;have IHc:=fun v h1 h2 => IH (n - 1) Qa v (Qi sn' k true) p (some ⟨bn,0,none⟩) cN bn hpn Qa h1 h2 hne hl
  have hq : ∀ x,(fun k => sn' k || fx k) x = true → (Zh adj (n - 1) m (fun x => Qi sn' k true x || fx x) p).2 x = true:=fun x hx => by
   refine Lg adj (n - 1) m _ p x ?_
   show (Qi sn' k true x || fx x) = true
   by_cases e : x = k
   ·rw [e,Z2];rfl
   ·rw [Zl _ _ e];exact hx
  have hqe : Zh adj (n - 1) m (Qi (fun k => sn' k || fx k) k true) (m.1 k).toNat = Zh adj (n - 1) m (fun x => Qi sn' k true x || fx x) p:=by rw [P4,hpt]
  generalize Zh adj (n - 1) m (fun x => Qi sn' k true x || fx x) p = Q at *;obtain ⟨ro,b2⟩:=Q;clear hc1 hc2 IH;replace hmk:=Lib.hid hmk;replace hp:=Lib.hid hp;replace hpt:=Lib.hid hpt;replace hq:=Lib.hid hq;replace hqe:=Lib.hid hqe;go_upto_region 6 with (fail)
  cases ro with
  | none =>
   simp only [Option.isSome,Option.getD] at IHc;refine Qec 21 w2 mixed (by kernel_rfl) Qu ?_;intro hne hrx hry;try simp only []
   try simp only [List.append_eq,List.cons_append,List.nil_append]
   simp only [List.take_succ_cons,List.take_zero,List.drop_succ_cons,List.drop_zero];refine zuk ?_;clear hne hry hrx;intro wz hz;obtain ⟨hcwz,hfwz,hzwz⟩:=Qb.rules hz;try simp only [World.size_alloc] at hzwz
   obtain ⟨hcbwz,hfbwz,hzbwz⟩:=Qb.rules (show Qb w2 wz from Qu);clear hcwz hfwz;have M5:=M2.ext hz;have N5:=N2.ext hz;have F5:=F2.ext hz;have HC:=M5.km;have i0:=M5.i.cell hkn;have il:=M5.i.lt hni;clear m0 ml s0 s1 s2 s3 s4 s5 s6 sl;have m0:=HC.p.c1;have ml:=HC.p.lt;obtain ⟨s0,s1,s2,s3,s4,s5,s6⟩:=Q7 HC.s;have sl:=HC.s.lt;go_wp2_with (go_at_call 127;(with_reducible refine zc (IHc _ M5 N5) ?_);rintro e w3 ⟨rfl,M6,F6,sn3,N6,hb3⟩)
   have hr2 : Hid (Z7 (Zh adj (n - 1)) i ((adj i).drop (t + 1)) m (fun k => sn3 k || fx k) = R):=by
    have h:=hr.out;rw [hdr.out,Qez hbk (Int.not_lt.2 hmk.out) hqe.out] at h;rw [show (fun k => sn3 k || fx k) = b2 from funext hb3];exact h
   have hc3 : Hid (J7 ni (fun k => sn3 k || fx k) ≤ n):=by
    rw [show (fun k => sn3 k || fx k) = b2 from funext hb3];exact Nat.le_trans (Sb hq.out ni) hc.out
   have F8:=F5.trans F6;clear hr hc hdr hq hqe;go_wp2
   exact ⟨⟨t + 1,sn3,by omega,by go_num,M6,N6,hr2,hc3,F8⟩,by simp [intOf];omega⟩
  | some m1 =>
   simp only [Option.isSome,Option.getD] at IHc;refine Qec 21 w2 mixed (by kernel_rfl) Qu ?_;intro hne hrx hry;try simp only []
   try simp only [List.append_eq,List.cons_append,List.nil_append]
   simp only [List.take_succ_cons,List.take_zero,List.drop_succ_cons,List.drop_zero];refine zuk ?_;clear hne hry hrx;intro wz hz;obtain ⟨hcwz,hfwz,hzwz⟩:=Qb.rules hz;try simp only [World.size_alloc] at hzwz
   obtain ⟨hcbwz,hfbwz,hzbwz⟩:=Qb.rules (show Qb w2 wz from Qu);clear hcwz hfwz;have M5:=M2.ext hz;have N5:=N2.ext hz;have F5:=F2.ext hz;have HC:=M5.km;have i0:=M5.i.cell hkn;have il:=M5.i.lt hni;clear m0 ml s0 s1 s2 s3 s4 s5 s6 sl;have m0:=HC.p.c1;have ml:=HC.p.lt;obtain ⟨s0,s1,s2,s3,s4,s5,s6⟩:=Q7 HC.s;have sl:=HC.s.lt;go_wp2_with (go_at_call 127;(with_reducible refine zc (IHc _ M5 N5) ?_);rintro e w3 ⟨rfl,M6,F6,sn3,N6,hb3⟩)
   have hR : R = (some (Xv m1 k i),b2):=by
    have h:=hr.out;rw [hdr.out,Qe0 hbk (Int.not_lt.2 hmk.out) hqe.out] at h;exact h.symm
   subst hR;replace F6:=F5.trans F6;clear hr hc hdr hq hqe hbk HC M5 N5 F5;go_upto_region 7 with (fail)
   refine Q5 16 [15] (fun x => KM bm bs vo vi (.slice (some ⟨b,off,none⟩) no cY) (some ⟨bo,0,none⟩) (some ⟨bi,0,none⟩) (some ⟨bf,0,none⟩) no ni cO cI cX x) mixed rfl ?_;intro vz hvz;have M7:=M6.ext hvz;have N7:=N6.ext hvz;have F7:=F6.ext hvz;have HC:=M7.km;refine Qr (g:=3) [0,1,2,3,4,5,6,7,8,9,10,11,12] HC ?_
   constructor
   refine ⟨fun u hu => ?_,?_⟩
   ·have m0:=hu.p.c1;have ml:=hu.p.lt;obtain ⟨s0,s1,s2,s3,s4,s5,s6⟩:=Q7 hu.s;have sl:=hu.s.lt;exact Qj
   refine Qk 13 ?_;have fz:=M7.o.frozen hno i;have fc:=M7.o.cell hi;have fl:=M7.o.lt hno;go_wp2;replace N7:=N7.oth (fun hn => Ne.symm (M7.o.apart2 N7 (by decide) hno hn)) i (.int .i64 (k : Int));replace F7:=F7.set (b:=bo) (sn_o hno) i (.int .i64 (k : Int));replace M7:=M7.setO hi (k : Int);have HC:=M7.km;clear fz fc fl;generalize World.setCell _ _ _ = wq at *;refine Qe HC ?_;refine Qr (g:=1) [14] HC ?_
   constructor
   refine ⟨fun u hu => ?_,?_⟩
   ·have m0:=hu.p.c1;have ml:=hu.p.lt;obtain ⟨s0,s1,s2,s3,s4,s5,s6⟩:=Q7 hu.s;have sl:=hu.s.lt;exact Qj
   refine Qn 15 ?_;have fz:=M7.i.frozen hni k;have fc:=M7.i.cell hkn;have fl:=M7.i.lt hni;go_wp2;replace N7:=N7.oth (fun hn => Ne.symm (M7.i.apart2 N7 (by decide) hni hn)) k (.int .i64 (i : Int));replace F7:=F7.set (b:=bi) (sn_i hni) k (.int .i64 (i : Int));replace M7:=M7.setI hkn (i : Int);clear fz fc fl;generalize World.setCell _ _ _ = wq at *;refine Qm ?_;refine Qt ?_;go_wp2;go_ret;exact ⟨rfl,M7,F7,sn3,N7,fun x => congrFun (funext hb3) x⟩
theorem Oj : (Tryz.prog.info? 3).map (fun i => (i.zero,i.size,i.bytes)) = some (some (.int .i64 0),1,8):=by kernel_rfl
theorem Qix : (Tryz.prog.info? 4).map (fun i => (i.zero,i.size,i.bytes)) = some (some (.bool false),1,1):=by kernel_rfl
theorem Dm {P : Program} (t e : TypeId) (i : TypeInfo) (z : Value) (ht : P.underlying t = some (.slice e)) (hi : P.info? e = some i) (hz : i.zero = some z)
  (kl kc : IntKind) (n : Nat) (hbytes : i.bytes * n ≤ 281474976710656) (h63 : n ≤ 9223372036854775807) (w : World) :
  (Instr.makeSlice t (.int kl (n : Int)) (.int kc (n : Int))).run P w = .ok (.slice (some ⟨w.heap.size,0,none⟩) n n) (w.alloc (.cells (madeCells z.cells (n * i.size)) e)):=by
 have h : ((i.bytes * n : Nat) : Int) ≤ 281474976710656:=by omega
 rw [Int.natCast_mul] at h;have hr:=run_make (P:=P) w t e i z ht hi hz kl kc n n Qa (Int.le_refl _) h Qa
 simpa only [Int.toNat_natCast] using hr
theorem Qju (n : Nat) (z : Value) : madeCells #[z] (n * 1) = Array.replicate n z:=by
 apply Array.ext';rw [Nat.mul_one,toList_madeCells_one,Array.toList_replicate]
theorem Po {v z : Value} (n : Nat) (w : World) {t : TypeId} (h : v.cells = #[z]) : w.alloc (.cells (madeCells v.cells (n * 1)) t) = w.alloc (.cells (Array.replicate n z) t):=by rw [h,Qju]
theorem Qkd (n : Nat) (hn : n ≤ 1000000) (w : World) : (Instr.makeSlice 125 (.int .i64 (n : Int)) (.int .i64 (n : Int))).run Tryz.prog w = .ok (.slice (some ⟨w.heap.size,0,none⟩) n n) (w.alloc (.cells (Array.replicate n (.int .i64 0)) 3)):=by
 obtain ⟨i0,hi,hz0,hz1,hz2⟩:=info_parts Oj;have h:=Dm (P:=Tryz.prog) 125 3 i0 _ Tryz.underlying125 hi hz0 .i64 .i64 n (by rw [hz2];omega) Qa w;rw [hz1] at h;rw [h];exact congrArg _ (Po n w rfl)
theorem Qas (n : Nat) (hn : n ≤ 1000000) (w : World) : (Instr.makeSlice 171 (.int .i64 (n : Int)) (.int .i64 (n : Int))).run Tryz.prog w = .ok (.slice (some ⟨w.heap.size,0,none⟩) n n) (w.alloc (.cells (Array.replicate n (.bool false)) 4)):=by
 obtain ⟨i0,hi,hz0,hz1,hz2⟩:=info_parts Qix;have h:=Dm (P:=Tryz.prog) 171 4 i0 _ Tryz.underlying171 hi hz0 .i64 .i64 n (by rw [hz2];omega) Qa w;rw [hz1] at h;rw [h];exact congrArg _ (Po n w rfl)
theorem Qx.offM {W : World} {t t' : TypeId} {A : Option Addr} {n b b' : Nat} {g : Nat → Value} {cs : Array Value} (h : Qx W t A n b g) (hb : Qc W b' t' cs) (ht : t ≠ t') (j : Nat) (u : Value) : Qx (W.setCell ⟨b',j,none⟩ u) t A n b g:=h.oth (fun hn => by
 obtain ⟨c,h1,_⟩:=h.h hn;exact Xt h1 hb ht) j u
end
end Go.Proofs.YtoflcheopfppoaaGreatDoor
