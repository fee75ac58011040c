/- Walks and plain facts, packed; no conditions but those that each states. -/
import Derived.Test.YtoflcheopfppoaaGreatDoorK2
import Derived.RangeFuncBox
import Derived.Laws.OwnMore
import Derived.Deep.Onto
import Derived.Maps.AppendAt
import Derived.Laws.Append
set_option maxRecDepth 100000
set_option maxHeartbeats 4000000
namespace Go.Proofs.YtoflcheopfppoaaGreatDoor
section
open Go Go.RowKit
def Ja (R : Act → World → Prop) : Exit → Act → World → Prop
 | .normal,a,w => R a w
 | _,_,_ => False
section
variable {P : Program} {ops : Array Oper} {md : Region.Mode} {C : World → Prop}
theorem Qly {R : Act → World → Prop} {Q : Exit → Act → World → Prop} {e : Exit} {a : Act} {w : World} (he : e ≠ .normal) (h : Ja R e a w) : Q e a w:=by
 cases e <;> first | exact absurd rfl he | exact False.elim h
theorem Df {R : Act → World → Prop} (h : LetsOut (Ja R)) : False:=by
 obtain ⟨_,_,h⟩:=h;exact h
theorem Qf {S : Act → World → Prop} {a : Act} {w : World} (h1 : C w) (h2 : S a w) : Ja (fun a' w' => C w' ∧ S a' w') .normal a w:=⟨h1,h2⟩
def Wz (P : Program) (ops : Array Oper) (C : World → Prop) (o : Oper) (v : Value) (a : Act) : Prop :=
 Region.wanted o (yielded ops a.tmps) = true ∧ ∀ w,C w → o.quietAt P a (fun w' => w' = w) w v
theorem Wz.wpOp {i : Nat} {o : Oper} {v : Value} {a : Act} (hi : ops[i]? = some o) (hy : Wz P ops C o v a) {Q : Exit → Act → World → Prop} {K : Act → World → Prop} {w : World} (hw : C w) (h : K (a.put o.dst v) w) : wpOp P ops Q i K a w:=by
 unfold Go.wpOp;simp only [hi,hy.1,if_true];refine .inl (Oper.wp_of_quiet (C:=fun w' => w' = w) (K:=fun a' => a' = a.put o.dst v) rfl (fun a' w' h1 h2 => by rw [h1,h2];exact h) ⟨v,fun w' h1 => by rw [h1];exact hy.2 w hw,rfl⟩)
theorem Ww {i : Nat} {o : Oper} {R : Act → World → Prop} {a : Act} {w : World} (hi : ops[i]? = some o) (h : wpList P ops (Ja R) [o] a w) : wpOp P ops (Ja R) i R a w:=by
 unfold Go.wpOp;simp only [hi];unfold wpList at h;by_cases hw : Region.wanted o (yielded ops a.tmps) = true
 ·rw [if_pos hw] at h ⊢;exact h.imp (Oper.wp_mono fun _ _ h => h) id
 ·rw [if_neg hw] at h ⊢;exact h
theorem Wi {i : Nat} {R : Act → World → Prop} {Q : Exit → Act → World → Prop} {K : Act → World → Prop} {a : Act} {w : World} (h : wpOp P ops (Ja R) i K a w) : wpOp P ops Q i K a w:=by
 unfold Go.wpOp at *
 split
 ·rename_i ho;simp only [ho] at h;exact h
 ·rename_i o ho
  simp only [ho] at h
  split
  ·rename_i hw
   rw [if_pos hw] at h;exact h.imp (Qo3 (fun _ _ _ he h => Qly he h) fun _ _ h => h) fun hl => (Df hl.2).elim
  ·rename_i hw;rw [if_neg hw] at h;exact h
theorem Ci {j : Nat} {oi oj : Oper} {v : Value} (hj : ops[j]? = some oj) (hap : oi.apart ops oj = true)
  (hsi : ∀ cs b,oi.op ≠ .select cs b) (hsj : ∀ cs b,oj.op ≠ .select cs b) {K R : Act → World → Prop} {Q : Exit → Act → World → Prop} {a : Act} {w : World}
  (hy : Wz P ops C oi v a) (h : wpOp P ops (Ja R) j K (a.put oi.dst v) w) :
  wpOp P ops Q j (fun a' w' => Wz P ops C oi v a' ∧ K (a'.put oi.dst v) w') a w:=by
 obtain ⟨h1,h2,h3⟩:=Oper.apart_spec hap
 have keep : ∀ (a : Act),Wz P ops C oi v a → ∀ u,Wz P ops C oi v (a.put oj.dst u):=fun a hy u => by
  refine ⟨by rw [wanted_put oi a oj.dst u h3];exact hy.1,fun w hw => ?_⟩;have:=hy.2 w hw;unfold Oper.quietAt at *;rw [execOp_put oi hsi a oj.dst u h3];exact this
 have keepD : ∀ d,Wz P ops C oi v { a with defers:=d :: a.defers }:=fun d => ⟨hy.1,fun w hw => hy.2 w hw⟩
 unfold Go.wpOp at *;simp only [hj] at *;rw [wanted_put oj a oi.dst v h1] at h
 split
 ·rename_i hw
  rw [if_pos hw] at h;rcases h with h | hl
  case inr => exact (Df hl.2).elim
  refine .inl ?_;unfold Oper.wp at *;rw [execOp_put oj hsj a oi.dst v h1] at h;generalize (execOp a.eval oj).run P w = r at *
  cases r with
  | ok n w' =>
   cases n <;> simp only [Oper.upon] at h ⊢
   case value u => exact ⟨keep a hy u,by rw [← Act.put_comm a v u h2];exact h⟩
   case skip => exact ⟨keep a hy _,by rw [← Act.put_comm a v undef h2];exact h⟩
   case defer d =>
    refine ⟨keep _ (keepD d) _,?_⟩;rw [← Act.put_comm _ v undef h2,← Act.put_defers];exact h
   case enter f args =>
    refine Calls.mono h fun e w'' he => ?_
    cases e with
    | returned u => exact ⟨keep a hy u,by rw [← Act.put_comm a v u h2];exact he⟩
    | panicked c => exact False.elim he
    | outgrown => exact (Df he).elim
   case row row args => exact Rows.mono h fun u w'' he => ⟨keep a hy u,by rw [← Act.put_comm a v u h2];exact he⟩
  | halt x w' =>
   cases x <;> simp only [Oper.upon] at h ⊢
   case panic u => exact False.elim h
 ·rename_i hw
  rw [if_neg hw] at h;exact ⟨keep a hy _,by rw [← Act.put_comm a v undef h2];exact h⟩
/-! ### The orders -/
end
section
variable {P : Program} {ops : Array Oper} {md : Region.Mode} {C : World → Prop}
def Y1 (P : Program) (md : Region.Mode) (ops : Array Oper) (C : World → Prop) (R : Act → World → Prop) : Nat → Array Bool → Act → World → Prop
 | 0,L,a,w => Region.ready md ops L = [] ∧ R a w
 | f + 1,L,a,w => (Region.ready md ops L = [] → R a w) ∧ ∀ i ∈ Region.ready md ops L,wpOp P ops (Ja fun _ _ => False) i (fun a' w' => C w' ∧ Y1 P md ops C R f (L.setIfInBounds i true) a' w') a w
theorem Qey {i : Nat} {Q : Exit → Act → World → Prop} {K : Act → World → Prop} {a : Act} {w : World} (h : wpOp P ops (Ja fun _ _ => False) i K a w) : wpOp P ops Q i K a w:=Wi h
theorem Cf {R : Act → World → Prop} : ∀ (f : Nat) (L : Array Bool) (a : Act) (w : World),Y1 P md ops C R f L a w → wpAny P md ops (Ja R) f L a w
 | 0,_,_,_,h => h
 | f + 1,_,_,_,h => ⟨h.1,fun i hi => wpOp_mono (fun a' w' h' => Cf f _ a' w' h'.2) (Qey (h.2 i hi))⟩
theorem Qet {R : Act → World → Prop} {i : Nat} {oi : Oper} {v : Value} (hi : ops[i]? = some oi) (hsel : ∀ (j : Nat) (o : Oper) cs b,ops[j]? = some o → o.op ≠ .select cs b) :
  ∀ (f : Nat) (L : Array Bool) (a : Act) (w : World),
   (∀ j oj,ops[j]? = some oj → j ≠ i → L.getD j true = false → (∀ e ∈ oj.after,Region.binds md e = true → e.on ≠ i) → oi.apart ops oj = true) →
   i ∈ Region.ready md ops L → C w → Wz P ops C oi v a →
   Y1 P md ops C R f (L.setIfInBounds i true) (a.put oi.dst v) w → Y1 P md ops C R (f + 1) L a w:=by
 intro f
 induction f with
 | zero =>
  intro L a w _ hr hw hy H;refine ⟨fun h => (by rw [h] at hr;cases hr),fun j hj => ?_⟩;by_cases hji : j = i
  ·subst hji;exact hy.wpOp hi hw ⟨hw,H⟩
  ·have:=ready_mono hj hji;rw [H.1] at this
   cases this
 | succ f ih =>
  intro L a w hfree hr hw hy H;refine ⟨fun h => (by rw [h] at hr;cases hr),fun j hj => ?_⟩;by_cases hji : j = i
  ·subst hji;exact hy.wpOp hi hw ⟨hw,H⟩
  ·have h1:=H.2 j (ready_mono hj hji);obtain ⟨hjun,oj,hoj,hall⟩:=mem_ready.1 hj
   have hnot : ∀ e ∈ oj.after,Region.binds md e = true → e.on ≠ i:=fun e he hb heq => by
    have h1:=hall e he hb;rw [heq,getD_both (mem_ready.1 hr).1] at h1;cases h1
   have h2:=Ci (Q:=Ja fun _ _ => False) hoj (hfree j oj hoj hji hjun hnot) (fun cs b => hsel i oi cs b hi) (fun cs b => hsel j oj cs b hoj) hy h1
   have hfree' : ∀ k ok,ops[k]? = some ok → k ≠ i → (L.setIfInBounds j true).getD k true = false → (∀ e ∈ ok.after,Region.binds md e = true → e.on ≠ i) → oi.apart ops ok = true:=fun k ok hk hki hun hno => by
    refine hfree k ok hk hki ?_ hno;by_cases hjk : j = k
    ·subst hjk;exact hjun
    ·rw [getD_set_ne true hjk] at hun;exact hun
   refine wpOp_mono (fun a' w' h3 => ⟨h3.2.1,ih (L.setIfInBounds j true) a' w' hfree' (ready_mono hr (Ne.symm hji)) h3.2.1 h3.1 ?_⟩) h2;rw [Array.setIfInBounds_comm _ _ hji];exact h3.2.2
/-! ### The values of the operations that leave the world -/
def Yo : List Oper → Bool
 | [] => true
 | o :: l => o.guard.isNone && (match o.dst with | some d => l.all fun q => q.dst != some d | none => false) && Yo l
theorem Rs {A : Act} {w : World} {d : Tmp} : ∀ (l : List Oper) (a : Act),(l.all fun q => q.dst != some d) = true → wpQuiet P ops (fun w' => w' = w) (fun a' => a' = A) l a → A.tmps[d]? = a.tmps[d]?
 | [],a,_,h => by
  have h : a = A:=h
  rw [h]
 | o :: l,a,hd,h => by
  simp only [List.all_cons,Bool.and_eq_true,bne_iff_ne,ne_eq] at hd
  have keep : ∀ v,(a.put o.dst v).tmps[d]? = a.tmps[d]?:=fun v => by
   cases ho : o.dst with
   | none => rfl
   | some e =>
    have hne : e ≠ d:=fun he => hd.1 (by rw [ho,he])
    simp [Act.put,Array.getElem?_setIfInBounds_ne hne]
  unfold wpQuiet at h
  split at h
  ·obtain ⟨v,_,h2⟩:=h;rw [Rs l _ hd.2 h2,keep]
  ·rw [Rs l _ hd.2 h,keep]
theorem Qnr {W : World} {A : Act} {o : Oper} {l : List Oper} {a : Act} (hb : Yo (o :: l) = true) (hz : ∀ d,o.dst = some d → d < a.tmps.size) (h : ∀ u : XW W,wpQuiet P ops (fun w' => w' = u.w) (fun a' => a' = A) (o :: l) a) :
  ∃ v,Wz P ops (Qc W) o v a ∧ ∀ u : XW W,wpQuiet P ops (fun w' => w' = u.w) (fun a' => a' = A) l (a.put o.dst v):=by
 simp only [Yo,Bool.and_eq_true] at hb;obtain ⟨⟨hg,hd⟩,_⟩:=hb
 cases ho : o.dst with
 | none => rw [ho] at hd;cases hd
 | some d =>
  rw [ho] at hd
  have hw : Region.wanted o (yielded ops a.tmps) = true:=by
   unfold Region.wanted
   cases hgo : o.guard with
   | none => rfl
   | some g => rw [hgo] at hg;cases hg
  have each : ∀ u : XW W,∃ v,o.quietAt P a (fun w' => w' = u.w) u.w v ∧ A.tmps[d]? = some v ∧ wpQuiet P ops (fun w' => w' = u.w) (fun a' => a' = A) l (a.put (some d) v):=fun u => by
   have h1:=h u;unfold wpQuiet at h1;rw [if_pos hw] at h1;obtain ⟨v,h2,h3⟩:=h1;rw [ho] at h3;refine ⟨v,h2 _ rfl,?_,h3⟩;rw [Rs l _ hd h3];simp [Act.put,hz d ho]
  obtain ⟨v,_,hv,_⟩:=each ⟨W,Qc.refl W⟩;refine ⟨v,⟨hw,fun w' e => ?_⟩,fun u => ?_⟩
  ·obtain ⟨v',h1,h2,_⟩:=each ⟨w',e⟩;rw [hv] at h2;rw [Option.some.inj h2];exact h1
  ·obtain ⟨v',_,h2,h3⟩:=each u;rw [hv] at h2;rw [Option.some.inj h2];exact h3
end
section
variable {P : Program} {ops : Array Oper} {md : Region.Mode} {C : World → Prop} {R : Act → World → Prop}
def Lw (md : Region.Mode) (ops : Array Oper) : List Nat → Array Bool → Bool
 | [],_ => true
 | k :: ks,L => (Region.ready md ops L).contains k && Region.free md ops L k && Lw md ops ks (L.setIfInBounds k true)
def U6 : List Nat → Array Bool → Array Bool
 | [],L => L
 | k :: ks,L => U6 ks (L.setIfInBounds k true)
def Xh (a : Act) (l : List Oper) : Bool:=l.all fun o => match o.dst with | some d => decide (d < a.tmps.size) | none => true
theorem Cy {W : World} {A : Act} {g : Nat} (hs : Region.noSelect ops = true) : ∀ (ks : List Nat) (l : List Oper) (L : Array Bool) (a : Act) (w : World),l.map some = ks.map (fun k => ops[k]?) → Yo l = true → Xh a l = true →
  Lw md ops ks L = true → Qc W w → (∀ u : XW W,wpQuiet P ops (fun w' => w' = u.w) (fun a' => a' = A) l a) → Y1 P md ops (Qc W) R g (U6 ks L) A w → Y1 P md ops (Qc W) R (l.length + g) L a w
 | [],[],L,a,w,_,_,_,_,_,h,H => by
  have e : a = A:=h ⟨W,Qc.refl W⟩;subst e;rw [List.length_nil,Nat.zero_add]
  exact H
 | k :: ks,o :: l,L,a,w,hl,hd,hz,hB,hw,h,H => by
  simp only [List.map_cons,List.cons.injEq] at hl;have h0 : ops[k]? = some o:=hl.1.symm;simp only [Lw,Bool.and_eq_true] at hB;obtain ⟨⟨hr,hf⟩,hB'⟩:=hB;have hzo:=hz;simp only [Xh,List.all_cons,Bool.and_eq_true] at hzo;obtain ⟨v,hy,hn⟩:=Qnr hd (fun d he => by have:=hzo.1;rw [he] at this;simpa using this) h;have hd' : Yo l = true:=by simp only [Yo,Bool.and_eq_true] at hd;exact hd.2
  have hsz : (a.put o.dst v).tmps.size = a.tmps.size:=by cases o.dst <;> simp [Act.put]
  rw [show (o :: l).length + g = (l.length + g) + 1 by simp only [List.length_cons];omega]
  exact Qet h0 (Region.noSelect_spec hs) _ L a w (Region.free_spec h0 hf) (by simpa using hr) hw hy
   (Cy hs ks l _ _ w hl.2 hd' (by unfold Xh;rw [hsz];exact hzo.2) hB' hw hn H)
 | [],_ :: _,_,_,_,hl,_,_,_,_,_,_ => by simp at hl
 | _ :: _,[],_,_,_,hl,_,_,_,_,_,_ => by simp at hl
def K6 (ops : Array Oper) : List Nat → List Oper → Prop
 | [],[] => True
 | k :: ks,o :: l => ops[k]? = some o ∧ K6 ops ks l
 | _,_ => False
theorem Hx : ∀ {ks : List Nat} {l : List Oper},K6 ops ks l → l.map some = ks.map (fun k => ops[k]?)
 | [],[],_ => rfl
 | k :: ks,o :: l,h => by rw [List.map_cons,List.map_cons,h.1,Hx h.2]
 | [],_ :: _,h => h.elim
 | _ :: _,[],h => h.elim
theorem Cv {W : World} {g f : Nat} {L : Array Bool} {a : Act} {w : World} (ks : List Nat) (l : List Oper) (hl : K6 ops ks l) (hB : (Region.noSelect ops && Yo l && Lw md ops ks L && decide (f = l.length + g)) = true) (hz : Xh a l = true) (hw : Qc W w)
  (h : ∃ A,(∀ u : XW W,wpQuiet P ops (fun w' => w' = u.w) (fun a' => a' = A) l a) ∧ Y1 P md ops (Qc W) R g (U6 ks L) A w) : Y1 P md ops (Qc W) R f L a w:=by
 obtain ⟨A,h1,h2⟩:=h;simp only [Bool.and_eq_true,decide_eq_true_eq] at hB;obtain ⟨⟨⟨hs,hd⟩,hk⟩,rfl⟩:=hB;exact Cy hs ks l L a w (Hx hl) hd hz hk hw h1 h2
theorem Vc {f : Nat} {L : Array Bool} {a : Act} {w : World} {o : Oper} (k : Nat) (ho : ops[k]? = some o) (hB : decide (Region.ready md ops L = [k]) = true)
  (h : wpList P ops (Ja fun a' w' => C w' ∧ Y1 P md ops C R f (L.setIfInBounds k true) a' w') [o] a w) : Y1 P md ops C R (f + 1) L a w:=by
 have hB:=of_decide_eq_true hB;refine ⟨fun h => (by rw [hB] at h;cases h),fun j hj => ?_⟩;rw [hB,List.mem_singleton] at hj;subst hj;exact Wi (Ww ho h)
theorem Qfb {f : Nat} {L : Array Bool} {a : Act} {w : World} {o1 o2 : Oper} (k1 k2 : Nat) (h1 : ops[k1]? = some o1) (h2 : ops[k2]? = some o2) (hB : decide (Region.ready md ops L = [k1,k2]) = true)
  (ha : wpList P ops (Ja fun a' w' => C w' ∧ Y1 P md ops C R f (L.setIfInBounds k1 true) a' w') [o1] a w)
  (hb : wpList P ops (Ja fun a' w' => C w' ∧ Y1 P md ops C R f (L.setIfInBounds k2 true) a' w') [o2] a w) : Y1 P md ops C R (f + 1) L a w:=by
 have hB:=of_decide_eq_true hB;refine ⟨fun h => (by rw [hB] at h;cases h),fun j hj => ?_⟩;rw [hB] at hj;rcases List.mem_cons.1 hj with rfl | hj
 ·exact Wi (Ww h1 ha)
 ·rw [List.mem_singleton] at hj;subst hj;exact Wi (Ww h2 hb)
theorem Gm {L : Array Bool} {a : Act} {w : World} (hB : decide (Region.ready md ops L = []) = true) (h : R a w) : Y1 P md ops C R 0 L a w:=⟨of_decide_eq_true hB,h⟩
end
end
section
open Go Go.RowKit
attribute [local go_sem] Z8
end
section
theorem Sx (c : Qd) {i j : Nat} (h : i ≤ j) : c.dayAt i ≤ c.dayAt j:=by
 induction j with
 | zero => obtain rfl : i = 0 := by omega
           exact Int.le_refl _
 | succ j ih =>
  rcases Nat.lt_or_ge j i with h' | h'
  ·obtain rfl : i = j + 1 := by omega
   exact Int.le_refl _
  ·have:=ih h';have:=Ib (c.yr j);rw [Qd.dayAt];omega
theorem R7 (c : Qd) (i : Nat) : ∀ (l : List (Int × Bool)) (d : Int) (x : It),x ∈ Js i (c.yr i) d l → x.y = i ∧ d ≤ x.first ∧ x.first + x.len c ≤ d + (c.yr i).lens l
 | [],d,x,hx => by cases hx
 | p :: l,d,x,hx => by
  have h0:=Oy (c.yr i) l;have h1:=Ux (c.yr i) p.1 p.2;rw [Js] at hx;rw [Yr.lens];rcases List.mem_cons.1 hx with rfl | hx
  ·refine ⟨rfl,Int.le_refl _,?_⟩
   show d + (c.yr i).len p.1 p.2 ≤ _
   omega
  ·have:=R7 c i l _ x hx;omega
theorem Pv (c : Qd) : ∀ (k : Nat) (x : It),x ∈ c.itemsTo k → x.y < k ∧ c.dayAt x.y ≤ x.first ∧ x.first + x.len c ≤ c.dayAt (x.y + 1)
 | 0,x,hx => by cases hx
 | k + 1,x,hx => by
  rw [Qd.itemsTo,List.mem_append] at hx;rcases hx with hx | hx
  ·have:=Pv c k x hx;omega
  ·have h:=R7 c k _ _ x hx;refine ⟨by omega,by rw [h.1];exact h.2.1,by rw [h.1];exact h.2.2⟩
theorem Qax {c : Qd} {x : It} (hx : x ∈ c.items) : 1 ≤ x.first ∧ x.first + x.len c ≤ c.dayAt c.ny:=by
 have h:=Pv c c.ny x hx;have h1:=Sx c (i:=0) (j:=x.y) Qa;have h2:=Sx c (i:=x.y + 1) (j:=c.ny) Qa;have h3 : c.dayAt 0 = 1:=rfl;omega
theorem Ac {c : Qd} {n : Int} {o : Dt} : ∀ {l : List It},c.atFrom n l = some o → ∃ x,x ∈ l ∧ x.first ≤ n ∧ n - x.first < x.len c ∧ o = ⟨x.y,x.n,x.s,n - x.first + 1⟩
 | x :: l,h => by
  rw [Qd.atFrom] at h
  split at h
  ·rename_i hx
   exact ⟨x,List.mem_cons_self ..,hx.1,hx.2,by simpa using h.symm⟩
  ·obtain ⟨y,hy,h1⟩:=Ac h;exact ⟨y,List.mem_cons_of_mem _ hy,h1⟩
theorem at_out {c : Qd} {n : Int} (h : n < 1 ∨ c.dayAt c.ny ≤ n) : c.at? n = none:=by
 cases ho : c.at? n with
 | none => rfl
 | some o =>
  obtain ⟨x,hx,h1,h2,_⟩:=Ac ho;have:=Qax hx;omega
theorem Qcf {c : Qd} {d : Dt} (hd : c.has d = true) : ∀ (l : List It) (k : Int),(∀ x,x ∈ l → x ∈ c.items) → 0 ≤ (Yy d l k).1 ∧ (Yy d l k).1 ≤ c.dayAt c.ny - 1
 | [],k,_ => by
  have h2:=Oe c c.ny
  simp [Yy];omega
 | x :: l,k,hl => by
  rw [Yy]
  split
  ·rename_i hx
   have h1:=Qax (hl x (List.mem_cons_self ..));simp only [Qd.has,Bool.and_eq_true,decide_eq_true_eq] at hd;simp only [It.of,Bool.and_eq_true,decide_eq_true_eq,beq_iff_eq] at hx
   have e : x.len c = (c.yrI d.y).len d.m d.s:=by
    unfold It.len Qd.yrI;rw [hx.2,hx.1.2,← hx.1.1];rfl
   simp only
   omega
  ·exact Qcf hd l (k + 1) (fun y hy => hl y (List.mem_cons_of_mem _ hy))
theorem num_le {c : Qd} {d : Dt} (hd : c.has d = true) : 0 ≤ (c.num d).1 ∧ (c.num d).1 ≤ c.dayAt c.ny - 1:=Qcf hd c.items 0 (fun _ h => h)
def It.before (x y : It) : Prop:=x.y < y.y ∨ (x.y = y.y ∧ (x.n < y.n ∨ (x.n = y.n ∧ x.s = false ∧ y.s = true)))
def Qd.ord (c : Qd) (x y : It) : Prop:=x.first + x.len c ≤ y.first ∧ x.before y
def pb (p q : Int × Bool) : Prop:=p.1 < q.1 ∨ (p.1 = q.1 ∧ p.2 = false ∧ q.2 = true)
theorem P7 (y : Yr) : ∀ (k : Nat) (p : Int × Bool),p ∈ y.moTo k → 1 ≤ p.1 ∧ p.1 ≤ (k : Int) ∧ (p.2 = true → y.db = p.1)
 | 0,_,h => by cases h
 | k + 1,p,h => by
  rw [Uz,List.mem_append,List.mem_cons] at h;rcases h with h | rfl | h
  ·have:=P7 y k p h;exact ⟨this.1,by omega,this.2.2⟩
  ·exact ⟨by simp only;omega,by simp only;omega,fun h => by cases h⟩
  ·by_cases hd : y.db = (k : Int) + 1
   ·rw [if_pos hd,List.mem_singleton] at h;subst h;exact ⟨by simp only;omega,by simp only;omega,fun _ => hd⟩
   ·rw [if_neg hd] at h;cases h
theorem Fw (y : Yr) : ∀ (k : Nat) (n : Int),1 ≤ n → n ≤ (k : Int) → (n,false) ∈ y.moTo k ∧ (y.db = n → (n,true) ∈ y.moTo k)
 | 0,n,h1,h2 => by omega
 | k + 1,n,h1,h2 => by
  rw [Uz];by_cases hn : n = (k : Int) + 1
  ·subst hn;refine ⟨by simp,fun hd => ?_⟩;rw [if_pos hd];simp
  ·have:=Fw y k n h1 Qa;exact ⟨List.mem_append_left _ this.1,fun hd => List.mem_append_left _ (this.2 hd)⟩
theorem Qbs (y : Yr) : ∀ k : Nat,(y.moTo k).Pairwise pb
 | 0 => by simp [Yr.moTo]
 | k + 1 => by
  rw [Uz,List.pairwise_append];refine ⟨Qbs y k,?_,fun p hp q hq => ?_⟩
  ·by_cases hd : y.db = (k : Int) + 1
   ·rw [if_pos hd];simp [pb]
   ·rw [if_neg hd];simp
  ·have h1:=(P7 y k p hp).2.1;rw [List.mem_cons] at hq;rcases hq with rfl | hq
   ·exact .inl (by simp only;omega)
   ·by_cases hd : y.db = (k : Int) + 1
    ·rw [if_pos hd,List.mem_singleton] at hq;subst hq;exact .inl (by simp only;omega)
    ·rw [if_neg hd] at hq;cases hq
theorem Qdn (i : Nat) (y : Yr) : ∀ (l : List (Int × Bool)) (d : Int) (x : It),x ∈ Js i y d l → (x.n,x.s) ∈ l
 | [],_,_,h => by cases h
 | p :: l,d,x,h => by
  rw [Js] at h;rcases List.mem_cons.1 h with rfl | h
  ·exact List.mem_cons_self ..
  ·exact List.mem_cons_of_mem _ (Qdn i y l _ x h)
theorem Qdm (i : Nat) (y : Yr) : ∀ (l : List (Int × Bool)) (d : Int) (p : Int × Bool),p ∈ l → ∃ x,x ∈ Js i y d l ∧ x.y = i ∧ x.n = p.1 ∧ x.s = p.2
 | q :: l,d,p,h => by
  rw [Js];rcases List.mem_cons.1 h with rfl | h
  ·exact ⟨_,List.mem_cons_self ..,rfl,rfl,rfl⟩
  ·obtain ⟨x,hx,h1⟩:=Qdm i y l (d + y.len q.1 q.2) p h;exact ⟨x,List.mem_cons_of_mem _ hx,h1⟩
theorem Qdp (c : Qd) (i : Nat) : ∀ (l : List (Int × Bool)) (d : Int),l.Pairwise pb → (Js i (c.yr i) d l).Pairwise c.ord
 | [],_,_ => by simp [Js]
 | p :: l,d,h => by
  rw [List.pairwise_cons] at h;rw [Js,List.pairwise_cons];refine ⟨fun x hx => ?_,Qdp c i l _ h.2⟩;have h1:=R7 c i l _ x hx;have h2:=h.1 _ (Qdn i _ l _ x hx);refine ⟨h1.2.1,.inr ⟨h1.1.symm,?_⟩⟩;rcases h2 with h2 | h2
  ·exact .inl h2
  ·exact .inr h2
theorem Qaw (c : Qd) : ∀ k : Nat,(c.itemsTo k).Pairwise c.ord
 | 0 => by simp [Qd.itemsTo]
 | k + 1 => by
  rw [Qd.itemsTo,List.pairwise_append];refine ⟨Qaw c k,Qdp c k _ _ (Qbs _ 12),fun x hx y hy => ?_⟩;have h1:=Pv c k x hx;have h2:=R7 c k _ _ y hy;have h3:=Sx c (i:=x.y + 1) (j:=k) Qa;exact ⟨by omega,.inl Qa⟩
theorem Ov {c : Qd} {i j : Nat} {x y : It} (hx : c.items[i]? = some x) (hy : c.items[j]? = some y) (h : i < j) : c.ord x y:=by
 obtain ⟨h1,rfl⟩:=List.getElem?_eq_some_iff.1 hx;obtain ⟨h2,rfl⟩:=List.getElem?_eq_some_iff.1 hy;exact List.pairwise_iff_getElem.1 (Qaw c c.ny) i j h1 h2 h
theorem Gv {x y : It} (h : x.before y) (h1 : x.y = y.y) (h2 : x.n = y.n) (h3 : x.s = y.s) : False:=by
 rcases h with h | ⟨_,h | ⟨_,h4,h5⟩⟩
 ·omega
 ·omega
 ·rw [h4,h5] at h3;cases h3
theorem Qju {c : Qd} {i j : Nat} {x y : It} (hx : c.items[i]? = some x) (hy : c.items[j]? = some y) (h1 : x.y = y.y) (h2 : x.n = y.n) (h3 : x.s = y.s) : i = j:=by
 rcases Nat.lt_trichotomy i j with h | h | h
 ·exact (Gv (Ov hx hy h).2 h1 h2 h3).elim
 ·exact h
 ·exact (Gv (Ov hy hx h).2 h1.symm h2.symm h3.symm).elim
theorem Qat (c : Qd) {i : Nat} {x : It} (hx : x ∈ Js i (c.yr i) (c.dayAt i) (c.yr i).mos) : ∀ k : Nat,i < k → x ∈ c.itemsTo k
 | k + 1,h => by
  rw [Qd.itemsTo,List.mem_append];by_cases hk : i = k
  ·subst hk;exact .inr hx
  ·exact .inl (Qat c hx k Qa)
theorem Qck {x : It} {d : Dt} : x.of d = true ↔ ((x.y : Int) = d.y ∧ x.n = d.m ∧ x.s = d.s):=by
 simp [It.of,and_assoc]
theorem Mm {c : Qd} {d : Dt} : c.has d = true ↔ ((0 ≤ d.y ∧ d.y < c.ny) ∧ (1 ≤ d.m ∧ d.m ≤ 12) ∧ (d.s = true → (c.yrI d.y).db = d.m) ∧ (1 ≤ d.d ∧ d.d ≤ (c.yrI d.y).len d.m d.s)):=by
 simp only [Qd.has,Bool.and_eq_true,decide_eq_true_eq,Bool.or_eq_true,Bool.not_eq_true',and_assoc];cases d.s <;> simp
theorem Qce (d : Dt) : ∀ (l : List It) (k : Int),(∃ x,x ∈ l ∧ x.of d = true) → ∃ (i : Nat) (x : It),l[i]? = some x ∧ x.of d = true ∧ Yy d l k = (x.first + d.d - 1,k + i + 1)
 | [],_,h => by obtain ⟨x,hx,_⟩:=h;cases hx
 | x :: l,k,h => by
  by_cases ho : x.of d = true
  ·exact ⟨0,x,rfl,ho,by rw [Yy,if_pos ho];simp⟩
  ·obtain ⟨z,hz,hzo⟩:=h
   have hz' : z ∈ l:=by
    rcases List.mem_cons.1 hz with rfl | h1
    ·exact absurd hzo ho
    ·exact h1
   obtain ⟨i,y,hy,hyo,hn⟩:=Qce d l (k + 1) ⟨z,hz',hzo⟩;exact ⟨i + 1,y,by simpa using hy,hyo,by rw [Yy,if_neg ho,hn];congr 1;omega⟩
theorem Hk {c : Qd} {d : Dt} (h : c.has d = true) : ∃ (i : Nat) (x : It),c.items[i]? = some x ∧ ((x.y : Int) = d.y ∧ x.n = d.m ∧ x.s = d.s) ∧ c.num d = (x.first + d.d - 1,(i : Int) + 1) ∧ 1 ≤ d.d ∧ d.d ≤ x.len c:=by
 obtain ⟨⟨h1,h2⟩,⟨h3,h4⟩,h5,h6,h7⟩:=Mm.1 h
 have hex : ∃ x,x ∈ c.items ∧ x.of d = true:=by
  have hm : (d.m,d.s) ∈ (c.yr d.y.toNat).mos:=by
   have:=Fw (c.yr d.y.toNat) 12 d.m h3 Qa;cases hs : d.s
   ·exact this.1
   ·exact this.2 (h5 hs)
  obtain ⟨x,hx,hy,hn,hs⟩:=Qdm d.y.toNat (c.yr d.y.toNat) _ (c.dayAt d.y.toNat) _ hm;exact ⟨x,Qat c hx c.ny Qa,Qck.2 ⟨by omega,hn,hs⟩⟩
 obtain ⟨i,x,hx,ho,hn⟩:=Qce d c.items 0 hex;have ho':=Qck.1 ho;refine ⟨i,x,hx,ho',by unfold Qd.num;rw [hn];congr 1;omega,h6,?_⟩
 have e : x.len c = (c.yrI d.y).len d.m d.s:=by
  unfold It.len Qd.yrI;rw [ho'.2.1,ho'.2.2,← ho'.1];rfl
 omega
def Dt.less (a b : Dt) : Bool:=if a.y = b.y then (if a.m = b.m then (if a.s = b.s then decide (a.d < b.d) else b.s) else decide (a.m < b.m)) else decide (a.y < b.y)
theorem Qj7 {a b : Dt} (h : a.y < b.y ∨ (a.y = b.y ∧ (a.m < b.m ∨ (a.m = b.m ∧ a.s = false ∧ b.s = true)))) : a.less b = true:=by
 unfold Dt.less;rcases h with h | ⟨h1,h | ⟨h2,h3,h4⟩⟩
 ·rw [if_neg Qa];exact decide_eq_true h
 ·rw [if_pos h1,if_neg Qa];exact decide_eq_true h
 ·rw [if_pos h1,if_pos h2,h3,h4];rfl
theorem Qj6 {a b : Dt} (h : b.y < a.y ∨ (b.y = a.y ∧ (b.m < a.m ∨ (b.m = a.m ∧ b.s = false ∧ a.s = true)))) : a.less b = false:=by
 unfold Dt.less;rcases h with h | ⟨h1,h | ⟨h2,h3,h4⟩⟩
 ·rw [if_neg Qa];exact decide_eq_false Qa
 ·rw [if_pos h1.symm,if_neg Qa];exact decide_eq_false Qa
 ·rw [if_pos h1.symm,if_pos h2.symm,h3,h4];rfl
theorem Rl {c : Qd} {a b : Dt} (ha : c.has a = true) (hb : c.has b = true) : a.less b = decide ((c.num a).1 < (c.num b).1) ∧ ((c.num a).1 = (c.num b).1 ↔ a = b) ∧
  ((c.num a).1 < (c.num b).1 → 0 < 30 * ((c.num b).2 - (c.num a).2) + b.d - a.d) ∧ ((c.num a).1 = (c.num b).1 → 30 * ((c.num b).2 - (c.num a).2) + b.d - a.d = 0):=by
 obtain ⟨i,x,hx,⟨x1,x2,x3⟩,xn,xd,xl⟩:=Hk ha;obtain ⟨j,y,hy,⟨y1,y2,y3⟩,yn,yd,yl⟩:=Hk hb;have lx:=Ux (c.yr x.y) x.n x.s;have ly:=Ux (c.yr y.y) y.n y.s
 change 29 ≤ x.len c ∧ x.len c ≤ 30 at lx
 change 29 ≤ y.len c ∧ y.len c ≤ 30 at ly
 rw [xn,yn];rcases Nat.lt_trichotomy i j with h | h | h
 ·obtain ⟨o1,o2⟩:=Ov hx hy h
  have hl : a.less b = true:=Qj7 (by
   rw [← x1,← y1,← x2,← y2,← x3,← y3];rcases o2 with o | ⟨p,o⟩
   ·exact .inl Qa
   ·exact .inr ⟨by omega,o⟩)
  simp only
  refine ⟨by rw [hl];exact (decide_eq_true Qa).symm,⟨fun h => by omega,fun h => ?_⟩,fun _ => by omega,fun h => by omega⟩;subst h;exact (Gv o2 Qa Qa (by rw [x3,y3])).elim
 ·subst h;obtain rfl : x = y := Option.some.inj (hx.symm.trans hy);have e1 : a.y = b.y := by omega
  have e2 : a.m = b.m:=by omega
  have e3 : a.s = b.s:=x3.symm.trans y3
  simp only
  refine ⟨?_,⟨fun h => ?_,fun h => by rw [h]⟩,fun _ => by omega,fun _ => by omega⟩
  ·unfold Dt.less;rw [if_pos e1,if_pos e2,if_pos e3];by_cases hd : a.d < b.d
   ·rw [decide_eq_true hd];exact (decide_eq_true Qa).symm
   ·rw [decide_eq_false hd];exact (decide_eq_false Qa).symm
  ·have e4 : a.d = b.d := by omega
   cases a;cases b;simp only at e1 e2 e3 e4;rw [e1,e2,e3,e4]
 ·obtain ⟨o1,o2⟩:=Ov hy hx h
  have hl : a.less b = false:=Qj6 (by
   rw [← x1,← y1,← x2,← y2,← x3,← y3];rcases o2 with o | ⟨p,o⟩
   ·exact .inl Qa
   ·exact .inr ⟨by omega,o⟩)
  simp only
  refine ⟨by rw [hl];exact (decide_eq_false Qa).symm,⟨fun h => by omega,fun h => ?_⟩,fun h => by omega,fun h => by omega⟩;subst h;exact (Gv o2 Qa Qa (by rw [x3,y3])).elim
/-! ### The date of a number -/
theorem Ab {c : Qd} {n : Int} {x : It} : ∀ {l : List It} {i : Nat},l[i]? = some x → x.first ≤ n → n - x.first < x.len c → (∀ (j : Nat) (y : It),j < i → l[j]? = some y → ¬ (y.first ≤ n ∧ n - y.first < y.len c)) → c.atFrom n l = some ⟨x.y,x.n,x.s,n - x.first + 1⟩
 | y :: l,0,h,h1,h2,_ => by
  obtain rfl : y = x:=by simpa using h
  rw [Qd.atFrom,if_pos ⟨h1,h2⟩]
 | y :: l,i + 1,h,h1,h2,h3 => by
  rw [Qd.atFrom,if_neg (h3 0 y Qa rfl)];exact Ab (by simpa using h) h1 h2 (fun j z hj hz => h3 (j + 1) z Qa (by simpa using hz))
theorem at_num {c : Qd} {d : Dt} (h : c.has d = true) : c.at? (c.num d).1 = some d:=by
 obtain ⟨i,x,hx,⟨x1,x2,x3⟩,xn,xd,xl⟩:=Hk h;rw [xn]
 simp only
 unfold Qd.at?;rw [Ab hx Qa Qa (fun j y hj hy hc => ?_)]
 ·have e : x.first + d.d - 1 - x.first + 1 = d.d := by omega
  rw [e,x1,x2,x3]
 ·have:=(Ov hy hx hj).1;omega
theorem Qci {c : Qd} {d : Dt} (h : c.has d = true) : 1 ≤ (c.num d).1 ∧ (c.num d).1 < c.dayAt c.ny:=by
 have h1:=at_num h;rcases Decidable.em ((c.num d).1 < 1 ∨ c.dayAt c.ny ≤ (c.num d).1) with h2 | h2
 ·rw [at_out h2] at h1;cases h1
 ·omega
end
section
open Go Go.RowKit Go.Shelf
attribute [local go_sem] Oper.semAt_some Z8
def Dt.val (d : Dt) : Value:=.agg #[.int .i64 d.y,.int .i64 d.m,.bool d.s,.int .i64 d.d]
theorem Th {c : Qd} (h : c.valid = true) : c.ny ≤ 400:=by
 simp only [Qd.valid,Bool.and_eq_true,decide_eq_true_eq] at h;exact h.1.2
theorem Qb.kept {W W' : World} {row : Option Nat} {b : Nat} {t : TypeId} {cs : Array Value} (h : Qb W b t cs) (hg : W.grownBy W' row) (hne : some b ≠ row) : Qb W' b t cs:=(hg.block b h.lt hne).trans h
theorem Qb.not_row {W : World} {b : Nat} {t e : TypeId} {cs : Array Value} (h : Qb W b t cs) (hte : t ≠ e) {base size k : Nat} {v : Value} {xs : List Value} (hr : W.ownsRow base e size v k xs) : some b ≠ v.ownBlock:=by
 rcases hr.2 with ⟨rfl,_⟩ | ⟨g,cap,cur,rfl,_,hgb,_⟩
 ·simp [Value.ownBlock]
 ·intro e';obtain rfl : b = g := by simpa [Value.ownBlock] using e'
  have:=(show W.heap[b]? = _ from h).symm.trans hgb;simp at this;exact hte this.2
theorem Xe {W : World} {base size k : Nat} {e : TypeId} {v : Value} {xs : List Value} (hr : W.ownsRow base e size v k xs) : ∀ r,v.ownBlock = some r → base ≤ r ∧ ∃ cur,W.heap[r]? = some (.cells cur e (0,0)):=by
 rcases hr.2 with ⟨rfl,_⟩ | ⟨g,cap,cur,rfl,hb,hgb,_⟩
 ·intro r h;simp [Value.ownBlock] at h
 ·intro r h;obtain rfl : g = r := by simpa [Value.ownBlock] using h
  exact ⟨hb,cur,hgb⟩
namespace SpStep
variable {wd W0 W W' : World} {B0 Bo Bx : Nat} {mcs : Array Value} {L : List Sp} {v : Value}
end SpStep
def Tq (w : World) (v : Value) (l : List Sp) : Prop:=∃ A cap,v = .slice A l.length cap ∧ Qm w A l.length 2 (fun i => (l.getD i ⟨0,0⟩).cells) ∧ l.length ≤ cap ∧ cap ≤ maxLen
theorem Tq.ext {w w' : World} {v : Value} {l : List Sp} (h : Tq w v l) (e : Qc w w') : Tq w' v l:=by
 obtain ⟨A,cap,hv,hr,hc,hm⟩:=h;exact ⟨A,cap,hv,hr.ext e,hc,hm⟩
end
section
open Go Go.RowKit Go.Shelf
attribute [local go_sem] Z8
theorem Qdo {c : Qd} {i : Nat} (hi : i < c.ny) : ∀ (k : Nat),k ≤ 12 → ∀ x,x ∈ Js i (c.yr i) (c.dayAt i) ((c.yr i).moTo k) → c.okIt x
 | 0,_,x,hx => by simp [Yr.moTo,Js] at hx
 | k + 1,hk,x,hx => by
  rw [Uz,Gb,List.mem_append] at hx;rcases hx with hx | hx
  ·exact Qdo hi k Qa x hx
  ·by_cases h : (c.yr i).db = (k : Int) + 1
   ·rw [if_pos h] at hx;rcases List.mem_cons.1 hx with rfl | hx
    ·exact Fh hi Qa
    ·rcases List.mem_cons.1 hx with rfl | hx
     ·exact Qas hi Qa
     ·cases hx
   ·rw [if_neg h] at hx;rcases List.mem_cons.1 hx with rfl | hx
    ·exact Fh hi Qa
    ·cases hx
theorem Qau (c : Qd) : ∀ i : Nat,i ≤ c.ny → ∀ x,x ∈ c.itemsTo i → c.okIt x
 | 0,_,x,hx => by cases hx
 | i + 1,hi,x,hx => by
  rw [Qd.itemsTo,List.mem_append] at hx;rcases hx with hx | hx
  ·exact Qau c i Qa x hx
  ·exact Qdo Qa 12 Qa x hx
theorem Qjv (c : Qd) : ∀ x,x ∈ c.items → c.okIt x:=Qau c c.ny (Nat.le_refl _)
theorem So (c : Qd) (d : Dt) : c.checks (fun _ => d) 1 = c.inE d:=by simp [Qd.checks,Qd.inE]
def two (a b : Dt) (i : Nat) : Dt:=if i = 0 then a else b
theorem Sq (c : Qd) (a b : Dt) : c.checks (two a b) 2 = c.in2E a b:=by
 simp only [Qd.checks,Qd.in2E,show List.range 2 = [0,1] from rfl,List.all_cons,List.all_nil,Bool.and_true];rfl
theorem Pr (c : Qd) (d : Dt) : (c.valid = false ∧ c.inE d = 70) ∨ (c.valid = true ∧ c.has d = false ∧ c.inE d = 71) ∨ (c.valid = true ∧ c.has d = true ∧ c.inE d = 0):=by
 unfold Qd.inE;cases c.valid <;> cases c.has d <;> simp
theorem Lm (c : Qd) (a b : Dt) : (c.valid = false ∧ c.in2E a b = 70) ∨ (c.valid = true ∧ (c.has a && c.has b) = false ∧ c.in2E a b = 71) ∨ (c.valid = true ∧ (c.has a && c.has b) = true ∧ c.in2E a b = 0):=by
 unfold Qd.in2E;cases c.valid <;> cases c.has a <;> cases c.has b <;> simp
theorem Pm {c : Qd} {d : Dt} (h : c.has d = true) : 1 ≤ d.d ∧ d.d ≤ 30:=by
 simp only [Qd.has,Bool.and_eq_true,decide_eq_true_eq] at h;have:=Ux (c.yrI d.y) d.m d.s;omega
theorem Dy {w : World} {b : Nat} {t : TypeId} {d : Dt} (h : Qb w b t #[.int .i64 d.y,.int .i64 d.m,.bool d.s,.int .i64 d.d]) : Qm w (some ⟨b,0,none⟩) 1 4 (fun _ => Sz d):=fun _ =>
 ⟨b,0,rfl,h.lt,fun i j v hi hv => by
  obtain rfl : i = 0:=Qa;rw [show 0 + 0 * 4 + j = j by omega,h.cell j,List.getElem?_toArray];exact hv⟩
theorem Dz {w : World} {b : Nat} {t : TypeId} {x y : Dt} (h : Qb w b t #[.int .i64 x.y,.int .i64 x.m,.bool x.s,.int .i64 x.d,.int .i64 y.y,.int .i64 y.m,.bool y.s,.int .i64 y.d]) : Qm w (some ⟨b,0,none⟩) 2 4 (fun i => Sz (two x y i)):=fun _ =>
 ⟨b,0,rfl,h.lt,fun i j v hi hv => by
  have hj : j < 4:=(List.getElem?_eq_some_iff.1 hv).1;rw [Nat.zero_add,h.cell]
  match i,j,hi,hj,hv with
  | 0,0,_,_,hv => exact hv
  | 0,1,_,_,hv => exact hv
  | 0,2,_,_,hv => exact hv
  | 0,3,_,_,hv => exact hv
  | 1,0,_,_,hv => exact hv
  | 1,1,_,_,hv => exact hv
  | 1,2,_,_,hv => exact hv
  | 1,3,_,_,hv => exact hv⟩
set_option maxHeartbeats 1000000 in
theorem Qlw (A A' : OA) (ca cb : Nat) (c : Qd) (d : Dt) (w : World) (hC : Za w A ca A' cb c) :
  Calls Tryz.prog 100 #[.agg #[.slice A c.nk ca,.slice A' c.ny cb],.agg #[.int .i64 d.y,.int .i64 d.m,.bool d.s,.int .i64 d.d]] w fun e w' => e = .returned (.tuple #[.int .i64 (c.numV d),.int .i64 (c.inE d)]) ∧ Qc w w':=by
 rcases Pr c d with ⟨hv,hE⟩ | ⟨hv,hh,hE⟩ | ⟨hv,hh,hE⟩
 ·have HE := zh hE;have HV : Hid (c.numV d = 0) := by unfold Hid Qd.numV; rw [hE]; rfl
  clear hE hv
  go_enter Tryz.func100,Tryz.ntmps100
  go_wp2_with (go_at_call 94;refine (Ma _ _ _ _ c _ 1 1 (fun _ => d) _ (hC.ext Qu) (Dy (t:=51) Wx) Qa).mono ?_;rw [So,HE.out];rintro e wq ⟨rfl,hq⟩);go_ret2;exact ⟨by rw [HE.out,HV.out];rfl,Qu⟩
 ·have HE := zh hE;have HV : Hid (c.numV d = 0) := by unfold Hid Qd.numV; rw [hE]; rfl
  clear hE hv
  go_enter Tryz.func100,Tryz.ntmps100
  go_wp2_with (go_at_call 94;refine (Ma _ _ _ _ c _ 1 1 (fun _ => d) _ (hC.ext Qu) (Dy (t:=51) Wx) Qa).mono ?_;rw [So,HE.out];rintro e wq ⟨rfl,hq⟩);go_ret2;exact ⟨by rw [HE.out,HV.out];rfl,Qu⟩
 ·have HE := zh hE;have HV : Hid (c.numV d = (c.num d).1) := by unfold Hid Qd.numV; rw [hE]; rfl
  have HL:=zh (Ns hv);have HY:=zh (Th hv);have HD:=zh (Pm hh);clear hE hv hh
  go_enter Tryz.func100,Tryz.ntmps100
  go_wp2_with (go_at_call 94;refine (Ma _ _ _ _ c _ 1 1 (fun _ => d) _ (hC.ext Qu) (Dy (t:=51) Wx) Qa).mono ?_;rw [So,HE.out];rintro e wq ⟨rfl,hq⟩;obtain ⟨k0,k1⟩:=(Qb.ext (b:=w.heap.size) (t:=25) (cs:=#[.slice A c.nk ca,.slice A' c.ny cb]) Wx hq).c2;obtain ⟨e0,e1,e2,e3⟩:=(Qb.ext (b:=w.heap.size + 1) (t:=51) (cs:=#[.int .i64 d.y,.int .i64 d.m,.bool d.s,.int .i64 d.d]) Wx hq).c4);refine (Dd _ _ _ _ c d _ (hC.ext Qu) HL.out HY.out HD.out).mono ?_;rintro e wn ⟨rfl,hn⟩;go_wp2;go_ret2;exact ⟨by rw [HE.out,HV.out];rfl,Qu⟩
theorem Qch (c : Qd) (d : Dt) (h1 : 1 ≤ d.d) (h2 : d.d ≤ 30) : 0 ≤ (c.num d).1 ∧ (c.num d).1 ≤ 390 * (c.ny : Int) + 421 ∧ 0 ≤ (c.num d).2 ∧ (c.num d).2 ≤ 13 * (c.ny : Int):=by
 have hi : ∀ x,x ∈ c.items → c.okIt x:=Qjv c;have hl:=Ou c c.ny
 have h : ∀ (l : List It) (k : Int),0 ≤ k → (∀ x,x ∈ l → c.okIt x) → 0 ≤ (Yy d l k).1 ∧ (Yy d l k).1 ≤ 390 * (c.ny : Int) + 421 ∧ 0 ≤ (Yy d l k).2 ∧ (Yy d l k).2 ≤ k + l.length:=by
  intro l
  induction l with
  | nil => intro k hk _;simp [Yy];omega
  | cons x l ih =>
   intro k hk hx;have hx0:=hx x (List.mem_cons_self ..);have f1:=hx0.f1;have f2:=hx0.f2;have:=ih (k + 1) Qa (fun y hy => hx y (List.mem_cons_of_mem _ hy));rw [Yy,List.length_cons]
   split
   ·simp only;omega
   ·omega
 have:=h c.items 0 Qa hi;have e : (c.items.length : Int) ≤ 13 * (c.ny : Int):=by unfold Qd.items;omega
 unfold Qd.num;omega
set_option maxHeartbeats 2000000 in
theorem Qnh (A A' : OA) (ca cb : Nat) (c : Qd) (a b : Dt) (w : World) (hC : Za w A ca A' cb c) :
  Calls Tryz.prog 140 #[.agg #[.slice A c.nk ca,.slice A' c.ny cb],.agg #[.int .i64 a.y,.int .i64 a.m,.bool a.s,.int .i64 a.d],.agg #[.int .i64 b.y,.int .i64 b.m,.bool b.s,.int .i64 b.d]] w fun e w' => e = .returned (.tuple #[.int .i64 (c.schV a b),.int .i64 (c.in2E a b)]) ∧ Qc w w':=by
 rcases Lm c a b with ⟨hv,hE⟩ | ⟨hv,hh,hE⟩ | ⟨hv,hh,hE⟩
 ·have HE := zh hE;have HV : Hid (c.schV a b = 0) := by unfold Hid Qd.schV; rw [hE]; rfl
  clear hE hv
  go_enter Tryz.func140,Tryz.ntmps140
  go_wp2_with (go_at_call 94;refine (Ma _ _ _ _ c _ 2 2 (two a b) _ (hC.ext Qu) (Dz (t:=51) Wx) Qa).mono ?_;rw [Sq,HE.out];rintro e wq ⟨rfl,hq⟩);go_ret2;exact ⟨by rw [HE.out,HV.out];rfl,Qu⟩
 ·have HE := zh hE;have HV : Hid (c.schV a b = 0) := by unfold Hid Qd.schV; rw [hE]; rfl
  clear hE hv
  go_enter Tryz.func140,Tryz.ntmps140
  go_wp2_with (go_at_call 94;refine (Ma _ _ _ _ c _ 2 2 (two a b) _ (hC.ext Qu) (Dz (t:=51) Wx) Qa).mono ?_;rw [Sq,HE.out];rintro e wq ⟨rfl,hq⟩);go_ret2;exact ⟨by rw [HE.out,HV.out];rfl,Qu⟩
 ·have HE := zh hE;have HV : Hid (c.schV a b = 30 * ((c.num b).2 - (c.num a).2) + b.d - a.d) := by unfold Hid Qd.schV; rw [hE]; rfl
  have HL:=zh (Ns hv);have hny:=Th hv;have HY:=zh hny;rw [Bool.and_eq_true] at hh;have hda:=Pm hh.1;have hdb:=Pm hh.2;have HDa:=zh hda;have HDb:=zh hdb;obtain ⟨hda1,hda2⟩:=hda;obtain ⟨hdb1,hdb2⟩:=hdb;have hna:=Qch c a hda1 hda2;have hnb:=Qch c b hdb1 hdb2;obtain ⟨hna1,hna2,hna3,hna4⟩:=hna;obtain ⟨hnb1,hnb2,hnb3,hnb4⟩:=hnb;clear hE hv hh
  go_enter Tryz.func140,Tryz.ntmps140
  go_wp2_with (go_at_call 94;refine (Ma _ _ _ _ c _ 2 2 (two a b) _ (hC.ext Qu) (Dz (t:=51) Wx) Qa).mono ?_;rw [Sq,HE.out];rintro e wq ⟨rfl,hq⟩;have hcb:=(Qb.ext (b:=w.heap.size) (t:=25) (cs:=#[.slice A c.nk ca,.slice A' c.ny cb]) Wx hq);have hab:=(Qb.ext (b:=w.heap.size + 1) (t:=51) (cs:=#[.int .i64 a.y,.int .i64 a.m,.bool a.s,.int .i64 a.d]) Wx hq);have hbb:=(Qb.ext (b:=w.heap.size + 1 + 1) (t:=51) (cs:=#[.int .i64 b.y,.int .i64 b.m,.bool b.s,.int .i64 b.d]) Wx hq);obtain ⟨k0,k1⟩:=hcb.c2;obtain ⟨e0,e1,e2,e3⟩:=hab.c4);refine (Dd _ _ _ _ c a _ (hC.ext Qu) HL.out HY.out HDa.out).mono ?_;rintro e wn ⟨rfl,hn⟩
  obtain ⟨k0,k1⟩:=(hcb.ext hn).c2;obtain ⟨g0,g1,g2,g3⟩:=(hbb.ext hn).c4;go_wp2_with (fail);refine (Dd _ _ _ _ c b _ (hC.ext Qu) HL.out HY.out HDb.out).mono ?_;rintro e wm ⟨rfl,hm⟩;obtain ⟨y0,y1,y2,y3⟩:=((hab.ext hn).ext hm).c4;obtain ⟨z0,z1,z2,z3⟩:=((hbb.ext hn).ext hm).c4;go_wp2;go_ret2;exact ⟨by rw [HE.out,HV.out];rfl,Qu⟩
end
section
open Go Go.RowKit
attribute [local go_sem] Z8
theorem Qji : (Tryz.prog.info? 276).map (fun i => (i.zero,i.size,i.bytes)) = some (some (.agg #[.int .i64 0,.bool false,.int .i64 0]),3,24):=by kernel_rfl
theorem W4 (w : World) (l : List Value) (t : TypeId) : ∀ j u,l[j]? = some u → (w.alloc (.cells l.toArray t)).cell? ((⟨w.heap.size,0,none⟩ : Addr).add j) = some u:=fun j u hj => by
 have h:=(Qb.new w t l.toArray).cell j;have e : ((⟨w.heap.size,0,none⟩ : Addr).add j) = ⟨w.heap.size,j,none⟩:=by unfold Addr.add;split <;> simp_all
 rw [e,h]
 simpa using hj
theorem Jf {w w' : World} {base size n : Nat} {e : TypeId} {v : Value} {xs : List Value} (h : w.ownsRow base e size v n xs) (x : Qc w w') : w'.ownsRow base e size v n xs:=h.kept (Ml x) (by
 rcases h.2 with ⟨rfl,_⟩ | ⟨g,cap,cur,rfl,_⟩
 ·exact .inl rfl
 ·exact .inr (fun e => by cases e))
def W7 (y : Yr) (l : List (Int × Bool)) : List Value:=l.flatMap fun p => [.int .i64 p.1,.bool p.2,.int .i64 (y.len p.1 p.2)]
theorem Qbq (y : Yr) (l l' : List (Int × Bool)) : W7 y (l ++ l') = W7 y l ++ W7 y l':=by simp [W7]
theorem Qbp (y : Yr) : ∀ (l : List (Int × Bool)) (i j : Nat) (v : Value),i < l.length → [Value.int .i64 (l.getD i (0,false)).1,.bool (l.getD i (0,false)).2,.int .i64 (y.len (l.getD i (0,false)).1 (l.getD i (0,false)).2)][j]? = some v → (W7 y l)[i * 3 + j]? = some v
 | [],i,_,_,h,_ => by simp at h
 | p :: l,0,j,v,_,h => by
  have hj : j < 3:=by have:=(List.getElem?_eq_some_iff.1 h).1;simpa using this
  show ([Value.int .i64 p.1,.bool p.2,.int .i64 (y.len p.1 p.2)] ++ W7 y l)[0 * 3 + j]? = some v
  rw [Nat.zero_mul,Nat.zero_add,List.getElem?_append_left (by simpa using hj)]
  exact h
 | p :: l,i + 1,j,v,hi,h => by
  show ([Value.int .i64 p.1,.bool p.2,.int .i64 (y.len p.1 p.2)] ++ W7 y l)[(i + 1) * 3 + j]? = some v
  rw [List.getElem?_append_right (by simp;omega)];have:=Qbp y l i j v (by simpa using hi) h
  simpa [show (i + 1) * 3 + j - 3 = i * 3 + j by omega] using this
def Fz (y : Yr) (i : Nat) : List Value:=[.int .i64 (y.mos.getD i (0,false)).1,.bool (y.mos.getD i (0,false)).2,.int .i64 (y.len (y.mos.getD i (0,false)).1 (y.mos.getD i (0,false)).2)]
def Nx (w : World) (v : Value) (y : Yr) : Prop:=∃ A cap,v = .slice A y.mos.length cap ∧ Qm w A y.mos.length 3 (Fz y)
theorem Nx.ext {w w' : World} {v : Value} {y : Yr} (h : Nx w v y) (e : Qc w w') : Nx w' v y:=by
 obtain ⟨A,cap,hv,hr⟩:=h;exact ⟨A,cap,hv,hr.ext e⟩
theorem Qkw {w : World} {base : Nat} {v : Value} {y : Yr} (h : w.ownsRow base 276 3 v y.mos.length (W7 y y.mos)) : Nx w v y:=by
 rcases h.2 with ⟨rfl,h0⟩ | ⟨q,cap,cur,rfl,hb,hq,hn,hm,_⟩
 ·exact ⟨none,0,by rw [h0],fun hp => by omega⟩
 ·refine ⟨_, _, rfl, fun _ => ⟨q, 0, rfl, (Array.getElem?_eq_some_iff.1 hq).1, fun i j v hi hv => ?_⟩⟩;have hj : j < 3 := by have := (List.getElem?_eq_some_iff.1 hv).1; simpa [Fz] using this
  rw [Nat.zero_add,World.ownsRow.cellAt h (i * 3 + j) Qa];exact Qbp y y.mos i j v hi hv
set_option maxHeartbeats 2000000 in
theorem Qbu (y : Yr) (w : World) (hl : 0 ≤ y.lg) (hl' : y.lg ≤ 8191) :
  Calls Tryz.prog 183 #[.agg #[.int .i64 y.k,.string y.nm,.int .i64 y.lg,.int .i64 y.db]] w fun e w' => ∃ v,e = .returned v ∧ Qc w w' ∧ Nx w' v y:=by
 obtain ⟨i0,hi,hz0,hz1,hz2⟩:=info_parts Qji
 go_enter Tryz.func183,Tryz.ntmps183
 go_upto_region 1 with fail
 obtain ⟨v,hv⟩:=Qe (w.alloc (.cells #[.int .i64 y.k,.string y.nm,.int .i64 y.lg,.int .i64 y.db] 148));rw [← hv];have E : Qc w v:=by rw [hv];exact (Qc.refl _).alloc _
 have B : Qb v w.heap.size 148 #[.int .i64 y.k,.string y.nm,.int .i64 y.lg,.int .i64 y.db]:=by rw [hv];exact Qb.new _ _ _
 clear hv;generalize w.heap.size = b at *;go_upto_region 3 with fail
 go_loopw [3,4] (fun o i wr => ∃ k : Nat,k ≤ 12 ∧ i = .int .i64 (k + 1) ∧ Qc v wr ∧ wr.ownsRow v.heap.size 276 3 o (y.moTo k).length (W7 y (y.moTo k))) (fun _ i _ => 13 - (intOf i).toNat)
 case atStart => exact ⟨0,Qa,rfl,Qc.refl _,⟨rfl,Or.inl ⟨rfl,rfl⟩⟩⟩
 case round =>
  obtain ⟨k,hk,rfl,hB,hO⟩:=hrel;obtain ⟨wo,rfl⟩:=Qe wr;have B1:=B.ext hB;obtain ⟨c0,c1,c2,c3,lb⟩:=Qb.d4 B1;by_cases hlt : k < 12
  ·have hlen := Fx y k;have hml : (y.moTo k).length ≤ 13 := by rw [hlen]; split <;> omega
   clear hlen;have HM:=zh hml;clear hml
   have L1 : ∀ w,Calls Tryz.prog 191 #[.agg #[.int .i64 y.k,.string y.nm,.int .i64 y.lg,.int .i64 y.db],.int .i64 k] w fun e w' => e = .returned (.int .i64 (y.len ((k : Int) + 1) false)) ∧ Qc w w':=fun w => by
    have:=Qa8 y k w Qa Qa hl hl'
    rwa [show X7 y.lg (k : Int).toNat = y.len ((k : Int) + 1) false by unfold Yr.len;congr 1] at this
   have L2 : ∀ w,Calls Tryz.prog 191 #[.agg #[.int .i64 y.k,.string y.nm,.int .i64 y.lg,.int .i64 y.db],.int .i64 12] w fun e w' => e = .returned (.int .i64 (y.len ((k : Int) + 1) true)) ∧ Qc w w':=fun w => Qa8 y 12 w Qa Qa hl hl'
   have M1 : Hid (W7 y (y.moTo k) ++ [.int .i64 ((k : Int) + 1),.bool false,.int .i64 (y.len ((k : Int) + 1) false)] = W7 y (y.moTo k ++ [((k : Int) + 1,false)])):=(Qbq y (y.moTo k) [((k : Int) + 1,false)]).symm;have M2 : Hid (W7 y (y.moTo k ++ [((k : Int) + 1,false)]) ++ [.int .i64 ((k : Int) + 1),.bool true,.int .i64 (y.len ((k : Int) + 1) true)] = W7 y ((y.moTo k ++ [((k : Int) + 1,false)]) ++ [((k : Int) + 1,true)])):=(Qbq y (y.moTo k ++ [((k : Int) + 1,false)]) [((k : Int) + 1,true)]).symm;generalize y.len ((k : Int) + 1) false = q1 at *;generalize y.len ((k : Int) + 1) true = q2 at *;have hkb : decide ((k : Int) + 1 ≤ 12) = true:=zt Qa
   go_upto_region 6 with (first
    | (go_at_call 191;refine zc (L1 _) ?_;rintro e w1 ⟨rfl,h1⟩)
    | (at_builtin;refine wpList_append_own_at _ rfl _ _ 273 rfl v.heap.size 276 i0 (.agg #[.int .i64 0,.bool false,.int .i64 0]) 3 24 Tryz.underlying273 hi hz0 hz1 hz2 rfl zD _ _ _ rfl ((Jf hO h1).alloc _) ⟨w1.heap.size,0,none⟩ 1 1 [.int .i64 ((k : Int) + 1),.bool false,.int .i64 q1] rfl rfl (W4 _ _ _) (by simp [Value.oneCell']) (by have:=HM.out;unfold maxLen;omega) (by have:=HM.out;omega) (by have:=hB.size;have:=h1.size;simp;omega) ?_;intro o' w2 hown hgrow _ _))
   have E2 : Qc v w2:=((hB.trans h1).alloc _).grown hgrow (fun q hq => (hO.lt q hq).1);rw [M1.out] at hown;clear hgrow h1 c0 c1 c2 c3 lb B1;have B1:=B.ext E2;obtain ⟨c0,c1,c2,c3,lb⟩:=Qb.d4 B1;clear hO;by_cases hdb : y.db = (k : Int) + 1
   ·have hdbb : (y.db == (k : Int) + 1) = true := by rw [hdb]; exact beq_self_eq_true _
    have HS : Hid ((y.moTo k ++ [((k : Int) + 1,false)]) ++ [((k : Int) + 1,true)] = y.moTo (k + 1)):=by unfold Hid;rw [Uz,if_pos hdb,List.append_assoc];rfl
    clear hdb
    go_upto_region 4 with (first
     | (go_at_call 191;refine zc (L2 _) ?_;rintro e w3 ⟨rfl,h3⟩)
     | (at_builtin;refine wpList_append_own_at _ rfl _ _ 273 rfl v.heap.size 276 i0 (.agg #[.int .i64 0,.bool false,.int .i64 0]) 3 24 Tryz.underlying273 hi hz0 hz1 hz2 rfl zD _ _ _ rfl ((Jf hown h3).alloc _) ⟨w3.heap.size,0,none⟩ 1 1 [.int .i64 ((k : Int) + 1),.bool true,.int .i64 q2] rfl rfl (W4 _ _ _) (by simp [Value.oneCell']) (by have:=HM.out;unfold maxLen;omega) (by have:=HM.out;omega) (by have:=E2.size;have:=h3.size;simp;omega) ?_;intro o2 w4 hown2 hgrow2 _ _))
    have E4 : Qc v w4:=((E2.trans h3).alloc _).grown hgrow2 (fun q hq => (hown.lt q hq).1);rw [M2.out,HS.out] at hown2;have hl4 : (y.moTo k).length + 1 + 1 = (y.moTo (k + 1)).length:=by rw [← HS.out];simp
    rw [hl4] at hown2;clear M1 M2 HS hgrow2;go_wp2;exact ⟨⟨k + 1,Qa,by go_num,E4,hown2⟩,zi⟩
   ·have hdbb : (y.db == (k : Int) + 1) = false := zb hdb;have HS : Hid ((y.moTo k ++ [((k : Int) + 1, false)]) = y.moTo (k + 1)) := by unfold Hid; rw [Uz, if_neg hdb]
    clear hdb;rw [HS.out] at hown;have hl4 : (y.moTo k).length + 1 = (y.moTo (k + 1)).length:=by rw [← HS.out];simp
    rw [hl4] at hown;clear M1 M2 HS;go_wp2;exact ⟨⟨k + 1,Qa,by go_num,E2,hown⟩,zi⟩
  ·obtain rfl : k = 12:=Qa;go_wp2;go_ret;exact ⟨_,rfl,E.trans hB,Qkw hO⟩
theorem Qbt {w : World} {A : OA} {y : Yr} {i : Nat} (h : Qm w A y.mos.length 3 (Fz y)) (hi : i < y.mos.length) :
  ∃ b off,A = some ⟨b,off,none⟩ ∧ b < w.heap.size ∧ w.cell? ⟨b,off + i * 3,none⟩ = some (.int .i64 (y.mos.getD i (0,false)).1) ∧ w.cell? ⟨b,off + i * 3 + 1,none⟩ = some (.bool (y.mos.getD i (0,false)).2) ∧
   w.cell? ⟨b,off + i * 3 + 2,none⟩ = some (.int .i64 (y.len (y.mos.getD i (0,false)).1 (y.mos.getD i (0,false)).2)):=by
 obtain ⟨b,off,hA,hb,hc⟩:=h Qa;exact ⟨b,off,hA,hb,hc i 0 _ hi rfl,hc i 1 _ hi rfl,hc i 2 _ hi rfl⟩
theorem Qbv {y : Yr} {m : Int} {s : Bool} (h1 : 1 ≤ m) (h2 : m ≤ 12) (h3 : s = true → y.db = m) : ∃ i,i < y.mos.length ∧ y.mos.getD i (0,false) = (m,s):=by
 have hm : (m,s) ∈ y.mos:=by
  cases s
  ·exact (Fw y 12 m h1 h2).1
  ·exact (Fw y 12 m h1 h2).2 (h3 rfl)
 obtain ⟨i,hi,he⟩:=List.mem_iff_getElem.1 hm;exact ⟨i,hi,by rw [List.getD_eq_getElem?_getD,List.getElem?_eq_getElem hi,Option.getD_some,he]⟩
theorem mos_of {y : Yr} {i : Nat} (h : i < y.mos.length) : 1 ≤ (y.mos.getD i (0,false)).1 ∧ (y.mos.getD i (0,false)).1 ≤ 12 ∧ ((y.mos.getD i (0,false)).2 = true → y.db = (y.mos.getD i (0,false)).1):=by
 have hm : y.mos.getD i (0,false) ∈ y.mos:=by rw [List.getD_eq_getElem?_getD,List.getElem?_eq_getElem h,Option.getD_some];exact List.getElem_mem h
 exact P7 y 12 _ hm
theorem Qir {c : Qd} {n : Nat} {m d : Int} {s : Bool} {i : Nat} (hn : n < c.ny) (hi : i < (c.yr n).mos.length) (h1 : ((c.yr n).mos.getD i (0,false)).1 = m) (h2 : ((c.yr n).mos.getD i (0,false)).2 = s) :
  c.has ⟨n,m,s,d⟩ = (decide (1 ≤ d) && decide (d ≤ (c.yr n).len m s)):=by
 have h:=mos_of hi;rw [h1,h2] at h;rw [Bool.eq_iff_iff,Mm,Bool.and_eq_true,decide_eq_true_eq,decide_eq_true_eq];have e : c.yrI (n : Int) = c.yr n:=by unfold Qd.yrI;rw [Int.toNat_natCast]
 simp only [e]
 constructor
 ·exact fun g => g.2.2.2
 ·exact fun g => ⟨⟨Qa,Qa⟩,⟨h.1,h.2.1⟩,h.2.2,g⟩
theorem Qis {c : Qd} {n : Nat} {m d : Int} {s : Bool} (h : ∀ i,i < (c.yr n).mos.length → ¬ (((c.yr n).mos.getD i (0,false)).1 = m ∧ ((c.yr n).mos.getD i (0,false)).2 = s)) : c.has ⟨n,m,s,d⟩ = false:=by
 rw [Bool.eq_false_iff,ne_eq,Mm];intro g;have e : c.yrI (n : Int) = c.yr n:=by unfold Qd.yrI;rw [Int.toNat_natCast]
 simp only [e] at g;obtain ⟨i,hi,he⟩:=Qbv (y:=c.yr n) g.2.1.1 g.2.1.2 g.2.2.1;exact h i hi (by rw [he];exact ⟨rfl,rfl⟩)
theorem I6 {c : Qd} {y m d : Int} {s : Bool} (h : y < 0 ∨ (c.ny : Int) ≤ y) : c.has ⟨y,m,s,d⟩ = false:=by
 rw [Bool.eq_false_iff,ne_eq,Mm];intro g;have:=g.1
 simp only at this
 omega
set_option maxHeartbeats 2000000 in
theorem Qip (A A' : OA) (ca cb : Nat) (c : Qd) (D : Dt) (w : World) (hC : Za w A ca A' cb c) (hv : c.valid = true) :
  Calls Tryz.prog 157 #[.agg #[.slice A c.nk ca,.slice A' c.ny cb],.agg #[.int .i64 D.y,.int .i64 D.m,.bool D.s,.int .i64 D.d]] w fun e w' => e = .returned (.bool (c.has D)) ∧ Qc w w':=by
 have hny:=Th hv;have hlg:=Ns hv;clear hv;obtain ⟨y,m,s,d⟩:=D
 simp only
 by_cases h0 : y < 0
 ·have HR:=zh (I6 (c:=c) (m:=m) (d:=d) (s:=s) (.inl h0))
  go_enter Tryz.func157,Tryz.ntmps157
  go_upto_region 1 with fail
  obtain ⟨v,hv⟩:=Qe ((w.alloc (.cells #[.slice A c.nk ca,.slice A' c.ny cb] 25)).alloc (.cells #[.int .i64 y,.int .i64 m,.bool s,.int .i64 d] 51));rw [← hv];have E : Qc w v:=by rw [hv];exact ((Qc.refl _).alloc _).alloc _
  have B1 : Qb v w.heap.size 25 #[.slice A c.nk ca,.slice A' c.ny cb]:=by rw [hv];exact (Qb.new _ _ _).alloc _
  have B2 : Qb v (w.heap.size + 1) 51 #[.int .i64 y,.int .i64 m,.bool s,.int .i64 d]:=by rw [hv];exact Qb.at _ _ _ _ (by simp)
  clear hv;have C:=hC.ext E;clear hC;generalize w.heap.size = b1 at *;obtain ⟨k0,k1⟩:=B1.c2;have lk:=B1.lt;obtain ⟨p0,p1,p2,p3⟩:=B2.c4;have lp:=B2.lt;go_wp2;go_ret;exact ⟨by rw [HR.out];rfl,E⟩
 ·by_cases h1 : (c.ny : Int) ≤ y
  ·have HR:=zh (I6 (c:=c) (m:=m) (d:=d) (s:=s) (.inr h1))
   go_enter Tryz.func157,Tryz.ntmps157
   go_upto_region 1 with fail
   obtain ⟨v,hv⟩:=Qe ((w.alloc (.cells #[.slice A c.nk ca,.slice A' c.ny cb] 25)).alloc (.cells #[.int .i64 y,.int .i64 m,.bool s,.int .i64 d] 51));rw [← hv];have E : Qc w v:=by rw [hv];exact ((Qc.refl _).alloc _).alloc _
   have B1 : Qb v w.heap.size 25 #[.slice A c.nk ca,.slice A' c.ny cb]:=by rw [hv];exact (Qb.new _ _ _).alloc _
   have B2 : Qb v (w.heap.size + 1) 51 #[.int .i64 y,.int .i64 m,.bool s,.int .i64 d]:=by rw [hv];exact Qb.at _ _ _ _ (by simp)
   clear hv;have C:=hC.ext E;clear hC;generalize w.heap.size = b1 at *;obtain ⟨k0,k1⟩:=B1.c2;have lk:=B1.lt;obtain ⟨p0,p1,p2,p3⟩:=B2.c4;have lp:=B2.lt;go_wp2;go_ret;exact ⟨by rw [HR.out];rfl,E⟩
  ·obtain ⟨n, rfl⟩ := Int.eq_ofNat_of_zero_le (show 0 ≤ y by omega);have hn : n < c.ny := Qa;have hlg := hlg n hn
   go_enter Tryz.func157,Tryz.ntmps157
   go_upto_region 1 with fail
   obtain ⟨v,hv⟩:=Qe ((w.alloc (.cells #[.slice A c.nk ca,.slice A' c.ny cb] 25)).alloc (.cells #[.int .i64 (n : Int),.int .i64 m,.bool s,.int .i64 d] 51));rw [← hv];have E : Qc w v:=by rw [hv];exact ((Qc.refl _).alloc _).alloc _
   have B1 : Qb v w.heap.size 25 #[.slice A c.nk ca,.slice A' c.ny cb]:=by rw [hv];exact (Qb.new _ _ _).alloc _
   have B2 : Qb v (w.heap.size + 1) 51 #[.int .i64 (n : Int),.int .i64 m,.bool s,.int .i64 d]:=by rw [hv];exact Qb.at _ _ _ _ (by simp)
   clear hv;have C:=hC.ext E;clear hC;generalize w.heap.size = b1 at *;obtain ⟨k0,k1⟩:=B1.c2;have lk:=B1.lt;obtain ⟨p0,p1,p2,p3⟩:=B2.c4;have lp:=B2.lt;obtain ⟨yb,yo,hA',hyb,y0,y1,y2,y3⟩:=C.year hn;subst hA';have hmo:=fun w => Qbu (c.yr n) w hlg.1 hlg.2
   go_upto_region 4 with (go_at_call 183;refine zc (hmo _) ?_;rintro e v2 ⟨mv,rfl,h,MA⟩)
   obtain ⟨MA,mcap,rfl,MM⟩:=MA;clear y0 y1 y2 y3 hyb hmo;replace E:=Qc.trans E h;replace C:=C.ext h;replace B1:=B1.ext h;replace B2:=B2.ext h;clear h;clear k0 k1 lk;clear p0 p1 p2 p3 lp;obtain ⟨k0,k1⟩:=B1.c2;have lk:=B1.lt;obtain ⟨p0,p1,p2,p3⟩:=B2.c4;have lp:=B2.lt;have HH:=zh (fun i hi h1 h2 => Qir (c:=c) (n:=n) (m:=m) (d:=d) (s:=s) (i:=i) hn hi h1 h2);have HM:=zh (Qis (c:=c) (n:=n) (m:=m) (d:=d) (s:=s));generalize hY : c.yr n = Y at *;clear hY;have hml:=(Fy Y).2;go_upto_region 5 with fail
   go_loopw [6] (fun i wr => ∃ k : Nat,k ≤ Y.mos.length ∧ i = .int .i64 k ∧ (∀ i,i < k → ¬ ((Y.mos.getD i (0,false)).1 = m ∧ (Y.mos.getD i (0,false)).2 = s)) ∧ Qc v2 wr) (fun i _ => Y.mos.length - (intOf i).toNat)
   case atStart => exact ⟨0,Nat.zero_le _,rfl,(fun i hi => absurd hi Qa),Qc.refl _⟩
   case round =>
    obtain ⟨k,hk,rfl,hno,hE⟩:=hrel;obtain ⟨wo,rfl⟩:=Qe wr;have HN:=zh hno;clear hno;clear p0 p1 p2 p3 lp k0 k1 lk;obtain ⟨p0,p1,p2,p3,lp⟩:=Qb.d4 (B2.ext hE);by_cases hlt : k < Y.mos.length
    ·obtain ⟨mb,mo,rfl,hmb,c0,c1,c2⟩:=Qbt (MM.ext hE) hlt;have HH:=HH.out k hlt
     have HS : Hid (¬ ((Y.mos.getD k (0,false)).1 = m ∧ (Y.mos.getD k (0,false)).2 = s) → ∀ i,i < k + 1 → ¬ ((Y.mos.getD i (0,false)).1 = m ∧ (Y.mos.getD i (0,false)).2 = s)):=fun h i hi => by
      by_cases e : i = k
      ·subst e;exact h
      ·exact HN.out i Qa
     generalize Y.mos.length = L at *;generalize (Y.mos.getD k (0,false)).1 = x at *;generalize (Y.mos.getD k (0,false)).2 = z at *;by_cases hx : x = m
     ·have hxb : (x == m) = true := by rw [hx]; exact beq_self_eq_true _
      by_cases hz : z = s
      ·have hzb : (z == s) = true := by rw [hz]; exact beq_self_eq_true _
       replace HH:=HH hx hz;rw [show Y.len m s = Y.len x z by rw [hx,hz]] at HH;clear hx hz HS;generalize Y.len x z = q at *;by_cases g1 : 1 ≤ d
       ·by_cases g2 : d ≤ q
        ·replace HH : Hid (_ = true):=HH.trans (by rw [zt g1,zt g2];rfl);go_upto_region 7 with fail
         refine Qy wo ?_;intro wn hwn;obtain ⟨hcbwn,hfbwn,hzbwn,hzwn⟩:=Qv wo hwn;go_upto_region 8 with fail
         refine Qy wo ?_;intro wp hwp;obtain ⟨hcbwp,hfbwp,hzbwp,hzwp⟩:=Qv wo hwp;go_wp2;go_ret;exact ⟨by rw [HH.out];rfl,E.trans (hE.trans (hwn.trans hwp))⟩
        ·replace HH : Hid (_ = false):=HH.trans (by rw [zf g2,Bool.and_false]);go_upto_region 7 with fail
         refine Qy wo ?_;intro wn hwn;obtain ⟨hcbwn,hfbwn,hzbwn,hzwn⟩:=Qv wo hwn;go_upto_region 8 with fail
         refine Qy wo ?_;intro wp hwp;obtain ⟨hcbwp,hfbwp,hzbwp,hzwp⟩:=Qv wo hwp;go_wp2;go_ret;exact ⟨by rw [HH.out];rfl,E.trans (hE.trans (hwn.trans hwp))⟩
       ·replace HH : Hid (_ = false):=HH.trans (by rw [zf g1];rfl);go_upto_region 7 with fail
        refine Qy wo ?_;intro wn hwn;obtain ⟨hcbwn,hfbwn,hzbwn,hzwn⟩:=Qv wo hwn;go_upto_region 8 with fail
        refine Qy wo ?_;intro wp hwp;obtain ⟨hcbwp,hfbwp,hzbwp,hzwp⟩:=Qv wo hwp;go_wp2;go_ret;exact ⟨by rw [HH.out];rfl,E.trans (hE.trans (hwn.trans hwp))⟩
      ·have hzb : (z == s) = false:=zb hz;have HS:=zh (HS.out (fun h => hz h.2));clear HH hx hz;go_upto_region 7 with fail
       refine Qy wo ?_;intro wn hwn;obtain ⟨hcbwn,hfbwn,hzbwn,hzwn⟩:=Qv wo hwn;go_wp2;exact ⟨⟨k + 1,Qa,by go_num,HS.out,hE.trans hwn⟩,zi⟩
     ·have hxb : (x == m) = false:=zb hx;have HS:=zh (HS.out (fun h => hx h.1));clear HH hx;go_upto_region 7 with fail
      refine Qy wo ?_;intro wn hwn;obtain ⟨hcbwn,hfbwn,hzbwn,hzwn⟩:=Qv wo hwn;go_wp2;exact ⟨⟨k + 1,Qa,by go_num,HS.out,hE.trans hwn⟩,zi⟩
    ·have hkl : k = Y.mos.length:=Qa;have HR : Hid (c.has ⟨n,m,s,d⟩ = false):=HM.out (fun i hi => HN.out i Qa);generalize Y.mos.length = L at *;subst hkl;go_wp2;go_ret;exact ⟨by rw [HR.out];rfl,E.trans hE⟩
theorem Qfi {P : Program} {w : World} (t ty e : TypeId) (i : TypeInfo) (z : Value) (ht : P.underlying t = some (.slice e)) (hi : P.info? e = some i) (hz : i.zero = some z) :
  (Builtin.append_ #[t,t] ty #[.slice none 0 0,.slice none 0 0]).run P w = .ok (.slice none 0 0) w:=by
 simp [Builtin.append_,run_underlying ht,sizeOf,typeInfo,zeroValue,hi,hz,Builtin.lenOf,run_firstCells_none]
theorem Cg {P : Program} {ops : Array Oper} {rest : List Oper} {o : Oper} {a : Act} {w : World} {Q : Exit → Act → World → Prop} (hgd : o.guard = none) (s x : Operand) (t : TypeId)
  (ho : o.op = .call { callee:=.builtin .append,args:=#[s,x],argTypes:=#[t,t] })
  (base : Nat) (e : TypeId) (i : TypeInfo) (z : Value) (size bytes : Nat) (ht : P.underlying t = some (.slice e)) (hi : P.info? e = some i) (hz : i.zero = some z)
  (hsize : i.size = size) (hby : i.bytes = bytes) (hzs : z.cells.size = size) (hsz : 0 < size) (hs : a.eval s = .slice none 0 0)
  (A : OA) (m c : Nat) (news : List Value) (hx : a.eval x = .slice A m c) (hnil : A = none → m = 0 ∧ c = 0) (hl : news.length = m * size) (hnews : ∀ ad,A = some ad → ∀ j u,news[j]? = some u → w.cell? (ad.add j) = some u) (h1 : ∀ u ∈ news,u.oneCell' = true)
  (h63 : m ≤ maxLen) (hbytes : m * bytes ≤ 140737488355328) (hbase : base ≤ w.heap.size)
  (h : ∀ v' w',w'.ownsRow base e size v' m news → w.grownBy w' none → wpList P ops Q rest (a.put o.dst v') w') :
  wpList P ops Q (o :: rest) a w:=by
 cases A with
 | some ad =>
  refine wpList_append_own_at _ hgd s x t ho base e i z size bytes ht hi hz hsize hby hzs hsz (.slice none 0 0) 0 [] hs (World.ownsRow_nil w base e size) ad m c news hx hl (hnews ad rfl) h1 Qa (by rw [Nat.zero_add];exact hbytes) hbase ?_;intro v' w' g1 g2 _ _;rw [Nat.zero_add,List.nil_append] at g1
  exact h v' w' g1 g2
 | none =>
  obtain ⟨rfl,rfl⟩:=hnil rfl;have hn : news = []:=List.eq_nil_of_length_eq_zero (by simpa using hl);subst hn;refine wpList_plain hgd fun K hK => ?_
  have hr:=Qfi (P:=P) (w:=w) t o.type e i z ht hi hz;unfold Oper.wp execOp;simp only [ho,resolve,invoke,builtin,Sem.run_bind,Sem.run_pure,Result.andThen_ok,List.map_toArray,List.map_cons,List.map_nil,hs,hx,hr];exact hK _ _ (h _ w (World.ownsRow_nil w base e size) (World.grownBy.refl _ _))
def Z2 (f : Nat → List Value) (n : Nat) : List Value:=(List.range n).flatMap f
theorem Lh (f : Nat → List Value) (k : Nat) : Z2 f (k + 1) = Z2 f k ++ f k:=by simp [Z2,List.range_succ]
theorem Wm {f : Nat → List Value} {sz : Nat} (hf : ∀ i,(f i).length = sz) : ∀ k,(Z2 f k).length = k * sz
 | 0 => by simp [Z2]
 | k + 1 => by rw [Lh,List.length_append,Wm hf k,hf,Nat.succ_mul]
theorem Kl {f : Nat → List Value} {sz : Nat} (hf : ∀ i,(f i).length = sz) : ∀ {k i j : Nat},i < k → j < sz → (Z2 f k)[i * sz + j]? = (f i)[j]?
 | k + 1,i,j,hi,hj => by
  rw [Lh];by_cases h : i = k
  ·subst h;rw [List.getElem?_append_right (by rw [Wm hf];omega),Wm hf,Nat.add_sub_cancel_left]
  ·have hik : i < k:=Qa;have hlt : i * sz + j < k * sz:=Nat.lt_of_lt_of_le (show i * sz + j < (i + 1) * sz by rw [Nat.succ_mul];omega) (Nat.mul_le_mul_right sz hik);rw [List.getElem?_append_left (by rw [Wm hf];exact hlt)];exact Kl hf hik hj
theorem Qmo (b o j : Nat) : (⟨b,o,none⟩ : Addr).add j = ⟨b,o + j,none⟩:=by unfold Addr.add;split <;> simp_all
theorem Fa {w : World} {A : OA} {n sz : Nat} {f : Nat → List Value} (hf : ∀ i,(f i).length = sz) (hs : 0 < sz) (h : Qm w A n sz f) : ∀ ad,A = some ad → ∀ j u,(Z2 f n)[j]? = some u → w.cell? (ad.add j) = some u:=fun ad hA j u hj => by
 have hjl : j < n * sz:=by have:=(List.getElem?_eq_some_iff.1 hj).1;rwa [Wm hf] at this
 have hn : 0 < n:=Nat.pos_of_ne_zero (fun e => by subst e;omega);obtain ⟨b,o,e,_,hc⟩:=h hn;obtain rfl : ad = ⟨b,o,none⟩:=Option.some.inj (hA.symm.trans e);have hi : j / sz < n:=(Nat.div_lt_iff_lt_mul hs).2 hjl;have hm:=Nat.mod_lt j hs;have hd:=Nat.div_add_mod j sz;have he : j / sz * sz + j % sz = j:=by rw [Nat.mul_comm];exact hd
 have:=Kl hf hi hm;rw [he,hj] at this;rw [Qmo];have:=hc (j / sz) (j % sz) u hi this.symm;rw [show o + j / sz * sz + j % sz = o + j by omega] at this;exact this
theorem Vz {w : World} {base k sz : Nat} {e : TypeId} {v : Value} {f : Nat → List Value} (hf : ∀ i,(f i).length = sz) (h : w.ownsRow base e sz v k (Z2 f k)) : ∃ F c,v = .slice F k c ∧ Qm w F k sz f ∧ k ≤ c ∧ c ≤ maxLen ∧ (F = none → k = 0 ∧ c = 0) ∧ ∀ a,F = some a → base ≤ a.block:=by
 rcases h.2 with ⟨rfl,h0⟩ | ⟨q,cap,cur,rfl,hb,hq,hn,hm,_⟩
 ·exact ⟨none,0,by rw [h0],fun hp => by omega,Qa,Qa,fun _ => ⟨h0,rfl⟩,fun a h => by cases h⟩
 ·refine ⟨_, _, rfl, fun _ => ⟨q, 0, rfl, (Array.getElem?_eq_some_iff.1 hq).1, fun i j v hi hv => ?_⟩, hn, hm, (fun h => by cases h), fun a h => by cases h; exact hb⟩;have hj : j < sz := by have := (List.getElem?_eq_some_iff.1 hv).1; rwa [hf] at this
  have hlt : i * sz + j < k * sz:=Nat.lt_of_lt_of_le (show i * sz + j < (i + 1) * sz by rw [Nat.succ_mul];omega) (Nat.mul_le_mul_right sz hi);rw [Nat.zero_add,World.ownsRow.cellAt h (i * sz + j) hlt,Kl hf hi hj];exact hv
theorem Pf {f : Nat → List Value} {n : Nat} (h : ∀ i,∀ u ∈ f i,u.oneCell' = true) : ∀ u ∈ Z2 f n,u.oneCell' = true:=fun u hu => by
 obtain ⟨i,_,hi⟩:=List.mem_flatMap.1 hu;exact h i u hi
theorem Qo4 {P : Program} {id : Nat} {Q : Exit → Act → World → Prop} {a : Act} {w : World} {l : List Oper} (n : Nat) (W : World) (hm : P.follows .mixedOrders = true) (hn : n = l.length) (he : Qc W w)
  (h : Nonempty (XW W) → (∀ (u : XW W) b o,b < W.heap.size → u.w.cell? ⟨b,o,none⟩ = W.cell? ⟨b,o,none⟩) →
   ∀ w',Qc w w' → Y1 P .any l.toArray (Qc W) (fun a w => Q .normal a w) n (Array.replicate n false) a w') : (Code.region id l.toArray true).wp P Q a w:=by
 have H:=h (XW.some W) (fun u => u.cell) { w with drawn:=w.drawn + 1 } ⟨rfl,rfl,rfl,Nat.le_refl _,fun _ _ => rfl⟩;have _:=he;refine Code.wp_mono (Q:=Ja fun a w => Q .normal a w) (fun e a' w' h' => by cases e <;> first | exact h' | exact False.elim h') (wp_region_any hm (Cf (C:=Qc W) _ _ _ _ ?_));subst hn
 simpa using H
theorem Qdk {w : World} {A : OA} {n sz : Nat} {f : Nat → List Value} (h : Qm w A n sz f) {p : Addr} (u : Value) (hne : ∀ a,A = some a → a.block ≠ p.block) : Qm (w.setCell p u) A n sz f:=fun h0 => by
 obtain ⟨b,off,hA,hb,hc⟩:=h h0;refine ⟨b,off,hA,by simpa [World.setCell] using hb,fun i j v hi hv => ?_⟩;have hb2 : p.block ≠ b:=fun e => hne _ hA e.symm
 rw [World.cell?_setCell_other _ _ _ _ (fun e => hb2 (by rw [e]))];exact hc i j v hi hv
theorem Rz {w : World} {A : OA} {n sz : Nat} {f : Nat → List Value} {b : Nat} (h : Qm w A n sz f) (hne : ∀ a,A = some a → a.block ≠ b) (i j : Nat) (u x : Value) : Qm ((w.setCell ⟨b,i,none⟩ u).setCell ⟨b,j,none⟩ x) A n sz f:=Qdk (Qdk h u hne) x hne
theorem Qo {W : World} {b : Nat} {t : TypeId} {v0 v1 : Value} (h : Qb W b t #[v0,v1]) (u0 u1 : Value) : Qb ((W.setCell ⟨b,0,none⟩ u0).setCell ⟨b,1,none⟩ u1) b t #[u0,u1]:=by unfold Qb at h ⊢;simp [World.setCell,Array.getElem?_modify,h]
end
section
open Go Go.RowKit
section
variable {P : Program} {ops : Array Oper} {md : Region.Mode} {C : World → Prop} {R : Act → World → Prop}
theorem Bi {W : World} (hW : C W) {A : Act} {o : Oper} {l : List Oper} {a : Act} (hb : Yo (o :: l) = true) (hz : ∀ d,o.dst = some d → d < a.tmps.size) (h : ∀ u,C u → wpQuiet P ops (fun w' => w' = u) (fun a' => a' = A) (o :: l) a) :
  ∃ v,Wz P ops C o v a ∧ ∀ u,C u → wpQuiet P ops (fun w' => w' = u) (fun a' => a' = A) l (a.put o.dst v):=by
 simp only [Yo,Bool.and_eq_true] at hb;obtain ⟨⟨hg,hd⟩,_⟩:=hb
 cases ho : o.dst with
 | none => rw [ho] at hd;cases hd
 | some d =>
  rw [ho] at hd
  have hw : Region.wanted o (yielded ops a.tmps) = true:=by
   unfold Region.wanted
   cases hgo : o.guard with
   | none => rfl
   | some g => rw [hgo] at hg;cases hg
  have each : ∀ u,C u → ∃ v,o.quietAt P a (fun w' => w' = u) u v ∧ A.tmps[d]? = some v ∧ wpQuiet P ops (fun w' => w' = u) (fun a' => a' = A) l (a.put (some d) v):=fun u hu => by
   have h1:=h u hu;unfold wpQuiet at h1;rw [if_pos hw] at h1;obtain ⟨v,h2,h3⟩:=h1;rw [ho] at h3;refine ⟨v,h2 _ rfl,?_,h3⟩;rw [Rs l _ hd h3];simp [Act.put,hz d ho]
  obtain ⟨v,_,hv,_⟩:=each W hW
  have same : ∀ u,C u → o.quietAt P a (fun w' => w' = u) u v ∧ wpQuiet P ops (fun w' => w' = u) (fun a' => a' = A) l (a.put (some d) v):=fun u hu => by
   obtain ⟨v',h1,h2,h3⟩:=each u hu;have e : v' = v:=Option.some.inj (h2.symm.trans hv);subst e;exact ⟨h1,h3⟩
  exact ⟨v,⟨hw,fun w hw => (same w hw).1⟩,fun u hu => (same u hu).2⟩
theorem Cz {W : World} (hW : C W) {A : Act} {g : Nat} (hs : Region.noSelect ops = true) : ∀ (ks : List Nat) (l : List Oper) (L : Array Bool) (a : Act),l.map some = ks.map (fun k => ops[k]?) → Yo l = true → Xh a l = true →
  Lw md ops ks L = true → (∀ u,C u → wpQuiet P ops (fun w' => w' = u) (fun a' => a' = A) l a) → Y1 P md ops C R g (U6 ks L) A W → Y1 P md ops C R (l.length + g) L a W
 | [],[],L,a,_,_,_,_,h,H => by
  have e : a = A:=h W hW;subst e;rw [List.length_nil,Nat.zero_add]
  exact H
 | k :: ks,o :: l,L,a,hl,hd,hz,hB,h,H => by
  simp only [List.map_cons,List.cons.injEq] at hl;have h0 : ops[k]? = some o:=hl.1.symm;simp only [Lw,Bool.and_eq_true] at hB;obtain ⟨⟨hr,hf⟩,hB'⟩:=hB;have hzo:=hz;simp only [Xh,List.all_cons,Bool.and_eq_true] at hzo;obtain ⟨v,hy,hn⟩:=Bi hW hd (fun d he => by have:=hzo.1;rw [he] at this;simpa using this) h;have hd' : Yo l = true:=by simp only [Yo,Bool.and_eq_true] at hd;exact hd.2
  have hsz : (a.put o.dst v).tmps.size = a.tmps.size:=by cases o.dst <;> simp [Act.put]
  rw [show (o :: l).length + g = (l.length + g) + 1 by simp only [List.length_cons];omega]
  exact Qet h0 (Region.noSelect_spec hs) _ L a W (Region.free_spec h0 hf) (by simpa using hr) hW hy
   (Cz hW hs ks l _ _ hl.2 hd' (by unfold Xh;rw [hsz];exact hzo.2) hB' hn H)
 | [],_ :: _,_,_,hl,_,_,_,_,_ => by simp at hl
 | _ :: _,[],_,_,hl,_,_,_,_,_ => by simp at hl
theorem Cx {g f : Nat} {L : Array Bool} {a : Act} {w : World} (ks : List Nat) (l : List Oper) (hl : K6 ops ks l) (hB : (Region.noSelect ops && Yo l && Lw md ops ks L && decide (f = l.length + g)) = true) (hz : Xh a l = true) (hw : C w)
  (h : ∃ A,(∀ u,C u → wpQuiet P ops (fun w' => w' = u) (fun a' => a' = A) l a) ∧ Y1 P md ops C R g (U6 ks L) A w) : Y1 P md ops C R f L a w:=by
 obtain ⟨A,h1,h2⟩:=h;simp only [Bool.and_eq_true,decide_eq_true_eq] at hB;obtain ⟨⟨⟨hs,hd⟩,hk⟩,rfl⟩:=hB;exact Cz hw hs ks l L a (Hx hl) hd hz hk h1 h2
end
theorem Qez {P : Program} {id : Nat} {Q : Exit → Act → World → Prop} {a : Act} {w : World} {l : List Oper} (n : Nat) (C : World → Prop) (hm : P.follows .mixedOrders = true) (hn : n = l.length)
  (h : ∀ w',Qc w w' → Y1 P .any l.toArray C (fun a w => Q .normal a w) n (Array.replicate n false) a w') : (Code.region id l.toArray true).wp P Q a w:=by
 have H:=h { w with drawn:=w.drawn + 1 } ⟨rfl,rfl,rfl,Nat.le_refl _,fun _ _ => rfl⟩;refine Code.wp_mono (Q:=Ja fun a w => Q .normal a w) (fun e a' w' h' => by cases e <;> first | exact h' | exact False.elim h') (wp_region_any hm (Cf (C:=C) _ _ _ _ ?_));subst hn
 simpa using H
end
section
open Go Go.RowKit Go.Shelf
attribute [local go_sem] Z8
def Zk (f : Nat → Nat) (i : Nat) : List Value:=[.int .u64 (f i : Int)]
def V9 (l : List Nat) : List Value:=l.map fun (x : Nat) => Value.int .u64 (x : Int)
theorem Qn8 (l : List Nat) (x : Nat) : V9 l ++ [.int .u64 (x : Int)] = V9 (l ++ [x]):=by simp [V9]
theorem Ps : (Tryz.prog.info? 245).map (fun i => (i.zero,i.size,i.bytes)) = some (some (.int .u64 0),1,8):=by kernel_rfl
theorem Qeg {w : World} {base k : Nat} {v : Value} {l : List Nat} (hk : k = l.length) (h : w.ownsRow base 245 1 v k (V9 l)) : ∃ F c,v = .slice F k c ∧ Qm w F k 1 (Zk fun i => l.getD i 0) ∧ k ≤ c ∧ c ≤ maxLen ∧ (F = none → k = 0 ∧ c = 0) ∧ ∀ a,F = some a → base ≤ a.block:=by
 have e : V9 l = Z2 (Zk fun i => l.getD i 0) k:=by
  subst hk;apply List.ext_getElem?;intro j;by_cases hj : j < l.length
  ·have:=Kl (f:=Zk fun i => l.getD i 0) (sz:=1) (fun _ => rfl) (i:=j) (j:=0) hj zD;rw [Nat.mul_one,Nat.add_zero] at this;rw [this];simp [V9,Zk,List.getD_eq_getElem?_getD,List.getElem?_eq_getElem hj]
  ·rw [List.getElem?_eq_none (by simp [V9];omega),List.getElem?_eq_none (by rw [Wm (f:=Zk fun i => l.getD i 0) (sz:=1) (fun _ => rfl)];omega)]
 rw [e] at h;obtain ⟨F,c,h1,h2,h3,h4,h5,h6⟩:=Vz (f:=Zk fun i => l.getD i 0) (fun _ => rfl) h;exact ⟨F,c,h1,h2,h3,h4,h5,h6⟩
set_option maxHeartbeats 2000000 in
theorem Qea (A : OA) (n ca : Nat) (f : Nat → Nat) (w : World) (hA : Qm w A n 1 (Zk f)) (hn : n ≤ 1000000) :
  Calls Tryz.prog 194 #[.slice A n ca] w fun e w' => ∃ v,e = .returned v ∧ Qc w w' ∧ w'.ownsRow w.heap.size 245 1 v (Zj f n).length (V9 (Zj f n)):=by
 obtain ⟨i0,hi,hz0,hz1,hz2⟩:=info_parts Ps
 go_enter Tryz.func194,Tryz.ntmps194
 go_upto_region 3 with fail
 go_loopw [3,8] (fun o i wr => ∃ k : Nat,k ≤ n ∧ i = .int .i64 k ∧ Qc w wr ∧ wr.ownsRow w.heap.size 245 1 o (Zj f k).length (V9 (Zj f k))) (fun _ i _ => n - (intOf i).toNat)
 case atStart => exact ⟨0,Nat.zero_le _,rfl,Qc.refl _,World.ownsRow_nil _ _ _ _⟩
 case round =>
  obtain ⟨k,hk,rfl,hE,hO⟩:=hrel;obtain ⟨wo,rfl⟩:=Qe wr;by_cases hlt : k < n
  ·obtain ⟨b, off, rfl, hb, hc⟩ := (hA.ext hE) Qa;have c0 : wo.cell? ⟨b, off + k, none⟩ = some (.int .u64 (f k : Int)) := by simpa using hc k 0 _ hlt rfl
   have hml:=Tf f k;have HM:=zh hml;clear hml hc hA;by_cases h1 : f k = 1
   ·have hs : Hid (Zj f (k + 1) = Zj f k) := by unfold Hid; rw [Zj, if_pos h1]
    rw [h1] at c0;clear h1;rw [← hs.out] at hO;clear hs HM;go_wp2;exact ⟨⟨k + 1,Qa,by go_num,hE,hO⟩,zi⟩
   ·have hs : Hid (Zj f (k + 1) = Zj f k ++ [f k]) := by unfold Hid; rw [Zj, if_neg h1]
    have hb1 : ((f k : Int) != 1) = true:=by rw [bne,zb Qa];rfl
    clear h1;generalize f k = x at *;go_upto_region 7 with (at_builtin;refine wpList_append_own_at _ rfl _ _ 250 rfl w.heap.size 245 i0 (.int .u64 0) 1 8 Tryz.underlying250 hi hz0 hz1 hz2 rfl zD _ _ _ rfl (hO.alloc _) ⟨wo.heap.size,0,none⟩ 1 1 [.int .u64 (x : Int)] rfl rfl (W4 _ _ _) (by simp [Value.oneCell']) (by have:=HM.out;unfold maxLen;omega) (by have:=HM.out;omega) (by have:=hE.size;simp;omega) ?_;intro o' w2 hown hgrow _ _)
    have E2 : Qc w w2:=(hE.alloc _).grown hgrow (fun q hq => (hO.lt q hq).1);rw [Qn8,← hs.out] at hown;have hl4 : (Zj f k).length + 1 = (Zj f (k + 1)).length:=by rw [hs.out];simp
    rw [hl4] at hown;clear hs hgrow hl4;go_wp2;exact ⟨⟨k + 1,Qa,by go_num,E2,hown⟩,zi⟩
  ·obtain rfl : k = n:=Qa;go_wp2;go_ret;exact ⟨_,rfl,hE,hO⟩
theorem Jn {W : World} {base size k : Nat} {e : TypeId} {v : Value} {xs : List Value} (h : W.ownsRow base e size v k xs) : ∃ F m,v = .slice F k m:=by
 rcases h.2 with ⟨rfl,h0⟩ | ⟨g,cap,cur,rfl,_⟩
 ·exact ⟨none,0,by rw [h0]⟩
 ·exact ⟨_,_,rfl⟩
theorem Qg {W : World} {b b' : Nat} {t : TypeId} {cs : Array Value} (h : Qb W b t cs) (hne : b ≠ b') (j : Nat) (u : Value) : Qb (W.setCell ⟨b',j,none⟩ u) b t cs :=
 h.kept ⟨rfl,rfl,rfl,(KeepsWalks.setCell W _ u).size,fun k _ hk => Below.heap_setCell _ _ _ k (fun e => hk (by rw [e]))⟩ (fun e => hne (by cases e;rfl))
theorem Qct {w : World} {base : Nat} {e : TypeId} {size : Nat} {v : Value} {n : Nat} {xs : List Value} (h : w.ownsRow base e size v n xs) (hn : 0 < n) : ∃ g cap,v = .slice (some ⟨g,0,none⟩) n cap ∧ base ≤ g ∧ g < w.heap.size:=by
 rcases h.2 with ⟨_,h0⟩ | ⟨g,cap,cur,hv,hb,hg,_⟩
 ·omega
 ·exact ⟨g,cap,hv,hb,(Array.getElem?_eq_some_iff.1 hg).1⟩
theorem Rp {w : World} {base : Nat} {e : TypeId} {size g c : Nat} {n m : Nat} {xs : List Value} (h : w.ownsRow base e size (.slice (some ⟨g,0,none⟩) m c) n xs) : g < w.heap.size:=by
 rcases h.2 with ⟨h',_⟩ | ⟨g',cap,cur,hv,hb,hg,_⟩
 ·cases h'
 ·cases hv;exact (Array.getElem?_eq_some_iff.1 hg).1
def Ey (A : Value → Value → Act) (S : World → Value → Value → Prop) : Exit → Act → World → Prop:=fun e a' w' => e = .normal ∧ ∃ p q,S w' p q ∧ a' = A p q
theorem Qg8 {A : Value → Value → Act} {S : World → Value → Value → Prop} {w' : World} (p q : Value) {a' : Act} (h : S w' p q) (ha : a' = A p q) : Ey A S .normal a' w':=⟨rfl,p,q,h,ha⟩
theorem Qoy {P : Program} {c : Code} {Q : Exit → Act → World → Prop} {a : Act} {w : World} {A : Value → Value → Act} (S : World → Value → Value → Prop) (h1 : c.wp P (Ey A S) a w) (h2 : ∀ p q w',S w' p q → Q .normal (A p q) w') : c.wp P Q a w :=
 Code.wp_mono (fun e a' w' ⟨he,p,q,hs,ha⟩ => by subst he;subst ha;exact h2 p q w' hs) h1
theorem Qn7 (f : Nat → Nat) (n i x : Nat) (hi : i < n) : (Z2 (Zk f) n).set i (.int .u64 (x : Int)) = Z2 (Zk (J3 f i x)) n:=by
 apply List.ext_getElem?;intro j;have hl : (Z2 (Zk f) n).length = n:=by have:=Wm (f:=Zk f) (sz:=1) (fun _ => rfl) n;omega
 have hg : ∀ (g : Nat → Nat) k,k < n → (Z2 (Zk g) n)[k]? = some (.int .u64 (g k : Int)):=fun g k hk => by
  have:=Kl (f:=Zk g) (sz:=1) (fun _ => rfl) (i:=k) (j:=0) hk zD;rw [Nat.mul_one,Nat.add_zero] at this;rw [this];rfl
 rw [List.getElem?_set];by_cases e : i = j
 ·subst e;rw [if_pos rfl,if_pos Qa,hg _ _ hi];simp [J3]
 ·rw [if_neg e];by_cases hj : j < n
  ·rw [hg _ _ hj,hg _ _ hj];simp [J3,show j ≠ i by omega]
  ·rw [List.getElem?_eq_none Qa,List.getElem?_eq_none (by have:=Wm (f:=Zk (J3 f i x)) (sz:=1) (fun _ => rfl) n;omega)]
theorem Nq {w : World} {base g n cap : Nat} {f : Nat → Nat} (h : w.ownsRow base 245 1 (.slice (some ⟨g,0,none⟩) n cap) n (Z2 (Zk f) n)) {i : Nat} (hi : i < n) : w.cell? ⟨g,i,none⟩ = some (.int .u64 (f i : Int)):=by
 rw [World.ownsRow.cellAt h i Qa];have:=Kl (f:=Zk f) (sz:=1) (fun _ => rfl) (i:=i) (j:=0) hi zD;rw [Nat.mul_one,Nat.add_zero] at this;rw [this];rfl
theorem Bu {w : World} {base g n cap : Nat} {f : Nat → Nat} (h : w.ownsRow base 245 1 (.slice (some ⟨g,0,none⟩) n cap) n (Z2 (Zk f) n)) {i : Nat} (hi : i < n) (x : Nat) :
  (w.setCell ⟨g,i,none⟩ (.int .u64 (x : Int))).ownsRow base 245 1 (.slice (some ⟨g,0,none⟩) n cap) n (Z2 (Zk (J3 f i x)) n):=by
 have:=(World.ownsRow.stored h i (.int .u64 (x : Int))).1
 rwa [Qn7 f n i x hi] at this
theorem Bt {w : World} {base g n cap g' i : Nat} {f : Nat → Nat} (h : w.ownsRow base 245 1 (.slice (some ⟨g,0,none⟩) n cap) n (Z2 (Zk f) n)) (hne : g ≠ g') (u : Value) :
  (w.setCell ⟨g',i,none⟩ u).ownsRow base 245 1 (.slice (some ⟨g,0,none⟩) n cap) n (Z2 (Zk f) n) :=
 h.kept ⟨rfl,rfl,rfl,(KeepsWalks.setCell w _ u).size,fun k _ hk => Below.heap_setCell _ _ _ k (fun e => hk (by rw [e]))⟩ (.inr (fun e => hne (by cases e;rfl)))
theorem Qmy (A A' : OA) (n m ca cb : Nat) (fu fd : Nat → Nat) (w : World) (hA : Qm w A n 1 (Zk fu)) (hA' : Qm w A' m 1 (Zk fd)) (hnA : A = none → n = 0 ∧ ca = 0) (hnA' : A' = none → m = 0 ∧ cb = 0)
  (hn : n ≤ 1000) (hm : m ≤ 1000) (hu1 : ∀ i,i < n → 1 ≤ fu i) (hu2 : ∀ i,i < n → fu i < 18446744073709551616) (hd1 : ∀ i,i < m → 1 ≤ fd i) (hd2 : ∀ i,i < m → fd i < 18446744073709551616) :
  Calls Tryz.prog 186 #[.agg #[.slice A n ca,.slice A' m cb]] w fun e w' => ∃ U D F c F' c',Wl fu fd n m U D n 0 ∧ e = .returned (.agg #[.slice F (Zj U n).length c,.slice F' (Zj D m).length c']) ∧ Qc w w' ∧
   Qm w' F (Zj U n).length 1 (Zk fun i => (Zj U n).getD i 0) ∧ Qm w' F' (Zj D m).length 1 (Zk fun i => (Zj D m).getD i 0) ∧ (∀ a,F = some a → w.heap.size ≤ a.block) ∧ (∀ a,F' = some a → w.heap.size ≤ a.block):=by
 obtain ⟨i0,hi,hz0,hz1,hz2⟩:=info_parts Ps;have hlu:=Wm (f:=Zk fu) (sz:=1) (fun _ => rfl) n;have hld:=Wm (f:=Zk fd) (sz:=1) (fun _ => rfl) m;have hone : ∀ g k,∀ u ∈ Z2 (Zk g) k,u.oneCell' = true:=fun g k => Pf (f:=Zk g) (n:=k) (fun i u hu => by simp [Zk] at hu;subst hu;simp [Value.oneCell'])
 have HNU:=fun v (h : Qm v A n 1 (Zk fu)) => Fa (f:=Zk fu) (sz:=1) (fun _ => rfl) zD h
 have HND:=fun v (h : Qm v A' m 1 (Zk fd)) => Fa (f:=Zk fd) (sz:=1) (fun _ => rfl) zD h
 go_enter Tryz.func186,Tryz.ntmps186
 go_upto_region 1 with fail
 obtain ⟨v,hv⟩:=Qe ((w.alloc (.cells #[.slice A n ca,.slice A' m cb] 252)).alloc (.cells #[.slice none 0 0,.slice none 0 0] 252));rw [← hv];have E : Qc w v:=by rw [hv];exact ((Qc.refl _).alloc _).alloc _
 have B1 : Qb v w.heap.size 252 #[.slice A n ca,.slice A' m cb]:=by rw [hv];exact (Qb.new _ _ _).alloc _
 have B2 : Qb v (w.heap.size + 1) 252 #[.slice none 0 0,.slice none 0 0]:=by rw [hv];exact Qb.at _ _ _ _ (by simp)
 clear hv;have RA:=hA.ext E;have RA':=hA'.ext E;clear hA hA';have hb2 : w.heap.size ≤ w.heap.size + 1:=Nat.le_succ _;have hvs : w.heap.size + 1 < v.heap.size:=B2.lt;generalize w.heap.size + 1 = b2 at *;generalize hb1 : w.heap.size = b1 at *;replace hb1:=zh hb1;obtain ⟨k0,k1,lk⟩:=Qb.d2 B1;apply Qoy (S:=fun w' p q => Qc v w' ∧ w'.ownsRow v.heap.size 245 1 p n (Z2 (Zk fu) n) ∧ w'.ownsRow v.heap.size 245 1 q m (Z2 (Zk fd) m) ∧ ∀ x y,p.ownBlock = some x → q.ownBlock = some y → x ≠ y)
 ·refine Qo4 8 v mixed rfl (Qc.refl _) ?_;intro hne hrx v3 h3;refine Cv (g:=4) [0,1,3,4] [_,_,_,_] ⟨rfl,rfl,rfl,rfl,trivial⟩ zK zK h3 ?_;simp only [Zg,Zh,Zi];apply Exists.intro;refine ⟨fun u => ?_,?_⟩
  ·exact Qk
  refine Vc 2 rfl zK ?_;simp only [Zg,Zh,Zi];go_wp2_with (at_builtin;refine Cg rfl _ _ 250 rfl v3.heap.size 245 i0 (.int .u64 0) 1 8 Tryz.underlying250 hi hz0 hz1 hz2 rfl zD rfl A n ca (Z2 (Zk fu) n) rfl hnA hlu (HNU _ (RA.ext h3)) (hone _ _) (by unfold maxLen;omega) Qa (Nat.le_refl _) ?_;intro p w4 hP hg);have h4 : Qc v3 w4:=(Qc.refl _).grown hg (fun q hq => by cases hq);clear hg;have e4:=h3.trans h4;refine Qf e4 ?_;refine Vc 5 rfl zK ?_;simp only [Zg,Zh,Zi];go_wp2_with (at_builtin;refine Cg rfl _ _ 250 rfl w4.heap.size 245 i0 (.int .u64 0) 1 8 Tryz.underlying250 hi hz0 hz1 hz2 rfl zD rfl A' m cb (Z2 (Zk fd) m) rfl hnA' hld (HND _ (RA'.ext e4)) (hone _ _) (by unfold maxLen;omega) Qa (Nat.le_refl _) ?_;intro q w5 hQ hg)
  have h5 : Qc w4 w5:=(Qc.refl _).grown hg (fun q hq => by cases hq);clear hg;have e5:=e4.trans h5;refine Qf e5 ?_;refine Cv (g:=0) [6,7] [_,_] ⟨rfl,rfl,trivial⟩ zK zK e5 ?_;simp only [Zg,Zh,Zi];apply Exists.intro;refine ⟨fun u => ?_,?_⟩
  ·exact Qk
  refine Gm zK ?_;exact Qg8 p q ⟨e5,World.ownsRow.mono (Jf hP h5) h3.size,World.ownsRow.mono hQ e4.size,fun x y h1 h2 => by have:=(hP.lt x h1).2;have:=(hQ.lt y h2).1;omega⟩ rfl
 ·rintro p q w1 ⟨E1,hP,hQ,hap⟩;obtain ⟨F1,c1,rfl⟩:=Jn hP;obtain ⟨F2,c2,rfl⟩:=Jn hQ;have hvw:=E1.size;clear RA RA' k0 k1 lk HNU HND hone hlu hld;go_upto_region 3 with fail
  go_loopw [16] (fun iv wr => ∃ i : Nat,i ≤ n ∧ iv = .int .i64 (i : Int) ∧ Qc v wr ∧ ∃ U D,Wl fu fd n m U D i 0 ∧ wr.ownsRow v.heap.size 245 1 (.slice F1 n c1) n (Z2 (Zk U) n) ∧ wr.ownsRow v.heap.size 245 1 (.slice F2 m c2) m (Z2 (Zk D) m)) (fun iv _ => n - (intOf iv).toNat)
  case atStart => exact ⟨0,Nat.zero_le _,rfl,E1,fu,fd,Wl.start hu1 hd1,hP,hQ⟩
  case round =>
   obtain ⟨i,hi0,rfl,hEo,Uo,Do,hRo,hPo,hQo⟩:=hrel;obtain ⟨wo,rfl⟩:=Qe wr;by_cases hlt : i < n
   ·go_upto_region 6 with fail
    go_loopw [21] (fun jv wr => ∃ j : Nat,j ≤ m ∧ jv = .int .i64 (j : Int) ∧ Qc v wr ∧ ∃ U D,Wl fu fd n m U D i j ∧ wr.ownsRow v.heap.size 245 1 (.slice F1 n c1) n (Z2 (Zk U) n) ∧ wr.ownsRow v.heap.size 245 1 (.slice F2 m c2) m (Z2 (Zk D) m)) (fun jv _ => m - (intOf jv).toNat)
    case atStart => exact ⟨0,Nat.zero_le _,rfl,hEo,Uo,Do,hRo,hPo,hQo⟩
    case round =>
     clear hEo hRo hPo hQo;obtain ⟨j,hj0,rfl,hE,U,D,hR,hP,hQ⟩:=hrel;obtain ⟨wo,rfl⟩:=Qe wr;by_cases hltj : j < m
     ·obtain ⟨g1, x1, hf1, hg1, hl1⟩ := Qct hP Qa;obtain ⟨g2, x2, hf2, hg2, hl2⟩ := Qct hQ Qa;obtain ⟨rfl, _, rfl⟩ : F1 = some ⟨g1, 0, none⟩ ∧ n = n ∧ c1 = x1 := by simpa using hf1
      obtain ⟨rfl,_,rfl⟩ : F2 = some ⟨g2,0,none⟩ ∧ m = m ∧ c2 = x2:=by simpa using hf2
      have hne:=hap g1 g2 rfl rfl;clear hf1 hf2;have p0:=Nq hP hlt;have q0:=Nq hQ hltj;have hRS:=hR.step hlt hltj;have hU1:=hR.up i hlt;have hD1:=hR.dn j hltj;have hu2i:=hu2 i hlt;have hd2j:=hd2 j hltj;have NC:=fun w => Es (U i) (D j) Qa w
      have hgp : 0 < Nat.gcd (U i) (D j):=Nat.gcd_pos_of_pos_right _ hD1.1;have hP2:=fun x => Bu hP hlt x
      have hQ2:=fun x => Bt (i:=i) hQ (Ne.symm hne) (.int .u64 (x : Int))
      generalize hgg : Nat.gcd (U i) (D j) = g at *;go_upto_region 8 with fail
      have m1:=fun x1 => NC x1
      refine Qy wo ?_;intro w2 h2;clear m1;obtain ⟨_,_,_,_⟩:=Qv wo h2;clear p0 q0 hl1 hl2;replace hP:=Jf hP h2;replace hQ:=Jf hQ h2;have f0:=World.ownsRow.frozenAt hP i;have f1:=World.ownsRow.frozenAt hQ j;have p0:=Nq hP hlt;have q0:=Nq hQ hltj;have l1:=(Rp hP);have l2:=(Rp hQ);have gi0 : (g : Int) ≠ 0:=Qa;have gi1 : ((g : Int) == 0) = false:=zb gi0
      have hq1 : IntKind.u64.wrap ((U i : Int) / (g : Int)) = ((U i / g : Nat) : Int):=by
       rw [IntKind.wrap_u64,← Int.natCast_ediv];have:=Nat.div_le_self (U i) g;generalize U i / g = z at this ⊢;exact Int.emod_eq_of_lt Qa Qa
      have hq2 : IntKind.u64.wrap ((D j : Int) / (g : Int)) = ((D j / g : Nat) : Int):=by
       rw [IntKind.wrap_u64,← Int.natCast_ediv];have:=Nat.div_le_self (D j) g;generalize D j / g = z at this ⊢;exact Int.emod_eq_of_lt Qa Qa
      clear hU1 hD1 hu2i hd2j NC hP2 hQ2;generalize U i / g = x1 at *;generalize D j / g = x2 at *;have E3:=(hE.trans h2).setCell (p:=⟨g1,i,none⟩) hg1 (.int .u64 (x1 : Int));have hP3:=Bu hP hlt x1;have hQ3:=Bt (i:=i) hQ (Ne.symm hne) (.int .u64 (x1 : Int));go_upto_region 10 with fail
      generalize World.setCell w2 _ _ = w3 at *;clear hP hQ p0 q0 l1 l2 f0 f1;have p0:=Nq hP3 hlt;have q0:=Nq hQ3 hltj;have l1:=(Rp hP3);have l2:=(Rp hQ3);have f1:=World.ownsRow.frozenAt hQ3 j;have E4:=E3.setCell (p:=⟨g2,j,none⟩) hg2 (.int .u64 (x2 : Int));have hQ4:=Bu hQ3 hltj x2;have hP4:=Bt (i:=j) hP3 hne (.int .u64 (x2 : Int));go_wp2;exact ⟨⟨j + 1,Qa,by go_num,E4,_,_,hRS,hP4,hQ4⟩,zi⟩
     ·obtain rfl : j = m:=Qa;go_wp2;exact ⟨⟨i + 1,Qa,by go_num,hE,U,D,hR.row,hP,hQ⟩,zi⟩
   ·obtain rfl : i = n:=Qa;have hRU:=fun w h => Qea F1 i c1 Uo w h Qa
    have hRD:=fun w h => Qea F2 m c2 Do w h Qa
    obtain ⟨F3,c3,hf1,ra,_⟩:=Vz (f:=Zk Uo) (sz:=1) (fun _ => rfl) hPo;obtain ⟨F4,c4,hf2,rb,_⟩:=Vz (f:=Zk Do) (sz:=1) (fun _ => rfl) hQo;obtain ⟨rfl,rfl⟩ : F1 = F3 ∧ c1 = c3:=by simpa using hf1
    obtain ⟨rfl,rfl⟩ : F2 = F4 ∧ c2 = c4:=by simpa using hf2
    clear hf1 hf2
    go_wp2_with (first
     | (go_at_call 194;(with_reducible refine zc (hRU _ ra) ?_);rintro e w2 ⟨va,rfl,h2,oa⟩;obtain ⟨G1,d1,rfl,ga,_,_,_,ga6⟩:=Qeg rfl oa)
     | (go_at_call 194;(with_reducible refine zc (hRD _ (rb.ext h2)) ?_);rintro e w3 ⟨vb,rfl,h3,ob⟩;obtain ⟨G2,d2,rfl,gb,_,_,_,gb6⟩:=Qeg rfl ob;have B3:=B2.ext ((hEo.trans h2).trans h3);have z0:=B3.frozen 0;have z1:=B3.frozen 1;obtain ⟨y0,y1⟩:=B3.c2;have ly:=B3.lt))
    have H2:=Qo B3 (.slice G1 (Zj Uo i).length d1) (.slice G2 (Zj Do m).length d2);have E2:=((((E.trans hEo).trans h2).trans h3).setCell (p:=⟨b2,0,none⟩) (by have:=hb1.out;show w.heap.size ≤ b2;omega) (.slice G1 (Zj Uo i).length d1)).setCell (p:=⟨b2,1,none⟩) (by have:=hb1.out;show w.heap.size ≤ b2;omega) (.slice G2 (Zj Do m).length d2);have hvs1:=hEo.size;have hvs2:=h2.size;have ga2:=Rz (ga.ext h3) (b:=b2) (fun a h => by have:=ga6 a h;omega) 0 1 (.slice G1 (Zj Uo i).length d1) (.slice G2 (Zj Do m).length d2);have gb2:=Rz gb (b:=b2) (fun a h => by have:=gb6 a h;omega) 0 1 (.slice G1 (Zj Uo i).length d1) (.slice G2 (Zj Do m).length d2)
    obtain ⟨x0,x1⟩:=H2.c2;generalize (w3.setCell ⟨b2,0,none⟩ (.slice G1 (Zj Uo i).length d1)).setCell ⟨b2,1,none⟩ (.slice G2 (Zj Do m).length d2) = wf at *;clear y0 y1 z0 z1 B3 ly;go_wp2;refine bodyPost_ret (v:=.agg #[.slice G1 (Zj Uo i).length d1,.slice G2 (Zj Do m).length d2]) (by simp [results,Tryz.results186,go_sem,x0,x1]) rfl ⟨Uo,Do,G1,d1,G2,d2,hRo,rfl,E2,ga2,gb2,fun a h => by have:=ga6 a h;have:=E.size;have:=hb1.out;omega,fun a h => by have:=gb6 a h;have:=E.size;have:=hb1.out;omega⟩
theorem Te {f : Nat → Nat} {n k : Nat} (hk : k < (Zj f n).length) : ∃ i,i < n ∧ (Zj f n).getD k 0 = f i:=by
 refine Bp f n _ ?_;rw [List.getD_eq_getElem?_getD,List.getElem?_eq_getElem hk];exact List.getElem_mem hk
theorem Z6 {x : Int} (h1 : -9223372036854775808 ≤ x) (h2 : x ≤ 9223372036854775807) : IntKind.i64.wrap x = x:=by
 rw [IntKind.wrap_i64];omega
theorem Dr (A A' : OA) (n m ca cb : Nat) (fu fd : Nat → Nat) (neg : Bool) (w : World) (hA : Qm w A n 1 (Zk fu)) (hA' : Qm w A' m 1 (Zk fd)) (hnA : A = none → n = 0 ∧ ca = 0) (hnA' : A' = none → m = 0 ∧ cb = 0)
  (hn : n ≤ 1000) (hm : m ≤ 1000) (hu1 : ∀ i,i < n → 1 ≤ fu i) (hu2 : ∀ i,i < n → fu i < 18446744073709551616) (hd1 : ∀ i,i < m → 1 ≤ fd i) (hd2 : ∀ i,i < m → fd i < 18446744073709551616) :
  Calls Tryz.prog 163 #[.agg #[.slice A n ca,.slice A' m cb],.bool neg] w fun e w' => e = .returned (.tuple #[.agg #[.int .i64 (J2 neg (upTo fu n) (upTo fd m)).1.n,.int .i64 (J2 neg (upTo fu n) (upTo fd m)).1.d],.int .i64 (J2 neg (upTo fu n) (upTo fd m)).2]) ∧ Qc w w':=by
 have NR:=fun v h1 h2 => Qmy A A' n m ca cb fu fd v h1 h2 hnA hnA' hn hm hu1 hu2 hd1 hd2
 obtain ⟨R,hR0⟩:=Qe (J2 neg (upTo fu n) (upTo fd m));rw [← hR0];have HR:=zh hR0;clear hR0
 go_enter Tryz.func163,Tryz.ntmps163
 go_upto_region 1 with fail
 obtain ⟨v,hv⟩:=Qe ((w.alloc (.cells #[.slice A n ca,.slice A' m cb] 252)).alloc (.cells #[.int .i64 0,.int .i64 0] 65));rw [← hv];have E : Qc w v:=by rw [hv];exact ((Qc.refl _).alloc _).alloc _
 have B1 : Qb v w.heap.size 252 #[.slice A n ca,.slice A' m cb]:=by rw [hv];exact (Qb.new _ _ _).alloc _
 have B2 : Qb v (w.heap.size + 1) 65 #[.int .i64 0,.int .i64 0]:=by rw [hv];exact Qb.at _ _ _ _ (by simp)
 clear hv;have RA:=hA.ext E;have RA':=hA'.ext E;clear hA hA';obtain ⟨b2,hb2⟩:=Qe (w.heap.size + 1);rw [← hb2] at B2 ⊢;obtain ⟨b1,hb1⟩:=Qe (w.heap.size);rw [← hb1] at B1 ⊢;have h21 : b2 ≠ b1:=Qa;have hb1':=Nat.le_of_eq hb1.symm;have hb2' : w.heap.size ≤ b2:=Qa;clear hb1 hb2;obtain ⟨k0,k1,lk⟩:=Qb.d2 B1;go_upto_region 2 with (go_at_call 186;refine zc (NR _ RA RA') ?_;rintro e w2 ⟨U,D,G1,d1,G2,d2,hRI,rfl,h2,ga,gb,ga6,gb6⟩;have B12:=B1.ext h2;obtain ⟨k0,k1⟩:=B12.c2;have lk:=B12.lt;have f0:=B12.frozen 0;have f1:=B12.frozen 1)
 have hbv:=B1.lt;have EX:=((E.trans h2).setCell (p:=⟨b1,0,none⟩) hb1' (.slice G1 (Zj U n).length d1)).setCell (p:=⟨b1,1,none⟩) hb1' (.slice G2 (Zj D m).length d2);have H1:=Qo B12 (.slice G1 (Zj U n).length d1) (.slice G2 (Zj D m).length d2);have H2:=Qg (Qg (B2.ext h2) h21 0 (.slice G1 (Zj U n).length d1)) h21 1 (.slice G2 (Zj D m).length d2);have ga2:=Rz ga (b:=b1) (fun a h => by have:=ga6 a h;omega) 0 1 (.slice G1 (Zj U n).length d1) (.slice G2 (Zj D m).length d2);have gb2:=Rz gb (b:=b1) (fun a h => by have:=gb6 a h;omega) 0 1 (.slice G1 (Zj U n).length d1) (.slice G2 (Zj D m).length d2);generalize (w2.setCell ⟨b1,0,none⟩ (.slice G1 (Zj U n).length d1)).setCell ⟨b1,1,none⟩ (.slice G2 (Zj D m).length d2) = wf at *
 clear f0 f1 k0 k1 lk ga gb ga6 gb6 B12 B1 B2 h2 E RA RA' NR hb1' hbv;have hdone:=hRI.done neg hd1;rw [← HR.out] at hdone;have hl1:=Tf U n;have hl2:=Tf D m;have NP:=fun v h => Qeq G1 (Zj U n).length d1 (fun i => (Zj U n).getD i 0) 1099511627776 zD zD (fun i hi => by obtain ⟨j,hj,e⟩:=Te hi;rw [e];exact (hRI.up j hj).1) (fun i hi => by obtain ⟨j,hj,e⟩:=Te hi;rw [e];exact Nat.lt_of_le_of_lt (hRI.up j hj).2 (hu2 j hj)) v h Qa
 have NQ:=fun v h => Qeq G2 (Zj D m).length d2 (fun i => (Zj D m).getD i 0) 1048576 zD zD (fun i hi => by obtain ⟨j,hj,e⟩:=Te hi;rw [e];exact (hRI.dn j hj).1) (fun i hi => by obtain ⟨j,hj,e⟩:=Te hi;rw [e];exact Nat.lt_of_le_of_lt (hRI.dn j hj).2 (hd2 j hj)) v h Qa
 rw [Qmq,Bq] at NP NQ;clear hl1 hl2 hRI hu1 hu2 hd1 hd2 hnA hnA' hn hm;generalize (Zj U n).length = n1 at *;generalize (Zj D m).length = n2 at *;generalize upTo U n = p at *;generalize upTo D m = q at *;obtain ⟨k0,k1,lk⟩:=Qb.d2 H1;obtain ⟨R0,R1⟩:=R;replace hdone:=zh hdone;by_cases hp : p ≤ 1099511627776
 ·by_cases hq : q ≤ 1048576
  ·simp only [if_pos hp,zt hp] at NP;simp only [if_pos hq,zt hq] at NQ;have hd:=hdone.out;rw [if_pos ⟨hp,hq⟩] at hd;obtain ⟨rfl,rfl⟩:=Prod.mk.inj hd;have w1 : IntKind.i64.wrap (p : Int) = (p : Int):=Z6 Qa Qa;have w2 : IntKind.i64.wrap (q : Int) = (q : Int):=Z6 Qa Qa;have w3 : IntKind.i64.wrap (-(p : Int)) = -(p : Int):=Z6 Qa Qa;clear hp hq hd hdone HR;cases neg
   ·skip
    go_upto_region 3 with (go_at_call 187;refine zc (NP _ ga2) ?_;rintro e wa ⟨rfl,ha⟩;clear k0 k1 lk;replace H1:=H1.ext ha;obtain ⟨k0,k1⟩:=H1.c2;have lk:=H1.lt)
    replace EX:=EX.trans ha;replace H2:=H2.ext ha;replace gb2:=gb2.ext ha;clear ha ga2 NP;go_upto_region 4 with (go_at_call 187;refine zc (NQ _ gb2) ?_;rintro e wb ⟨rfl,hb⟩)
    replace EX:=EX.trans hb;replace H2:=H2.ext hb;clear hb gb2 NQ k0 k1 lk;obtain ⟨f0,f1,z0,z1,lz⟩:=Qb.e2 H2;have H3:=Qo H2 (.int .i64 (p : Int)) (.int .i64 (q : Int));have EF:=(EX.setCell (p:=⟨b2,0,none⟩) hb2' (.int .i64 (p : Int))).setCell (p:=⟨b2,1,none⟩) hb2' (.int .i64 (q : Int));obtain ⟨x0,x1⟩:=H3.c2;go_wp2;refine bodyPost_ret (v:=.tuple #[.agg #[.int .i64 (p : Int),.int .i64 (q : Int)],.int .i64 0]) (by simp [results,Tryz.results163,go_sem,x0,x1]) rfl ⟨rfl,EF⟩
   ·skip
    go_upto_region 3 with (go_at_call 187;refine zc (NP _ ga2) ?_;rintro e wa ⟨rfl,ha⟩;clear k0 k1 lk;replace H1:=H1.ext ha;obtain ⟨k0,k1⟩:=H1.c2;have lk:=H1.lt)
    replace EX:=EX.trans ha;replace H2:=H2.ext ha;replace gb2:=gb2.ext ha;clear ha ga2 NP;go_upto_region 4 with (go_at_call 187;refine zc (NQ _ gb2) ?_;rintro e wb ⟨rfl,hb⟩)
    replace EX:=EX.trans hb;replace H2:=H2.ext hb;clear hb gb2 NQ k0 k1 lk;obtain ⟨f0,f1,z0,z1,lz⟩:=Qb.e2 H2;have H3:=Qo H2 (.int .i64 (-(p : Int))) (.int .i64 (q : Int));have EF:=(EX.setCell (p:=⟨b2,0,none⟩) hb2' (.int .i64 (-(p : Int)))).setCell (p:=⟨b2,1,none⟩) hb2' (.int .i64 (q : Int));obtain ⟨x0,x1⟩:=H3.c2;go_wp2;refine bodyPost_ret (v:=.tuple #[.agg #[.int .i64 (-(p : Int)),.int .i64 (q : Int)],.int .i64 0]) (by simp [results,Tryz.results163,go_sem,x0,x1]) rfl ⟨rfl,EF⟩
  ·simp only [if_pos hp,zt hp] at NP;simp only [if_neg hq,zf hq] at NQ;have hd:=hdone.out;rw [if_neg (fun h => hq h.2)] at hd;obtain ⟨rfl,rfl⟩:=Prod.mk.inj hd;clear hd hdone HR;go_upto_region 3 with (go_at_call 187;refine zc (NP _ ga2) ?_;rintro e wa ⟨rfl,ha⟩;clear k0 k1 lk;replace H1:=H1.ext ha;obtain ⟨k0,k1⟩:=H1.c2;have lk:=H1.lt)
   replace EX:=EX.trans ha;replace H2:=H2.ext ha;replace gb2:=gb2.ext ha;clear ha ga2 NP;go_upto_region 4 with (go_at_call 187;refine zc (NQ _ gb2) ?_;rintro e wb ⟨rfl,hb⟩)
   replace EX:=EX.trans hb;replace H2:=H2.ext hb;clear hb gb2 NQ k0 k1 lk;obtain ⟨f0,f1,z0,z1,lz⟩:=Qb.e2 H2;have H3:=Qo H2 (.int .i64 0) (.int .i64 0);have EF:=(EX.setCell (p:=⟨b2,0,none⟩) hb2' (.int .i64 0)).setCell (p:=⟨b2,1,none⟩) hb2' (.int .i64 0);obtain ⟨x0,x1⟩:=H3.c2;go_wp2;refine bodyPost_ret (v:=.tuple #[.agg #[.int .i64 0,.int .i64 0],.int .i64 6]) (by simp [results,Tryz.results163,go_sem,x0,x1]) rfl ⟨rfl,EF⟩
 ·simp only [if_neg hp,zf hp] at NP;have hd:=hdone.out;rw [if_neg (fun h => hp h.1)] at hd;obtain ⟨rfl,rfl⟩:=Prod.mk.inj hd;clear hd hdone HR;generalize decide (q ≤ 1048576) = bq at *;generalize (if q ≤ 1048576 then q else 0) = q' at *;cases bq
  ·skip
   go_upto_region 3 with (go_at_call 187;refine zc (NP _ ga2) ?_;rintro e wa ⟨rfl,ha⟩;clear k0 k1 lk;replace H1:=H1.ext ha;obtain ⟨k0,k1⟩:=H1.c2;have lk:=H1.lt)
   replace EX:=EX.trans ha;replace H2:=H2.ext ha;replace gb2:=gb2.ext ha;clear ha ga2 NP;go_upto_region 4 with (go_at_call 187;refine zc (NQ _ gb2) ?_;rintro e wb ⟨rfl,hb⟩)
   replace EX:=EX.trans hb;replace H2:=H2.ext hb;clear hb gb2 NQ k0 k1 lk;obtain ⟨f0,f1,z0,z1,lz⟩:=Qb.e2 H2;have H3:=Qo H2 (.int .i64 0) (.int .i64 0);have EF:=(EX.setCell (p:=⟨b2,0,none⟩) hb2' (.int .i64 0)).setCell (p:=⟨b2,1,none⟩) hb2' (.int .i64 0);obtain ⟨x0,x1⟩:=H3.c2;go_wp2;refine bodyPost_ret (v:=.tuple #[.agg #[.int .i64 0,.int .i64 0],.int .i64 6]) (by simp [results,Tryz.results163,go_sem,x0,x1]) rfl ⟨rfl,EF⟩
  ·skip
   go_upto_region 3 with (go_at_call 187;refine zc (NP _ ga2) ?_;rintro e wa ⟨rfl,ha⟩;clear k0 k1 lk;replace H1:=H1.ext ha;obtain ⟨k0,k1⟩:=H1.c2;have lk:=H1.lt)
   replace EX:=EX.trans ha;replace H2:=H2.ext ha;replace gb2:=gb2.ext ha;clear ha ga2 NP;go_upto_region 4 with (go_at_call 187;refine zc (NQ _ gb2) ?_;rintro e wb ⟨rfl,hb⟩)
   replace EX:=EX.trans hb;replace H2:=H2.ext hb;clear hb gb2 NQ k0 k1 lk;obtain ⟨f0,f1,z0,z1,lz⟩:=Qb.e2 H2;have H3:=Qo H2 (.int .i64 0) (.int .i64 0);have EF:=(EX.setCell (p:=⟨b2,0,none⟩) hb2' (.int .i64 0)).setCell (p:=⟨b2,1,none⟩) hb2' (.int .i64 0);obtain ⟨x0,x1⟩:=H3.c2;go_wp2;refine bodyPost_ret (v:=.tuple #[.agg #[.int .i64 0,.int .i64 0],.int .i64 6]) (by simp [results,Tryz.results163,go_sem,x0,x1]) rfl ⟨rfl,EF⟩
end
end Go.Proofs.YtoflcheopfppoaaGreatDoor
