/- Walks and plain facts, packed; no conditions but those that each states. -/
import Derived.Test.YtoflcheopfppoaaGreatDoorK3
set_option maxRecDepth 100000
set_option maxHeartbeats 4000000
namespace Go.Proofs.YtoflcheopfppoaaGreatDoor
section
open Go Go.RowKit
section
variable {P : Program} {ops : Array Oper} {md : Region.Mode} {C : World → Prop} {R : Act → World → Prop} {zs : List Nat}
def Zy (P : Program) (md : Region.Mode) (ops : Array Oper) (C : World → Prop) (zs : List Nat) (R : Act → World → Prop) : Nat → Array Bool → Act → World → Prop
 | 0,L,a,w => Region.ready md ops L = [] ∧ R a w
 | f + 1,L,a,w => (Region.ready md ops L = [] → R a w) ∧ ∀ i ∈ Region.ready md ops L,wpOp P ops (Ja fun _ _ => False) i (fun a' w' => (i ∉ zs → C w') ∧ Zy P md ops C zs R f (L.setIfInBounds i true) a' w') a w
theorem Qew {R : Act → World → Prop} : ∀ (f : Nat) (L : Array Bool) (a : Act) (w : World),Zy P md ops C zs R f L a w → wpAny P md ops (Ja R) f L a w
 | 0,_,_,_,h => h
 | f + 1,_,_,_,h => ⟨h.1,fun i hi => wpOp_mono (fun a' w' h' => Qew f _ a' w' h'.2) (Qey (h.2 i hi))⟩
def Kb (md : Region.Mode) (ops : Array Oper) (L : Array Bool) : Prop:=∀ (j : Nat) (oj : Oper),ops[j]? = some oj → L.getD j false = true → ∀ e ∈ oj.after,Region.binds md e = true → L.getD e.on false = true
theorem Kb.set {L : Array Bool} (h : Kb md ops L) {i : Nat} (hi : i ∈ Region.ready md ops L) : Kb md ops (L.setIfInBounds i true):=fun j oj hj hl e he hb => by
 have up : ∀ k,L.getD k false = true → (L.setIfInBounds i true).getD k false = true:=fun k hk => by
  by_cases e1 : i = k
  ·subst e1;rcases Nat.lt_or_ge i L.size with h1 | h1
   ·simp [h1]
   ·simp [Array.getElem?_eq_none h1] at hk
  ·rw [getD_set_ne false e1];exact hk
 refine up _ ?_;obtain ⟨_,oi,hoi,hall⟩:=mem_ready.1 hi;by_cases e1 : i = j
 ·subst e1;have e2 : oj = oi:=Option.some.inj (hj.symm.trans hoi);subst e2;exact hall e he hb
 ·rw [getD_set_ne false e1] at hl;exact h j oj hj hl e he hb
def L3 (md : Region.Mode) (ops : Array Oper) : Nat → Nat → Nat → Bool
 | 0,_,_ => false
 | f + 1,j,i => match ops[j]? with | some oj => oj.after.any fun e => Region.binds md e && (e.on == i || L3 md ops f e.on i) | none => false
theorem Qen {L : Array Bool} (hc : Kb md ops L) {i : Nat} : ∀ (f j : Nat),L3 md ops f j i = true → L.getD j false = true → L.getD i false = true
 | 0,_,h,_ => by cases h
 | f + 1,j,h,hj => by
  unfold L3 at h
  split at h
  ·rename_i oj hoj
   obtain ⟨e,he,hb⟩:=Array.any_eq_true'.1 h;simp only [Bool.and_eq_true,Bool.or_eq_true,beq_iff_eq] at hb;have h1:=hc j oj hoj hj e he hb.1;rcases hb.2 with e1 | e1
   ·rw [← e1];exact h1
   ·exact Qen hc f e.on e1 h1
  ·cases h
theorem Qoq {L : Array Bool} (hc : Kb md ops L) {i j f : Nat} (h : L3 md ops f j i = true) (hi : L.getD i true = false) (hj : j ∈ Region.ready md ops L) : False:=by
 obtain ⟨_,oj,hoj,hall⟩:=mem_ready.1 hj
 cases f with
 | zero => cases h
 | succ f =>
  unfold L3 at h;rw [hoj] at h;obtain ⟨e,he,hb⟩:=Array.any_eq_true'.1 h;simp only [Bool.and_eq_true,Bool.or_eq_true,beq_iff_eq] at hb;have h1:=hall e he hb.1
  have h2 : L.getD i false = true:=by
   rcases hb.2 with e1 | e1
   ·rw [← e1];exact h1
   ·exact Qen hc f e.on e1 h1
  rw [getD_both hi] at h2;cases h2
theorem Qev {R : Act → World → Prop} {i : Nat} {oi : Oper} {v : Value} {f0 : Nat} (hi : ops[i]? = some oi) (hwz : ∀ j,j ∈ zs → L3 md ops f0 j i = true)
  (hsel : ∀ (j : Nat) (o : Oper) cs b,ops[j]? = some o → o.op ≠ .select cs b) :
  ∀ (f : Nat) (L : Array Bool) (a : Act) (w : World),Kb md ops L →
   (∀ j oj,ops[j]? = some oj → j ≠ i → L.getD j true = false → (∀ e ∈ oj.after,Region.binds md e = true → e.on ≠ i) → oi.apart ops oj = true) →
   i ∈ Region.ready md ops L → C w → Wz P ops C oi v a →
   Zy P md ops C zs R f (L.setIfInBounds i true) (a.put oi.dst v) w → Zy P md ops C zs R (f + 1) L a w:=by
 intro f
 induction f with
 | zero =>
  intro L a w hcl _ hr hw hy H;refine ⟨fun h => (by rw [h] at hr;cases hr),fun j hj => ?_⟩;by_cases hji : j = i
  ·subst hji;exact hy.wpOp hi hw ⟨fun _ => hw,H⟩
  ·have:=ready_mono hj hji;rw [H.1] at this
   cases this
 | succ f ih =>
  intro L a w hcl hfree hr hw hy H;refine ⟨fun h => (by rw [h] at hr;cases hr),fun j hj => ?_⟩;by_cases hji : j = i
  ·subst hji;exact hy.wpOp hi hw ⟨fun _ => hw,H⟩
  ·have h1:=H.2 j (ready_mono hj hji);obtain ⟨hjun,oj,hoj,hall⟩:=mem_ready.1 hj
   have hnot : ∀ e ∈ oj.after,Region.binds md e = true → e.on ≠ i:=fun e he hb heq => by
    have h1:=hall e he hb;rw [heq,getD_both (mem_ready.1 hr).1] at h1;cases h1
   have hjz : j ∉ zs:=fun hz => Qoq hcl (hwz j hz) (mem_ready.1 hr).1 hj
   have h2:=Ci (Q:=Ja fun _ _ => False) hoj (hfree j oj hoj hji hjun hnot) (fun cs b => hsel i oi cs b hi) (fun cs b => hsel j oj cs b hoj) hy h1
   have hfree' : ∀ k ok,ops[k]? = some ok → k ≠ i → (L.setIfInBounds j true).getD k true = false → (∀ e ∈ ok.after,Region.binds md e = true → e.on ≠ i) → oi.apart ops ok = true:=fun k ok hk hki hun hno => by
    refine hfree k ok hk hki ?_ hno;by_cases hjk : j = k
    ·subst hjk;exact hjun
    ·rw [getD_set_ne true hjk] at hun;exact hun
   refine wpOp_mono (fun a' w' h3 => ⟨h3.2.1,ih (L.setIfInBounds j true) a' w' (hcl.set hj) hfree' (ready_mono hr (Ne.symm hji)) (h3.2.1 hjz) h3.1 ?_⟩) h2;rw [Array.setIfInBounds_comm _ _ hji];exact h3.2.2
theorem Qou {R : Act → World → Prop} {i : Nat} {oi : Oper} {v : Value} (hi : ops[i]? = some oi) (hiz : i ∈ zs)
  (hsel : ∀ (j : Nat) (o : Oper) cs b,ops[j]? = some o → o.op ≠ .select cs b) :
  ∀ (f : Nat) (L : Array Bool) (a : Act) (w : World),
   (∀ j oj,ops[j]? = some oj → j ≠ i → L.getD j true = false → (∀ e ∈ oj.after,Region.binds md e = true → e.on ≠ i) → oi.apart ops oj = true) →
   i ∈ Region.ready md ops L → Wz P ops (fun _ => True) oi v a →
   Zy P md ops C zs R f (L.setIfInBounds i true) (a.put oi.dst v) w → Zy P md ops C zs R (f + 1) L a w:=by
 intro f
 induction f with
 | zero =>
  intro L a w _ hr hy H;refine ⟨fun h => (by rw [h] at hr;cases hr),fun j hj => ?_⟩;by_cases hji : j = i
  ·subst hji;exact hy.wpOp hi trivial ⟨fun h => absurd hiz h,H⟩
  ·have:=ready_mono hj hji;rw [H.1] at this
   cases this
 | succ f ih =>
  intro L a w hfree hr hy H;refine ⟨fun h => (by rw [h] at hr;cases hr),fun j hj => ?_⟩;by_cases hji : j = i
  ·subst hji;exact hy.wpOp hi trivial ⟨fun h => absurd hiz h,H⟩
  ·have h1:=H.2 j (ready_mono hj hji);obtain ⟨hjun,oj,hoj,hall⟩:=mem_ready.1 hj
   have hnot : ∀ e ∈ oj.after,Region.binds md e = true → e.on ≠ i:=fun e he hb heq => by
    have h1:=hall e he hb;rw [heq,getD_both (mem_ready.1 hr).1] at h1;cases h1
   have h2:=Ci (Q:=Ja fun _ _ => False) hoj (hfree j oj hoj hji hjun hnot) (fun cs b => hsel i oi cs b hi) (fun cs b => hsel j oj cs b hoj) hy h1
   have hfree' : ∀ k ok,ops[k]? = some ok → k ≠ i → (L.setIfInBounds j true).getD k true = false → (∀ e ∈ ok.after,Region.binds md e = true → e.on ≠ i) → oi.apart ops ok = true:=fun k ok hk hki hun hno => by
    refine hfree k ok hk hki ?_ hno;by_cases hjk : j = k
    ·subst hjk;exact hjun
    ·rw [getD_set_ne true hjk] at hun;exact hun
   refine wpOp_mono (fun a' w' h3 => ⟨h3.2.1,ih (L.setIfInBounds j true) a' w' hfree' (ready_mono hr (Ne.symm hji)) h3.1 ?_⟩) h2;rw [Array.setIfInBounds_comm _ _ hji];exact h3.2.2
def Gz (md : Region.Mode) (ops : Array Oper) (L : Array Bool) : Bool:=(List.range ops.size).all fun j => !(L.getD j false) || (match ops[j]? with | some o => o.after.all fun e => !Region.binds md e || L.getD e.on false | none => true)
theorem Em {L : Array Bool} (h : Gz md ops L = true) : Kb md ops L:=fun j oj hj hl e he hb => by
 have h1:=List.all_eq_true.1 h j (List.mem_range.2 (Array.getElem?_eq_some_iff.1 hj).1);rw [hl,hj] at h1;simp only [Bool.not_true,Bool.false_or] at h1;have h2:=Array.all_eq_true_iff_forall_mem.1 h1 e he;rw [hb,Bool.not_true,Bool.false_or] at h2;exact h2
def Lx (md : Region.Mode) (ops : Array Oper) (zs : List Nat) : List Nat → Array Bool → Bool
 | [],_ => true
 | k :: ks,L => (Region.ready md ops L).contains k && Region.free md ops L k && (zs.all fun z => L3 md ops ops.size z k) && Lx md ops zs ks (L.setIfInBounds k true)
theorem Aa {W : World} (hW : C W) {A : Act} {g : Nat} (hs : Region.noSelect ops = true) : ∀ (ks : List Nat) (l : List Oper) (L : Array Bool) (a : Act),l.map some = ks.map (fun k => ops[k]?) → Yo l = true → Xh a l = true → Kb md ops L →
  Lx md ops zs ks L = true → (∀ u,C u → wpQuiet P ops (fun w' => w' = u) (fun a' => a' = A) l a) → Zy P md ops C zs R g (U6 ks L) A W → Zy P md ops C zs R (l.length + g) L a W
 | [],[],L,a,_,_,_,_,_,h,H => by
  have e : a = A:=h W hW;subst e;rw [List.length_nil,Nat.zero_add]
  exact H
 | k :: ks,o :: l,L,a,hl,hd,hz,hcl,hB,h,H => by
  simp only [List.map_cons,List.cons.injEq] at hl;have h0 : ops[k]? = some o:=hl.1.symm;simp only [Lx,Bool.and_eq_true] at hB;obtain ⟨⟨⟨hr,hf⟩,hwz⟩,hB'⟩:=hB;have hzo:=hz;simp only [Xh,List.all_cons,Bool.and_eq_true] at hzo;obtain ⟨v,hy,hn⟩:=Bi hW hd (fun d he => by have:=hzo.1;rw [he] at this;simpa using this) h;have hd' : Yo l = true:=by simp only [Yo,Bool.and_eq_true] at hd;exact hd.2
  have hsz : (a.put o.dst v).tmps.size = a.tmps.size:=by cases o.dst <;> simp [Act.put]
  rw [show (o :: l).length + g = (l.length + g) + 1 by simp only [List.length_cons];omega]
  exact Qev h0 (fun j hj => List.all_eq_true.1 hwz j hj) (Region.noSelect_spec hs) _ L a W hcl (Region.free_spec h0 hf) (by simpa using hr) hW hy
   (Aa hW hs ks l _ _ hl.2 hd' (by unfold Xh;rw [hsz];exact hzo.2) (hcl.set (by simpa using hr)) hB' hn H)
 | [],_ :: _,_,_,hl,_,_,_,_,_,_ => by simp at hl
 | _ :: _,[],_,_,hl,_,_,_,_,_,_ => by simp at hl
theorem Qo9 {g f : Nat} {L : Array Bool} {a : Act} {w : World} (ks : List Nat) (l : List Oper) (hl : K6 ops ks l) (hB : (Region.noSelect ops && Yo l && Gz md ops L && Lx md ops zs ks L && decide (f = l.length + g)) = true) (hz : Xh a l = true) (hw : C w)
  (h : ∃ A,(∀ u,C u → wpQuiet P ops (fun w' => w' = u) (fun a' => a' = A) l a) ∧ Zy P md ops C zs R g (U6 ks L) A w) : Zy P md ops C zs R f L a w:=by
 obtain ⟨A,h1,h2⟩:=h;simp only [Bool.and_eq_true,decide_eq_true_eq] at hB;obtain ⟨⟨⟨⟨hs,hd⟩,hc⟩,hk⟩,rfl⟩:=hB;exact Aa hw hs ks l L a (Hx hl) hd hz (Em hc) hk h1 h2
def Hy (md : Region.Mode) (ops : Array Oper) (zs : List Nat) : List Nat → Array Bool → Bool
 | [],_ => true
 | k :: ks,L => (Region.ready md ops L).contains k && Region.free md ops L k && zs.contains k && Hy md ops zs ks (L.setIfInBounds k true)
theorem Cu {W : World} {A : Act} {g : Nat} (hs : Region.noSelect ops = true) : ∀ (ks : List Nat) (l : List Oper) (L : Array Bool) (a : Act),l.map some = ks.map (fun k => ops[k]?) → Yo l = true → Xh a l = true →
  Hy md ops zs ks L = true → (∀ u,True → wpQuiet P ops (fun w' => w' = u) (fun a' => a' = A) l a) → Zy P md ops C zs R g (U6 ks L) A W → Zy P md ops C zs R (l.length + g) L a W
 | [],[],L,a,_,_,_,_,h,H => by
  have e : a = A:=h W trivial;subst e;rw [List.length_nil,Nat.zero_add]
  exact H
 | k :: ks,o :: l,L,a,hl,hd,hz,hB,h,H => by
  simp only [List.map_cons,List.cons.injEq] at hl;have h0 : ops[k]? = some o:=hl.1.symm;simp only [Hy,Bool.and_eq_true] at hB;obtain ⟨⟨⟨hr,hf⟩,hkz⟩,hB'⟩:=hB;have hzo:=hz;simp only [Xh,List.all_cons,Bool.and_eq_true] at hzo;obtain ⟨v,hy,hn⟩:=Bi (C:=fun _ => True) (W:=W) trivial hd (fun d he => by have:=hzo.1;rw [he] at this;simpa using this) h;have hd' : Yo l = true:=by simp only [Yo,Bool.and_eq_true] at hd;exact hd.2
  have hsz : (a.put o.dst v).tmps.size = a.tmps.size:=by cases o.dst <;> simp [Act.put]
  rw [show (o :: l).length + g = (l.length + g) + 1 by simp only [List.length_cons];omega]
  exact Qou h0 (by simpa using hkz) (Region.noSelect_spec hs) _ L a W (Region.free_spec h0 hf) (by simpa using hr) hy
   (Cu hs ks l _ _ hl.2 hd' (by unfold Xh;rw [hsz];exact hzo.2) hB' hn H)
 | [],_ :: _,_,_,hl,_,_,_,_,_ => by simp at hl
 | _ :: _,[],_,_,hl,_,_,_,_,_ => by simp at hl
theorem Qo8 {g f : Nat} {L : Array Bool} {a : Act} {w : World} (ks : List Nat) (l : List Oper) (hl : K6 ops ks l) (hB : (Region.noSelect ops && Yo l && Hy md ops zs ks L && decide (f = l.length + g)) = true) (hz : Xh a l = true)
  (h : ∃ A,(∀ u,True → wpQuiet P ops (fun w' => w' = u) (fun a' => a' = A) l a) ∧ Zy P md ops C zs R g (U6 ks L) A w) : Zy P md ops C zs R f L a w:=by
 obtain ⟨A,h1,h2⟩:=h;simp only [Bool.and_eq_true,decide_eq_true_eq] at hB;obtain ⟨⟨⟨hs,hd⟩,hk⟩,rfl⟩:=hB;exact Cu hs ks l L a (Hx hl) hd hz hk h1 h2
theorem z_one {f : Nat} {L : Array Bool} {a : Act} {w : World} {o : Oper} (k : Nat) (ho : ops[k]? = some o) (hB : decide (Region.ready md ops L = [k]) = true)
  (h : wpList P ops (Ja fun a' w' => C w' ∧ Zy P md ops C zs R f (L.setIfInBounds k true) a' w') [o] a w) : Zy P md ops C zs R (f + 1) L a w:=by
 have hB:=of_decide_eq_true hB;refine ⟨fun h => (by rw [hB] at h;cases h),fun j hj => ?_⟩;rw [hB,List.mem_singleton] at hj;subst hj;refine wpOp_mono (fun a' w' h' => ⟨fun _ => h'.1,h'.2⟩) (Wi (Ww ho h))
theorem Vt {f : Nat} {L : Array Bool} {a : Act} {w : World} {o1 o2 : Oper} (k1 k2 : Nat) (h1 : ops[k1]? = some o1) (h2 : ops[k2]? = some o2) (hB : decide (Region.ready md ops L = [k1,k2]) = true)
  (ha : wpList P ops (Ja fun a' w' => C w' ∧ Zy P md ops C zs R f (L.setIfInBounds k1 true) a' w') [o1] a w)
  (hb : wpList P ops (Ja fun a' w' => C w' ∧ Zy P md ops C zs R f (L.setIfInBounds k2 true) a' w') [o2] a w) : Zy P md ops C zs R (f + 1) L a w:=by
 have hB:=of_decide_eq_true hB;refine ⟨fun h => (by rw [hB] at h;cases h),fun j hj => ?_⟩;rw [hB] at hj;rcases List.mem_cons.1 hj with rfl | hj
 ·exact wpOp_mono (fun a' w' h' => ⟨fun _ => h'.1,h'.2⟩) (Wi (Ww h1 ha))
 ·rw [List.mem_singleton] at hj;subst hj;exact wpOp_mono (fun a' w' h' => ⟨fun _ => h'.1,h'.2⟩) (Wi (Ww h2 hb))
theorem Tl {f : Nat} {L : Array Bool} {a : Act} {w : World} {o1 o2 o3 : Oper} (k1 k2 k3 : Nat) (h1 : ops[k1]? = some o1) (h2 : ops[k2]? = some o2) (h3 : ops[k3]? = some o3) (hB : decide (Region.ready md ops L = [k1,k2,k3]) = true)
  (ha : wpList P ops (Ja fun a' w' => C w' ∧ Zy P md ops C zs R f (L.setIfInBounds k1 true) a' w') [o1] a w)
  (hb : wpList P ops (Ja fun a' w' => C w' ∧ Zy P md ops C zs R f (L.setIfInBounds k2 true) a' w') [o2] a w)
  (hc : wpList P ops (Ja fun a' w' => C w' ∧ Zy P md ops C zs R f (L.setIfInBounds k3 true) a' w') [o3] a w) : Zy P md ops C zs R (f + 1) L a w:=by
 have hB:=of_decide_eq_true hB;refine ⟨fun h => (by rw [hB] at h;cases h),fun j hj => ?_⟩;rw [hB] at hj;rcases List.mem_cons.1 hj with rfl | hj
 ·exact wpOp_mono (fun a' w' h' => ⟨fun _ => h'.1,h'.2⟩) (Wi (Ww h1 ha))
 ·rcases List.mem_cons.1 hj with rfl | hj
  ·exact wpOp_mono (fun a' w' h' => ⟨fun _ => h'.1,h'.2⟩) (Wi (Ww h2 hb))
  ·rw [List.mem_singleton] at hj;subst hj;exact wpOp_mono (fun a' w' h' => ⟨fun _ => h'.1,h'.2⟩) (Wi (Ww h3 hc))
theorem z_end {f : Nat} {L : Array Bool} {a : Act} {w : World} {o : Oper} (k : Nat) (ho : ops[k]? = some o) (hB : (zs.contains k && decide (Region.ready md ops L = [k])) = true)
  (h : wpList P ops (Ja fun a' w' => Zy P md ops C zs R f (L.setIfInBounds k true) a' w') [o] a w) : Zy P md ops C zs R (f + 1) L a w:=by
 simp only [Bool.and_eq_true,decide_eq_true_eq] at hB;refine ⟨fun h => (by rw [hB.2] at h;cases h),fun j hj => ?_⟩;rw [hB.2,List.mem_singleton] at hj;subst hj;exact wpOp_mono (fun a' w' h' => ⟨fun h => absurd (by simpa using hB.1) h,h'⟩) (Wi (Ww ho h))
theorem z_done {L : Array Bool} {a : Act} {w : World} (hB : decide (Region.ready md ops L = []) = true) (h : R a w) : Zy P md ops C zs R 0 L a w:=⟨of_decide_eq_true hB,h⟩
end
theorem Zc {P : Program} {id : Nat} {Q : Exit → Act → World → Prop} {a : Act} {w : World} {l : List Oper} (n : Nat) (zs : List Nat) (C : World → Prop) (hm : P.follows .mixedOrders = true) (hn : n = l.length)
  (h : ∀ w',Qc w w' → Zy P .any l.toArray C zs (fun a w => Q .normal a w) n (Array.replicate n false) a w') : (Code.region id l.toArray true).wp P Q a w:=by
 have H:=h { w with drawn:=w.drawn + 1 } ⟨rfl,rfl,rfl,Nat.le_refl _,fun _ _ => rfl⟩;refine Code.wp_mono (Q:=Ja fun a w => Q .normal a w) (fun e a' w' h' => by cases e <;> first | exact h' | exact False.elim h') (wp_region_any hm (Qew (C:=C) (zs:=zs) _ _ _ _ ?_));subst hn
 simpa using H
theorem Qq {S : Act → World → Prop} {a : Act} {w : World} (h : S a w) : Ja (fun a' w' => S a' w') .normal a w:=h
def Hw (l : List Oper) : List Nat → Option (List Oper)
 | [] => some []
 | k :: ks => match l[k]?,Hw l ks with
  | some o,some os => some (o :: os)
  | _,_ => none
section
variable {P : Program} {md : Region.Mode} {l : List Oper} {C : World → Prop} {zs : List Nat} {R : Act → World → Prop} {f g : Nat} {L : Array Bool} {a : Act} {w : World} {o o1 o2 o3 : Oper} {os : List Oper}
theorem Dk : ∀ (ks : List Nat) (os : List Oper),Hw l ks = some os → K6 l.toArray ks os
 | [],os,h => by cases h;trivial
 | k :: ks,os,h => by
  unfold Hw at h
  split at h
  ·rename_i o os' h1 h2
   cases h
   exact ⟨by simpa using h1,Dk ks _ h2⟩
  ·cases h
theorem Qs (ks : List Nat) (hw : C w) (h : ∃ A,(∀ u,C u → wpQuiet P l.toArray (fun w' => w' = u) (fun a' => a' = A) os a) ∧ Zy P md l.toArray C zs R g (U6 ks L) A w)
  (hh : Hw l ks = some os ∧ (Region.noSelect l.toArray && Yo os && Gz md l.toArray L && Lx md l.toArray zs ks L && decide (f = os.length + g)) = true ∧ Xh a os = true:=by exact ⟨rfl,by kernel_rfl,by kernel_rfl⟩) : Zy P md l.toArray C zs R f L a w :=
 Qo9 ks os (Dk ks os hh.1) hh.2.1 hh.2.2 hw h
theorem Yg (ks : List Nat) (h : ∃ A,(∀ u,True → wpQuiet P l.toArray (fun w' => w' = u) (fun a' => a' = A) os a) ∧ Zy P md l.toArray C zs R g (U6 ks L) A w)
  (hh : Hw l ks = some os ∧ (Region.noSelect l.toArray && Yo os && Hy md l.toArray zs ks L && decide (f = os.length + g)) = true ∧ Xh a os = true:=by exact ⟨rfl,by kernel_rfl,by kernel_rfl⟩) : Zy P md l.toArray C zs R f L a w :=
 Qo8 ks os (Dk ks os hh.1) hh.2.1 hh.2.2 h
theorem Qj (k : Nat) (h : wpList P l.toArray (Ja fun a' w' => C w' ∧ Zy P md l.toArray C zs R f (L.setIfInBounds k true) a' w') [o] a w)
  (hh : l[k]? = some o ∧ decide (Region.ready md l.toArray L = [k]) = true:=by exact ⟨rfl,by kernel_rfl⟩) : Zy P md l.toArray C zs R (f + 1) L a w:=z_one k (by simpa using hh.1) hh.2 h
theorem Qr (k : Nat) (h : wpList P l.toArray (Ja fun a' w' => Zy P md l.toArray C zs R f (L.setIfInBounds k true) a' w') [o] a w)
  (hh : l[k]? = some o ∧ (zs.contains k && decide (Region.ready md l.toArray L = [k])) = true:=by exact ⟨rfl,by kernel_rfl⟩) : Zy P md l.toArray C zs R (f + 1) L a w:=z_end k (by simpa using hh.1) hh.2 h
theorem Zq (k1 k2 : Nat) (ha : wpList P l.toArray (Ja fun a' w' => C w' ∧ Zy P md l.toArray C zs R f (L.setIfInBounds k1 true) a' w') [o1] a w) (hb : wpList P l.toArray (Ja fun a' w' => C w' ∧ Zy P md l.toArray C zs R f (L.setIfInBounds k2 true) a' w') [o2] a w)
  (hh : l[k1]? = some o1 ∧ l[k2]? = some o2 ∧ decide (Region.ready md l.toArray L = [k1,k2]) = true:=by exact ⟨rfl,rfl,by kernel_rfl⟩) : Zy P md l.toArray C zs R (f + 1) L a w:=Vt k1 k2 (by simpa using hh.1) (by simpa using hh.2.1) hh.2.2 ha hb
theorem Um (k1 k2 k3 : Nat) (ha : wpList P l.toArray (Ja fun a' w' => C w' ∧ Zy P md l.toArray C zs R f (L.setIfInBounds k1 true) a' w') [o1] a w) (hb : wpList P l.toArray (Ja fun a' w' => C w' ∧ Zy P md l.toArray C zs R f (L.setIfInBounds k2 true) a' w') [o2] a w) (hc : wpList P l.toArray (Ja fun a' w' => C w' ∧ Zy P md l.toArray C zs R f (L.setIfInBounds k3 true) a' w') [o3] a w)
  (hh : l[k1]? = some o1 ∧ l[k2]? = some o2 ∧ l[k3]? = some o3 ∧ decide (Region.ready md l.toArray L = [k1,k2,k3]) = true:=by exact ⟨rfl,rfl,rfl,by kernel_rfl⟩) : Zy P md l.toArray C zs R (f + 1) L a w:=Tl k1 k2 k3 (by simpa using hh.1) (by simpa using hh.2.1) (by simpa using hh.2.2.1) hh.2.2.2 ha hb hc
theorem Qx (h : R a w) (hB : decide (Region.ready md l.toArray L = []) = true:=by kernel_rfl) : Zy P md l.toArray C zs R 0 L a w:=z_done hB h
end
end
section
open Go Go.RowKit Go.Shelf
attribute [local go_sem] Z8
def Jc (w : World) : Prop:=w.cell? ⟨0,0,none⟩ = some (.int .i64 0) ∧ w.cell? ⟨0,1,none⟩ = some (.int .i64 1) ∧ 0 < w.heap.size
theorem Jc.ext {w w' : World} (h : Jc w) (e : Qc w w') : Jc w':=⟨(e.cell (p:=⟨0,0,none⟩) h.2.2).trans h.1,(e.cell (p:=⟨0,1,none⟩) h.2.2).trans h.2.1,Nat.lt_of_lt_of_le h.2.2 e.size⟩
def Xx (f : Nat → Rt) (i : Nat) : List Value:=[.int .i64 (f i).n,.int .i64 (f i).d]
theorem Qef (g : Nat → Nat) (k : Nat) : Z2 (Zk g) k ++ [.int .u64 (g k : Int)] = Z2 (Zk g) (k + 1):=by rw [Lh];rfl
theorem Qi4 {W : World} {b : Nat} {t : TypeId} {v0 v1 : Value} (h : Qb W b t #[v0,v1]) (u : Value) : Qb (W.setCell ⟨b,0,none⟩ u) b t #[u,v1]:=by unfold Qb at h ⊢;simp [World.setCell,Array.getElem?_modify,h]
theorem Qi5 {W : World} {b : Nat} {t : TypeId} {v0 v1 : Value} (h : Qb W b t #[v0,v1]) (u : Value) : Qb (W.setCell ⟨b,1,none⟩ u) b t #[v0,u]:=by unfold Qb at h ⊢;simp [World.setCell,Array.getElem?_modify,h]
def K2 (p q : Value) : Prop:=∀ x y,p.ownBlock = some x → q.ownBlock = some y → x ≠ y
theorem Qfg {p q : Value} (h : K2 p q) : q.ownBlock = none ∨ q.ownBlock ≠ p.ownBlock:=by
 cases e : q.ownBlock with
 | none => exact .inl rfl
 | some y => exact .inr (fun h' => h y y h'.symm e rfl)
theorem Qfh {p q : Value} (h : K2 p q) : p.ownBlock = none ∨ p.ownBlock ≠ q.ownBlock:=by
 cases e : p.ownBlock with
 | none => exact .inl rfl
 | some y => exact .inr (fun h' => h y y e h'.symm rfl)
theorem Qfe {p q p' : Value} {w : World} {base size n : Nat} {e : TypeId} {xs : List Value} (h : K2 p q) (hloc : p'.ownBlock = p.ownBlock ∨ p'.ownBlock = some w.heap.size) (hq : w.ownsRow base e size q n xs) : K2 p' q:=fun x y hx hy => by
 rcases hloc with e | e
 ·exact h x y (e.symm.trans hx) hy
 ·rw [e] at hx;cases hx;have:=(hq.lt y hy).2;omega
theorem Qff {p q p' : Value} {w : World} {base size n : Nat} {e : TypeId} {xs : List Value} (h : K2 q p) (hloc : p'.ownBlock = p.ownBlock ∨ p'.ownBlock = some w.heap.size) (hq : w.ownsRow base e size q n xs) : K2 q p':=fun x y hx hy => by
 rcases hloc with e | e
 ·exact h x y hx (e.symm.trans hy)
 ·rw [e] at hy;cases hy;have:=(hq.lt x hx).2;omega
set_option maxHeartbeats 8000000 in
theorem Qk1 (A : OA) (n ca : Nat) (f : Nat → Rt) (w : World) (hA : Qm w A n 2 (Xx f)) (hn : n ≤ 1000) (hok : ∀ i,i < n → (f i).ok = true) (hZ : Jc w) :
  Calls Tryz.prog 122 #[.slice A n ca] w fun e w' => e = .returned (.tuple #[.agg #[.int .i64 (U0 f n).1.n,.int .i64 (U0 f n).1.d],.int .i64 (U0 f n).2]) ∧ Qc w w':=by
 obtain ⟨i0,hi,hz0,hz1,hz2⟩:=info_parts Ps;obtain ⟨R,hR0⟩:=Qe (U0 f n);rw [← hR0];have HR:=zh hR0;clear hR0
 go_enter Tryz.func122,Tryz.ntmps122
 go_upto_region 1 with fail
 obtain ⟨v0,hv⟩:=Qe (w.alloc (.cells #[.int .i64 0,.int .i64 0] 65));rw [← hv];have E : Qc w v0:=by rw [hv];exact (Qc.refl _).alloc _
 have B1 : Qb v0 w.heap.size 65 #[.int .i64 0,.int .i64 0]:=by rw [hv];exact Qb.new _ _ _
 clear hv;have RA:=hA.ext E;have Z0:=hZ.ext E;clear hA hZ;obtain ⟨b1,hb1⟩:=Qe (w.heap.size);rw [← hb1] at B1 ⊢;have hb1':=Nat.le_of_eq hb1.symm;clear hb1;go_upto_region 4 with fail
 obtain ⟨v,hv⟩:=Qe (v0.alloc (.cells #[.slice none 0 0,.slice none 0 0] 252));rw [← hv];have E0 : Qc v0 v:=by rw [hv];exact (Qc.refl _).alloc _
 have B2 : Qb v v0.heap.size 252 #[.slice none 0 0,.slice none 0 0]:=by rw [hv];exact Qb.new _ _ _
 clear hv;obtain ⟨b2,hb2⟩:=Qe (v0.heap.size);rw [← hb2] at B2 ⊢;have hb2':=Nat.le_of_eq hb2.symm;have l12 : b1 < b2:=by have:=B1.lt;omega
 clear hb2
 go_loopw [5,10] (fun ng iv wr => ∃ k : Nat,k ≤ n ∧ iv = .int .i64 k ∧ ng = .bool (Hg f k) ∧ Hid (∀ i,i < k → (f i).n ≠ 0) ∧ ∃ vu vd,Qc v0 wr ∧ Qb wr b2 252 #[vu,vd] ∧ wr.ownsRow (b2 + 1) 245 1 vu k (Z2 (Zk fun i => (f i).n.natAbs) k) ∧ wr.ownsRow (b2 + 1) 245 1 vd k (Z2 (Zk fun i => (f i).d.natAbs) k) ∧ K2 vu vd) (fun _ iv _ => n - (intOf iv).toNat)
 case atStart => exact ⟨0,Nat.zero_le _,rfl,rfl,(fun i h => absurd h Qa),_,_,E0,B2,World.ownsRow_nil _ _ _ _,World.ownsRow_nil _ _ _ _,fun x y h _ => by cases h⟩
 case round =>
  obtain ⟨k,hk,rfl,rfl,hnz,vu,vd,hE,HB,hU,hD,hap⟩:=hrel;obtain ⟨wo,rfl⟩:=Qe wr;clear E0 B2;by_cases hlt : k < n
  ·have hokk:=hok k hlt;obtain ⟨d1,d2,n1,n2,_⟩:=Yl hokk;have Nn:=fun w => Vm (f k).n Qa Qa w
   have Nd:=fun w => Vm (f k).d Qa Qa w
   obtain ⟨b,off,rfl,hb,hc⟩:=(RA.ext hE) Qa;have c0 : wo.cell? ⟨b,off + k * 2,none⟩ = some (.int .i64 (f k).n):=by simpa [Xx] using hc k 0 _ hlt rfl
   have c1 : wo.cell? ⟨b,off + k * 2 + 1,none⟩ = some (.int .i64 (f k).d):=by simpa [Xx] using hc k 1 _ hlt rfl
   clear hc;go_upto_region 6 with fail
   obtain ⟨v3,hv⟩:=Qe (wo.alloc (.cells #[.int .i64 (f k).n,.int .i64 (f k).d] 65));rw [← hv];have E3 : Qc wo v3:=by rw [hv];exact (Qc.refl _).alloc _
   have H3 : Qb v3 wo.heap.size 65 #[.int .i64 (f k).n,.int .i64 (f k).d]:=by rw [hv];exact Qb.new _ _ _
   clear hv c0 c1;obtain ⟨b3,hb3⟩:=Qe (wo.heap.size);rw [← hb3] at H3 ⊢;have hb32 : b3 ≠ b2:=by have:=HB.lt;omega
   clear hb3;replace hE:=hE.trans E3;replace HB:=HB.ext E3;replace hU:=Jf hU E3;replace hD:=Jf hD E3;clear E3;obtain ⟨q0,q1,lq⟩:=Qb.d2 H3;by_cases h0 : (f k).n = 0
   ·have hz : Hid (R = (⟨0,1⟩,0)):=by
     unfold Hid;rw [HR.out];unfold U0;rw [(Qej (f:=fun i => (f i).n.natAbs) n).2 ⟨k,hlt,by simp only [h0];rfl⟩];exact Dq (Nr n fun i hi => by have:=(Yl (hok i hi)).1;omega)
    have B1v:=B1.ext hE;obtain ⟨z0,z1,lz⟩:=Z0.ext hE;obtain ⟨f0,f1,x0,x1,lx⟩:=Qb.e2 B1v;have EF:=((E.trans hE).setCell (p:=⟨b1,0,none⟩) hb1' (.int .i64 0)).setCell (p:=⟨b1,1,none⟩) hb1' (.int .i64 1);have H4:=Qo B1v (.int .i64 0) (.int .i64 1);obtain ⟨y0,y1⟩:=H4.c2;rw [h0] at q0;have hzo:=hz.out;clear h0 hz HR hU hD HB hap hnz Nn Nd;subst hzo;go_wp2;refine bodyPost_ret (v:=.tuple #[.agg #[.int .i64 0,.int .i64 1],.int .i64 0]) Zf rfl ⟨rfl,EF⟩
   ·have h0b : ((f k).n == 0) = false:=zb h0;go_upto_region 8 with fail
    clear q0 q1 lq;refine Zc 9 [8] (fun x => Qc v0 x ∧ Qb x b2 252 #[vu,vd] ∧ Qb x b3 65 #[.int .i64 (f k).n,.int .i64 (f k).d]) mixed rfl ?_;intro vz hvz;replace hE:=hE.trans hvz;replace HB:=HB.ext hvz;replace H3:=H3.ext hvz;replace hU:=Jf hU hvz;replace hD:=Jf hD hvz;clear hvz;refine Qs (g:=5) [0,1,2,3] ⟨hE,HB,H3⟩ ?_
    constructor
    refine ⟨fun u hu => ?_,?_⟩
    ·obtain ⟨k0,k1⟩:=hu.2.1.c2;obtain ⟨q0,q1⟩:=hu.2.2.c2;have lk:=hu.2.1.lt;have lq:=hu.2.2.lt;exact Qk
    refine Qj 4 ?_;go_wp2_with (go_at_call 162;refine zc (Nn _) ?_;rintro e va ⟨rfl,h4⟩);replace hE:=hE.trans h4;replace HB:=HB.ext h4;replace H3:=H3.ext h4;replace hU:=Jf hU h4;replace hD:=Jf hD h4;clear h4;refine Qf ⟨hE,HB,H3⟩ ?_;refine Qj 5 ?_;go_wp2;refine Qf ⟨hE.alloc _,HB.alloc _,H3.alloc _⟩ ?_;refine Qj 6 ?_;go_wp2_with (at_builtin;refine wpList_append_own_at _ rfl _ _ 250 rfl (b2 + 1) 245 i0 (.int .u64 0) 1 8 Tryz.underlying250 hi hz0 hz1 hz2 rfl zD _ _ _ rfl (hU.alloc _) ⟨va.heap.size,0,none⟩ 1 1 [.int .u64 ((f k).n.natAbs : Int)] rfl rfl (W4 _ _ _) (by simp [Value.oneCell']) (by unfold maxLen;omega) Qa (by have:=HB.lt;simp;omega) ?_;intro vu' vb hown hgrow hnl hloc;clear hnl)
    have hEb : Qc v0 vb:=(hE.alloc _).grown hgrow (fun q hq => by have:=(hU.lt q hq).1;omega);have HBb:=Qb.kept (HB.alloc _) hgrow (HB.not_row zD hU);have H3b:=Qb.kept (H3.alloc _) hgrow (H3.not_row zD hU);have hOb:=World.ownsRow.kept (hD.alloc _) hgrow (Qfg hap);rw [Qef (fun i => (f i).n.natAbs) k] at hown;have hap2:=Qfe hap hloc (hD.alloc _);clear hgrow hloc hap hU hD hE HB H3 ;obtain ⟨fa,ma,rfl⟩:=Jn hown;refine Qf ⟨hEb,HBb,H3b⟩ ?_;refine Qs (g:=1) [7] ⟨hEb,HBb,H3b⟩ ?_
    constructor
    refine ⟨fun u hu => ?_,?_⟩
    ·have lk:=hu.2.1.lt;exact Qk
    refine Qr 8 ?_;have f0:=HBb.frozen 0;obtain ⟨z0,z1,lz⟩:=Qb.d2 HBb;have HB:=Qi4 HBb (.slice fa (k + 1) ma);have H3:=Qg H3b hb32 0 (.slice fa (k + 1) ma);have hU:=ownsRow_setCell_below hown (a:=⟨b2,0,none⟩) (Nat.lt_succ_self b2) (.slice fa (k + 1) ma);have hD:=ownsRow_setCell_below hOb (a:=⟨b2,0,none⟩) (Nat.lt_succ_self b2) (.slice fa (k + 1) ma);have hE:=hEb.setCell (p:=⟨b2,0,none⟩) hb2' (.slice fa (k + 1) ma);have hap:=hap2;go_wp2;refine Qq ?_;refine Qx ?_;generalize World.setCell vb _ _ = vc at *;generalize va.heap.size = szv0 at *;clear f0 z0 z1 lz HBb H3b hown hOb hEb hap2 va;go_upto_region 9 with fail
    refine Zc 9 [8] (fun x => Qc v0 x ∧ Qb x b2 252 #[.slice fa (k + 1) ma,vd] ∧ Qb x b3 65 #[.int .i64 (f k).n,.int .i64 (f k).d]) mixed rfl ?_;intro vz hvz;replace hE:=hE.trans hvz;replace HB:=HB.ext hvz;replace H3:=H3.ext hvz;replace hU:=Jf hU hvz;replace hD:=Jf hD hvz;clear hvz;refine Qs (g:=5) [0,1,2,3] ⟨hE,HB,H3⟩ ?_
    constructor
    refine ⟨fun u hu => ?_,?_⟩
    ·obtain ⟨k0,k1⟩:=hu.2.1.c2;obtain ⟨q0,q1⟩:=hu.2.2.c2;have lk:=hu.2.1.lt;have lq:=hu.2.2.lt;exact Qk
    refine Qj 4 ?_;go_wp2_with (go_at_call 162;refine zc (Nd _) ?_;rintro e va ⟨rfl,h4⟩);replace hE:=hE.trans h4;replace HB:=HB.ext h4;replace H3:=H3.ext h4;replace hU:=Jf hU h4;replace hD:=Jf hD h4;clear h4;refine Qf ⟨hE,HB,H3⟩ ?_;refine Qj 5 ?_;go_wp2;refine Qf ⟨hE.alloc _,HB.alloc _,H3.alloc _⟩ ?_;refine Qj 6 ?_;go_wp2_with (at_builtin;refine wpList_append_own_at _ rfl _ _ 250 rfl (b2 + 1) 245 i0 (.int .u64 0) 1 8 Tryz.underlying250 hi hz0 hz1 hz2 rfl zD _ _ _ rfl (hD.alloc _) ⟨va.heap.size,0,none⟩ 1 1 [.int .u64 ((f k).d.natAbs : Int)] rfl rfl (W4 _ _ _) (by simp [Value.oneCell']) (by unfold maxLen;omega) Qa (by have:=HB.lt;simp;omega) ?_;intro vd' vb hown hgrow hnl hloc;clear hnl)
    have hEb : Qc v0 vb:=(hE.alloc _).grown hgrow (fun q hq => by have:=(hD.lt q hq).1;omega);have HBb:=Qb.kept (HB.alloc _) hgrow (HB.not_row zD hD);have H3b:=Qb.kept (H3.alloc _) hgrow (H3.not_row zD hD);have hOb:=World.ownsRow.kept (hU.alloc _) hgrow (Qfh hap);rw [Qef (fun i => (f i).d.natAbs) k] at hown;have hap2:=Qff hap hloc (hU.alloc _);clear hgrow hloc hap hU hD hE HB H3 ;obtain ⟨fb,mb,rfl⟩:=Jn hown;refine Qf ⟨hEb,HBb,H3b⟩ ?_;refine Qs (g:=1) [7] ⟨hEb,HBb,H3b⟩ ?_
    constructor
    refine ⟨fun u hu => ?_,?_⟩
    ·have lk:=hu.2.1.lt;exact Qk
    refine Qr 8 ?_;have f0:=HBb.frozen 1;obtain ⟨z0,z1,lz⟩:=Qb.d2 HBb;have HB:=Qi5 HBb (.slice fb (k + 1) mb);have H3:=Qg H3b hb32 1 (.slice fb (k + 1) mb);have hD:=ownsRow_setCell_below hown (a:=⟨b2,1,none⟩) (Nat.lt_succ_self b2) (.slice fb (k + 1) mb);have hU:=ownsRow_setCell_below hOb (a:=⟨b2,1,none⟩) (Nat.lt_succ_self b2) (.slice fb (k + 1) mb);have hE:=hEb.setCell (p:=⟨b2,1,none⟩) hb2' (.slice fb (k + 1) mb);have hap:=hap2;go_wp2;refine Qq ?_;refine Qx ?_;generalize World.setCell vb _ _ = vc at *;generalize va.heap.size = szv1 at *;clear f0 z0 z1 lz HBb H3b hown hOb hEb hap2 va;obtain ⟨q0,q1,lq⟩:=Qb.d2 H3
    have hnz' : Hid (∀ i,i < k + 1 → (f i).n ≠ 0):=fun i hi => by
     by_cases e : i = k
     ·subst e;exact h0
     ·exact hnz.out i Qa
    clear hnz h0 h0b HR RA Z0 hok;go_wp2;exact ⟨⟨k + 1,Qa,by go_num,rfl,hnz',_,_,hE,HB,hU,hD,hap⟩,zi⟩
  ·obtain rfl : k = n := Qa;obtain ⟨F1, c1, rfl⟩ := Jn hU;obtain ⟨F2, c2, rfl⟩ := Jn hD;obtain ⟨F3, c3, hf1, ra, hc1, hc1', hn1, _⟩ := Vz (f := Zk fun i => (f i).n.natAbs) (sz := 1) (fun _ => rfl) hU;obtain ⟨F4, c4, hf2, rb, hc2, hc2', hn2, _⟩ := Vz (f := Zk fun i => (f i).d.natAbs) (sz := 1) (fun _ => rfl) hD;obtain ⟨rfl, rfl⟩ : F1 = F3 ∧ c1 = c3 := by simpa using hf1
   obtain ⟨rfl,rfl⟩ : F2 = F4 ∧ c2 = c4:=by simpa using hf2
   have NR:=fun w h1 h2 => Dr F1 F2 k k c1 c2 (fun i => (f i).n.natAbs) (fun i => (f i).d.natAbs) (Hg f k) w h1 h2 hn1 hn2 hn hn (fun i hi => by have:=hnz.out i hi;omega) (fun i hi => by have:=Yl (hok i hi);omega) (fun i hi => by have:=Yl (hok i hi);omega) (fun i hi => by have:=Yl (hok i hi);omega)
   rw [show J2 (Hg f k) (upTo (fun i => (f i).n.natAbs) k) (upTo (fun i => (f i).d.natAbs) k) = R from HR.out.symm] at NR;obtain ⟨k0,k1,lk⟩:=Qb.d2 HB;clear hf1 hf2 hc1 hc2 hc1' hc2' hn1 hn2 hnz hok HR hU hD hap RA Z0;obtain ⟨⟨Rn,Rd⟩,Re⟩:=R;go_wp2_with (go_at_call 163;refine zc (NR _ ra rb) ?_;rintro e w2 ⟨rfl,h2⟩;have B3:=B1.ext (hE.trans h2);have f0:=B3.frozen 0;have f1:=B3.frozen 1;obtain ⟨x0,x1⟩:=B3.c2;have lx:=B3.lt);have H4:=Qo B3 (.int .i64 Rn) (.int .i64 Rd);have EF:=(((E.trans hE).trans h2).setCell (p:=⟨b1,0,none⟩) hb1' (.int .i64 Rn)).setCell (p:=⟨b1,1,none⟩) hb1' (.int .i64 Rd);obtain ⟨y0,y1⟩:=H4.c2;go_wp2;refine bodyPost_ret (v:=.tuple #[.agg #[.int .i64 Rn,.int .i64 Rd],.int .i64 Re]) Zf rfl ⟨rfl,EF⟩
def Rt.In (r : Rt) : Prop:=-9223372036854775808 ≤ r.n ∧ r.n ≤ 9223372036854775807 ∧ -9223372036854775808 ≤ r.d ∧ r.d ≤ 9223372036854775807
theorem Qcl {r : Rt} (h : r.ok = true) : r.In:=by have:=Yl h;unfold Rt.In;omega
theorem Lu {w : World} {b n sz : Nat} {t : TypeId} {f : Nat → List Value} (hf : ∀ i,(f i).length = sz) (h : Qb w b t (Z2 f n).toArray) : Qm w (some ⟨b,0,none⟩) n sz f:=fun _ => by
 refine ⟨b,0,rfl,h.lt,fun i j v hi hv => ?_⟩;have hj : j < sz:=by have:=(List.getElem?_eq_some_iff.1 hv).1;rwa [hf] at this
 rw [show (0 : Nat) + i * sz + j = i * sz + j by omega,h.cell,List.getElem?_toArray,Kl hf hi hj,hv]
theorem Rb (A : OA) (n ca : Nat) (f : Nat → Rt) (w : World) (hA : Qm w A n 2 (Xx f)) (hn : n ≤ 9223372036854775807) (hin : ∀ i,i < n → (f i).In) :
  Calls Tryz.prog 70 #[.slice A n ca] w fun e w' => e = .returned (.bool ((List.range n).all fun i => (f i).nn)) ∧ Qc w w':=by
 obtain ⟨R,hR0⟩:=Qe ((List.range n).all fun i => (f i).nn);rw [← hR0];have HR:=zh hR0;clear hR0
 go_enter Tryz.func70,Tryz.ntmps70
 go_upto_region 2 with fail
 go_loopw [7] (fun i wr => ∃ k : Nat,k ≤ n ∧ i = .int .i64 k ∧ Hid (∀ j,j < k → (f j).nn = true) ∧ Qc w wr) (fun i _ => n - (intOf i).toNat)
 case atStart => exact ⟨0,Nat.zero_le _,rfl,(fun j h => absurd h Qa),Qc.refl _⟩
 case round =>
  obtain ⟨k,hk,rfl,hall,hE⟩:=hrel;obtain ⟨wo,rfl⟩:=Qe wr;by_cases hlt : k < n
  ·obtain ⟨b, off, rfl, hb, hc⟩ := (hA.ext hE) Qa;have c0 : wo.cell? ⟨b, off + k * 2, none⟩ = some (.int .i64 (f k).n) := by simpa [Xx] using hc k 0 _ hlt rfl
   have c1 : wo.cell? ⟨b,off + k * 2 + 1,none⟩ = some (.int .i64 (f k).d):=by simpa [Xx] using hc k 1 _ hlt rfl
   obtain ⟨h1,h2,h3,h4⟩:=hin k hlt;have NR:=fun w => Vf (f k).n (f k).d h1 h2 h3 h4 w
   have hno : Hid ((f k).nn = false → R = false):=fun h => by
    rw [HR.out];exact List.all_eq_false.2 ⟨k,by simpa using hlt,by simp [h]⟩
   have hyes : Hid ((f k).nn = true → ∀ j,j < k + 1 → (f j).nn = true):=fun h j hj => by
    by_cases e : j = k
    ·subst e;exact h
    ·exact hall.out j Qa
   have hnn : Hid ((f k).nn = (Rt.ok ⟨(f k).n,(f k).d⟩ && decide (0 ≤ (f k).n))):=rfl;clear hc hin hA h1 h2 h3 h4 hall HR;go_upto_region 4 with fail
   obtain ⟨v3,hv⟩:=Qe (wo.alloc (.cells #[.int .i64 (f k).n,.int .i64 (f k).d] 65));rw [← hv];have E3 : Qc wo v3:=by rw [hv];exact (Qc.refl _).alloc _
   have H3 : Qb v3 wo.heap.size 65 #[.int .i64 (f k).n,.int .i64 (f k).d]:=by rw [hv];exact Qb.new _ _ _
   clear hv c0 c1;replace hE:=hE.trans E3;generalize wo.heap.size = b3 at *;clear E3;obtain ⟨q0,q1,lq⟩:=Qb.d2 H3;generalize Rt.ok ⟨(f k).n,(f k).d⟩ = ok at *;cases ok
   ·go_wp2_with (go_at_call 121;refine zc (NR _) ?_;rintro e w2 ⟨rfl,h⟩);go_ret;exact ⟨by rw [hno.out (by rw [hnn.out];rfl)];rfl,hE.trans h⟩
   ·by_cases h0 : (f k).n < 0
    ·have g1 : decide ((f k).n < 0) = true:=zt h0;have g2 : decide (0 ≤ (f k).n) = false:=zf Qa;have hx:=hno.out (by rw [hnn.out,g2];rfl);clear h0 g2;go_wp2_with (go_at_call 121;refine zc (NR _) ?_;rintro e w2 ⟨rfl,h⟩;clear q0 q1 lq;obtain ⟨q0,q1⟩:=(H3.ext h).c2;have lq:=(H3.ext h).lt);go_ret;exact ⟨by rw [hx];rfl,hE.trans h⟩
    ·have g1 : decide ((f k).n < 0) = false:=zf h0;have g2 : decide (0 ≤ (f k).n) = true:=zt Qa;have hx:=zh (hyes.out (by rw [hnn.out,g2];rfl));clear h0 g2;go_wp2_with (go_at_call 121;refine zc (NR _) ?_;rintro e w2 ⟨rfl,h⟩;clear q0 q1 lq;obtain ⟨q0,q1⟩:=(H3.ext h).c2;have lq:=(H3.ext h).lt);exact ⟨⟨k + 1,Qa,by go_num,hx,hE.trans h⟩,zi⟩
  ·obtain rfl : k = n:=Qa
   have hx : R = true:=by
    rw [HR.out];exact List.all_eq_true.2 fun j hj => hall.out j (by simpa using hj)
   clear HR hall hin hA;go_wp2;go_ret;exact ⟨by rw [hx];rfl,hE⟩
theorem Qc4 (A : OA) (n ca : Nat) (f : Nat → Rt) (w : World) (hA : Qm w A n 2 (Xx f)) (hn0 : n ≤ 9223372036854775807) (hin : ∀ i,i < n → (f i).In) (hZ : Jc w) :
  Calls Tryz.prog 71 #[.slice A n ca] w fun e w' => e = .returned (.tuple #[.agg #[.int .i64 (Y8 f n).1.n,.int .i64 (Y8 f n).1.d],.int .i64 (Y8 f n).2]) ∧ Qc w w':=by
 obtain ⟨R,hR0⟩:=Qe (Y8 f n);rw [← hR0];have HR:=zh hR0;clear hR0
 go_enter Tryz.func71,Tryz.ntmps71
 go_upto_region 1 with fail
 obtain ⟨v,b1,E,B1,hbr,hv,hb1⟩:=J4 w 65 #[.int .i64 0,.int .i64 0];rw [← hv,← hb1];clear hv hb1;have RA:=hA.ext E;have Z0:=hZ.ext E;clear hA hZ;by_cases h64 : 64 < n
 ·have g1 : decide ((64 : Int) < (n : Int)) = true:=zt Qa;have hr:=HR.out;rw [show Y8 f n = (Zr,3) by unfold Y8;rw [if_pos h64]] at hr;subst hr;clear HR;clear h64;obtain ⟨f0,f1,x0,x1,lx⟩:=Qb.e2 B1;have H4:=Qo B1 (.int .i64 0) (.int .i64 0);have EF:=(E.setCell (p:=⟨b1,0,none⟩) hbr (.int .i64 0)).setCell (p:=⟨b1,1,none⟩) hbr (.int .i64 0);obtain ⟨y0,y1⟩:=H4.c2;go_wp2;refine bodyPost_ret (v:=.tuple #[.agg #[.int .i64 0,.int .i64 0],.int .i64 3]) Zf rfl ⟨rfl,EF⟩
 ·have g1 : decide ((64 : Int) < (n : Int)) = false:=zf Qa;have hn : n ≤ 1000:=Qa;go_upto_region 4 with fail
  go_loopw [12] (fun i wr => ∃ k : Nat,k ≤ n ∧ i = .int .i64 k ∧ Hid (∀ j,j < k → (f j).ok = true) ∧ Qc v wr) (fun i _ => n - (intOf i).toNat)
  case atStart => exact ⟨0,Nat.zero_le _,rfl,(fun j h => absurd h Qa),Qc.refl _⟩
  case round =>
   obtain ⟨k,hk,rfl,hall,hE⟩:=hrel;obtain ⟨wo,rfl⟩:=Qe wr;replace B1:=B1.ext hE;by_cases hlt : k < n
   ·obtain ⟨b, off, rfl, hb, hc⟩ := (RA.ext hE) Qa;have c0 : wo.cell? ⟨b, off + k * 2, none⟩ = some (.int .i64 (f k).n) := by simpa [Xx] using hc k 0 _ hlt rfl
    have c1 : wo.cell? ⟨b,off + k * 2 + 1,none⟩ = some (.int .i64 (f k).d):=by simpa [Xx] using hc k 1 _ hlt rfl
    obtain ⟨h1,h2,h3,h4⟩:=hin k hlt;have NR:=fun w => Vf (f k).n (f k).d h1 h2 h3 h4 w
    have hno : Hid ((f k).ok = false → R = (Zr,2)):=fun h => by
     rw [HR.out];unfold Y8;rw [if_neg h64,if_neg (by rw [Bool.not_eq_true];exact List.all_eq_false.2 ⟨k,by simpa using hlt,by simp [h]⟩)]
    have hyes : Hid ((f k).ok = true → ∀ j,j < k + 1 → (f j).ok = true):=fun h j hj => by
     by_cases e : j = k
     ·subst e;exact h
     ·exact hall.out j Qa
    have hnn : Hid ((f k).ok = Rt.ok ⟨(f k).n,(f k).d⟩):=rfl;clear hc hin RA h1 h2 h3 h4 hall HR h64;go_upto_region 6 with fail
    obtain ⟨v3,hv⟩:=Qe (wo.alloc (.cells #[.int .i64 (f k).n,.int .i64 (f k).d] 65));rw [← hv];have E3 : Qc wo v3:=by rw [hv];exact (Qc.refl _).alloc _
    have H3 : Qb v3 wo.heap.size 65 #[.int .i64 (f k).n,.int .i64 (f k).d]:=by rw [hv];exact Qb.new _ _ _
    clear hv c0 c1;replace hE:=hE.trans E3;replace B1:=B1.ext E3;generalize wo.heap.size = b3 at *;clear E3;obtain ⟨q0,q1,lq⟩:=Qb.d2 H3;generalize Rt.ok ⟨(f k).n,(f k).d⟩ = ok at *;cases ok
    ·have hr:=hno.out hnn.out;subst hr;clear hno hyes hnn;go_upto_region 7 with (go_at_call 121;refine zc (NR _) ?_;rintro e w2 ⟨rfl,h⟩)
     replace E:=(E.trans hE).trans h;replace B1:=B1.ext h;obtain ⟨f0,f1,x0,x1,lx⟩:=Qb.e2 B1;have H4:=Qo B1 (.int .i64 0) (.int .i64 0);have EF:=(E.setCell (p:=⟨b1,0,none⟩) hbr (.int .i64 0)).setCell (p:=⟨b1,1,none⟩) hbr (.int .i64 0);obtain ⟨y0,y1⟩:=H4.c2;go_wp2;refine bodyPost_ret (v:=.tuple #[.agg #[.int .i64 0,.int .i64 0],.int .i64 2]) Zf rfl ⟨rfl,EF⟩
    ·have hx:=zh (hyes.out hnn.out);clear hno hyes hnn;go_wp2_with (go_at_call 121;refine zc (NR _) ?_;rintro e w2 ⟨rfl,h⟩);exact ⟨⟨k + 1,Qa,by go_num,hx,hE.trans h⟩,zi⟩
   ·obtain rfl : k = n:=Qa;have NM:=fun w h z => Qk1 A k ca f w h hn (fun i hi => hall.out i hi) z
    rw [show U0 f k = R from by rw [HR.out];unfold Y8;rw [if_neg h64,if_pos (List.all_eq_true.2 fun j hj => hall.out j (by simpa using hj))]] at NM;clear HR hall hin h64;have RB:=RA.ext hE;have Z1:=Z0.ext hE;clear RA Z0;replace E:=E.trans hE;clear hE;obtain ⟨⟨Rn,Rd⟩,Re⟩:=R;go_wp2_with (first | (go_at_call 122;refine zc (NM _ RB Z1) ?_;rintro e wt ⟨rfl,ht⟩;replace E:=E.trans ht;replace B1:=B1.ext ht;have f0:=B1.frozen 0;have f1:=B1.frozen 1;obtain ⟨x0,x1⟩:=B1.c2;have lx:=B1.lt));have H4:=Qo B1 (.int .i64 Rn) (.int .i64 Rd);have EF:=(E.setCell (p:=⟨b1,0,none⟩) hbr (.int .i64 Rn)).setCell (p:=⟨b1,1,none⟩) hbr (.int .i64 Rd);obtain ⟨y0,y1⟩:=H4.c2
    go_wp2;refine bodyPost_ret (v:=.tuple #[.agg #[.int .i64 Rn,.int .i64 Rd],.int .i64 Re]) Zf rfl ⟨rfl,EF⟩
def Nf (p r : Rt) : Nat → Rt
 | 0 => p
 | _ => r
theorem Dc {r : Rt} : ((List.range 1).all fun _ => r.nn) = r.nn:=by simp [List.range_succ]
theorem nn_two {p r : Rt} : ((List.range 2).all fun i => (Nf p r i).nn) = (p.nn && r.nn):=by simp [List.range_succ,Nf]
theorem Qmp (r : Rt) : r.pos = (r.nn && decide (0 < r.n)):=by
 unfold Rt.pos Rt.nn;by_cases h : 0 < r.n
 ·rw [zt h,zt (show 0 ≤ r.n by omega)];simp
 ·rw [zf h];simp
theorem V7 {w : World} {b : Nat} {t : TypeId} {r : Rt} (h : Qb w b t #[.int .i64 r.n,.int .i64 r.d]) : Qm w (some ⟨b,0,none⟩) 1 2 (Xx fun _ => r):=Lu (f:=Xx fun _ => r) (n:=1) (fun _ => rfl) h
theorem Qdj {w : World} {b : Nat} {t : TypeId} {p r : Rt} (h : Qb w b t #[.int .i64 p.n,.int .i64 p.d,.int .i64 r.n,.int .i64 r.d]) : Qm w (some ⟨b,0,none⟩) 2 2 (Xx (Nf p r)):=Lu (f:=Xx (Nf p r)) (n:=2) (fun _ => rfl) h
theorem rows4 {w : World} {b : Nat} {t : TypeId} {p r : Rt} {k : Int} (h : Qb w b t #[.int .i64 p.n,.int .i64 p.d,.int .i64 r.n,.int .i64 r.d,.int .i64 k,.int .i64 1,.int .i64 1,.int .i64 360]) : Qm w (some ⟨b,0,none⟩) 4 2 (Xx (Kk p r k)):=Lu (f:=Xx (Kk p r k)) (n:=4) (fun _ => rfl) h
theorem Ik {p r : Rt} {k : Int} (hp : p.ok = true) (hr : r.ok = true) (h1 : 0 ≤ k) (h2 : k ≤ 1099511627776) : ∀ i,i < 4 → (Kk p r k i).ok = true:=fun i hi => by
 have h3 : i = 0 ∨ i = 1 ∨ i = 2 ∨ i = 3:=Qa;rcases h3 with rfl | rfl | rfl | rfl
 ·exact hp
 ·exact hr
 ·exact Qep Qa h2
 ·exact (by decide : (Rt.mk 1 360).ok = true)
theorem Qmu {f : Nat → Rt} {n : Nat} (hn : ¬ 64 < n) (h : ∀ i,i < n → (f i).ok = true) : Y8 f n = U0 f n:=by
 unfold Y8;rw [if_neg hn,if_pos (List.all_eq_true.2 fun i hi => h i (by simpa using hi))]
theorem Qjn (p r : Rt) (k : Int) : Hid (((p.nn && r.nn) = false → Yc p r k = (Zr,2)) ∧ ((p.nn && r.nn) = true → ((k < 0 ∨ 1099511627776 < k) → Yc p r k = (Zr,8)) ∧ (¬ k < 0 → ¬ 1099511627776 < k → Yc p r k = U0 (Kk p r k) 4))):=by
 refine zh ⟨fun h => ?_,fun h => ⟨fun h2 => ?_,fun h2 h3 => ?_⟩⟩
 ·unfold Yc;rw [h];rfl
 ·unfold Yc;rw [h,if_pos rfl,if_pos h2]
 ·unfold Yc;rw [h,if_pos rfl,if_neg Qa]
theorem Wv (n : Int) (w : World) : Calls Tryz.prog 72 #[.int .i64 n] w fun e w' => e = .returned (.agg #[.int .i64 n,.int .i64 1]) ∧ Qc w w':=by
 go_enter Tryz.func72,Tryz.ntmps72
 go_wp2;refine bodyPost_ret (v:=.agg #[.int .i64 n,.int .i64 1]) (by simp [results,Tryz.results72,go_sem]) rfl ⟨rfl,Qu⟩
theorem Rr (r : Rt) (hr : r.In) (w : World) :
  Calls Tryz.prog 67 #[.agg #[.int .i64 r.n,.int .i64 r.d]] w fun e w' => e = .returned (.bool r.pos) ∧ Qc w w':=by
 have NN:=fun w b h => Rb (some ⟨b,0,none⟩) 1 1 (fun _ => r) w h zD (fun i hi => hr)
 rw [Dc] at NN;have HR : Hid (r.pos = (r.nn && decide (0 < r.n))):=Qmp r;generalize r.pos = R at *;generalize r.nn = nn at *
 go_enter Tryz.func67,Tryz.ntmps67
 go_upto_region 1 with fail
 obtain ⟨v,b1,E,B1,hbr,hv,hb1⟩:=J4 w 65 #[.int .i64 r.n,.int .i64 r.d];rw [← hv,← hb1];clear hv hb1;obtain ⟨k0,k1,lk⟩:=Qb.d2 B1;cases nn
 ·go_wp2_with (go_at_call 70;refine zc (NN _ _ (V7 (Qb.new _ _ _))) ?_;rintro e w2 ⟨rfl,h⟩);go_ret;exact ⟨by rw [HR.out];rfl,(E.alloc _).trans h⟩
 ·by_cases h0 : 0 < r.n
  ·have g1 : decide (0 < r.n) = true:=zt h0;clear h0;go_wp2_with (go_at_call 70;refine zc (NN _ _ (V7 (Qb.new _ _ _))) ?_;rintro e w2 ⟨rfl,h⟩;replace B1:=(B1.alloc _).ext h;clear k0 k1 lk;obtain ⟨k0,k1⟩:=B1.c2;have lk:=B1.lt);go_ret;exact ⟨by rw [HR.out,g1];rfl,(E.alloc _).trans h⟩
  ·have g1 : decide (0 < r.n) = false:=zf h0;clear h0;go_wp2_with (go_at_call 70;refine zc (NN _ _ (V7 (Qb.new _ _ _))) ?_;rintro e w2 ⟨rfl,h⟩;replace B1:=(B1.alloc _).ext h;clear k0 k1 lk;obtain ⟨k0,k1⟩:=B1.c2;have lk:=B1.lt);go_ret;exact ⟨by rw [HR.out,g1];rfl,(E.alloc _).trans h⟩
theorem Gc (r : Rt) (hr : r.In) (w : World) :
  Calls Tryz.prog 90 #[.agg #[.int .i64 r.n,.int .i64 r.d]] w fun e w' => e = .returned (.bool r.shr) ∧ Qc w w':=by
 have NN:=fun w b h => Rb (some ⟨b,0,none⟩) 1 1 (fun _ => r) w h zD (fun i hi => hr)
 rw [Dc] at NN;have HR : Hid (r.shr = (r.nn && decide (r.n ≤ r.d))):=rfl;generalize r.shr = R at *;generalize r.nn = nn at *
 go_enter Tryz.func90,Tryz.ntmps90
 go_upto_region 1 with fail
 obtain ⟨v,b1,E,B1,hbr,hv,hb1⟩:=J4 w 65 #[.int .i64 r.n,.int .i64 r.d];rw [← hv,← hb1];clear hv hb1;obtain ⟨k0,k1,lk⟩:=Qb.d2 B1;cases nn
 ·go_wp2_with (go_at_call 70;refine zc (NN _ _ (V7 (Qb.new _ _ _))) ?_;rintro e w2 ⟨rfl,h⟩);go_ret;exact ⟨by rw [HR.out];rfl,(E.alloc _).trans h⟩
 ·by_cases h0 : r.n ≤ r.d
  ·have g1 : decide (r.n ≤ r.d) = true:=zt h0;clear h0;go_wp2_with (go_at_call 70;refine zc (NN _ _ (V7 (Qb.new _ _ _))) ?_;rintro e w2 ⟨rfl,h⟩;replace B1:=(B1.alloc _).ext h;clear k0 k1 lk;obtain ⟨k0,k1⟩:=B1.c2;have lk:=B1.lt);go_ret;exact ⟨by rw [HR.out,g1];rfl,(E.alloc _).trans h⟩
  ·have g1 : decide (r.n ≤ r.d) = false:=zf h0;clear h0;go_wp2_with (go_at_call 70;refine zc (NN _ _ (V7 (Qb.new _ _ _))) ?_;rintro e w2 ⟨rfl,h⟩;replace B1:=(B1.alloc _).ext h;clear k0 k1 lk;obtain ⟨k0,k1⟩:=B1.c2;have lk:=B1.lt);go_ret;exact ⟨by rw [HR.out,g1];rfl,(E.alloc _).trans h⟩
theorem Qhq (r : Rt) (hr : r.In) (w : World) :
  Calls Tryz.prog 26 #[.agg #[.int .i64 r.n,.int .i64 r.d]] w fun e w' => e = .returned (.tuple #[.int .i64 (Ue r).1,.int .i64 (Ue r).2]) ∧ Qc w w':=by
 have NP:=fun w => Rr r hr w
 cases hp : r.pos
 ·have HR : Ue r = (0, 2) := by unfold Ue; rw [hp]; rfl
  rw [HR];simp only [hp] at NP;clear hp HR
  go_enter Tryz.func26,Tryz.ntmps26
  go_upto_region 1 with fail
  obtain ⟨v,b1,E,B1,hbr,hv,hb1⟩:=J4 w 65 #[.int .i64 r.n,.int .i64 r.d];rw [← hv,← hb1];clear hv hb1;obtain ⟨k0,k1,lk⟩:=Qb.d2 B1;go_wp2_with (go_at_call 67;refine zc (NP _) ?_;rintro e w2 ⟨rfl,h⟩);go_ret2;exact ⟨rfl,E.trans h⟩
 ·have HR : Ue r = ((360 * r.d + r.n - 1) / r.n, 0) := by unfold Ue; rw [hp]; rfl
  have HB:=zh (dbl_bd hp);rw [HR] at HB ⊢;simp only [hp] at NP;obtain ⟨ho,hn⟩ : r.ok = true ∧ 0 < r.n:=by simpa [Rt.pos] using hp
  obtain ⟨d1,d2,n1,n2,_⟩:=Yl ho;have w1 : IntKind.i64.wrap (360 * r.d) = 360 * r.d:=Z6 Qa Qa;have w2 : IntKind.i64.wrap (360 * r.d + r.n) = 360 * r.d + r.n:=Z6 Qa Qa;have w3 : IntKind.i64.wrap (360 * r.d + r.n - 1) = 360 * r.d + r.n - 1:=Z6 Qa Qa
  have w4 : IntKind.i64.wrap ((360 * r.d + r.n - 1).tdiv r.n) = (360 * r.d + r.n - 1) / r.n:=by
   rw [Int.tdiv_eq_ediv_of_nonneg Qa];have:=HB.out;exact Z6 Qa Qa
  have w5 : (r.n == 0) = false:=zb Qa;have w6 : r.n ≠ 0:=Qa;clear hp HR HB ho hn d1 d2 n1 n2
  go_enter Tryz.func26,Tryz.ntmps26
  go_upto_region 1 with fail
  obtain ⟨v,b1,E,B1,hbr,hv,hb1⟩:=J4 w 65 #[.int .i64 r.n,.int .i64 r.d];rw [← hv,← hb1];clear hv hb1;obtain ⟨k0,k1,lk⟩:=Qb.d2 B1;go_wp2_with (go_at_call 67;refine zc (NP _) ?_;rintro e w2 ⟨rfl,h⟩;replace B1:=B1.ext h;clear k0 k1 lk;obtain ⟨k0,k1⟩:=B1.c2;have lk:=B1.lt);go_ret2;exact ⟨rfl,E.trans h⟩
theorem Qan (p r : Rt) (k : Int) (hp : p.In) (hr : r.In) (hk1 : -9223372036854775808 ≤ k) (hk2 : k ≤ 9223372036854775807) (w : World) (hZ : Jc w) :
  Calls Tryz.prog 28 #[.agg #[.int .i64 p.n,.int .i64 p.d],.agg #[.int .i64 r.n,.int .i64 r.d],.int .i64 k] w fun e w' => e = .returned (.tuple #[.agg #[.int .i64 (Yc p r k).1.n,.int .i64 (Yc p r k).1.d],.int .i64 (Yc p r k).2]) ∧ Qc w w':=by
 have NN:=fun w b h => Rb (some ⟨b,0,none⟩) 2 2 (Nf p r) w h zD (fun i hi => by unfold Nf;split;exact hp;exact hr)
 rw [nn_two] at NN;have HI:=Qjn p r k;obtain ⟨R,hR0⟩:=Qe (Yc p r k);rw [← hR0];have HR:=zh hR0;clear hR0;rw [show Yc p r k = R from HR.out.symm] at HI;clear HR
 go_enter Tryz.func28,Tryz.ntmps28
 go_upto_region 1 with fail
 obtain ⟨v,b1,b2,b3,E,B1,B2,B3,hbr1,hbr2,hbr,hn21,hn31,hn32,hv,hb1,hb2,hb3⟩:=Up w 65 #[.int .i64 p.n,.int .i64 p.d] 65 #[.int .i64 r.n,.int .i64 r.d] 65 #[.int .i64 0,.int .i64 0];rw [← hv,← hb3,← hb2,← hb1];clear hv hb1 hb2 hb3;have Z0:=hZ.ext E;clear hZ;obtain ⟨k0,k1,lk⟩:=Qb.d2 B1;obtain ⟨p0,p1,lp⟩:=Qb.d2 B2;cases hnn : (p.nn && r.nn)
 ·rw [hnn] at NN HI;have hr:=HI.out.1 rfl;subst hr;clear HI hnn;go_upto_region 2 with (go_at_call 70;refine zc (NN _ _ (Qdj (Qb.new _ _ _))) ?_;rintro e w2 ⟨rfl,h⟩)
  replace E:=(E.alloc _).trans h;replace B3:=(B3.alloc _).ext h;obtain ⟨f0,f1,x0,x1,lx⟩:=Qb.e2 B3;have H4:=Qo B3 (.int .i64 0) (.int .i64 0);have EF:=(E.setCell (p:=⟨b3,0,none⟩) hbr (.int .i64 0)).setCell (p:=⟨b3,1,none⟩) hbr (.int .i64 0);obtain ⟨y0,y1⟩:=H4.c2;go_wp2;refine bodyPost_ret (v:=.tuple #[.agg #[.int .i64 0,.int .i64 0],.int .i64 2]) Zf rfl ⟨rfl,EF⟩
 ·rw [hnn] at NN HI;have hI:=zh (HI.out.2 rfl);clear HI;go_upto_region 3 with (go_at_call 70;refine zc (NN _ _ (Qdj (Qb.new _ _ _))) ?_;rintro e w2 ⟨rfl,h⟩)
  replace E:=(E.alloc _).trans h;replace Z0:=(Z0.ext ((Qc.refl _).alloc _)).ext h;replace B1:=(B1.alloc _).ext h;replace B2:=(B2.alloc _).ext h;replace B3:=(B3.alloc _).ext h;clear h k0 k1 lk p0 p1 lp;by_cases c1 : k < 0
  ·have g1 : decide (k < 0) = true:=zt c1;have hr:=hI.out.1 (.inl c1);subst hr;clear hI hnn c1;obtain ⟨f0,f1,x0,x1,lx⟩:=Qb.e2 B3;have H4:=Qo B3 (.int .i64 0) (.int .i64 0);have EF:=(E.setCell (p:=⟨b3,0,none⟩) hbr (.int .i64 0)).setCell (p:=⟨b3,1,none⟩) hbr (.int .i64 0);obtain ⟨y0,y1⟩:=H4.c2;go_wp2;refine bodyPost_ret (v:=.tuple #[.agg #[.int .i64 0,.int .i64 0],.int .i64 8]) Zf rfl ⟨rfl,EF⟩
  ·have g1 : decide (k < 0) = false:=zf c1;by_cases c2 : 1099511627776 < k
   ·have g2 : decide (1099511627776 < k) = true:=zt c2;have hr:=hI.out.1 (.inr c2);subst hr;clear hI hnn c1 c2;obtain ⟨f0,f1,x0,x1,lx⟩:=Qb.e2 B3;have H4:=Qo B3 (.int .i64 0) (.int .i64 0);have EF:=(E.setCell (p:=⟨b3,0,none⟩) hbr (.int .i64 0)).setCell (p:=⟨b3,1,none⟩) hbr (.int .i64 0);obtain ⟨y0,y1⟩:=H4.c2;go_wp2;refine bodyPost_ret (v:=.tuple #[.agg #[.int .i64 0,.int .i64 0],.int .i64 8]) Zf rfl ⟨rfl,EF⟩
   ·have g2 : decide (1099511627776 < k) = false:=zf c2;obtain ⟨np,nr⟩:=Bool.and_eq_true_iff.1 hnn;have hok : ∀ i,i < 4 → (Kk p r k i).ok = true:=Ik (Kr np).1 (Kr nr).1 Qa Qa;have NP:=fun w b h z => Qc4 (some ⟨b,0,none⟩) 4 4 (Kk p r k) w h zD (fun i hi => Qcl (hok i hi)) z
    rw [Qmu zD hok,show U0 (Kk p r k) 4 = R from (hI.out.2 Qa Qa).symm] at NP;clear hI hnn np nr hok c1 c2;obtain ⟨⟨Rn,Rd⟩,Re⟩:=R;go_upto_region 5 with fail
    refine Zc 11 [9,10] (fun x => Qc w2 x) mixed rfl ?_;intro vz hvz;have HC:=hvz;refine Qs (g:=7) [0,1,2,4] HC ?_
    constructor
    refine ⟨fun u hu => ?_,?_⟩
    ·obtain ⟨k0,k1⟩:=(B1.ext hu).c2;obtain ⟨p0,p1⟩:=(B2.ext hu).c2;have lk:=(B1.ext hu).lt;have lp:=(B2.ext hu).lt;exact Qk
    refine Qj 3 ?_;go_wp2_with (go_at_call 72;refine zc (Wv _ _) ?_;rintro e va ⟨rfl,h4⟩);replace HC:=HC.trans h4;clear h4 hvz;refine Qf HC ?_;refine Qj 5 ?_;go_wp2;have B5:=rows4 (p:=p) (r:=r) (k:=k) (Qb.new va 65 #[.int .i64 p.n,.int .i64 p.d,.int .i64 r.n,.int .i64 r.d,.int .i64 k,.int .i64 1,.int .i64 1,.int .i64 360]);replace HC : Qc w2 (va.alloc _):=HC.alloc (.cells #[.int .i64 p.n,.int .i64 p.d,.int .i64 r.n,.int .i64 r.d,.int .i64 k,.int .i64 1,.int .i64 1,.int .i64 360] 65);generalize va.heap.size = b5 at *;generalize World.alloc va _ = vd at *;clear va;refine Qf HC ?_;refine Qj 6 ?_;go_wp2_with (go_at_call 71;refine zc (NP _ _ B5 (Z0.ext HC)) ?_;rintro e vb ⟨rfl,h4⟩)
    replace HC:=HC.trans h4;clear h4 B5 NP;refine Qf HC ?_;refine Qs (g:=2) [7,8] HC ?_
    constructor
    refine ⟨fun u hu => ?_,?_⟩
    ·skip
     exact Qk
    replace B3:=B3.ext HC;replace E:=E.trans HC;refine Qr 9 ?_;obtain ⟨f0,f1,x0,x1,lx⟩:=Qb.e2 B3;have H4:=Qo B3 (.int .i64 Rn) (.int .i64 Rd);have EF:=(E.setCell (p:=⟨b3,0,none⟩) hbr (.int .i64 Rn)).setCell (p:=⟨b3,1,none⟩) hbr (.int .i64 Rd);obtain ⟨y0,y1⟩:=H4.c2;go_wp2;refine Qq ?_;refine Qr 10 ?_;go_wp2;refine Qq ?_;refine Qx ?_;go_wp2;refine bodyPost_ret (v:=.tuple #[.agg #[.int .i64 Rn,.int .i64 Rd],.int .i64 Re]) Zf rfl ⟨rfl,EF⟩
theorem Qek (n : Nat) : upTo (fun _ => n) 1 = n:=by show 1 * n = n;omega
theorem Qel {w : World} {b : Nat} {t : TypeId} {n : Nat} (h : Qb w b t #[.int .u64 (n : Int)]) : Qm w (some ⟨b,0,none⟩) 1 1 (Zk fun _ => n):=Lu (f:=Zk fun _ => n) (n:=1) (fun _ => rfl) h
theorem Qc9 (n d : Int) (hn1 : -9223372036854775808 ≤ n) (hn2 : n ≤ 9223372036854775807) (hd1 : -9223372036854775808 ≤ d) (hd2 : d ≤ 9223372036854775807) (w : World) (hZ : Jc w) :
  Calls Tryz.prog 134 #[.int .i64 n,.int .i64 d] w fun e w' => e = .returned (.tuple #[.agg #[.int .i64 (Ye n d).1.n,.int .i64 (Ye n d).1.d],.int .i64 (Ye n d).2]) ∧ Qc w w':=by
 obtain ⟨R,hR0⟩:=Qe (Ye n d);rw [← hR0];have HR:=zh hR0;clear hR0
 go_enter Tryz.func134,Tryz.ntmps134
 go_upto_region 1 with fail
 obtain ⟨v,b1,E,B1,hbr,hv,hb1⟩:=J4 w 65 #[.int .i64 0,.int .i64 0];rw [← hv,← hb1];clear hv hb1;have Z0:=hZ.ext E;clear hZ;by_cases hd0 : d = 0
 ·have g0 : (d == 0) = true := by rw [hd0]; rfl
  have hr : R = (Zr,9):=by rw [HR.out];unfold Ye;rw [if_pos hd0]
  subst hr;clear HR hd0;obtain ⟨f0,f1,x0,x1,lx⟩:=Qb.e2 B1;have H4:=Qo B1 (.int .i64 0) (.int .i64 0);have EF:=(E.setCell (p:=⟨b1,0,none⟩) hbr (.int .i64 0)).setCell (p:=⟨b1,1,none⟩) hbr (.int .i64 0);obtain ⟨y0,y1⟩:=H4.c2;go_wp2;refine bodyPost_ret (v:=.tuple #[.agg #[.int .i64 0,.int .i64 0],.int .i64 9]) Zf rfl ⟨rfl,EF⟩
 ·have g0 : (d == 0) = false:=zb hd0;by_cases hn0 : n = 0
  ·have g1 : (n == 0) = true := by rw [hn0]; rfl
   have hr : R = (⟨0,1⟩,0):=by rw [HR.out];unfold Ye;rw [if_neg hd0,hn0];exact Dq Qa
   subst hr;clear HR hd0 hn0;obtain ⟨z0,z1,lz⟩:=Z0;obtain ⟨f0,f1,x0,x1,lx⟩:=Qb.e2 B1;have H4:=Qo B1 (.int .i64 0) (.int .i64 1);have EF:=(E.setCell (p:=⟨b1,0,none⟩) hbr (.int .i64 0)).setCell (p:=⟨b1,1,none⟩) hbr (.int .i64 1);obtain ⟨y0,y1⟩:=H4.c2;go_wp2;refine bodyPost_ret (v:=.tuple #[.agg #[.int .i64 0,.int .i64 1],.int .i64 0]) Zf rfl ⟨rfl,EF⟩
  ·have g1 : (n == 0) = false:=zb hn0;have NN:=fun w => Vm n hn1 hn2 w
   have ND:=fun w => Vm d hd1 hd2 w
   have NR:=fun w b b' neg (hneg : neg = (decide (n < 0) != decide (d < 0))) h h' => Dr (some ⟨b,0,none⟩) (some ⟨b',0,none⟩) 1 1 1 1 (fun _ => n.natAbs) (fun _ => d.natAbs) neg w h h' (fun h => by cases h) (fun h => by cases h) zD zD (fun i hi => by omega) (fun i hi => by omega) (fun i hi => by omega) (fun i hi => by omega)
   have hq : ∀ neg,neg = (decide (n < 0) != decide (d < 0)) → J2 neg n.natAbs d.natAbs = R:=fun neg e => by rw [e,HR.out];unfold Ye;rw [if_neg hd0]
   have NR : ∀ (w : World) (b b' : Nat),Qm w (some ⟨b,0,none⟩) 1 1 (Zk fun _ => n.natAbs) → Qm w (some ⟨b',0,none⟩) 1 1 (Zk fun _ => d.natAbs) → Calls Tryz.prog 163 #[.agg #[.slice (some ⟨b,0,none⟩) 1 1,.slice (some ⟨b',0,none⟩) 1 1],.bool (!(decide (n < 0) == decide (d < 0)))] w fun e w' => e = .returned (.tuple #[.agg #[.int .i64 R.1.n,.int .i64 R.1.d],.int .i64 R.2]) ∧ Qc w w':=fun w b b' h h' => by
    have:=NR w b b' _ rfl h h';rw [Qek,Qek,hq _ rfl] at this;exact this
   clear hq;generalize n.natAbs = an at *;generalize d.natAbs = ad at *;clear HR hn0 hd0;obtain ⟨⟨Rn,Rd⟩,Re⟩:=R
   go_wp2_with (first
    | (go_at_call 162;(with_reducible refine zc (NN _) ?_);rintro e w1 ⟨rfl,h1⟩;have U1:=Qel (Qb.new w1 245 #[.int .u64 (an : Int)]);have h2 : Qc w1 (w1.alloc (.cells #[.int .u64 (an : Int)] 245)):=(Qc.refl _).alloc _)
    | (go_at_call 162;(with_reducible refine zc (ND _) ?_);rintro e w3 ⟨rfl,h3⟩;have U2:=Qel (Qb.new w3 245 #[.int .u64 (ad : Int)]);have h4 : Qc w3 (w3.alloc (.cells #[.int .u64 (ad : Int)] 245)):=(Qc.refl _).alloc _)
    | (go_at_call 163;refine zc (NR _ _ _ (U1.ext (h3.trans h4)) U2) ?_;rintro e wt ⟨rfl,ht⟩;replace E:=((((E.trans h1).trans h2).trans h3).trans h4).trans ht;replace B1:=((((B1.ext h1).ext h2).ext h3).ext h4).ext ht;have f0:=B1.frozen 0;have f1:=B1.frozen 1;obtain ⟨x0,x1⟩:=B1.c2;have lx:=B1.lt))
   have H4:=Qo B1 (.int .i64 Rn) (.int .i64 Rd);have EF:=(E.setCell (p:=⟨b1,0,none⟩) hbr (.int .i64 Rn)).setCell (p:=⟨b1,1,none⟩) hbr (.int .i64 Rd);obtain ⟨y0,y1⟩:=H4.c2;go_wp2;refine bodyPost_ret (v:=.tuple #[.agg #[.int .i64 Rn,.int .i64 Rd],.int .i64 Re]) Zf rfl ⟨rfl,EF⟩
theorem Qe2 (a b : Rt) (ha : a.ok = true) (hb : b.ok = true) (ba bb : Nat) (w : World) (hA : Qb w ba 65 #[.int .i64 a.n,.int .i64 a.d]) (hB : Qb w bb 65 #[.int .i64 b.n,.int .i64 b.d]) (hZ : Jc w) :
  Calls Tryz.prog 133 #[.pointer (some ⟨ba,0,none⟩),.pointer (some ⟨bb,0,none⟩)] w fun e w' => e = .returned (.tuple #[.agg #[.int .i64 (Ye (a.n * b.d + b.n * a.d) (a.d * b.d)).1.n,.int .i64 (Ye (a.n * b.d + b.n * a.d) (a.d * b.d)).1.d],.int .i64 (Ye (a.n * b.d + b.n * a.d) (a.d * b.d)).2]) ∧ Qc w w':=by
 obtain ⟨m1,m2,m3,m4⟩:=Vh ha hb;obtain ⟨m5,m6,_,_⟩:=Vh hb ha;have w1 : IntKind.i64.wrap (a.n * b.d) = a.n * b.d:=Z6 Qa Qa;have w2 : IntKind.i64.wrap (b.n * a.d) = b.n * a.d:=Z6 Qa Qa;have w3 : IntKind.i64.wrap (a.n * b.d + b.n * a.d) = a.n * b.d + b.n * a.d:=Z6 Qa Qa;have w4 : IntKind.i64.wrap (a.d * b.d) = a.d * b.d:=Z6 Qa Qa;have NR:=fun w z => Qc9 (a.n * b.d + b.n * a.d) (a.d * b.d) Qa Qa Qa Qa w z
 obtain ⟨R,hR0⟩:=Qe (Ye (a.n * b.d + b.n * a.d) (a.d * b.d));rw [← hR0] at NR ⊢;clear hR0 m1 m2 m3 m4 m5 m6 ha hb
 go_enter Tryz.func133,Tryz.ntmps133
 go_upto_region 1 with fail
 obtain ⟨v,b1,E,B1,hbr,hv,hb1⟩:=J4 w 65 #[.int .i64 0,.int .i64 0];rw [← hv,← hb1];clear hv hb1;have Z0:=hZ.ext E;replace hA:=hA.ext E;replace hB:=hB.ext E;obtain ⟨k0,k1,lk⟩:=Qb.d2 hA;obtain ⟨p0,p1,lp⟩:=Qb.d2 hB;obtain ⟨⟨Rn,Rd⟩,Re⟩:=R;go_wp2_with (first | (go_at_call 134;refine zc (NR _ Z0) ?_;rintro e wt ⟨rfl,ht⟩;replace E:=E.trans ht;replace B1:=B1.ext ht;have f0:=B1.frozen 0;have f1:=B1.frozen 1;obtain ⟨x0,x1⟩:=B1.c2;have lx:=B1.lt));have H4:=Qo B1 (.int .i64 Rn) (.int .i64 Rd);have EF:=(E.setCell (p:=⟨b1,0,none⟩) hbr (.int .i64 Rn)).setCell (p:=⟨b1,1,none⟩) hbr (.int .i64 Rd);obtain ⟨y0,y1⟩:=H4.c2;go_wp2;refine bodyPost_ret (v:=.tuple #[.agg #[.int .i64 Rn,.int .i64 Rd],.int .i64 Re]) Zf rfl ⟨rfl,EF⟩
theorem Qnt (a b : Rt) (ha : a.ok = true) (hb : b.ok = true) (ba bb : Nat) (w : World) (hA : Qb w ba 65 #[.int .i64 a.n,.int .i64 a.d]) (hB : Qb w bb 65 #[.int .i64 b.n,.int .i64 b.d]) (hZ : Jc w) :
  Calls Tryz.prog 139 #[.pointer (some ⟨ba,0,none⟩),.pointer (some ⟨bb,0,none⟩)] w fun e w' => e = .returned (.tuple #[.agg #[.int .i64 (Ye (a.n * b.d - b.n * a.d) (a.d * b.d)).1.n,.int .i64 (Ye (a.n * b.d - b.n * a.d) (a.d * b.d)).1.d],.int .i64 (Ye (a.n * b.d - b.n * a.d) (a.d * b.d)).2]) ∧ Qc w w':=by
 obtain ⟨m1,m2,m3,m4⟩:=Vh ha hb;obtain ⟨m5,m6,_,_⟩:=Vh hb ha;have w1 : IntKind.i64.wrap (a.n * b.d) = a.n * b.d:=Z6 Qa Qa;have w2 : IntKind.i64.wrap (b.n * a.d) = b.n * a.d:=Z6 Qa Qa;have w3 : IntKind.i64.wrap (a.n * b.d - b.n * a.d) = a.n * b.d - b.n * a.d:=Z6 Qa Qa;have w4 : IntKind.i64.wrap (a.d * b.d) = a.d * b.d:=Z6 Qa Qa;have NR:=fun w z => Qc9 (a.n * b.d - b.n * a.d) (a.d * b.d) Qa Qa Qa Qa w z
 obtain ⟨R,hR0⟩:=Qe (Ye (a.n * b.d - b.n * a.d) (a.d * b.d));rw [← hR0] at NR ⊢;clear hR0 m1 m2 m3 m4 m5 m6 ha hb
 go_enter Tryz.func139,Tryz.ntmps139
 go_upto_region 1 with fail
 obtain ⟨v,b1,E,B1,hbr,hv,hb1⟩:=J4 w 65 #[.int .i64 0,.int .i64 0];rw [← hv,← hb1];clear hv hb1;have Z0:=hZ.ext E;replace hA:=hA.ext E;replace hB:=hB.ext E;obtain ⟨k0,k1,lk⟩:=Qb.d2 hA;obtain ⟨p0,p1,lp⟩:=Qb.d2 hB;obtain ⟨⟨Rn,Rd⟩,Re⟩:=R;go_wp2_with (first | (go_at_call 134;refine zc (NR _ Z0) ?_;rintro e wt ⟨rfl,ht⟩;replace E:=E.trans ht;replace B1:=B1.ext ht;have f0:=B1.frozen 0;have f1:=B1.frozen 1;obtain ⟨x0,x1⟩:=B1.c2;have lx:=B1.lt));have H4:=Qo B1 (.int .i64 Rn) (.int .i64 Rd);have EF:=(E.setCell (p:=⟨b1,0,none⟩) hbr (.int .i64 Rn)).setCell (p:=⟨b1,1,none⟩) hbr (.int .i64 Rd);obtain ⟨y0,y1⟩:=H4.c2;go_wp2;refine bodyPost_ret (v:=.tuple #[.agg #[.int .i64 Rn,.int .i64 Rd],.int .i64 Re]) Zf rfl ⟨rfl,EF⟩
theorem Qf6 (a b : Rt) (hia : a.In) (hib : b.In) (ba bb : Nat) (w : World) (hA : Qb w ba 65 #[.int .i64 a.n,.int .i64 a.d]) (hB : Qb w bb 65 #[.int .i64 b.n,.int .i64 b.d]) (hZ : Jc w) :
  Calls Tryz.prog 132 #[.agg #[.int .i64 a.n,.int .i64 a.d],.agg #[.int .i64 b.n,.int .i64 b.d],.func (.func 133) #[] #[.pointer (some ⟨ba,0,none⟩),.pointer (some ⟨bb,0,none⟩)]] w fun e w' => e = .returned (.tuple #[.agg #[.int .i64 (Zs a b).1.n,.int .i64 (Zs a b).1.d],.int .i64 (Zs a b).2]) ∧ Qc w w':=by
 have NA:=fun w => Vf a.n a.d hia.1 hia.2.1 hia.2.2.1 hia.2.2.2 w
 have NB:=fun w => Vf b.n b.d hib.1 hib.2.1 hib.2.2.1 hib.2.2.2 w
 rw [show Rt.ok ⟨a.n,a.d⟩ = a.ok from rfl] at NA;rw [show Rt.ok ⟨b.n,b.d⟩ = b.ok from rfl] at NB;have NC:=fun ha hb w h1 h2 z => Qe2 a b ha hb ba bb w h1 h2 z
 have HV : Hid (Zs a b = if a.ok && b.ok then Ye (a.n * b.d + b.n * a.d) (a.d * b.d) else (Zr,2)):=rfl;obtain ⟨R,hR0⟩:=Qe (Zs a b);rw [← hR0];have HR:=zh hR0;clear hR0;rw [show Zs a b = R from HR.out.symm] at HV;clear HR
 go_enter Tryz.func132,Tryz.ntmps132
 go_upto_region 1 with fail
 obtain ⟨v,b1,b2,b3,E,B1,B2,B3,hbr1,hbr2,hbr,hn21,hn31,hn32,hv,hb1,hb2,hb3⟩:=Up w 65 #[.int .i64 a.n,.int .i64 a.d] 65 #[.int .i64 b.n,.int .i64 b.d] 65 #[.int .i64 0,.int .i64 0];rw [← hv,← hb3,← hb2,← hb1];clear hv hb1 hb2 hb3;obtain ⟨k0,k1,lk⟩:=Qb.d2 B1;obtain ⟨p0,p1,lp⟩:=Qb.d2 B2;cases ha : a.ok
 ·simp only [ha] at NA;have hr:=HV.out;rw [ha,Bool.false_and,if_neg zD] at hr;subst hr;clear HV NC NB;go_upto_region 2 with (go_at_call 121;refine zc (NA _) ?_;rintro e w2 ⟨rfl,h⟩)
  replace E:=E.trans h;replace B3:=B3.ext h;obtain ⟨f0,f1,x0,x1,lx⟩:=Qb.e2 B3;have H4:=Qo B3 (.int .i64 0) (.int .i64 0);have EF:=(E.setCell (p:=⟨b3,0,none⟩) hbr (.int .i64 0)).setCell (p:=⟨b3,1,none⟩) hbr (.int .i64 0);obtain ⟨y0,y1⟩:=H4.c2;go_wp2;refine bodyPost_ret (v:=.tuple #[.agg #[.int .i64 0,.int .i64 0],.int .i64 2]) Zf rfl ⟨rfl,EF⟩
 ·simp only [ha] at NA;cases hb : b.ok
  ·simp only [hb] at NB;have hr:=HV.out;rw [hb,Bool.and_false,if_neg zD] at hr;subst hr;clear HV NC;go_upto_region 2 with (first | (go_at_call 121;(with_reducible refine zc (NA _) ?_);rintro e w1 ⟨rfl,h1⟩;clear p0 p1 lp;obtain ⟨p0,p1⟩:=(B2.ext h1).c2;have lp:=(B2.ext h1).lt) | (go_at_call 121;(with_reducible refine zc (NB _) ?_);rintro e w2 ⟨rfl,h⟩))
   replace E:=(E.trans h1).trans h;replace B3:=(B3.ext h1).ext h;obtain ⟨f0,f1,x0,x1,lx⟩:=Qb.e2 B3;have H4:=Qo B3 (.int .i64 0) (.int .i64 0);have EF:=(E.setCell (p:=⟨b3,0,none⟩) hbr (.int .i64 0)).setCell (p:=⟨b3,1,none⟩) hbr (.int .i64 0);obtain ⟨y0,y1⟩:=H4.c2;go_wp2;refine bodyPost_ret (v:=.tuple #[.agg #[.int .i64 0,.int .i64 0],.int .i64 2]) Zf rfl ⟨rfl,EF⟩
  ·simp only [hb] at NB;replace NC:=NC ha hb;have hr:=HV.out;rw [ha,hb,Bool.and_true,if_pos rfl] at hr;rw [← hr] at NC;clear HV hr ha hb;obtain ⟨⟨Rn,Rd⟩,Re⟩:=R;go_upto_region 3 with (first | (go_at_call 121;(with_reducible refine zc (NA _) ?_);rintro e w1 ⟨rfl,h1⟩;clear p0 p1 lp;obtain ⟨p0,p1⟩:=(B2.ext h1).c2;have lp:=(B2.ext h1).lt) | (go_at_call 121;(with_reducible refine zc (NB _) ?_);rintro e w2 ⟨rfl,h⟩))
   have e2:=(E.trans h1).trans h;replace B3:=(B3.ext h1).ext h;replace NC:=NC w2 (hA.ext e2) (hB.ext e2) (hZ.ext e2);replace E:=e2;go_wp2_with (first | (go_at_call 133;(with_reducible refine zc (NC) ?_);rintro e wt ⟨rfl,ht⟩;replace E:=E.trans ht;replace B3:=B3.ext ht;have f0:=B3.frozen 0;have f1:=B3.frozen 1;obtain ⟨x0,x1⟩:=B3.c2;have lx:=B3.lt) | (go_at_fn 133;(with_reducible refine zc (NC) ?_);rintro e wt ⟨rfl,ht⟩;replace E:=E.trans ht;replace B3:=B3.ext ht;have f0:=B3.frozen 0;have f1:=B3.frozen 1;obtain ⟨x0,x1⟩:=B3.c2;have lx:=B3.lt));have H4:=Qo B3 (.int .i64 Rn) (.int .i64 Rd);have EF:=(E.setCell (p:=⟨b3,0,none⟩) hbr (.int .i64 Rn)).setCell (p:=⟨b3,1,none⟩) hbr (.int .i64 Rd)
   obtain ⟨y0,y1⟩:=H4.c2;go_wp2;refine bodyPost_ret (v:=.tuple #[.agg #[.int .i64 Rn,.int .i64 Rd],.int .i64 Re]) Zf rfl ⟨rfl,EF⟩
theorem Nz (a b : Rt) (hia : a.In) (hib : b.In) (w : World) (hZ : Jc w) :
  Calls Tryz.prog 86 #[.agg #[.int .i64 a.n,.int .i64 a.d],.agg #[.int .i64 b.n,.int .i64 b.d]] w fun e w' => e = .returned (.tuple #[.agg #[.int .i64 (Zs a b).1.n,.int .i64 (Zs a b).1.d],.int .i64 (Zs a b).2]) ∧ Qc w w':=by
 have NC:=fun ba bb w h1 h2 z => Qf6 a b hia hib ba bb w h1 h2 z
 obtain ⟨R,hR0⟩:=Qe (Zs a b);rw [← hR0];have HR:=zh hR0;clear hR0;rw [show Zs a b = R from HR.out.symm] at NC;clear HR
 go_enter Tryz.func86,Tryz.ntmps86
 go_upto_region 1 with fail
 obtain ⟨v,b1,b2,b3,E,B1,B2,B3,hbr1,hbr2,hbr,hn21,hn31,hn32,hv,hb1,hb2,hb3⟩:=Up w 65 #[.int .i64 a.n,.int .i64 a.d] 65 #[.int .i64 b.n,.int .i64 b.d] 65 #[.int .i64 0,.int .i64 0];rw [← hv,← hb3,← hb2,← hb1];clear hv hb1 hb2 hb3;have Z0:=hZ.ext E;obtain ⟨k0,k1,lk⟩:=Qb.d2 B1;obtain ⟨p0,p1,lp⟩:=Qb.d2 B2;obtain ⟨⟨Rn,Rd⟩,Re⟩:=R;go_wp2_with (first | (go_at_call 132;refine zc (NC _ _ _ B1 B2 Z0) ?_;rintro e wt ⟨rfl,ht⟩;replace E:=E.trans ht;replace B3:=B3.ext ht;have f0:=B3.frozen 0;have f1:=B3.frozen 1;obtain ⟨x0,x1⟩:=B3.c2;have lx:=B3.lt));have H4:=Qo B3 (.int .i64 Rn) (.int .i64 Rd);have EF:=(E.setCell (p:=⟨b3,0,none⟩) hbr (.int .i64 Rn)).setCell (p:=⟨b3,1,none⟩) hbr (.int .i64 Rd)
 obtain ⟨y0,y1⟩:=H4.c2;go_wp2;refine bodyPost_ret (v:=.tuple #[.agg #[.int .i64 Rn,.int .i64 Rd],.int .i64 Re]) Zf rfl ⟨rfl,EF⟩
theorem Qf8 (a b : Rt) (hia : a.In) (hib : b.In) (ba bb : Nat) (w : World) (hA : Qb w ba 65 #[.int .i64 a.n,.int .i64 a.d]) (hB : Qb w bb 65 #[.int .i64 b.n,.int .i64 b.d]) (hZ : Jc w) :
  Calls Tryz.prog 132 #[.agg #[.int .i64 a.n,.int .i64 a.d],.agg #[.int .i64 b.n,.int .i64 b.d],.func (.func 139) #[] #[.pointer (some ⟨ba,0,none⟩),.pointer (some ⟨bb,0,none⟩)]] w fun e w' => e = .returned (.tuple #[.agg #[.int .i64 (Jt a b).1.n,.int .i64 (Jt a b).1.d],.int .i64 (Jt a b).2]) ∧ Qc w w':=by
 have NA:=fun w => Vf a.n a.d hia.1 hia.2.1 hia.2.2.1 hia.2.2.2 w
 have NB:=fun w => Vf b.n b.d hib.1 hib.2.1 hib.2.2.1 hib.2.2.2 w
 rw [show Rt.ok ⟨a.n,a.d⟩ = a.ok from rfl] at NA;rw [show Rt.ok ⟨b.n,b.d⟩ = b.ok from rfl] at NB;have NC:=fun ha hb w h1 h2 z => Qnt a b ha hb ba bb w h1 h2 z
 have HV : Hid (Jt a b = if a.ok && b.ok then Ye (a.n * b.d - b.n * a.d) (a.d * b.d) else (Zr,2)):=rfl;obtain ⟨R,hR0⟩:=Qe (Jt a b);rw [← hR0];have HR:=zh hR0;clear hR0;rw [show Jt a b = R from HR.out.symm] at HV;clear HR
 go_enter Tryz.func132,Tryz.ntmps132
 go_upto_region 1 with fail
 obtain ⟨v,b1,b2,b3,E,B1,B2,B3,hbr1,hbr2,hbr,hn21,hn31,hn32,hv,hb1,hb2,hb3⟩:=Up w 65 #[.int .i64 a.n,.int .i64 a.d] 65 #[.int .i64 b.n,.int .i64 b.d] 65 #[.int .i64 0,.int .i64 0];rw [← hv,← hb3,← hb2,← hb1];clear hv hb1 hb2 hb3;obtain ⟨k0,k1,lk⟩:=Qb.d2 B1;obtain ⟨p0,p1,lp⟩:=Qb.d2 B2;cases ha : a.ok
 ·simp only [ha] at NA;have hr:=HV.out;rw [ha,Bool.false_and,if_neg zD] at hr;subst hr;clear HV NC NB;go_upto_region 2 with (go_at_call 121;refine zc (NA _) ?_;rintro e w2 ⟨rfl,h⟩)
  replace E:=E.trans h;replace B3:=B3.ext h;obtain ⟨f0,f1,x0,x1,lx⟩:=Qb.e2 B3;have H4:=Qo B3 (.int .i64 0) (.int .i64 0);have EF:=(E.setCell (p:=⟨b3,0,none⟩) hbr (.int .i64 0)).setCell (p:=⟨b3,1,none⟩) hbr (.int .i64 0);obtain ⟨y0,y1⟩:=H4.c2;go_wp2;refine bodyPost_ret (v:=.tuple #[.agg #[.int .i64 0,.int .i64 0],.int .i64 2]) Zf rfl ⟨rfl,EF⟩
 ·simp only [ha] at NA;cases hb : b.ok
  ·simp only [hb] at NB;have hr:=HV.out;rw [hb,Bool.and_false,if_neg zD] at hr;subst hr;clear HV NC;go_upto_region 2 with (first | (go_at_call 121;(with_reducible refine zc (NA _) ?_);rintro e w1 ⟨rfl,h1⟩;clear p0 p1 lp;obtain ⟨p0,p1⟩:=(B2.ext h1).c2;have lp:=(B2.ext h1).lt) | (go_at_call 121;(with_reducible refine zc (NB _) ?_);rintro e w2 ⟨rfl,h⟩))
   replace E:=(E.trans h1).trans h;replace B3:=(B3.ext h1).ext h;obtain ⟨f0,f1,x0,x1,lx⟩:=Qb.e2 B3;have H4:=Qo B3 (.int .i64 0) (.int .i64 0);have EF:=(E.setCell (p:=⟨b3,0,none⟩) hbr (.int .i64 0)).setCell (p:=⟨b3,1,none⟩) hbr (.int .i64 0);obtain ⟨y0,y1⟩:=H4.c2;go_wp2;refine bodyPost_ret (v:=.tuple #[.agg #[.int .i64 0,.int .i64 0],.int .i64 2]) Zf rfl ⟨rfl,EF⟩
  ·simp only [hb] at NB;replace NC:=NC ha hb;have hr:=HV.out;rw [ha,hb,Bool.and_true,if_pos rfl] at hr;rw [← hr] at NC;clear HV hr ha hb;obtain ⟨⟨Rn,Rd⟩,Re⟩:=R;go_upto_region 3 with (first | (go_at_call 121;(with_reducible refine zc (NA _) ?_);rintro e w1 ⟨rfl,h1⟩;clear p0 p1 lp;obtain ⟨p0,p1⟩:=(B2.ext h1).c2;have lp:=(B2.ext h1).lt) | (go_at_call 121;(with_reducible refine zc (NB _) ?_);rintro e w2 ⟨rfl,h⟩))
   have e2:=(E.trans h1).trans h;replace B3:=(B3.ext h1).ext h;replace NC:=NC w2 (hA.ext e2) (hB.ext e2) (hZ.ext e2);replace E:=e2;go_wp2_with (first | (go_at_call 139;(with_reducible refine zc (NC) ?_);rintro e wt ⟨rfl,ht⟩;replace E:=E.trans ht;replace B3:=B3.ext ht;have f0:=B3.frozen 0;have f1:=B3.frozen 1;obtain ⟨x0,x1⟩:=B3.c2;have lx:=B3.lt) | (go_at_fn 139;(with_reducible refine zc (NC) ?_);rintro e wt ⟨rfl,ht⟩;replace E:=E.trans ht;replace B3:=B3.ext ht;have f0:=B3.frozen 0;have f1:=B3.frozen 1;obtain ⟨x0,x1⟩:=B3.c2;have lx:=B3.lt));have H4:=Qo B3 (.int .i64 Rn) (.int .i64 Rd);have EF:=(E.setCell (p:=⟨b3,0,none⟩) hbr (.int .i64 Rn)).setCell (p:=⟨b3,1,none⟩) hbr (.int .i64 Rd)
   obtain ⟨y0,y1⟩:=H4.c2;go_wp2;refine bodyPost_ret (v:=.tuple #[.agg #[.int .i64 Rn,.int .i64 Rd],.int .i64 Re]) Zf rfl ⟨rfl,EF⟩
theorem Gg (a b : Rt) (hia : a.In) (hib : b.In) (w : World) (hZ : Jc w) :
  Calls Tryz.prog 89 #[.agg #[.int .i64 a.n,.int .i64 a.d],.agg #[.int .i64 b.n,.int .i64 b.d]] w fun e w' => e = .returned (.tuple #[.agg #[.int .i64 (Jt a b).1.n,.int .i64 (Jt a b).1.d],.int .i64 (Jt a b).2]) ∧ Qc w w':=by
 have NC:=fun ba bb w h1 h2 z => Qf8 a b hia hib ba bb w h1 h2 z
 obtain ⟨R,hR0⟩:=Qe (Jt a b);rw [← hR0];have HR:=zh hR0;clear hR0;rw [show Jt a b = R from HR.out.symm] at NC;clear HR
 go_enter Tryz.func89,Tryz.ntmps89
 go_upto_region 1 with fail
 obtain ⟨v,b1,b2,b3,E,B1,B2,B3,hbr1,hbr2,hbr,hn21,hn31,hn32,hv,hb1,hb2,hb3⟩:=Up w 65 #[.int .i64 a.n,.int .i64 a.d] 65 #[.int .i64 b.n,.int .i64 b.d] 65 #[.int .i64 0,.int .i64 0];rw [← hv,← hb3,← hb2,← hb1];clear hv hb1 hb2 hb3;have Z0:=hZ.ext E;obtain ⟨k0,k1,lk⟩:=Qb.d2 B1;obtain ⟨p0,p1,lp⟩:=Qb.d2 B2;obtain ⟨⟨Rn,Rd⟩,Re⟩:=R;go_wp2_with (first | (go_at_call 132;refine zc (NC _ _ _ B1 B2 Z0) ?_;rintro e wt ⟨rfl,ht⟩;replace E:=E.trans ht;replace B3:=B3.ext ht;have f0:=B3.frozen 0;have f1:=B3.frozen 1;obtain ⟨x0,x1⟩:=B3.c2;have lx:=B3.lt));have H4:=Qo B3 (.int .i64 Rn) (.int .i64 Rd);have EF:=(E.setCell (p:=⟨b3,0,none⟩) hbr (.int .i64 Rn)).setCell (p:=⟨b3,1,none⟩) hbr (.int .i64 Rd)
 obtain ⟨y0,y1⟩:=H4.c2;go_wp2;refine bodyPost_ret (v:=.tuple #[.agg #[.int .i64 Rn,.int .i64 Rd],.int .i64 Re]) Zf rfl ⟨rfl,EF⟩
theorem Qgv (a b : Rt) (hia : a.In) (hib : b.In) (w : World) :
  Calls Tryz.prog 185 #[.agg #[.int .i64 a.n,.int .i64 a.d],.agg #[.int .i64 b.n,.int .i64 b.d]] w fun e w' => e = .returned (.tuple #[.int .i64 (Uu a b).1,.int .i64 (Uu a b).2]) ∧ Qc w w':=by
 have NA:=fun w => Vf a.n a.d hia.1 hia.2.1 hia.2.2.1 hia.2.2.2 w
 have NB:=fun w => Vf b.n b.d hib.1 hib.2.1 hib.2.2.1 hib.2.2.2 w
 rw [show Rt.ok ⟨a.n,a.d⟩ = a.ok from rfl] at NA;rw [show Rt.ok ⟨b.n,b.d⟩ = b.ok from rfl] at NB;have HV : Hid (Uu a b = if a.ok && b.ok then (Mb (a.n * b.d) (b.n * a.d),0) else (0,2)):=rfl;obtain ⟨R,hR0⟩:=Qe (Uu a b);rw [← hR0] at HV ⊢;clear hR0;cases ha : a.ok
 ·simp only [ha] at NA;have hr:=HV.out;rw [ha,Bool.false_and,if_neg zD] at hr;subst hr;clear HV NB
  go_enter Tryz.func185,Tryz.ntmps185
  go_upto_region 1 with fail
  obtain ⟨v,b1,b2,E,B1,B2,hbr1,hbr,hn21,hv,hb1,hb2⟩:=Jy w 65 #[.int .i64 a.n,.int .i64 a.d] 65 #[.int .i64 b.n,.int .i64 b.d];rw [← hv,← hb2,← hb1];clear hv hb1 hb2;obtain ⟨k0,k1,lk⟩:=Qb.d2 B1;obtain ⟨p0,p1,lp⟩:=Qb.d2 B2;go_wp2_with (go_at_call 121;refine zc (NA _) ?_;rintro e w2 ⟨rfl,h⟩);go_ret2;exact ⟨rfl,E.trans h⟩
 ·simp only [ha] at NA;cases hb : b.ok
  ·simp only [hb] at NB;have hr:=HV.out;rw [hb,Bool.and_false,if_neg zD] at hr;subst hr;clear HV
   go_enter Tryz.func185,Tryz.ntmps185
   go_upto_region 1 with fail
   obtain ⟨v,b1,b2,E,B1,B2,hbr1,hbr,hn21,hv,hb1,hb2⟩:=Jy w 65 #[.int .i64 a.n,.int .i64 a.d] 65 #[.int .i64 b.n,.int .i64 b.d];rw [← hv,← hb2,← hb1];clear hv hb1 hb2;obtain ⟨k0,k1,lk⟩:=Qb.d2 B1;obtain ⟨p0,p1,lp⟩:=Qb.d2 B2;go_wp2_with (first | (go_at_call 121;(with_reducible refine zc (NA _) ?_);rintro e w1 ⟨rfl,h1⟩;clear p0 p1 lp;obtain ⟨p0,p1⟩:=(B2.ext h1).c2;have lp:=(B2.ext h1).lt) | (go_at_call 121;(with_reducible refine zc (NB _) ?_);rintro e w2 ⟨rfl,h⟩));go_ret2;exact ⟨rfl,(E.trans h1).trans h⟩
  ·simp only [hb] at NB;have hr := HV.out;rw [ha, hb, Bool.and_true, if_pos rfl] at hr;obtain ⟨m1, m2, _, _⟩ := Vh ha hb;obtain ⟨m5, m6, _, _⟩ := Vh hb ha;have v1 : IntKind.i64.wrap (a.n * b.d) = a.n * b.d := Z6 Qa Qa;have v2 : IntKind.i64.wrap (b.n * a.d) = b.n * a.d := Z6 Qa Qa;have hc : Hid (R.1 = Mb (a.n * b.d) (b.n * a.d) ∧ R.2 = 0) := ⟨by rw [hr], by rw [hr]⟩;clear HV hr ha hb hia hib;generalize hx : a.n * b.d = x at *;generalize hy : b.n * a.d = y at *;replace hx := zh hx;replace hy := zh hy
   go_enter Tryz.func185,Tryz.ntmps185
   go_upto_region 1 with fail
   obtain ⟨v,b1,b2,E,B1,B2,hbr1,hbr,hn21,hv,hb1,hb2⟩:=Jy w 65 #[.int .i64 a.n,.int .i64 a.d] 65 #[.int .i64 b.n,.int .i64 b.d];rw [← hv,← hb2,← hb1];clear hv hb1 hb2;obtain ⟨k0,k1,lk⟩:=Qb.d2 B1;obtain ⟨p0,p1,lp⟩:=Qb.d2 B2;go_upto_region 3 with (first | (go_at_call 121;(with_reducible refine zc (NA _) ?_);rintro e w1 ⟨rfl,h1⟩;clear p0 p1 lp;obtain ⟨p0,p1⟩:=(B2.ext h1).c2;have lp:=(B2.ext h1).lt) | (go_at_call 121;(with_reducible refine zc (NB _) ?_);rintro e w2 ⟨rfl,h⟩))
   replace E:=(E.trans h1).trans h;replace B1:=(B1.ext h1).ext h;replace B2:=(B2.ext h1).ext h;clear k0 k1 lk p0 p1 lp h h1;obtain ⟨k0,k1,lk⟩:=Qb.d2 B1;obtain ⟨p0,p1,lp⟩:=Qb.d2 B2;have x1:=hx.out;have y1:=hy.out;refine Qy w2 ?_;intro w3 h3;obtain ⟨_,_,_,_⟩:=Qv w2 h3;clear x1 y1;by_cases c1 : x < y
   ·have g1 : decide (x < y) = true:=zt c1;have hR : R = (-1,0):=Prod.ext (by rw [hc.out.1,Mb,if_pos c1]) hc.out.2;subst hR;clear c1 hc;go_wp2;go_ret2;exact ⟨rfl,E.trans h3⟩
   ·have g1 : decide (x < y) = false:=zf c1;by_cases c2 : y < x
    ·have g2 : decide (y < x) = true:=zt c2;have hR : R = (1,0):=Prod.ext (by rw [hc.out.1,Mb,if_neg c1,if_pos c2]) hc.out.2;subst hR;clear c1 c2 hc;go_wp2;go_ret2;exact ⟨rfl,E.trans h3⟩
    ·have g2 : decide (y < x) = false:=zf c2;have hR : R = (0,0):=Prod.ext (by rw [hc.out.1,Mb,if_neg c1,if_neg c2]) hc.out.2;subst hR;clear c1 c2 hc;go_wp2;go_ret2;exact ⟨rfl,E.trans h3⟩
theorem Qa4 (a b : Rt) (hia : a.In) (hib : b.In) (w : World) :
  Calls Tryz.prog 160 #[.agg #[.int .i64 a.n,.int .i64 a.d],.agg #[.int .i64 b.n,.int .i64 b.d]] w fun e w' => e = .returned (.bool (decide ((Uu a b).1 < 0))) ∧ Qc w w':=by
 have NC:=fun w => Qgv a b hia hib w
 generalize Uu a b = R at *;obtain ⟨R1,R2⟩:=R
 go_enter Tryz.func160,Tryz.ntmps160
 go_upto_region 1 with fail
 obtain ⟨v,b1,b2,E,B1,B2,hbr1,hbr,hn21,hv,hb1,hb2⟩:=Jy w 65 #[.int .i64 a.n,.int .i64 a.d] 65 #[.int .i64 b.n,.int .i64 b.d];rw [← hv,← hb2,← hb1];clear hv hb1 hb2;obtain ⟨k0,k1,lk⟩:=Qb.d2 B1;obtain ⟨p0,p1,lp⟩:=Qb.d2 B2;go_wp2_with (go_at_call 185;refine zc (NC _) ?_;rintro e w2 ⟨rfl,h⟩);go_ret;exact ⟨rfl,E.trans h⟩
section
variable {W : World} {b : Nat} {t : TypeId} {v0 v1 v2 v3 v4 v5 v6 v7 : Value}
theorem Qb.c6 (h : Qb W b t #[v0,v1,v2,v3,v4,v5]) : W.cell? ⟨b,0,none⟩ = some v0 ∧ W.cell? ⟨b,1,none⟩ = some v1 ∧ W.cell? ⟨b,2,none⟩ = some v2 ∧ W.cell? ⟨b,3,none⟩ = some v3 ∧ W.cell? ⟨b,4,none⟩ = some v4 ∧ W.cell? ⟨b,5,none⟩ = some v5:=⟨h.cell 0,h.cell 1,h.cell 2,h.cell 3,h.cell 4,h.cell 5⟩
theorem Qb.c8 (h : Qb W b t #[v0,v1,v2,v3,v4,v5,v6,v7]) : W.cell? ⟨b,0,none⟩ = some v0 ∧ W.cell? ⟨b,1,none⟩ = some v1 ∧ W.cell? ⟨b,2,none⟩ = some v2 ∧ W.cell? ⟨b,3,none⟩ = some v3 ∧ W.cell? ⟨b,4,none⟩ = some v4 ∧ W.cell? ⟨b,5,none⟩ = some v5 ∧ W.cell? ⟨b,6,none⟩ = some v6 ∧ W.cell? ⟨b,7,none⟩ = some v7:=⟨h.cell 0,h.cell 1,h.cell 2,h.cell 3,h.cell 4,h.cell 5,h.cell 6,h.cell 7⟩
end
def Yz (f : Nat → Yi) (i : Nat) : List Value:=[.int .i64 (f i).on.y,.int .i64 (f i).on.m,.bool (f i).on.s,.int .i64 (f i).on.d,.int .i64 (f i).n.n,.int .i64 (f i).n.d]
theorem Hm (A A' : OA) (ca cb : Nat) (c : Qd) (w : World) (hC : Za w A ca A' cb c) :
  Calls Tryz.prog 64 #[.agg #[.slice A c.nk ca,.slice A' c.ny cb]] w fun e w' => e = .returned (.tuple #[.agg #[.slice A c.nk ca,.slice A' c.ny cb],.int .i64 c.chk]) ∧ Qc w w':=by
 go_enter Tryz.func64,Tryz.ntmps64
 go_upto_region 1 with fail
 obtain ⟨v,b1,b2,E,B1,B2,hbr1,hbr,hn21,hv,hb1,hb2⟩:=Jy w 25 #[.slice A c.nk ca,.slice A' c.ny cb] 130 #[.slice none 0 0,.slice none 0 0];rw [← hv,← hb2,← hb1];clear hv hb1 hb2;have C:=hC.ext E;refine Zc 6 [4,5] (fun x => Qc v x) mixed rfl ?_;intro vz hvz;have HC:=hvz;refine Qs (g:=3) [0,1,2] HC ?_
 constructor
 refine ⟨fun u hu => ?_,?_⟩
 ·obtain ⟨k0,k1,lk⟩:=Qb.d2 (B1.ext hu);exact Qk
 refine Qj 3 ?_;go_wp2_with (go_at_call 115;refine zc (Qgn A A' ca cb c _ (C.ext HC)) ?_;rintro e va ⟨rfl,h4⟩);replace HC:=HC.trans h4;clear h4;refine Qf HC ?_;refine Qr 4 ?_;replace B2:=B2.ext HC;replace E:=E.trans HC;obtain ⟨f0,f1,x0,x1,lx⟩:=Qb.e2 B2;have H4:=Qo B2 (.slice A c.nk ca) (.slice A' c.ny cb);have EF:=(E.setCell (p:=⟨b2,0,none⟩) hbr (.slice A c.nk ca)).setCell (p:=⟨b2,1,none⟩) hbr (.slice A' c.ny cb);obtain ⟨y0,y1⟩:=H4.c2;go_wp2;refine Qq ?_;refine Qr 5 ?_;go_wp2;refine Qq ?_;refine Qx ?_;go_wp2;refine bodyPost_ret (v:=.tuple #[.agg #[.slice A c.nk ca,.slice A' c.ny cb],.int .i64 c.chk]) Zf rfl ⟨rfl,EF⟩
theorem Xr (A A' : OA) (ca cb : Nat) (c : Qd) (d : Dt) (w : World) (hC : Za w A ca A' cb c) :
  Calls Tryz.prog 48 #[.agg #[.slice A c.nk ca,.slice A' c.ny cb],.agg #[.int .i64 d.y,.int .i64 d.m,.bool d.s,.int .i64 d.d]] w fun e w' => e = .returned (.int .i64 (c.numV d)) ∧ Qc w w':=by
 have NN:=fun w h => Qlw A A' ca cb c d w h
 go_enter Tryz.func48,Tryz.ntmps48
 go_upto_region 1 with fail
 obtain ⟨v,b1,b2,E,B1,B2,hbr1,hbr,hn21,hv,hb1,hb2⟩:=Jy w 130 #[.slice A c.nk ca,.slice A' c.ny cb] 51 #[.int .i64 d.y,.int .i64 d.m,.bool d.s,.int .i64 d.d];rw [← hv,← hb2,← hb1];clear hv hb1 hb2;have C:=hC.ext E;obtain ⟨k0,k1,lk⟩:=Qb.d2 B1;obtain ⟨p0,p1,p2,p3,lp⟩:=Qb.d4 B2;go_wp2_with (go_at_call 100;refine zc (NN _ C) ?_;rintro e w2 ⟨rfl,h⟩);go_ret;exact ⟨rfl,E.trans h⟩
theorem Gw (A A' : OA) (ca cb : Nat) (c : Qd) (a b : Dt) (w : World) (hC : Za w A ca A' cb c) :
  Calls Tryz.prog 92 #[.agg #[.slice A c.nk ca,.slice A' c.ny cb],.agg #[.int .i64 a.y,.int .i64 a.m,.bool a.s,.int .i64 a.d],.agg #[.int .i64 b.y,.int .i64 b.m,.bool b.s,.int .i64 b.d]] w fun e w' => e = .returned (.int .i64 (c.schV a b)) ∧ Qc w w':=by
 have NN:=fun w h => Qnh A A' ca cb c a b w h
 go_enter Tryz.func92,Tryz.ntmps92
 go_upto_region 1 with fail
 obtain ⟨v,b1,b2,b3,E,B1,B2,B3,hbr1,hbr2,hbr,hn21,hn31,hn32,hv,hb1,hb2,hb3⟩:=Up w 130 #[.slice A c.nk ca,.slice A' c.ny cb] 51 #[.int .i64 a.y,.int .i64 a.m,.bool a.s,.int .i64 a.d] 51 #[.int .i64 b.y,.int .i64 b.m,.bool b.s,.int .i64 b.d];rw [← hv,← hb3,← hb2,← hb1];clear hv hb1 hb2 hb3;have C:=hC.ext E;obtain ⟨k0,k1,lk⟩:=Qb.d2 B1;obtain ⟨p0,p1,p2,p3,lp⟩:=Qb.d4 B2;obtain ⟨q0,q1,q2,q3,lq⟩:=Qb.d4 B3;go_wp2_with (go_at_call 140;refine zc (NN _ C) ?_;rintro e w2 ⟨rfl,h⟩);go_ret;exact ⟨rfl,E.trans h⟩
theorem Bh (A A' : OA) (ca cb : Nat) (c : Qd) (a b : Dt) (w : World) (hC : Za w A ca A' cb c) :
  Calls Tryz.prog 91 #[.agg #[.slice A c.nk ca,.slice A' c.ny cb],.agg #[.int .i64 a.y,.int .i64 a.m,.bool a.s,.int .i64 a.d],.agg #[.int .i64 b.y,.int .i64 b.m,.bool b.s,.int .i64 b.d]] w fun e w' => e = .returned (.bool (decide (0 < c.numV a) && decide (c.numV a ≤ c.numV b))) ∧ Qc w w':=by
 have N1:=fun w h => Xr A A' ca cb c a w h
 have N2:=fun w h => Xr A A' ca cb c b w h
 generalize c.numV a = x at *;generalize c.numV b = y at *;by_cases h0 : 0 < x
 ·have g0 : decide (0 < x) = true:=zt h0
  go_enter Tryz.func91,Tryz.ntmps91
  go_upto_region 1 with fail
  obtain ⟨v,b1,b2,b3,E,B1,B2,B3,hbr1,hbr2,hbr,hn21,hn31,hn32,hv,hb1,hb2,hb3⟩:=Up w 130 #[.slice A c.nk ca,.slice A' c.ny cb] 51 #[.int .i64 a.y,.int .i64 a.m,.bool a.s,.int .i64 a.d] 51 #[.int .i64 b.y,.int .i64 b.m,.bool b.s,.int .i64 b.d];rw [← hv,← hb3,← hb2,← hb1];clear hv hb1 hb2 hb3;have C:=hC.ext E;obtain ⟨k0,k1,lk⟩:=Qb.d2 B1;obtain ⟨p0,p1,p2,p3,lp⟩:=Qb.d4 B2;obtain ⟨q0,q1,q2,q3,lq⟩:=Qb.d4 B3;go_wp2_with (first | (go_at_call 48;(with_reducible refine zc (N1 _ C) ?_);rintro e w1 ⟨rfl,h1⟩;clear k0 k1 lk p0 p1 p2 p3 lp q0 q1 q2 q3 lq;obtain ⟨k0,k1⟩:=(B1.ext h1).c2;have lk:=(B1.ext h1).lt;obtain ⟨q0,q1,q2,q3⟩:=(B3.ext h1).c4;have lq:=(B3.ext h1).lt) | (go_at_call 48;(with_reducible refine zc (N2 _ (C.ext h1)) ?_);rintro e w2 ⟨rfl,h2⟩))
  go_ret;exact ⟨by rw [g0];rfl,(E.trans h1).trans h2⟩
 ·have g0 : decide (0 < x) = false:=zf h0
  go_enter Tryz.func91,Tryz.ntmps91
  go_upto_region 1 with fail
  obtain ⟨v,b1,b2,b3,E,B1,B2,B3,hbr1,hbr2,hbr,hn21,hn31,hn32,hv,hb1,hb2,hb3⟩:=Up w 130 #[.slice A c.nk ca,.slice A' c.ny cb] 51 #[.int .i64 a.y,.int .i64 a.m,.bool a.s,.int .i64 a.d] 51 #[.int .i64 b.y,.int .i64 b.m,.bool b.s,.int .i64 b.d];rw [← hv,← hb3,← hb2,← hb1];clear hv hb1 hb2 hb3;have C:=hC.ext E;obtain ⟨k0,k1,lk⟩:=Qb.d2 B1;obtain ⟨p0,p1,p2,p3,lp⟩:=Qb.d4 B2;obtain ⟨q0,q1,q2,q3,lq⟩:=Qb.d4 B3;go_wp2_with (first | (go_at_call 48;refine zc (N1 _ C) ?_;rintro e w1 ⟨rfl,h1⟩;clear k0 k1 lk p0 p1 p2 p3 lp q0 q1 q2 q3 lq;obtain ⟨k0,k1⟩:=(B1.ext h1).c2;have lk:=(B1.ext h1).lt;obtain ⟨q0,q1,q2,q3⟩:=(B3.ext h1).c4;have lq:=(B3.ext h1).lt))
  go_ret;exact ⟨by rw [g0];rfl,E.trans h1⟩
theorem Qj9 (A A' : OA) (ca cb : Nat) (c : Qd) (B : OA) (n cap : Nat) (l : Ln) (f : Nat → Yi) (hp : l.p.In) (hr : l.r.In) (hin : ∀ i,i < n → (f i).n.In) (w : World) (hC : Za w A ca A' cb c) (hB : Qm w B n 6 (Yz f)) (hn : n ≤ 9223372036854775807) :
  Calls Tryz.prog 116 #[.agg #[.slice A c.nk ca,.slice A' c.ny cb],.agg #[.int .i64 l.p.n,.int .i64 l.p.d,.int .i64 l.r.n,.int .i64 l.r.d,.int .i64 l.f.y,.int .i64 l.f.m,.bool l.f.s,.int .i64 l.f.d],.slice B n cap] w fun e w' => e = .returned (.bool (c.loanOk l f n)) ∧ Qc w w':=by
 have N0:=fun w h => Xr A A' ca cb c l.f w h
 have NP:=fun w => Rr l.p hp w
 have NS:=fun w => Gc l.r hr w
 obtain ⟨R,hR0⟩:=Qe (c.loanOk l f n);rw [← hR0];have HR:=zh hR0;clear hR0
 go_enter Tryz.func116,Tryz.ntmps116
 go_upto_region 1 with fail
 obtain ⟨v,b1,b2,E,B1,B2,hbr1,hbr,hn21,hv,hb1,hb2⟩:=Jy w 130 #[.slice A c.nk ca,.slice A' c.ny cb] 67 #[.int .i64 l.p.n,.int .i64 l.p.d,.int .i64 l.r.n,.int .i64 l.r.d,.int .i64 l.f.y,.int .i64 l.f.m,.bool l.f.s,.int .i64 l.f.d];rw [← hv,← hb2,← hb1];clear hv hb1 hb2;have C:=hC.ext E;have RB:=hB.ext E;clear hC hB;obtain ⟨k0,k1,lk⟩:=Qb.d2 B1;obtain ⟨p0,p1,p2,p3,p4,p5,p6,p7,lp⟩:=Qb.d8 B2;go_upto_region 2 with (go_at_call 48;refine zc (N0 _ C) ?_;rintro e w1 ⟨rfl,h⟩)
 replace E:=E.trans h;replace C:=C.ext h;replace RB:=RB.ext h;replace B1:=B1.ext h;replace B2:=B2.ext h;clear h k0 k1 lk p0 p1 p2 p3 p4 p5 p6 p7 lp;obtain ⟨k0,k1,lk⟩:=Qb.d2 B1;obtain ⟨p0,p1,p2,p3,p4,p5,p6,p7,lp⟩:=Qb.d8 B2;cases g1 : l.p.pos
 ·have hr : R = false := by rw [HR.out]; unfold Qd.loanOk; rw [g1]; rfl
  simp only [g1] at NP;subst hr;clear HR g1;go_wp2_with (go_at_call 67;refine zc (NP _) ?_;rintro e w2 ⟨rfl,h2⟩;clear p0 p1 p2 p3 p4 p5 p6 p7 lp;obtain ⟨p0,p1,p2,p3,p4,p5,p6,p7⟩:=(B2.ext h2).c8;have lp:=(B2.ext h2).lt);go_ret;exact ⟨rfl,E.trans h2⟩
 ·simp only [g1] at NP;cases g2 : l.r.shr
  ·have hr : R = false := by rw [HR.out]; unfold Qd.loanOk; rw [g2, Bool.and_false]; rfl
   simp only [g2] at NS;subst hr;clear HR g1 g2;go_wp2_with (first | (go_at_call 67;refine zc (NP _) ?_;rintro e w2 ⟨rfl,h2⟩;clear p0 p1 p2 p3 p4 p5 p6 p7 lp;obtain ⟨p0,p1,p2,p3,p4,p5,p6,p7⟩:=(B2.ext h2).c8;have lp:=(B2.ext h2).lt) | (go_at_call 90;refine zc (NS _) ?_;rintro e w3 ⟨rfl,h3⟩));go_ret;exact ⟨rfl,(E.trans h2).trans h3⟩
  ·simp only [g2] at NS;by_cases g3 : c.numV l.f = 0
   ·have hr : R = false := by rw [HR.out]; unfold Qd.loanOk; rw [zf (fun h => h g3), Bool.and_false]; rfl
    have g4 : (c.numV l.f == 0) = true:=by rw [g3];rfl
    subst hr;clear HR g1 g2 g3;generalize c.numV l.f = L0 at *;go_wp2_with (first | (go_at_call 67;refine zc (NP _) ?_;rintro e w2 ⟨rfl,h2⟩;clear p0 p1 p2 p3 p4 p5 p6 p7 lp;obtain ⟨p0,p1,p2,p3,p4,p5,p6,p7⟩:=(B2.ext h2).c8;have lp:=(B2.ext h2).lt) | (go_at_call 90;refine zc (NS _) ?_;rintro e w3 ⟨rfl,h3⟩));go_ret;exact ⟨rfl,(E.trans h2).trans h3⟩
   ·have g4 : (c.numV l.f == 0) = false:=zb g3
    have HR2 : Hid (R = (List.range n).all fun i => (f i).n.pos && decide (c.numV (V1 l f i) ≤ c.numV (f i).on)):=by
     unfold Hid;rw [HR.out];unfold Qd.loanOk;rw [g1,g2,zt g3];rfl
    clear HR g1 g2 g3;go_upto_region 5 with (first | (go_at_call 67;refine zc (NP _) ?_;rintro e w2 ⟨rfl,h2⟩;clear p0 p1 p2 p3 p4 p5 p6 p7 lp;obtain ⟨p0,p1,p2,p3,p4,p5,p6,p7⟩:=(B2.ext h2).c8;have lp:=(B2.ext h2).lt) | (go_at_call 90;refine zc (NS _) ?_;rintro e w3 ⟨rfl,h3⟩))
    replace E:=(E.trans h2).trans h3;replace C:=(C.ext h2).ext h3;replace RB:=(RB.ext h2).ext h3;replace B1:=(B1.ext h2).ext h3;clear h2 h3 k0 k1 lk p0 p1 p2 p3 p4 p5 p6 p7 lp B2 NP NS N0 g4;obtain ⟨vl,rfl⟩:=Qe w3
    go_loopw [7,31] (fun lv iv wr => ∃ k : Nat,k ≤ n ∧ iv = .int .i64 k ∧ lv = .int .i64 (c.numV (V1 l f k)) ∧ Hid (∀ j,j < k → ((f j).n.pos && decide (c.numV (V1 l f j) ≤ c.numV (f j).on)) = true) ∧ Qc vl wr) (fun _ i _ => n - (intOf i).toNat)
    case atStart => exact ⟨0,Nat.zero_le _,rfl,rfl,(fun j h => absurd h Qa),Qc.refl _⟩
    case round =>
     obtain ⟨k,hk,rfl,rfl,hall,hE⟩:=hrel;obtain ⟨wo,rfl⟩:=Qe wr;by_cases hlt : k < n
     ·obtain ⟨b, off, rfl, hb, hc⟩ := (RB.ext hE) Qa;have c0 : wo.cell? ⟨b, off + k * 6, none⟩ = some (.int .i64 (f k).on.y) := by simpa [Yz] using hc k 0 _ hlt rfl
      have c1 : wo.cell? ⟨b,off + k * 6 + 1,none⟩ = some (.int .i64 (f k).on.m):=by simpa [Yz] using hc k 1 _ hlt rfl
      have c2 : wo.cell? ⟨b,off + k * 6 + 2,none⟩ = some (.bool (f k).on.s):=by simpa [Yz] using hc k 2 _ hlt rfl
      have c3 : wo.cell? ⟨b,off + k * 6 + 3,none⟩ = some (.int .i64 (f k).on.d):=by simpa [Yz] using hc k 3 _ hlt rfl
      have c4 : wo.cell? ⟨b,off + k * 6 + 4,none⟩ = some (.int .i64 (f k).n.n):=by simpa [Yz] using hc k 4 _ hlt rfl
      have c5 : wo.cell? ⟨b,off + k * 6 + 5,none⟩ = some (.int .i64 (f k).n.d):=by simpa [Yz] using hc k 5 _ hlt rfl
      have N1:=fun w h => Xr A A' ca cb c (f k).on w h
      have N2:=fun w => Rr (f k).n (hin k hlt) w
      have hno : Hid (((f k).n.pos && decide (c.numV (V1 l f k) ≤ c.numV (f k).on)) = false → R = false):=fun h => by
       rw [HR2.out];exact List.all_eq_false.2 ⟨k,by simpa using hlt,by rw [h];decide⟩
      have hyes : Hid (((f k).n.pos && decide (c.numV (V1 l f k) ≤ c.numV (f k).on)) = true → ∀ j,j < k + 1 → ((f j).n.pos && decide (c.numV (V1 l f j) ≤ c.numV (f j).on)) = true):=fun h j hj => by
       by_cases e : j = k
       ·subst e;exact h
       ·exact hall.out j Qa
      have hlo : Hid (c.numV (V1 l f (k + 1)) = c.numV (f k).on):=rfl;clear hc hin hall HR2;generalize c.numV (V1 l f k) = L0 at *;generalize c.numV (f k).on = L1 at *;generalize (f k).n.pos = pp at *;go_upto_region 7 with fail
      obtain ⟨v3,hv⟩:=Qe (wo.alloc (.cells #[.int .i64 (f k).on.y,.int .i64 (f k).on.m,.bool (f k).on.s,.int .i64 (f k).on.d,.int .i64 (f k).n.n,.int .i64 (f k).n.d] 78));rw [← hv];have E3 : Qc wo v3:=by rw [hv];exact (Qc.refl _).alloc _
      have H3 : Qb v3 wo.heap.size 78 #[.int .i64 (f k).on.y,.int .i64 (f k).on.m,.bool (f k).on.s,.int .i64 (f k).on.d,.int .i64 (f k).n.n,.int .i64 (f k).n.d]:=by rw [hv];exact Qb.new _ _ _
      clear hv c0 c1 c2 c3 c4 c5;replace hE:=hE.trans E3;clear E3;generalize wo.heap.size = b3 at *;obtain ⟨q0,q1,q2,q3,q4,q5,lq⟩:=Qb.d6 H3;have B1e:=B1.ext hE;obtain ⟨k0,k1,lk⟩:=Qb.d2 B1e;go_upto_region 8 with (go_at_call 48;refine zc (N1 _ (C.ext hE)) ?_;rintro e w4 ⟨rfl,h4⟩)
      replace hE:=hE.trans h4;replace H3:=H3.ext h4;clear h4 q0 q1 q2 q3 q4 q5 lq k0 k1 lk B1e N1;obtain ⟨q0,q1,q2,q3,q4,q5,lq⟩:=Qb.d6 H3;cases pp
      ·have hr:=hno.out rfl;subst hr;clear hno hyes hlo;go_wp2_with (go_at_call 67;refine zc (N2 _) ?_;rintro e w5 ⟨rfl,h5⟩);go_ret;exact ⟨rfl,(E.trans hE).trans h5⟩
      ·by_cases hlt2 : L1 < L0
       ·have g1 : decide (L1 < L0) = true:=zt hlt2;have hr:=hno.out (by rw [zf Qa];rfl);subst hr;clear hno hyes hlo hlt2;go_wp2_with (go_at_call 67;refine zc (N2 _) ?_;rintro e w5 ⟨rfl,h5⟩);go_ret;exact ⟨rfl,(E.trans hE).trans h5⟩
       ·have g1 : decide (L1 < L0) = false:=zf hlt2;have hx:=zh (hyes.out (by rw [zt Qa];rfl));clear hno hyes hlt2;go_wp2_with (go_at_call 67;refine zc (N2 _) ?_;rintro e w5 ⟨rfl,h5⟩);exact ⟨⟨k + 1,Qa,by go_num,by rw [hlo.out],hx,hE.trans h5⟩,zi⟩
     ·obtain rfl : k = n:=Qa
      have hr : R = true:=by
       rw [HR2.out];exact List.all_eq_true.2 fun j hj => hall.out j (by simpa using hj)
      clear HR2 hall hin;subst hr;go_wp2;go_ret;exact ⟨rfl,E.trans hE⟩
theorem Qgk (A A' : OA) (ca cb : Nat) (c : Qd) (B : OA) (n cap : Nat) (l : Ln) (f : Nat → Yi) (hp : l.p.In) (hr : l.r.In) (hin : ∀ i,i < n → (f i).n.In) (w : World) (hC : Za w A ca A' cb c) (hB : Qm w B n 6 (Yz f)) (hn : n ≤ 9223372036854775807) (hv : c.valid = true) :
  Calls Tryz.prog 65 #[.agg #[.slice A c.nk ca,.slice A' c.ny cb],.agg #[.int .i64 l.p.n,.int .i64 l.p.d,.int .i64 l.r.n,.int .i64 l.r.d,.int .i64 l.f.y,.int .i64 l.f.m,.bool l.f.s,.int .i64 l.f.d],.slice B n cap] w fun e w' => e = .returned (.int .i64 (c.loanE l f n)) ∧ Qc w w':=by
 have NL:=fun w h1 h2 => Qj9 A A' ca cb c B n cap l f hp hr hin w h1 h2 hn
 by_cases h64 : 64 < n
 ·have hr : c.loanE l f n = 3 := by unfold Qd.loanE; rw [if_pos hv, if_pos h64]
  have g1 : decide ((64 : Int) < (n : Int)) = true:=zt Qa;rw [hr];clear hr
  go_enter Tryz.func65,Tryz.ntmps65
  go_wp2;go_ret;exact ⟨rfl,Qu⟩
 ·have hr : c.loanE l f n = if c.loanOk l f n then 0 else 80 := by unfold Qd.loanE; rw [if_pos hv, if_neg h64]
  have g1 : decide ((64 : Int) < (n : Int)) = false:=zf Qa;rw [hr];clear hr;cases hk : c.loanOk l f n
  ·simp only [hk] at NL;clear hk
   go_enter Tryz.func65,Tryz.ntmps65
   go_upto_region 1 with fail
   obtain ⟨v,b1,b2,E,B1,B2,hbr1,hbr,hn21,hv,hb1,hb2⟩:=Jy w 130 #[.slice A c.nk ca,.slice A' c.ny cb] 67 #[.int .i64 l.p.n,.int .i64 l.p.d,.int .i64 l.r.n,.int .i64 l.r.d,.int .i64 l.f.y,.int .i64 l.f.m,.bool l.f.s,.int .i64 l.f.d];rw [← hv,← hb2,← hb1];clear hv hb1 hb2;obtain ⟨k0,k1,lk⟩:=Qb.d2 B1;obtain ⟨p0,p1,p2,p3,p4,p5,p6,p7,lp⟩:=Qb.d8 B2;go_wp2_with (go_at_call 116;refine zc (NL _ (hC.ext E) (hB.ext E)) ?_;rintro e w2 ⟨rfl,h9⟩);go_ret;exact ⟨rfl,E.trans h9⟩
  ·simp only [hk] at NL;clear hk
   go_enter Tryz.func65,Tryz.ntmps65
   go_upto_region 1 with fail
   obtain ⟨v,b1,b2,E,B1,B2,hbr1,hbr,hn21,hv,hb1,hb2⟩:=Jy w 130 #[.slice A c.nk ca,.slice A' c.ny cb] 67 #[.int .i64 l.p.n,.int .i64 l.p.d,.int .i64 l.r.n,.int .i64 l.r.d,.int .i64 l.f.y,.int .i64 l.f.m,.bool l.f.s,.int .i64 l.f.d];rw [← hv,← hb2,← hb1];clear hv hb1 hb2;obtain ⟨k0,k1,lk⟩:=Qb.d2 B1;obtain ⟨p0,p1,p2,p3,p4,p5,p6,p7,lp⟩:=Qb.d8 B2;go_wp2_with (go_at_call 116;refine zc (NL _ (hC.ext E) (hB.ext E)) ?_;rintro e w2 ⟨rfl,h9⟩);go_ret;exact ⟨rfl,E.trans h9⟩
end
end Go.Proofs.YtoflcheopfppoaaGreatDoor
