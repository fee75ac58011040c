/- A region that draws its order: a quiet operation that may come up at any place before it is waited for, others in their order, then quiet ones. No program in sight; no conditions. -/
import Derived.Test.YtfchchmmjabjnaaDoorRm
namespace Go.Proofs.YtfchchmmjabjnaaDoor
open Go Go.RowKit

/-- A post-condition that only the way on can meet. -/
def onQ (R : Act → World → Prop) : Exit → Act → World → Prop
  | .normal, a, w => R a w
  | _, _, _ => False
section
variable {P : Program} {ops : Array Oper} {md : Region.Mode} {C : World → Prop}
theorem onQ_other {R : Act → World → Prop} {Q : Exit → Act → World → Prop} {e : Exit} {a : Act} {w : World} (he : e ≠ .normal) (h : onQ R e a w) : Q e a w := by
  cases e <;> first | exact absurd rfl he | exact False.elim h
theorem onQ_lets {R : Act → World → Prop} (h : LetsOut (onQ R)) : False := by
  obtain ⟨_, _, h⟩ := h
  exact h
def wpSeqC (P : Program) (ops : Array Oper) (C : World → Prop) (R : Act → World → Prop) : List Oper → Act → World → Prop
  | [], a, w => R a w
  | o :: l, a, w => wpList P ops (onQ fun a' w' => C w' ∧ wpSeqC P ops C R l a' w') [o] a w
theorem wpSeqC_go {R : Act → World → Prop} {o : Oper} {l : List Oper} {a : Act} {w : World} (h : wpList P ops (onQ fun a' w' => C w' ∧ wpSeqC P ops C R l a' w') [o] a w) : wpSeqC P ops C R (o :: l) a w := h
theorem wpSeqC_nil {R : Act → World → Prop} {a : Act} {w : World} (h : R a w) : wpSeqC P ops C R [] a w := h
theorem onQ_in {S : Act → World → Prop} {a : Act} {w : World} (h1 : C w) (h2 : S a w) : onQ (fun a' w' => C w' ∧ S a' w') .normal a w := ⟨h1, h2⟩
def StillIn (P : Program) (ops : Array Oper) (C : World → Prop) (o : Oper) (v : Value) (a : Act) : Prop :=
  Region.wanted o (yielded ops a.tmps) = true ∧ ∀ w, C w → o.quietAt P a (fun w' => w' = w) w v
theorem StillIn.wpOp {i : Nat} {o : Oper} {v : Value} {a : Act} (hi : ops[i]? = some o) (hy : StillIn P ops C o v a) {Q : Exit → Act → World → Prop} {K : Act → World → Prop} {w : World} (hw : C w) (h : K (a.put o.dst v) w) : wpOp P ops Q i K a w := by
  unfold Go.wpOp
  simp only [hi, hy.1, if_true]
  refine .inl (Oper.wp_of_quiet (C := fun w' => w' = w) (K := fun a' => a' = a.put o.dst v) rfl (fun a' w' h1 h2 => by rw [h1, h2]; exact h) ⟨v, fun w' h1 => by rw [h1]; exact hy.2 w hw, rfl⟩)
theorem wpOp_of_list1 {i : Nat} {o : Oper} {R : Act → World → Prop} {a : Act} {w : World} (hi : ops[i]? = some o) (h : wpList P ops (onQ R) [o] a w) : wpOp P ops (onQ R) i R a w := by
  unfold Go.wpOp
  simp only [hi]
  unfold wpList at h
  by_cases hw : Region.wanted o (yielded ops a.tmps) = true
  · rw [if_pos hw] at h ⊢
    exact h.imp (Oper.wp_mono fun _ _ h => h) id
  · rw [if_neg hw] at h ⊢
    exact h
theorem wpOp_onQ {i : Nat} {R : Act → World → Prop} {Q : Exit → Act → World → Prop} {K : Act → World → Prop} {a : Act} {w : World} (h : wpOp P ops (onQ R) i K a w) : wpOp P ops Q i K a w := by
  unfold Go.wpOp at *
  split
  · rename_i ho; simp only [ho] at h; exact h
  · rename_i o ho
    simp only [ho] at h
    split
    · rename_i hw
      rw [if_pos hw] at h
      exact h.imp (wp_monoQ (fun _ _ _ he h => onQ_other he h) fun _ _ h => h) fun hl => (onQ_lets hl.2).elim
    · rename_i hw; rw [if_neg hw] at h; exact h
theorem wpOp_putS {j : Nat} {oi oj : Oper} {v : Value} (hj : ops[j]? = some oj) (hap : oi.apart ops oj = true)
    (hsi : ∀ cs b, oi.op ≠ .select cs b) (hsj : ∀ cs b, oj.op ≠ .select cs b) {K R : Act → World → Prop} {Q : Exit → Act → World → Prop} {a : Act} {w : World}
    (hy : StillIn P ops C oi v a) (h : wpOp P ops (onQ R) j K (a.put oi.dst v) w) :
    wpOp P ops Q j (fun a' w' => StillIn P ops C oi v a' ∧ K (a'.put oi.dst v) w') a w := by
  obtain ⟨h1, h2, h3⟩ := Oper.apart_spec hap
  have keep : ∀ (a : Act), StillIn P ops C oi v a → ∀ u, StillIn P ops C oi v (a.put oj.dst u) := fun a hy u => by
    refine ⟨by rw [wanted_put oi a oj.dst u h3]; exact hy.1, fun w hw => ?_⟩
    have := hy.2 w hw
    unfold Oper.quietAt at *
    rw [execOp_put oi hsi a oj.dst u h3]
    exact this
  have keepD : ∀ d, StillIn P ops C oi v { a with defers := d :: a.defers } := fun d => ⟨hy.1, fun w hw => hy.2 w hw⟩
  unfold Go.wpOp at *
  simp only [hj] at *
  rw [wanted_put oj a oi.dst v h1] at h
  split
  · rename_i hw
    rw [if_pos hw] at h
    rcases h with h | hl
    case inr => exact (onQ_lets hl.2).elim
    refine .inl ?_
    unfold Oper.wp at *
    rw [execOp_put oj hsj a oi.dst v h1] at h
    generalize (execOp a.eval oj).run P w = r at *
    cases r with
    | ok n w' =>
      cases n <;> simp only [Oper.upon] at h ⊢
      case value u => exact ⟨keep a hy u, by rw [← Act.put_comm a v u h2]; exact h⟩
      case skip => exact ⟨keep a hy _, by rw [← Act.put_comm a v undef h2]; exact h⟩
      case defer d =>
        refine ⟨keep _ (keepD d) _, ?_⟩
        rw [← Act.put_comm _ v undef h2, ← Act.put_defers]
        exact h
      case enter f args =>
        refine Calls.mono h fun e w'' he => ?_
        cases e with
        | returned u => exact ⟨keep a hy u, by rw [← Act.put_comm a v u h2]; exact he⟩
        | panicked c => exact False.elim he
        | outgrown => exact (onQ_lets he).elim
      case row row args => exact Rows.mono h fun u w'' he => ⟨keep a hy u, by rw [← Act.put_comm a v u h2]; exact he⟩
    | halt x w' =>
      cases x <;> simp only [Oper.upon] at h ⊢
      case panic u => exact False.elim h
  · rename_i hw
    rw [if_neg hw] at h
    exact ⟨keep a hy _, by rw [← Act.put_comm a v undef h2]; exact h⟩

/-! ### The orders -/
def floB (md : Region.Mode) (ops : Array Oper) (r i : Nat) : Nat → Nat → Array Bool → Bool
  | 0, k, L => decide (Region.ready md ops L = [i]) && Region.lexFrom md ops r k (L.setIfInBounds i true)
  | m + 1, k, L => (Region.ready md ops L).contains i && (Region.ready md ops L).all (fun j => j == i || (j == k && (match ops[i]?, ops[k]? with | some oi, some ok => oi.apart ops ok | _, _ => false))) &&
      seqLex md ops r (m + 1) k (L.setIfInBounds i true) && (!(Region.ready md ops L).contains k || floB md ops r i m (k + 1) (L.setIfInBounds k true))
theorem wpAny_of_seqC {R : Act → World → Prop} (hs : Region.noSelect ops = true) (l2 : List Oper) : ∀ (l : List Oper) (k : Nat) (listed : Array Bool) (a : Act) (w : World), (∀ j, j < l.length → l[j]? = ops[k + j]?) → (∀ j, l2[j]? = ops[k + l.length + j]?) →
    seqLex md ops l2.length l.length k listed = true → wpSeqC P ops C (fun a2 w2 => wpQuiet P ops (fun w' => w' = w2) (fun a3 => R a3 w2) l2 a2) l a w → wpAny P md ops (onQ R) (l.length + l2.length) listed a w
  | [], k, listed, a, w, _, hl2, hB, h => by
    have hB' : Region.lexFrom md ops l2.length k listed = true := hB
    have h' : wpQuiet P ops (fun w' => w' = w) (fun a3 => R a3 w) l2 a := h
    have := wpAnyQ_lex (C := fun w' => w' = w) hs l2 k listed a (fun j => by simpa using hl2 j) hB' h'
    rw [List.length_nil, Nat.zero_add]
    exact wpAny_of_quiet (C := fun w' => w' = w) (fun a' w' hw' h => by rw [hw']; exact h) _ _ _ _ rfl this
  | o :: l, k, listed, a, w, hl, hl2, hB, h => by
    have h0 : ops[k]? = some o := by simpa using (hl 0 (by simp)).symm
    simp only [List.length_cons, seqLex, Bool.and_eq_true, decide_eq_true_eq] at hB
    rw [show (o :: l).length + l2.length = (l.length + l2.length) + 1 by simp only [List.length_cons]; omega]
    refine ⟨fun h1 => (by rw [hB.1] at h1; cases h1), fun i hi => ?_⟩
    rw [hB.1] at hi
    have hik : i = k := by simpa using hi
    subst hik
    unfold wpSeqC at h
    exact wpOp_mono (fun a' w' h' => wpAny_of_seqC hs l2 l (i + 1) _ a' w' (fun j hj => by have := hl (j + 1) (by simp; omega); simpa [Nat.add_assoc, Nat.add_comm 1 j] using this) (fun j => by have := hl2 j; simpa [Nat.add_assoc, Nat.add_comm, Nat.add_left_comm] using this) hB.2 h'.2) (wpOp_onQ (wpOp_of_list1 h0 h))
theorem wpAny_fl {i : Nat} {oi : Oper} {v : Value} (hi : ops[i]? = some oi) {R : Act → World → Prop} (hs : Region.noSelect ops = true) (l2 : List Oper) : ∀ (l : List Oper) (k : Nat) (listed : Array Bool) (a : Act) (w : World), C w → (∀ j, j < l.length → l[j]? = ops[k + j]?) → (∀ j, l2[j]? = ops[k + l.length + j]?) →
    floB md ops l2.length i l.length k listed = true → StillIn P ops C oi v a → wpSeqC P ops C (fun a2 w2 => wpQuiet P ops (fun w' => w' = w2) (fun a3 => R a3 w2) l2 a2) l (a.put oi.dst v) w → wpAny P md ops (onQ R) (l.length + l2.length + 1) listed a w
  | [], k, listed, a, w, hw, _, hl2, hB, hy, h => by
    simp only [List.length_nil, floB, Bool.and_eq_true, decide_eq_true_eq] at hB
    rw [List.length_nil, Nat.zero_add]
    refine ⟨fun h1 => (by rw [hB.1] at h1; cases h1), fun j hj => ?_⟩
    rw [hB.1] at hj
    have hji : j = i := by simpa using hj
    subst hji
    have h' : wpQuiet P ops (fun w' => w' = w) (fun a3 => R a3 w) l2 (a.put oi.dst v) := h
    have := wpAnyQ_lex (md := md) (C := fun w' => w' = w) hs l2 k _ _ (fun j => by simpa using hl2 j) hB.2 h'
    exact hy.wpOp hi hw (wpAny_of_quiet (C := fun w' => w' = w) (fun a' w' hw' h => by rw [hw']; exact h) _ _ _ _ rfl this)
  | o :: l, k, listed, a, w, hw, hl, hl2, hB, hy, h => by
    have h0 : ops[k]? = some o := by simpa using (hl 0 (by simp)).symm
    simp only [List.length_cons, floB, Bool.and_eq_true, List.all_eq_true, Bool.or_eq_true, beq_iff_eq, hi, h0, Bool.not_eq_true', List.contains_iff_mem] at hB
    obtain ⟨⟨⟨hc, hall⟩, hseq⟩, hrest⟩ := hB
    rw [show (o :: l).length + l2.length + 1 = (l.length + l2.length + 1) + 1 by simp only [List.length_cons]; omega]
    refine ⟨fun h1 => (by rw [h1] at hc; cases hc), fun j hj => ?_⟩
    rcases hall j hj with hji | ⟨hjk, hap⟩
    · subst hji
      have := wpAny_of_seqC (md := md) hs l2 (o :: l) k _ _ _ hl hl2 hseq h
      rw [show (o :: l).length + l2.length = l.length + l2.length + 1 by simp only [List.length_cons]; omega] at this
      exact hy.wpOp hi hw this
    · subst hjk
      have hB' : floB md ops l2.length i l.length (j + 1) (listed.setIfInBounds j true) = true := by
        rcases hrest with h1 | h1
        · exact absurd hj (by simpa using h1)
        · exact h1
      unfold wpSeqC at h
      exact wpOp_mono (fun a' w' h' => wpAny_fl hi hs l2 l (j + 1) _ a' w' h'.2.1 (fun j hj => by have := hl (j + 1) (by simp; omega); simpa [Nat.add_assoc, Nat.add_comm 1 j] using this) (fun j => by have := hl2 j; simpa [Nat.add_assoc, Nat.add_comm, Nat.add_left_comm] using this) hB' h'.1 h'.2.2)
        (wpOp_putS (Q := onQ R) h0 hap (fun cs b => Region.noSelect_spec hs i oi cs b hi) (fun cs b => Region.noSelect_spec hs j o cs b h0) hy (wpOp_of_list1 h0 h))
end
theorem wp_region_fl {P : Program} {id : Nat} {Q : Exit → Act → World → Prop} {a : Act} {w : World} {op : Op} {ty : TypeId} {pos : String} {after : Array Edge} {d : Tmp} {l : List Oper} (m : Nat) (v : Value) (w₀ : World) (hm : P.follows .mixedOrders = true)
    (hB : (Region.noSelect (⟨some d, op, ty, pos, after, none⟩ :: l).toArray && decide (m ≤ l.length) && floB .any (⟨some d, op, ty, pos, after, none⟩ :: l).toArray (l.length - m) 0 m 1 (Array.replicate (l.length + 1) false)) = true) (he : Ext w₀ w)
    (h : Nonempty (XW w) → (∀ (u : XW w) b o, b < w.heap.size → u.w.cell? ⟨b, o, none⟩ = w.cell? ⟨b, o, none⟩) → (∀ (u : XW w) b o, b < w₀.heap.size → u.w.cell? ⟨b, o, none⟩ = w₀.cell? ⟨b, o, none⟩) →
      (∀ (u : XW w) (K : Act → Prop), (∀ a', a'.tmps[d]? = some v → K a') → Oper.quiet P ⟨some d, op, ty, pos, after, none⟩ a (fun w' => w' = u.w) K) ∧
      Then P w (some d) v a (fun a' => ∀ w', Ext w w' → wpSeqC P (⟨some d, op, ty, pos, after, none⟩ :: l).toArray (Ext w) (fun a2 w2 => wpQuiet P (⟨some d, op, ty, pos, after, none⟩ :: l).toArray (fun w' => w' = w2) (fun a3 => Q .normal a3 w2) (l.drop m) a2) (l.take m) a' w')) :
    (Code.region id (⟨some d, op, ty, pos, after, none⟩ :: l).toArray true).wp P Q a w := by
  obtain ⟨hq, hT⟩ := h (XW.some w) (fun u => u.cell) (fun u => u.from he)
  simp only [Bool.and_eq_true, decide_eq_true_eq] at hB
  obtain ⟨⟨hsel, hml⟩, hflo⟩ := hB
  have hS := hT.out
  have htl : (l.take m).length = m := by rw [List.length_take]; omega
  have hdl : (l.drop m).length = l.length - m := by rw [List.length_drop]
  refine Code.wp_mono (Q := onQ fun a w => Q .normal a w) (fun e a' w' h' => by cases e <;> first | exact h' | exact False.elim h') (wp_region_any hm ?_)
  have hy : StillIn P (⟨some d, op, ty, pos, after, none⟩ :: l).toArray (Ext w) ⟨some d, op, ty, pos, after, none⟩ v a := by
    refine ⟨by simp [Region.wanted], fun w' e => ?_⟩
    obtain ⟨v', h1, h2⟩ := hq ⟨w', e⟩ (fun a' => a'.tmps[d]? = some v) (fun _ h => h)
    have hv : v' = v := by
      simp only [Act.put] at h2
      rw [Array.getElem?_setIfInBounds, if_pos rfl] at h2
      split at h2
      · exact Option.some.inj h2
      · cases h2
    rw [← hv]
    exact h1 w' rfl
  have hd0 : Ext w { w with drawn := w.drawn + 1 } := ⟨rfl, rfl, rfl, Nat.le_refl _, fun _ _ => rfl⟩
  have := wpAny_fl (md := .any) (P := P) (C := Ext w) (R := fun a w => Q .normal a w) (ops := (⟨some d, op, ty, pos, after, none⟩ :: l).toArray) (i := 0) (v := v) (by simp) hsel (l.drop m) (l.take m) 1 (Array.replicate (l.length + 1) false) a { w with drawn := w.drawn + 1 } hd0
    (fun j hj => by
      rw [htl] at hj
      simp [Nat.add_comm 1 j, hj])
    (fun j => by
      rw [htl]
      simp [List.getElem?_drop, show 1 + m + j = (m + j) + 1 by omega])
    (by rw [hdl, htl]; exact hflo) hy (hS _ hd0)
  rw [htl, hdl, show m + (l.length - m) + 1 = l.length + 1 by omega] at this
  simpa using this
end Go.Proofs.YtfchchmmjabjnaaDoor
