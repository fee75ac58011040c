/- Regions that draw their order: with a tail that writes; and within a round of a range over a function. No program in sight; no conditions. -/
import Derived.Test.YtfchchmmjabjnaaDoorKit
import Derived.StillTail
import Derived.OrdersIn
import Derived.TacticsIn
import Derived.RangeFuncNested
import Derived.RangeFuncBound
import Derived.RangeFuncLeaves
import Derived.OwnWalkIn
import Derived.TacticsInMore
import Derived.LoopNIn
import Derived.LoopIn
namespace Go.Proofs.YtfchchmmjabjnaaDoor
open Go Go.RowKit

section
variable {P : Program} {ops : Array Oper} {md : Region.Mode} {C : World → Prop}

/-! ### A head that is quiet in a class of worlds, and a tail in its order -/
def headAny (P : Program) (md : Region.Mode) (ops : Array Oper) (C : World → Prop) (n : Nat) (L : Array Bool → Act → Prop) : Nat → Array Bool → Act → Prop
  | 0, listed, a => L listed a
  | f + 1, listed, a => Region.ready md ops listed ≠ [] ∧ ∀ i ∈ Region.ready md ops listed, i < n ∧ qOp P ops C i (headAny P md ops C n L f (listed.setIfInBounds i true)) a

theorem wpAny_of_headAny {n g : Nat} {L : Array Bool → Act → Prop} {Q' : Exit → Act → World → Prop} (hL : ∀ listed a w, C w → L listed a → wpAny P md ops Q' g listed a w) :
    ∀ (f : Nat) (listed : Array Bool) (a : Act) (w : World), C w → headAny P md ops C n L f listed a → wpAny P md ops Q' (f + g) listed a w
  | 0, _, _, _, hw, h => by rw [Nat.zero_add]; exact hL _ _ _ hw h
  | f + 1, _, _, _, hw, h => by
    rw [show f + 1 + g = (f + g) + 1 by omega]
    exact ⟨fun h0 => absurd h0 h.1, fun i hi => wpOp_of_qOp hw (fun a' w' hw' h' => wpAny_of_headAny hL f _ a' w' hw' h') (h.2 i hi).2⟩

theorem headAny_first {n i : Nat} {oi : Oper} {v : Value} {L : Array Bool → Act → Prop} (hi : ops[i]? = some oi) (hsel : ∀ (j : Nat) (o : Oper) cs b, ops[j]? = some o → o.op ≠ .select cs b)
    (hs : Region.sinkB md ops n = true) (hc : Region.chainB md ops n = true) (hn : n < ops.size) (hin : i < n) (hdone : ∀ listed a, L listed a → ∀ j ∈ Region.ready md ops listed, n ≤ j) :
    ∀ (f : Nat) (listed : Array Bool) (a : Act), HeadInv md ops n listed →
      (∀ j oj, ops[j]? = some oj → j ≠ i → listed.getD j true = false → (∀ e ∈ oj.after, Region.binds md e = true → e.on ≠ i) → oi.apart ops oj = true) →
      i ∈ Region.ready md ops listed → YieldsIn P ops C oi v a →
      headAny P md ops C n L f (listed.setIfInBounds i true) (a.put oi.dst v) → headAny P md ops C n L (f + 1) listed a := by
  intro f
  induction f with
  | zero =>
    intro listed a inv _ hr hy H
    refine ⟨List.ne_nil_of_mem hr, fun j hj => ?_⟩
    have hjn : j < n := Nat.lt_of_not_le fun h => tail_waits hs hc hn inv _ i rfl hin (mem_ready.1 hr).1 j h hj
    refine ⟨hjn, ?_⟩
    by_cases hji : j = i
    · subst hji; exact hy.qOp hi H
    · exact absurd (hdone _ _ H j (ready_mono hj hji)) (by omega)
  | succ f ih =>
    intro listed a inv hfree hr hy H
    refine ⟨List.ne_nil_of_mem hr, fun j hj => ?_⟩
    have hjn : j < n := Nat.lt_of_not_le fun h => tail_waits hs hc hn inv _ i rfl hin (mem_ready.1 hr).1 j h hj
    refine ⟨hjn, ?_⟩
    by_cases hji : j = i
    · subst hji; exact hy.qOp hi H
    · obtain ⟨hjun, oj, hoj, hall⟩ := mem_ready.1 hj
      have hnot : ∀ e ∈ oj.after, Region.binds md e = true → e.on ≠ i := fun e he hb heq => by
        have h1 := hall e he hb
        rw [heq, getD_both (mem_ready.1 hr).1] at h1
        cases h1
      have h2 := qOp_put hoj (hfree j oj hoj hji hjun hnot) (fun cs b => hsel i oi cs b hi) (fun cs b => hsel j oj cs b hoj) hy (H.2 j (ready_mono hj hji)).2
      refine qOp_mono (fun a' h3 => ih (listed.setIfInBounds j true) a' (inv.set hj hjn) (fun k ok hk hki hun hno => hfree k ok hk hki ?_ hno) (ready_mono hr (Ne.symm hji)) h3.1 ?_) h2
      · by_cases hjk : j = k
        · subst hjk; exact hjun
        · rwa [getD_set_ne true hjk] at hun
      · rw [Array.setIfInBounds_comm _ _ hji]; exact h3.2

theorem headAny_lex {n g : Nat} {Lq : Act → Prop} (hsel : Region.noSelect ops = true) (hs : Region.sinkB md ops n = true) (hc : Region.chainB md ops n = true) (hn : n < ops.size) :
    ∀ (l : List Oper) (k : Nat) (listed : Array Bool) (a : Act), (∀ j, j < l.length → l[j]? = ops[k + j]?) → k + l.length = n → HeadInv md ops n listed →
    Region.lexHead md ops g l.length k listed = true → wpQuiet P ops C Lq l a → headAny P md ops C n (fun listed' a' => Region.seqB md ops g n listed' = true ∧ Lq a') l.length listed a
  | [], k, listed, a, _, hk, _, hB, h => by
    obtain rfl : k = n := by simpa using hk
    exact ⟨by simpa [Region.lexHead] using hB, h⟩
  | o :: l, k, listed, a, hl, hk, inv, hB, h => by
    have h0 : ops[k]? = some o := by simpa using (hl 0 (by simp)).symm
    simp only [List.length_cons, Region.lexHead, Bool.and_eq_true] at hB
    obtain ⟨⟨hr, hf⟩, hB'⟩ := hB
    have hkn : k < n := by simp only [List.length_cons] at hk; omega
    have hr' : k ∈ Region.ready md ops listed := by simpa using hr
    have hst : qOp P ops C k (wpQuiet P ops C Lq l) a := by unfold qOp; simp only [h0]; exact h
    obtain ⟨v, hy, hK⟩ := yieldsIn_of_qOp h0 hst
    exact headAny_first h0 (Region.noSelect_spec hsel) hs hc hn hkn (fun listed' a' hL => seqB_ready hL.1) l.length listed a inv (Region.free_spec h0 hf) hr' hy
      (headAny_lex hsel hs hc hn l (k + 1) _ _ (fun j hj => by have := hl (j + 1) (by simp; omega); simpa [Nat.add_assoc, Nat.add_comm 1 j] using this) (by simp only [List.length_cons] at hk; omega) (inv.set hr' hkn) hB' hK)

theorem headInv0 (md : Region.Mode) (ops : Array Oper) (n : Nat) : HeadInv md ops n (Array.replicate ops.size false) :=
  ⟨by simp, fun _ _ _ hl => (by rw [getD_replicate_false] at hl; cases hl), fun _ _ ht => getD_in (by simpa using ht) (getD_replicate_false _ _)⟩
theorem headAny_region {l : List Oper} {n : Nat} {Lq : Act → Prop} {a : Act} (hB : Region.lexTailB .any l.toArray n = true) (h : wpQuiet P l.toArray C Lq (l.take n) a) :
    n < l.length ∧ headAny P .any l.toArray C n (fun listed' a' => Region.seqB .any l.toArray (l.drop n).length n listed' = true ∧ Lq a') n (Array.replicate l.toArray.size false) a := by
  simp only [Region.lexTailB, Bool.and_eq_true, decide_eq_true_eq] at hB
  obtain ⟨⟨⟨⟨hsel, hn⟩, hs⟩, hc⟩, hlex⟩ := hB
  have hn' : n < l.length := by simpa using hn
  have htl : (l.take n).length = n := by simp; omega
  have hdl : (l.drop n).length = l.toArray.size - n := by simp
  have := headAny_lex (md := .any) (C := C) (g := l.toArray.size - n) hsel hs hc hn (l.take n) 0 _ a (fun j hj => by
    have hj' : j < n := by rw [htl] at hj; exact hj
    simp [hj']) (by simpa using htl) (headInv0 _ _ _) (by rw [htl]; exact hlex) h
  rw [htl] at this
  rw [hdl]
  exact ⟨hn', this⟩
end

theorem XW.drawn (w : World) : ∃ u : XW w, { w with drawn := w.drawn + 1 } = u.w := ⟨⟨{ w with drawn := w.drawn + 1 }, ⟨rfl, rfl, rfl, Nat.le_refl _, fun _ _ => rfl⟩⟩, rfl⟩
/-- A region that draws its order: n operations that are quiet in whatever world is w and new blocks, then the others in their order. -/
theorem wp_region_xs {P : Program} {id : Nat} {Q : Exit → Act → World → Prop} {a : Act} {w : World} {l : List Oper} (n : Nat) (w₀ : World) (hm : P.follows .mixedOrders = true) (hB : Region.lexTailB .any l.toArray n = true) (he : Ext w₀ w)
    (h : Nonempty (XW w) → (∀ (u : XW w) b o, b < w.heap.size → u.w.cell? ⟨b, o, none⟩ = w.cell? ⟨b, o, none⟩) → (∀ (u : XW w) b o, b < w₀.heap.size → u.w.cell? ⟨b, o, none⟩ = w₀.cell? ⟨b, o, none⟩) →
      wpQuiet P l.toArray (fun w' => ∃ u : XW w, w' = u.w) (fun a' => ∀ w', Ext w w' → wpList P l.toArray Q (l.drop n) a' w') (l.take n) a) : (Code.region id l.toArray true).wp P Q a w := by
  obtain ⟨hn, H⟩ := headAny_region hB (h (XW.some w) (fun u => u.cell) (fun u => u.from he))
  refine wp_region_any hm ?_
  have := wpAny_of_headAny (Q' := Q) (g := (l.drop n).length) (fun listed a' w' hw' hL => wpAny_of_seq (md := .any) (Q' := Q) (l.drop n) n listed a' w' (fun j => by simp [List.getElem?_drop]) hL.1 (by
    obtain ⟨u, rfl⟩ := hw'
    exact hL.2 _ u.e)) _ _ _ { w with drawn := w.drawn + 1 } (XW.drawn w) H
  rw [show n + (l.drop n).length = l.toArray.size by simp; omega] at this
  exact this

/-! ### Within a round -/
def noDefer (o : Oper) : Bool := match o.op with | .defer _ => false | _ => true
section
variable {P : Program} {ops : Array Oper} {md : Region.Mode} {C : World → Prop} {l n : Nat}
theorem wpIn_of_quiet {o : Oper} {a : Act} {K : Act → Prop} {K' : Act → World → Prop} {Q' : Exit → Act → World → Prop} {w : World} (hnd : noDefer o = true) (hw : C w) (h : ∀ a w', C w' → K a → K' a w') (hh : o.quiet P a C K) :
    o.wpIn (Fence.wide.inRound l) n P a w K' Q' := by
  obtain ⟨v, h1, h2⟩ := hh
  have h3 := h1 w hw
  refine ⟨fun _ _ => trivial, ?_⟩
  rw [Fence.inRound_round, Oper.semAt_some l _ _ (fun c hc => by simp [noDefer, hc] at hnd)]
  unfold Oper.quietAt at h3
  generalize (execOp a.eval o).run P w = r at *
  cases r with
  | ok x w' =>
    cases x <;> simp only [Oper.quietUpon] at h3 <;> simp only [Oper.uponIn]
    case value u => obtain ⟨e1, e2⟩ := h3; rw [e1, e2]; exact h _ _ hw h2
    case skip => obtain ⟨e1, e2⟩ := h3; rw [e1, ← e2]; exact h _ _ hw h2
    case enter f args =>
      obtain ⟨e1, hc⟩ := h3
      rw [e1]
      refine ⟨fun hd => by simp [Fence.inRound, Fence.wide] at hd, CallsIn.inRound l (callsIn_wide.2 (hc.mono fun e w'' ⟨he, hw''⟩ => ?_))⟩
      subst he
      exact h _ _ hw'' h2
  | halt x w' => simp only [Oper.quietUpon] at h3
theorem wpOpIn_of_q {i : Nat} {a : Act} {K : Act → Prop} {K' : Act → World → Prop} {Q' : Exit → Act → World → Prop} {w : World} (hnd : ops.all noDefer = true) (hC : C w) (h : ∀ a w', C w' → K a → K' a w') (hh : qOp P ops C i K a) :
    wpOpIn (Fence.wide.inRound l) n P ops Q' i K' a w := by
  unfold qOp at hh
  unfold wpOpIn
  split
  · rename_i ho; simp only [ho] at hh; exact h _ _ hC hh
  · rename_i o ho
    simp only [ho] at hh
    split
    · rename_i hw
      simp only [hw, if_true] at hh
      exact wpIn_of_quiet (Array.all_eq_true_iff_forall_mem.1 hnd o (Array.mem_of_getElem? ho)) hC h hh
    · rename_i hw; simp only [hw] at hh; exact ⟨fun _ _ => trivial, h _ _ hC hh⟩
theorem wpAnyIn_of_q {Q : Act → Prop} {Q' : Exit → Act → World → Prop} (hnd : ops.all noDefer = true) (hQ : ∀ a w, C w → Q a → Q' .normal a w) : ∀ (fuel : Nat) (listed : Array Bool) (a : Act) (w : World), C w →
    wpAnyQ P md ops C Q fuel listed a → wpAnyIn (Fence.wide.inRound l) n P md ops Q' fuel listed a w
  | 0, _, _, _, hw, h => ⟨h.1, hQ _ _ hw h.2⟩
  | fuel + 1, _, _, _, hw, h => ⟨fun h0 => hQ _ _ hw (h.1 h0), fun i hi => wpOpIn_of_q hnd hw (fun a' w' hw' => wpAnyIn_of_q hnd hQ fuel _ a' w' hw') (h.2 i hi)⟩
theorem wpAnyIn_of_headAny {k g : Nat} {L : Array Bool → Act → Prop} {Q' : Exit → Act → World → Prop} (hnd : ops.all noDefer = true) (hL : ∀ listed a w, C w → L listed a → wpAnyIn (Fence.wide.inRound l) n P md ops Q' g listed a w) :
    ∀ (f : Nat) (listed : Array Bool) (a : Act) (w : World), C w → headAny P md ops C k L f listed a → wpAnyIn (Fence.wide.inRound l) n P md ops Q' (f + g) listed a w
  | 0, _, _, _, hw, h => by rw [Nat.zero_add]; exact hL _ _ _ hw h
  | f + 1, _, _, _, hw, h => by
    rw [show f + 1 + g = (f + g) + 1 by omega]
    exact ⟨fun h0 => absurd h0 h.1, fun i hi => wpOpIn_of_q hnd hw (fun a' w' hw' h' => wpAnyIn_of_headAny hnd hL f _ a' w' hw' h') (h.2 i hi).2⟩
theorem wpAnyIn_of_seq {Q' : Exit → Act → World → Prop} : ∀ (ls : List Oper) (k : Nat) (listed : Array Bool) (a : Act) (w : World), (∀ j, ls[j]? = ops[k + j]?) →
    Region.seqB md ops ls.length k listed = true → wpListIn (Fence.wide.inRound l) n P ops Q' ls a w → wpAnyIn (Fence.wide.inRound l) n P md ops Q' ls.length listed a w
  | [], _, _, _, _, _, hB, h => ⟨by simpa [Region.seqB] using hB, h⟩
  | o :: ls, k, listed, a, w, hl, hB, h => by
    have h0 : ops[k]? = some o := by simpa using (hl 0).symm
    simp only [List.length_cons, Region.seqB, Bool.and_eq_true, decide_eq_true_eq] at hB
    refine ⟨fun h1 => (by rw [hB.1] at h1; cases h1), fun i hi => ?_⟩
    rw [hB.1] at hi
    obtain rfl : i = k := by simpa using hi
    have hw : wpOpIn (Fence.wide.inRound l) n P ops Q' i (wpListIn (Fence.wide.inRound l) n P ops Q' ls) a w := by unfold wpOpIn; simp only [h0]; exact h
    exact wpOpIn_mono (fun a' w' h' => wpAnyIn_of_seq ls (i + 1) _ a' w' (fun j => by have := hl (j + 1); simpa [Nat.add_assoc, Nat.add_comm 1 j] using this) hB.2 h') hw
theorem wpListIn_of_q {Q : Exit → Act → World → Prop} {Q' : Act → Prop} (hQ : ∀ a w, C w → Q' a → Q .normal a w) :
    ∀ (ls : List Oper) (a : Act) (w : World), ls.all noDefer = true → C w → wpQuiet P ops C Q' ls a → wpListIn (Fence.wide.inRound l) n P ops Q ls a w
  | [], a, w, _, hw, h => hQ a w hw h
  | o :: ls, a, w, hnd, hw, h => by
    simp only [List.all_cons, Bool.and_eq_true] at hnd
    unfold wpQuiet at h
    unfold wpListIn
    split
    · rename_i hc
      rw [if_pos hc] at h
      exact wpIn_of_quiet hnd.1 hw (fun a' w' hw' h' => wpListIn_of_q hQ ls a' w' hnd.2 hw' h') h
    · rename_i hc
      rw [if_neg hc] at h
      exact ⟨fun _ _ => trivial, wpListIn_of_q hQ ls _ w hnd.2 hw h⟩
end

section
variable {P : Program} {id k n : Nat} {Q : Exit → Act → World → Prop} {a : Act} {w : World} {l : List Oper}
theorem wpIn_region_xw (w₀ : World) (hm : P.follows .mixedOrders = true) (hB : fastB l.toArray = true) (hnd : l.toArray.all noDefer = true) (he : Ext w₀ w)
    (h : Nonempty (XW w) → (∀ (u : XW w) b o, b < w.heap.size → u.w.cell? ⟨b, o, none⟩ = w.cell? ⟨b, o, none⟩) → (∀ (u : XW w) b o, b < w₀.heap.size → u.w.cell? ⟨b, o, none⟩ = w₀.cell? ⟨b, o, none⟩) →
      wpQuiet P l.toArray (fun w' => ∃ u : XW w, w' = u.w) (fun a' => ∀ w', Ext w w' → Q .normal a' w') l a) : (Code.region id l.toArray true).wpIn (Fence.wide.inRound k) n P Q a w := by
  have hB' := lexB_of_fast hB
  simp only [Region.lexB, Bool.and_eq_true] at hB'
  have H := wpAnyQ_lex (C := fun w' => ∃ u : XW w, w' = u.w) (md := .any) hB'.1 l 0 (Array.replicate l.toArray.size false) a (by simp) (by simpa using hB'.2) (h (XW.some w) (fun u => u.cell) (fun u => u.from he))
  exact wpIn_region_any hm (wpAnyIn_of_q (C := fun w' => ∃ u : XW w, w' = u.w) (Q := fun a' => ∀ w', Ext w w' → Q .normal a' w') hnd (fun a' w' hu h' => h' w' (by obtain ⟨u, rfl⟩ := hu; exact u.e)) _ _ _ _ (XW.drawn w) (by simpa using H))
theorem wpIn_region_xl (w₀ : World) (hnd : l.all noDefer = true) (he : Ext w₀ w)
    (h : Nonempty (XW w) → (∀ (u : XW w) b o, b < w.heap.size → u.w.cell? ⟨b, o, none⟩ = w.cell? ⟨b, o, none⟩) → (∀ (u : XW w) b o, b < w₀.heap.size → u.w.cell? ⟨b, o, none⟩ = w₀.cell? ⟨b, o, none⟩) →
      wpQuiet P l.toArray (fun w' => ∃ u : XW w, w' = u.w) (fun a' => ∀ w', Ext w w' → Q .normal a' w') l a) : (Code.region id l.toArray false).wpIn (Fence.wide.inRound k) n P Q a w :=
  wpIn_region_lit (wpListIn_of_q (C := fun w' => ∃ u : XW w, w' = u.w) (fun _ w' ⟨u, hu⟩ h => h w' (hu ▸ u.e)) l a w hnd ⟨⟨w, Ext.refl w⟩, rfl⟩ (h (XW.some w) (fun u => u.cell) (fun u => u.from he)))
theorem wpIn_region_xs (m : Nat) (w₀ : World) (hm : P.follows .mixedOrders = true) (hB : Region.lexTailB .any l.toArray m = true) (hnd : l.toArray.all noDefer = true) (he : Ext w₀ w)
    (h : Nonempty (XW w) → (∀ (u : XW w) b o, b < w.heap.size → u.w.cell? ⟨b, o, none⟩ = w.cell? ⟨b, o, none⟩) → (∀ (u : XW w) b o, b < w₀.heap.size → u.w.cell? ⟨b, o, none⟩ = w₀.cell? ⟨b, o, none⟩) →
      wpQuiet P l.toArray (fun w' => ∃ u : XW w, w' = u.w) (fun a' => ∀ w', Ext w w' → wpListIn (Fence.wide.inRound k) n P l.toArray Q (l.drop m) a' w') (l.take m) a) : (Code.region id l.toArray true).wpIn (Fence.wide.inRound k) n P Q a w := by
  obtain ⟨hn, H⟩ := headAny_region hB (h (XW.some w) (fun u => u.cell) (fun u => u.from he))
  refine wpIn_region_any hm ?_
  have := wpAnyIn_of_headAny (l := k) (n := n) (Q' := Q) (g := (l.drop m).length) hnd (fun listed a' w' hw' hL => wpAnyIn_of_seq (l := k) (n := n) (md := .any) (Q' := Q) (l.drop m) m listed a' w' (fun j => by simp [List.getElem?_drop]) hL.1 (by
    obtain ⟨u, rfl⟩ := hw'
    exact hL.2 _ u.e)) _ _ _ { w with drawn := w.drawn + 1 } (XW.drawn w) H
  rw [show m + (l.drop m).length = l.toArray.size by simp; omega] at this
  exact this
end
end Go.Proofs.YtfchchmmjabjnaaDoor
