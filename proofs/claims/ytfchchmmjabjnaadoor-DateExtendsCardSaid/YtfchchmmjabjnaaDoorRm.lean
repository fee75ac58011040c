/- A region that draws its order: quiet operations, then some in their order, then quiet ones again. No program in sight; no conditions. -/
import Derived.Test.YtfchchmmjabjnaaDoorRd
namespace Go.Proofs.YtfchchmmjabjnaaDoor
open Go Go.RowKit

/-- A post-condition with another one for the way on. -/
def midQ (Q : Exit → Act → World → Prop) (R : Act → World → Prop) : Exit → Act → World → Prop
  | .normal, a, w => R a w
  | e, a, w => Q e a w
section
variable {P : Program} {ops : Array Oper} {md : Region.Mode} {C : World → Prop}
theorem midQ_other {Q : Exit → Act → World → Prop} {R : Act → World → Prop} {e : Exit} {a : Act} {w : World} (he : e ≠ .normal) (h : midQ Q R e a w) : Q e a w := by
  cases e <;> first | exact absurd rfl he | exact h
theorem wp_monoQ {Q Q' : Exit → Act → World → Prop} (hQ : ∀ e a w, e ≠ .normal → Q e a w → Q' e a w) {o : Oper} {a : Act} {w : World} {K K' : Act → World → Prop} (h : ∀ a w, K a w → K' a w)
    (hh : o.wp P a w K Q) : o.wp P a w K' Q' := by
  have hL : LetsOut Q → LetsOut Q' := fun ⟨a, w, h⟩ => ⟨a, w, hQ _ _ _ (by simp) h⟩
  unfold Oper.wp at *
  generalize (execOp a.eval o).run P w = r at *
  cases r with
  | ok n w' =>
    cases n <;> simp only [Oper.upon] at hh ⊢ <;>
      first
        | exact h _ _ hh
        | exact Calls.mono hh (fun e w'' he => by cases e <;> first | exact h _ _ he | exact hL he | exact hQ _ _ _ (by simp) he)
        | exact Rows.mono hh (fun _ _ he => h _ _ he)
        | exact hh
  | halt x w' => cases x <;> simp only [Oper.upon] at hh ⊢ <;> first | exact hQ _ _ _ (by simp) hh | exact hh
def seqLex (md : Region.Mode) (ops : Array Oper) (r : Nat) : Nat → Nat → Array Bool → Bool
  | 0, k, L => Region.lexFrom md ops r k L
  | m + 1, k, L => decide (Region.ready md ops L = [k]) && seqLex md ops r m (k + 1) (L.setIfInBounds k true)
def lexHd (md : Region.Mode) (ops : Array Oper) (F : Array Bool → Bool) : Nat → Nat → Array Bool → Bool
  | 0, _, L => F L
  | f + 1, k, L => (Region.ready md ops L).contains k && Region.free md ops L k && lexHd md ops F f (k + 1) (L.setIfInBounds k true)
def chain2 (md : Region.Mode) (ops : Array Oper) (n : Nat) : Bool :=
  (List.range ops.size).all fun t => decide (t ≤ n) || (List.range t).any fun s => decide (n ≤ s) && Region.waitsFor md ops t s
theorem tail_waits2 {n : Nat} {listed : Array Bool} (hs : Region.sinkB md ops n = true) (hc : chain2 md ops n = true) (inv : HeadInv md ops n listed) :
    ∀ (d i : Nat), n - i = d → i < n → listed.getD i true = false → ∀ t, n ≤ t → t ∉ Region.ready md ops listed := by
  intro d
  induction d using Nat.strongRecOn with
  | _ d ih =>
    intro i hd hi hun t ht hr
    obtain ⟨_, ot, hot, hall⟩ := mem_ready.1 hr
    have htlt : t < ops.size := (Array.getElem?_eq_some_iff.1 hot).1
    by_cases htn : t = n
    · subst htn
      have h1 := List.all_eq_true.1 hs i (List.mem_range.2 hi)
      obtain ⟨j, hj, hj2⟩ := List.any_eq_true.1 h1
      simp only [Bool.and_eq_true, decide_eq_true_eq] at hj2
      obtain ⟨oj, hoj, e, he, hb, hon⟩ := Region.waitsFor_spec hj2.2
      have hjle : j ≤ t := by have := List.mem_range.1 hj; omega
      by_cases hjt : j = t
      · subst hjt
        have : oj = ot := Option.some.inj (hoj.symm.trans hot)
        subst this
        have h2 := hall e he hb
        rw [hon, getD_both hun] at h2
        cases h2
      · cases hl : listed.getD j false with
        | true =>
          have h2 := inv.closed j oj hoj hl e he hb
          rw [hon, getD_both hun] at h2
          cases h2
        | false =>
          have hjlt : j < listed.size := by rw [inv.size]; omega
          exact ih (t - j) (by omega) j rfl (by omega) (getD_in hjlt hl) t (Nat.le_refl _) hr
    · have h1 := List.all_eq_true.1 hc t (List.mem_range.2 htlt)
      simp only [Bool.or_eq_true, decide_eq_true_eq] at h1
      rcases h1 with h1 | h1
      · omega
      · obtain ⟨s, hs1, hs2⟩ := List.any_eq_true.1 h1
        simp only [Bool.and_eq_true, decide_eq_true_eq] at hs2
        obtain ⟨o2, ho2, e, he, hb, hon⟩ := Region.waitsFor_spec hs2.2
        have : o2 = ot := Option.some.inj (ho2.symm.trans hot)
        subst this
        have h2 := hall e he hb
        have hst := List.mem_range.1 hs1
        rw [hon, getD_both (inv.tail s hs2.1 (by omega))] at h2
        cases h2
theorem headAny_first2 {n i : Nat} {oi : Oper} {v : Value} {L : Array Bool → Act → Prop} (hi : ops[i]? = some oi) (hsel : ∀ (j : Nat) (o : Oper) cs b, ops[j]? = some o → o.op ≠ .select cs b)
    (hs : Region.sinkB md ops n = true) (hc : chain2 md ops n = true) (hin : i < n) (hdone : ∀ listed a, L listed a → ∀ j ∈ Region.ready md ops listed, n ≤ j) :
    ∀ (f : Nat) (listed : Array Bool) (a : Act), HeadInv md ops n listed →
      (∀ j oj, ops[j]? = some oj → j ≠ i → listed.getD j true = false → (∀ e ∈ oj.after, Region.binds md e = true → e.on ≠ i) → oi.apart ops oj = true) →
      i ∈ Region.ready md ops listed → YieldsIn P ops C oi v a →
      headAny P md ops C n L f (listed.setIfInBounds i true) (a.put oi.dst v) → headAny P md ops C n L (f + 1) listed a := by
  intro f
  induction f with
  | zero =>
    intro listed a inv _ hr hy H
    refine ⟨List.ne_nil_of_mem hr, fun j hj => ?_⟩
    have hjn : j < n := Nat.lt_of_not_le fun h => tail_waits2 hs hc inv _ i rfl hin (mem_ready.1 hr).1 j h hj
    refine ⟨hjn, ?_⟩
    by_cases hji : j = i
    · subst hji; exact hy.qOp hi H
    · exact absurd (hdone _ _ H j (ready_mono hj hji)) (by omega)
  | succ f ih =>
    intro listed a inv hfree hr hy H
    refine ⟨List.ne_nil_of_mem hr, fun j hj => ?_⟩
    have hjn : j < n := Nat.lt_of_not_le fun h => tail_waits2 hs hc inv _ i rfl hin (mem_ready.1 hr).1 j h hj
    refine ⟨hjn, ?_⟩
    by_cases hji : j = i
    · subst hji; exact hy.qOp hi H
    · obtain ⟨hjun, oj, hoj, hall⟩ := mem_ready.1 hj
      have hnot : ∀ e ∈ oj.after, Region.binds md e = true → e.on ≠ i := fun e he hb heq => by
        have h1 := hall e he hb
        rw [heq, getD_both (mem_ready.1 hr).1] at h1
        cases h1
      have h2 := qOp_put hoj (hfree j oj hoj hji hjun hnot) (fun cs b => hsel i oi cs b hi) (fun cs b => hsel j oj cs b hoj) hy (H.2 j (ready_mono hj hji)).2
      refine qOp_mono (fun a' h3 => ih (listed.setIfInBounds j true) a' (inv.set hj hjn) (fun k ok hk hki hun hno => hfree k ok hk hki ?_ hno) (ready_mono hr (Ne.symm hji)) h3.1 ?_) h2
      · by_cases hjk : j = k
        · subst hjk; exact hjun
        · rwa [getD_set_ne true hjk] at hun
      · rw [Array.setIfInBounds_comm _ _ hji]; exact h3.2

def midB (ops : Array Oper) (n m : Nat) : Bool :=
  Region.noSelect ops && decide (n + (m + 1) ≤ ops.size) && Region.sinkB .any ops n && chain2 .any ops n && lexHd .any ops (seqLex .any ops (ops.size - (n + (m + 1))) (m + 1) n) n 0 (Array.replicate ops.size false)
theorem seqLex_ready {r m k : Nat} {L : Array Bool} (h : seqLex md ops r (m + 1) k L = true) : ∀ j ∈ Region.ready md ops L, k ≤ j := by
  simp only [seqLex, Bool.and_eq_true, decide_eq_true_eq] at h
  intro j hj
  rw [h.1] at hj
  have : j = k := by simpa using hj
  omega
theorem headAny_lexF {n : Nat} {F : Array Bool → Bool} {Lq : Act → Prop} (hF : ∀ L, F L = true → ∀ j ∈ Region.ready md ops L, n ≤ j) (hsel : Region.noSelect ops = true) (hs : Region.sinkB md ops n = true) (hc : chain2 md ops n = true) :
    ∀ (l : List Oper) (k : Nat) (listed : Array Bool) (a : Act), (∀ j, j < l.length → l[j]? = ops[k + j]?) → k + l.length = n → HeadInv md ops n listed →
    lexHd md ops F l.length k listed = true → wpQuiet P ops C Lq l a → headAny P md ops C n (fun listed' a' => F listed' = true ∧ Lq a') l.length listed a
  | [], k, listed, a, _, hk, _, hB, h => by
    obtain rfl : k = n := by simpa using hk
    exact ⟨by simpa [lexHd] using hB, h⟩
  | o :: l, k, listed, a, hl, hk, inv, hB, h => by
    have h0 : ops[k]? = some o := by simpa using (hl 0 (by simp)).symm
    simp only [List.length_cons, lexHd, Bool.and_eq_true] at hB
    obtain ⟨⟨hr, hf⟩, hB'⟩ := hB
    have hkn : k < n := by simp only [List.length_cons] at hk; omega
    have hr' : k ∈ Region.ready md ops listed := by simpa using hr
    have hst : qOp P ops C k (wpQuiet P ops C Lq l) a := by unfold qOp; simp only [h0]; exact h
    obtain ⟨v, hy, hK⟩ := yieldsIn_of_qOp h0 hst
    exact headAny_first2 h0 (Region.noSelect_spec hsel) hs hc hkn (fun listed' a' hL => hF _ hL.1) l.length listed a inv (Region.free_spec h0 hf) hr' hy
      (headAny_lexF hF hsel hs hc l (k + 1) _ _ (fun j hj => by have := hl (j + 1) (by simp; omega); simpa [Nat.add_assoc, Nat.add_comm 1 j] using this) (by simp only [List.length_cons] at hk; omega) (inv.set hr' hkn) hB' hK)
theorem wpAny_of_mid {Q : Exit → Act → World → Prop} (hs : Region.noSelect ops = true) (l2 : List Oper) : ∀ (l : List Oper) (k : Nat) (listed : Array Bool) (a : Act) (w : World), (∀ j, j < l.length → l[j]? = ops[k + j]?) → (∀ j, l2[j]? = ops[k + l.length + j]?) →
    seqLex md ops l2.length l.length k listed = true → wpList P ops (midQ Q (fun a2 w2 => wpQuiet P ops (fun w' => w' = w2) (fun a3 => Q .normal a3 w2) l2 a2)) l a w → wpAny P md ops Q (l.length + l2.length) listed a w
  | [], k, listed, a, w, _, hl2, hB, h => by
    have hB' : Region.lexFrom md ops l2.length k listed = true := hB
    have h' : wpQuiet P ops (fun w' => w' = w) (fun a3 => Q .normal a3 w) l2 a := h
    have := wpAnyQ_lex (C := fun w' => w' = w) hs l2 k listed a (fun j => by simpa using hl2 j) hB' h'
    rw [List.length_nil, Nat.zero_add]
    exact wpAny_of_quiet (C := fun w' => w' = w) (fun a' w' hw' h => by cases hw'; exact h) _ _ _ _ rfl this
  | o :: l, k, listed, a, w, hl, hl2, hB, h => by
    have h0 : ops[k]? = some o := by simpa using (hl 0 (by simp)).symm
    simp only [List.length_cons, seqLex, Bool.and_eq_true, decide_eq_true_eq] at hB
    rw [show (o :: l).length + l2.length = (l.length + l2.length) + 1 by simp only [List.length_cons]; omega]
    refine ⟨fun h1 => (by rw [hB.1] at h1; cases h1), fun i hi => ?_⟩
    rw [hB.1] at hi
    have hik : i = k := by simpa using hi
    subst hik
    have hK : ∀ a' w', wpList P ops (midQ Q (fun a2 w2 => wpQuiet P ops (fun w' => w' = w2) (fun a3 => Q .normal a3 w2) l2 a2)) l a' w' → wpAny P md ops Q (l.length + l2.length) (listed.setIfInBounds i true) a' w' := fun a' w' h' =>
      wpAny_of_mid hs l2 l (i + 1) _ a' w' (fun j hj => by have := hl (j + 1) (by simp; omega); simpa [Nat.add_assoc, Nat.add_comm 1 j] using this) (fun j => by have := hl2 j; simpa [Nat.add_assoc, Nat.add_comm, Nat.add_left_comm] using this) hB.2 h'
    unfold wpOp
    simp only [h0]
    unfold wpList at h
    split
    · rename_i hw
      rw [if_pos hw] at h
      rcases h with h | ⟨h1, h2⟩
      · exact .inl (wp_monoQ (fun e a w he => midQ_other he) hK h)
      · exact .inr ⟨h1, by obtain ⟨a0, w0, h3⟩ := h2; exact ⟨a0, w0, midQ_other (by simp) h3⟩⟩
    · rename_i hw
      rw [if_neg hw] at h
      exact hK _ _ h
end
theorem wp_region_xm {P : Program} {id : Nat} {Q : Exit → Act → World → Prop} {a : Act} {w : World} {l : List Oper} (n m : Nat) (w₀ : World) (hm : P.follows .mixedOrders = true) (hB : midB l.toArray n m = true) (he : Ext w₀ w)
    (h : Nonempty (XW w) → (∀ (u : XW w) b o, b < w.heap.size → u.w.cell? ⟨b, o, none⟩ = w.cell? ⟨b, o, none⟩) → (∀ (u : XW w) b o, b < w₀.heap.size → u.w.cell? ⟨b, o, none⟩ = w₀.cell? ⟨b, o, none⟩) →
      wpQuiet P l.toArray (fun w' => ∃ u : XW w, w' = u.w) (fun a' => ∀ w', Ext w w' → wpList P l.toArray (midQ Q (fun a2 w2 => wpQuiet P l.toArray (fun w' => w' = w2) (fun a3 => Q .normal a3 w2) (l.drop (n + (m + 1))) a2)) ((l.drop n).take (m + 1)) a' w') (l.take n) a) : (Code.region id l.toArray true).wp P Q a w := by
  have H := h (XW.some w) (fun u => u.cell) (fun u => u.from he)
  simp only [midB, Bool.and_eq_true, decide_eq_true_eq] at hB
  obtain ⟨⟨⟨⟨hsel, hn⟩, hs⟩, hc⟩, hlex⟩ := hB
  have hsz : l.toArray.size = l.length := by simp
  have htl : (l.take n).length = n := by rw [List.length_take]; omega
  have hml : ((l.drop n).take (m + 1)).length = m + 1 := by rw [List.length_take, List.length_drop]; omega
  have hrl : (l.drop (n + (m + 1))).length = l.toArray.size - (n + (m + 1)) := by rw [List.length_drop, hsz]
  have hh := headAny_lexF (md := .any) (n := n) (F := seqLex .any l.toArray (l.toArray.size - (n + (m + 1))) (m + 1) n) (fun L hL => seqLex_ready hL) hsel hs hc (l.take n) 0 (Array.replicate l.toArray.size false) a (fun j hj => by
    have hj' : j < n := by rw [htl] at hj; exact hj
    simp [hj']) (by simpa using htl) (headInv0 _ _ _) (by rw [htl]; exact hlex) H
  rw [htl] at hh
  refine wp_region_any hm ?_
  have := wpAny_of_headAny (Q' := Q) (g := ((l.drop n).take (m + 1)).length + (l.drop (n + (m + 1))).length) (fun listed a' w' hw' hL => by
    obtain ⟨u, rfl⟩ := hw'
    refine wpAny_of_mid (md := .any) hsel (l.drop (n + (m + 1))) ((l.drop n).take (m + 1)) n listed a' u.w (fun j hj => ?_) (fun j => ?_) ?_ (hL.2 _ u.e)
    · rw [hml] at hj
      simp [List.getElem?_drop, hj]
    · rw [hml]; simp [List.getElem?_drop]
    · rw [hml, hrl]; exact hL.1) _ _ _ { w with drawn := w.drawn + 1 } (XW.drawn w) hh
  rw [show n + (((l.drop n).take (m + 1)).length + (l.drop (n + (m + 1))).length) = l.toArray.size by rw [hml, hrl]; omega] at this
  exact this
end Go.Proofs.YtfchchmmjabjnaaDoor
