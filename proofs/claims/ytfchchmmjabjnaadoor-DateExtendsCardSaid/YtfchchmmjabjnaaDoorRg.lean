/- A region that draws its order: operations that leave the world, then two in either order, then one. No program in sight; no conditions. -/
import Derived.Test.YtfchchmmjabjnaaDoorRf
namespace Go.Proofs.YtfchchmmjabjnaaDoor
open Go Go.RowKit

section
variable {P : Program} {ops : Array Oper} {md : Region.Mode} {C : World → Prop}
def wpAnyC (P : Program) (md : Region.Mode) (ops : Array Oper) (C : World → Prop) (R : Act → World → Prop) : Nat → Array Bool → Act → World → Prop
  | 0, L, a, w => Region.ready md ops L = [] ∧ R a w
  | f + 1, L, a, w => (Region.ready md ops L = [] → R a w) ∧ ∀ i ∈ Region.ready md ops L, wpOp P ops (onQ fun _ _ => False) i (fun a' w' => C w' ∧ wpAnyC P md ops C R f (L.setIfInBounds i true) a' w') a w
theorem wpOp_anyQ {i : Nat} {Q : Exit → Act → World → Prop} {K : Act → World → Prop} {a : Act} {w : World} (h : wpOp P ops (onQ fun _ _ => False) i K a w) : wpOp P ops Q i K a w := wpOp_onQ h
theorem wpAny_of_C {R : Act → World → Prop} : ∀ (f : Nat) (L : Array Bool) (a : Act) (w : World), wpAnyC P md ops C R f L a w → wpAny P md ops (onQ R) f L a w
  | 0, _, _, _, h => h
  | f + 1, _, _, _, h => ⟨h.1, fun i hi => wpOp_mono (fun a' w' h' => wpAny_of_C f _ a' w' h'.2) (wpOp_anyQ (h.2 i hi))⟩
/-- An operation that leaves the world may be taken first. -/
theorem wpAnyC_first {R : Act → World → Prop} {i : Nat} {oi : Oper} {v : Value} (hi : ops[i]? = some oi) (hsel : ∀ (j : Nat) (o : Oper) cs b, ops[j]? = some o → o.op ≠ .select cs b) :
    ∀ (f : Nat) (L : Array Bool) (a : Act) (w : World),
      (∀ j oj, ops[j]? = some oj → j ≠ i → L.getD j true = false → (∀ e ∈ oj.after, Region.binds md e = true → e.on ≠ i) → oi.apart ops oj = true) →
      i ∈ Region.ready md ops L → C w → StillIn P ops C oi v a →
      wpAnyC P md ops C R f (L.setIfInBounds i true) (a.put oi.dst v) w → wpAnyC P md ops C R (f + 1) L a w := by
  intro f
  induction f with
  | zero =>
    intro L a w _ hr hw hy H
    refine ⟨fun h => (by rw [h] at hr; cases hr), fun j hj => ?_⟩
    by_cases hji : j = i
    · subst hji; exact hy.wpOp hi hw ⟨hw, H⟩
    · have := ready_mono hj hji
      rw [H.1] at this
      cases this
  | succ f ih =>
    intro L a w hfree hr hw hy H
    refine ⟨fun h => (by rw [h] at hr; cases hr), fun j hj => ?_⟩
    by_cases hji : j = i
    · subst hji; exact hy.wpOp hi hw ⟨hw, H⟩
    · have h1 := H.2 j (ready_mono hj hji)
      obtain ⟨hjun, oj, hoj, hall⟩ := mem_ready.1 hj
      have hnot : ∀ e ∈ oj.after, Region.binds md e = true → e.on ≠ i := fun e he hb heq => by
        have h1 := hall e he hb
        rw [heq, getD_both (mem_ready.1 hr).1] at h1
        cases h1
      have h2 := wpOp_putS (Q := onQ fun _ _ => False) hoj (hfree j oj hoj hji hjun hnot) (fun cs b => hsel i oi cs b hi) (fun cs b => hsel j oj cs b hoj) hy h1
      have hfree' : ∀ k ok, ops[k]? = some ok → k ≠ i → (L.setIfInBounds j true).getD k true = false → (∀ e ∈ ok.after, Region.binds md e = true → e.on ≠ i) → oi.apart ops ok = true := fun k ok hk hki hun hno => by
        refine hfree k ok hk hki ?_ hno
        by_cases hjk : j = k
        · subst hjk; exact hjun
        · rw [getD_set_ne true hjk] at hun; exact hun
      refine wpOp_mono (fun a' w' h3 => ⟨h3.2.1, ih (L.setIfInBounds j true) a' w' hfree' (ready_mono hr (Ne.symm hji)) h3.2.1 h3.1 ?_⟩) h2
      rw [Array.setIfInBounds_comm _ _ hji]
      exact h3.2.2

/-! ### The values of the operations that leave the world -/
def dstsB : List Oper → Bool
  | [] => true
  | o :: l => o.guard.isNone && (match o.dst with | some d => l.all fun q => q.dst != some d | none => false) && dstsB l
theorem quiet_keeps {A : Act} {w : World} {d : Tmp} : ∀ (l : List Oper) (a : Act), (l.all fun q => q.dst != some d) = true → wpQuiet P ops (fun w' => w' = w) (fun a' => a' = A) l a → A.tmps[d]? = a.tmps[d]?
  | [], a, _, h => by
    have h : a = A := h
    rw [h]
  | o :: l, a, hd, h => by
    simp only [List.all_cons, Bool.and_eq_true, bne_iff_ne, ne_eq] at hd
    have keep : ∀ v, (a.put o.dst v).tmps[d]? = a.tmps[d]? := fun v => by
      cases ho : o.dst with
      | none => rfl
      | some e =>
        have hne : e ≠ d := fun he => hd.1 (by rw [ho, he])
        simp [Act.put, Array.getElem?_setIfInBounds_ne hne]
    unfold wpQuiet at h
    split at h
    · obtain ⟨v, _, h2⟩ := h
      rw [quiet_keeps l _ hd.2 h2, keep]
    · rw [quiet_keeps l _ hd.2 h, keep]
theorem still_vals {W : World} {A : Act} {o : Oper} {l : List Oper} {a : Act} (hb : dstsB (o :: l) = true) (hz : ∀ d, o.dst = some d → d < a.tmps.size) (h : ∀ u : XW W, wpQuiet P ops (fun w' => w' = u.w) (fun a' => a' = A) (o :: l) a) :
    ∃ v, StillIn P ops (Ext W) o v a ∧ ∀ u : XW W, wpQuiet P ops (fun w' => w' = u.w) (fun a' => a' = A) l (a.put o.dst v) := by
  simp only [dstsB, Bool.and_eq_true] at hb
  obtain ⟨⟨hg, hd⟩, _⟩ := hb
  cases ho : o.dst with
  | none => rw [ho] at hd; cases hd
  | some d =>
    rw [ho] at hd
    have hw : Region.wanted o (yielded ops a.tmps) = true := by
      unfold Region.wanted
      cases hgo : o.guard with
      | none => rfl
      | some g => rw [hgo] at hg; cases hg
    have each : ∀ u : XW W, ∃ v, o.quietAt P a (fun w' => w' = u.w) u.w v ∧ A.tmps[d]? = some v ∧ wpQuiet P ops (fun w' => w' = u.w) (fun a' => a' = A) l (a.put (some d) v) := fun u => by
      have h1 := h u
      unfold wpQuiet at h1
      rw [if_pos hw] at h1
      obtain ⟨v, h2, h3⟩ := h1
      rw [ho] at h3
      refine ⟨v, h2 _ rfl, ?_, h3⟩
      rw [quiet_keeps l _ hd h3]
      simp [Act.put, hz d ho]
    obtain ⟨v, _, hv, _⟩ := each ⟨W, Ext.refl W⟩
    refine ⟨v, ⟨hw, fun w' e => ?_⟩, fun u => ?_⟩
    · obtain ⟨v', h1, h2, _⟩ := each ⟨w', e⟩
      rw [hv] at h2
      rw [Option.some.inj h2]
      exact h1
    · obtain ⟨v', _, h2, h3⟩ := each u
      rw [hv] at h2
      rw [Option.some.inj h2]
      exact h3
def stillB (md : Region.Mode) (ops : Array Oper) (F : Array Bool → Bool) : Nat → Nat → Array Bool → Bool
  | 0, _, L => F L
  | f + 1, k, L => (Region.ready md ops L).contains k && Region.free md ops L k && stillB md ops F f (k + 1) (L.setIfInBounds k true)
theorem wpAnyC_still {W : World} {A : Act} {R : Act → World → Prop} {F : Array Bool → Bool} {g : Nat} (hs : Region.noSelect ops = true) (hF : ∀ L w, F L = true → Ext W w → wpAnyC P md ops (Ext W) R g L A w) :
    ∀ (l : List Oper) (k : Nat) (L : Array Bool) (a : Act) (w : World), (∀ j, j < l.length → l[j]? = ops[k + j]?) → dstsB l = true → (l.all fun o => match o.dst with | some d => decide (d < a.tmps.size) | none => true) = true →
    stillB md ops F l.length k L = true → Ext W w → (∀ u : XW W, wpQuiet P ops (fun w' => w' = u.w) (fun a' => a' = A) l a) → wpAnyC P md ops (Ext W) R (l.length + g) L a w
  | [], k, L, a, w, _, _, _, hB, hw, h => by
    have e : a = A := h ⟨W, Ext.refl W⟩
    subst e
    rw [List.length_nil, Nat.zero_add]
    exact hF L w hB hw
  | o :: l, k, L, a, w, hl, hd, hz, hB, hw, h => by
    have h0 : ops[k]? = some o := by simpa using (hl 0 (by simp)).symm
    simp only [List.length_cons, stillB, Bool.and_eq_true] at hB
    obtain ⟨⟨hr, hf⟩, hB'⟩ := hB
    have hzo := hz
    simp only [List.all_cons, Bool.and_eq_true] at hzo
    obtain ⟨v, hy, hn⟩ := still_vals hd (fun d he => by have := hzo.1; rw [he] at this; simpa using this) h
    have hd' : dstsB l = true := by simp only [dstsB, Bool.and_eq_true] at hd; exact hd.2
    have hsz : (a.put o.dst v).tmps.size = a.tmps.size := by cases o.dst <;> simp [Act.put]
    rw [show (o :: l).length + g = (l.length + g) + 1 by simp only [List.length_cons]; omega]
    exact wpAnyC_first h0 (Region.noSelect_spec hs) _ L a w (Region.free_spec h0 hf) (by simpa using hr) hw hy
      (wpAnyC_still hs hF l (k + 1) _ _ w (fun j hj => by have := hl (j + 1) (by simp; omega); simpa [Nat.add_assoc, Nat.add_comm 1 j] using this) hd' (by rw [hsz]; exact hzo.2) hB' hw hn)
def twoB (md : Region.Mode) (ops : Array Oper) (n : Nat) (L : Array Bool) : Bool :=
  decide (Region.ready md ops L = [n, n + 1]) && decide (Region.ready md ops (L.setIfInBounds n true) = [n + 1]) && decide (Region.ready md ops (L.setIfInBounds (n + 1) true) = [n]) &&
    decide (Region.ready md ops ((L.setIfInBounds n true).setIfInBounds (n + 1) true) = [n + 2]) && decide (Region.ready md ops (((L.setIfInBounds n true).setIfInBounds (n + 1) true).setIfInBounds (n + 2) true) = [])
theorem wpAnyC_two {R : Act → World → Prop} {n : Nat} {o1 o2 o3 : Oper} (h1 : ops[n]? = some o1) (h2 : ops[n + 1]? = some o2) (h3 : ops[n + 2]? = some o3) {L : Array Bool} {a : Act} {w : World} (hB : twoB md ops n L = true)
    (ha : wpSeqC P ops C R [o1, o2, o3] a w) (hb : wpSeqC P ops C R [o2, o1, o3] a w) : wpAnyC P md ops C R 3 L a w := by
  simp only [twoB, Bool.and_eq_true, decide_eq_true_eq] at hB
  obtain ⟨⟨⟨⟨b1, b2⟩, b3⟩, b4⟩, b5⟩ := hB
  have b4' : Region.ready md ops ((L.setIfInBounds (n + 1) true).setIfInBounds n true) = [n + 2] := by rw [Array.setIfInBounds_comm _ _ (by omega)]; exact b4
  have b5' : Region.ready md ops (((L.setIfInBounds (n + 1) true).setIfInBounds n true).setIfInBounds (n + 2) true) = [] := by rw [Array.setIfInBounds_comm (i := n + 1) (j := n) _ _ (by omega)]; exact b5
  have one : ∀ {i : Nat} {o : Oper} {S : Act → World → Prop} {a : Act} {w : World} (_ : ops[i]? = some o) (_ : wpList P ops (onQ S) [o] a w), wpOp P ops (onQ fun _ _ => False) i S a w := fun hi h => wpOp_onQ (wpOp_of_list1 hi h)
  refine ⟨fun h => (by rw [b1] at h; cases h), fun j hj => ?_⟩
  rw [b1] at hj
  rcases List.mem_cons.1 hj with rfl | hj
  · refine wpOp_mono (fun a' w' h' => ⟨h'.1, fun h => (by rw [b2] at h; cases h), fun j hj => ?_⟩) (one h1 ha)
    rw [b2, List.mem_singleton] at hj
    subst hj
    refine wpOp_mono (fun a' w' h' => ⟨h'.1, fun h => (by rw [b4] at h; cases h), fun j hj => ?_⟩) (one h2 h'.2)
    rw [b4, List.mem_singleton] at hj
    subst hj
    exact wpOp_mono (fun a' w' h' => ⟨h'.1, b5, h'.2⟩) (one h3 h'.2)
  · rw [List.mem_singleton] at hj
    subst hj
    refine wpOp_mono (fun a' w' h' => ⟨h'.1, fun h => (by rw [b3] at h; cases h), fun j hj => ?_⟩) (one h2 hb)
    rw [b3, List.mem_singleton] at hj
    subst hj
    refine wpOp_mono (fun a' w' h' => ⟨h'.1, fun h => (by rw [b4'] at h; cases h), fun j hj => ?_⟩) (one h1 h'.2)
    rw [b4', List.mem_singleton] at hj
    subst hj
    exact wpOp_mono (fun a' w' h' => ⟨h'.1, b5', h'.2⟩) (one h3 h'.2)
end
theorem wp_region_two {P : Program} {id : Nat} {Q : Exit → Act → World → Prop} {a : Act} {w : World} {l : List Oper} {o1 o2 o3 : Oper} (n : Nat) (w₀ : World) (hm : P.follows .mixedOrders = true)
    (hB : (Region.noSelect l.toArray && dstsB (l.take n) && stillB .any l.toArray (twoB .any l.toArray n) n 0 (Array.replicate l.length false)) = true) (hl : l = l.take n ++ [o1, o2, o3]) (hn : (l.take n).length = n) (he : Ext w₀ w)
    (hz : ((l.take n).all fun o => match o.dst with | some d => decide (d < a.tmps.size) | none => true) = true)
    (h : Nonempty (XW w) → (∀ (u : XW w) b o, b < w.heap.size → u.w.cell? ⟨b, o, none⟩ = w.cell? ⟨b, o, none⟩) → (∀ (u : XW w) b o, b < w₀.heap.size → u.w.cell? ⟨b, o, none⟩ = w₀.cell? ⟨b, o, none⟩) →
      ∃ A, (∀ u : XW w, wpQuiet P l.toArray (fun w' => w' = u.w) (fun a' => a' = A) (l.take n) a) ∧
        ∀ w', Ext w w' → wpSeqC P l.toArray (Ext w) (fun a w => Q .normal a w) [o1, o2, o3] A w' ∧ wpSeqC P l.toArray (Ext w) (fun a w => Q .normal a w) [o2, o1, o3] A w') : (Code.region id l.toArray true).wp P Q a w := by
  obtain ⟨A, h1, h2⟩ := h (XW.some w) (fun u => u.cell) (fun u => u.from he)
  simp only [Bool.and_eq_true] at hB
  obtain ⟨⟨hsel, hd⟩, hst⟩ := hB
  have hsz : l.length = n + 3 := by
    have := congrArg List.length hl
    rw [List.length_append, hn] at this
    simpa using this
  have get : ∀ k, k < 3 → l.toArray[n + k]? = [o1, o2, o3][k]? := fun k hk => by
    have e : l[n + k]? = (l.take n ++ [o1, o2, o3])[n + k]? := congrArg (fun x : List Oper => x[n + k]?) hl
    rw [List.getElem?_append_right (by omega), hn, show n + k - n = k by omega] at e
    simpa using e
  refine Code.wp_mono (Q := onQ fun a w => Q .normal a w) (fun e a' w' h' => by cases e <;> first | exact h' | exact False.elim h') (wp_region_any hm (wpAny_of_C (C := Ext w) _ _ _ _ ?_))
  have := wpAnyC_still (md := .any) (P := P) (R := fun a w => Q .normal a w) (F := twoB .any l.toArray n) (g := 3) (A := A) (W := w) hsel (fun L w' hL e => wpAnyC_two (get 0 (by omega)) (get 1 (by omega)) (get 2 (by omega)) hL (h2 w' e).1 (h2 w' e).2)
    (l.take n) 0 (Array.replicate l.length false) a { w with drawn := w.drawn + 1 } (fun j hj => by
      rw [hn] at hj
      simp [hj]) hd hz (by rw [hn]; exact hst) ⟨rfl, rfl, rfl, Nat.le_refl _, fun _ _ => rfl⟩ h1
  rw [hn, ← hsz] at this
  simpa using this
def cutP (A : Value → Act) (S : World → Value → Prop) : Exit → Act → World → Prop := fun e a' w' => e = .normal ∧ ∃ p, S w' p ∧ a' = A p
theorem cutP_is {A : Value → Act} {S : World → Value → Prop} {w' : World} (p : Value) {a' : Act} (h : S w' p) (ha : a' = A p) : cutP A S .normal a' w' := ⟨rfl, p, h, ha⟩
theorem wp_cutP {P : Program} {c : Code} {Q : Exit → Act → World → Prop} {a : Act} {w : World} {A : Value → Act} (S : World → Value → Prop) (h1 : c.wp P (cutP A S) a w) (h2 : ∀ p w', S w' p → Q .normal (A p) w') : c.wp P Q a w :=
  Code.wp_mono (fun e a' w' ⟨he, p, hs, ha⟩ => by subst he; subst ha; exact h2 p w' hs) h1
end Go.Proofs.YtfchchmmjabjnaaDoor
