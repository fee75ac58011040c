/- Plain facts: the reference's way to the spans, and to the days of a series. -/
import Derived.Test.YtfchchmmjabjnaaDoorPl5
namespace Go.Proofs.YtfchchmmjabjnaaDoor

/-- What the first k days of a month add to the spans. -/
def Cal.refFold (c : Cal) (t : Tr) (o : List Sp) (x : It) (k : Nat) : List Sp := if c.inMonth t x.y x.n x.s then t.dayFold x.first o k else o
theorem refFold_zero (c : Cal) (t : Tr) (o : List Sp) (x : It) : c.refFold t o x 0 = o := by unfold Cal.refFold; split <;> rfl
theorem refFold_step (c : Cal) (t : Tr) (o : List Sp) (x : It) (k : Nat) : c.refFold t o x (k + 1) = if c.fits t ⟨x.y, x.n, x.s, (k : Int) + 1⟩ then addDay (c.refFold t o x k) (x.first + k) else c.refFold t o x k := by
  unfold Cal.refFold Cal.fits
  cases h : c.inMonth t x.y x.n x.s
  · simp
  · simp only [if_true, Bool.true_and]; rfl
theorem refFold_full (c : Cal) (t : Tr) (o : List Sp) (x : It) : c.refFold t o x (x.len c).toNat = c.itFold t o x := rfl
/-- The last span that begins at e or before it. -/
theorem lastTo_here {e : Int} {l : List Sp} {m : Nat} (hm : m < l.length) (h : (l.getD m ⟨0, 0⟩).a ≤ e) (ha : ∀ j, m < j → j < l.length → e < (l.getD j ⟨0, 0⟩).a) : lastTo e l = min (l.getD m ⟨0, 0⟩).b e := by
  have key : ∀ k, m + 1 + k ≤ l.length → lastTo e (l.take (m + 1 + k)) = min (l.getD m ⟨0, 0⟩).b e := by
    intro k
    induction k with
    | zero =>
      intro hk
      rw [Nat.add_zero, lastTo_step e l m hm, if_pos h]
    | succ k ih =>
      intro hk
      rw [show m + 1 + (k + 1) = (m + 1 + k) + 1 by omega, lastTo_step e l (m + 1 + k) (by omega), if_neg (by have := ha (m + 1 + k) (by omega) (by omega); omega)]
      exact ih (by omega)
  have := key (l.length - (m + 1)) (by omega)
  rwa [show m + 1 + (l.length - (m + 1)) = l.length by omega, List.take_length] at this
theorem lastTo_all {l : List Sp} {x e : Int} (h : ∀ s, s ∈ l → s.a ≤ s.b ∧ s.b ≤ x) (hx : x ≤ e) : lastTo x l = lastTo e l := by
  have key : ∀ (l : List Sp) (acc : Int), (∀ s, s ∈ l → s.a ≤ s.b ∧ s.b ≤ x) → l.foldl (fun acc s => if s.a ≤ x then min s.b x else acc) acc = l.foldl (fun acc s => if s.a ≤ e then min s.b e else acc) acc := by
    intro l
    induction l with
    | nil => intros; rfl
    | cons s l ih =>
      intro acc h
      have h0 := h s (List.mem_cons_self ..)
      rw [List.foldl_cons, List.foldl_cons, if_pos (by omega), if_pos (by omega), show min s.b x = min s.b e by omega]
      exact ih _ (fun z hz => h z (List.mem_cons_of_mem _ hz))
  exact key l 0 h
/-- The day that the reference carries down: all the calendar's days, then the latest day of what follows. -/
def Cal.lateR (c : Cal) (sp : Nat → List Sp) (n j : Nat) : Int := if j = n then c.all else late sp n j
theorem spans_all {c : Cal} {t : Tr} : ∀ s, s ∈ c.spans t → s.a ≤ s.b ∧ s.b ≤ c.all := fun s hs => by
  have := (spans_good c t).ok s hs
  unfold Cal.all; omega
theorem lateR_step {c : Cal} (hny : c.ny ≤ 400) {f : Nat → Tr} {n j : Nat} (hj : j < n) : lastTo (c.lateR (fun i => c.spans (f i)) n (j + 1)) (c.spans (f j)) = late (fun i => c.spans (f i)) n j := by
  have hd := dayAt_bd c c.ny
  rw [late_step hj]
  unfold Cal.lateR
  split
  · rename_i h
    rw [h, late_top]
    exact lastTo_all spans_all (by unfold Cal.all; omega)
  · rfl
theorem lateR_here {c : Cal} (hny : c.ny ≤ 400) {f : Nat → Tr} {n j m : Nat} (hj : j < n) (hm : m < (c.spans (f j)).length) (h : ((c.spans (f j)).getD m ⟨0, 0⟩).a ≤ c.lateR (fun i => c.spans (f i)) n (j + 1))
    (ha : ∀ i, m < i → i < (c.spans (f j)).length → c.lateR (fun i => c.spans (f i)) n (j + 1) < ((c.spans (f j)).getD i ⟨0, 0⟩).a) :
    min (c.lateR (fun i => c.spans (f i)) n (j + 1)) ((c.spans (f j)).getD m ⟨0, 0⟩).b = late (fun i => c.spans (f i)) n j := by
  rw [← lateR_step hny hj, lastTo_here hm h ha, Int.min_comm]
/-- There is a span to be found from the end. -/
theorem lateR_some {c : Cal} (hny : c.ny ≤ 400) {f : Nat → Tr} {n j : Nat} (hj : j < n) (hF : serFail (fun i => c.spans (f i)) n = false) :
    ∃ m, m < (c.spans (f j)).length ∧ ((c.spans (f j)).getD m ⟨0, 0⟩).a ≤ c.lateR (fun i => c.spans (f i)) n (j + 1) := by
  have hS : ∀ i, SpOk (c.spans (f i)) := fun i => spans_ok hny _
  have h1 := (late_ge hS (late_asg hS hF) (n - j - 1) j (by omega))
  obtain ⟨s, hs, h2, h3⟩ := h1.2.2
  obtain ⟨m, hm, rfl⟩ := List.mem_iff_getElem.1 hs
  refine ⟨m, hm, ?_⟩
  have e : (c.spans (f j)).getD m ⟨0, 0⟩ = (c.spans (f j))[m] := by rw [List.getD_eq_getElem?_getD, List.getElem?_eq_getElem hm]; rfl
  rw [e]
  unfold Cal.lateR
  split
  · have := (spans_all (c := c) (t := f j) _ hs); omega
  · have := h1.2.1; omega
end Go.Proofs.YtfchchmmjabjnaaDoor
