/- Plain facts: the spans of a series are the days that its assignments take. -/
import Derived.Test.YtfchchmmjabjnaaDoorPl4
import Derived.Test.YtfchchmmjabjnaaDoorWu
namespace Go.Proofs.YtfchchmmjabjnaaDoor

structure SpOk (l : List Sp) : Prop where
  ok : ∀ s, s ∈ l → 1 ≤ s.a ∧ s.a ≤ s.b ∧ s.b ≤ 156000
  pw : l.Pairwise (fun s s' => s.b + 2 ≤ s'.a)
def inS (l : List Sp) (n : Int) : Prop := ∃ s, s ∈ l ∧ s.a ≤ n ∧ n ≤ s.b
theorem SpOk.tail {s : Sp} {l : List Sp} (h : SpOk (s :: l)) : SpOk l := ⟨fun x hx => h.ok x (List.mem_cons_of_mem _ hx), (List.pairwise_cons.1 h.pw).2⟩
theorem SpOk.two {l : List Sp} (h : SpOk l) {s s' : Sp} (hs : s ∈ l) (hs' : s' ∈ l) : s = s' ∨ s.b + 2 ≤ s'.a ∨ s'.b + 2 ≤ s.a := by
  obtain ⟨i, hi, rfl⟩ := List.mem_iff_getElem.1 hs
  obtain ⟨j, hj, rfl⟩ := List.mem_iff_getElem.1 hs'
  have hp := List.pairwise_iff_getElem.1 h.pw
  rcases Nat.lt_trichotomy i j with h1 | h1 | h1
  · exact .inr (.inl (hp i j hi hj h1))
  · subst h1; exact .inl rfl
  · exact .inr (.inr (hp j i hj hi h1))
theorem SpOk.in {l : List Sp} (h : SpOk l) {n : Int} (hn : inS l n) : 1 ≤ n ∧ n ≤ 156000 := by
  obtain ⟨s, hs, h1, h2⟩ := hn
  have := h.ok s hs
  omega
theorem firstFrom_or : ∀ {l : List Sp} {e : Int}, SpOk l → firstFrom l e = 0 ∨ (e ≤ firstFrom l e ∧ inS l (firstFrom l e))
  | [], _, _ => .inl rfl
  | s :: l, e, h => by
    have h0 := h.ok s (List.mem_cons_self ..)
    rw [firstFrom]
    split
    · exact .inr ⟨by omega, s, List.mem_cons_self .., by omega, by omega⟩
    · rcases firstFrom_or (e := e) h.tail with h1 | ⟨h1, z, hz, h2⟩
      · exact .inl h1
      · exact .inr ⟨h1, z, List.mem_cons_of_mem _ hz, h2⟩
theorem firstFrom_le : ∀ {l : List Sp} {e n : Int}, SpOk l → 1 ≤ e → e ≤ n → inS l n → firstFrom l e ≤ n ∧ 1 ≤ firstFrom l e
  | [], _, _, _, _, _, h => by obtain ⟨s, hs, _⟩ := h; cases hs
  | s :: l, e, n, h, h1, h2, hn => by
    have h0 := h.ok s (List.mem_cons_self ..)
    obtain ⟨z, hz, h3, h4⟩ := hn
    rw [firstFrom]
    split
    · refine ⟨?_, by omega⟩
      rcases List.mem_cons.1 hz with rfl | hz
      · omega
      · have := (List.pairwise_cons.1 h.pw).1 z hz
        omega
    · rcases List.mem_cons.1 hz with rfl | hz
      · omega
      · exact firstFrom_le h.tail h1 h2 ⟨z, hz, h3, h4⟩
theorem lastTo_go (e : Int) : ∀ (l : List Sp) (acc : Int), SpOk l → (l.foldl (fun acc s => if s.a ≤ e then min s.b e else acc) acc = acc ∧ ∀ s, s ∈ l → e < s.a) ∨
    ∃ s, s ∈ l ∧ s.a ≤ e ∧ l.foldl (fun acc s => if s.a ≤ e then min s.b e else acc) acc = min s.b e ∧ ∀ s', s' ∈ l → s'.a ≤ e → s'.a ≤ s.a
  | [], _, _ => .inl ⟨rfl, fun _ h => by cases h⟩
  | s :: l, acc, h => by
    have h0 := h.ok s (List.mem_cons_self ..)
    rw [List.foldl_cons]
    rcases lastTo_go e l (if s.a ≤ e then min s.b e else acc) h.tail with ⟨h1, h2⟩ | ⟨z, hz, h1, h2, h3⟩
    · by_cases hs : s.a ≤ e
      · rw [if_pos hs] at h1 ⊢
        refine .inr ⟨s, List.mem_cons_self .., hs, h1, fun s' hs' he => ?_⟩
        rcases List.mem_cons.1 hs' with rfl | hs'
        · exact Int.le_refl _
        · have := h2 s' hs'; omega
      · rw [if_neg hs] at h1 ⊢
        refine .inl ⟨h1, fun s' hs' => ?_⟩
        rcases List.mem_cons.1 hs' with rfl | hs'
        · omega
        · exact h2 s' hs'
    · refine .inr ⟨z, List.mem_cons_of_mem _ hz, h1, h2, fun s' hs' he => ?_⟩
      rcases List.mem_cons.1 hs' with rfl | hs'
      · have := (List.pairwise_cons.1 h.pw).1 z hz; omega
      · exact h3 s' hs' he
theorem lastTo_at {l : List Sp} {e n : Int} (h : SpOk l) (hn : n ≤ e) (hi : inS l n) : n ≤ lastTo e l ∧ lastTo e l ≤ e ∧ inS l (lastTo e l) := by
  obtain ⟨s, hs, h1, h2⟩ := hi
  unfold lastTo
  rcases lastTo_go e l 0 h with ⟨_, h3⟩ | ⟨z, hz, h3, h4, h5⟩
  · have := h3 s hs; omega
  · rw [h4]
    have hz0 := h.ok z hz
    refine ⟨?_, by omega, z, hz, by omega, by omega⟩
    have h6 := h5 s hs (by omega)
    have hs0 := h.ok s hs
    rcases h.two hs hz with rfl | h7 | h7
    · omega
    · omega
    · omega

/-- Days that fit one after the other. -/
def Asg (sp : Nat → List Sp) (n : Nat) (D : Nat → Int) : Prop := (∀ i, i < n → inS (sp i) (D i)) ∧ ∀ i, i + 1 < n → D i ≤ D (i + 1)
section
variable {sp : Nat → List Sp} {n : Nat} {D : Nat → Int}
theorem early_le (hS : ∀ i, SpOk (sp i)) (hA : Asg sp n D) : ∀ i, i < n → early sp (i + 1) ≤ D i ∧ 1 ≤ early sp (i + 1)
  | 0, hi => by
    have h1 := (hS 0).in (hA.1 0 hi)
    exact firstFrom_le (hS 0) (Int.le_refl 1) h1.1 (hA.1 0 hi)
  | i + 1, hi => by
    have ih := early_le hS hA i (by omega)
    have h1 := hA.2 i hi
    exact firstFrom_le (hS (i + 1)) ih.2 (by omega) (hA.1 (i + 1) hi)
theorem late_ge (hS : ∀ i, SpOk (sp i)) (hA : Asg sp n D) : ∀ k i, i + k + 1 = n → D i ≤ late sp n i ∧ late sp n i ≤ late sp n (i + 1) ∧ inS (sp i) (late sp n i)
  | 0, i, hi => by
    have h0 := hA.1 i (by omega)
    rw [late_step (show i < n by omega)]
    refine lastTo_at (hS i) ?_ h0
    rw [show i + 1 = n by omega, late_top]
    exact ((hS i).in h0).2
  | k + 1, i, hi => by
    have h0 := hA.1 i (by omega)
    have ih := late_ge hS hA k (i + 1) (by omega)
    rw [late_step (show i < n by omega)]
    refine lastTo_at (hS i) ?_ h0
    have := hA.2 i (by omega)
    omega
theorem asg_fail (hS : ∀ i, SpOk (sp i)) (hA : Asg sp n D) : serFail sp n = false := serFail_no (fun j hj => by have := (early_le hS hA j hj).2; omega)
theorem early_asg (hS : ∀ i, SpOk (sp i)) (h : serFail sp n = false) : Asg sp n (fun i => early sp (i + 1)) := by
  have hne : ∀ i, i < n → early sp (i + 1) ≠ 0 := fun i hi h0 => by rw [serFail_yes hi h0] at h; cases h
  refine ⟨fun i hi => ?_, fun i hi => ?_⟩
  · rcases firstFrom_or (e := early sp i) (hS i) with h1 | h1
    · exact absurd h1 (hne i hi)
    · exact h1.2
  · rcases firstFrom_or (e := early sp (i + 1)) (hS (i + 1)) with h1 | h1
    · exact absurd h1 (hne (i + 1) hi)
    · exact h1.1
theorem late_asg (hS : ∀ i, SpOk (sp i)) (h : serFail sp n = false) : Asg sp n (late sp n) := by
  have hA := early_asg hS h
  exact ⟨fun i hi => (late_ge hS hA (n - i - 1) i (by omega)).2.2, fun i hi => (late_ge hS hA (n - i - 1) i (by omega)).2.1⟩
end
theorem spans_ok {c : Cal} (hv : c.ny ≤ 400) (t : Tr) : SpOk (c.spans t) := by
  have hg := spans_good c t
  have hb := dayAt_bd c c.ny
  exact ⟨fun s hs => by have := hg.ok s hs; omega, hg.pw⟩
end Go.Proofs.YtfchchmmjabjnaaDoor
