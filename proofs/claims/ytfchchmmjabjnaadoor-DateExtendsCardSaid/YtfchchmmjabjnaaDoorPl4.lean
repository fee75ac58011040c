/- Plain facts: the spans of a trace are its days, in their order and apart. -/
import Derived.Test.YtfchchmmjabjnaaDoorPl3
namespace Go.Proofs.YtfchchmmjabjnaaDoor

/-- The day n is in the calendar and fits. -/
def Cal.Fit (c : Cal) (t : Tr) (n : Int) : Prop := ∃ d, c.at? n = some d ∧ c.fits t d = true
/-- l is what fits of the days before e. -/
structure Good (F : Int → Prop) (l : List Sp) (e : Int) : Prop where
  ok : ∀ s, s ∈ l → 1 ≤ s.a ∧ s.a ≤ s.b ∧ s.b < e
  pw : l.Pairwise (fun s s' => s.b + 2 ≤ s'.a)
  cover : ∀ n, 1 ≤ n → n < e → (F n ↔ ∃ s, s ∈ l ∧ s.a ≤ n ∧ n ≤ s.b)
namespace Good
variable {F : Int → Prop} {l : List Sp} {e : Int}
theorem nil (F : Int → Prop) : Good F [] 1 := ⟨fun _ h => (by cases h), List.Pairwise.nil, fun n h1 h2 => by omega⟩
theorem skip (h : Good F l e) (hF : ¬ F e) : Good F l (e + 1) := by
  refine ⟨fun s hs => ?_, h.pw, fun n h1 h2 => ?_⟩
  · have := h.ok s hs; omega
  · by_cases hn : n = e
    · subst hn
      refine ⟨fun hf => absurd hf hF, fun ⟨s, hs, h3, h4⟩ => ?_⟩
      have := h.ok s hs; omega
    · exact h.cover n h1 (by omega)
theorem add (h : Good F l e) (h1 : 1 ≤ e) (hF : F e) : Good F (addDay l e) (e + 1) := by
  unfold addDay
  cases hl : l.getLast? with
  | none =>
    have : l = [] := List.getLast?_eq_none_iff.1 hl
    subst this
    refine ⟨fun s hs => ?_, List.pairwise_singleton _ _, fun n h2 h3 => ?_⟩
    · rw [List.mem_singleton] at hs; subst hs; simp only; omega
    · by_cases hn : n = e
      · subst hn; exact ⟨fun _ => ⟨_, List.mem_singleton.2 rfl, Int.le_refl _, Int.le_refl _⟩, fun _ => hF⟩
      · rw [h.cover n h2 (by omega)]
        refine ⟨fun ⟨s, hs, _⟩ => (by cases hs), fun ⟨s, hs, h4, h5⟩ => ?_⟩
        rw [List.mem_singleton] at hs; subst hs; simp only at h4 h5; omega
  | some z =>
    have hz : l = l.dropLast ++ [z] := by
      have hne : l ≠ [] := fun h0 => by subst h0; cases hl
      rw [List.getLast?_eq_some_getLast hne] at hl
      rw [← Option.some.inj hl]; exact (List.dropLast_concat_getLast hne).symm
    have hzl : z ∈ l := by rw [hz]; simp
    have hok := h.ok z hzl
    have hpw := h.pw
    simp only
    split
    · rename_i hb
      rw [hz, List.pairwise_append] at hpw
      refine ⟨fun s hs => ?_, ?_, fun n h2 h3 => ?_⟩
      · rcases List.mem_append.1 hs with hs | hs
        · have := h.ok s (List.dropLast_subset _ hs); omega
        · rw [List.mem_singleton] at hs; subst hs; simp only; omega
      · rw [List.pairwise_append]
        exact ⟨hpw.1, List.pairwise_singleton _ _, fun s hs s' hs' => by
          rw [List.mem_singleton] at hs'; subst hs'
          exact hpw.2.2 s hs z (by simp)⟩
      · by_cases hn : n = e
        · subst hn; exact ⟨fun _ => ⟨⟨z.a, n⟩, by simp, by simp only; omega, Int.le_refl _⟩, fun _ => hF⟩
        · rw [h.cover n h2 (by omega)]
          constructor
          · rintro ⟨s, hs, h4, h5⟩
            rw [hz] at hs
            rcases List.mem_append.1 hs with hs | hs
            · exact ⟨s, List.mem_append_left _ hs, h4, h5⟩
            · rw [List.mem_singleton] at hs; subst hs
              exact ⟨⟨s.a, e⟩, by simp, h4, by simp only; omega⟩
          · rintro ⟨s, hs, h4, h5⟩
            rcases List.mem_append.1 hs with hs | hs
            · exact ⟨s, List.dropLast_subset _ hs, h4, h5⟩
            · rw [List.mem_singleton] at hs; subst hs
              simp only at h4 h5
              exact ⟨z, hzl, h4, by omega⟩
    · rename_i hb
      refine ⟨fun s hs => ?_, ?_, fun n h2 h3 => ?_⟩
      · rcases List.mem_append.1 hs with hs | hs
        · have := h.ok s hs; omega
        · rw [List.mem_singleton] at hs; subst hs; simp only; omega
      · rw [List.pairwise_append]
        refine ⟨hpw, List.pairwise_singleton _ _, fun s hs s' hs' => ?_⟩
        rw [List.mem_singleton] at hs'; subst hs'
        simp only
        rw [hz] at hs
        rcases List.mem_append.1 hs with hs | hs
        · rw [hz, List.pairwise_append] at hpw
          have := hpw.2.2 s hs z (by simp)
          omega
        · rw [List.mem_singleton] at hs; subst hs; omega
      · by_cases hn : n = e
        · subst hn; exact ⟨fun _ => ⟨⟨n, n⟩, by simp, Int.le_refl _, Int.le_refl _⟩, fun _ => hF⟩
        · rw [h.cover n h2 (by omega)]
          constructor
          · rintro ⟨s, hs, h4, h5⟩; exact ⟨s, List.mem_append_left _ hs, h4, h5⟩
          · rintro ⟨s, hs, h4, h5⟩
            rcases List.mem_append.1 hs with hs | hs
            · exact ⟨s, hs, h4, h5⟩
            · rw [List.mem_singleton] at hs; subst hs
              simp only at h4 h5; omega
end Good
theorem at_item {c : Cal} {x : It} (hx : x ∈ c.items) {k : Int} (h0 : 0 ≤ k) (hk : k < x.len c) : c.at? (x.first + k) = some ⟨x.y, x.n, x.s, k + 1⟩ := by
  obtain ⟨i, hi⟩ := List.mem_iff_getElem?.1 hx
  unfold Cal.at?
  rw [atFrom_ix hi (by omega) (by omega) (fun j y hj hy hc => ?_)]
  · rw [show x.first + k - x.first + 1 = k + 1 by omega]
  · have := (items_lt hy hi hj).1
    omega
theorem fit_item {c : Cal} {t : Tr} {x : It} (hx : x ∈ c.items) {k : Int} (h0 : 0 ≤ k) (hk : k < x.len c) : c.Fit t (x.first + k) ↔ (c.inMonth t x.y x.n x.s = true ∧ t.onDay (k + 1) = true) := by
  unfold Cal.Fit
  rw [at_item hx h0 hk]
  constructor
  · rintro ⟨d, hd, hf⟩
    obtain rfl := Option.some.inj hd
    simpa only [Cal.fits, Bool.and_eq_true] using hf
  · intro h
    exact ⟨_, rfl, by simpa only [Cal.fits, Bool.and_eq_true] using h⟩
theorem good_days {c : Cal} {t : Tr} {x : It} (hx : x ∈ c.items) (hm : c.inMonth t x.y x.n x.s = true) {o : List Sp} (ho : Good (c.Fit t) o x.first) : ∀ k : Nat, (k : Int) ≤ x.len c → Good (c.Fit t) (t.dayFold x.first o k) (x.first + k)
  | 0, _ => by simpa [Tr.dayFold] using ho
  | k + 1, hk => by
    have ih := good_days hx hm ho k (by omega)
    have hf := fit_item (t := t) hx (k := k) (by omega) (by omega)
    have h1 := (items_end hx).1
    rw [Tr.dayFold, show x.first + ((k + 1 : Nat) : Int) = x.first + k + 1 by omega]
    split
    · rename_i h; exact ih.add (by omega) (hf.2 ⟨hm, h⟩)
    · rename_i h; exact ih.skip (fun hF => h (hf.1 hF).2)
theorem good_none {c : Cal} {t : Tr} {x : It} (hx : x ∈ c.items) (hm : c.inMonth t x.y x.n x.s = false) {o : List Sp} (ho : Good (c.Fit t) o x.first) : ∀ k : Nat, (k : Int) ≤ x.len c → Good (c.Fit t) o (x.first + k)
  | 0, _ => by simpa using ho
  | k + 1, hk => by
    have ih := good_none hx hm ho k (by omega)
    have hf := fit_item (t := t) hx (k := k) (by omega) (by omega)
    rw [show x.first + ((k + 1 : Nat) : Int) = x.first + k + 1 by omega]
    exact ih.skip (fun hF => by have := (hf.1 hF).1; rw [hm] at this; cases this)
theorem good_it {c : Cal} {t : Tr} {x : It} (hx : x ∈ c.items) {o : List Sp} (ho : Good (c.Fit t) o x.first) : Good (c.Fit t) (c.itFold t o x) (x.first + x.len c) := by
  have hl := len_29 (c.yr x.y) x.n x.s
  change 29 ≤ x.len c ∧ x.len c ≤ 30 at hl
  have e : ((x.len c).toNat : Int) = x.len c := by omega
  unfold Cal.itFold
  cases hm : c.inMonth t x.y x.n x.s
  · rw [if_neg (by simp)]
    have := good_none hx hm ho (x.len c).toNat (by omega)
    rwa [e] at this
  · rw [if_pos rfl]
    have := good_days hx hm ho (x.len c).toNat (by omega)
    rwa [e] at this
theorem good_runs {c : Cal} {t : Tr} {i : Nat} : ∀ (l : List (Int × Bool)) (d : Int) (o : List Sp), (∀ x, x ∈ runs i (c.yr i) d l → x ∈ c.items) → Good (c.Fit t) o d → Good (c.Fit t) ((runs i (c.yr i) d l).foldl (c.itFold t) o) (d + (c.yr i).lens l)
  | [], d, o, _, h => by simpa [runs, Yr.lens] using h
  | p :: l, d, o, hi, h => by
    rw [runs] at hi ⊢
    rw [List.foldl_cons, Yr.lens]
    have h1 := good_it (t := t) (hi _ (List.mem_cons_self ..)) h
    have h2 := good_runs l (d + (c.yr i).len p.1 p.2) _ (fun x hx => hi x (List.mem_cons_of_mem _ hx)) h1
    rwa [Int.add_assoc] at h2
theorem good_to {c : Cal} {t : Tr} : ∀ k : Nat, k ≤ c.ny → Good (c.Fit t) ((c.itemsTo k).foldl (c.itFold t) []) (c.dayAt k)
  | 0, _ => Good.nil _
  | k + 1, hk => by
    rw [Cal.itemsTo, List.foldl_append, Cal.dayAt]
    refine good_runs _ _ _ (fun x hx => ?_) (good_to k (by omega))
    exact itemsTo_of c hx c.ny hk
theorem spans_good (c : Cal) (t : Tr) : Good (c.Fit t) (c.spans t) (c.dayAt c.ny) := good_to c.ny (Nat.le_refl _)
theorem Cal.Fit.in {c : Cal} {t : Tr} {n : Int} (h : c.Fit t n) : 1 ≤ n ∧ n < c.dayAt c.ny := by
  obtain ⟨d, hd, _⟩ := h
  rcases Decidable.em (n < 1 ∨ c.dayAt c.ny ≤ n) with h2 | h2
  · rw [at_out h2] at hd; cases hd
  · omega
theorem fit_iff {c : Cal} {t : Tr} {n : Int} : c.Fit t n ↔ ∃ s, s ∈ c.spans t ∧ s.a ≤ n ∧ n ≤ s.b := by
  constructor
  · intro h
    exact ((spans_good c t).cover n h.in.1 h.in.2).1 h
  · rintro ⟨s, hs, h1, h2⟩
    have := (spans_good c t).ok s hs
    exact ((spans_good c t).cover n (by omega) (by omega)).2 ⟨s, hs, h1, h2⟩
end Go.Proofs.YtfchchmmjabjnaaDoor
