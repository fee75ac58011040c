/- Plain facts: the days of a calendar's months lie in their order. -/
import Derived.Test.YtfchchmmjabjnaaDoorPl1
namespace Go.Proofs.YtfchchmmjabjnaaDoor

theorem dayAt_mono (c : Cal) {i j : Nat} (h : i ≤ j) : c.dayAt i ≤ c.dayAt j := by
  induction j with
  | zero => obtain rfl : i = 0 := by omega
            exact Int.le_refl _
  | succ j ih =>
    rcases Nat.lt_or_ge j i with h' | h'
    · obtain rfl : i = j + 1 := by omega
      exact Int.le_refl _
    · have := ih h'
      have := days_bd (c.yr j)
      rw [Cal.dayAt]; omega
theorem runs_end (c : Cal) (i : Nat) : ∀ (l : List (Int × Bool)) (d : Int) (x : It), x ∈ runs i (c.yr i) d l → x.y = i ∧ d ≤ x.first ∧ x.first + x.len c ≤ d + (c.yr i).lens l
  | [], d, x, hx => by cases hx
  | p :: l, d, x, hx => by
    have h0 := lens_29 (c.yr i) l
    have h1 := len_29 (c.yr i) p.1 p.2
    rw [runs] at hx
    rw [Yr.lens]
    rcases List.mem_cons.1 hx with rfl | hx
    · refine ⟨rfl, Int.le_refl _, ?_⟩
      show d + (c.yr i).len p.1 p.2 ≤ _
      omega
    · have := runs_end c i l _ x hx
      omega
theorem itemsTo_end (c : Cal) : ∀ (k : Nat) (x : It), x ∈ c.itemsTo k → x.y < k ∧ c.dayAt x.y ≤ x.first ∧ x.first + x.len c ≤ c.dayAt (x.y + 1)
  | 0, x, hx => by cases hx
  | k + 1, x, hx => by
    rw [Cal.itemsTo, List.mem_append] at hx
    rcases hx with hx | hx
    · have := itemsTo_end c k x hx; omega
    · have h := runs_end c k _ _ x hx
      refine ⟨by omega, by rw [h.1]; exact h.2.1, by rw [h.1]; exact h.2.2⟩
theorem items_end {c : Cal} {x : It} (hx : x ∈ c.items) : 1 ≤ x.first ∧ x.first + x.len c ≤ c.dayAt c.ny := by
  have h := itemsTo_end c c.ny x hx
  have h1 := dayAt_mono c (i := 0) (j := x.y) (by omega)
  have h2 := dayAt_mono c (i := x.y + 1) (j := c.ny) (by omega)
  have h3 : c.dayAt 0 = 1 := rfl
  omega
theorem atFrom_some {c : Cal} {n : Int} {o : Dt} : ∀ {l : List It}, c.atFrom n l = some o → ∃ x, x ∈ l ∧ x.first ≤ n ∧ n - x.first < x.len c ∧ o = ⟨x.y, x.n, x.s, n - x.first + 1⟩
  | x :: l, h => by
    rw [Cal.atFrom] at h
    split at h
    · rename_i hx
      exact ⟨x, List.mem_cons_self .., hx.1, hx.2, by simpa using h.symm⟩
    · obtain ⟨y, hy, h1⟩ := atFrom_some h
      exact ⟨y, List.mem_cons_of_mem _ hy, h1⟩
theorem at_out {c : Cal} {n : Int} (h : n < 1 ∨ c.dayAt c.ny ≤ n) : c.at? n = none := by
  cases ho : c.at? n with
  | none => rfl
  | some o =>
    obtain ⟨x, hx, h1, h2, _⟩ := atFrom_some ho
    have := items_end hx
    omega
theorem numFrom_le {c : Cal} {d : Dt} (hd : c.has d = true) : ∀ (l : List It) (k : Int), (∀ x, x ∈ l → x ∈ c.items) → 0 ≤ (numFrom d l k).1 ∧ (numFrom d l k).1 ≤ c.dayAt c.ny - 1
  | [], k, _ => by
    have h2 := dayAt_bd c c.ny
    simp [numFrom]; omega
  | x :: l, k, hl => by
    rw [numFrom]
    split
    · rename_i hx
      have h1 := items_end (hl x (List.mem_cons_self ..))
      simp only [Cal.has, Bool.and_eq_true, decide_eq_true_eq] at hd
      simp only [It.of, Bool.and_eq_true, decide_eq_true_eq, beq_iff_eq] at hx
      have e : x.len c = (c.yrI d.y).len d.m d.s := by
        unfold It.len Cal.yrI
        rw [hx.2, hx.1.2, ← hx.1.1]; rfl
      simp only
      omega
    · exact numFrom_le hd l (k + 1) (fun y hy => hl y (List.mem_cons_of_mem _ hy))
theorem num_le {c : Cal} {d : Dt} (hd : c.has d = true) : 0 ≤ (c.num d).1 ∧ (c.num d).1 ≤ c.dayAt c.ny - 1 := numFrom_le hd c.items 0 (fun _ h => h)
theorem add_out {c : Cal} {d : Dt} {n : Int} (hd : c.has d = true) (hny : c.ny ≤ 400) (h : 156000 < n ∨ n < -156000) : c.at? ((c.num d).1 + n) = none := by
  have := num_le hd
  have := dayAt_bd c c.ny
  exact at_out (by omega)
end Go.Proofs.YtfchchmmjabjnaaDoor
