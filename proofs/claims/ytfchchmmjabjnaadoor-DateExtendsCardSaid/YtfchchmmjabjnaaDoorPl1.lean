/- Plain facts on the months and days of a calendar: no program in sight. -/
import Derived.Test.YtfchchmmjabjnaaDoorPure
namespace Go.Proofs.YtfchchmmjabjnaaDoor

theorem lens_append (y : Yr) : ∀ l l' : List (Int × Bool), y.lens (l ++ l') = y.lens l + y.lens l'
  | [], l' => by simp [Yr.lens]
  | p :: l, l' => by rw [List.cons_append, Yr.lens, Yr.lens, lens_append y l l']; omega
theorem runs_append (i : Nat) (y : Yr) : ∀ (l l' : List (Int × Bool)) (d : Int), runs i y d (l ++ l') = runs i y d l ++ runs i y (d + y.lens l) l'
  | [], l', d => by simp [runs, Yr.lens]
  | p :: l, l', d => by
    rw [List.cons_append, runs, runs, runs_append i y l l', List.cons_append, Yr.lens]
    congr 3; omega
theorem runs_length (i : Nat) (y : Yr) : ∀ (l : List (Int × Bool)) (d : Int), (runs i y d l).length = l.length
  | [], _ => rfl
  | p :: l, d => by rw [runs, List.length_cons, List.length_cons, runs_length i y l]
theorem mlen_29 (lg : Int) (b : Nat) : 29 ≤ mlen lg b ∧ mlen lg b ≤ 30 := by unfold mlen; split <;> omega
theorem len_29 (y : Yr) (n : Int) (s : Bool) : 29 ≤ y.len n s ∧ y.len n s ≤ 30 := mlen_29 _ _
theorem lens_29 (y : Yr) : ∀ l : List (Int × Bool), 29 * (l.length : Int) ≤ y.lens l ∧ y.lens l ≤ 30 * (l.length : Int)
  | [] => by simp [Yr.lens]
  | p :: l => by
    have := lens_29 y l
    have h := len_29 y p.1 p.2
    rw [Yr.lens, List.length_cons]
    omega
theorem moTo_succ (y : Yr) (k : Nat) : y.moTo (k + 1) = y.moTo k ++ (((k : Int) + 1, false) :: (if y.db = (k : Int) + 1 then [((k : Int) + 1, true)] else [])) := rfl
theorem moTo_length (y : Yr) : ∀ k : Nat, (y.moTo k).length = k + (if 1 ≤ y.db ∧ y.db ≤ (k : Int) then 1 else 0)
  | 0 => by
    have : ¬ (1 ≤ y.db ∧ y.db ≤ ((0 : Nat) : Int)) := by omega
    rw [if_neg this]; rfl
  | k + 1 => by
    rw [moTo_succ, List.length_append, List.length_cons, moTo_length y k]
    by_cases h : y.db = (k : Int) + 1
    · rw [if_pos h, if_neg (by omega), if_pos (by omega)]; simp
    · rw [if_neg h]
      by_cases h2 : 1 ≤ y.db ∧ y.db ≤ (k : Int)
      · rw [if_pos h2, if_pos (by omega)]; simp
      · rw [if_neg h2, if_neg (by omega)]; simp
theorem mos_length (y : Yr) : 12 ≤ y.mos.length ∧ y.mos.length ≤ 13 := by
  rw [Yr.mos, moTo_length]; split <;> omega
theorem days_bd (y : Yr) : 348 ≤ y.days ∧ y.days ≤ 390 := by
  have h := lens_29 y y.mos
  have h2 := mos_length y
  unfold Yr.days; omega
theorem dayAt_bd (c : Cal) : ∀ i : Nat, 1 + 348 * (i : Int) ≤ c.dayAt i ∧ c.dayAt i ≤ 1 + 390 * (i : Int)
  | 0 => by simp [Cal.dayAt]
  | i + 1 => by
    have := dayAt_bd c i
    have := days_bd (c.yr i)
    rw [Cal.dayAt]; omega
/-- What came till month k + 1 of year i. -/
def Cal.upTo (c : Cal) (i k : Nat) : List It := c.itemsTo i ++ runs i (c.yr i) (c.dayAt i) ((c.yr i).moTo k)
def Cal.dayTo (c : Cal) (i k : Nat) : Int := c.dayAt i + (c.yr i).lens ((c.yr i).moTo k)
theorem upTo_zero (c : Cal) (i : Nat) : c.upTo i 0 = c.itemsTo i := by simp [Cal.upTo, Yr.moTo, runs]
theorem dayTo_zero (c : Cal) (i : Nat) : c.dayTo i 0 = c.dayAt i := by simp [Cal.dayTo, Yr.moTo, Yr.lens]
theorem upTo_twelve (c : Cal) (i : Nat) : c.upTo i 12 = c.itemsTo (i + 1) := rfl
theorem dayTo_twelve (c : Cal) (i : Nat) : c.dayTo i 12 = c.dayAt (i + 1) := rfl
/-- The first month k + 1 of year i, and the second one. -/
def Cal.it1 (c : Cal) (i k : Nat) : It := ⟨i, (k : Int) + 1, false, c.dayTo i k⟩
def Cal.it2 (c : Cal) (i k : Nat) : It := ⟨i, (k : Int) + 1, true, c.dayTo i k + (c.yr i).len ((k : Int) + 1) false⟩
theorem upTo_one {c : Cal} {i k : Nat} (h : (c.yr i).db ≠ (k : Int) + 1) : c.upTo i (k + 1) = c.upTo i k ++ [c.it1 i k] := by
  rw [Cal.upTo, moTo_succ, if_neg h, runs_append, ← List.append_assoc]; rfl
theorem upTo_two {c : Cal} {i k : Nat} (h : (c.yr i).db = (k : Int) + 1) : c.upTo i (k + 1) = c.upTo i k ++ [c.it1 i k] ++ [c.it2 i k] := by
  rw [Cal.upTo, moTo_succ, if_pos h, runs_append, ← List.append_assoc, List.append_assoc (c.upTo i k)]; rfl
theorem dayTo_one {c : Cal} {i k : Nat} (h : (c.yr i).db ≠ (k : Int) + 1) : c.dayTo i (k + 1) = c.dayTo i k + (c.yr i).len ((k : Int) + 1) false := by
  rw [Cal.dayTo, moTo_succ, if_neg h, lens_append, ← Int.add_assoc]
  show _ + (_ + 0) = _ + _; rw [Int.add_zero]; rfl
theorem dayTo_two {c : Cal} {i k : Nat} (h : (c.yr i).db = (k : Int) + 1) : c.dayTo i (k + 1) = c.dayTo i k + (c.yr i).len ((k : Int) + 1) false + (c.yr i).len ((k : Int) + 1) true := by
  rw [Cal.dayTo, moTo_succ, if_pos h, lens_append, ← Int.add_assoc]
  show _ + (_ + (_ + 0)) = _ + _ + _; rw [Int.add_zero, ← Int.add_assoc]; rfl
theorem itemsTo_pre (c : Cal) {i j : Nat} (h : i ≤ j) : c.itemsTo i <+: c.itemsTo j := by
  induction j with
  | zero => obtain rfl : i = 0 := by omega
            exact List.prefix_rfl
  | succ j ih =>
    rcases Nat.lt_or_ge j i with h' | h'
    · obtain rfl : i = j + 1 := by omega
      exact List.prefix_rfl
    · exact (ih h').trans (List.prefix_append _ _)
theorem moTo_pre (y : Yr) {i j : Nat} (h : i ≤ j) : y.moTo i <+: y.moTo j := by
  induction j with
  | zero => obtain rfl : i = 0 := by omega
            exact List.prefix_rfl
  | succ j ih =>
    rcases Nat.lt_or_ge j i with h' | h'
    · obtain rfl : i = j + 1 := by omega
      exact List.prefix_rfl
    · exact (ih h').trans (List.prefix_append _ _)
theorem upTo_pre {c : Cal} {i k : Nat} (hi : i < c.ny) (hk : k ≤ 12) : c.upTo i k <+: c.items := by
  refine List.IsPrefix.trans ?_ (itemsTo_pre c (show i + 1 ≤ c.ny from hi))
  obtain ⟨t, ht⟩ := moTo_pre (c.yr i) hk
  show c.itemsTo i ++ _ <+: c.itemsTo i ++ runs i (c.yr i) (c.dayAt i) ((c.yr i).moTo 12)
  rw [← ht, runs_append, ← List.append_assoc]
  exact List.prefix_append _ _
theorem one_pre {c : Cal} {i k : Nat} (hi : i < c.ny) (hk : k < 12) : c.upTo i k ++ [c.it1 i k] <+: c.items := by
  by_cases h : (c.yr i).db = (k : Int) + 1
  · refine List.IsPrefix.trans ?_ (upTo_pre hi (show k + 1 ≤ 12 from hk))
    rw [upTo_two h]; exact List.prefix_append _ _
  · rw [← upTo_one h]; exact upTo_pre hi hk
theorem two_pre {c : Cal} {i k : Nat} (hi : i < c.ny) (hk : k < 12) (h : (c.yr i).db = (k : Int) + 1) : c.upTo i k ++ [c.it1 i k] ++ [c.it2 i k] <+: c.items := by
  rw [← upTo_two h]; exact upTo_pre hi hk
theorem lt_of_pre {α : Type} {pre l : List α} {x : α} (h : pre ++ [x] <+: l) : pre.length < l.length := by
  have := h.length_le; simp at this; omega
theorem dayTo_bd (c : Cal) {i k : Nat} (hk : k ≤ 12) : 1 + 348 * (i : Int) ≤ c.dayTo i k ∧ c.dayTo i k ≤ 1 + 390 * (i : Int) + 390 := by
  have h1 := dayAt_bd c i
  have h2 := lens_29 (c.yr i) ((c.yr i).moTo k)
  have h3 : ((c.yr i).moTo k).length ≤ 13 := by rw [moTo_length]; split <;> omega
  unfold Cal.dayTo; omega
/-- What a month that comes is, whatever its place. -/
structure Cal.okIt (c : Cal) (x : It) : Prop where
  y : x.y < c.ny
  n1 : 1 ≤ x.n
  n12 : x.n ≤ 12
  f1 : 1 ≤ x.first
  f2 : x.first ≤ 390 * (c.ny : Int) + 391
theorem it1_ok {c : Cal} {i k : Nat} (hi : i < c.ny) (hk : k < 12) : c.okIt (c.it1 i k) := by
  have h := dayTo_bd c (i := i) (k := k) (by omega)
  exact ⟨hi, by show 1 ≤ (k : Int) + 1; omega, by show (k : Int) + 1 ≤ 12; omega, by show 1 ≤ c.dayTo i k; omega, by show c.dayTo i k ≤ _; omega⟩
theorem it2_ok {c : Cal} {i k : Nat} (hi : i < c.ny) (hk : k < 12) : c.okIt (c.it2 i k) := by
  have h := dayTo_bd c (i := i) (k := k) (by omega)
  have h2 := len_29 (c.yr i) ((k : Int) + 1) false
  exact ⟨hi, by show 1 ≤ (k : Int) + 1; omega, by show (k : Int) + 1 ≤ 12; omega, by show 1 ≤ c.dayTo i k + _; omega, by show c.dayTo i k + _ ≤ _; omega⟩
theorem itemsTo_length (c : Cal) : ∀ i : Nat, (c.itemsTo i).length ≤ 13 * i
  | 0 => by simp [Cal.itemsTo]
  | i + 1 => by
    have := itemsTo_length c i
    have := mos_length (c.yr i)
    rw [Cal.itemsTo, List.length_append, runs_length]; omega
end Go.Proofs.YtfchchmmjabjnaaDoor
