/- Plain facts: a calendar with years added. -/
import Derived.Test.YtfchchmmjabjnaaDoorPlA
namespace Go.Proofs.YtfchchmmjabjnaaDoor

/-- The month that is doubled at a place of the cycle. -/
def dbl (p : Nat) : Int := if p = 17 then 6 else if p = 3 ∨ p = 6 ∨ p = 8 ∨ p = 11 ∨ p = 14 ∨ p = 19 then 12 else 0
/-- The place of the i-th added year. -/
def placeAt (p i : Nat) : Nat := (p - 1 + i) % 19 + 1
theorem placeAt_zero {p : Nat} (h1 : 1 ≤ p) (h2 : p ≤ 19) : placeAt p 0 = p := by unfold placeAt; omega
theorem placeAt_succ (p i : Nat) : placeAt p (i + 1) = placeAt p i % 19 + 1 := by unfold placeAt; omega
theorem placeAt_bd (p i : Nat) : 1 ≤ placeAt p i ∧ placeAt p i ≤ 19 := by unfold placeAt; omega
theorem dbl_cases (p : Nat) : dbl p = 0 ∨ dbl p = 6 ∨ dbl p = 12 := by unfold dbl; split; exact .inr (.inl rfl); split; exact .inr (.inr rfl); exact .inl rfl
def lgOf (d : Int) : Int := if 0 < d then 5461 else 1365
def newYr (k : Int) (p : Nat) (s : ByteArray) : Yr := ⟨k, s, lgOf (dbl p), dbl p⟩
def Cal.lastK (c : Cal) : Int := (c.yr (c.ny - 1)).k
def Cal.extY (c : Cal) (p : Nat) (g : Nat → ByteArray) (i : Nat) : Yr := if i < c.ny then c.yr i else newYr c.lastK (placeAt p (i - c.ny)) (g (i - c.ny))
def Cal.ext (c : Cal) (p : Nat) (g : Nat → ByteArray) (m : Nat) : Cal := ⟨c.nk, c.kg, c.ny + m, c.extY p g⟩
theorem extY_old {c : Cal} {p : Nat} {g : Nat → ByteArray} {i : Nat} (h : i < c.ny) : c.extY p g i = c.yr i := by unfold Cal.extY; rw [if_pos h]
theorem extY_new (c : Cal) (p : Nat) (g : Nat → ByteArray) (i : Nat) : c.extY p g (c.ny + i) = newYr c.lastK (placeAt p i) (g i) := by
  unfold Cal.extY; rw [if_neg (by omega), Nat.add_sub_cancel_left]
/-- May the i-th name be added? -/
def Cal.extGood (c : Cal) (p : Nat) (g : Nat → ByteArray) (i : Nat) : Bool := isName (g i) && !((List.range (c.ny + i)).any fun j => decide ((c.extY p g j).k = c.lastK) && decide ((c.extY p g j).nm = g i))
def Cal.extAll (c : Cal) (p : Nat) (g : Nat → ByteArray) (n : Nat) : Bool := (List.range n).all (c.extGood p g)
def Cal.extE (c : Cal) (g : Nat → ByteArray) (n : Nat) (p : Int) : Int :=
  if c.valid then (if 1 ≤ p ∧ p ≤ 19 then (if n ≤ 38 ∧ c.ny + n ≤ 400 then (if c.extAll p.toNat g n then 0 else 5) else 3) else 8) else 70
def zCal : Cal := ⟨0, fun _ => ⟨#[]⟩, 0, fun _ => ⟨0, ⟨#[]⟩, 0, 0⟩⟩
def Cal.extV (c : Cal) (g : Nat → ByteArray) (n : Nat) (p : Int) : Cal := if c.extE g n p = 0 then c.ext p.toNat g n else zCal
theorem extAll_no {c : Cal} {p : Nat} {g : Nat → ByteArray} {n k : Nat} (hk : k < n) (h : c.extGood p g k = false) : c.extAll p g n = false := by
  rw [Cal.extAll, List.all_eq_false]; exact ⟨k, by simpa using hk, by simp [h]⟩
theorem extAll_yes {c : Cal} {p : Nat} {g : Nat → ByteArray} {n : Nat} (h : ∀ k, k < n → c.extGood p g k = true) : c.extAll p g n = true := by
  rw [Cal.extAll, List.all_eq_true]; intro k hk; exact h k (by simpa using hk)
theorem extE_ok {c : Cal} {g : Nat → ByteArray} {n : Nat} {p : Int} (h : c.extE g n p = 0) : c.valid = true ∧ (1 ≤ p ∧ p ≤ 19) ∧ (n ≤ 38 ∧ c.ny + n ≤ 400) ∧ c.extAll p.toNat g n = true ∧ c.extV g n p = c.ext p.toNat g n := by
  have h' := h
  unfold Cal.extE at h
  split at h
  · split at h
    · split at h
      · split at h
        · exact ⟨by assumption, by assumption, by assumption, by assumption, by unfold Cal.extV; rw [if_pos h']⟩
        · cases h
      · cases h
    · cases h
  · cases h
theorem ext_valid {c : Cal} (hv : c.valid = true) {p : Nat} {g : Nat → ByteArray} {n : Nat} (hn : c.ny + n ≤ 400) (ha : c.extAll p g n = true) : (c.ext p g n).valid = true := by
  have h := valid_iff.1 hv
  have hl : c.ny - 1 < c.ny := by have := h.ny.1; omega
  have ha' : ∀ i, i < n → isName (g i) = true ∧ ∀ j, j < c.ny + i → ¬ ((c.extY p g j).k = c.lastK ∧ (c.extY p g j).nm = g i) := fun i hi => by
    have := List.all_eq_true.1 ha i (List.mem_range.2 hi)
    simp only [Cal.extGood, Bool.and_eq_true, Bool.not_eq_true', List.any_eq_false, List.mem_range, decide_eq_true_eq] at this
    exact this
  have hprev : ∀ i, i < c.ny + n → (c.ext p g n).prevK i ≤ (c.extY p g i).k ∧ (c.extY p g i).k < c.nk := fun i hi => by
    by_cases h1 : i < c.ny
    · have h2 := h.yk i h1
      rw [extY_old h1]
      refine ⟨?_, h2.2⟩
      cases i with
      | zero => exact h2.1
      | succ i =>
        show (c.extY p g i).k ≤ _
        rw [extY_old (by omega)]; exact h2.1
    · obtain ⟨j, rfl⟩ : ∃ j, i = c.ny + j := ⟨i - c.ny, by omega⟩
      rw [extY_new]
      refine ⟨?_, (h.yk _ hl).2⟩
      obtain ⟨m, hm⟩ : ∃ m, c.ny + j = m + 1 := ⟨c.ny + j - 1, by omega⟩
      rw [hm]
      show (c.extY p g m).k ≤ c.lastK
      by_cases h3 : m < c.ny
      · rw [extY_old h3]
        obtain rfl : m = c.ny - 1 := by omega
        exact Int.le_refl _
      · obtain ⟨q, rfl⟩ : ∃ q, m = c.ny + q := ⟨m - c.ny, by omega⟩
        rw [extY_new]; exact Int.le_refl _
  refine valid_iff.2 ⟨h.nk, ⟨by have := h.ny.1; show 1 ≤ c.ny + n; omega, hn⟩, h.kname, h.kne, hprev, fun i hi => ?_, fun i j hj hi => ?_, fun i hi => ?_⟩
  · change i < c.ny + n at hi
    show isName (c.extY p g i).nm = true
    by_cases h1 : i < c.ny
    · rw [extY_old h1]; exact h.yname i h1
    · obtain ⟨j, rfl⟩ : ∃ j, i = c.ny + j := ⟨i - c.ny, by omega⟩
      rw [extY_new]; exact (ha' j (by omega)).1
  · change i < c.ny + n at hi
    show ¬ ((c.extY p g j).k = (c.extY p g i).k ∧ (c.extY p g j).nm = (c.extY p g i).nm)
    by_cases h1 : i < c.ny
    · rw [extY_old h1, extY_old (by omega)]; exact h.yne i j hj h1
    · obtain ⟨q, rfl⟩ : ∃ q, i = c.ny + q := ⟨i - c.ny, by omega⟩
      rw [extY_new]; exact (ha' q (by omega)).2 j hj
  · change i < c.ny + n at hi
    show (c.extY p g i).shapeOk = true
    by_cases h1 : i < c.ny
    · rw [extY_old h1]; exact h.shape i h1
    · obtain ⟨q, rfl⟩ : ∃ q, i = c.ny + q := ⟨i - c.ny, by omega⟩
      rw [extY_new]
      unfold newYr lgOf Yr.shapeOk
      rcases dbl_cases (placeAt p q) with e | e | e <;> rw [e] <;> rfl
/-! ### The earlier days keep their numbers -/
theorem dayAt_same {c c' : Cal} : ∀ k : Nat, (∀ i, i < k → c'.yr i = c.yr i) → c'.dayAt k = c.dayAt k
  | 0, _ => rfl
  | k + 1, h => by rw [Cal.dayAt, Cal.dayAt, dayAt_same k (fun i hi => h i (by omega)), h k (by omega)]
theorem itemsTo_same {c c' : Cal} : ∀ k : Nat, (∀ i, i < k → c'.yr i = c.yr i) → c'.itemsTo k = c.itemsTo k
  | 0, _ => rfl
  | k + 1, h => by rw [Cal.itemsTo, Cal.itemsTo, itemsTo_same k (fun i hi => h i (by omega)), h k (by omega), dayAt_same k (fun i hi => h i (by omega))]
theorem atFrom_same {c c' : Cal} {n : Int} {o : Dt} : ∀ {l : List It} (l' : List It), (∀ x, x ∈ l → c'.yr x.y = c.yr x.y) → c.atFrom n l = some o → c'.atFrom n (l ++ l') = some o
  | x :: l, l', h, ho => by
    have e : x.len c' = x.len c := by unfold It.len; rw [h x (List.mem_cons_self ..)]
    rw [List.cons_append, Cal.atFrom, e]
    rw [Cal.atFrom] at ho
    split
    · rename_i h1; rw [if_pos h1] at ho; exact ho
    · rename_i h1; rw [if_neg h1] at ho
      exact atFrom_same l' (fun y hy => h y (List.mem_cons_of_mem _ hy)) ho
theorem ext_at {c : Cal} {p : Nat} {g : Nat → ByteArray} {m : Nat} {n : Int} {o : Dt} (h : c.at? n = some o) : (c.ext p g m).at? n = some o := by
  have hy : ∀ i, i < c.ny → (c.ext p g m).yr i = c.yr i := fun i hi => extY_old hi
  obtain ⟨l', hl⟩ := itemsTo_pre (c.ext p g m) (show c.ny ≤ c.ny + m by omega)
  unfold Cal.at? Cal.items
  show (c.ext p g m).atFrom n ((c.ext p g m).itemsTo (c.ny + m)) = some o
  rw [← hl, itemsTo_same c.ny hy]
  exact atFrom_same l' (fun x hx => hy _ (itemsTo_end c c.ny x hx).1) h
theorem ext_atE {c : Cal} {g : Nat → ByteArray} {m : Nat} {p n : Int} (hE : c.extE g m p = 0) (h : c.atE n = 0) : (c.extV g m p).atE n = 0 ∧ (c.extV g m p).atV n = c.atV n := by
  obtain ⟨hv, hp, hm, ha, e⟩ := extE_ok hE
  rw [e]
  have hv' := ext_valid hv hm.2 ha
  unfold Cal.atE at h
  rw [if_pos hv] at h
  cases ho : c.at? n with
  | none => rw [ho] at h; cases h
  | some o =>
    unfold Cal.atE Cal.atV
    rw [if_pos hv', if_pos hv', if_pos hv, ext_at ho, ho]
    exact ⟨rfl, rfl⟩
/-- How many of the first k added years have a doubled month. -/
def many (p : Nat) : Nat → Nat
  | 0 => 0
  | k + 1 => many p k + (if 0 < dbl (placeAt p k) then 1 else 0)
theorem many_le (p : Nat) : ∀ k, many p k ≤ k
  | 0 => Nat.le_refl _
  | k + 1 => by have := many_le p k; rw [many]; split <;> omega
theorem many_seven {p : Nat} (h1 : 1 ≤ p) (h2 : p ≤ 19) : many p 19 = 7 := by
  have h : ∀ q : Fin 19, many (q.1 + 1) 19 = 7 := by decide
  have := h ⟨p - 1, by omega⟩
  rwa [show (⟨p - 1, by omega⟩ : Fin 19).1 + 1 = p by simp only; omega] at this
end Go.Proofs.YtfchchmmjabjnaaDoor
