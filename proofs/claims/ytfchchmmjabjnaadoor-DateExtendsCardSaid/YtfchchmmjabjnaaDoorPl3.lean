/- Plain facts: dates, their months and their numbers lie in one order. -/
import Derived.Test.YtfchchmmjabjnaaDoorPl2
namespace Go.Proofs.YtfchchmmjabjnaaDoor

def It.before (x y : It) : Prop := x.y < y.y ∨ (x.y = y.y ∧ (x.n < y.n ∨ (x.n = y.n ∧ x.s = false ∧ y.s = true)))
def Cal.ord (c : Cal) (x y : It) : Prop := x.first + x.len c ≤ y.first ∧ x.before y
def pb (p q : Int × Bool) : Prop := p.1 < q.1 ∨ (p.1 = q.1 ∧ p.2 = false ∧ q.2 = true)
theorem moTo_mem (y : Yr) : ∀ (k : Nat) (p : Int × Bool), p ∈ y.moTo k → 1 ≤ p.1 ∧ p.1 ≤ (k : Int) ∧ (p.2 = true → y.db = p.1)
  | 0, _, h => by cases h
  | k + 1, p, h => by
    rw [moTo_succ, List.mem_append, List.mem_cons] at h
    rcases h with h | rfl | h
    · have := moTo_mem y k p h
      exact ⟨this.1, by omega, this.2.2⟩
    · exact ⟨by simp only; omega, by simp only; omega, fun h => by cases h⟩
    · by_cases hd : y.db = (k : Int) + 1
      · rw [if_pos hd, List.mem_singleton] at h
        subst h
        exact ⟨by simp only; omega, by simp only; omega, fun _ => hd⟩
      · rw [if_neg hd] at h; cases h
theorem moTo_has (y : Yr) : ∀ (k : Nat) (n : Int), 1 ≤ n → n ≤ (k : Int) → (n, false) ∈ y.moTo k ∧ (y.db = n → (n, true) ∈ y.moTo k)
  | 0, n, h1, h2 => by omega
  | k + 1, n, h1, h2 => by
    rw [moTo_succ]
    by_cases hn : n = (k : Int) + 1
    · subst hn
      refine ⟨by simp, fun hd => ?_⟩
      rw [if_pos hd]; simp
    · have := moTo_has y k n h1 (by omega)
      exact ⟨List.mem_append_left _ this.1, fun hd => List.mem_append_left _ (this.2 hd)⟩
theorem moTo_pw (y : Yr) : ∀ k : Nat, (y.moTo k).Pairwise pb
  | 0 => by simp [Yr.moTo]
  | k + 1 => by
    rw [moTo_succ, List.pairwise_append]
    refine ⟨moTo_pw y k, ?_, fun p hp q hq => ?_⟩
    · by_cases hd : y.db = (k : Int) + 1
      · rw [if_pos hd]; simp [pb]
      · rw [if_neg hd]; simp
    · have h1 := (moTo_mem y k p hp).2.1
      rw [List.mem_cons] at hq
      rcases hq with rfl | hq
      · exact .inl (by simp only; omega)
      · by_cases hd : y.db = (k : Int) + 1
        · rw [if_pos hd, List.mem_singleton] at hq
          subst hq
          exact .inl (by simp only; omega)
        · rw [if_neg hd] at hq; cases hq
theorem runs_mem (i : Nat) (y : Yr) : ∀ (l : List (Int × Bool)) (d : Int) (x : It), x ∈ runs i y d l → (x.n, x.s) ∈ l
  | [], _, _, h => by cases h
  | p :: l, d, x, h => by
    rw [runs] at h
    rcases List.mem_cons.1 h with rfl | h
    · exact List.mem_cons_self ..
    · exact List.mem_cons_of_mem _ (runs_mem i y l _ x h)
theorem runs_has (i : Nat) (y : Yr) : ∀ (l : List (Int × Bool)) (d : Int) (p : Int × Bool), p ∈ l → ∃ x, x ∈ runs i y d l ∧ x.y = i ∧ x.n = p.1 ∧ x.s = p.2
  | q :: l, d, p, h => by
    rw [runs]
    rcases List.mem_cons.1 h with rfl | h
    · exact ⟨_, List.mem_cons_self .., rfl, rfl, rfl⟩
    · obtain ⟨x, hx, h1⟩ := runs_has i y l (d + y.len q.1 q.2) p h
      exact ⟨x, List.mem_cons_of_mem _ hx, h1⟩
theorem runs_pw (c : Cal) (i : Nat) : ∀ (l : List (Int × Bool)) (d : Int), l.Pairwise pb → (runs i (c.yr i) d l).Pairwise c.ord
  | [], _, _ => by simp [runs]
  | p :: l, d, h => by
    rw [List.pairwise_cons] at h
    rw [runs, List.pairwise_cons]
    refine ⟨fun x hx => ?_, runs_pw c i l _ h.2⟩
    have h1 := runs_end c i l _ x hx
    have h2 := h.1 _ (runs_mem i _ l _ x hx)
    refine ⟨h1.2.1, .inr ⟨h1.1.symm, ?_⟩⟩
    rcases h2 with h2 | h2
    · exact .inl h2
    · exact .inr h2
theorem itemsTo_pw (c : Cal) : ∀ k : Nat, (c.itemsTo k).Pairwise c.ord
  | 0 => by simp [Cal.itemsTo]
  | k + 1 => by
    rw [Cal.itemsTo, List.pairwise_append]
    refine ⟨itemsTo_pw c k, runs_pw c k _ _ (moTo_pw _ 12), fun x hx y hy => ?_⟩
    have h1 := itemsTo_end c k x hx
    have h2 := runs_end c k _ _ y hy
    have h3 := dayAt_mono c (i := x.y + 1) (j := k) (by omega)
    exact ⟨by omega, .inl (by omega)⟩
theorem items_lt {c : Cal} {i j : Nat} {x y : It} (hx : c.items[i]? = some x) (hy : c.items[j]? = some y) (h : i < j) : c.ord x y := by
  obtain ⟨h1, rfl⟩ := List.getElem?_eq_some_iff.1 hx
  obtain ⟨h2, rfl⟩ := List.getElem?_eq_some_iff.1 hy
  exact List.pairwise_iff_getElem.1 (itemsTo_pw c c.ny) i j h1 h2 h
theorem before_irr {x y : It} (h : x.before y) (h1 : x.y = y.y) (h2 : x.n = y.n) (h3 : x.s = y.s) : False := by
  rcases h with h | ⟨_, h | ⟨_, h4, h5⟩⟩
  · omega
  · omega
  · rw [h4, h5] at h3; cases h3
theorem items_key {c : Cal} {i j : Nat} {x y : It} (hx : c.items[i]? = some x) (hy : c.items[j]? = some y) (h1 : x.y = y.y) (h2 : x.n = y.n) (h3 : x.s = y.s) : i = j := by
  rcases Nat.lt_trichotomy i j with h | h | h
  · exact (before_irr (items_lt hx hy h).2 h1 h2 h3).elim
  · exact h
  · exact (before_irr (items_lt hy hx h).2 h1.symm h2.symm h3.symm).elim
theorem itemsTo_of (c : Cal) {i : Nat} {x : It} (hx : x ∈ runs i (c.yr i) (c.dayAt i) (c.yr i).mos) : ∀ k : Nat, i < k → x ∈ c.itemsTo k
  | k + 1, h => by
    rw [Cal.itemsTo, List.mem_append]
    by_cases hk : i = k
    · subst hk; exact .inr hx
    · exact .inl (itemsTo_of c hx k (by omega))
theorem itemsTo_db (c : Cal) : ∀ (k : Nat) (x : It), x ∈ c.itemsTo k → 1 ≤ x.n ∧ x.n ≤ 12 ∧ (x.s = true → (c.yr x.y).db = x.n)
  | 0, _, h => by cases h
  | k + 1, x, h => by
    rw [Cal.itemsTo, List.mem_append] at h
    rcases h with h | h
    · exact itemsTo_db c k x h
    · have h1 := (runs_end c k _ _ x h).1
      have h2 := moTo_mem (c.yr k) 12 _ (runs_mem k _ _ _ x h)
      rw [h1]
      exact h2
theorem of_iff {x : It} {d : Dt} : x.of d = true ↔ ((x.y : Int) = d.y ∧ x.n = d.m ∧ x.s = d.s) := by
  simp [It.of, and_assoc]
theorem has_iff {c : Cal} {d : Dt} : c.has d = true ↔ ((0 ≤ d.y ∧ d.y < c.ny) ∧ (1 ≤ d.m ∧ d.m ≤ 12) ∧ (d.s = true → (c.yrI d.y).db = d.m) ∧ (1 ≤ d.d ∧ d.d ≤ (c.yrI d.y).len d.m d.s)) := by
  simp only [Cal.has, Bool.and_eq_true, decide_eq_true_eq, Bool.or_eq_true, Bool.not_eq_true', and_assoc]
  cases d.s <;> simp
theorem numFrom_ix (d : Dt) : ∀ (l : List It) (k : Int), (∃ x, x ∈ l ∧ x.of d = true) → ∃ (i : Nat) (x : It), l[i]? = some x ∧ x.of d = true ∧ numFrom d l k = (x.first + d.d - 1, k + i + 1)
  | [], _, h => by obtain ⟨x, hx, _⟩ := h; cases hx
  | x :: l, k, h => by
    by_cases ho : x.of d = true
    · exact ⟨0, x, rfl, ho, by rw [numFrom, if_pos ho]; simp⟩
    · obtain ⟨z, hz, hzo⟩ := h
      have hz' : z ∈ l := by
        rcases List.mem_cons.1 hz with rfl | h1
        · exact absurd hzo ho
        · exact h1
      obtain ⟨i, y, hy, hyo, hn⟩ := numFrom_ix d l (k + 1) ⟨z, hz', hzo⟩
      exact ⟨i + 1, y, by simpa using hy, hyo, by rw [numFrom, if_neg ho, hn]; congr 1; omega⟩
theorem num_ix {c : Cal} {d : Dt} (h : c.has d = true) : ∃ (i : Nat) (x : It), c.items[i]? = some x ∧ ((x.y : Int) = d.y ∧ x.n = d.m ∧ x.s = d.s) ∧ c.num d = (x.first + d.d - 1, (i : Int) + 1) ∧ 1 ≤ d.d ∧ d.d ≤ x.len c := by
  obtain ⟨⟨h1, h2⟩, ⟨h3, h4⟩, h5, h6, h7⟩ := has_iff.1 h
  have hex : ∃ x, x ∈ c.items ∧ x.of d = true := by
    have hm : (d.m, d.s) ∈ (c.yr d.y.toNat).mos := by
      have := moTo_has (c.yr d.y.toNat) 12 d.m h3 (by omega)
      cases hs : d.s
      · exact this.1
      · exact this.2 (h5 hs)
    obtain ⟨x, hx, hy, hn, hs⟩ := runs_has d.y.toNat (c.yr d.y.toNat) _ (c.dayAt d.y.toNat) _ hm
    exact ⟨x, itemsTo_of c hx c.ny (by omega), of_iff.2 ⟨by omega, hn, hs⟩⟩
  obtain ⟨i, x, hx, ho, hn⟩ := numFrom_ix d c.items 0 hex
  have ho' := of_iff.1 ho
  refine ⟨i, x, hx, ho', by unfold Cal.num; rw [hn]; congr 1; omega, h6, ?_⟩
  have e : x.len c = (c.yrI d.y).len d.m d.s := by
    unfold It.len Cal.yrI
    rw [ho'.2.1, ho'.2.2, ← ho'.1]; rfl
  omega
def Dt.less (a b : Dt) : Bool := if a.y = b.y then (if a.m = b.m then (if a.s = b.s then decide (a.d < b.d) else b.s) else decide (a.m < b.m)) else decide (a.y < b.y)
theorem less_true {a b : Dt} (h : a.y < b.y ∨ (a.y = b.y ∧ (a.m < b.m ∨ (a.m = b.m ∧ a.s = false ∧ b.s = true)))) : a.less b = true := by
  unfold Dt.less
  rcases h with h | ⟨h1, h | ⟨h2, h3, h4⟩⟩
  · rw [if_neg (by omega)]; exact decide_eq_true h
  · rw [if_pos h1, if_neg (by omega)]; exact decide_eq_true h
  · rw [if_pos h1, if_pos h2, h3, h4]; rfl
theorem less_false {a b : Dt} (h : b.y < a.y ∨ (b.y = a.y ∧ (b.m < a.m ∨ (b.m = a.m ∧ b.s = false ∧ a.s = true)))) : a.less b = false := by
  unfold Dt.less
  rcases h with h | ⟨h1, h | ⟨h2, h3, h4⟩⟩
  · rw [if_neg (by omega)]; exact decide_eq_false (by omega)
  · rw [if_pos h1.symm, if_neg (by omega)]; exact decide_eq_false (by omega)
  · rw [if_pos h1.symm, if_pos h2.symm, h3, h4]; rfl
theorem order {c : Cal} {a b : Dt} (ha : c.has a = true) (hb : c.has b = true) : a.less b = decide ((c.num a).1 < (c.num b).1) ∧ ((c.num a).1 = (c.num b).1 ↔ a = b) ∧
    ((c.num a).1 < (c.num b).1 → 0 < 30 * ((c.num b).2 - (c.num a).2) + b.d - a.d) ∧ ((c.num a).1 = (c.num b).1 → 30 * ((c.num b).2 - (c.num a).2) + b.d - a.d = 0) := by
  obtain ⟨i, x, hx, ⟨x1, x2, x3⟩, xn, xd, xl⟩ := num_ix ha
  obtain ⟨j, y, hy, ⟨y1, y2, y3⟩, yn, yd, yl⟩ := num_ix hb
  have lx := len_29 (c.yr x.y) x.n x.s
  have ly := len_29 (c.yr y.y) y.n y.s
  change 29 ≤ x.len c ∧ x.len c ≤ 30 at lx
  change 29 ≤ y.len c ∧ y.len c ≤ 30 at ly
  rw [xn, yn]
  rcases Nat.lt_trichotomy i j with h | h | h
  · obtain ⟨o1, o2⟩ := items_lt hx hy h
    have hl : a.less b = true := less_true (by
      rw [← x1, ← y1, ← x2, ← y2, ← x3, ← y3]
      rcases o2 with o | ⟨p, o⟩
      · exact .inl (by omega)
      · exact .inr ⟨by omega, o⟩)
    simp only
    refine ⟨by rw [hl]; exact (decide_eq_true (by omega)).symm, ⟨fun h => by omega, fun h => ?_⟩, fun _ => by omega, fun h => by omega⟩
    subst h
    exact (before_irr o2 (by omega) (by omega) (by rw [x3, y3])).elim
  · subst h
    obtain rfl : x = y := Option.some.inj (hx.symm.trans hy)
    have e1 : a.y = b.y := by omega
    have e2 : a.m = b.m := by omega
    have e3 : a.s = b.s := x3.symm.trans y3
    simp only
    refine ⟨?_, ⟨fun h => ?_, fun h => by rw [h]⟩, fun _ => by omega, fun _ => by omega⟩
    · unfold Dt.less
      rw [if_pos e1, if_pos e2, if_pos e3]
      by_cases hd : a.d < b.d
      · rw [decide_eq_true hd]; exact (decide_eq_true (by omega)).symm
      · rw [decide_eq_false hd]; exact (decide_eq_false (by omega)).symm
    · have e4 : a.d = b.d := by omega
      cases a; cases b; simp only at e1 e2 e3 e4; rw [e1, e2, e3, e4]
  · obtain ⟨o1, o2⟩ := items_lt hy hx h
    have hl : a.less b = false := less_false (by
      rw [← x1, ← y1, ← x2, ← y2, ← x3, ← y3]
      rcases o2 with o | ⟨p, o⟩
      · exact .inl (by omega)
      · exact .inr ⟨by omega, o⟩)
    simp only
    refine ⟨by rw [hl]; exact (decide_eq_false (by omega)).symm, ⟨fun h => by omega, fun h => ?_⟩, fun h => by omega, fun h => by omega⟩
    subst h
    exact (before_irr o2 (by omega) (by omega) (by rw [x3, y3])).elim

/-! ### The date of a number -/
theorem atFrom_ix {c : Cal} {n : Int} {x : It} : ∀ {l : List It} {i : Nat}, l[i]? = some x → x.first ≤ n → n - x.first < x.len c → (∀ (j : Nat) (y : It), j < i → l[j]? = some y → ¬ (y.first ≤ n ∧ n - y.first < y.len c)) → c.atFrom n l = some ⟨x.y, x.n, x.s, n - x.first + 1⟩
  | y :: l, 0, h, h1, h2, _ => by
    obtain rfl : y = x := by simpa using h
    rw [Cal.atFrom, if_pos ⟨h1, h2⟩]
  | y :: l, i + 1, h, h1, h2, h3 => by
    rw [Cal.atFrom, if_neg (h3 0 y (by omega) rfl)]
    exact atFrom_ix (by simpa using h) h1 h2 (fun j z hj hz => h3 (j + 1) z (by omega) (by simpa using hz))
theorem at_num {c : Cal} {d : Dt} (h : c.has d = true) : c.at? (c.num d).1 = some d := by
  obtain ⟨i, x, hx, ⟨x1, x2, x3⟩, xn, xd, xl⟩ := num_ix h
  rw [xn]
  simp only
  unfold Cal.at?
  rw [atFrom_ix hx (by omega) (by omega) (fun j y hj hy hc => ?_)]
  · have e : x.first + d.d - 1 - x.first + 1 = d.d := by omega
    rw [e, x1, x2, x3]
  · have := (items_lt hy hx hj).1
    omega
theorem at_has {c : Cal} {n : Int} {d : Dt} (h : c.at? n = some d) : c.has d = true ∧ (c.num d).1 = n := by
  obtain ⟨x, hx, h1, h2, rfl⟩ := atFrom_some h
  have k1 := itemsTo_end c c.ny x hx
  have k2 := itemsTo_db c c.ny x hx
  have hh : c.has ⟨x.y, x.n, x.s, n - x.first + 1⟩ = true := has_iff.2 ⟨⟨by simp only; omega, by simp only; omega⟩, ⟨k2.1, k2.2.1⟩, k2.2.2, by simp only; omega, by
    have e : x.len c = (c.yrI (x.y : Int)).len x.n x.s := rfl
    simp only
    omega⟩
  refine ⟨hh, ?_⟩
  obtain ⟨i, y, hy, ⟨y1, y2, y3⟩, yn, _, _⟩ := num_ix hh
  obtain ⟨j, hj⟩ := List.mem_iff_getElem?.1 hx
  obtain rfl := items_key hy hj (by simp only at y1; omega) y2 y3
  obtain rfl : y = x := Option.some.inj (hy.symm.trans hj)
  rw [yn]
  simp only
  omega
theorem runs_cover (c : Cal) (i : Nat) : ∀ (l : List (Int × Bool)) (d n : Int), d ≤ n → n < d + (c.yr i).lens l → ∃ x, x ∈ runs i (c.yr i) d l ∧ x.first ≤ n ∧ n - x.first < x.len c
  | [], d, n, h1, h2 => by simp [Yr.lens] at h2; omega
  | p :: l, d, n, h1, h2 => by
    rw [Yr.lens] at h2
    rw [runs]
    by_cases h : n < d + (c.yr i).len p.1 p.2
    · exact ⟨_, List.mem_cons_self .., h1, by show n - d < (c.yr i).len p.1 p.2; omega⟩
    · obtain ⟨x, hx, h3⟩ := runs_cover c i l (d + (c.yr i).len p.1 p.2) n (by omega) (by omega)
      exact ⟨x, List.mem_cons_of_mem _ hx, h3⟩
theorem itemsTo_cover (c : Cal) : ∀ (k : Nat) (n : Int), 1 ≤ n → n < c.dayAt k → ∃ x, x ∈ c.itemsTo k ∧ x.first ≤ n ∧ n - x.first < x.len c
  | 0, n, h1, h2 => by simp [Cal.dayAt] at h2; omega
  | k + 1, n, h1, h2 => by
    rw [Cal.itemsTo]
    by_cases h : n < c.dayAt k
    · obtain ⟨x, hx, h3⟩ := itemsTo_cover c k n h1 h
      exact ⟨x, List.mem_append_left _ hx, h3⟩
    · obtain ⟨x, hx, h3⟩ := runs_cover c k (c.yr k).mos (c.dayAt k) n (by omega) (by rw [Cal.dayAt] at h2; exact h2)
      exact ⟨x, List.mem_append_right _ hx, h3⟩
theorem atFrom_mem {c : Cal} {n : Int} : ∀ {l : List It} {x : It}, x ∈ l → x.first ≤ n → n - x.first < x.len c → ∃ d, c.atFrom n l = some d
  | y :: l, x, h, h1, h2 => by
    rw [Cal.atFrom]
    by_cases hy : y.first ≤ n ∧ n - y.first < y.len c
    · rw [if_pos hy]; exact ⟨_, rfl⟩
    · rw [if_neg hy]
      rcases List.mem_cons.1 h with rfl | h
      · exact absurd ⟨h1, h2⟩ hy
      · exact atFrom_mem h h1 h2
theorem at_in {c : Cal} {n : Int} (h1 : 1 ≤ n) (h2 : n < c.dayAt c.ny) : ∃ d, c.at? n = some d := by
  obtain ⟨x, hx, h3, h4⟩ := itemsTo_cover c c.ny n h1 h2
  exact atFrom_mem hx h3 h4
theorem num_in {c : Cal} {d : Dt} (h : c.has d = true) : 1 ≤ (c.num d).1 ∧ (c.num d).1 < c.dayAt c.ny := by
  have h1 := at_num h
  rcases Decidable.em ((c.num d).1 < 1 ∨ c.dayAt c.ny ≤ (c.num d).1) with h2 | h2
  · rw [at_out h2] at h1; cases h1
  · omega
/-- The first day of a year. -/
theorem at_first {c : Cal} {i : Nat} (hi : i < c.ny) : c.at? (c.dayAt i) = some ⟨i, 1, false, 1⟩ := by
  have hl := len_29 (c.yr i) 1 false
  have hh : c.has ⟨i, 1, false, 1⟩ = true := has_iff.2 ⟨⟨by simp only; omega, by simp only; omega⟩, ⟨by simp only; omega, by simp only; omega⟩, fun h => (by cases h), by simp only; omega, by
    show 1 ≤ (c.yr ((i : Int)).toNat).len 1 false
    rw [show ((i : Int)).toNat = i by omega]; omega⟩
  have h1 := at_num hh
  obtain ⟨k, y, hy, ⟨y1, y2, y3⟩, yn, _, _⟩ := num_ix hh
  have hp := one_pre (c := c) hi (show 0 < 12 by omega)
  have hx : c.items[(c.upTo i 0).length]? = some (c.it1 i 0) := by
    obtain ⟨t, ht⟩ := hp
    rw [← ht, List.append_assoc, List.getElem?_append_right (Nat.le_refl _)]
    simp
  obtain rfl := items_key hy hx (by show y.y = i; simp only at y1; omega) (by show y.n = ((0 : Nat) : Int) + 1; rw [y2]; rfl) y3
  obtain rfl : y = c.it1 i 0 := Option.some.inj (hy.symm.trans hx)
  have hd : (c.it1 i 0).first = c.dayAt i := dayTo_zero c i
  rw [yn, hd] at h1
  rw [← h1]
  congr 1
  simp only
  omega
end Go.Proofs.YtfchchmmjabjnaaDoor
