/- Plain facts: kings, their years and the years' names. -/
import Derived.Test.YtfchchmmjabjnaaDoorPl9
namespace Go.Proofs.YtfchchmmjabjnaaDoor

/-! ### Reign, YearOf, Named, Whole -/
/-- How many of the first j years have the king k. -/
def Cal.ofKing (c : Cal) (k : Int) : Nat → Nat
  | 0 => 0
  | j + 1 => c.ofKing k j + (if (c.yr j).k = k then 1 else 0)
def Cal.kingOf (c : Cal) (i : Nat) : ByteArray := c.kg (c.yr i).k.toNat
/-- How many of the first j years have a king of that name. -/
def Cal.ofName (c : Cal) (s : ByteArray) : Nat → Nat
  | 0 => 0
  | j + 1 => c.ofName s j + (if c.kingOf j = s then 1 else 0)
def Cal.yearE (c : Cal) (y : Int) : Int := if c.valid then (if 0 ≤ y ∧ y < c.ny then 0 else 8) else 70
def Cal.reignS (c : Cal) (y : Int) : ByteArray := if c.yearE y = 0 then c.kingOf y.toNat else ⟨#[]⟩
def Cal.reignN (c : Cal) (y : Int) : Int := if c.yearE y = 0 then c.ofKing (c.yrI y).k (y.toNat + 1) else 0
/-- The n-th year of a king, out of the years from i on of which there are m more. -/
def Cal.nthFrom (c : Cal) (s : ByteArray) (n : Int) (i : Nat) : Nat → Option Nat
  | 0 => none
  | m + 1 => if c.kingOf i = s ∧ (c.ofName s (i + 1) : Int) = n then some i else c.nthFrom s n (i + 1) m
def Cal.nth? (c : Cal) (s : ByteArray) (n : Int) : Option Nat := c.nthFrom s n 0 c.ny
def Cal.yofE (c : Cal) (s : ByteArray) (n : Int) : Int := if c.valid then (if (c.nth? s n).isSome then 0 else 4) else 70
def Cal.yofV (c : Cal) (s : ByteArray) (n : Int) : Int := if c.valid then ((c.nth? s n).getD 0 : Nat) else 0
theorem nthFrom_miss {c : Cal} {s : ByteArray} {n : Int} : ∀ {m i : Nat}, (∀ j, i ≤ j → j < i + m → ¬ (c.kingOf j = s ∧ (c.ofName s (j + 1) : Int) = n)) → c.nthFrom s n i m = none
  | 0, _, _ => rfl
  | m + 1, i, h => by
    rw [Cal.nthFrom, if_neg (h i (Nat.le_refl _) (by omega))]
    exact nthFrom_miss fun j h1 h2 => h j (by omega) (by omega)
theorem nthFrom_hit {c : Cal} {s : ByteArray} {n : Int} : ∀ {m i k : Nat}, i ≤ k → k < i + m → (∀ j, i ≤ j → j < k → ¬ (c.kingOf j = s ∧ (c.ofName s (j + 1) : Int) = n)) → c.kingOf k = s → (c.ofName s (k + 1) : Int) = n → c.nthFrom s n i m = some k
  | 0, i, k, h1, h2, _, _, _ => by omega
  | m + 1, i, k, h1, h2, h3, h4, h5 => by
    rw [Cal.nthFrom]
    by_cases e : i = k
    · subst e; rw [if_pos ⟨h4, h5⟩]
    · rw [if_neg (h3 i (Nat.le_refl _) (by omega))]
      exact nthFrom_hit (by omega) (by omega) (fun j h6 h7 => h3 j (by omega) h7) h4 h5
theorem nth_miss {c : Cal} {s : ByteArray} {n : Int} (h : ∀ j, j < c.ny → ¬ (c.kingOf j = s ∧ (c.ofName s (j + 1) : Int) = n)) : c.nth? s n = none := nthFrom_miss fun j _ h2 => h j (by omega)
theorem nth_hit {c : Cal} {s : ByteArray} {n : Int} {k : Nat} (hk : k < c.ny) (h : ∀ j, j < k → ¬ (c.kingOf j = s ∧ (c.ofName s (j + 1) : Int) = n)) (h1 : c.kingOf k = s) (h2 : (c.ofName s (k + 1) : Int) = n) : c.nth? s n = some k :=
  nthFrom_hit (Nat.zero_le _) (by omega) (fun j _ h4 => h j h4) h1 h2
theorem ofName_le (c : Cal) (s : ByteArray) : ∀ j, c.ofName s j ≤ j
  | 0 => Nat.le_refl _
  | j + 1 => by have := ofName_le c s j; rw [Cal.ofName]; split <;> omega
theorem ofKing_le (c : Cal) (k : Int) : ∀ j, c.ofKing k j ≤ j
  | 0 => Nat.le_refl _
  | j + 1 => by have := ofKing_le c k j; rw [Cal.ofKing]; split <;> omega
def Cal.isNamed (c : Cal) (name king : ByteArray) (i : Nat) : Bool := decide ((c.yr i).nm = name) && (emptyB king || decide (c.kingOf i = king))
/-- The years with a name, of one king or of all, among the first k. -/
def Cal.namedTo (c : Cal) (name king : ByteArray) (k : Nat) : List Nat := (List.range k).filter (c.isNamed name king)
theorem namedTo_succ (c : Cal) (name king : ByteArray) (k : Nat) : c.namedTo name king (k + 1) = if c.isNamed name king k then c.namedTo name king k ++ [k] else c.namedTo name king k := by
  unfold Cal.namedTo
  rw [List.range_succ, List.filter_append]
  cases h : c.isNamed name king k <;> simp [h]
def Cal.namedV (c : Cal) (name king : ByteArray) : List Nat := if c.valid then c.namedTo name king c.ny else []
def zTrace : Tr := ⟨0, false, 0, false, ⟨#[]⟩, 0, ⟨#[]⟩⟩
def Cal.wholeT (c : Cal) (d : Dt) : Tr := ⟨d.d, false, d.m, d.s, (c.yrI d.y).nm, 0, c.kg (c.yrI d.y).k.toNat⟩
def Cal.wholeV (c : Cal) (d : Dt) : Tr := if c.inE d = 0 then c.wholeT d else zTrace

/-! ### What a valid calendar is -/
structure CalOk (c : Cal) : Prop where
  nk : 1 ≤ c.nk ∧ c.nk ≤ 40
  ny : 1 ≤ c.ny ∧ c.ny ≤ 400
  kname : ∀ i, i < c.nk → isName (c.kg i) = true
  kne : ∀ i j, j < i → i < c.nk → c.kg j ≠ c.kg i
  yk : ∀ i, i < c.ny → c.prevK i ≤ (c.yr i).k ∧ (c.yr i).k < c.nk
  yname : ∀ i, i < c.ny → isName (c.yr i).nm = true
  yne : ∀ i j, j < i → i < c.ny → ¬ ((c.yr j).k = (c.yr i).k ∧ (c.yr j).nm = (c.yr i).nm)
  shape : ∀ i, i < c.ny → (c.yr i).shapeOk = true
theorem valid_iff {c : Cal} : c.valid = true ↔ CalOk c := by
  unfold Cal.valid Cal.kingsOk
  simp only [Bool.and_eq_true, decide_eq_true_eq, List.all_eq_true, List.mem_range, Cal.kingOk, Cal.yearOk, Bool.not_eq_true', Cal.hadTo, List.any_eq_false, Yr.alike]
  constructor
  · rintro ⟨⟨⟨⟨⟨h1, h2⟩, h3⟩, h4⟩, h5⟩, h6⟩
    exact ⟨⟨h1, h2⟩, ⟨h4, h5⟩, fun i hi => (h3 i hi).1, fun i j hj hi => (h3 i hi).2 j hj, fun i hi => ⟨(h6 i hi).1.1.1.1, (h6 i hi).1.1.1.2⟩, fun i hi => (h6 i hi).1.1.2, fun i j hj hi => (h6 i hi).1.2 j hj, fun i hi => (h6 i hi).2⟩
  · intro h
    exact ⟨⟨⟨⟨h.nk, fun i hi => ⟨h.kname i hi, fun j hj => h.kne i j hj hi⟩⟩, h.ny.1⟩, h.ny.2⟩, fun i hi => ⟨⟨⟨⟨(h.yk i hi).1, (h.yk i hi).2⟩, h.yname i hi⟩, fun j hj => h.yne i j hj hi⟩, h.shape i hi⟩⟩
theorem CalOk.k0 {c : Cal} (h : CalOk c) : ∀ {i : Nat}, i < c.ny → 0 ≤ (c.yr i).k
  | 0, hi => (h.yk 0 hi).1
  | i + 1, hi => Int.le_trans (h.k0 (show i < c.ny by omega)) (h.yk (i + 1) hi).1
theorem CalOk.mono {c : Cal} (h : CalOk c) {i : Nat} : ∀ {j : Nat}, i ≤ j → j < c.ny → (c.yr i).k ≤ (c.yr j).k
  | 0, hij, _ => by obtain rfl : i = 0 := by omega
                    exact Int.le_refl _
  | j + 1, hij, hj => by
    rcases Nat.lt_or_ge j i with h' | h'
    · obtain rfl : i = j + 1 := by omega
      exact Int.le_refl _
    · exact Int.le_trans (h.mono h' (by omega)) (h.yk (j + 1) hj).1
theorem CalOk.kinj {c : Cal} (h : CalOk c) {i j : Nat} (hi : i < c.nk) (hj : j < c.nk) (e : c.kg i = c.kg j) : i = j := by
  rcases Nat.lt_trichotomy i j with h1 | h1 | h1
  · exact absurd e (h.kne j i h1 hj)
  · exact h1
  · exact absurd e.symm (h.kne i j h1 hi)
/-- Two years with kings of the same name have the same king. -/
theorem CalOk.king_iff {c : Cal} (h : CalOk c) {i j : Nat} (hi : i < c.ny) (hj : j < c.ny) : c.kingOf i = c.kingOf j ↔ (c.yr i).k = (c.yr j).k := by
  unfold Cal.kingOf
  constructor
  · intro e
    have a1 := h.k0 hi
    have a2 := h.k0 hj
    have b1 := (h.yk i hi).2
    have b2 := (h.yk j hj).2
    have := h.kinj (by omega) (by omega) e
    omega
  · intro e; rw [e]
theorem CalOk.of_eq {c : Cal} (h : CalOk c) {y : Nat} (hy : y < c.ny) : ∀ j, j ≤ c.ny → c.ofName (c.kingOf y) j = c.ofKing (c.yr y).k j
  | 0, _ => rfl
  | j + 1, hj => by
    rw [Cal.ofName, Cal.ofKing, h.of_eq hy j (by omega)]
    congr 1
    by_cases e : (c.yr j).k = (c.yr y).k
    · rw [if_pos e, if_pos ((h.king_iff (by omega) hy).2 e)]
    · rw [if_neg e, if_neg (fun e' => e ((h.king_iff (by omega) hy).1 e'))]
theorem ofKing_mono (c : Cal) (k : Int) {i : Nat} : ∀ {j : Nat}, i ≤ j → c.ofKing k i ≤ c.ofKing k j
  | 0, h => by obtain rfl : i = 0 := by omega
               exact Nat.le_refl _
  | j + 1, h => by
    rcases Nat.lt_or_ge j i with h' | h'
    · obtain rfl : i = j + 1 := by omega
      exact Nat.le_refl _
    · have := ofKing_mono c k h'
      rw [Cal.ofKing]; omega
/-- The year that Reign counts is the one that YearOf finds. -/
theorem reign_back {c : Cal} (hv : c.valid = true) {y : Nat} (hy : y < c.ny) : c.yofE (c.reignS y) (c.reignN y) = 0 ∧ c.yofV (c.reignS y) (c.reignN y) = (y : Int) := by
  have h := valid_iff.1 hv
  have hE : c.yearE (y : Int) = 0 := by unfold Cal.yearE; rw [if_pos hv, if_pos (by omega)]
  have e1 : c.reignS (y : Int) = c.kingOf y := by unfold Cal.reignS; rw [if_pos hE]; rfl
  have e2 : c.reignN (y : Int) = (c.ofKing (c.yr y).k (y + 1) : Int) := by unfold Cal.reignN; rw [if_pos hE]; rfl
  have hh : c.nth? (c.kingOf y) (c.ofKing (c.yr y).k (y + 1) : Int) = some y := by
    refine nth_hit hy (fun j hj => ?_) rfl (by rw [h.of_eq hy _ (by omega)])
    rintro ⟨h1, h2⟩
    rw [h.of_eq hy _ (by omega)] at h2
    have h3 : c.ofKing (c.yr y).k (j + 1) = c.ofKing (c.yr y).k (y + 1) := by omega
    have h4 := ofKing_mono c (c.yr y).k (show j + 1 ≤ y by omega)
    have h5 : c.ofKing (c.yr y).k (y + 1) = c.ofKing (c.yr y).k y + 1 := by rw [Cal.ofKing, if_pos rfl]
    omega
  rw [e1, e2]
  unfold Cal.yofE Cal.yofV
  rw [if_pos hv, if_pos hv, hh]
  exact ⟨rfl, rfl⟩
theorem filter_one {p : Nat → Bool} {y : Nat} : ∀ {n : Nat}, y < n → (∀ i, i < n → (p i = true ↔ i = y)) → (List.range n).filter p = [y]
  | n + 1, hy, h => by
    rw [List.range_succ, List.filter_append]
    by_cases e : y = n
    · subst e
      have h1 : (List.range y).filter p = [] := by
        rw [List.filter_eq_nil_iff]; intro i hi
        have := List.mem_range.1 hi
        rw [h i (by omega)]; omega
      have h2 : p y = true := (h y (by omega)).2 rfl
      rw [h1]; simp [h2]
    · have h2 : p n = false := by
        cases hp : p n
        · rfl
        · exact absurd ((h n (by omega)).1 hp).symm e
      rw [filter_one (show y < n by omega) (fun i hi => h i (by omega))]; simp [h2]
theorem emptyB_no {s : ByteArray} (h : isName s = true) : emptyB s = false := by
  simp only [isName, Bool.and_eq_true, decide_eq_true_eq] at h
  unfold emptyB
  obtain ⟨⟨l⟩⟩ := s
  cases l with
  | nil => have := h.1.1.1; simp [ByteArray.size] at this
  | cons a l => rfl
theorem emptyB_iff {s : ByteArray} : emptyB s = true ↔ s = ⟨#[]⟩ := by
  obtain ⟨⟨l⟩⟩ := s
  cases l <;> simp [emptyB]
/-- The name and the king of a year are those of this year alone. -/
theorem CalOk.alone {c : Cal} (h : CalOk c) {i y : Nat} (hi : i < c.ny) (hy : y < c.ny) (h1 : (c.yr i).nm = (c.yr y).nm) (h2 : c.kingOf i = c.kingOf y) : i = y := by
  have h3 := (h.king_iff hi hy).1 h2
  rcases Nat.lt_trichotomy i y with h4 | h4 | h4
  · exact absurd ⟨h3, h1⟩ (h.yne y i h4 hy)
  · exact h4
  · exact absurd ⟨h3.symm, h1.symm⟩ (h.yne i y h4 hi)
theorem named_alone {c : Cal} (hv : c.valid = true) {y : Nat} (hy : y < c.ny) : c.namedV (c.yr y).nm (c.kingOf y) = [y] := by
  have h := valid_iff.1 hv
  unfold Cal.namedV Cal.namedTo
  rw [if_pos hv]
  refine filter_one hy fun i hi => ?_
  have hk : emptyB (c.kingOf y) = false := emptyB_no (h.kname _ (by have := h.k0 hy; have := (h.yk y hy).2; omega))
  simp only [Cal.isNamed, hk, Bool.false_or, Bool.and_eq_true, decide_eq_true_eq]
  exact ⟨fun ⟨h1, h2⟩ => h.alone hi hy h1 h2, fun e => by subst e; exact ⟨rfl, rfl⟩⟩
theorem whole_parts (c : Cal) (d : Dt) : (c.wholeT d).d = d.d ∧ (c.wholeT d).more = false ∧ (c.wholeT d).m = d.m ∧ (c.wholeT d).s = d.s ∧ (c.wholeT d).nm = (c.yrI d.y).nm ∧ (c.wholeT d).af = 0 ∧ (c.wholeT d).kg = c.kg (c.yrI d.y).k.toNat := ⟨rfl, rfl, rfl, rfl, rfl, rfl, rfl⟩
theorem whole_ok {c : Cal} (hv : c.valid = true) {d : Dt} (hd : c.has d = true) : (c.wholeT d).ok = true := by
  have h := valid_iff.1 hv
  obtain ⟨⟨h1, h2⟩, ⟨h3, h4⟩, h5, h6, h7⟩ := has_iff.1 hd
  have hy : d.y.toNat < c.ny := by omega
  have n1 : isName (c.yrI d.y).nm = true := h.yname _ hy
  have n2 : isName (c.kg (c.yrI d.y).k.toNat) = true := h.kname _ (by have a1 := h.k0 hy; have a2 := (h.yk _ hy).2; unfold Cal.yrI; omega)
  have hl := (len_29 (c.yrI d.y) d.m d.s).2
  obtain ⟨e1, e2, e3, e4, e5, e6, e7⟩ := whole_parts c d
  generalize c.wholeT d = t at *
  simp only [Tr.ok, Bool.and_eq_true, decide_eq_true_eq, Bool.or_eq_true, Bool.not_eq_true', e1, e2, e3, e4, e5, e6, e7, n1, n2, emptyB_no n1, emptyB_no n2]
  refine ⟨⟨⟨⟨⟨⟨⟨⟨⟨⟨by omega, by omega⟩, by simp⟩, by omega⟩, by omega⟩, .inr (by omega)⟩, by simp⟩, Int.le_refl _⟩, by omega⟩, by simp⟩, by simp⟩
/-- Of the whole trace of a date exactly this date fits. -/
theorem whole_fits {c : Cal} (hv : c.valid = true) {d x : Dt} (hd : c.has d = true) (hx : c.has x = true) : c.fits (c.wholeT d) x = true ↔ x = d := by
  have h := valid_iff.1 hv
  obtain ⟨⟨h1, h2⟩, ⟨h3, h4⟩, h5, h6, h7⟩ := has_iff.1 hd
  obtain ⟨⟨x1, x2⟩, ⟨x3, x4⟩, x5, x6, x7⟩ := has_iff.1 hx
  have hy : d.y.toNat < c.ny := by omega
  have hxy : x.y.toNat < c.ny := by omega
  have n1 : isName (c.yrI d.y).nm = true := h.yname _ hy
  have n2 : isName (c.kg (c.yrI d.y).k.toNat) = true := h.kname _ (by have a1 := h.k0 hy; have a2 := (h.yk _ hy).2; unfold Cal.yrI; omega)
  obtain ⟨e1, e2, e3, e4, e5, e6, e7⟩ := whole_parts c d
  generalize c.wholeT d = t at *
  simp only [Cal.fits, Cal.inMonth, Tr.onDay, Cal.yearFits, e1, e2, e3, e4, e5, e6, e7, emptyB_no n1, emptyB_no n2, Bool.false_or, Bool.false_and, Bool.or_false, Bool.and_eq_true, decide_eq_true_eq, Bool.or_eq_true, beq_iff_eq, Int.sub_zero]
  clear e1 e2 e3 e4 e5 e6 e7
  constructor
  · rintro ⟨⟨h8, h9, h10⟩, h11⟩
    have : x.y.toNat = d.y.toNat := h.alone hxy hy h9.2 h10
    obtain ⟨xy, xm, xs, xd⟩ := x
    obtain ⟨dy, dm, ds, dd⟩ := d
    simp only at *
    rcases h8 with h8 | ⟨h8, h12⟩
    · omega
    · rcases h11 with h11 | h11
      · omega
      · rw [show xy = dy by omega, h8, h12, h11]
  · intro e
    subst e
    exact ⟨⟨.inr ⟨rfl, rfl⟩, ⟨⟨h1, rfl⟩, rfl⟩⟩, .inr rfl⟩
theorem whole_spans {c : Cal} (hv : c.valid = true) {d : Dt} (hd : c.has d = true) : c.spans (c.wholeT d) = [⟨(c.num d).1, (c.num d).1⟩] := by
  have hS := spans_ok (valid_iff.1 hv).ny.2 (c.wholeT d)
  have hf : ∀ n, c.Fit (c.wholeT d) n ↔ n = (c.num d).1 := fun n => by
    constructor
    · rintro ⟨x, hx, hfx⟩
      have hh := at_has hx
      have := (whole_fits hv hd hh.1).1 hfx
      subst this; exact hh.2.symm
    · rintro rfl
      exact ⟨d, at_num hd, (whole_fits hv hd hd).2 rfl⟩
  have hcov : ∀ n, (∃ s, s ∈ c.spans (c.wholeT d) ∧ s.a ≤ n ∧ n ≤ s.b) ↔ n = (c.num d).1 := fun n => (fit_iff (c := c)).symm.trans (hf n)
  have hone : ∀ s, s ∈ c.spans (c.wholeT d) → s = ⟨(c.num d).1, (c.num d).1⟩ := fun s hs => by
    have h0 := hS.ok s hs
    have h1 := (hcov s.a).1 ⟨s, hs, Int.le_refl _, h0.2.1⟩
    have h2 := (hcov s.b).1 ⟨s, hs, h0.2.1, Int.le_refl _⟩
    obtain ⟨a, b⟩ := s
    simp only at h1 h2
    rw [h1, h2]
  obtain ⟨s, hs, _⟩ := (hcov (c.num d).1).2 rfl
  match hl : c.spans (c.wholeT d), hs with
  | [z], _ => rw [hl] at hone; rw [hone z (by simp)]
  | z :: z' :: l, _ =>
    rw [hl] at hone hS
    have e1 := hone z (by simp)
    have e2 := hone z' (by simp)
    have := (List.pairwise_cons.1 hS.pw).1 z' (by simp)
    have := (hS.ok z (by simp))
    rw [e1, e2] at *
    simp only at *
    omega
end Go.Proofs.YtfchchmmjabjnaaDoor
