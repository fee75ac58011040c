/- Plain facts: a trace of which less is visible fits more days. -/
import Derived.Test.YtfchchmmjabjnaaDoorPl5
namespace Go.Proofs.YtfchchmmjabjnaaDoor

def bringI (n m : Int) : Int := if m < 1 then 0 else (if n.tmod m < 0 then n.tmod m + m else n.tmod m)
theorem bringI_bd {n m : Int} (h : 0 < m) : 0 ≤ bringI n m ∧ bringI n m < m := by
  have h1 := Int.tmod_lt_of_pos n h
  have h2 := Int.lt_tmod_of_pos n h
  unfold bringI
  rw [if_neg (by omega)]
  split <;> omega
def noB : ByteArray := ⟨#[]⟩
def Tr.hide (t : Tr) (which day : Int) : Tr :=
  if which = 0 then ⟨0, false, t.m, t.s, t.nm, t.af, t.kg⟩
  else if which = 1 then (if 0 < t.d then ⟨1 + bringI day t.d, true, t.m, t.s, t.nm, t.af, t.kg⟩ else t)
  else if which = 2 then ⟨t.d, t.more, 0, false, t.nm, t.af, t.kg⟩
  else if which = 3 then ⟨t.d, t.more, t.m, t.s, noB, 0, t.kg⟩
  else if which = 4 then ⟨t.d, t.more, t.m, t.s, t.nm, t.af, noB⟩ else t
theorem ok_iff {t : Tr} : t.ok = true ↔ (0 ≤ t.d ∧ t.d ≤ 30 ∧ (t.more = true → 0 < t.d) ∧ 0 ≤ t.m ∧ t.m ≤ 12 ∧ (t.s = true → 0 < t.m) ∧ (emptyB t.nm = true ∨ isName t.nm = true) ∧ 0 ≤ t.af ∧ t.af ≤ 3 ∧ (emptyB t.nm = true → t.af = 0) ∧ (emptyB t.kg = true ∨ isName t.kg = true)) := by
  simp only [Tr.ok, Bool.and_eq_true, decide_eq_true_eq, Bool.or_eq_true, Bool.not_eq_true', and_assoc]
  cases t.more <;> cases t.s <;> cases emptyB t.nm <;> simp
theorem hide_ok {t : Tr} (which day : Int) (h : t.ok = true) : (t.hide which day).ok = true := by
  obtain ⟨h1, h2, h3, h4, h5, h6, h7, h8, h9, h10, h11⟩ := ok_iff.1 h
  have e : emptyB noB = true := rfl
  unfold Tr.hide
  split
  · exact ok_iff.2 ⟨by simp only; omega, by simp only; omega, fun h => (by cases h), h4, h5, h6, h7, h8, h9, h10, h11⟩
  · split
    · split
      · rename_i hd
        have := bringI_bd (n := day) hd
        exact ok_iff.2 ⟨by simp only; omega, by simp only; omega, fun _ => (by simp only; omega), h4, h5, h6, h7, h8, h9, h10, h11⟩
      · exact h
    · split
      · exact ok_iff.2 ⟨h1, h2, h3, by simp only; omega, by simp only; omega, fun h => (by cases h), h7, h8, h9, h10, h11⟩
      · split
        · exact ok_iff.2 ⟨h1, h2, h3, h4, h5, h6, .inl e, by simp only; omega, by simp only; omega, fun _ => rfl, h11⟩
        · split
          · exact ok_iff.2 ⟨h1, h2, h3, h4, h5, h6, h7, h8, h9, h10, .inl e⟩
          · exact h
theorem fits_iff {c : Cal} {t : Tr} {d : Dt} : c.fits t d = true ↔ ((t.m = 0 ∨ (t.m = d.m ∧ t.s = d.s)) ∧ (emptyB t.nm = true ∨ (t.af ≤ d.y ∧ (c.yrI (d.y - t.af)).nm = t.nm)) ∧ (emptyB t.kg = true ∨ c.kg (c.yrI d.y).k.toNat = t.kg) ∧ (t.d = 0 ∨ d.d = t.d ∨ (t.more = true ∧ t.d < d.d))) := by
  simp only [Cal.fits, Cal.inMonth, Cal.yearFits, Tr.onDay, Bool.and_eq_true, Bool.or_eq_true, decide_eq_true_eq, beq_iff_eq, and_assoc, or_assoc]
theorem hide_fits {c : Cal} {t : Tr} {d : Dt} (which day : Int) (h : c.fits t d = true) : c.fits (t.hide which day) d = true := by
  obtain ⟨h1, h2, h3, h4⟩ := fits_iff.1 h
  have e : emptyB noB = true := rfl
  unfold Tr.hide
  split
  · exact fits_iff.2 ⟨h1, h2, h3, .inl rfl⟩
  · split
    · split
      · rename_i hd
        have := bringI_bd (n := day) hd
        refine fits_iff.2 ⟨h1, h2, h3, .inr ?_⟩
        simp only
        rcases h4 with h4 | h4 | ⟨_, h4⟩
        · omega
        · by_cases e : d.d = 1 + bringI day t.d
          · exact .inl e
          · exact .inr ⟨trivial, by omega⟩
        · exact .inr ⟨trivial, by omega⟩
      · exact h
    · split
      · exact fits_iff.2 ⟨.inl rfl, h2, h3, h4⟩
      · split
        · exact fits_iff.2 ⟨h1, .inl e, h3, h4⟩
        · split
          · exact fits_iff.2 ⟨h1, h2, .inl e, h4⟩
          · exact h
/-- Days that all fit lie in one span. -/
theorem one_span {G : Int → Prop} {M : List Sp} {e x y : Int} (hM : Good G M e) (hx : 1 ≤ x) (hxy : x ≤ y) (hy : y < e) (hG : ∀ n, x ≤ n → n ≤ y → G n) : ∃ z, z ∈ M ∧ z.a ≤ x ∧ y ≤ z.b := by
  obtain ⟨z, hz, h1, h2⟩ := (hM.cover x hx (by omega)).1 (hG x (Int.le_refl _) hxy)
  refine ⟨z, hz, h1, ?_⟩
  rcases Int.lt_or_le z.b y with h3 | h3
  · obtain ⟨z', hz', h4, h5⟩ := (hM.cover (z.b + 1) (by omega) (by omega)).1 (hG _ (by omega) (by omega))
    have hz0 := hM.ok z hz
    have hz0' := hM.ok z' hz'
    obtain ⟨i, hi, rfl⟩ := List.mem_iff_getElem.1 hz
    obtain ⟨j, hj, rfl⟩ := List.mem_iff_getElem.1 hz'
    have hp := List.pairwise_iff_getElem.1 hM.pw
    rcases Nat.lt_trichotomy i j with h | h | h
    · have := hp i j hi hj h; omega
    · subst h; omega
    · have := hp j i hj hi h; omega
  · exact h3
theorem widen_at {F G : Int → Prop} {L M : List Sp} {e : Int} (hL : Good F L e) (hM : Good G M e) (hFG : ∀ n, F n → G n) {i k : Nat} (hi : i < L.length) (hk : ∀ j, j < k → (M.getD j ⟨0, 0⟩).b < (L.getD i ⟨0, 0⟩).a) (hkM : k ≤ M.length) :
    (L.getD i ⟨0, 0⟩).a ≤ (L.getD i ⟨0, 0⟩).b ∧ k < M.length ∧ ((L.getD i ⟨0, 0⟩).a ≤ (M.getD k ⟨0, 0⟩).b → (M.getD k ⟨0, 0⟩).a ≤ (L.getD i ⟨0, 0⟩).a ∧ (L.getD i ⟨0, 0⟩).b ≤ (M.getD k ⟨0, 0⟩).b) := by
  have hgL : L.getD i ⟨0, 0⟩ = L[i] := by rw [List.getD_eq_getElem?_getD, List.getElem?_eq_getElem hi]; rfl
  rw [hgL] at hk ⊢
  have hs := hL.ok L[i] (List.getElem_mem hi)
  obtain ⟨z, hz, h1, h2⟩ := one_span hM hs.1 hs.2.1 hs.2.2 (fun n h1 h2 => hFG n ((hL.cover n (by omega) (by omega)).2 ⟨L[i], List.getElem_mem hi, h1, h2⟩))
  obtain ⟨q, hq, rfl⟩ := List.mem_iff_getElem.1 hz
  have hgM : ∀ j (h : j < M.length), M.getD j ⟨0, 0⟩ = M[j] := fun j h => by rw [List.getD_eq_getElem?_getD, List.getElem?_eq_getElem h]; rfl
  have hkq : k ≤ q := by
    rcases Nat.lt_or_ge q k with h | h
    · have := hk q h; rw [hgM q hq] at this; omega
    · exact h
  refine ⟨hs.2.1, by omega, fun h3 => ?_⟩
  rw [hgM k (by omega)] at h3 ⊢
  by_cases he : k = q
  · subst he; exact ⟨h1, h2⟩
  · have := List.pairwise_iff_getElem.1 hM.pw k q (by omega) hq (by omega)
    omega
theorem good_next {F : Int → Prop} {L : List Sp} {e : Int} (hL : Good F L e) {i j : Nat} (hij : i < j) (hj : j < L.length) : (L.getD i ⟨0, 0⟩).b + 2 ≤ (L.getD j ⟨0, 0⟩).a := by
  have hg : ∀ j (h : j < L.length), L.getD j ⟨0, 0⟩ = L[j] := fun j h => by rw [List.getD_eq_getElem?_getD, List.getElem?_eq_getElem h]; rfl
  rw [hg i (by omega), hg j hj]
  exact List.pairwise_iff_getElem.1 hL.pw i j (by omega) hj hij
theorem good_at {F : Int → Prop} {L : List Sp} {e : Int} (hL : Good F L e) {i : Nat} (hi : i < L.length) : 1 ≤ (L.getD i ⟨0, 0⟩).a ∧ (L.getD i ⟨0, 0⟩).a ≤ (L.getD i ⟨0, 0⟩).b ∧ (L.getD i ⟨0, 0⟩).b < e := by
  rw [List.getD_eq_getElem?_getD, List.getElem?_eq_getElem hi]
  exact hL.ok _ (List.getElem_mem hi)
end Go.Proofs.YtfchchmmjabjnaaDoor
