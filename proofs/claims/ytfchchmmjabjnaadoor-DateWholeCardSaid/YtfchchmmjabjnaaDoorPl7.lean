/- Plain law: the text of a valid trace is parsed as this trace, and what is parsed is the text of what it is parsed as. -/
import Derived.Test.YtfchchmmjabjnaaDoorPl6
import Derived.Test.YtfchchmmjabjnaaDoorWz
namespace Go.Proofs.YtfchchmmjabjnaaDoor
open Go

theorem cutL_app : ∀ (l m : List UInt8) (c : UInt8), c ∉ l → cutL (l ++ c :: m) c = (l, m, true)
  | [], m, c, _ => by simp [cutL]
  | x :: l, m, c, h => by
    rw [List.mem_cons, not_or] at h
    rw [List.cons_append, cutL, if_neg (fun e => h.1 e.symm), cutL_app l m c h.2]
theorem cutL_no : ∀ (l : List UInt8) (c : UInt8), c ∉ l → cutL l c = (l, [], false)
  | [], _, _ => rfl
  | x :: l, c, h => by
    rw [List.mem_cons, not_or] at h
    rw [cutL, if_neg (fun e => h.1 e.symm), cutL_no l c h.2]
theorem part_43 : ((List.range 31).all fun n => [false, true].all fun b => decide (readL (partS n ⟨#[43]⟩ b).data.toList 43 = (n, b && decide (0 < n))) && decide ((47 : UInt8) ∉ (partS n ⟨#[43]⟩ b).data.toList)) = true := by kernel_rfl
theorem part_98 : ((List.range 31).all fun n => [false, true].all fun b => decide (readL (partS n ⟨#[98]⟩ b).data.toList 98 = (n, b && decide (0 < n))) && decide ((47 : UInt8) ∉ (partS n ⟨#[98]⟩ b).data.toList)) = true := by kernel_rfl
theorem part_read {m : UInt8} (hm : m = 43 ∨ m = 98) {n : Nat} (hn : n ≤ 30) (b : Bool) : readL (partS n ⟨#[m]⟩ b).data.toList m = (n, b && decide (0 < n)) ∧ (47 : UInt8) ∉ (partS n ⟨#[m]⟩ b).data.toList := by
  have hb : b ∈ [false, true] := by cases b <;> simp
  rcases hm with rfl | rfl
  · have := List.all_eq_true.1 (List.all_eq_true.1 part_43 n (List.mem_range.2 (by omega))) b hb
    simpa only [Bool.and_eq_true, decide_eq_true_eq] using this
  · have := List.all_eq_true.1 (List.all_eq_true.1 part_98 n (List.mem_range.2 (by omega))) b hb
    simpa only [Bool.and_eq_true, decide_eq_true_eq] using this
theorem nameB_not {c : UInt8} (h : nameB c = true) : c ≠ 47 ∧ c ≠ 64 := by
  simp only [nameB, lowB, digB, Bool.or_eq_true, Bool.and_eq_true, decide_eq_true_eq] at h
  constructor <;> rintro rfl <;> simp at h
theorem lowB_not {c : UInt8} (h : lowB c = true) : c ≠ 43 ∧ c ≠ 45 := by
  simp only [lowB, Bool.and_eq_true, decide_eq_true_eq] at h
  constructor <;> rintro rfl <;> simp at h
theorem name_parts {s : ByteArray} (h : isName s = true) : ∃ x l, s.data.toList = x :: l ∧ x ≠ 43 ∧ x ≠ 45 ∧ (64 : UInt8) ∉ s.data.toList ∧ s.size ≤ 16 := by
  simp only [isName, Bool.and_eq_true, decide_eq_true_eq] at h
  obtain ⟨⟨⟨h1, h2⟩, h3⟩, h4⟩ := h
  have h5 : (64 : UInt8) ∉ s.data.toList := fun hm => (nameB_not (List.all_eq_true.1 h4 _ hm)).2 rfl
  cases hl : s.data.toList with
  | nil =>
    have : s.size = 0 := by show s.data.toList.length = 0; rw [hl]; rfl
    omega
  | cons x l =>
    rw [hl] at h3 h5
    exact ⟨x, l, rfl, (lowB_not h3).1, (lowB_not h3).2, h5, h2⟩
theorem empty_eq {s : ByteArray} (h : emptyB s = true) : s = ⟨#[]⟩ := by
  obtain ⟨⟨l⟩⟩ := s
  simp only [emptyB, List.isEmpty_iff] at h
  subst h; rfl
theorem plus_rep : ∀ (k : Nat) (x : UInt8) (l : List UInt8), x ≠ 43 → (Lib.repeatL [43] k ++ x :: l).takeWhile isPlus = Lib.repeatL [43] k ∧ (Lib.repeatL [43] k ++ x :: l).dropWhile isPlus = x :: l
  | 0, x, l, h => by simp [Lib.repeatL, isPlus, h]
  | k + 1, x, l, h => by
    have := plus_rep k x l h
    simp only [Lib.repeatL, List.cons_append, List.nil_append]
    rw [List.takeWhile_cons_of_pos (by rfl), List.dropWhile_cons_of_pos (by rfl), this.1, this.2]
    exact ⟨rfl, rfl⟩
theorem rep_len (k : Nat) : (Lib.repeatL [43] k).length = k := by rw [Lib.repeatL_length]; simp
theorem rep_no : ∀ (k : Nat), (64 : UInt8) ∉ Lib.repeatL [43] k
  | 0 => by simp [Lib.repeatL]
  | k + 1 => by simp [Lib.repeatL, rep_no k]
/-- What stands for the year. -/
theorem year_read {t : Tr} (hn : emptyB t.nm = true ∨ isName t.nm = true) (h0 : 0 ≤ t.af) (ha : emptyB t.nm = true → t.af = 0) :
    nameL (yearS t).data.toList = t.nm ∧ (((yearS t).data.toList.takeWhile isPlus).length : Int) = t.af ∧ (64 : UInt8) ∉ (yearS t).data.toList ∧ (t.af ≤ 3 → (yearS t).size ≤ 19) := by
  unfold yearS
  cases he : emptyB t.nm
  · rw [if_neg (by simp)]
    obtain ⟨x, l, hl, h1, h2, h3, h4⟩ := name_parts (hn.resolve_left (by simp [he]))
    have hd : (rp t.af.toNat ++ t.nm).data.toList = Lib.repeatL [43] t.af.toNat ++ x :: l := by rw [ByteArray.data_append, Array.toList_append, hl]; rfl
    obtain ⟨p1, p2⟩ := plus_rep t.af.toNat x l h1
    rw [hd]
    refine ⟨?_, ?_, ?_, fun h => ?_⟩
    · unfold nameL
      rw [p2, if_neg (by intro e; injection e with e _; exact h2 e), ← hl]
    · rw [p1, rep_len]; omega
    · rw [hl] at h3
      rw [List.mem_append, not_or]; exact ⟨rep_no _, h3⟩
    · rw [ByteArray.size_append, rp_size]; omega
  · rw [if_pos rfl]
    refine ⟨?_, ?_, ?_, fun _ => by show 1 ≤ 19; omega⟩
    · rw [empty_eq he]; rfl
    · rw [ha he]; rfl
    · decide
theorem king_read {t : Tr} {y : ByteArray} (hk : emptyB t.kg = true ∨ isName t.kg = true) (hy : (64 : UInt8) ∉ y.data.toList) :
    (cutL (kingS t y).data.toList 64).1 = y.data.toList ∧ (⟨(cutL (kingS t y).data.toList 64).2.1.toArray⟩ : ByteArray) = t.kg ∧ (kingS t y).size ≤ y.size + 17 := by
  unfold kingS
  cases he : emptyB t.kg
  · rw [if_neg (by simp)]
    obtain ⟨_, _, _, _, _, _, h4⟩ := name_parts (hk.resolve_left (by simp [he]))
    have hd : (y ++ (⟨#[64]⟩ ++ t.kg)).data.toList = y.data.toList ++ 64 :: t.kg.data.toList := by
      rw [ByteArray.data_append, Array.toList_append, ByteArray.data_append, Array.toList_append]; rfl
    rw [hd, cutL_app _ _ _ hy]
    have h0 : (⟨#[64]⟩ : ByteArray).size = 1 := rfl
    refine ⟨rfl, rfl, ?_⟩
    rw [ByteArray.size_append, ByteArray.size_append, h0]; omega
  · rw [if_pos rfl, cutL_no _ _ hy, empty_eq he]
    exact ⟨rfl, rfl, by omega⟩
theorem text_list (t : Tr) : (textS t).data.toList = (partS t.d.toNat ⟨#[43]⟩ t.more).data.toList ++ 47 :: ((partS t.m.toNat ⟨#[98]⟩ t.s).data.toList ++ 47 :: (kingS t (yearS t)).data.toList) := by
  unfold textS
  simp only [ByteArray.data_append, Array.toList_append, List.append_assoc]
  rfl
theorem cand_text {t : Tr} (h : t.ok = true) : candL (textS t).data.toList = some t := by
  obtain ⟨h1, h2, h3, h4, h5, h6, h7, h8, h9, h10, h11⟩ := ok_iff.1 h
  obtain ⟨a1, a2⟩ := part_read (.inl rfl) (n := t.d.toNat) (by omega) t.more
  obtain ⟨b1, b2⟩ := part_read (.inr rfl) (n := t.m.toNat) (by omega) t.s
  obtain ⟨y1, y2, y3, _⟩ := year_read h7 h8 h10
  obtain ⟨k1, k2, _⟩ := king_read (y := yearS t) h11 y3
  have c1 : cutL (textS t).data.toList 47 = ((partS t.d.toNat ⟨#[43]⟩ t.more).data.toList, (partS t.m.toNat ⟨#[98]⟩ t.s).data.toList ++ 47 :: (kingS t (yearS t)).data.toList, true) := by
    rw [text_list]; exact cutL_app _ _ _ a2
  have c2 := cutL_app (partS t.m.toNat ⟨#[98]⟩ t.s).data.toList (kingS t (yearS t)).data.toList 47 b2
  unfold candL
  rw [c1]
  simp only
  rw [c2]
  simp only
  rw [if_pos (by rfl), a1, b1, k1, y1, y2, k2]
  have e1 : (t.more && decide (0 < t.d.toNat)) = t.more := by
    cases hm : t.more
    · rfl
    · have := h3 hm
      rw [Bool.true_and]; exact decide_eq_true (by omega)
  have e2 : (t.s && decide (0 < t.m.toNat)) = t.s := by
    cases hm : t.s
    · rfl
    · have := h6 hm
      rw [Bool.true_and]; exact decide_eq_true (by omega)
  simp only
  rw [e1, e2, Int.toNat_of_nonneg h1, Int.toNat_of_nonneg h4]
theorem text_small {t : Tr} (h : t.ok = true) : (textS t).size ≤ 65536 := by
  obtain ⟨h1, h2, h3, h4, h5, h6, h7, h8, h9, h10, h11⟩ := ok_iff.1 h
  obtain ⟨_, _, y3, y4⟩ := year_read h7 h8 h10
  obtain ⟨_, _, k3⟩ := king_read (y := yearS t) h11 y3
  have p1 := partS_size (n := t.d.toNat) (mark := ⟨#[43]⟩) (b := t.more) (by omega) (by decide)
  have p2 := partS_size (n := t.m.toNat) (mark := ⟨#[98]⟩) (b := t.s) (by omega) (by decide)
  have h0 : (⟨#[47]⟩ : ByteArray).size = 1 := rfl
  have y5 := y4 h9
  unfold textS
  simp only [ByteArray.size_append, h0]
  omega
theorem parse_text {t : Tr} (h : t.ok = true) : parseS (textS t) = some t := by
  unfold parseS
  rw [if_neg (by have := text_small h; omega), cand_text h]
  simp [Option.filter, h]
theorem text_parse {s : ByteArray} {u : Tr} (h : parseS s = some u) : u.ok = true ∧ textS u = s := by
  unfold parseS at h
  split at h
  · cases h
  · rw [Option.filter_eq_some_iff] at h
    simpa only [Bool.and_eq_true, decide_eq_true_eq] using h.2
end Go.Proofs.YtfchchmmjabjnaaDoor
