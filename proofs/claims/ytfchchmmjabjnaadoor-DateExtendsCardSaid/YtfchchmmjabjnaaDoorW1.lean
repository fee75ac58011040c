/- The walks of IsName, in both packages. -/
import Derived.Test.YtfchchmmjabjnaaDoorProg
import Derived.Test.YtfchchmmjabjnaaDoorKit
import Derived.Test.YtfchchmmjabjnaaDoorPure
import Derived.Outline
namespace Go.Proofs.YtfchchmmjabjnaaDoor
open Go Go.RowKit

theorem mixed : Tryd.prog.follows .mixedOrders = true := by kernel_rfl

theorem take_snoc (s : ByteArray) (k : Nat) (h : k < s.size) : s.data.toList.take (k + 1) = s.data.toList.take k ++ [s[k]] := by
  rw [List.take_succ_eq_append_getElem (by simpa using h)]; rfl
/-- The first k bytes may stand in a name. -/
def NameTo (s : ByteArray) (k : Nat) : Prop := (s.data.toList.take k).all nameB = true
theorem nameTo_snoc (s : ByteArray) (k : Nat) (h : k < s.size) (hp : NameTo s k) (hc : nameB s[k] = true) : NameTo s (k + 1) := by
  unfold NameTo at *
  rw [take_snoc s k h, List.all_append, hp]; simp [hc]
theorem nameTo_all (s : ByteArray) (k : Nat) (h : s.size ≤ k) (hp : NameTo s k) : allName s = true := by
  unfold NameTo at hp
  rw [List.take_of_length_le (by simp; omega)] at hp
  exact hp
theorem allName_not (s : ByteArray) (k : Nat) (h : k < s.size) (hc : nameB s[k] = false) : allName s = false := by
  unfold allName
  rw [List.all_eq_false]
  exact ⟨s[k], by show s.data[k] ∈ _; simp, by simp [hc]⟩
theorem nameB_yes {c : UInt8} (h : c.toNat = 95 ∨ (97 ≤ c.toNat ∧ c.toNat ≤ 122) ∨ (48 ≤ c.toNat ∧ c.toNat ≤ 57)) : nameB c = true := by
  simp only [nameB, lowB, digB, Bool.or_eq_true, Bool.and_eq_true, decide_eq_true_eq]; omega
theorem nameB_no {c : UInt8} (h : ¬ (c.toNat = 95 ∨ (97 ≤ c.toNat ∧ c.toNat ≤ 122) ∨ (48 ≤ c.toNat ∧ c.toNat ≤ 57))) : nameB c = false := by
  rw [Bool.eq_false_iff]
  simp only [nameB, lowB, digB, ne_eq, Bool.or_eq_true, Bool.and_eq_true, decide_eq_true_eq]; omega
theorem low_yes {c : UInt8} (h1 : 97 ≤ c.toNat) (h2 : c.toNat ≤ 122) : lowB c = true := by simp [lowB, h1, h2]
theorem low_no {c : UInt8} (h : ¬ (97 ≤ c.toNat ∧ c.toNat ≤ 122)) : lowB c = false := by
  rw [Bool.eq_false_iff]; simp only [lowB, ne_eq, Bool.and_eq_true, decide_eq_true_eq]; exact h
theorem isName_eq (s : ByteArray) (h1 : 1 ≤ s.size) (h2 : s.size ≤ 16) : isName s = (lowB (s[0]'h1) && allName s) := by
  have h0 : s.data.toList.headD 0 = s[0]'h1 := by
    rw [List.headD_eq_head?_getD, List.head?_eq_getElem?, List.getElem?_eq_getElem (by simp; omega)]; rfl
  rw [isName, h0, decide_eq_true h1, decide_eq_true h2]; rfl
theorem isName_no (s : ByteArray) (h : s.size < 1 ∨ 16 < s.size) : isName s = false := by
  rw [isName]
  rcases h with h | h
  · rw [decide_eq_false (by omega : ¬ 1 ≤ s.size)]; rfl
  · rw [decide_eq_false (by omega : ¬ s.size ≤ 16)]; simp

set_option maxHeartbeats 1000000 in
theorem isName_any (s : ByteArray) (w : World) :
    Calls Tryd.prog 111 #[.string s] w fun e w' => e = .returned (.bool (isName s)) ∧ w = w' := by
  by_cases h0 : s.size < 1
  · rw [isName_no s (.inl h0)]
    have z0 : ((s.size : Int) == 0) = true := beq_iff_eq.2 (by omega)
    go_enter Tryd.func111, Tryd.ntmps111
    go_wp2
    go_ret
    exact ⟨rfl, rfl⟩
  by_cases h1 : 16 < s.size
  · rw [isName_no s (.inr h1)]
    have z0 : ((s.size : Int) == 0) = false := beq_eq_false_iff_ne.2 (by omega)
    go_enter Tryd.func111, Tryd.ntmps111
    go_wp2
    go_ret
    exact ⟨rfl, rfl⟩
  have g1 : 1 ≤ s.size := by omega
  have g2 : s.size ≤ 16 := by omega
  rw [isName_eq s g1 g2]
  have z0 : ((s.size : Int) == 0) = false := beq_eq_false_iff_ne.2 (by omega)
  clear h0 h1
  by_cases hb : 97 ≤ s[0].toNat ∧ s[0].toNat ≤ 122
  · obtain ⟨hb1, hb2⟩ := hb
    rw [low_yes hb1 hb2]
    go_enter Tryd.func111, Tryd.ntmps111
    go_wp2
    go_loop [25] (fun i => ∃ k : Nat, k ≤ s.size ∧ i = .int .i64 k ∧ NameTo s k) (fun i => s.size - (intOf i).toNat)
    case atStart => exact ⟨0, Nat.zero_le _, rfl, rfl⟩
    case round =>
      obtain ⟨k, hk, rfl, hp⟩ := hrel
      by_cases hlt : k < s.size
      · have hcl : s[k].toNat = 95 ∨ (97 ≤ s[k].toNat ∧ s[k].toNat ≤ 122) ∨ (48 ≤ s[k].toNat ∧ s[k].toNat ≤ 57) ∨ s[k].toNat < 48 ∨ (57 < s[k].toNat ∧ s[k].toNat < 97 ∧ s[k].toNat ≠ 95) ∨ 122 < s[k].toNat := by omega
        rcases hcl with h | h | h | h | h | h
        · have hn := nameTo_snoc s k hlt hp (nameB_yes (.inl h))
          have b1 : ((s[k].toNat : Int) != 95) = false := bne_eq_false_iff_eq.2 (by omega)
          have h1 : 95 ≤ s[k].toNat := by omega
          have h2 : s[k].toNat ≤ 95 := by omega
          clear h
          go_wp2
          exact ⟨⟨k + 1, by omega, by go_num, hn⟩, by simp [intOf]; omega⟩
        · have hn := nameTo_snoc s k hlt hp (nameB_yes (by omega))
          have b1 : ((s[k].toNat : Int) != 95) = true := bne_iff_ne.2 (by omega)
          obtain ⟨h1, h2⟩ := h
          go_wp2
          exact ⟨⟨k + 1, by omega, by go_num, hn⟩, by simp [intOf]; omega⟩
        · have hn := nameTo_snoc s k hlt hp (nameB_yes (by omega))
          have b1 : ((s[k].toNat : Int) != 95) = true := bne_iff_ne.2 (by omega)
          obtain ⟨h1, h2⟩ := h
          go_wp2
          exact ⟨⟨k + 1, by omega, by go_num, hn⟩, by simp [intOf]; omega⟩
        · have hn : Hid (allName s = false) := allName_not s k hlt (nameB_no (by omega))
          have b1 : ((s[k].toNat : Int) != 95) = true := bne_iff_ne.2 (by omega)
          go_wp2
          all_goals first
            | (go_ret; exact ⟨ret_bool hn.out.symm, rfl⟩)
            | (exfalso; simp only [Bool.not_eq_false', decide_eq_true_eq] at *; omega)
        · have hn : Hid (allName s = false) := allName_not s k hlt (nameB_no (by omega))
          obtain ⟨h1, h2, h3⟩ := h
          have b1 : ((s[k].toNat : Int) != 95) = true := bne_iff_ne.2 (by omega)
          go_wp2
          all_goals first
            | (go_ret; exact ⟨ret_bool hn.out.symm, rfl⟩)
            | (exfalso; simp only [Bool.not_eq_false', decide_eq_true_eq] at *; omega)
        · have hn : Hid (allName s = false) := allName_not s k hlt (nameB_no (by omega))
          have b1 : ((s[k].toNat : Int) != 95) = true := bne_iff_ne.2 (by omega)
          go_wp2
          all_goals first
            | (go_ret; exact ⟨ret_bool hn.out.symm, rfl⟩)
            | (exfalso; simp only [Bool.not_eq_false', decide_eq_true_eq] at *; omega)
      · go_wp2
        go_ret
        exact ⟨ret_bool (nameTo_all s k (by omega) hp).symm, rfl⟩
  · rw [low_no hb]
    by_cases hb1 : 97 ≤ s[0].toNat
    all_goals
      go_enter Tryd.func111, Tryd.ntmps111
      go_wp2
      go_ret
      exact ⟨rfl, rfl⟩

set_option maxHeartbeats 1000000 in
theorem isNameR_any (s : ByteArray) (w : World) :
    Calls Tryd.prog 95 #[.string s] w fun e w' => e = .returned (.bool (isName s)) ∧ w = w' := by
  by_cases h0 : s.size < 1
  · rw [isName_no s (.inl h0)]
    have z0 : ((s.size : Int) == 0) = true := beq_iff_eq.2 (by omega)
    go_enter Tryd.func95, Tryd.ntmps95
    go_wp2
    go_ret
    exact ⟨rfl, rfl⟩
  by_cases h1 : 16 < s.size
  · rw [isName_no s (.inr h1)]
    have z0 : ((s.size : Int) == 0) = false := beq_eq_false_iff_ne.2 (by omega)
    go_enter Tryd.func95, Tryd.ntmps95
    go_wp2
    go_ret
    exact ⟨rfl, rfl⟩
  have g1 : 1 ≤ s.size := by omega
  have g2 : s.size ≤ 16 := by omega
  rw [isName_eq s g1 g2]
  have z0 : ((s.size : Int) == 0) = false := beq_eq_false_iff_ne.2 (by omega)
  clear h0 h1
  by_cases hb : 97 ≤ s[0].toNat ∧ s[0].toNat ≤ 122
  · obtain ⟨hb1, hb2⟩ := hb
    rw [low_yes hb1 hb2]
    go_enter Tryd.func95, Tryd.ntmps95
    go_wp2
    go_loop [3] (fun i => ∃ k : Nat, k ≤ s.size ∧ i = .int .i64 k ∧ NameTo s k) (fun i => s.size - (intOf i).toNat)
    case atStart => exact ⟨0, Nat.zero_le _, rfl, rfl⟩
    case round =>
      obtain ⟨k, hk, rfl, hp⟩ := hrel
      by_cases hlt : k < s.size
      · have hcl : s[k].toNat = 95 ∨ (97 ≤ s[k].toNat ∧ s[k].toNat ≤ 122) ∨ (48 ≤ s[k].toNat ∧ s[k].toNat ≤ 57) ∨ s[k].toNat < 48 ∨ (57 < s[k].toNat ∧ s[k].toNat < 97 ∧ s[k].toNat ≠ 95) ∨ 122 < s[k].toNat := by omega
        rcases hcl with h | h | h | h | h | h
        · have hn := nameTo_snoc s k hlt hp (nameB_yes (.inl h))
          have b1 : ((s[k].toNat : Int) != 95) = false := bne_eq_false_iff_eq.2 (by omega)
          have h1 : 95 ≤ s[k].toNat := by omega
          have h2 : s[k].toNat ≤ 95 := by omega
          clear h
          go_wp2
          exact ⟨⟨k + 1, by omega, by go_num, hn⟩, by simp [intOf]; omega⟩
        · have hn := nameTo_snoc s k hlt hp (nameB_yes (by omega))
          have b1 : ((s[k].toNat : Int) != 95) = true := bne_iff_ne.2 (by omega)
          obtain ⟨h1, h2⟩ := h
          go_wp2
          exact ⟨⟨k + 1, by omega, by go_num, hn⟩, by simp [intOf]; omega⟩
        · have hn := nameTo_snoc s k hlt hp (nameB_yes (by omega))
          have b1 : ((s[k].toNat : Int) != 95) = true := bne_iff_ne.2 (by omega)
          obtain ⟨h1, h2⟩ := h
          go_wp2
          exact ⟨⟨k + 1, by omega, by go_num, hn⟩, by simp [intOf]; omega⟩
        · have hn : Hid (allName s = false) := allName_not s k hlt (nameB_no (by omega))
          have b1 : ((s[k].toNat : Int) != 95) = true := bne_iff_ne.2 (by omega)
          go_wp2
          all_goals first
            | (go_ret; exact ⟨ret_bool hn.out.symm, rfl⟩)
            | (exfalso; simp only [Bool.not_eq_false', decide_eq_true_eq] at *; omega)
        · have hn : Hid (allName s = false) := allName_not s k hlt (nameB_no (by omega))
          obtain ⟨h1, h2, h3⟩ := h
          have b1 : ((s[k].toNat : Int) != 95) = true := bne_iff_ne.2 (by omega)
          go_wp2
          all_goals first
            | (go_ret; exact ⟨ret_bool hn.out.symm, rfl⟩)
            | (exfalso; simp only [Bool.not_eq_false', decide_eq_true_eq] at *; omega)
        · have hn : Hid (allName s = false) := allName_not s k hlt (nameB_no (by omega))
          have b1 : ((s[k].toNat : Int) != 95) = true := bne_iff_ne.2 (by omega)
          go_wp2
          all_goals first
            | (go_ret; exact ⟨ret_bool hn.out.symm, rfl⟩)
            | (exfalso; simp only [Bool.not_eq_false', decide_eq_true_eq] at *; omega)
      · go_wp2
        go_ret
        exact ⟨ret_bool (nameTo_all s k (by omega) hp).symm, rfl⟩
  · rw [low_no hb]
    by_cases hb1 : 97 ≤ s[0].toNat
    all_goals
      go_enter Tryd.func95, Tryd.ntmps95
      go_wp2
      go_ret
      exact ⟨rfl, rfl⟩
end Go.Proofs.YtfchchmmjabjnaaDoor
