/- The walks of cut and read: slices of bytes. -/
import Derived.Lib.ConvBytes
import Derived.Laws.BytesArg
import Derived.Test.YtfchchmmjabjnaaDoorWv
namespace Go.Proofs.YtfchchmmjabjnaaDoor
open Go Go.RowKit
attribute [local go_sem] gv_yes

/-- The bytes of a slice. -/
def BsAt (w : World) (A : Option Addr) (l : List UInt8) : Prop :=
  match A with
  | none => l = []
  | some a => ∃ b o, a = ⟨b, o, none⟩ ∧ b < w.heap.size ∧ ∀ i, i < l.length → w.cell? ⟨b, o + i, none⟩ = some (.int .u8 ((l.getD i 0).toNat : Int))
theorem BsAt.ext {w w' : World} {A : Option Addr} {l : List UInt8} (h : BsAt w A l) (he : Ext w w') : BsAt w' A l := by
  cases A with
  | none => exact h
  | some a =>
    obtain ⟨b, o, rfl, hb, hc⟩ := h
    exact ⟨b, o, rfl, Nat.lt_of_lt_of_le hb (Ext.rules he).2.2, fun i hi => by rw [he.cell (p := ⟨b, o + i, none⟩) hb]; exact hc i hi⟩
theorem BsAt.take {w : World} {A : Option Addr} {l : List UInt8} (h : BsAt w A l) (k : Nat) : BsAt w A (l.take k) := by
  cases A with
  | none => cases h; simp [BsAt]
  | some a =>
    obtain ⟨b, o, rfl, hb, hc⟩ := h
    refine ⟨b, o, rfl, hb, fun i hi => ?_⟩
    rw [List.length_take] at hi
    rw [hc i (by omega)]
    simp only [List.getD_eq_getElem?_getD, List.getElem?_take]
    rw [if_pos (by omega)]
theorem BsAt.drop {w : World} {b o : Nat} {l : List UInt8} (h : BsAt w (some ⟨b, o, none⟩) l) (k : Nat) : BsAt w (some ⟨b, o + k, none⟩) (l.drop k) := by
  obtain ⟨b', o', e, hb, hc⟩ := h
  cases e
  refine ⟨b, o + k, rfl, hb, fun i hi => ?_⟩
  rw [List.length_drop] at hi
  rw [Nat.add_assoc, hc (k + i) (by omega)]
  simp only [List.getD_eq_getElem?_getD, List.getElem?_drop]
def cutL : List UInt8 → UInt8 → List UInt8 × List UInt8 × Bool
  | [], _ => ([], [], false)
  | x :: l, c => if x = c then ([], l, true) else (x :: (cutL l c).1, (cutL l c).2.1, (cutL l c).2.2)
theorem cutL_at : ∀ {l : List UInt8} {c : UInt8} {k : Nat}, k < l.length → (∀ i, i < k → l.getD i 0 ≠ c) → l.getD k 0 = c → cutL l c = (l.take k, l.drop (k + 1), true)
  | [], _, _, hk, _, _ => by simp at hk
  | x :: l, c, 0, _, _, h1 => by
    have : x = c := by simpa using h1
    simp [cutL, this]
  | x :: l, c, k + 1, hk, h0, h1 => by
    have hx : x ≠ c := by simpa using h0 0 (by omega)
    have := @cutL_at l c k (by simpa using hk) (fun i hi => by simpa using h0 (i + 1) (by omega)) (by simpa using h1)
    simp [cutL, hx, this]
theorem cutL_none : ∀ {l : List UInt8} {c : UInt8}, (∀ i, i < l.length → l.getD i 0 ≠ c) → cutL l c = (l, [], false)
  | [], _, _ => rfl
  | x :: l, c, h0 => by
    have hx : x ≠ c := by simpa using h0 0 (by simp)
    have := @cutL_none l c (fun i hi => by simpa using h0 (i + 1) (by simpa using hi))
    simp [cutL, hx, this]
theorem cut_any (l : List UInt8) (c : UInt8) (A : Option Addr) (cap : Nat) (w W : World) (hA : BsAt w A l) (hW : BsAt W A l) (hc : l.length ≤ cap) (h63 : cap ≤ maxLen) :
    Calls Tryd.prog 96 #[.slice A l.length cap, .int .u8 (c.toNat : Int)] w fun e w' =>
      ∃ B C m n, e = .returned (.tuple #[.slice B (cutL l c).1.length m, .slice C (cutL l c).2.1.length n, .bool (cutL l c).2.2]) ∧ BsAt W B (cutL l c).1 ∧ BsAt W C (cutL l c).2.1 ∧ (cutL l c).1.length ≤ m ∧ m ≤ maxLen ∧ (cutL l c).2.1.length ≤ n ∧ n ≤ maxLen ∧ Ext w w' := by
  have hA' : Hid (BsAt W A l) := hW
  clear hW
  have h63' := h63
  unfold maxLen at h63'
  go_enter Tryd.func96, Tryd.ntmps96
  go_upto_region 2 with (fail)
  go_loop [11] (fun i => ∃ k : Nat, k ≤ l.length ∧ i = .int .i64 k ∧ ∀ i, i < k → l.getD i 0 ≠ c) (fun i => l.length - (intOf i).toNat)
  case atStart => exact ⟨0, Nat.zero_le _, rfl, (fun i hi => absurd hi (by omega))⟩
  case round =>
    obtain ⟨k, hk, rfl, hp⟩ := hrel
    by_cases hlt : k < l.length
    · cases A with
      | none => cases hA; exact absurd hlt (by simp)
      | some a =>
        obtain ⟨b, o, rfl, hb, hcell⟩ := hA
        obtain ⟨x, hxl⟩ : ∃ x, x = l.getD k 0 := ⟨_, rfl⟩
        have hck : w.cell? ⟨b, o + k, none⟩ = some (.int .u8 (x.toNat : Int)) := by rw [hxl]; exact hcell k hlt
        clear hcell
        by_cases hx : x = c
        · subst hx
          have hcut := Lib.hid (cutL_at hlt hp hxl.symm)
          clear hp hxl
          go_upto_region 5 with (fail)
          refine wp_region_xw w mixed (by kernel_rfl) (by repeat (first | exact Ext.refl _ | (refine Ext.alloc ?_ _) | (refine Ext.trans ?_ (by assumption)))) ?_
          intro hne hrx hry
          try simp only []
          try simp only [List.append_eq, List.cons_append, List.nil_append]
          skip
          repeat (first
            | go_big_quiet_skip
            | (go_big_quiet_want; go_big_quiet_op; go_big_quiet_on))
          clear hne hry hrx
          refine wpQuiet_nil ?_
          intro wq hq
          obtain ⟨hcwq, hfwq, hzwq⟩ := Ext.rules hq
          try simp only [World.size_alloc] at hzwq
          obtain ⟨hcbwq, hfbwq, hzbwq⟩ := Ext.rules (show Ext w wq from (by repeat (first | exact Ext.refl _ | (refine Ext.alloc ?_ _) | (refine Ext.trans ?_ (by assumption)))))
          clear hcwq hfwq
          go_wp2
          · rename_i hl0
            refine bodyPost_ret (results_tmp3 (t := 4) (u := 5) (v := 6) rfl _ _ _) rfl ?_
            rw [hcut.out]
            have hz : l.drop (k + 1) = [] := List.drop_eq_nil_of_le (by omega)
            have h1 : (l.take k).length = k := by rw [List.length_take]; omega
            refine ⟨some ⟨b, o, none⟩, some ⟨b, o, none⟩, k, 0, ?_, hA'.out.take k, ?_, ?_, ?_, ?_, ?_, hq⟩
            · simp only [h1, hz]; rfl
            · rw [hz]; simpa using hA'.out.take 0
            · simp only [h1]; omega
            · unfold maxLen; omega
            · simp only [hz]; exact Nat.le_refl _
            · unfold maxLen; omega
          · refine bodyPost_ret (results_tmp3 (t := 4) (u := 5) (v := 6) rfl _ _ _) rfl ?_
            rw [hcut.out]
            have h1 : (l.take k).length = k := by rw [List.length_take]; omega
            have h2 : (l.drop (k + 1)).length = l.length - (k + 1) := by rw [List.length_drop]
            refine ⟨some ⟨b, o, none⟩, some ⟨b, o + (k + 1), none⟩, k, l.length - (k + 1), ?_, hA'.out.take k, hA'.out.drop (k + 1), ?_, ?_, ?_, ?_, hq⟩
            · simp only [h1, h2]; rfl
            · simp only [h1]; omega
            · unfold maxLen; omega
            · simp only [h2]; omega
            · unfold maxLen; omega
        · have hxc : x.toNat ≠ c.toNat := fun h => hx (UInt8.toNat_inj.1 h)
          have hp' : ∀ i, i < k + 1 → l.getD i 0 ≠ c := fun i hi => by
            by_cases h : i = k
            · subst h; rw [← hxl]; exact hx
            · exact hp i (by omega)
          clear hxl hx
          have hne : ((x.toNat : Int) == (c.toNat : Int)) = false := beq_eq_false_iff_ne.2 (by omega)
          go_wp2
          exact ⟨⟨k + 1, by omega, by go_num, hp'⟩, by simp [intOf]; omega⟩
    · have hcut := Lib.hid (cutL_none (l := l) (c := c) (fun i hi => hp i (by omega)))
      go_wp2
      refine bodyPost_ret (results_tmp3 (t := 4) (u := 5) (v := 6) rfl _ _ _) rfl ?_
      rw [hcut.out]
      exact ⟨A, none, cap, 0, rfl, hA'.out, rfl, hc, h63, Nat.le_refl _, Nat.zero_le _, Ext.refl _⟩
end Go.Proofs.YtfchchmmjabjnaaDoor
