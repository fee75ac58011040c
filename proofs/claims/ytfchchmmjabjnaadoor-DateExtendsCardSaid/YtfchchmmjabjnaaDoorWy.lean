/- The walk of read: a number, maybe with a mark. -/
import Derived.Test.YtfchchmmjabjnaaDoorWx
namespace Go.Proofs.YtfchchmmjabjnaaDoor
open Go Go.RowKit
attribute [local go_sem] gv_yes

def valL : List UInt8 → Nat → Option Nat
  | [], n => some n
  | x :: l, n => if 48 ≤ x.toNat ∧ x.toNat ≤ 57 then valL l (10 * n + (x.toNat - 48)) else none
def numOf (l : List UInt8) (b : Bool) : Nat × Bool :=
  if 2 < l.length then (0, false) else match valL l 0 with
  | none => (0, false)
  | some n => (n, b && decide (0 < n))
def readL (l : List UInt8) (m : UInt8) : Nat × Bool := if l.getLast? = some m then numOf l.dropLast true else numOf l false
theorem numOf_long {l : List UInt8} {b : Bool} (h : 2 < l.length) : numOf l b = (0, false) := if_pos h
theorem numOf_bad {l : List UInt8} {b : Bool} (h : valL l 0 = none) : numOf l b = (0, false) := by unfold numOf; rw [h]; split <;> rfl
theorem numOf_ok {l : List UInt8} {b : Bool} {n : Nat} (h : l.length ≤ 2) (h1 : valL l 0 = some n) : numOf l b = (n, b && decide (0 < n)) := by unfold numOf; rw [h1, if_neg (by omega)]
theorem drop_at {l : List UInt8} {k : Nat} (h : k < l.length) : l.drop k = l.getD k 0 :: l.drop (k + 1) := by
  rw [List.drop_eq_getElem_cons h]; simp [List.getD_eq_getElem?_getD, h]
set_option maxHeartbeats 1000000 in
theorem read_c (l : List UInt8) (z mk : UInt8) (b o cap : Nat) (R : Nat × Bool) (w : World) (hne : z.toNat ≠ mk.toNat) (h0 : 0 < l.length) (hz : w.cell? ⟨b, o + (l.length - 1), none⟩ = some (.int .u8 (z.toNat : Int))) (hcell : ∀ i, i < l.length → w.cell? ⟨b, o + i, none⟩ = some (.int .u8 ((l.getD i 0).toNat : Int))) (hc : l.length ≤ cap) (h63 : cap ≤ 2 ^ 63 - 1) (HR : Hid (R = numOf l false)) :
    Calls Tryd.prog 97 #[.slice (some ⟨b, o, none⟩) l.length cap, .int .u8 (mk.toNat : Int)] w fun e w' => e = .returned (.tuple #[.int .i64 R.1, .bool R.2]) ∧ w = w' := by
  have hzb : ((z.toNat : Int) == (mk.toNat : Int)) = false := beq_eq_false_iff_ne.2 (by omega)
  by_cases hL : l.length ≤ 2
  · go_enter Tryd.func97, Tryd.ntmps97
    go_upto_region 6 with (fail)
    go_loop [4, 5, 34] (fun n q i => q = .bool false ∧ ∃ k m : Nat, k ≤ l.length ∧ i = .int .i64 k ∧ n = .int .i64 m ∧ m < 10 ^ k ∧ valL l 0 = valL (l.drop k) m) (fun _ _ i => l.length - (intOf i).toNat)
    case atStart => exact ⟨rfl, 0, 0, Nat.zero_le _, rfl, rfl, by decide, rfl⟩
    case round =>
      obtain ⟨rfl, k, m, hk, rfl, rfl, hm, hv⟩ := hrel
      have hm2 : m < 100 := Nat.lt_of_lt_of_le hm (Nat.le_trans (Nat.pow_le_pow_right (by omega) (show k ≤ 2 by omega)) (by decide))
      by_cases hlt : k < l.length
      · obtain ⟨x, hxl⟩ : ∃ x, x = l.getD k 0 := ⟨_, rfl⟩
        have hck : w.cell? ⟨b, o + k, none⟩ = some (.int .u8 (x.toNat : Int)) := by rw [hxl]; exact hcell k hlt
        have h256 := x.toNat_lt
        rw [drop_at hlt, ← hxl] at hv
        by_cases hx : 48 ≤ x.toNat ∧ x.toNat ≤ 57
        · have hv' : valL l 0 = valL (l.drop (k + 1)) (10 * m + (x.toNat - 48)) := by rw [hv, valL, if_pos hx]
          obtain ⟨hx1, hx2⟩ := hx
          have hm10 : 10 * m + (x.toNat - 48) < 10 ^ (k + 1) := by rw [Nat.pow_succ]; omega
          obtain ⟨y, hy⟩ : ∃ y, x.toNat = y + 48 := ⟨x.toNat - 48, by omega⟩
          rw [hy] at hck hv' hm10 hx2
          clear hx1 h256 hv hxl hcell hm
          have hy9 : y ≤ 9 := by omega
          go_wp2

          have hm11 : 10 * m + y < 10 ^ (k + 1) := by simpa using hm10
          first
            | exact ⟨⟨rfl, k + 1, 10 * m + y, by omega, by go_num, by go_num, by simpa using hm10, by simpa using hv'⟩, by simp [intOf]; omega⟩
            | exact ⟨⟨.int .i64 ((10 * m + y : Nat) : Int), .bool false, _, .int .i64 ((k + 1 : Nat) : Int), ⟨rfl, k + 1, by omega, rfl, 10 * m + y, rfl, hm11, rfl⟩, by go_num, rfl, rfl, by go_num⟩, by simp [intOf]; omega⟩
        · have hbad := Lib.hid (numOf_bad (l := l) (b := false) (by rw [hv, valL, if_neg hx]))
          clear hv hxl hcell
          by_cases h48 : x.toNat < 48
          · clear hx
            go_wp2
            go_ret2
            exact ⟨by rw [HR.out, hbad.out]; rfl, rfl⟩
          · have h57 : 57 < x.toNat := by omega
            clear hx
            go_wp2
            go_ret2
            exact ⟨by rw [HR.out, hbad.out]; rfl, rfl⟩
      · have hke : k = l.length := by omega
        have hok : Hid (numOf l false = (m, false && decide (0 < m))) := numOf_ok hL (by rw [hv, hke, List.drop_length]; rfl)
        clear hke hv
        by_cases hm0 : 0 < m
        · go_wp2
          go_ret2
          exact ⟨by rw [HR.out, hok.out, decide_eq_true hm0]; rfl, rfl⟩
        · go_wp2
          go_ret2
          exact ⟨by rw [HR.out, hok.out, decide_eq_false hm0]; rfl, rfl⟩
  · have hR' : Hid (R = (0, false)) := by rw [HR.out]; exact numOf_long (by omega)
    go_enter Tryd.func97, Tryd.ntmps97
    go_wp2
    go_ret2
    exact ⟨by rw [hR'.out]; rfl, rfl⟩
theorem getD_snoc {l : List UInt8} {x : UInt8} {i : Nat} (h : i < l.length) : (l ++ [x]).getD i 0 = l.getD i 0 := by simp [List.getD_eq_getElem?_getD, List.getElem?_append_left h]
set_option maxHeartbeats 1000000 in
theorem read_b (l : List UInt8) (mk : UInt8) (b o cap n : Nat) (R : Nat × Bool) (w : World) (hn : n = l.length + 1) (hz : w.cell? ⟨b, o + l.length, none⟩ = some (.int .u8 (mk.toNat : Int))) (hcell : ∀ i, i < l.length → w.cell? ⟨b, o + i, none⟩ = some (.int .u8 ((l.getD i 0).toNat : Int))) (hc : n ≤ cap) (h63 : cap ≤ 2 ^ 63 - 1) (HR : Hid (R = numOf l true)) :
    Calls Tryd.prog 97 #[.slice (some ⟨b, o, none⟩) n cap, .int .u8 (mk.toNat : Int)] w fun e w' => e = .returned (.tuple #[.int .i64 R.1, .bool R.2]) ∧ w = w' := by
  have hn1 : n - 1 = l.length := by omega
  have hn2 : ((n : Int) - 1).toNat = l.length := by omega
  by_cases hL : l.length ≤ 2
  · go_enter Tryd.func97, Tryd.ntmps97
    go_upto_region 6 with (fail)
    go_loop [4, 5, 34] (fun n q i => q = .bool true ∧ ∃ k m : Nat, k ≤ l.length ∧ i = .int .i64 k ∧ n = .int .i64 m ∧ m < 10 ^ k ∧ valL l 0 = valL (l.drop k) m) (fun _ _ i => l.length - (intOf i).toNat)
    case atStart => exact ⟨rfl, 0, 0, Nat.zero_le _, rfl, rfl, by decide, rfl⟩
    case round =>
      obtain ⟨rfl, k, m, hk, rfl, rfl, hm, hv⟩ := hrel
      have hm2 : m < 100 := Nat.lt_of_lt_of_le hm (Nat.le_trans (Nat.pow_le_pow_right (by omega) (show k ≤ 2 by omega)) (by decide))
      by_cases hlt : k < l.length
      · obtain ⟨x, hxl⟩ : ∃ x, x = l.getD k 0 := ⟨_, rfl⟩
        have hck : w.cell? ⟨b, o + k, none⟩ = some (.int .u8 (x.toNat : Int)) := by rw [hxl]; exact hcell k hlt
        have h256 := x.toNat_lt
        rw [drop_at hlt, ← hxl] at hv
        by_cases hx : 48 ≤ x.toNat ∧ x.toNat ≤ 57
        · have hv' : valL l 0 = valL (l.drop (k + 1)) (10 * m + (x.toNat - 48)) := by rw [hv, valL, if_pos hx]
          obtain ⟨hx1, hx2⟩ := hx
          have hm10 : 10 * m + (x.toNat - 48) < 10 ^ (k + 1) := by rw [Nat.pow_succ]; omega
          obtain ⟨y, hy⟩ : ∃ y, x.toNat = y + 48 := ⟨x.toNat - 48, by omega⟩
          rw [hy] at hck hv' hm10 hx2
          clear hx1 h256 hv hxl hcell hm
          have hy9 : y ≤ 9 := by omega
          go_wp2

          have hm11 : 10 * m + y < 10 ^ (k + 1) := by simpa using hm10
          first
            | exact ⟨⟨rfl, k + 1, 10 * m + y, by omega, by go_num, by go_num, by simpa using hm10, by simpa using hv'⟩, by simp [intOf]; omega⟩
            | exact ⟨⟨.int .i64 ((10 * m + y : Nat) : Int), .bool true, _, .int .i64 ((k + 1 : Nat) : Int), ⟨rfl, k + 1, by omega, rfl, 10 * m + y, rfl, hm11, rfl⟩, by go_num, rfl, rfl, by go_num⟩, by simp [intOf]; omega⟩
        · have hbad := Lib.hid (numOf_bad (l := l) (b := true) (by rw [hv, valL, if_neg hx]))
          clear hv hxl hcell
          by_cases h48 : x.toNat < 48
          · clear hx
            go_wp2
            go_ret2
            exact ⟨by rw [HR.out, hbad.out]; rfl, rfl⟩
          · have h57 : 57 < x.toNat := by omega
            clear hx
            go_wp2
            go_ret2
            exact ⟨by rw [HR.out, hbad.out]; rfl, rfl⟩
      · have hke : k = l.length := by omega
        have hok : Hid (numOf l true = (m, true && decide (0 < m))) := numOf_ok hL (by rw [hv, hke, List.drop_length]; rfl)
        clear hke hv
        by_cases hm0 : 0 < m
        · go_wp2
          go_ret2
          exact ⟨by rw [HR.out, hok.out, decide_eq_true hm0]; rfl, rfl⟩
        · go_wp2
          go_ret2
          exact ⟨by rw [HR.out, hok.out, decide_eq_false hm0]; rfl, rfl⟩
  · have hR' : Hid (R = (0, false)) := by rw [HR.out]; exact numOf_long (by omega)
    go_enter Tryd.func97, Tryd.ntmps97
    go_wp2
    go_ret2
    exact ⟨by rw [hR'.out]; rfl, rfl⟩
set_option maxHeartbeats 1000000 in
theorem read_a (A : Option Addr) (cap : Nat) (mk : UInt8) (w : World) :
    Calls Tryd.prog 97 #[.slice A 0 cap, .int .u8 (mk.toNat : Int)] w fun e w' => e = .returned (.tuple #[.int .i64 0, .bool false]) ∧ w = w' := by
  go_enter Tryd.func97, Tryd.ntmps97
  go_upto_region 6 with (fail)
  go_loop [4, 5, 34] (fun n q i => q = .bool false ∧ i = .int .i64 0 ∧ n = .int .i64 0) (fun _ _ i => 0 - (intOf i).toNat)
  case atStart => exact ⟨rfl, rfl, rfl⟩
  case round =>
    obtain ⟨rfl, rfl, rfl⟩ := hrel
    go_wp2
    go_ret2
    exact ⟨rfl, rfl⟩
theorem read_any (l : List UInt8) (mk : UInt8) (A : Option Addr) (cap : Nat) (w : World) (hA : BsAt w A l) (hc : l.length ≤ cap) (h63 : cap ≤ maxLen) :
    Calls Tryd.prog 97 #[.slice A l.length cap, .int .u8 (mk.toNat : Int)] w fun e w' => e = .returned (.tuple #[.int .i64 (readL l mk).1, .bool (readL l mk).2]) ∧ w = w' := by
  have h63' : cap ≤ 2 ^ 63 - 1 := h63
  rcases List.eq_nil_or_concat l with rfl | ⟨l, z, rfl⟩
  · exact read_a A cap mk w
  · rw [List.concat_eq_append] at *
    cases A with
    | none => exact absurd hA (by simp [BsAt])
    | some a =>
      obtain ⟨b, o, rfl, hb, hcell⟩ := hA
      have hlast : (l ++ [z]).getD l.length 0 = z := by simp [List.getD_eq_getElem?_getD]
      have hz := hcell l.length (by simp)
      rw [hlast] at hz
      by_cases hzm : z = mk
      · subst hzm
        have := read_b l z b o cap (l ++ [z]).length (readL (l ++ [z]) z) w (by simp) hz (fun i hi => by rw [hcell i (by simp; omega), getD_snoc hi]) hc h63' (by unfold Hid readL; rw [List.getLast?_append]; simp)
        exact this
      · have hn : z.toNat ≠ mk.toNat := fun h => hzm (UInt8.toNat_inj.1 h)
        exact read_c (l ++ [z]) z mk b o cap (readL (l ++ [z]) mk) w hn (by simp) (by simpa using hz) hcell hc h63' (by unfold Hid readL; rw [List.getLast?_append]; simp [hzm])
end Go.Proofs.YtfchchmmjabjnaaDoor
