/- The reference's Digits, number, cut, Text and Parse. -/
import Derived.Deep.Cut
import Derived.Deep.CutRange
import Derived.Test.YtfchchmmjabjnaaDoorLa
import Derived.Test.YtfchchmmjabjnaaDoorPl7
namespace Go.Proofs.YtfchchmmjabjnaaDoor
open Go Go.RowKit
attribute [local go_sem] gv_yes

def s10 : ByteArray := ⟨#[48, 49, 50, 51, 52, 53, 54, 55, 56, 57]⟩
theorem dig1 : ((List.range 10).all fun n => decide (s10.extract (n % 10) (n % 10 + 1) ++ ⟨#[]⟩ = dg n)) = true := by kernel_rfl
theorem dig2 : ((List.range 31).all fun n => decide (n < 10) || decide (s10.extract (n / 10 % 10) (n / 10 % 10 + 1) ++ (s10.extract (n % 10) (n % 10 + 1) ++ ⟨#[]⟩) = dg n)) = true := by kernel_rfl
set_option maxHeartbeats 1000000 in
theorem digs_any (n : Nat) (hn : n ≤ 30) (w : World) : Calls Tryd.prog 122 #[.int .u64 n] w fun e w' => e = .returned (.string (dg n)) ∧ Ext w w' := by
  by_cases h10 : n < 10
  · have HD : Hid (s10.extract (n % 10) (n % 10 + 1) ++ ⟨#[]⟩ = dg n) := by
      have := List.all_eq_true.1 dig1 n (List.mem_range.2 h10)
      have h := of_decide_eq_true this
      exact h
    go_enter Tryd.func122, Tryd.ntmps122
    go_upto_region 2 with (fail)
    go_loopw [0, 3] (fun nn s wr => nn = .int .u64 n ∧ s = .string ⟨#[]⟩ ∧ Ext w wr) (fun _ _ _ => 0)
    case atStart => exact ⟨rfl, rfl, Ext.refl _⟩
    case round =>
      obtain ⟨rfl, rfl, hE⟩ := hrel
      go_wp2
      go_ret
      exact ⟨by rw [← HD.out]; rfl, hE⟩
  · have HD : Hid (s10.extract (n / 10 % 10) (n / 10 % 10 + 1) ++ (s10.extract (n % 10) (n % 10 + 1) ++ ⟨#[]⟩) = dg n) := by
      have := List.all_eq_true.1 dig2 n (List.mem_range.2 (by omega))
      rw [decide_eq_false h10, Bool.false_or] at this
      have h := of_decide_eq_true this
      exact h
    obtain ⟨q, hq⟩ : ∃ q, q = n / 10 := ⟨_, rfl⟩
    have hq1 : 1 ≤ q := by omega
    have hq2 : q < 10 := by omega
    have hqi : (n : Int) / 10 = (q : Int) := by omega
    rw [← hq] at HD
    have HQ := Lib.hid hq
    clear hq
    go_enter Tryd.func122, Tryd.ntmps122
    go_upto_region 2 with (fail)
    go_loopw [0, 3] (fun nn s wr => ((nn = .int .u64 n ∧ s = .string ⟨#[]⟩) ∨ (nn = .int .u64 q ∧ s = .string (s10.extract (n % 10) (n % 10 + 1) ++ ⟨#[]⟩))) ∧ Ext w wr) (fun nn _ _ => (intOf nn).toNat)
    case atStart => exact ⟨.inl ⟨rfl, rfl⟩, Ext.refl _⟩
    case round =>
      obtain ⟨⟨rfl, rfl⟩ | ⟨rfl, rfl⟩, hE⟩ := hrel
      · go_wp2
        refine ⟨⟨.inr ⟨rfl, rfl⟩, hE⟩, ?_⟩
        have := HQ.out
        simp only [intOf]
        omega
      · clear hqi
        go_wp2
        go_ret
        exact ⟨by rw [← HD.out]; rfl, hE⟩
set_option maxHeartbeats 1000000 in
theorem digits_any (n : Nat) (hn : n ≤ 30) (w : World) : Calls Tryd.prog 94 #[.int .i64 n] w fun e w' => e = .returned (.string (dg n)) ∧ Ext w w' := by
  go_enter Tryd.func94, Tryd.ntmps94
  go_wp2_with (go_at_call 122; (with_reducible refine Calls.mono (digs_any n hn _) ?_); rintro e w1 ⟨rfl, h⟩)
  go_ret
  exact ⟨rfl, h⟩
theorem bytes_eq {a b : ByteArray} (h : a.data.toList = b.data.toList) : a = b := by
  obtain ⟨⟨l⟩⟩ := a
  obtain ⟨⟨m⟩⟩ := b
  simp only at h
  rw [h]
theorem cut_lo (s : ByteArray) (k : Nat) (_hk : k ≤ s.size) : s.extract 0 k = ⟨(s.data.toList.take k).toArray⟩ := bytes_eq (by simp [ByteArray.data_extract])
theorem cut_hi (s : ByteArray) (k : Nat) (_hk : k ≤ s.size) : s.extract k s.size = ⟨(s.data.toList.drop k).toArray⟩ := bytes_eq (by
  have hl : s.data.toList.length = s.size := by simp
  rw [ByteArray.data_extract, Array.toList_extract, List.extract_eq_drop_take', List.take_of_length_le (by rw [hl]; exact Nat.le_refl _)])
theorem byte_at (s : ByteArray) {k : Nat} (hk : k < s.size) : s.data.toList.getD k 0 = s[k] := by
  have hk' : k < s.data.toList.length := by simpa using hk
  rw [List.getD_eq_getElem?_getD, List.getElem?_eq_getElem hk']
  rfl
theorem byte_ne {a c : UInt8} (h : a ≠ c) : ((a.toNat : Int) == (c.toNat : Int)) = false := by
  rw [beq_eq_false_iff_ne]
  intro e
  exact h (UInt8.toNat_inj.1 (by omega))
set_option maxHeartbeats 1000000 in
theorem rcut_any (s : ByteArray) (c : UInt8) (w : World) (h63 : s.size ≤ 9223372036854775807) : Calls Tryd.prog 98 #[.string s, .int .u8 (c.toNat : Int)] w fun e w' => e = .returned (.tuple #[.string ⟨(cutL s.data.toList c).1.toArray⟩, .string ⟨(cutL s.data.toList c).2.1.toArray⟩, .bool (cutL s.data.toList c).2.2]) ∧ Ext w w' := by
  go_enter Tryd.func98, Tryd.ntmps98
  go_upto_region 2 with (fail)
  go_loopw [7] (fun i wr => ∃ k : Nat, k ≤ s.size ∧ i = .int .i64 k ∧ (∀ j, j < k → s.data.toList.getD j 0 ≠ c) ∧ Ext w wr) (fun i _ => s.size - (intOf i).toNat)
  case atStart => exact ⟨0, Nat.zero_le _, rfl, (fun j hj => absurd hj (by omega)), Ext.refl _⟩
  case round =>
    obtain ⟨k, hk, rfl, hno, hE⟩ := hrel
    by_cases hlt : k < s.size
    · have HN := Lib.hid hno
      clear hno
      by_cases hc : s[k] = c
      · have HC : Hid (cutL s.data.toList c = (s.data.toList.take k, s.data.toList.drop (k + 1), true)) := cutL_at (by simpa using hlt) HN.out (by rw [byte_at s hlt]; exact hc)
        have hb : ((s[k].toNat : Int) == (c.toNat : Int)) = true := by rw [hc]; simp
        have HL := Lib.hid (cut_lo s k hk)
        have HH := Lib.hid (cut_hi s (k + 1) hlt)
        clear hc
        go_upto_region 5 with (fail)
        refine wp_region_xw wr mixed (by kernel_rfl) (by repeat (first | exact Ext.refl _ | (refine Ext.alloc ?_ _) | (refine Ext.trans ?_ (by assumption)))) ?_
        intro hne hrx hry
        try simp only []
        try simp only [List.append_eq, List.cons_append, List.nil_append]
        skip
        repeat (first
          | go_big_quiet_skip
          | (go_big_quiet_want; go_big_quiet_op; go_big_quiet_on))
        clear hne hry hrx
        refine wpQuiet_nil ?_
        intro wn hwn
        obtain ⟨hcwn, hfwn, hzwn⟩ := Ext.rules hwn
        try simp only [World.size_alloc] at hzwn
        obtain ⟨hcbwn, hfbwn, hzbwn⟩ := Ext.rules (show Ext wr wn from (by repeat (first | exact Ext.refl _ | (refine Ext.alloc ?_ _) | (refine Ext.trans ?_ (by assumption)))))
        clear hcwn hfwn
        go_wp2
        refine bodyPost_ret (results_tmp3 (t := 4) (u := 5) (v := 6) rfl _ _ _) rfl ⟨?_, (by repeat (first | exact Ext.refl _ | (refine Ext.alloc ?_ _) | (refine Ext.trans ?_ (by assumption))))⟩
        rw [HC.out]
        simp only
        rw [← HL.out, ← HH.out]
        rfl
      · have hb := byte_ne hc
        have HS : Hid (∀ j, j < k + 1 → s.data.toList.getD j 0 ≠ c) := fun j hj => by
          by_cases e : j = k
          · subst e; rw [byte_at s hlt]; exact hc
          · exact HN.out j (by omega)
        clear hc
        go_wp2
        exact ⟨⟨k + 1, by omega, by go_num, HS.out, hE⟩, by simp [intOf]; omega⟩
    · have HC : Hid (cutL s.data.toList c = (s.data.toList, [], false)) := cutL_none (fun j hj => by
        have h : j < s.size := by simpa using hj
        exact hno j (by omega))
      clear hno
      go_wp2
      refine bodyPost_ret (results_tmp3 (t := 4) (u := 5) (v := 6) rfl _ _ _) rfl ⟨?_, (by repeat (first | exact Ext.refl _ | (refine Ext.alloc ?_ _) | (refine Ext.trans ?_ (by assumption))))⟩
      rw [HC.out]
      rfl
def digR : Nat → List UInt8 → Nat → Nat × List UInt8
  | 0, l, n => (n, l)
  | _ + 1, [], n => (n, [])
  | f + 1, x :: l, n => if 48 ≤ x.toNat ∧ x.toNat ≤ 57 then digR f l (10 * n + (x.toNat - 48)) else (n, x :: l)
def numR (l : List UInt8) : Nat × List UInt8 := match l with
  | [] => (0, [])
  | x :: r => if x = 45 then (0, r) else digR 2 (x :: r) 0
theorem digR_step {l : List UInt8} {k f n : Nat} (hk : k < l.length) (h1 : 48 ≤ (l.getD k 0).toNat) (h2 : (l.getD k 0).toNat ≤ 57) : digR (f + 1) (l.drop k) n = digR f (l.drop (k + 1)) (10 * n + ((l.getD k 0).toNat - 48)) := by
  rw [drop_at hk, digR, if_pos ⟨h1, h2⟩]
theorem digR_stop {l : List UInt8} {k f n : Nat} (hk : k < l.length) (h : ¬ (48 ≤ (l.getD k 0).toNat ∧ (l.getD k 0).toNat ≤ 57)) : digR f (l.drop k) n = (n, l.drop k) := by
  cases f with
  | zero => rfl
  | succ f => rw [drop_at hk, digR, if_neg h]
theorem digR_end {l : List UInt8} {k f n : Nat} (hk : l.length ≤ k) : digR f (l.drop k) n = (n, l.drop k) := by
  rw [List.drop_eq_nil_of_le hk]
  cases f <;> rfl
theorem isE_no {s : ByteArray} (h : 0 < s.size) : s.toList.isEmpty = false := by
  rw [Go.ByteArray.toList_eq]
  have hl : s.data.toList.length = s.size := by simp
  cases hd : s.data.toList with
  | nil => rw [hd] at hl; simp at hl; omega
  | cons x l => rfl
theorem list_cons {s : ByteArray} (h : 0 < s.size) : s.data.toList = s[0] :: s.data.toList.drop 1 := by
  have hl : s.data.toList.length = s.size := by simp
  have := drop_at (l := s.data.toList) (k := 0) (by omega)
  rw [List.drop_zero, byte_at s h] at this
  exact this
set_option maxHeartbeats 2000000 in
theorem number_any_r (s : ByteArray) (w : World) (h63 : s.size ≤ 9223372036854775807) : Calls Tryd.prog 99 #[.string s] w fun e w' => e = .returned (.tuple #[.int .i64 ((numR s.data.toList).1 : Int), .string ⟨(numR s.data.toList).2.toArray⟩]) ∧ Ext w w' := by
  have hlen : s.data.toList.length = s.size := by simp
  by_cases hz : 0 < s.size
  · have he := isE_no hz
    by_cases hd : s[0] = 45
    · have hb : ((s[0].toNat : Int) == 45) = true := by rw [hd]; rfl
      have HL := Lib.hid (cut_hi s 1 hz)
      have HR : Hid (numR s.data.toList = (0, s.data.toList.drop 1)) := by unfold Hid; rw [list_cons hz, numR, if_pos hd]; rfl
      clear hd hlen
      go_enter Tryd.func99, Tryd.ntmps99
      go_upto_region 2 with (fail)
      refine wp_region_xw w mixed (by kernel_rfl) (by repeat (first | exact Ext.refl _ | (refine Ext.alloc ?_ _) | (refine Ext.trans ?_ (by assumption)))) ?_
      intro hne hrx hry
      try simp only []
      try simp only [List.append_eq, List.cons_append, List.nil_append]
      skip
      repeat (first
        | go_big_quiet_skip
        | (go_big_quiet_want; go_big_quiet_op; go_big_quiet_on))
      clear hne hry hrx
      refine wpQuiet_nil ?_
      intro wn hwn
      obtain ⟨hcwn, hfwn, hzwn⟩ := Ext.rules hwn
      try simp only [World.size_alloc] at hzwn
      obtain ⟨hcbwn, hfbwn, hzbwn⟩ := Ext.rules (show Ext w wn from (by repeat (first | exact Ext.refl _ | (refine Ext.alloc ?_ _) | (refine Ext.trans ?_ (by assumption)))))
      clear hcwn hfwn
      go_wp2
      go_ret2
      exact ⟨by rw [HR.out, ← HL.out]; rfl, (by repeat (first | exact Ext.refl _ | (refine Ext.alloc ?_ _) | (refine Ext.trans ?_ (by assumption))))⟩
    · have hb : ((s[0].toNat : Int) == 45) = false := by
        have := byte_ne hd
        simpa using this
      have HR : Hid (numR s.data.toList = digR 2 s.data.toList 0) := by unfold Hid; rw [list_cons hz, numR, if_neg hd]
      have HLEN := Lib.hid hlen
      clear hd hlen
      go_enter Tryd.func99, Tryd.ntmps99
      go_upto_region 4 with (fail)
      go_loopw [4, 5] (fun nn i wr => ∃ k m : Nat, k ≤ 2 ∧ k ≤ s.size ∧ i = .int .i64 k ∧ nn = .int .i64 m ∧ m ≤ 99 ∧ (k ≤ 1 → m ≤ 9) ∧ (k = 0 → m = 0) ∧ digR 2 s.data.toList 0 = digR (2 - k) (s.data.toList.drop k) m ∧ Ext w wr) (fun _ i _ => 2 - (intOf i).toNat)
      case atStart => exact ⟨0, 0, by omega, by omega, rfl, rfl, by omega, fun _ => by omega, fun _ => rfl, rfl, Ext.refl _⟩
      case round =>
        obtain ⟨k, m, hk2, hks, rfl, rfl, hm, hm1, hm0, heq, hE⟩ := hrel
        have HEQ := Lib.hid heq
        clear heq
        have HI := Lib.hid (cut_hi s k hks)
        by_cases hlt : k < s.size
        · by_cases hk : k < 2
          · have hbt := byte_at s hlt
            by_cases h1 : 48 ≤ s[k].toNat
            · by_cases h2 : s[k].toNat ≤ 57
              · have HS : Hid (digR 2 s.data.toList 0 = digR (2 - (k + 1)) (s.data.toList.drop (k + 1)) (10 * m + (s[k].toNat - 48))) := by
                  have := digR_step (l := s.data.toList) (k := k) (f := 1 - k) (n := m) (by rw [HLEN.out]; exact hlt) (by rw [hbt]; exact h1) (by rw [hbt]; exact h2)
                  rw [hbt, show 1 - k + 1 = 2 - k by omega] at this
                  rw [show 2 - (k + 1) = 1 - k by omega]
                  exact HEQ.out.trans this
                clear hbt
                go_wp2
                refine ⟨⟨k + 1, 10 * m + (s[k].toNat - 48), by omega, by omega, by go_num, by go_num, by omega, fun h => by have := hm0 (by omega); omega, fun h => by omega, HS.out, (by repeat (first | exact Ext.refl _ | (refine Ext.alloc ?_ _) | (refine Ext.trans ?_ (by assumption))))⟩, by simp [intOf]; omega⟩
              · have HS : Hid (digR 2 s.data.toList 0 = (m, s.data.toList.drop k)) := HEQ.out.trans (digR_stop (by rw [HLEN.out]; exact hlt) (by rw [hbt]; omega))
                clear hbt
                go_upto_region 7 with (fail)
                refine wp_region_xw wr mixed (by kernel_rfl) (by repeat (first | exact Ext.refl _ | (refine Ext.alloc ?_ _) | (refine Ext.trans ?_ (by assumption)))) ?_
                intro hne hrx hry
                try simp only []
                try simp only [List.append_eq, List.cons_append, List.nil_append]
                skip
                repeat (first
                  | go_big_quiet_skip
                  | (go_big_quiet_want; go_big_quiet_op; go_big_quiet_on))
                clear hne hry hrx
                refine wpQuiet_nil ?_
                intro wn hwn
                obtain ⟨hcwn, hfwn, hzwn⟩ := Ext.rules hwn
                try simp only [World.size_alloc] at hzwn
                obtain ⟨hcbwn, hfbwn, hzbwn⟩ := Ext.rules (show Ext wr wn from (by repeat (first | exact Ext.refl _ | (refine Ext.alloc ?_ _) | (refine Ext.trans ?_ (by assumption)))))
                clear hcwn hfwn
                go_wp2
                go_ret2
                exact ⟨by rw [HR.out, HS.out, ← HI.out]; rfl, (by repeat (first | exact Ext.refl _ | (refine Ext.alloc ?_ _) | (refine Ext.trans ?_ (by assumption))))⟩
            · have HS : Hid (digR 2 s.data.toList 0 = (m, s.data.toList.drop k)) := HEQ.out.trans (digR_stop (by rw [HLEN.out]; exact hlt) (by rw [hbt]; omega))
              clear hbt
              go_upto_region 7 with (fail)
              refine wp_region_xw wr mixed (by kernel_rfl) (by repeat (first | exact Ext.refl _ | (refine Ext.alloc ?_ _) | (refine Ext.trans ?_ (by assumption)))) ?_
              intro hne hrx hry
              try simp only []
              try simp only [List.append_eq, List.cons_append, List.nil_append]
              skip
              repeat (first
                | go_big_quiet_skip
                | (go_big_quiet_want; go_big_quiet_op; go_big_quiet_on))
              clear hne hry hrx
              refine wpQuiet_nil ?_
              intro wn hwn
              obtain ⟨hcwn, hfwn, hzwn⟩ := Ext.rules hwn
              try simp only [World.size_alloc] at hzwn
              obtain ⟨hcbwn, hfbwn, hzbwn⟩ := Ext.rules (show Ext wr wn from (by repeat (first | exact Ext.refl _ | (refine Ext.alloc ?_ _) | (refine Ext.trans ?_ (by assumption)))))
              clear hcwn hfwn
              go_wp2
              go_ret2
              exact ⟨by rw [HR.out, HS.out, ← HI.out]; rfl, (by repeat (first | exact Ext.refl _ | (refine Ext.alloc ?_ _) | (refine Ext.trans ?_ (by assumption))))⟩
          · have HS : Hid (digR 2 s.data.toList 0 = (m, s.data.toList.drop k)) := HEQ.out.trans (by rw [show 2 - k = 0 by omega]; rfl)
            go_upto_region 7 with (fail)
            refine wp_region_xw wr mixed (by kernel_rfl) (by repeat (first | exact Ext.refl _ | (refine Ext.alloc ?_ _) | (refine Ext.trans ?_ (by assumption)))) ?_
            intro hne hrx hry
            try simp only []
            try simp only [List.append_eq, List.cons_append, List.nil_append]
            skip
            repeat (first
              | go_big_quiet_skip
              | (go_big_quiet_want; go_big_quiet_op; go_big_quiet_on))
            clear hne hry hrx
            refine wpQuiet_nil ?_
            intro wn hwn
            obtain ⟨hcwn, hfwn, hzwn⟩ := Ext.rules hwn
            try simp only [World.size_alloc] at hzwn
            obtain ⟨hcbwn, hfbwn, hzbwn⟩ := Ext.rules (show Ext wr wn from (by repeat (first | exact Ext.refl _ | (refine Ext.alloc ?_ _) | (refine Ext.trans ?_ (by assumption)))))
            clear hcwn hfwn
            go_wp2
            go_ret2
            exact ⟨by rw [HR.out, HS.out, ← HI.out]; rfl, (by repeat (first | exact Ext.refl _ | (refine Ext.alloc ?_ _) | (refine Ext.trans ?_ (by assumption))))⟩
        · have HS : Hid (digR 2 s.data.toList 0 = (m, s.data.toList.drop k)) := HEQ.out.trans (digR_end (by rw [HLEN.out]; omega))
          go_upto_region 7 with (fail)
          refine wp_region_xw wr mixed (by kernel_rfl) (by repeat (first | exact Ext.refl _ | (refine Ext.alloc ?_ _) | (refine Ext.trans ?_ (by assumption)))) ?_
          intro hne hrx hry
          try simp only []
          try simp only [List.append_eq, List.cons_append, List.nil_append]
          skip
          repeat (first
            | go_big_quiet_skip
            | (go_big_quiet_want; go_big_quiet_op; go_big_quiet_on))
          clear hne hry hrx
          refine wpQuiet_nil ?_
          intro wn hwn
          obtain ⟨hcwn, hfwn, hzwn⟩ := Ext.rules hwn
          try simp only [World.size_alloc] at hzwn
          obtain ⟨hcbwn, hfbwn, hzbwn⟩ := Ext.rules (show Ext wr wn from (by repeat (first | exact Ext.refl _ | (refine Ext.alloc ?_ _) | (refine Ext.trans ?_ (by assumption)))))
          clear hcwn hfwn
          go_wp2
          go_ret2
          exact ⟨by rw [HR.out, HS.out, ← HI.out]; rfl, (by repeat (first | exact Ext.refl _ | (refine Ext.alloc ?_ _) | (refine Ext.trans ?_ (by assumption))))⟩
  · have hs : s = ⟨#[]⟩ := empty_eq (by
      have : s.data.toList = [] := List.length_eq_zero_iff.1 (by omega)
      rw [emptyB, this]; rfl)
    subst hs
    clear hz hlen
    go_enter Tryd.func99, Tryd.ntmps99
    go_upto_region 4 with (fail)
    go_loopw [4, 5] (fun nn i wr => i = .int .i64 0 ∧ nn = .int .i64 0 ∧ Ext w wr) (fun _ _ _ => 0)
    case atStart => exact ⟨rfl, rfl, Ext.refl _⟩
    case round =>
      obtain ⟨rfl, rfl, hE⟩ := hrel
      go_upto_region 7 with (fail)
      refine wp_region_xw wr mixed (by kernel_rfl) (by repeat (first | exact Ext.refl _ | (refine Ext.alloc ?_ _) | (refine Ext.trans ?_ (by assumption)))) ?_
      intro hne hrx hry
      try simp only []
      try simp only [List.append_eq, List.cons_append, List.nil_append]
      skip
      repeat (first
        | go_big_quiet_skip
        | (go_big_quiet_want; go_big_quiet_op; go_big_quiet_on))
      clear hne hry hrx
      refine wpQuiet_nil ?_
      intro wn hwn
      obtain ⟨hcwn, hfwn, hzwn⟩ := Ext.rules hwn
      try simp only [World.size_alloc] at hzwn
      obtain ⟨hcbwn, hfbwn, hzbwn⟩ := Ext.rules (show Ext wr wn from (by repeat (first | exact Ext.refl _ | (refine Ext.alloc ?_ _) | (refine Ext.trans ?_ (by assumption)))))
      clear hcwn hfwn
      go_wp2
      go_ret2
      exact ⟨rfl, (by repeat (first | exact Ext.refl _ | (refine Ext.alloc ?_ _) | (refine Ext.trans ?_ (by assumption))))⟩
def A1 (n : Nat) : ByteArray := if n = 0 then ⟨#[45]⟩ else dg n
theorem A1_no {n : Nat} {mk : ByteArray} : A1 n = partS n mk false := by
  unfold A1 partS
  split
  · rfl
  · show dg n = dg n ++ ⟨#[]⟩
    exact bytes_eq (by simp)
theorem A1_yes {n : Nat} {mk : ByteArray} (h : n ≠ 0) : A1 n ++ mk = partS n mk true := by
  unfold A1 partS
  rw [if_neg h, if_neg h]; rfl
theorem rp_cut : ((List.range 4).all fun n => decide ((⟨#[43, 43, 43]⟩ : ByteArray).extract 0 n = rp n)) = true := by kernel_rfl
theorem A1_size {n : Nat} (h : n ≤ 30) : (A1 n).size ≤ 2 := by
  unfold A1
  split
  · show 1 ≤ 2; omega
  · exact dg_size h
theorem yearS_size {t : Tr} (ha : t.af.toNat ≤ 3) (hn : t.nm.size ≤ 16) : (yearS t).size ≤ 19 := by
  unfold yearS
  split
  · show 1 ≤ 19; omega
  · rw [ByteArray.size_append, rp_size]; omega
theorem kingS_size {t : Tr} {y : ByteArray} (hy : y.size ≤ 19) (hn : t.kg.size ≤ 16) : (kingS t y).size ≤ 36 := by
  unfold kingS
  split
  · omega
  · rw [ByteArray.size_append, ByteArray.size_append]
    have : (⟨#[64]⟩ : ByteArray).size = 1 := rfl
    omega
set_option maxRecDepth 100000 in
set_option maxHeartbeats 2000000 in
theorem rtext_yes {d m af : Nat} {more sc : Bool} {nm kg : ByteArray} (w : World) (hd : d ≤ 30) (hm : m ≤ 30) (haf : af ≤ 3) (hnm : nm.size ≤ 16) (hkg : kg.size ≤ 16) (hmo : more = true → d ≠ 0) (hsc : sc = true → m ≠ 0) {Y K : ByteArray}
    (HY : Hid (Y = if nm.toList.isEmpty then ⟨#[45]⟩ else rp af ++ nm)) (HK : Hid (K = if kg.toList.isEmpty then Y else Y ++ ⟨#[64]⟩ ++ kg))
    (cc : ∀ w : World, Calls Tryd.prog 49 #[.agg #[.int .i64 (d : Int), .bool more, .int .i64 (m : Int), .bool sc, .string nm, .int .i64 (af : Int), .string kg]] w fun e w' => e = .returned (.int .i64 0) ∧ Ext w w') :
    Calls Tryd.prog 47 #[.agg #[.int .i64 (d : Int), .bool more, .int .i64 (m : Int), .bool sc, .string nm, .int .i64 (af : Int), .string kg]] w fun e w' => e = .returned (.tuple #[.string (partS d ⟨#[43]⟩ more ++ ⟨#[47]⟩ ++ partS m ⟨#[98]⟩ sc ++ ⟨#[47]⟩ ++ K), .int .i64 0]) ∧ Ext w w' := by
  have sY : Y.size ≤ 19 := by
    rw [HY.out]
    split
    · show 1 ≤ 19; omega
    · rw [ByteArray.size_append, rp_size]; omega
  have sK : K.size ≤ 36 := by
    rw [HK.out]
    split
    · omega
    · rw [ByteArray.size_append, ByteArray.size_append]
      have : (⟨#[64]⟩ : ByteArray).size = 1 := rfl
      omega
  have s1 := A1_size hd
  have s2 := A1_size hm
  have p1 := partS_size (mark := ⟨#[43]⟩) (b := more) hd (Nat.le_refl _)
  have p2 := partS_size (mark := ⟨#[98]⟩) (b := sc) hm (Nat.le_refl _)
  have HMO := Lib.hid hmo
  have HSC := Lib.hid hsc
  clear hmo hsc
  go_enter Tryd.func47, Tryd.ntmps47
  go_upto_region 1 with (fail)
  obtain ⟨v, hv⟩ : ∃ v, v = (w.alloc (.cells #[.int .i64 (d : Int), .bool more, .int .i64 (m : Int), .bool sc, .string nm, .int .i64 (af : Int), .string kg] 33)) := ⟨_, rfl⟩
  rw [← hv]
  have E : Ext w v := by rw [hv]; exact (Ext.refl _).alloc _
  have B : Held v w.heap.size 33 #[.int .i64 (d : Int), .bool more, .int .i64 (m : Int), .bool sc, .string nm, .int .i64 (af : Int), .string kg] := by rw [hv]; exact Held.new _ _ _
  clear hv
  generalize w.heap.size = b at *
  obtain ⟨k0, k1, k2, k3, k4, k5, k6⟩ := B.c7; have lk := B.lt
  go_upto_region 4 with (go_at_call 49; (with_reducible refine Calls.mono (cc _) ?_); rintro e v2 ⟨rfl, h⟩)
  replace E := Ext.trans E h
  replace B := B.ext h
  clear h

  clear k0 k1 k2 k3 k4 k5 k6 lk
  obtain ⟨k0, k1, k2, k3, k4, k5, k6⟩ := B.c7; have lk := B.lt
  go_upto_if 12 with fail
  go_cut [4] from 10 (fun p wx => p = .string (A1 d) ∧ Hid (Ext w wx) ∧ Hid (Held wx b 33 #[.int .i64 (d : Int), .bool more, .int .i64 (m : Int), .bool sc, .string nm, .int .i64 (af : Int), .string kg]))
  case first =>
    by_cases h0 : d = 0
    · have hb : decide (0 < (d : Int)) = false := decide_eq_false (by omega)
      have hb2 : ¬ 0 < d := by omega
      have e1 : Hid (⟨#[45]⟩ = A1 d) := (by unfold Hid A1; rw [if_pos h0])
      clear h0
      go_wp2
      go_meet
      exact ⟨by rw [← e1.out], E, B⟩
    · have hb : decide (0 < (d : Int)) = true := decide_eq_true (by omega)
      have hb2 : 0 < d := by omega
      have e1 : Hid (dg d = A1 d) := (by unfold Hid A1; rw [if_neg h0])
      clear h0
      go_wp2_with (go_at_call 94; (with_reducible refine Calls.mono (digits_any d hd _) ?_); rintro e v3 ⟨rfl, h⟩)
      go_meet
      exact ⟨by rw [← e1.out], E.trans h, B.ext h⟩
  case rest =>
    obtain ⟨rfl, E', B'⟩ := hcut
    replace E := E'.out
    replace B := B'.out
    clear E' B' k0 k1 k2 k3 k4 k5 k6 lk
    obtain ⟨k0, k1, k2, k3, k4, k5, k6⟩ := B.c7; have lk := B.lt
    go_upto_if 17 with fail
    go_cut [4] from 16 (fun p wx => p = .string (partS d ⟨#[43]⟩ more) ∧ Hid (Ext w wx) ∧ Hid (Held wx b 33 #[.int .i64 (d : Int), .bool more, .int .i64 (m : Int), .bool sc, .string nm, .int .i64 (af : Int), .string kg]))
    case first =>
      cases more
      · have e1 : Hid (A1 d = partS d ⟨#[43]⟩ false) := A1_no
        go_wp2
        go_meet
        exact ⟨by rw [← e1.out], E, B⟩
      · have e1 : Hid (A1 d ++ ⟨#[43]⟩ = partS d ⟨#[43]⟩ true) := A1_yes (HMO.out rfl)
        go_wp2
        go_meet
        exact ⟨by rw [← e1.out], E, B⟩
    case rest =>
      obtain ⟨rfl, E', B'⟩ := hcut
      replace E := E'.out
      replace B := B'.out
      clear E' B' k0 k1 k2 k3 k4 k5 k6 lk
      obtain ⟨k0, k1, k2, k3, k4, k5, k6⟩ := B.c7; have lk := B.lt
      go_upto_if 22 with fail
      go_cut [5] from 20 (fun p wx => p = .string (A1 m) ∧ Hid (Ext w wx) ∧ Hid (Held wx b 33 #[.int .i64 (d : Int), .bool more, .int .i64 (m : Int), .bool sc, .string nm, .int .i64 (af : Int), .string kg]))
      case first =>
        by_cases h0 : m = 0
        · have hb : decide (0 < (m : Int)) = false := decide_eq_false (by omega)
          have hb2 : ¬ 0 < m := by omega
          have e1 : Hid (⟨#[45]⟩ = A1 m) := (by unfold Hid A1; rw [if_pos h0])
          clear h0
          go_wp2
          go_meet
          exact ⟨by rw [← e1.out], E, B⟩
        · have hb : decide (0 < (m : Int)) = true := decide_eq_true (by omega)
          have hb2 : 0 < m := by omega
          have e1 : Hid (dg m = A1 m) := (by unfold Hid A1; rw [if_neg h0])
          clear h0
          go_wp2_with (go_at_call 94; (with_reducible refine Calls.mono (digits_any m hm _) ?_); rintro e v3 ⟨rfl, h⟩)
          go_meet
          exact ⟨by rw [← e1.out], E.trans h, B.ext h⟩
      case rest =>
        obtain ⟨rfl, E', B'⟩ := hcut
        replace E := E'.out
        replace B := B'.out
        clear E' B' k0 k1 k2 k3 k4 k5 k6 lk
        obtain ⟨k0, k1, k2, k3, k4, k5, k6⟩ := B.c7; have lk := B.lt
        go_upto_if 27 with fail
        go_cut [5] from 26 (fun p wx => p = .string (partS m ⟨#[98]⟩ sc) ∧ Hid (Ext w wx) ∧ Hid (Held wx b 33 #[.int .i64 (d : Int), .bool more, .int .i64 (m : Int), .bool sc, .string nm, .int .i64 (af : Int), .string kg]))
        case first =>
          cases sc
          · have e1 : Hid (A1 m = partS m ⟨#[98]⟩ false) := A1_no
            go_wp2
            go_meet
            exact ⟨by rw [← e1.out], E, B⟩
          · have e1 : Hid (A1 m ++ ⟨#[98]⟩ = partS m ⟨#[98]⟩ true) := A1_yes (HSC.out rfl)
            go_wp2
            go_meet
            exact ⟨by rw [← e1.out], E, B⟩
        case rest =>
          obtain ⟨rfl, E', B'⟩ := hcut
          replace E := E'.out
          replace B := B'.out
          clear E' B' k0 k1 k2 k3 k4 k5 k6 lk
          obtain ⟨k0, k1, k2, k3, k4, k5, k6⟩ := B.c7; have lk := B.lt
          go_upto_if 32 with fail
          go_cut [6] from 30 (fun p wx => p = .string (Y) ∧ Hid (Ext w wx) ∧ Hid (Held wx b 33 #[.int .i64 (d : Int), .bool more, .int .i64 (m : Int), .bool sc, .string nm, .int .i64 (af : Int), .string kg]))
          case first =>
            cases hne : nm.toList.isEmpty
            · have e1 : Hid (Y = rp af ++ nm) := (by unfold Hid; rw [HY.out, hne]; rfl)
              have e2' : (⟨#[43, 43, 43]⟩ : ByteArray).extract 0 af = rp af := of_decide_eq_true (List.all_eq_true.1 rp_cut af (List.mem_range.2 (by omega)))
              have e2 := Lib.hid e2'
              clear e2'
              go_upto_region 13 with (fail)
              refine wp_region_xw wc mixed (by kernel_rfl) (by repeat (first | exact Ext.refl _ | (refine Ext.alloc ?_ _) | (refine Ext.trans ?_ (by assumption)))) ?_
              intro hne hrx hry
              try simp only []
              try simp only [List.append_eq, List.cons_append, List.nil_append]
              skip
              repeat (first
                | go_big_quiet_skip
                | (go_big_quiet_want; go_big_quiet_op; go_big_quiet_on))
              clear hne hry hrx
              refine wpQuiet_nil ?_
              intro wn hn
              obtain ⟨hcwn, hfwn, hzwn⟩ := Ext.rules hn
              try simp only [World.size_alloc] at hzwn
              obtain ⟨hcbwn, hfbwn, hzbwn⟩ := Ext.rules (show Ext wc wn from (by repeat (first | exact Ext.refl _ | (refine Ext.alloc ?_ _) | (refine Ext.trans ?_ (by assumption)))))
              clear hcwn hfwn
              go_wp2
              go_meet
              exact ⟨by rw [e1.out, ← e2.out], E.trans hn, B.ext hn⟩
            · have e1 : Hid (Y = ⟨#[45]⟩) := (by unfold Hid; rw [HY.out, hne]; rfl)
              go_wp2
              go_meet
              exact ⟨by rw [e1.out], E, B⟩
          case rest =>
            obtain ⟨rfl, E', B'⟩ := hcut
            replace E := E'.out
            replace B := B'.out
            clear E' B' k0 k1 k2 k3 k4 k5 k6 lk
            obtain ⟨k0, k1, k2, k3, k4, k5, k6⟩ := B.c7; have lk := B.lt
            go_upto_if 41 with fail
            go_cut [6] from 39 (fun p wx => p = .string (K) ∧ Hid (Ext w wx) ∧ Hid (Held wx b 33 #[.int .i64 (d : Int), .bool more, .int .i64 (m : Int), .bool sc, .string nm, .int .i64 (af : Int), .string kg]))
            case first =>
              cases hne : kg.toList.isEmpty
              · have e1 : Hid (K = Y ++ ⟨#[64]⟩ ++ kg) := (by unfold Hid; rw [HK.out, hne]; rfl)
                go_wp2
                go_meet
                exact ⟨by rw [e1.out], E, B⟩
              · have e1 : Hid (K = Y) := (by unfold Hid; rw [HK.out, hne]; rfl)
                go_wp2
                go_meet
                exact ⟨by rw [e1.out], E, B⟩
            case rest =>
              obtain ⟨rfl, E', B'⟩ := hcut
              replace E := E'.out
              replace B := B'.out
              clear E' B' k0 k1 k2 k3 k4 k5 k6 lk
              obtain ⟨k0, k1, k2, k3, k4, k5, k6⟩ := B.c7; have lk := B.lt
              go_wp2
              go_ret2
              exact ⟨rfl, E⟩
end Go.Proofs.YtfchchmmjabjnaaDoor
