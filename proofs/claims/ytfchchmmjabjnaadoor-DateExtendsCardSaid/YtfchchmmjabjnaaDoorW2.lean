/- The walks of the small functions on months, days and dates. -/
import Derived.Test.YtfchchmmjabjnaaDoorW1
import Derived.Test.YtfchchmmjabjnaaDoorRead
namespace Go.Proofs.YtfchchmmjabjnaaDoor
open Go Go.RowKit

theorem and_one (n : Int) : bits .and .i64 n 1 = n % 2 := by
  have h1 : (BitVec.ofInt 64 1).toNat = 2 ^ 1 - 1 := by decide
  have key : (BitVec.ofInt 64 n &&& BitVec.ofInt 64 1).toNat = (n % ((2 ^ 64 : Nat) : Int)).toNat % 2 ^ 1 := by
    rw [BitVec.toNat_and, BitVec.toNat_ofInt, h1, Nat.and_two_pow_sub_one_eq_mod]
  show IntKind.i64.wrap ((BitVec.ofInt 64 n &&& BitVec.ofInt 64 1).toNat : Nat) = n % 2
  rw [key, IntKind.wrap_i64]
  omega
theorem mlen_yes {lg : Int} {b : Nat} (h : (bits .and .i64 (lg / 2 ^ b) 1 == 1) = true) : mlen lg b = 30 := by
  rw [and_one] at h; simp only [mlen, bitOn]; simp at h; simp [h]
theorem mlen_no {lg : Int} {b : Nat} (h : (bits .and .i64 (lg / 2 ^ b) 1 == 1) = false) : mlen lg b = 29 := by
  rw [and_one] at h; simp only [mlen, bitOn]; simp at h; simp [h]
theorem mlen_12 (lg : Int) (h : (bits .and .i64 (lg / 4096) 1 == 1) = true) : mlen lg 12 = 30 := mlen_yes (b := 12) h
theorem mlen_12n (lg : Int) (h : (bits .and .i64 (lg / 4096) 1 == 1) = false) : mlen lg 12 = 29 := mlen_no (b := 12) h

set_option maxHeartbeats 400000 in
theorem length_any (y : Yr) (n : Int) (s : Bool) (w : World) (_h1 : 1 ≤ n) (_h2 : n ≤ 12) (_hl : 0 ≤ y.lg) (_hl' : y.lg ≤ 8191) :
    Calls Tryd.prog 106 #[.agg #[.int .i64 y.k, .string y.nm, .int .i64 y.lg, .int .i64 y.db], .int .i64 n, .bool s] w fun e w' =>
      e = .returned (.int .i64 (y.len n s)) ∧ Ext w w' := by
  cases s
  · have H : Hid (y.len n false = mlen y.lg (n.toNat - 1)) := rfl
    generalize y.len n false = r at *
    go_enter Tryd.func106, Tryd.ntmps106
    go_wp2
    all_goals
      go_ret
      refine ⟨ret_int ?_, (Ext.refl w).alloc _⟩
      rw [H.out]
      first | exact (mlen_yes ‹_›).symm | exact (mlen_no ‹_›).symm
  · have H : Hid (y.len n true = mlen y.lg 12) := rfl
    generalize y.len n true = r at *
    go_enter Tryd.func106, Tryd.ntmps106
    go_wp2
    all_goals
      go_ret
      refine ⟨ret_int ?_, (Ext.refl w).alloc _⟩
      rw [H.out]
      first | exact (mlen_12 _ ‹_›).symm | exact (mlen_12n _ ‹_›).symm

set_option maxHeartbeats 400000 in
theorem long_any (y : Yr) (b : Int) (w : World) (_h1 : 0 ≤ b) (_h2 : b ≤ 12) (_hl : 0 ≤ y.lg) (_hl' : y.lg ≤ 8191) :
    Calls Tryd.prog 127 #[.agg #[.int .i64 y.k, .string y.nm, .int .i64 y.lg, .int .i64 y.db], .int .i64 b] w fun e w' =>
      e = .returned (.int .i64 (mlen y.lg b.toNat)) ∧ Ext w w' := by
  generalize hr : mlen y.lg b.toNat = r
  have H : Hid (mlen y.lg b.toNat = r) := hr
  clear hr
  go_enter Tryd.func127, Tryd.ntmps127
  go_wp2
  all_goals
    go_ret
    refine ⟨ret_int ?_, (Ext.refl w).alloc _⟩
    rw [← H.out]
    first | exact (mlen_yes ‹_›).symm | exact (mlen_no ‹_›).symm

theorem hasYear_any (A A' : Option Addr) (ca cb : Nat) (c : Cal) (y : Int) (w : World) (_hm : c.ny ≤ 9223372036854775807) :
    Calls Tryd.prog 102 #[.agg #[.slice A c.nk ca, .slice A' c.ny cb], .int .i64 y] w fun e w' => e = .returned (.bool (decide (0 ≤ y ∧ y < c.ny))) ∧ Ext w w' := by
  by_cases h : 0 ≤ y
  · go_enter Tryd.func102, Tryd.ntmps102
    go_wp2
    go_ret
    exact ⟨ret_bool (by simp [h]), (Ext.refl w).alloc _⟩
  · go_enter Tryd.func102, Tryd.ntmps102
    go_wp2
    go_ret
    exact ⟨ret_bool (by simp; omega), (Ext.refl w).alloc _⟩

set_option maxHeartbeats 400000 in
theorem monthOf_any (d : Dt) (w : World) :
    Calls Tryd.prog 85 #[.agg #[.int .i64 d.y, .int .i64 d.m, .bool d.s, .int .i64 d.d]] w fun e w' => e = .returned (.agg #[.int .i64 d.y, .int .i64 d.m, .bool d.s]) ∧ Ext w w' := by
  go_enter Tryd.func85, Tryd.ntmps85
  go_wp2
  refine bodyPost_ret (v := .agg #[.int .i64 d.y, .int .i64 d.m, .bool d.s]) (by simp [results, Tryd.results85, go_sem]) rfl ⟨rfl, (by repeat (first | exact Ext.refl _ | (refine Ext.alloc ?_ _) | (refine Ext.trans ?_ (by assumption))))⟩
set_option maxHeartbeats 400000 in
theorem onDay_any (t : Tr) (day : Int) (w : World) :
    Calls Tryd.prog 86 #[.agg #[.int .i64 t.d, .bool t.more, .int .i64 t.m, .bool t.s, .string t.nm, .int .i64 t.af, .string t.kg], .int .i64 day] w fun e w' => e = .returned (.bool (t.onDay day)) ∧ Ext w w' := by
  have H : Hid (t.onDay day = (decide (t.d = 0) || decide (day = t.d) || (t.more && decide (t.d < day)))) := rfl
  generalize t.onDay day = r at *
  go_enter Tryd.func86, Tryd.ntmps86
  go_wp2
  all_goals
    go_ret
    exact ⟨ret_bool (by rw [H.out]; simp [*]), (by repeat (first | exact Ext.refl _ | (refine Ext.alloc ?_ _) | (refine Ext.trans ?_ (by assumption))))⟩
set_option maxRecDepth 100000 in
set_option maxHeartbeats 400000 in
theorem of_any (A A' : Option Addr) (ca cb : Nat) (c : Cal) (i : Nat) (n : Int) (s : Bool) (w : World) (hC : CalAt w A ca A' cb c) (hi : i < c.ny) (_h1 : 1 ≤ n) (_h2 : n ≤ 12) (hl : 0 ≤ (c.yr i).lg) (hl' : (c.yr i).lg ≤ 8191) :
    Calls Tryd.prog 104 #[.agg #[.int .i64 i, .int .i64 n, .bool s], .agg #[.slice A c.nk ca, .slice A' c.ny cb]] w fun e w' => e = .returned (.int .i64 ((c.yr i).len n s)) ∧ Ext w w' := by
  obtain ⟨b, off, rfl, hb, c0, c1, c2, c3⟩ := hC.year hi
  have hny := hC.ny_le
  clear hC
  go_enter Tryd.func104, Tryd.ntmps104
  go_wp2
  refine wp_region_xw w mixed (by kernel_rfl) (by repeat (first | exact Ext.refl _ | (refine Ext.alloc ?_ _) | (refine Ext.trans ?_ (by assumption)))) ?_
  intro hne hrx hry
  try simp only []
  try simp only [List.append_eq, List.cons_append, List.nil_append]
  skip
  repeat (first
    | go_big_quiet_skip
    | (go_big_quiet_want; go_big_quiet_op; go_big_quiet_on)
    | (go_big_quiet_want; go_big_quiet_op; apply Exists.intro; refine ⟨fun u => ?_, ?_⟩
       · first
           | (go_at_call 106; refine (length_any (c.yr i) _ _ _ _h1 _h2 hl hl').mono ?_; rintro e w' ⟨rfl, hb⟩; exact ⟨rfl, u.back hb⟩)
       go_big_quiet_on))
  clear hne hry hrx
  refine wpQuiet_nil ?_
  intro wq hq
  obtain ⟨hcwq, hfwq, hzwq⟩ := Ext.rules hq
  try simp only [World.size_alloc] at hzwq
  obtain ⟨hcbwq, hfbwq, hzbwq⟩ := Ext.rules (show Ext w wq from (by repeat (first | exact Ext.refl _ | (refine Ext.alloc ?_ _) | (refine Ext.trans ?_ (by assumption)))))
  clear hcwq hfwq
  go_wp2
  go_ret
  exact ⟨rfl, (by repeat (first | exact Ext.refl _ | (refine Ext.alloc ?_ _) | (refine Ext.trans ?_ (by assumption))))⟩

theorem emptyB_eq (s : ByteArray) : emptyB s = s.toList.isEmpty := by rw [emptyB, Go.ByteArray.toList_eq]
theorem same_eq (a b : ByteArray) : decide (a = b) = (a.toList == b.toList) := by
  rw [Go.ByteArray.toList_eq, Go.ByteArray.toList_eq, Bool.eq_iff_iff]
  simp only [decide_eq_true_eq, beq_iff_eq]
  exact ⟨fun h => by rw [h], fun h => by cases a; cases b; simp at h; simp [h]⟩

set_option maxRecDepth 100000 in
set_option maxHeartbeats 4000000 in
theorem inMonth_any (A A' : Option Addr) (ca cb : Nat) (c : Cal) (t : Tr) (i : Nat) (n : Int) (s : Bool) (w : World) (hC : CalAt w A ca A' cb c) (hi : i < c.ny) (hy : c.ny ≤ 400) (hk : 0 ≤ (c.yr i).k) (hk' : (c.yr i).k < c.nk) (ha : 0 ≤ t.af) (ha' : t.af ≤ 3) :
    Calls Tryd.prog 84 #[.agg #[.slice A c.nk ca, .slice A' c.ny cb], .agg #[.int .i64 t.d, .bool t.more, .int .i64 t.m, .bool t.s, .string t.nm, .int .i64 t.af, .string t.kg], .agg #[.int .i64 i, .int .i64 n, .bool s]] w fun e w' => e = .returned (.bool (c.inMonth t i n s)) ∧ Ext w w' := by
  obtain ⟨b, off, rfl, hb, c0, c1, c2, c3⟩ := hC.year hi
  obtain ⟨bk, offk, rfl, hbk, k0⟩ := hC.kingI hk hk'
  have hny := hC.ny_le
  have hnk := hC.nk_le
  have H : Hid (c.inMonth t i n s = ((decide (t.m = 0) || (decide (t.m = n) && (t.s == s))) && ((t.nm.toList.isEmpty || (decide (t.af ≤ i) && ((c.yrI (i - t.af)).nm.toList == t.nm.toList))) && (t.kg.toList.isEmpty || ((c.kg (c.yr i).k.toNat).toList == t.kg.toList))))) := by
    unfold Hid Cal.inMonth Cal.yearFits
    rw [emptyB_eq, emptyB_eq, same_eq, same_eq, show c.yrI (i : Int) = c.yr i from rfl]
  generalize c.inMonth t i n s = r at *
  cases he : t.nm.toList.isEmpty
  · by_cases hf : t.af ≤ (i : Int)
    · obtain ⟨b', off', he', hb', d0, d1, d2, d3⟩ := hC.yearI (y := (i : Int) - t.af) (by omega) (by omega)
      obtain ⟨rfl, rfl⟩ : b' = b ∧ off' = off := by simpa using he'.symm
      clear he' hC d0 d2 d3
      generalize (c.yrI (↑i - t.af)).nm = nm' at *
      have x0 : (0 : Int) ≤ ↑i - t.af := by omega
      have x1 : decide ((i : Int) - t.af < 0) = false := decide_eq_false (by omega)
      cases hke : t.kg.toList.isEmpty
      all_goals
        go_enter Tryd.func84, Tryd.ntmps84
        go_wp2
        all_goals first
          | (go_ret; refine ⟨ret_bool ?_, (by repeat (first | exact Ext.refl _ | (refine Ext.alloc ?_ _) | (refine Ext.trans ?_ (by assumption))))⟩; rw [H.out]; go_tidy; clear H; simp_all; done)
          | (
            refine wp_region_xw w mixed (by kernel_rfl) (by repeat (first | exact Ext.refl _ | (refine Ext.alloc ?_ _) | (refine Ext.trans ?_ (by assumption)))) ?_
            intro hne hrx hry
            try simp only []
            try simp only [List.append_eq, List.cons_append, List.nil_append]
            have hrx0 := fun u o => hrx u (w.heap.size) o (by first | omega | (simp; done) | (simp; omega))
            have hrx1 := fun u o => hrx u (w.heap.size + 1) o (by first | omega | (simp; done) | (simp; omega))
            have hrx2 := fun u o => hrx u (w.heap.size + 1 + 1) o (by first | omega | (simp; done) | (simp; omega))
            skip
            repeat (first
              | go_big_quiet_skip
              | (go_big_quiet_want; go_big_quiet_op; go_big_quiet_on))
            clear hne hry hrx hrx0 hrx1 hrx2
            refine wpQuiet_nil ?_
            intro wq hq
            obtain ⟨hcwq, hfwq, hzwq⟩ := Ext.rules hq
            try simp only [World.size_alloc] at hzwq
            have hk0wq := fun o => hcwq (w.heap.size) o (by first | omega | (simp; done) | (simp; omega))
            have hj0wq := fun o => hfwq (w.heap.size) o (by first | omega | (simp; done) | (simp; omega))
            have hl0wq : w.heap.size < wq.heap.size := (by first | omega | (simp; done) | (simp; omega))
            have hk1wq := fun o => hcwq (w.heap.size + 1) o (by first | omega | (simp; done) | (simp; omega))
            have hj1wq := fun o => hfwq (w.heap.size + 1) o (by first | omega | (simp; done) | (simp; omega))
            have hl1wq : w.heap.size + 1 < wq.heap.size := (by first | omega | (simp; done) | (simp; omega))
            have hk2wq := fun o => hcwq (w.heap.size + 1 + 1) o (by first | omega | (simp; done) | (simp; omega))
            have hj2wq := fun o => hfwq (w.heap.size + 1 + 1) o (by first | omega | (simp; done) | (simp; omega))
            have hl2wq : w.heap.size + 1 + 1 < wq.heap.size := (by first | omega | (simp; done) | (simp; omega))
            obtain ⟨hcbwq, hfbwq, hzbwq⟩ := Ext.rules (show Ext w wq from (by repeat (first | exact Ext.refl _ | (refine Ext.alloc ?_ _) | (refine Ext.trans ?_ (by assumption)))))
            clear hcwq hfwq
            go_wp2
            all_goals first
              | (go_ret; refine ⟨ret_bool ?_, (by repeat (first | exact Ext.refl _ | (refine Ext.alloc ?_ _) | (refine Ext.trans ?_ (by assumption))))⟩; rw [H.out]; go_tidy; clear H; simp_all; done)
              | (
                refine wp_region_xw w mixed (by kernel_rfl) (by repeat (first | exact Ext.refl _ | (refine Ext.alloc ?_ _) | (refine Ext.trans ?_ (by assumption)))) ?_
                intro hne hrx hry
                try simp only []
                try simp only [List.append_eq, List.cons_append, List.nil_append]
                have hrx0 := fun u o => hrx u (w.heap.size) o (by first | omega | (simp; done) | (simp; omega))
                have hrx1 := fun u o => hrx u (w.heap.size + 1) o (by first | omega | (simp; done) | (simp; omega))
                have hrx2 := fun u o => hrx u (w.heap.size + 1 + 1) o (by first | omega | (simp; done) | (simp; omega))
                skip
                repeat (first
                  | go_big_quiet_skip
                  | (go_big_quiet_want; go_big_quiet_op; go_big_quiet_on))
                clear hne hry hrx hrx0 hrx1 hrx2
                refine wpQuiet_nil ?_
                intro wr hr
                obtain ⟨hcwr, hfwr, hzwr⟩ := Ext.rules hr
                try simp only [World.size_alloc] at hzwr
                have hk0wr := fun o => hcwr (w.heap.size) o (by first | omega | (simp; done) | (simp; omega))
                have hj0wr := fun o => hfwr (w.heap.size) o (by first | omega | (simp; done) | (simp; omega))
                have hl0wr : w.heap.size < wr.heap.size := (by first | omega | (simp; done) | (simp; omega))
                have hk1wr := fun o => hcwr (w.heap.size + 1) o (by first | omega | (simp; done) | (simp; omega))
                have hj1wr := fun o => hfwr (w.heap.size + 1) o (by first | omega | (simp; done) | (simp; omega))
                have hl1wr : w.heap.size + 1 < wr.heap.size := (by first | omega | (simp; done) | (simp; omega))
                have hk2wr := fun o => hcwr (w.heap.size + 1 + 1) o (by first | omega | (simp; done) | (simp; omega))
                have hj2wr := fun o => hfwr (w.heap.size + 1 + 1) o (by first | omega | (simp; done) | (simp; omega))
                have hl2wr : w.heap.size + 1 + 1 < wr.heap.size := (by first | omega | (simp; done) | (simp; omega))
                obtain ⟨hcbwr, hfbwr, hzbwr⟩ := Ext.rules (show Ext w wr from (by repeat (first | exact Ext.refl _ | (refine Ext.alloc ?_ _) | (refine Ext.trans ?_ (by assumption)))))
                clear hcwr hfwr
                go_wp2
                go_ret
                refine ⟨ret_bool ?_, (by repeat (first | exact Ext.refl _ | (refine Ext.alloc ?_ _) | (refine Ext.trans ?_ (by assumption))))⟩; rw [H.out]; go_tidy; clear H; simp_all))
    · clear hC
      rw [decide_eq_false hf] at H
      have x0 : (↑i - t.af : Int) < 0 := by omega
      have x1 : decide ((i : Int) - t.af < 0) = true := decide_eq_true x0
      cases hke : t.kg.toList.isEmpty
      all_goals
        go_enter Tryd.func84, Tryd.ntmps84
        go_wp2
        all_goals first
          | (go_ret; refine ⟨ret_bool ?_, (by repeat (first | exact Ext.refl _ | (refine Ext.alloc ?_ _) | (refine Ext.trans ?_ (by assumption))))⟩; rw [H.out]; go_tidy; clear H; simp_all; done)
          | (
            refine wp_region_xw w mixed (by kernel_rfl) (by repeat (first | exact Ext.refl _ | (refine Ext.alloc ?_ _) | (refine Ext.trans ?_ (by assumption)))) ?_
            intro hne hrx hry
            try simp only []
            try simp only [List.append_eq, List.cons_append, List.nil_append]
            have hrx0 := fun u o => hrx u (w.heap.size) o (by first | omega | (simp; done) | (simp; omega))
            have hrx1 := fun u o => hrx u (w.heap.size + 1) o (by first | omega | (simp; done) | (simp; omega))
            have hrx2 := fun u o => hrx u (w.heap.size + 1 + 1) o (by first | omega | (simp; done) | (simp; omega))
            skip
            repeat (first
              | go_big_quiet_skip
              | (go_big_quiet_want; go_big_quiet_op; go_big_quiet_on))
            clear hne hry hrx hrx0 hrx1 hrx2
            refine wpQuiet_nil ?_
            intro wq hq
            obtain ⟨hcwq, hfwq, hzwq⟩ := Ext.rules hq
            try simp only [World.size_alloc] at hzwq
            have hk0wq := fun o => hcwq (w.heap.size) o (by first | omega | (simp; done) | (simp; omega))
            have hj0wq := fun o => hfwq (w.heap.size) o (by first | omega | (simp; done) | (simp; omega))
            have hl0wq : w.heap.size < wq.heap.size := (by first | omega | (simp; done) | (simp; omega))
            have hk1wq := fun o => hcwq (w.heap.size + 1) o (by first | omega | (simp; done) | (simp; omega))
            have hj1wq := fun o => hfwq (w.heap.size + 1) o (by first | omega | (simp; done) | (simp; omega))
            have hl1wq : w.heap.size + 1 < wq.heap.size := (by first | omega | (simp; done) | (simp; omega))
            have hk2wq := fun o => hcwq (w.heap.size + 1 + 1) o (by first | omega | (simp; done) | (simp; omega))
            have hj2wq := fun o => hfwq (w.heap.size + 1 + 1) o (by first | omega | (simp; done) | (simp; omega))
            have hl2wq : w.heap.size + 1 + 1 < wq.heap.size := (by first | omega | (simp; done) | (simp; omega))
            obtain ⟨hcbwq, hfbwq, hzbwq⟩ := Ext.rules (show Ext w wq from (by repeat (first | exact Ext.refl _ | (refine Ext.alloc ?_ _) | (refine Ext.trans ?_ (by assumption)))))
            clear hcwq hfwq
            go_wp2
            all_goals first
              | (go_ret; refine ⟨ret_bool ?_, (by repeat (first | exact Ext.refl _ | (refine Ext.alloc ?_ _) | (refine Ext.trans ?_ (by assumption))))⟩; rw [H.out]; go_tidy; clear H; simp_all; done)
              | (
                refine wp_region_xw w mixed (by kernel_rfl) (by repeat (first | exact Ext.refl _ | (refine Ext.alloc ?_ _) | (refine Ext.trans ?_ (by assumption)))) ?_
                intro hne hrx hry
                try simp only []
                try simp only [List.append_eq, List.cons_append, List.nil_append]
                have hrx0 := fun u o => hrx u (w.heap.size) o (by first | omega | (simp; done) | (simp; omega))
                have hrx1 := fun u o => hrx u (w.heap.size + 1) o (by first | omega | (simp; done) | (simp; omega))
                have hrx2 := fun u o => hrx u (w.heap.size + 1 + 1) o (by first | omega | (simp; done) | (simp; omega))
                skip
                repeat (first
                  | go_big_quiet_skip
                  | (go_big_quiet_want; go_big_quiet_op; go_big_quiet_on))
                clear hne hry hrx hrx0 hrx1 hrx2
                refine wpQuiet_nil ?_
                intro wr hr
                obtain ⟨hcwr, hfwr, hzwr⟩ := Ext.rules hr
                try simp only [World.size_alloc] at hzwr
                have hk0wr := fun o => hcwr (w.heap.size) o (by first | omega | (simp; done) | (simp; omega))
                have hj0wr := fun o => hfwr (w.heap.size) o (by first | omega | (simp; done) | (simp; omega))
                have hl0wr : w.heap.size < wr.heap.size := (by first | omega | (simp; done) | (simp; omega))
                have hk1wr := fun o => hcwr (w.heap.size + 1) o (by first | omega | (simp; done) | (simp; omega))
                have hj1wr := fun o => hfwr (w.heap.size + 1) o (by first | omega | (simp; done) | (simp; omega))
                have hl1wr : w.heap.size + 1 < wr.heap.size := (by first | omega | (simp; done) | (simp; omega))
                have hk2wr := fun o => hcwr (w.heap.size + 1 + 1) o (by first | omega | (simp; done) | (simp; omega))
                have hj2wr := fun o => hfwr (w.heap.size + 1 + 1) o (by first | omega | (simp; done) | (simp; omega))
                have hl2wr : w.heap.size + 1 + 1 < wr.heap.size := (by first | omega | (simp; done) | (simp; omega))
                obtain ⟨hcbwr, hfbwr, hzbwr⟩ := Ext.rules (show Ext w wr from (by repeat (first | exact Ext.refl _ | (refine Ext.alloc ?_ _) | (refine Ext.trans ?_ (by assumption)))))
                clear hcwr hfwr
                go_wp2
                go_ret
                refine ⟨ret_bool ?_, (by repeat (first | exact Ext.refl _ | (refine Ext.alloc ?_ _) | (refine Ext.trans ?_ (by assumption))))⟩; rw [H.out]; go_tidy; clear H; simp_all))
  · clear hC
    cases hke : t.kg.toList.isEmpty
    all_goals
      go_enter Tryd.func84, Tryd.ntmps84
      go_wp2
      all_goals first
        | (go_ret; refine ⟨ret_bool ?_, (by repeat (first | exact Ext.refl _ | (refine Ext.alloc ?_ _) | (refine Ext.trans ?_ (by assumption))))⟩; rw [H.out]; go_tidy; clear H; simp_all; done)
        | (
          refine wp_region_xw w mixed (by kernel_rfl) (by repeat (first | exact Ext.refl _ | (refine Ext.alloc ?_ _) | (refine Ext.trans ?_ (by assumption)))) ?_
          intro hne hrx hry
          try simp only []
          try simp only [List.append_eq, List.cons_append, List.nil_append]
          have hrx0 := fun u o => hrx u (w.heap.size) o (by first | omega | (simp; done) | (simp; omega))
          have hrx1 := fun u o => hrx u (w.heap.size + 1) o (by first | omega | (simp; done) | (simp; omega))
          have hrx2 := fun u o => hrx u (w.heap.size + 1 + 1) o (by first | omega | (simp; done) | (simp; omega))
          skip
          repeat (first
            | go_big_quiet_skip
            | (go_big_quiet_want; go_big_quiet_op; go_big_quiet_on))
          clear hne hry hrx hrx0 hrx1 hrx2
          refine wpQuiet_nil ?_
          intro wq hq
          obtain ⟨hcwq, hfwq, hzwq⟩ := Ext.rules hq
          try simp only [World.size_alloc] at hzwq
          have hk0wq := fun o => hcwq (w.heap.size) o (by first | omega | (simp; done) | (simp; omega))
          have hj0wq := fun o => hfwq (w.heap.size) o (by first | omega | (simp; done) | (simp; omega))
          have hl0wq : w.heap.size < wq.heap.size := (by first | omega | (simp; done) | (simp; omega))
          have hk1wq := fun o => hcwq (w.heap.size + 1) o (by first | omega | (simp; done) | (simp; omega))
          have hj1wq := fun o => hfwq (w.heap.size + 1) o (by first | omega | (simp; done) | (simp; omega))
          have hl1wq : w.heap.size + 1 < wq.heap.size := (by first | omega | (simp; done) | (simp; omega))
          have hk2wq := fun o => hcwq (w.heap.size + 1 + 1) o (by first | omega | (simp; done) | (simp; omega))
          have hj2wq := fun o => hfwq (w.heap.size + 1 + 1) o (by first | omega | (simp; done) | (simp; omega))
          have hl2wq : w.heap.size + 1 + 1 < wq.heap.size := (by first | omega | (simp; done) | (simp; omega))
          obtain ⟨hcbwq, hfbwq, hzbwq⟩ := Ext.rules (show Ext w wq from (by repeat (first | exact Ext.refl _ | (refine Ext.alloc ?_ _) | (refine Ext.trans ?_ (by assumption)))))
          clear hcwq hfwq
          go_wp2
          all_goals first
            | (go_ret; refine ⟨ret_bool ?_, (by repeat (first | exact Ext.refl _ | (refine Ext.alloc ?_ _) | (refine Ext.trans ?_ (by assumption))))⟩; rw [H.out]; go_tidy; clear H; simp_all; done)
            | (
              refine wp_region_xw w mixed (by kernel_rfl) (by repeat (first | exact Ext.refl _ | (refine Ext.alloc ?_ _) | (refine Ext.trans ?_ (by assumption)))) ?_
              intro hne hrx hry
              try simp only []
              try simp only [List.append_eq, List.cons_append, List.nil_append]
              have hrx0 := fun u o => hrx u (w.heap.size) o (by first | omega | (simp; done) | (simp; omega))
              have hrx1 := fun u o => hrx u (w.heap.size + 1) o (by first | omega | (simp; done) | (simp; omega))
              have hrx2 := fun u o => hrx u (w.heap.size + 1 + 1) o (by first | omega | (simp; done) | (simp; omega))
              skip
              repeat (first
                | go_big_quiet_skip
                | (go_big_quiet_want; go_big_quiet_op; go_big_quiet_on))
              clear hne hry hrx hrx0 hrx1 hrx2
              refine wpQuiet_nil ?_
              intro wr hr
              obtain ⟨hcwr, hfwr, hzwr⟩ := Ext.rules hr
              try simp only [World.size_alloc] at hzwr
              have hk0wr := fun o => hcwr (w.heap.size) o (by first | omega | (simp; done) | (simp; omega))
              have hj0wr := fun o => hfwr (w.heap.size) o (by first | omega | (simp; done) | (simp; omega))
              have hl0wr : w.heap.size < wr.heap.size := (by first | omega | (simp; done) | (simp; omega))
              have hk1wr := fun o => hcwr (w.heap.size + 1) o (by first | omega | (simp; done) | (simp; omega))
              have hj1wr := fun o => hfwr (w.heap.size + 1) o (by first | omega | (simp; done) | (simp; omega))
              have hl1wr : w.heap.size + 1 < wr.heap.size := (by first | omega | (simp; done) | (simp; omega))
              have hk2wr := fun o => hcwr (w.heap.size + 1 + 1) o (by first | omega | (simp; done) | (simp; omega))
              have hj2wr := fun o => hfwr (w.heap.size + 1 + 1) o (by first | omega | (simp; done) | (simp; omega))
              have hl2wr : w.heap.size + 1 + 1 < wr.heap.size := (by first | omega | (simp; done) | (simp; omega))
              obtain ⟨hcbwr, hfbwr, hzbwr⟩ := Ext.rules (show Ext w wr from (by repeat (first | exact Ext.refl _ | (refine Ext.alloc ?_ _) | (refine Ext.trans ?_ (by assumption)))))
              clear hcwr hfwr
              go_wp2
              go_ret
              refine ⟨ret_bool ?_, (by repeat (first | exact Ext.refl _ | (refine Ext.alloc ?_ _) | (refine Ext.trans ?_ (by assumption))))⟩; rw [H.out]; go_tidy; clear H; simp_all))
end Go.Proofs.YtfchchmmjabjnaaDoor
