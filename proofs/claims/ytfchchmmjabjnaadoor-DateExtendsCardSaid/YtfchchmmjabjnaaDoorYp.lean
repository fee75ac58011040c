/- What Extend calls: double, doubled, the closure, IndexFunc, ContainsFunc, Clone. -/
import Derived.Test.YtfchchmmjabjnaaDoorY1
import Derived.Test.YtfchchmmjabjnaaDoorPlB
namespace Go.Proofs.YtfchchmmjabjnaaDoor
open Go Go.RowKit
attribute [local go_sem] gv_yes

theorem places {p : Nat} (h1 : 1 ≤ p) (h2 : p ≤ 19) : p = 1 ∨ p = 2 ∨ p = 3 ∨ p = 4 ∨ p = 5 ∨ p = 6 ∨ p = 7 ∨ p = 8 ∨ p = 9 ∨ p = 10 ∨ p = 11 ∨ p = 12 ∨ p = 13 ∨ p = 14 ∨ p = 15 ∨ p = 16 ∨ p = 17 ∨ p = 18 ∨ p = 19 := by omega
theorem double_any (p : Nat) (h1 : 1 ≤ p) (h2 : p ≤ 19) (w : World) : Calls Tryd.prog 114 #[.int .i64 (p : Int)] w fun e w' => e = .returned (.int .i64 (dbl p)) ∧ Ext w w' := by
  rcases places h1 h2 with rfl | rfl | rfl | rfl | rfl | rfl | rfl | rfl | rfl | rfl | rfl | rfl | rfl | rfl | rfl | rfl | rfl | rfl | rfl
  all_goals
    go_enter Tryd.func114, Tryd.ntmps114
    go_wp2
    go_ret
    exact ⟨rfl, (by repeat (first | exact Ext.refl _ | (refine Ext.alloc ?_ _) | (refine Ext.trans ?_ (by assumption))))⟩
set_option maxRecDepth 100000 in
set_option maxHeartbeats 4000000 in
theorem doubled_any (p : Nat) (h1 : 1 ≤ p) (h2 : p ≤ 19) (w : World) : Calls Tryd.prog 115 #[.int .i64 (p : Int)] w fun e w' => e = .returned (.int .i64 (dbl p)) ∧ Ext w w' := by
  rcases places h1 h2 with rfl | rfl | rfl | rfl | rfl | rfl | rfl | rfl | rfl | rfl | rfl | rfl | rfl | rfl | rfl | rfl | rfl | rfl | rfl
  · have hix : ∀ w, (Instr.index 165 (.agg #[.int .i64 0, .int .i64 0, .int .i64 12, .int .i64 0, .int .i64 0, .int .i64 12, .int .i64 0, .int .i64 12, .int .i64 0, .int .i64 0, .int .i64 12, .int .i64 0, .int .i64 0, .int .i64 12, .int .i64 0, .int .i64 0, .int .i64 6, .int .i64 0, .int .i64 12]) (.int .i64 0)).run Tryd.prog w = .ok (.int .i64 0) w := fun w => by kernel_rfl
    go_enter Tryd.func115, Tryd.ntmps115
    go_wp2
    go_ret
    exact ⟨rfl, (by repeat (first | exact Ext.refl _ | (refine Ext.alloc ?_ _) | (refine Ext.trans ?_ (by assumption))))⟩
  · have hix : ∀ w, (Instr.index 165 (.agg #[.int .i64 0, .int .i64 0, .int .i64 12, .int .i64 0, .int .i64 0, .int .i64 12, .int .i64 0, .int .i64 12, .int .i64 0, .int .i64 0, .int .i64 12, .int .i64 0, .int .i64 0, .int .i64 12, .int .i64 0, .int .i64 0, .int .i64 6, .int .i64 0, .int .i64 12]) (.int .i64 1)).run Tryd.prog w = .ok (.int .i64 0) w := fun w => by kernel_rfl
    go_enter Tryd.func115, Tryd.ntmps115
    go_wp2
    go_ret
    exact ⟨rfl, (by repeat (first | exact Ext.refl _ | (refine Ext.alloc ?_ _) | (refine Ext.trans ?_ (by assumption))))⟩
  · have hix : ∀ w, (Instr.index 165 (.agg #[.int .i64 0, .int .i64 0, .int .i64 12, .int .i64 0, .int .i64 0, .int .i64 12, .int .i64 0, .int .i64 12, .int .i64 0, .int .i64 0, .int .i64 12, .int .i64 0, .int .i64 0, .int .i64 12, .int .i64 0, .int .i64 0, .int .i64 6, .int .i64 0, .int .i64 12]) (.int .i64 2)).run Tryd.prog w = .ok (.int .i64 12) w := fun w => by kernel_rfl
    go_enter Tryd.func115, Tryd.ntmps115
    go_wp2
    go_ret
    exact ⟨rfl, (by repeat (first | exact Ext.refl _ | (refine Ext.alloc ?_ _) | (refine Ext.trans ?_ (by assumption))))⟩
  · have hix : ∀ w, (Instr.index 165 (.agg #[.int .i64 0, .int .i64 0, .int .i64 12, .int .i64 0, .int .i64 0, .int .i64 12, .int .i64 0, .int .i64 12, .int .i64 0, .int .i64 0, .int .i64 12, .int .i64 0, .int .i64 0, .int .i64 12, .int .i64 0, .int .i64 0, .int .i64 6, .int .i64 0, .int .i64 12]) (.int .i64 3)).run Tryd.prog w = .ok (.int .i64 0) w := fun w => by kernel_rfl
    go_enter Tryd.func115, Tryd.ntmps115
    go_wp2
    go_ret
    exact ⟨rfl, (by repeat (first | exact Ext.refl _ | (refine Ext.alloc ?_ _) | (refine Ext.trans ?_ (by assumption))))⟩
  · have hix : ∀ w, (Instr.index 165 (.agg #[.int .i64 0, .int .i64 0, .int .i64 12, .int .i64 0, .int .i64 0, .int .i64 12, .int .i64 0, .int .i64 12, .int .i64 0, .int .i64 0, .int .i64 12, .int .i64 0, .int .i64 0, .int .i64 12, .int .i64 0, .int .i64 0, .int .i64 6, .int .i64 0, .int .i64 12]) (.int .i64 4)).run Tryd.prog w = .ok (.int .i64 0) w := fun w => by kernel_rfl
    go_enter Tryd.func115, Tryd.ntmps115
    go_wp2
    go_ret
    exact ⟨rfl, (by repeat (first | exact Ext.refl _ | (refine Ext.alloc ?_ _) | (refine Ext.trans ?_ (by assumption))))⟩
  · have hix : ∀ w, (Instr.index 165 (.agg #[.int .i64 0, .int .i64 0, .int .i64 12, .int .i64 0, .int .i64 0, .int .i64 12, .int .i64 0, .int .i64 12, .int .i64 0, .int .i64 0, .int .i64 12, .int .i64 0, .int .i64 0, .int .i64 12, .int .i64 0, .int .i64 0, .int .i64 6, .int .i64 0, .int .i64 12]) (.int .i64 5)).run Tryd.prog w = .ok (.int .i64 12) w := fun w => by kernel_rfl
    go_enter Tryd.func115, Tryd.ntmps115
    go_wp2
    go_ret
    exact ⟨rfl, (by repeat (first | exact Ext.refl _ | (refine Ext.alloc ?_ _) | (refine Ext.trans ?_ (by assumption))))⟩
  · have hix : ∀ w, (Instr.index 165 (.agg #[.int .i64 0, .int .i64 0, .int .i64 12, .int .i64 0, .int .i64 0, .int .i64 12, .int .i64 0, .int .i64 12, .int .i64 0, .int .i64 0, .int .i64 12, .int .i64 0, .int .i64 0, .int .i64 12, .int .i64 0, .int .i64 0, .int .i64 6, .int .i64 0, .int .i64 12]) (.int .i64 6)).run Tryd.prog w = .ok (.int .i64 0) w := fun w => by kernel_rfl
    go_enter Tryd.func115, Tryd.ntmps115
    go_wp2
    go_ret
    exact ⟨rfl, (by repeat (first | exact Ext.refl _ | (refine Ext.alloc ?_ _) | (refine Ext.trans ?_ (by assumption))))⟩
  · have hix : ∀ w, (Instr.index 165 (.agg #[.int .i64 0, .int .i64 0, .int .i64 12, .int .i64 0, .int .i64 0, .int .i64 12, .int .i64 0, .int .i64 12, .int .i64 0, .int .i64 0, .int .i64 12, .int .i64 0, .int .i64 0, .int .i64 12, .int .i64 0, .int .i64 0, .int .i64 6, .int .i64 0, .int .i64 12]) (.int .i64 7)).run Tryd.prog w = .ok (.int .i64 12) w := fun w => by kernel_rfl
    go_enter Tryd.func115, Tryd.ntmps115
    go_wp2
    go_ret
    exact ⟨rfl, (by repeat (first | exact Ext.refl _ | (refine Ext.alloc ?_ _) | (refine Ext.trans ?_ (by assumption))))⟩
  · have hix : ∀ w, (Instr.index 165 (.agg #[.int .i64 0, .int .i64 0, .int .i64 12, .int .i64 0, .int .i64 0, .int .i64 12, .int .i64 0, .int .i64 12, .int .i64 0, .int .i64 0, .int .i64 12, .int .i64 0, .int .i64 0, .int .i64 12, .int .i64 0, .int .i64 0, .int .i64 6, .int .i64 0, .int .i64 12]) (.int .i64 8)).run Tryd.prog w = .ok (.int .i64 0) w := fun w => by kernel_rfl
    go_enter Tryd.func115, Tryd.ntmps115
    go_wp2
    go_ret
    exact ⟨rfl, (by repeat (first | exact Ext.refl _ | (refine Ext.alloc ?_ _) | (refine Ext.trans ?_ (by assumption))))⟩
  · have hix : ∀ w, (Instr.index 165 (.agg #[.int .i64 0, .int .i64 0, .int .i64 12, .int .i64 0, .int .i64 0, .int .i64 12, .int .i64 0, .int .i64 12, .int .i64 0, .int .i64 0, .int .i64 12, .int .i64 0, .int .i64 0, .int .i64 12, .int .i64 0, .int .i64 0, .int .i64 6, .int .i64 0, .int .i64 12]) (.int .i64 9)).run Tryd.prog w = .ok (.int .i64 0) w := fun w => by kernel_rfl
    go_enter Tryd.func115, Tryd.ntmps115
    go_wp2
    go_ret
    exact ⟨rfl, (by repeat (first | exact Ext.refl _ | (refine Ext.alloc ?_ _) | (refine Ext.trans ?_ (by assumption))))⟩
  · have hix : ∀ w, (Instr.index 165 (.agg #[.int .i64 0, .int .i64 0, .int .i64 12, .int .i64 0, .int .i64 0, .int .i64 12, .int .i64 0, .int .i64 12, .int .i64 0, .int .i64 0, .int .i64 12, .int .i64 0, .int .i64 0, .int .i64 12, .int .i64 0, .int .i64 0, .int .i64 6, .int .i64 0, .int .i64 12]) (.int .i64 10)).run Tryd.prog w = .ok (.int .i64 12) w := fun w => by kernel_rfl
    go_enter Tryd.func115, Tryd.ntmps115
    go_wp2
    go_ret
    exact ⟨rfl, (by repeat (first | exact Ext.refl _ | (refine Ext.alloc ?_ _) | (refine Ext.trans ?_ (by assumption))))⟩
  · have hix : ∀ w, (Instr.index 165 (.agg #[.int .i64 0, .int .i64 0, .int .i64 12, .int .i64 0, .int .i64 0, .int .i64 12, .int .i64 0, .int .i64 12, .int .i64 0, .int .i64 0, .int .i64 12, .int .i64 0, .int .i64 0, .int .i64 12, .int .i64 0, .int .i64 0, .int .i64 6, .int .i64 0, .int .i64 12]) (.int .i64 11)).run Tryd.prog w = .ok (.int .i64 0) w := fun w => by kernel_rfl
    go_enter Tryd.func115, Tryd.ntmps115
    go_wp2
    go_ret
    exact ⟨rfl, (by repeat (first | exact Ext.refl _ | (refine Ext.alloc ?_ _) | (refine Ext.trans ?_ (by assumption))))⟩
  · have hix : ∀ w, (Instr.index 165 (.agg #[.int .i64 0, .int .i64 0, .int .i64 12, .int .i64 0, .int .i64 0, .int .i64 12, .int .i64 0, .int .i64 12, .int .i64 0, .int .i64 0, .int .i64 12, .int .i64 0, .int .i64 0, .int .i64 12, .int .i64 0, .int .i64 0, .int .i64 6, .int .i64 0, .int .i64 12]) (.int .i64 12)).run Tryd.prog w = .ok (.int .i64 0) w := fun w => by kernel_rfl
    go_enter Tryd.func115, Tryd.ntmps115
    go_wp2
    go_ret
    exact ⟨rfl, (by repeat (first | exact Ext.refl _ | (refine Ext.alloc ?_ _) | (refine Ext.trans ?_ (by assumption))))⟩
  · have hix : ∀ w, (Instr.index 165 (.agg #[.int .i64 0, .int .i64 0, .int .i64 12, .int .i64 0, .int .i64 0, .int .i64 12, .int .i64 0, .int .i64 12, .int .i64 0, .int .i64 0, .int .i64 12, .int .i64 0, .int .i64 0, .int .i64 12, .int .i64 0, .int .i64 0, .int .i64 6, .int .i64 0, .int .i64 12]) (.int .i64 13)).run Tryd.prog w = .ok (.int .i64 12) w := fun w => by kernel_rfl
    go_enter Tryd.func115, Tryd.ntmps115
    go_wp2
    go_ret
    exact ⟨rfl, (by repeat (first | exact Ext.refl _ | (refine Ext.alloc ?_ _) | (refine Ext.trans ?_ (by assumption))))⟩
  · have hix : ∀ w, (Instr.index 165 (.agg #[.int .i64 0, .int .i64 0, .int .i64 12, .int .i64 0, .int .i64 0, .int .i64 12, .int .i64 0, .int .i64 12, .int .i64 0, .int .i64 0, .int .i64 12, .int .i64 0, .int .i64 0, .int .i64 12, .int .i64 0, .int .i64 0, .int .i64 6, .int .i64 0, .int .i64 12]) (.int .i64 14)).run Tryd.prog w = .ok (.int .i64 0) w := fun w => by kernel_rfl
    go_enter Tryd.func115, Tryd.ntmps115
    go_wp2
    go_ret
    exact ⟨rfl, (by repeat (first | exact Ext.refl _ | (refine Ext.alloc ?_ _) | (refine Ext.trans ?_ (by assumption))))⟩
  · have hix : ∀ w, (Instr.index 165 (.agg #[.int .i64 0, .int .i64 0, .int .i64 12, .int .i64 0, .int .i64 0, .int .i64 12, .int .i64 0, .int .i64 12, .int .i64 0, .int .i64 0, .int .i64 12, .int .i64 0, .int .i64 0, .int .i64 12, .int .i64 0, .int .i64 0, .int .i64 6, .int .i64 0, .int .i64 12]) (.int .i64 15)).run Tryd.prog w = .ok (.int .i64 0) w := fun w => by kernel_rfl
    go_enter Tryd.func115, Tryd.ntmps115
    go_wp2
    go_ret
    exact ⟨rfl, (by repeat (first | exact Ext.refl _ | (refine Ext.alloc ?_ _) | (refine Ext.trans ?_ (by assumption))))⟩
  · have hix : ∀ w, (Instr.index 165 (.agg #[.int .i64 0, .int .i64 0, .int .i64 12, .int .i64 0, .int .i64 0, .int .i64 12, .int .i64 0, .int .i64 12, .int .i64 0, .int .i64 0, .int .i64 12, .int .i64 0, .int .i64 0, .int .i64 12, .int .i64 0, .int .i64 0, .int .i64 6, .int .i64 0, .int .i64 12]) (.int .i64 16)).run Tryd.prog w = .ok (.int .i64 6) w := fun w => by kernel_rfl
    go_enter Tryd.func115, Tryd.ntmps115
    go_wp2
    go_ret
    exact ⟨rfl, (by repeat (first | exact Ext.refl _ | (refine Ext.alloc ?_ _) | (refine Ext.trans ?_ (by assumption))))⟩
  · have hix : ∀ w, (Instr.index 165 (.agg #[.int .i64 0, .int .i64 0, .int .i64 12, .int .i64 0, .int .i64 0, .int .i64 12, .int .i64 0, .int .i64 12, .int .i64 0, .int .i64 0, .int .i64 12, .int .i64 0, .int .i64 0, .int .i64 12, .int .i64 0, .int .i64 0, .int .i64 6, .int .i64 0, .int .i64 12]) (.int .i64 17)).run Tryd.prog w = .ok (.int .i64 0) w := fun w => by kernel_rfl
    go_enter Tryd.func115, Tryd.ntmps115
    go_wp2
    go_ret
    exact ⟨rfl, (by repeat (first | exact Ext.refl _ | (refine Ext.alloc ?_ _) | (refine Ext.trans ?_ (by assumption))))⟩
  · have hix : ∀ w, (Instr.index 165 (.agg #[.int .i64 0, .int .i64 0, .int .i64 12, .int .i64 0, .int .i64 0, .int .i64 12, .int .i64 0, .int .i64 12, .int .i64 0, .int .i64 0, .int .i64 12, .int .i64 0, .int .i64 0, .int .i64 12, .int .i64 0, .int .i64 0, .int .i64 6, .int .i64 0, .int .i64 12]) (.int .i64 18)).run Tryd.prog w = .ok (.int .i64 12) w := fun w => by kernel_rfl
    go_enter Tryd.func115, Tryd.ntmps115
    go_wp2
    go_ret
    exact ⟨rfl, (by repeat (first | exact Ext.refl _ | (refine Ext.alloc ?_ _) | (refine Ext.trans ?_ (by assumption))))⟩
/-- The closure: has a year the king and the name? -/
def isYr (K : Int) (s : ByteArray) (y : Yr) : Bool := decide (y.k = K) && decide (y.nm = s)
set_option maxRecDepth 100000 in
set_option maxHeartbeats 4000000 in
theorem same_king_any (y : Yr) (K : Int) (s : ByteArray) (bk bs : Nat) (w : World) (hk : w.cell? ⟨bk, 0, none⟩ = some (.int .i64 K)) (hs : w.cell? ⟨bs, 0, none⟩ = some (.string s)) (hk' : bk < w.heap.size) (hs' : bs < w.heap.size) :
    Calls Tryd.prog 113 #[.agg #[.int .i64 y.k, .string y.nm, .int .i64 y.lg, .int .i64 y.db], .pointer (some ⟨bk, 0, none⟩), .pointer (some ⟨bs, 0, none⟩)] w fun e w' => e = .returned (.bool (isYr K s y)) ∧ Ext w w' := by
  have hR : Hid (isYr K s y = ((y.k == K) && (y.nm.toList == s.toList))) := by
    unfold Hid isYr
    rw [same_eq]; rfl
  generalize isYr K s y = r at *
  generalize h1 : (y.k == K) = e1 at *
  generalize h2 : (y.nm.toList == s.toList) = e2 at *
  cases e1 <;> cases e2
  all_goals
    go_enter Tryd.func113, Tryd.ntmps113
    go_upto_region 1 with (fail)
    obtain ⟨v, hv⟩ : ∃ x, x = w.alloc (.cells #[.int .i64 y.k, .string y.nm, .int .i64 y.lg, .int .i64 y.db] 99) := ⟨_, rfl⟩
    rw [← hv]
    have E : Ext w v := by rw [hv]; exact (Ext.refl _).alloc _
    have B1 : Held v w.heap.size 99 #[.int .i64 y.k, .string y.nm, .int .i64 y.lg, .int .i64 y.db] := by rw [hv]; exact Held.new _ _ _
    have hk2 : v.cell? ⟨bk, 0, none⟩ = some (.int .i64 K) := (E.cell (p := ⟨bk, 0, none⟩) hk').trans hk
    have hs2 : v.cell? ⟨bs, 0, none⟩ = some (.string s) := (E.cell (p := ⟨bs, 0, none⟩) hs').trans hs
    clear hv
    obtain ⟨k0, k1, k2, k3⟩ := B1.c4
    go_wp2
    go_ret
    exact ⟨by rw [hR.out]; rfl, E⟩
set_option maxRecDepth 100000 in
set_option maxHeartbeats 4000000 in
theorem index_any (A : Option Addr) (n cap : Nat) (f : Nat → Yr) (K : Int) (s : ByteArray) (bk bs : Nat) (w : World) (hA : RowsAt w A n 4 (fun i => (f i).cells)) (hn : n ≤ 9223372036854775807) (hk : w.cell? ⟨bk, 0, none⟩ = some (.int .i64 K)) (hs : w.cell? ⟨bs, 0, none⟩ = some (.string s)) (hk' : bk < w.heap.size) (hs' : bs < w.heap.size) :
    Calls Tryd.prog 128 #[.slice A n cap, .func (.func 113) #[] #[.pointer (some ⟨bk, 0, none⟩), .pointer (some ⟨bs, 0, none⟩)]] w fun e w' => ∃ r : Int, e = .returned (.int .i64 r) ∧ decide (0 ≤ r) = ((List.range n).any fun j => isYr K s (f j)) ∧ Ext w w' := by
  go_enter Tryd.func128, Tryd.ntmps128
  go_wp2
  go_loopw [8] (fun iv wr => ∃ k : Nat, k ≤ n ∧ iv = .int .i64 (k : Int) ∧ Hid (∀ j, j < k → isYr K s (f j) = false) ∧ Ext w wr) (fun iv _ => n - (intOf iv).toNat)
  case atStart => exact ⟨0, Nat.zero_le _, rfl, fun j h => absurd h (by omega), Ext.refl _⟩
  case round =>
    obtain ⟨k, hk0, rfl, hno, hE⟩ := hrel
    obtain ⟨wo, rfl⟩ : ∃ wo : World, wo = wr := ⟨_, rfl⟩
    by_cases hlt : k < n
    · obtain ⟨b, off, hAA, hb, hc⟩ := (hA.ext hE) (by omega)
      subst hAA
      have c0 : wo.cell? ⟨b, off + k * 4, none⟩ = some (.int .i64 (f k).k) := by simpa using hc k 0 _ hlt rfl
      have c1 : wo.cell? ⟨b, off + k * 4 + 1, none⟩ = some (.string (f k).nm) := hc k 1 _ hlt rfl
      have c2 : wo.cell? ⟨b, off + k * 4 + 2, none⟩ = some (.int .i64 (f k).lg) := hc k 2 _ hlt rfl
      have c3 : wo.cell? ⟨b, off + k * 4 + 3, none⟩ = some (.int .i64 (f k).db) := hc k 3 _ hlt rfl
      have NP := same_king_any (f k) K s bk bs wo ((hE.cell (p := ⟨bk, 0, none⟩) hk').trans hk) ((hE.cell (p := ⟨bs, 0, none⟩) hs').trans hs) (Nat.lt_of_lt_of_le hk' hE.size) (Nat.lt_of_lt_of_le hs' hE.size)
      clear hc hA
      generalize hq : isYr K s (f k) = q at *
      have HQ := Lib.hid hq
      clear hq
      cases q
      · go_wp2_with (first | (go_at_call 113; (with_reducible refine Calls.mono (NP) ?_); rintro e w4 ⟨rfl, h⟩) | (go_at_fn 113; (with_reducible refine Calls.mono (NP) ?_); rintro e w4 ⟨rfl, h⟩))
        exact ⟨⟨k + 1, by omega, by go_num, fun j hj => by
          by_cases e : j = k
          · subst e; exact HQ.out
          · exact hno.out j (by omega), hE.trans h⟩, by simp [intOf]; omega⟩
      · go_wp2_with (first | (go_at_call 113; (with_reducible refine Calls.mono (NP) ?_); rintro e w4 ⟨rfl, h⟩) | (go_at_fn 113; (with_reducible refine Calls.mono (NP) ?_); rintro e w4 ⟨rfl, h⟩))
        go_ret
        exact ⟨_, rfl, by rw [decide_eq_true (by omega)]; exact (List.any_eq_true.2 ⟨k, by simpa using hlt, HQ.out⟩).symm, hE.trans h⟩
    · obtain rfl : k = n := by omega
      go_wp2
      go_ret
      exact ⟨_, rfl, by rw [decide_eq_false (by omega)]; exact (List.any_eq_false.2 (fun j hj => by have := hno.out j (by simpa using hj); simp [this])).symm, hE⟩
theorem contains_any (A : Option Addr) (n cap : Nat) (f : Nat → Yr) (K : Int) (s : ByteArray) (bk bs : Nat) (w : World) (hA : RowsAt w A n 4 (fun i => (f i).cells)) (hn : n ≤ 9223372036854775807) (hk : w.cell? ⟨bk, 0, none⟩ = some (.int .i64 K)) (hs : w.cell? ⟨bs, 0, none⟩ = some (.string s)) (hk' : bk < w.heap.size) (hs' : bs < w.heap.size) :
    Calls Tryd.prog 112 #[.slice A n cap, .func (.func 113) #[] #[.pointer (some ⟨bk, 0, none⟩), .pointer (some ⟨bs, 0, none⟩)]] w fun e w' => e = .returned (.bool ((List.range n).any fun j => isYr K s (f j))) ∧ Ext w w' := by
  have NI := index_any A n cap f K s bk bs w hA hn hk hs hk' hs'
  go_enter Tryd.func112, Tryd.ntmps112
  go_wp2_with (go_at_call 128; (with_reducible refine Calls.mono (NI) ?_); rintro e w4 ⟨r, rfl, hr, h⟩)
  go_ret
  exact ⟨by rw [← hr]; rfl, h⟩
set_option maxRecDepth 100000 in
set_option maxHeartbeats 4000000 in
theorem cloneYears_any (A : Option Addr) (n cap : Nat) (f : Nat → Yr) (w : World) (hA : RowsAt w A n 4 (fun i => (f i).cells)) (hnil : A = none → n = 0 ∧ cap = 0) (hn : n * 40 ≤ 140737488351232) :
    Calls Tryd.prog 110 #[.slice A n cap] w fun e w' => ∃ v, e = .returned v ∧ Ext w w' ∧ w'.ownsRow w.heap.size 99 4 v n (flatL (fun i => (f i).cells) n) := by
  have q23 : ∀ (w : World) (a : Option Addr) (n c n' c' : Nat), (binOp .eql 23 (.slice a n c) (.slice none n' c')).run Tryd.prog w = .ok (.bool a.isNone) w := fun w a n c n' c' => Lib.run_eql_slice_nil w _ _ a n c n' c' Tryd.underlying23
  cases A with
  | none =>
    obtain ⟨rfl, rfl⟩ := hnil rfl
    go_enter Tryd.func110, Tryd.ntmps110
    go_wp2
    go_ret
    exact ⟨_, rfl, Ext.refl _, World.ownsRow_nil _ _ _ _⟩
  | some a =>
    obtain ⟨i0, hi, hz0, hz1, hz2⟩ := info_parts info_year
    have hlen := flatL_len (f := fun i => (f i).cells) (sz := 4) (fun _ => rfl) n
    have hone : ∀ u ∈ flatL (fun i => (f i).cells) n, u.oneCell' = true := flat_one (f := fun i => (f i).cells) (n := n) (fun i u hu => by simp [Yr.cells] at hu; rcases hu with rfl | rfl | rfl | rfl <;> simp [Value.oneCell'])
    have HN := fun v (h : RowsAt v (some a) n 4 (fun i => (f i).cells)) => flat_news (f := fun i => (f i).cells) (sz := 4) (fun _ => rfl) (by decide) h
    go_enter Tryd.func110, Tryd.ntmps110
    go_wp2_with (at_builtin; refine wpList_append_own _ rfl _ _ 23 rfl w.heap.size 99 i0 (.agg #[.int .i64 0, .string ⟨#[]⟩, .int .i64 0, .int .i64 0]) 4 40 Tryd.underlying23 hi hz0 hz1 hz2 rfl (by decide) _ _ _ rfl (World.ownsRow_made w #[] 0 (Nat.le_refl _) (Nat.zero_le _) rfl) a n cap (flatL (fun i => (f i).cells) n) rfl hlen (HN _ (hA.ext ((Ext.refl _).alloc _)) a rfl) hone (by unfold maxLen; omega) (by omega) (by simp) ?_; intro v' w1 hown hgrow hnil2)
    go_ret
    refine ⟨v', rfl, ((Ext.refl w).alloc _).grown hgrow (fun q hq => by have h : some w.heap.size = some q := hq; cases h; exact Nat.le_refl _), by simpa using hown⟩
theorem cloneTexts_any (A : Option Addr) (n cap : Nat) (g : Nat → ByteArray) (w : World) (hA : RowsAt w A n 1 (strRow g)) (hnil : A = none → n = 0 ∧ cap = 0) (hn : n * 16 ≤ 140737488351232) :
    Calls Tryd.prog 109 #[.slice A n cap] w fun e w' => ∃ v, e = .returned v ∧ Ext w w' ∧ w'.ownsRow w.heap.size 9 1 v n (flatL (strRow g) n) := by
  have q22 : ∀ (w : World) (a : Option Addr) (n c n' c' : Nat), (binOp .eql 22 (.slice a n c) (.slice none n' c')).run Tryd.prog w = .ok (.bool a.isNone) w := fun w a n c n' c' => Lib.run_eql_slice_nil w _ _ a n c n' c' Tryd.underlying22
  cases A with
  | none =>
    obtain ⟨rfl, rfl⟩ := hnil rfl
    go_enter Tryd.func109, Tryd.ntmps109
    go_wp2
    go_ret
    exact ⟨_, rfl, Ext.refl _, World.ownsRow_nil _ _ _ _⟩
  | some a =>
    obtain ⟨i0, hi, hz0, hz1, hz2⟩ := info_parts info_str
    have hlen := flatL_len (f := strRow g) (sz := 1) (fun _ => rfl) n
    have hone : ∀ u ∈ flatL (strRow g) n, u.oneCell' = true := flat_one (f := strRow g) (n := n) (fun i u hu => by simp [strRow] at hu; subst hu; simp [Value.oneCell'])
    have HN := fun v (h : RowsAt v (some a) n 1 (strRow g)) => flat_news (f := strRow g) (sz := 1) (fun _ => rfl) (by decide) h
    go_enter Tryd.func109, Tryd.ntmps109
    go_wp2_with (at_builtin; refine wpList_append_own _ rfl _ _ 22 rfl w.heap.size 9 i0 (.string ⟨#[]⟩) 1 16 Tryd.underlying22 hi hz0 hz1 hz2 rfl (by decide) _ _ _ rfl (World.ownsRow_made w #[] 0 (Nat.le_refl _) (Nat.zero_le _) rfl) a n cap (flatL (strRow g) n) rfl hlen (HN _ (hA.ext ((Ext.refl _).alloc _)) a rfl) hone (by unfold maxLen; omega) (by omega) (by simp) ?_; intro v' w1 hown hgrow hnil2)
    go_ret
    refine ⟨v', rfl, ((Ext.refl w).alloc _).grown hgrow (fun q hq => by have h : some w.heap.size = some q := hq; cases h; exact Nat.le_refl _), by simpa using hown⟩
end Go.Proofs.YtfchchmmjabjnaaDoor
