/- The set of the years' names that the calendar's check keeps in a map: its key's law and what it holds. -/
import Derived.Test.YtfchchmmjabjnaaDoorW5
import Derived.Maps.Own
import Derived.Maps.Views
import Derived.DeepKeys4
namespace Go.Proofs.YtfchchmmjabjnaaDoor
open Go Go.RowKit
open Go.Maps

theorem named_row : (153 : TypeId) < Tryd.prog.types.size := of_decide_eq_true (by kernel_rfl)
theorem named_wide : (match Tryd.prog.underlying 153 with | some (.array _ _) | some (.struct _) => true | _ => false) = true := by kernel_rfl
theorem prog_laidOut : laidOutB Tryd.prog = true := by kernel_rfl
set_option maxRecDepth 100000 in
theorem named_law : Keyed Tryd.prog 153 := Keyed.of_law (Go.deep_law_laid prog_laidOut (m := 2) (by omega) named_row (by kernel_rfl) named_wide)
theorem named_map : Tryd.prog.underlying 151 = some (.map 153 4) := by kernel_rfl
theorem named_zero (w : World) : (zeroValue 4).run Tryd.prog w = .ok (.bool false) w := by kernel_rfl
theorem bool_under : Tryd.prog.underlying 4 = some .bool := by kernel_rfl
theorem int_under : Tryd.prog.underlying 3 = some (.int .i64) := by kernel_rfl
theorem string_under : Tryd.prog.underlying 9 = some .string := by kernel_rfl
def fsOf : Option TypeDesc → Array Field
  | some (.struct fs) => fs
  | _ => #[]
theorem named_under : Tryd.prog.underlying 153 = some (.struct (fsOf (Tryd.prog.underlying 153))) := by kernel_rfl
theorem named_fs : (fsOf (Tryd.prog.underlying 153)).toList.map (fun f => (f.type, f.offset)) = [(3, 0), (9, 1)] := by kernel_rfl
theorem named_names : (fsOf (Tryd.prog.underlying 153)).all (·.name != "_") = true := by kernel_rfl
theorem named_cells : Tryd.prog.cellsOf 153 = 2 := by kernel_rfl
theorem named_keyType : Tryd.prog.keyType 153 = true := by kernel_rfl
theorem types_size : ∃ m, Tryd.prog.types.size = m + 1 + 1 := by
  have h : (2 : Nat) ≤ Tryd.prog.types.size := Nat.le_trans (show (2 : Nat) ≤ 153 by decide) (Nat.le_of_lt named_row)
  exact ⟨Tryd.prog.types.size - 2, by omega⟩
/-- What the pair of a king's place and a name reads as. -/
def yrLit (k : Int) (nm : ByteArray) : Lit := .string (keyBytes [.int .i64 k, .string nm.data.toList])
theorem keyOf_named {k : Int} {nm : ByteArray} (hk : (Lit.int .i64 k).wf = true) (hn : nm.size ≤ maxLen) : keyOf Tryd.prog 153 (.agg #[.int .i64 k, .string nm]) = some (yrLit k nm) := by
  obtain ⟨m, hm⟩ := types_size
  have hf := named_fs
  have hN := named_names
  have hU := named_under
  generalize fsOf (Tryd.prog.underlying 153) = fs at hf hN hU
  obtain ⟨l⟩ := fs
  simp only [List.map_eq_cons_iff, List.map_eq_nil_iff] at hf
  obtain ⟨f0, _, rfl, e0, f1, _, rfl, e1, rfl⟩ := hf
  simp only [Prod.mk.injEq] at e0 e1
  unfold keyOf
  simp only [hU]
  rw [if_pos (by simp [named_keyType, Value.formed, hU, named_cells]), hm]
  unfold Program.keyLits
  simp only [hU, Value.cells]
  rw [if_pos ⟨by rw [named_cells]; rfl, hN⟩, List.mapM_cons, List.mapM_cons, List.mapM_nil]
  rw [e0.1, e0.2, e1.1, e1.2]
  have c3 : Tryd.prog.cellsOf 3 = 1 := by kernel_rfl
  have c9 : Tryd.prog.cellsOf 9 = 1 := by kernel_rfl
  simp [c3, c9, Program.keyLits, hk, hn, yrLit]

/-- What the map holds after the first n years. -/
def hadD {H : Type} (f : Nat → Yr) : Nat → DataW H
  | 0 => .map []
  | n + 1 => (hadD f n).put (yrLit (f n).k (f n).nm) (.lit (.bool true))
theorem hadD_isMap {H : Type} (f : Nat → Yr) : ∀ n, IsMap (hadD (H := H) f n)
  | 0 => isMap_empty
  | n + 1 => (hadD_isMap f n).put _ _
def KeyOk (y : Yr) : Prop := (Lit.int .i64 y.k).wf = true ∧ y.nm.size ≤ maxLen
theorem hadD_at {H : Type} {f : Nat → Yr} {y : Yr} (hy : KeyOk y) : ∀ n, (∀ j, j < n → KeyOk (f j)) → (hadD (H := H) f n).atKey (yrLit y.k y.nm) (.lit (.bool false)) = .lit (.bool (hadF f y n))
  | 0, _ => rfl
  | n + 1, h => by
    have ih := hadD_at (H := H) hy n (fun j hj => h j (by omega))
    have kf := keyOf_named (h n (by omega)).1 (h n (by omega)).2
    have ky := keyOf_named hy.1 hy.2
    have e : hadF f y (n + 1) = (hadF f y n || (f n).alike y) := by rw [hadF, hadF, List.range_succ, List.any_append]; simp
    rw [e]
    by_cases he : (f n).alike y = true
    · have h1 : (f n).k = y.k ∧ (f n).nm = y.nm := by simpa [Yr.alike] using he
      rw [he, Bool.or_true, hadD, h1.1, h1.2]
      exact atKey_put_same (hadD_isMap f n) (named_law.key ky) _ _
    · rw [Bool.not_eq_true] at he
      rw [he, Bool.or_false, ← ih, hadD]
      refine atKey_put_other (fun hl => ?_) _ _
      have h2 := named_law.inj ky (by rw [hl]; exact kf)
      simp at h2
      rw [Yr.alike, h2.1, h2.2] at he
      simp at he
/-- The lookup in the walk. -/
theorem had_look {H : Type} {w : World} {b m n : Nat} {f : Nat → Yr} {y : Yr} (hm : w.ownsMap Tryd.prog 153 (plainElem (H := H) Tryd.prog 4) b m (hadD f n)) (hy : KeyOk y) (hf : ∀ j, j < n → KeyOk (f j)) :
    (Instr.lookup 151 (.map (some b)) (.agg #[.int .i64 y.k, .string y.nm]) false).run Tryd.prog w = .ok (.bool (hadF f y n)) w := by
  obtain ⟨v, ps, hrun, hv⟩ := hm.lookup named_law named_map (named_zero w) (plainElem_bool bool_under false) (keyOf_named hy.1 hy.2)
  rw [hadD_at hy n hf] at hv
  rw [hrun]
  simp only [plainElem, bool_under] at hv
  split at hv <;> simp_all
end Go.Proofs.YtfchchmmjabjnaaDoor
