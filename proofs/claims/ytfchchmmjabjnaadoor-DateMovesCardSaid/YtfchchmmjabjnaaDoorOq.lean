/- More arguments opened: an integer, a string, slices of traces and of integers, two integers, a trace and a place; no conditions but those that each lemma states. -/
import Derived.Test.YtfchchmmjabjnaaDoorOp
set_option maxRecDepth 100000
namespace Go.Proofs.YtfchchmmjabjnaaDoor
open Go Go.ChangeShapes Go.WideShapes Go.ChangeAt Go.RowKit Go.Deep
section
variable {H : Type} {enc : TypeId × Value → H} {w : World} {base : Nat} {spare : Nat → Bool} {held : Bool} {r : Reach} {b0 : Nat} {v : Value} {d : DataW H} {p : List MemPlace}
theorem int_open (hv : Value.okWide Tryd.prog w r b0 3 v) (h : DataW.Trod enc Tryd.prog w base spare held 3 v d p) : ∃ z : Int, v = .int .i64 z ∧ -9223372036854775808 ≤ z ∧ z ≤ 9223372036854775807 := by
  obtain ⟨z, rfl⟩ := okWide_int Tryd.underlying3 hv
  obtain ⟨n, h⟩ := h
  obtain ⟨z', e, h1⟩ := int_cell (v := .int .i64 z) ⟨_, h⟩
  cases e
  exact ⟨z, rfl, h1⟩
theorem string_open (hv : Value.okWide Tryd.prog w r b0 9 v) (h : DataW.Trod enc Tryd.prog w base spare held 9 v d p) : ∃ s : ByteArray, v = .string s ∧ s.size ≤ maxLen := by
  obtain ⟨s, rfl⟩ := okWide_string Tryd.underlying9 hv
  obtain ⟨n, h⟩ := h
  obtain ⟨s', e, h1⟩ := string_cell (v := .string s) ⟨_, h⟩
  cases e
  exact ⟨s, rfl, h1⟩
theorem traces_open (hv : Value.okWide Tryd.prog w r b0 26 v) (h : DataW.Trod enc Tryd.prog w base spare held 26 v d p) :
    ∃ (B : Option Addr) (n cap : Nat) (f : Nat → Tr), v = .slice B n cap ∧ RowsAt w B n 7 (fun i => (f i).cells) ∧ n ≤ cap ∧ cap ≤ maxLen := by
  obtain ⟨a, len, cap, rfl⟩ := okWide_slice Tryd.underlying26 hv
  obtain ⟨n, h⟩ := h
  obtain ⟨B, n', cap', f, h1, h2, h3, h4, _⟩ := slice_rows (v := .slice a len cap) (f := fun t : Tr => t.cells) (p := fun t => t.nm.size ≤ maxLen ∧ t.kg.size ≤ maxLen) ⟨0, false, 0, false, ByteArray.empty, 0, ByteArray.empty⟩ Tryd.underlying26 cells_trace (by decide) (fun _ => rfl) (fun n cs x hx => trace_cells hx) ⟨_, h⟩
  exact ⟨B, n', cap', f, h1, h2, h3, h4⟩
theorem ints_open (hv : Value.okWide Tryd.prog w r b0 63 v) (h : DataW.Trod enc Tryd.prog w base spare held 63 v d p) :
    ∃ (B : Option Addr) (n cap : Nat) (f : Nat → Int), v = .slice B n cap ∧ RowsAt w B n 1 (fun i => [.int .i64 (f i)]) ∧ n ≤ cap ∧ cap ≤ maxLen ∧ ∀ i, i < n → -9223372036854775808 ≤ f i ∧ f i ≤ 9223372036854775807 := by
  obtain ⟨a, len, cap, rfl⟩ := okWide_slice Tryd.underlying63 hv
  obtain ⟨n, h⟩ := h
  exact slice_rows (v := .slice a len cap) (f := fun z : Int => [.int .i64 z]) (p := fun z => -9223372036854775808 ≤ z ∧ z ≤ 9223372036854775807) 0 Tryd.underlying63 cells_int (by decide) (fun _ => rfl) (fun n cs x hx => by
    obtain ⟨z, e, _, _⟩ := DataW.trod_int Tryd.underlying3 hx
    subst e
    obtain ⟨z', e, h1⟩ := int_cell (v := .int .i64 z) ⟨_, hx⟩
    cases e
    exact ⟨z, rfl, h1⟩) ⟨_, h⟩
theorem arr_open (hv : Value.okWide Tryd.prog w r b0 47 v) (h : DataW.Trod enc Tryd.prog w base spare held 47 v d p) :
    ∃ x y : Int, v = .agg #[.int .i64 x, .int .i64 y] ∧ (-9223372036854775808 ≤ x ∧ x ≤ 9223372036854775807) ∧ -9223372036854775808 ≤ y ∧ y ≤ 9223372036854775807 := by
  have hc : ∃ cs, v = .agg cs ∧ cs.size = 2 := by
    simp only [Value.okWide, Tryd.underlying47] at hv
    obtain ⟨cs, h1, h2, _⟩ := hv
    exact ⟨cs, h1, h2.trans (by kernel_rfl)⟩
  obtain ⟨cs, rfl, hsz⟩ := hc
  obtain ⟨fuel, hf⟩ := h
  obtain ⟨xs, m, _, _, _, hxl, hf⟩ := DataW.trod_array Tryd.underlying47 hf
  obtain ⟨cs⟩ := cs
  match cs, hsz with
  | [a, b], _ =>
    have e0 := hf 0 (by decide)
    have e1 := hf 1 (by decide)
    rw [cells_int] at e0 e1
    rw [List.getElem?_eq_getElem (by omega)] at e0 e1
    obtain ⟨x, rfl, hx⟩ := int_cell ⟨_, e0⟩
    obtain ⟨y, rfl, hy⟩ := int_cell ⟨_, e1⟩
    exact ⟨x, y, rfl, hx, hy⟩
theorem added_open (hv : Value.okWide Tryd.prog w r b0 55 v) (h : DataW.Trod enc Tryd.prog w base spare held 55 v d p) :
    ∃ (t : Tr) (k : Int), v = .agg #[.int .i64 t.d, .bool t.more, .int .i64 t.m, .bool t.s, .string t.nm, .int .i64 t.af, .string t.kg, .int .i64 k] ∧ -9223372036854775808 ≤ k ∧ k ≤ 9223372036854775807 := by
  obtain ⟨cs, rfl, hsz⟩ := okWide_struct Tryd.underlying55 hv
  obtain ⟨fuel, hf⟩ := h
  obtain ⟨xs, m, _, _, hlen, hxl, hf⟩ := DataW.trod_struct Tryd.underlying55 hf
  obtain ⟨cs⟩ := cs
  have e8 : Tryd.prog.cellsOf 55 = 8 := by kernel_rfl
  rw [e8] at hsz
  match cs, hsz with
  | [c0, c1, c2, c3, c4, c5, c6, c7], _ =>
    obtain ⟨_, h0⟩ := sub_read hxl (by decide) (hf 0 _ rfl) cells_trace
    obtain ⟨t, ht, _⟩ := trace_cells h0
    obtain ⟨k, hk, h1⟩ := int_cell (sub_read hxl (by decide) (hf 1 _ rfl) cells_int)
    have ht' : [c0, c1, c2, c3, c4, c5, c6] = t.cells := ht
    simp only [Tr.cells, List.cons.injEq] at ht'
    obtain ⟨rfl, rfl, rfl, rfl, rfl, rfl, rfl, _⟩ := ht'
    subst hk
    exact ⟨t, k, rfl, h1⟩
end
end Go.Proofs.YtfchchmmjabjnaaDoor
