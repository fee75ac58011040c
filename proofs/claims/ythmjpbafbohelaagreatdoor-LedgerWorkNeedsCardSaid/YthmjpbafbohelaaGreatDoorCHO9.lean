/- Crews opened. -/
import Derived.Test.YthmjpbafbohelaaGreatDoorCHO8
import Derived.Test.YthmjpbafbohelaaGreatDoorH8
set_option maxRecDepth 100000
namespace Go.Proofs.YthmjpbafbohelaaGreatDoor
open Go Go.ChangeShapes Go.WideShapes Go.ChangeAt Go.RowKit Go.Deep
theorem cells_crew : Tryz.prog.cellsOf 99 = 11 := by kernel_rfl
section
variable {H : Type} {enc : TypeId × Value → H} {w : World} {base : Nat} {spare : Nat → Bool} {held : Bool} {r : Reach} {b0 : Nat} {v : Value} {d : DataW H} {p : List MemPlace}
theorem crew_cells {n : Nat} {cs : List Value} {x : DataW H × List MemPlace} (h : DataW.trod enc Tryz.prog w base spare held n 99 cs = some x) : ∃ y : Cw, cs = [.int .i64 y.w, .int .i64 y.s.n, .int .i64 y.s.d, .int .i64 y.f.y, .int .i64 y.f.m, .bool y.f.s, .int .i64 y.f.d, .int .i64 y.t.y, .int .i64 y.t.m, .bool y.t.s, .int .i64 y.t.d] ∧ y.s.In ∧ -9223372036854775808 ≤ y.w ∧ y.w ≤ 9223372036854775807 := by
 obtain ⟨xs, m, _, _, hlen, hxl, hf⟩ := DataW.trod_struct Tryz.underlying99 h
 rw [cells_crew] at hlen
 match cs, hlen with
 | [c0, c1, c2, c3, c4, c5, c6, c7, c8, c9, c10], _ =>
  obtain ⟨z, rfl, hz⟩ := int_cell (sub_read hxl (by decide) (hf 0 _ rfl) cells_int)
  obtain ⟨_, h0⟩ := sub_read hxl (by decide) (hf 1 _ rfl) cells_ratio
  obtain ⟨_, h1⟩ := sub_read hxl (by decide) (hf 2 _ rfl) cells_date
  obtain ⟨_, h2⟩ := sub_read hxl (by decide) (hf 3 _ rfl) cells_date
  obtain ⟨a, ha, hia⟩ := ratio_cells h0
  obtain ⟨b, hb⟩ := date_cells h1
  obtain ⟨c, hc⟩ := date_cells h2
  have ha' : [c1, c2] = [.int .i64 a.n, .int .i64 a.d] := ha
  have hb' : [c3, c4, c5, c6] = [.int .i64 b.y, .int .i64 b.m, .bool b.s, .int .i64 b.d] := hb
  have hc' : [c7, c8, c9, c10] = [.int .i64 c.y, .int .i64 c.m, .bool c.s, .int .i64 c.d] := hc
  simp only [List.cons.injEq] at ha' hb' hc'
  obtain ⟨rfl, rfl, _⟩ := ha'
  obtain ⟨rfl, rfl, rfl, rfl, _⟩ := hb'
  obtain ⟨rfl, rfl, rfl, rfl, _⟩ := hc'
  exact ⟨⟨z, a, b, c⟩, rfl, hia, hz.1, hz.2⟩
theorem crews_open (hv : Value.okWide Tryz.prog w r b0 68 v) (h : DataW.Trod enc Tryz.prog w base spare held 68 v d p) :
  ∃ (B : Option Addr) (n cap : Nat) (f : Nat → Cw), v = .slice B n cap ∧ RowsAt w B n 11 (crewr f) ∧ n ≤ cap ∧ cap ≤ maxLen ∧ ∀ i, i < n → (f i).s.In ∧ -9223372036854775808 ≤ (f i).w ∧ (f i).w ≤ 9223372036854775807 := by
 obtain ⟨a, len, cap, rfl⟩ := okWide_slice Tryz.underlying68 hv
 obtain ⟨n, h⟩ := h
 exact slice_rows (v := .slice a len cap) (f := fun y : Cw => [.int .i64 y.w, .int .i64 y.s.n, .int .i64 y.s.d, .int .i64 y.f.y, .int .i64 y.f.m, .bool y.f.s, .int .i64 y.f.d, .int .i64 y.t.y, .int .i64 y.t.m, .bool y.t.s, .int .i64 y.t.d]) (p := fun y => y.s.In ∧ -9223372036854775808 ≤ y.w ∧ y.w ≤ 9223372036854775807) ⟨0, ⟨0, 0⟩, ⟨0, 0, false, 0⟩, ⟨0, 0, false, 0⟩⟩ Tryz.underlying68 cells_crew (by decide) (fun _ => rfl) (fun n cs x hx => crew_cells hx) ⟨_, h⟩
end
end Go.Proofs.YthmjpbafbohelaaGreatDoor
