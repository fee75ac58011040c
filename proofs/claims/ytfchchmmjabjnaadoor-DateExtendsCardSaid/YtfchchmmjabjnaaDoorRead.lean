/- How calendars, dates and traces lie in memory, and what the walk is told of them. -/
import Derived.Test.YtfchchmmjabjnaaDoorProg
import Derived.Test.YtfchchmmjabjnaaDoorKit
import Derived.Test.YtfchchmmjabjnaaDoorPure
namespace Go.Proofs.YtfchchmmjabjnaaDoor
open Go Go.RowKit

def Yr.cells (y : Yr) : List Value := [.int .i64 y.k, .string y.nm, .int .i64 y.lg, .int .i64 y.db]
def Sp.cells (s : Sp) : List Value := [.int .i64 s.a, .int .i64 s.b]
def Tr.cells (t : Tr) : List Value := [.int .i64 t.d, .bool t.more, .int .i64 t.m, .bool t.s, .string t.nm, .int .i64 t.af, .string t.kg]

/-- The calendar c lies in w: its kings at A, its years at A'. -/
structure CalAt (w : World) (A : Option Addr) (ca : Nat) (A' : Option Addr) (cb : Nat) (c : Cal) : Prop where
  kings : RowsAt w A c.nk 1 (fun i => [.string (c.kg i)])
  years : RowsAt w A' c.ny 4 (fun i => (c.yr i).cells)
  nk_le : c.nk ≤ 9223372036854775807
  ny_le : c.ny ≤ 9223372036854775807
  nk_cap : c.nk ≤ ca
  ny_cap : c.ny ≤ cb

theorem CalAt.ext {w w' : World} {A A' : Option Addr} {ca cb : Nat} {c : Cal} (h : CalAt w A ca A' cb c) (e : Ext w w') : CalAt w' A ca A' cb c := ⟨h.kings.ext e, h.years.ext e, h.nk_le, h.ny_le, h.nk_cap, h.ny_cap⟩
theorem CalAt.alloc {w : World} {A A' : Option Addr} {ca cb : Nat} {c : Cal} (h : CalAt w A ca A' cb c) (o : Obj) : CalAt (w.alloc o) A ca A' cb c := h.ext ((Ext.refl w).alloc o)
theorem CalAt.king {w : World} {A A' : Option Addr} {ca cb : Nat} {c : Cal} (h : CalAt w A ca A' cb c) {i : Nat} (hi : i < c.nk) :
    ∃ b off, A = some ⟨b, off, none⟩ ∧ b < w.heap.size ∧ w.cell? ⟨b, off + i, none⟩ = some (.string (c.kg i)) := by
  obtain ⟨b, off, hA, hb, hc⟩ := h.kings (by omega)
  exact ⟨b, off, hA, hb, by simpa using hc i 0 _ hi rfl⟩
theorem CalAt.year {w : World} {A A' : Option Addr} {ca cb : Nat} {c : Cal} (h : CalAt w A ca A' cb c) {i : Nat} (hi : i < c.ny) :
    ∃ b off, A' = some ⟨b, off, none⟩ ∧ b < w.heap.size ∧ w.cell? ⟨b, off + i * 4, none⟩ = some (.int .i64 (c.yr i).k) ∧ w.cell? ⟨b, off + i * 4 + 1, none⟩ = some (.string (c.yr i).nm) ∧
      w.cell? ⟨b, off + i * 4 + 2, none⟩ = some (.int .i64 (c.yr i).lg) ∧ w.cell? ⟨b, off + i * 4 + 3, none⟩ = some (.int .i64 (c.yr i).db) := by
  obtain ⟨b, off, hA, hb, hc⟩ := h.years (by omega)
  exact ⟨b, off, hA, hb, by simpa using hc i 0 _ hi rfl, hc i 1 _ hi rfl, hc i 2 _ hi rfl, hc i 3 _ hi rfl⟩
/-- The same at an index that is an int. -/
theorem CalAt.yearI {w : World} {A A' : Option Addr} {ca cb : Nat} {c : Cal} (h : CalAt w A ca A' cb c) {y : Int} (h0 : 0 ≤ y) (h1 : y < c.ny) :
    ∃ b off, A' = some ⟨b, off, none⟩ ∧ b < w.heap.size ∧ w.cell? ⟨b, off + y.toNat * 4, none⟩ = some (.int .i64 (c.yrI y).k) ∧ w.cell? ⟨b, off + y.toNat * 4 + 1, none⟩ = some (.string (c.yrI y).nm) ∧
      w.cell? ⟨b, off + y.toNat * 4 + 2, none⟩ = some (.int .i64 (c.yrI y).lg) ∧ w.cell? ⟨b, off + y.toNat * 4 + 3, none⟩ = some (.int .i64 (c.yrI y).db) := h.year (by omega)
theorem CalAt.kingI {w : World} {A A' : Option Addr} {ca cb : Nat} {c : Cal} (h : CalAt w A ca A' cb c) {k : Int} (h0 : 0 ≤ k) (h1 : k < c.nk) :
    ∃ b off, A = some ⟨b, off, none⟩ ∧ b < w.heap.size ∧ w.cell? ⟨b, off + k.toNat, none⟩ = some (.string (c.kg k.toNat)) := h.king (by omega)
end Go.Proofs.YtfchchmmjabjnaaDoor
