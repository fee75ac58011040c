/- Classes opened, with what the form's own reach says of their sizes; no conditions but those that each lemma states. -/
import Derived.Test.YtneiofnlmblglaaGreatDoorCMOb
import Derived.Test.YtneiofnlmblglaaGreatDoorM12
set_option maxRecDepth 100000
set_option maxHeartbeats 4000000
set_option maxRecDepth 100000
namespace Go.Proofs.YtneiofnlmblglaaGreatDoor
open Go Go.ChangeShapes Go.WideShapes Go.ChangeAt Go.RowKit Go.Deep
theorem cells_clsT : Tryz.prog.cellsOf 49 = 2 := by kernel_rfl
theorem bytes_cls : Tryz.prog.bytesOf 49 = 32 := by kernel_rfl
section
variable {H : Type} {enc : TypeId × Value → H} {w : World} {base : Nat} {spare : Nat → Bool} {held : Bool} {r : Reach} {b0 : Nat} {v : Value} {d : DataW H} {p : List MemPlace}
theorem class_cells {n : Nat} {cs : List Value} {x : DataW H × List MemPlace} (h : DataW.trod enc Tryz.prog w base spare held n 49 cs = some x) (hw : ∀ k ∈ x.1.weights Tryz.prog 49, k ≤ reachBytes) :
  ∃ y : Cls × Value, cs = clsr y.1 y.2 ∧ LotsAt w y.2 y.1.l ∧ y.1.l.length * 24 ≤ 140737488351232 := by
 obtain ⟨xs, m, _, hx, hlen, hxl, hf⟩ := DataW.trod_struct Tryz.underlying49 h
 have hxl2 : xs.length = 2 := hxl
 rw [hx] at hw
 have hw' : ∀ n ∈ DataW.weightsEach Tryz.prog [3, 28] (xs.map (·.1)), n ≤ reachBytes := fun n hn => hw n (by
  simp only [DataW.weights, Tryz.underlying49]
  exact hn)
 rw [cells_clsT] at hlen
 match cs, hlen with
 | [c0, c1], _ =>
  obtain ⟨z0, rfl, _⟩ := int_cell (sub_read hxl (by decide) (hf 0 _ rfl) cells_int)
  have e1 : DataW.trod enc Tryz.prog w base spare held m 28 [c1] = some xs[1] := sub_at (by omega) (hf 1 _ rfl) (n := 1) cells_lots
  obtain ⟨l, hl, hs⟩ := lots_cell e1 (fun k hk => hw' k (DataW.weights_mem_each (j := 1) rfl (by rw [List.getElem?_map, List.getElem?_eq_getElem (by omega)]; rfl) k hk))
  exact ⟨(⟨z0, l⟩, c1), rfl, hl, hs⟩
theorem classes_open (hv : Value.okWide Tryz.prog w r b0 47 v) (h : DataW.Trod enc Tryz.prog w base spare held 47 v d p) (hl : ∀ n ∈ d.weights Tryz.prog 47, n ≤ reachBytes) :
  ∃ l : List Cls, ClsAt w v l ∧ (∀ i, i < l.length → (l.getD i zCls).l.length * 24 ≤ 140737488351232) ∧ l.length * 32 ≤ 140737488351232 := by
 obtain ⟨a, len, cap, rfl⟩ := okWide_slice Tryz.underlying47 hv
 obtain ⟨fuel, hf⟩ := h
 obtain ⟨A, n, cap, g, e, h1, h2, h3, h4, h5, h6⟩ := slice_rowsL (f := fun y : Cls × Value => clsr y.1 y.2) (p := fun y => LotsAt w y.2 y.1.l ∧ y.1.l.length * 24 ≤ 140737488351232) (zCls, .slice none 0 0) Tryz.underlying47 cells_clsT (by decide) (fun _ => rfl) (fun n cs x hx hk => class_cells hx hk) hf hl
 rw [bytes_cls, reach_eq] at h6
 have hg : ∀ i, i < n → ((List.range n).map (fun i => (g i).1)).getD i zCls = (g i).1 := fun i hi => ofL_range zCls _ hi
 rw [e]
 refine ⟨(List.range n).map (fun i => (g i).1), ⟨A, cap, fun i => (g i).2, by simp, ?_, by simpa using h2, h3, by simpa using h4, fun i hi => ?_⟩, fun i hi => ?_, by simpa using h6⟩
 ·rw [List.length_map, List.length_range]
  exact h1.congr (fun i hi => by show clsr _ _ = clsr _ _; rw [hg i hi])
 ·rw [List.length_map, List.length_range] at hi
  rw [hg i hi]
  exact (h5 i hi).1
 ·rw [List.length_map, List.length_range] at hi
  rw [hg i hi]
  exact (h5 i hi).2
end
end Go.Proofs.YtneiofnlmblglaaGreatDoor