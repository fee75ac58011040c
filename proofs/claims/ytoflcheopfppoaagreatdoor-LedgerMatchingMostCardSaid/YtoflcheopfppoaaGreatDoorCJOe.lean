/- Pairs of deals opened; no conditions but those that each lemma states. -/
import Derived.Test.YtoflcheopfppoaaGreatDoorJ7
import Derived.Test.YtoflcheopfppoaaGreatDoorJ15
set_option maxRecDepth 100000
set_option maxHeartbeats 4000000
set_option maxRecDepth 100000
namespace Go.Proofs.YtoflcheopfppoaaGreatDoor
open Go Go.ChangeShapes Go.WideShapes Go.ChangeAt Go.RowKit Go.Deep
theorem cells_ref : Tryz.prog.cellsOf 33 = 2 := by kernel_rfl
theorem cells_match : Tryz.prog.cellsOf 35 = 4 := by kernel_rfl
theorem cells_matches : Tryz.prog.cellsOf 28 = 1 := by kernel_rfl
theorem cells_pairs : Tryz.prog.cellsOf 40 = 3 := by kernel_rfl
section
variable {H : Type} {enc : TypeId × Value → H} {w : World} {base : Nat} {spare : Nat → Bool} {held : Bool} {r : Reach} {b0 : Nat} {v : Value} {d : DataW H} {p : List MemPlace}
theorem ref_cells {n : Nat} {cs : List Value} {x : DataW H × List MemPlace} (h : DataW.trod enc Tryz.prog w base spare held n 33 cs = some x) : ∃ r : Int × Int, cs = [.int .i64 r.1, .int .i64 r.2] := by
 obtain ⟨xs, m, _, _, hlen, hxl, hf⟩ := DataW.trod_struct Tryz.underlying33 h
 rw [cells_ref] at hlen
 match cs, hlen with
 | [a, b], _ =>
  obtain ⟨z0, rfl, _⟩ := Wn (Jv hxl (by decide) (hf 0 _ rfl) Xp)
  obtain ⟨z1, rfl, _⟩ := Wn (Jv hxl (by decide) (hf 1 _ rfl) Xp)
  exact ⟨(z0, z1), rfl⟩
theorem match_cells {n : Nat} {cs : List Value} {x : DataW H × List MemPlace} (h : DataW.trod enc Tryz.prog w base spare held n 35 cs = some x) : ∃ m : Mr, cs = Kr m ∧ True := by
 obtain ⟨xs, m, _, _, hlen, hxl, hf⟩ := DataW.trod_struct Tryz.underlying35 h
 rw [cells_match] at hlen
 match cs, hlen with
 | [c0, c1, c2, c3], _ =>
  obtain ⟨_, h0⟩ := Jv hxl (by decide) (hf 0 _ rfl) cells_ref
  obtain ⟨_, h1⟩ := Jv hxl (by decide) (hf 1 _ rfl) cells_ref
  obtain ⟨a, ha⟩ := ref_cells h0
  obtain ⟨b, hb⟩ := ref_cells h1
  have ha' : [c0, c1] = [.int .i64 a.1, .int .i64 a.2] := ha
  have hb' : [c2, c3] = [.int .i64 b.1, .int .i64 b.2] := hb
  simp only [List.cons.injEq] at ha' hb'
  obtain ⟨rfl, rfl, _⟩ := ha'
  obtain ⟨rfl, rfl, _⟩ := hb'
  exact ⟨(a, b), rfl, trivial⟩
theorem pairs_open (hv : Value.okWide Tryz.prog w r b0 40 v) (h : DataW.Trod enc Tryz.prog w base spare held 40 v d p) :
  ∃ (a b : Int) (B : Option Addr) (cap : Nat) (M : List Mr), v = .agg #[.int .i64 a, .int .i64 b, .slice B M.length cap] ∧ Qo w B M.length 4 (fun i => Kr (M.getD i Zp)) ∧ M.length ≤ maxLen := by
 obtain ⟨cs, rfl, hsz⟩ := okWide_struct Tryz.underlying40 hv
 obtain ⟨fuel, hf⟩ := h
 obtain ⟨xs, m, _, _, hlen, hxl, hf⟩ := DataW.trod_struct Tryz.underlying40 hf
 obtain ⟨cs⟩ := cs
 rw [cells_pairs] at hsz
 match cs, hsz with
 | [c0, c1, c2], _ =>
  obtain ⟨z0, rfl, _⟩ := Wn (Jv hxl (by decide) (hf 0 _ rfl) Xp)
  obtain ⟨z1, rfl, _⟩ := Wn (Jv hxl (by decide) (hf 1 _ rfl) Xp)
  have h1 : ∃ y, DataW.trod enc Tryz.prog w base spare held m 28 [c2] = some y := Jv hxl (by decide) (hf 2 _ rfl) cells_matches
  obtain ⟨B, n, cap, f, rfl, r0, k0, m0, _⟩ := Rv (v := c2) (f := Kr) (p := fun _ => True) Zp Tryz.underlying28 cells_match (by decide) (fun _ => rfl) (fun n cs x hx => match_cells hx) h1
  refine ⟨z0, z1, B, cap, (List.range n).map f, by simp, ?_, by simp; omega⟩
  rw [show ((List.range n).map f).length = n by simp]
  exact r0.congr fun i hi => by rw [show ((List.range n).map f).getD i Zp = f i by simp [List.getD, hi]]
end
end Go.Proofs.YtoflcheopfppoaaGreatDoor