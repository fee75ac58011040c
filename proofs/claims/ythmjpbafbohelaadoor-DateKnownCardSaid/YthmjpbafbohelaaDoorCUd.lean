/- The walk of DateKnown (printed by mkUd.py). -/
import Derived.Test.YthmjpbafbohelaaDoorK6
import Derived.Test.YthmjpbafbohelaaDoorK5
namespace Go.Proofs.YthmjpbafbohelaaDoor
open Go Go.RowKit
attribute [local go_sem] gv_yes
attribute [local go_sem high] neq_date neq_trace

section
variable {A A' : Option Addr} {ca cb : Nat} {w : World} (hC : CalAt w A ca A' cb exCal)
include hC
theorem k_d0 : Calls Tryd.prog 37 #[.agg #[.slice A 2 ca, .slice A' 3 cb], .int .i64 0] w fun e w' => e = .returned (.tuple #[.int .i64 360, .int .i64 0]) ∧ Ext w w' := by
  have := daysX_any A A' ca cb exCal 0 w hC
  rw [ke_d0] at this
  exact this
theorem k_d1 : Calls Tryd.prog 37 #[.agg #[.slice A 2 ca, .slice A' 3 cb], .int .i64 1] w fun e w' => e = .returned (.tuple #[.int .i64 377, .int .i64 0]) ∧ Ext w w' := by
  have := daysX_any A A' ca cb exCal 1 w hC
  rw [ke_d1] at this
  exact this
theorem k_l1 : Calls Tryd.prog 38 #[.agg #[.slice A 2 ca, .slice A' 3 cb], .int .i64 1, .int .i64 6, .bool true] w fun e w' => e = .returned (.tuple #[.int .i64 29, .int .i64 0]) ∧ Ext w w' := by
  have := lengthX_any A A' ca cb exCal 1 6 true w hC
  rw [ke_l1] at this
  exact this
theorem k_l0 : Calls Tryd.prog 38 #[.agg #[.slice A 2 ca, .slice A' 3 cb], .int .i64 0, .int .i64 6, .bool true] w fun e w' => e = .returned (.tuple #[.int .i64 0, .int .i64 4]) ∧ Ext w w' := by
  have := lengthX_any A A' ca cb exCal 0 6 true w hC
  rw [ke_l0] at this
  exact this
theorem k_a1 : Calls Tryd.prog 11 #[.agg #[.slice A 2 ca, .slice A' 3 cb], .int .i64 361] w fun e w' => e = .returned (.tuple #[.agg #[.int .i64 1, .int .i64 1, .bool false, .int .i64 1], .int .i64 0]) ∧ Ext w w' := by
  have := atX_any A A' ca cb exCal 361 w hC (by decide) (by decide)
  rw [ke_a1, ke_a1e] at this
  exact this
theorem k_a0 : Calls Tryd.prog 11 #[.agg #[.slice A 2 ca, .slice A' 3 cb], .int .i64 0] w fun e w' => e = .returned (.tuple #[.agg #[.int .i64 0, .int .i64 0, .bool false, .int .i64 0], .int .i64 8]) ∧ Ext w w' := by
  have := atX_any A A' ca cb exCal 0 w hC (by decide) (by decide)
  rw [ke_a0, ke_a0e] at this
  exact this
theorem k_r1 : Calls Tryd.prog 40 #[.agg #[.slice A 2 ca, .slice A' 3 cb], .int .i64 1] w fun e w' => e = .returned (.tuple #[.string ⟨#[117, 114]⟩, .int .i64 2, .int .i64 0]) ∧ Ext w w' := by
  have := reign_any A A' ca cb exCal 1 (by decide) (by decide) w hC
  rw [ke_r1, ke_r1n, ke_r1e] at this
  exact this
theorem k_r2 : Calls Tryd.prog 40 #[.agg #[.slice A 2 ca, .slice A' 3 cb], .int .i64 2] w fun e w' => e = .returned (.tuple #[.string ⟨#[115, 105]⟩, .int .i64 1, .int .i64 0]) ∧ Ext w w' := by
  have := reign_any A A' ca cb exCal 2 (by decide) (by decide) w hC
  rw [ke_r2, ke_r2n, ke_r2e] at this
  exact this
theorem k_y : Calls Tryd.prog 41 #[.agg #[.slice A 2 ca, .slice A' 3 cb], .string ⟨#[117, 114]⟩, .int .i64 3] w fun e w' => e = .returned (.tuple #[.int .i64 0, .int .i64 4]) ∧ Ext w w' := by
  have := yearOf_any A A' ca cb exCal sUr 3 (by decide) (by decide) w hC
  rw [ke_y, ke_ye] at this
  exact this
theorem k_n0 : Calls Tryd.prog 42 #[.agg #[.slice A 2 ca, .slice A' 3 cb], .string ⟨#[119, 97, 108, 108]⟩, .string ⟨#[]⟩] w fun e w' => ∃ v, e = .returned (.tuple #[v, .int .i64 0]) ∧ Ext w w' ∧ IntsAt w' v [0, 2] := by
  have := named_any A A' ca cb exCal sWall noS (by decide) w hC
  rw [ke_n0, ex_chk] at this
  exact this
theorem k_n1 : Calls Tryd.prog 42 #[.agg #[.slice A 2 ca, .slice A' 3 cb], .string ⟨#[119, 97, 108, 108]⟩, .string ⟨#[115, 105]⟩] w fun e w' => ∃ v, e = .returned (.tuple #[v, .int .i64 0]) ∧ Ext w w' ∧ IntsAt w' v [2] := by
  have := named_any A A' ca cb exCal sWall sSi (by decide) w hC
  rw [ke_n1, ex_chk] at this
  exact this
theorem k_s3 : Calls Tryd.prog 44 #[.agg #[.slice A 2 ca, .slice A' 3 cb], .agg #[.int .i64 0, .bool false, .int .i64 0, .bool false, .string ⟨#[119, 97, 108, 108]⟩, .int .i64 1, .string ⟨#[]⟩]] w fun e w' => ∃ v, e = .returned (.tuple #[v, .int .i64 0]) ∧ Ext w w' ∧ SpansAt w' v [⟨361, 737⟩] := by
  have := spansX_any A A' ca cb exCal ⟨0, false, 0, false, sWall, 1, noS⟩ w hC
  rw [ke_s3, ke_s3e] at this
  exact this
theorem k_s4 : Calls Tryd.prog 44 #[.agg #[.slice A 2 ca, .slice A' 3 cb], .agg #[.int .i64 30, .bool false, .int .i64 0, .bool false, .string ⟨#[99, 97, 110, 97, 108]⟩, .int .i64 0, .string ⟨#[]⟩]] w fun e w' => ∃ v, e = .returned (.tuple #[v, .int .i64 0]) ∧ Ext w w' ∧ SpansAt w' v [] := by
  have := spansX_any A A' ca cb exCal ⟨30, false, 0, false, sCanal, 0, noS⟩ w hC
  rw [ke_s4, ke_s4e] at this
  exact this
end
theorem k_p1 (w : World) : Calls Tryd.prog 15 #[.string ⟨#[51, 49, 47, 49, 47, 45]⟩] w fun e w' => e = .returned (.tuple #[.agg #[.int .i64 0, .bool false, .int .i64 0, .bool false, .string ⟨#[]⟩, .int .i64 0, .string ⟨#[]⟩], .int .i64 5]) ∧ Ext w w' := by
  have := parseX_any u1 w (by decide)
  unfold parseV parseE at this
  rw [ke_p1] at this
  exact this
theorem k_p2 (w : World) : Calls Tryd.prog 15 #[.string ⟨#[45, 47, 54, 98, 47, 119, 97, 108, 108]⟩] w fun e w' => e = .returned (.tuple #[.agg #[.int .i64 0, .bool false, .int .i64 6, .bool true, .string ⟨#[119, 97, 108, 108]⟩, .int .i64 0, .string ⟨#[]⟩], .int .i64 0]) ∧ Ext w w' := by
  have := parseX_any u2 w (by decide)
  unfold parseV parseE at this
  rw [ke_p2] at this
  exact this
theorem eqInts2 (w : World) {sx sy : Value} {l : List Int} (h : IntsAt w sx l) (h' : IntsAt w sy l) : Calls Tryd.prog 43 #[sx, sy] w fun e w' => e = .returned (.bool true) ∧ Ext w w' := by
  obtain ⟨A, ca, rfl, hA, h1, h2⟩ := h
  obtain ⟨B, cb, rfl, hB, h3, h4⟩ := h'
  exact eqInts_any A B l.length ca cb (fun i => l.getD i 0) w hA hB (by unfold maxLen at h2; omega)
theorem ints2_at {w : World} {b : Nat} {t : TypeId} {x y : Int} (h : Held w b t #[.int .i64 x, .int .i64 y]) : IntsAt w (.slice (some ⟨b, 0, none⟩) 2 2) [x, y] := by
  refine ⟨_, 2, rfl, rows_held h ?_, Nat.le_refl _, by decide⟩
  intro i j v hi hv
  have hj : j < 1 := (List.getElem?_eq_some_iff.1 hv).1
  rw [← hv]
  have h1 : i = 0 ∨ i = 1 := by have hi : i < 2 := hi; omega
  obtain rfl : j = 0 := by omega
  rcases h1 with rfl | rfl <;> rfl
theorem ints1_at {w : World} {b : Nat} {t : TypeId} {x : Int} (h : Held w b t #[.int .i64 x]) : IntsAt w (.slice (some ⟨b, 0, none⟩) 1 1) [x] := by
  refine ⟨_, 1, rfl, rows_held h ?_, Nat.le_refl _, by decide⟩
  intro i j v hi hv
  have hj : j < 1 := (List.getElem?_eq_some_iff.1 hv).1
  rw [← hv]
  obtain rfl : i = 0 := by have hi : i < 1 := hi; omega
  obtain rfl : j = 0 := by omega
  rfl
theorem k_q3 (w : World) : Calls Tryd.prog 45 #[.string ⟨#[45, 47, 45, 47, 43, 119, 97, 108, 108]⟩] w fun e w' => e = .returned (.agg #[.int .i64 0, .bool false, .int .i64 0, .bool false, .string ⟨#[119, 97, 108, 108]⟩, .int .i64 1, .string ⟨#[]⟩]) ∧ Ext w w' :=
  lread_any u3 ⟨0, false, 0, false, sWall, 1, noS⟩ w (by decide) (by unfold parseV; rw [ke_p3]; rfl)
theorem k_q4 (w : World) : Calls Tryd.prog 45 #[.string ⟨#[51, 48, 47, 45, 47, 99, 97, 110, 97, 108]⟩] w fun e w' => e = .returned (.agg #[.int .i64 30, .bool false, .int .i64 0, .bool false, .string ⟨#[99, 97, 110, 97, 108]⟩, .int .i64 0, .string ⟨#[]⟩]) ∧ Ext w w' :=
  lread_any u4 ⟨30, false, 0, false, sCanal, 0, noS⟩ w (by decide) (by unfold parseV; rw [ke_p4]; rfl)
theorem ke_xk : (exCal.extV nmAB 2 17).nk = 2 := by kernel_rfl
theorem strs2_at {w : World} {b : Nat} {t : TypeId} (h : Held w b t #[.string ⟨#[97]⟩, .string ⟨#[98]⟩]) : RowsAt w (some ⟨b, 0, none⟩) 2 1 (fun i => [.string (nmAB i)]) := by
  refine rows_held h ?_
  intro i j v hi hv
  have hj : j < 1 := (List.getElem?_eq_some_iff.1 hv).1
  rw [← hv]
  have h1 : i = 0 ∨ i = 1 := by omega
  obtain rfl : j = 0 := by omega
  rcases h1 with rfl | rfl <;> rfl
theorem spans1_at {w : World} {b : Nat} {t : TypeId} {x y : Int} (h : Held w b t #[.int .i64 x, .int .i64 y]) : SpansAt w (.slice (some ⟨b, 0, none⟩) 1 1) [⟨x, y⟩] := by
  refine ⟨_, 1, rfl, rows_held h ?_, Nat.le_refl _, by decide⟩
  intro i j v hi hv
  have hj : j < 2 := (List.getElem?_eq_some_iff.1 hv).1
  rw [← hv]
  obtain rfl : i = 0 := by have hi : i < 1 := hi; omega
  have h2 : j = 0 ∨ j = 1 := by omega
  rcases h2 with rfl | rfl <;> rfl
theorem k_x {A A' B : Option Addr} {ca cb : Nat} {w : World} (hC : CalAt w A ca A' cb exCal) (hN : RowsAt w B 2 1 (fun i => [.string (nmAB i)])) : Calls Tryd.prog 46 #[.agg #[.slice A 2 ca, .slice A' 3 cb], .slice B 2 2, .int .i64 17] w fun e w' => ∃ F da y o db, e = .returned (.tuple #[.agg #[.slice F 2 da, .slice (some ⟨y, o, none⟩) 5 db], .int .i64 0]) ∧ Ext w w' ∧ CalAt w' F da (some ⟨y, o, none⟩) db (exCal.extV nmAB 2 17) := by
  have := extend_any A A' B ca cb 2 2 exCal nmAB 17 w hC hN (by decide)
  rw [ke_x, ke_xn, ke_xk] at this
  refine Calls.mono this ?_
  rintro e w' ⟨F, F', da, db, he, hx, hc⟩
  obtain ⟨y, o, rfl, _⟩ := hc.year (i := 3) (by rw [ke_xn]; decide)
  exact ⟨F, da, y, o, db, he, hx, hc⟩
theorem x_cells {w : World} {F : Option Addr} {da y o db : Nat} (h : CalAt w F da (some ⟨y, o, none⟩) db (exCal.extV nmAB 2 17)) : y < w.heap.size ∧ w.cell? ⟨y, o + 12 + 2, none⟩ = some (.int .i64 5461) ∧ w.cell? ⟨y, o + 12 + 3, none⟩ = some (.int .i64 6) ∧ w.cell? ⟨y, o + 16 + 2, none⟩ = some (.int .i64 1365) ∧ w.cell? ⟨y, o + 16 + 3, none⟩ = some (.int .i64 0) := by
  obtain ⟨b, off, e, hl, _, _, h3, h4⟩ := h.year (i := 3) (by rw [ke_xn]; decide)
  cases e
  obtain ⟨b, off, e, _, _, _, h5, h6⟩ := h.year (i := 4) (by rw [ke_xn]; decide)
  cases e
  rw [ke_x3l] at h3
  rw [ke_x3] at h4
  rw [ke_x4l] at h5
  rw [ke_x4] at h6
  exact ⟨hl, h3, h4, h5, h6⟩
theorem strs1_at {w : World} {b : Nat} {t : TypeId} {s : ByteArray} (h : Held w b t #[.string s]) : RowsAt w (some ⟨b, 0, none⟩) 1 1 (fun _ => [.string s]) := by
  refine rows_held h ?_
  intro i j v hi hv
  have hj : j < 1 := (List.getElem?_eq_some_iff.1 hv).1
  rw [← hv]
  obtain rfl : i = 0 := by omega
  obtain rfl : j = 0 := by omega
  rfl
theorem k_xa {A A' B : Option Addr} {ca cb : Nat} {w : World} (hC : CalAt w A ca A' cb exCal) (hN : RowsAt w B 1 1 (fun _ => [.string sWall])) : Calls Tryd.prog 46 #[.agg #[.slice A 2 ca, .slice A' 3 cb], .slice B 1 1, .int .i64 1] w fun e w' => ∃ v, e = .returned (.tuple #[v, .int .i64 5]) ∧ Ext w w' := by
  have := extend_any A A' B ca cb 1 1 exCal (fun _ => sWall) 1 w hC hN (by decide)
  rw [ke_xa] at this
  refine Calls.mono this ?_
  rintro e w' ⟨F, F', da, db, he, hx, _⟩
  exact ⟨_, he, hx⟩
theorem k_xb {A A' B : Option Addr} {ca cb : Nat} {w : World} (hC : CalAt w A ca A' cb exCal) (hN : RowsAt w B 1 1 (fun _ => [.string sCanal])) : Calls Tryd.prog 46 #[.agg #[.slice A 2 ca, .slice A' 3 cb], .slice B 1 1, .int .i64 20] w fun e w' => ∃ v, e = .returned (.tuple #[v, .int .i64 8]) ∧ Ext w w' := by
  have := extend_any A A' B ca cb 1 1 exCal (fun _ => sCanal) 20 w hC hN (by decide)
  rw [ke_xb] at this
  refine Calls.mono this ?_
  rintro e w' ⟨F, F', da, db, he, hx, _⟩
  exact ⟨_, he, hx⟩
theorem k_xc {A A' B : Option Addr} {ca cb : Nat} {w : World} (hC : CalAt w A ca A' cb exCal) (hN : RowsAt w B 39 1 (fun _ => [.string noS])) : Calls Tryd.prog 46 #[.agg #[.slice A 2 ca, .slice A' 3 cb], .slice B 39 39, .int .i64 1] w fun e w' => ∃ v, e = .returned (.tuple #[v, .int .i64 3]) ∧ Ext w w' := by
  have := extend_any A A' B ca cb 39 39 exCal (fun _ => noS) 1 w hC hN (by decide)
  rw [ke_xc] at this
  refine Calls.mono this ?_
  rintro e w' ⟨F, F', da, db, he, hx, _⟩
  exact ⟨_, he, hx⟩
theorem info_strK : (Tryd.prog.info? 9).map (fun i => (i.zero, i.size, i.bytes)) = some (some (.string ⟨#[]⟩), 1, 16) := by kernel_rfl
theorem info_trK : (Tryd.prog.info? 34).map (fun i => (i.zero, i.size, i.bytes)) = some (some (.agg #[.int .i64 0, .bool false, .int .i64 0, .bool false, .string ⟨#[]⟩, .int .i64 0, .string ⟨#[]⟩]), 7, 72) := by kernel_rfl
def strs39 : Array Value := madeCells (Value.string ⟨#[]⟩).cells (39 * 1)
def trs65 : Array Value := madeCells (Value.agg #[.int .i64 0, .bool false, .int .i64 0, .bool false, .string ⟨#[]⟩, .int .i64 0, .string ⟨#[]⟩]).cells (65 * 7)
theorem mk_strs (w : World) : (Instr.makeSlice 22 (.int .i64 39) (.int .i64 39)).run Tryd.prog w = .ok (.slice (some ⟨w.heap.size, 0, none⟩) 39 39) (w.alloc (.cells strs39 9)) := by
  have h0 := info_strK
  cases hi : Tryd.prog.info? 9 with
  | none => rw [hi] at h0; cases h0
  | some i =>
    rw [hi] at h0
    simp only [Option.map_some, Option.some.injEq, Prod.mk.injEq] at h0
    obtain ⟨hz, hs, hb⟩ := h0
    have := run_make_cells (P := Tryd.prog) 22 9 i _ Tryd.underlying22 hi hz .i64 .i64 39 (by rw [hb]; decide) (by decide) w
    rw [hs] at this
    exact this
theorem mk_trs (w : World) : (Instr.makeSlice 27 (.int .i64 65) (.int .i64 65)).run Tryd.prog w = .ok (.slice (some ⟨w.heap.size, 0, none⟩) 65 65) (w.alloc (.cells trs65 34)) := by
  have h0 := info_trK
  cases hi : Tryd.prog.info? 34 with
  | none => rw [hi] at h0; cases h0
  | some i =>
    rw [hi] at h0
    simp only [Option.map_some, Option.some.injEq, Prod.mk.injEq] at h0
    obtain ⟨hz, hs, hb⟩ := h0
    have := run_make_cells (P := Tryd.prog) 27 34 i _ Tryd.underlying27 hi hz .i64 .i64 65 (by rw [hb]; decide) (by decide) w
    rw [hs] at this
    exact this
theorem strs39_all : (List.range 39).map (fun k => strs39[k]?) = (List.range 39).map (fun _ => some (Value.string noS)) := by kernel_rfl
theorem trs65_all : (List.range 455).map (fun k => trs65[k]?) = (List.range 455).map (fun k => zTr.cells[k % 7]?) := by kernel_rfl
theorem map_at {α : Type} {f g : Nat → α} {n k : Nat} (h : (List.range n).map f = (List.range n).map g) (hk : k < n) : f k = g k := by
  have := congrArg (fun l => l[k]?) h
  simpa [hk] using this
theorem strs39_at {w : World} {b : Nat} {t : TypeId} (h : Held w b t strs39) : RowsAt w (some ⟨b, 0, none⟩) 39 1 (fun _ => [.string noS]) := by
  refine rows_held h ?_
  intro i j v hi hv
  have hj : j < 1 := (List.getElem?_eq_some_iff.1 hv).1
  obtain rfl : j = 0 := by omega
  rw [← hv, Nat.mul_one, Nat.add_zero]
  exact map_at strs39_all hi
theorem trs65_at {w : World} {b : Nat} {t : TypeId} (h : Held w b t trs65) : RowsAt w (some ⟨b, 0, none⟩) 65 7 (fun _ => zTr.cells) := by
  refine rows_held h ?_
  intro i j v hi hv
  have hj : j < 7 := (List.getElem?_eq_some_iff.1 hv).1
  rw [map_at trs65_all (show i * 7 + j < 455 by omega), show (i * 7 + j) % 7 = j by omega]
  exact hv
theorem example_held (w : World) : Calls Tryd.prog 36 #[] w fun e w' => ∃ a b, e = .returned (.agg #[.slice (some ⟨a, 0, none⟩) 2 2, .slice (some ⟨b, 0, none⟩) 3 3]) ∧ Ext w w' ∧ w.heap.size ≤ b ∧ a ≠ b ∧ Held w' a 9 #[.string sUr, .string sSi] ∧ Held w' b 110 #[.int .i64 0, .string sWall, .int .i64 4095, .int .i64 0, .int .i64 0, .string sCanal, .int .i64 0, .int .i64 6, .int .i64 1, .string sWall, .int .i64 4095, .int .i64 0] := by
  go_enter Tryd.func36, Tryd.ntmps36
  go_wp2
  refine bodyPost_ret (v := .agg #[.slice (some ⟨w.heap.size + 1, 0, none⟩) 2 2, .slice (some ⟨w.heap.size + 1 + 1, 0, none⟩) 3 3]) (by simp [results, Tryd.results36, go_sem]) rfl ⟨_, _, rfl, (by repeat (first | exact Ext.refl _ | (refine Ext.alloc ?_ _) | (refine Ext.trans ?_ (by assumption)))), by omega, by omega, (by repeat (first | (refine Held.at _ _ _ _ ?_; (simp; done)) | refine Held.alloc ?_ _)), (by repeat (first | (refine Held.at _ _ _ _ ?_; (simp; done)) | refine Held.alloc ?_ _))⟩
theorem held_oth {W : World} {b b' : Nat} {t : TypeId} {cs : Array Value} (h : Held W b t cs) (hn : b ≠ b') (off : Nat) (u : Value) : Held (W.setCell ⟨b', off, none⟩ u) b t cs := by unfold Held at h ⊢; simp [World.setCell, Array.getElem?_modify, hn.symm, h]
theorem held12_7 {W : World} {b : Nat} {t : TypeId} {v0 v1 v2 v3 v4 v5 v6 v7 v8 v9 v10 v11 : Value} (h : Held W b t #[v0, v1, v2, v3, v4, v5, v6, v7, v8, v9, v10, v11]) (u : Value) : Held (W.setCell ⟨b, 7, none⟩ u) b t #[v0, v1, v2, v3, v4, v5, v6, u, v8, v9, v10, v11] := by unfold Held at h ⊢; simp [World.setCell, Array.getElem?_modify, h]
theorem held12_6 {W : World} {b : Nat} {t : TypeId} {v0 v1 v2 v3 v4 v5 v6 v7 v8 v9 v10 v11 : Value} (h : Held W b t #[v0, v1, v2, v3, v4, v5, v6, v7, v8, v9, v10, v11]) (u : Value) : Held (W.setCell ⟨b, 6, none⟩ u) b t #[v0, v1, v2, v3, v4, v5, u, v7, v8, v9, v10, v11] := by unfold Held at h ⊢; simp [World.setCell, Array.getElem?_modify, h]

theorem bad_at {w : World} {a b : Nat} {t t' : TypeId} (h : Held w a t #[.string sUr, .string sSi]) (h' : Held w b t' #[.int .i64 0, .string sWall, .int .i64 4095, .int .i64 0, .int .i64 0, .string sCanal, .int .i64 4096, .int .i64 0, .int .i64 1, .string sWall, .int .i64 4095, .int .i64 0]) : CalAt w (some ⟨a, 0, none⟩) 2 (some ⟨b, 0, none⟩) 3 badCal := by
  refine ⟨rows_held h ?_, rows_held h' ?_, by decide, by decide, by decide, by decide⟩
  · intro i j v hi hv
    have hi : i < 2 := hi
    have hj : j < 1 := (List.getElem?_eq_some_iff.1 hv).1
    rw [← hv]
    have : i = 0 ∨ i = 1 := by omega
    obtain rfl : j = 0 := by omega
    rcases this with rfl | rfl <;> rfl
  · intro i j v hi hv
    have hi : i < 3 := hi
    have hj : j < 4 := (List.getElem?_eq_some_iff.1 hv).1
    rw [← hv]
    have h1 : i = 0 ∨ i = 1 ∨ i = 2 := by omega
    have h2 : j = 0 ∨ j = 1 ∨ j = 2 ∨ j = 3 := by omega
    rcases h1 with rfl | rfl | rfl <;> rcases h2 with rfl | rfl | rfl | rfl <;> rfl
theorem k_b {a b : Nat} {w : World} (hC : CalAt w (some ⟨a, 0, none⟩) 2 (some ⟨b, 0, none⟩) 3 badCal) : Calls Tryd.prog 37 #[.agg #[.slice (some ⟨a, 0, none⟩) 2 2, .slice (some ⟨b, 0, none⟩) 3 3], .int .i64 0] w fun e w' => e = .returned (.tuple #[.int .i64 0, .int .i64 70]) ∧ Ext w w' := by
  have := daysX_any (some ⟨a, 0, none⟩) (some ⟨b, 0, none⟩) 2 3 badCal 0 w hC
  rw [ke_b] at this
  exact this
theorem k_se {A A' B : Option Addr} {ca cb : Nat} {w : World} (hC : CalAt w A ca A' cb exCal) (hT : RowsAt w B 65 7 (fun _ => zTr.cells)) : Calls Tryd.prog 16 #[.agg #[.slice A 2 ca, .slice A' 3 cb], .slice B 65 65] w fun e w' => ∃ v, e = .returned (.tuple #[v, .int .i64 3]) ∧ Ext w w' := by
  have := seriesX_any A A' ca cb exCal B 65 65 (fun _ => zTr) w hC hT (by decide)
  rw [ke_se] at this
  refine Calls.mono this ?_
  rintro e w' ⟨v, h1, h2, _⟩
  exact ⟨v, h1, h2⟩
set_option maxRecDepth 100000 in
set_option maxHeartbeats 40000000 in
theorem dateKnown_walk (w : World) : Calls Tryd.prog 10 #[] w fun e w' => e = .returned (.bool true) ∧ Ext w w' := by
  go_enter Tryd.func10, Tryd.ntmps10
  go_upto_region 2 with (go_at_call 36; (with_reducible refine Calls.mono (example_any _) ?_); rintro e w1 ⟨A, A', ca, cb, rfl, h1, hC⟩)
  obtain ⟨v, hv⟩ : ∃ v, v = w1.alloc (.cells #[.slice A 2 ca, .slice A' 3 cb] 25) := ⟨_, rfl⟩
  rw [← hv]
  have h2 : Ext w1 v := by rw [hv]; exact (Ext.refl _).alloc _
  have B1 : Held v w1.heap.size 25 #[.slice A 2 ca, .slice A' 3 cb] := by rw [hv]; exact Held.new _ _ _
  have E := Ext.trans h1 h2
  have C := hC.ext h2
  clear hv h1 h2 hC
  generalize w1.heap.size = b1 at *
  clear w1
  obtain ⟨k0, k1⟩ := B1.c2
  have l1 := B1.lt
  go_upto_region 3 with (go_at_call 37; (with_reducible refine Calls.mono (k_d0 C) ?_); rintro e v2 ⟨rfl, h⟩)
  replace E := Ext.trans E h
  replace C := C.ext h
  replace B1 := B1.ext h
  clear h
  obtain ⟨k0, k1⟩ := B1.c2; have l1 := B1.lt
  go_upto_region 4 with (go_at_call 37; (with_reducible refine Calls.mono (k_d1 C) ?_); rintro e v3 ⟨rfl, h⟩)
  replace E := Ext.trans E h
  replace C := C.ext h
  replace B1 := B1.ext h
  clear h
  obtain ⟨k0, k1⟩ := B1.c2; have l1 := B1.lt
  go_upto_region 5 with (go_at_call 38; (with_reducible refine Calls.mono (k_l1 C) ?_); rintro e v4 ⟨rfl, h⟩)
  replace E := Ext.trans E h
  replace C := C.ext h
  replace B1 := B1.ext h
  clear h
  obtain ⟨k0, k1⟩ := B1.c2; have l1 := B1.lt
  go_upto_region 6 with (go_at_call 38; (with_reducible refine Calls.mono (k_l0 C) ?_); rintro e v5 ⟨rfl, h⟩)
  replace E := Ext.trans E h
  replace C := C.ext h
  replace B1 := B1.ext h
  clear h
  obtain ⟨k0, k1⟩ := B1.c2; have l1 := B1.lt
  go_upto_region 8 with (go_at_call 39; (with_reducible refine Calls.mono (works_any _) ?_); rintro e v6 ⟨rfl, h⟩)
  replace E := Ext.trans E h
  replace C := C.ext h
  replace B1 := B1.ext h
  clear h
  obtain ⟨k0, k1⟩ := B1.c2; have l1 := B1.lt
  go_upto_region 9 with (go_at_call 11; (with_reducible refine Calls.mono (k_a1 C) ?_); rintro e v7 ⟨rfl, h⟩)
  replace E := Ext.trans E h
  replace C := C.ext h
  replace B1 := B1.ext h
  clear h
  obtain ⟨k0, k1⟩ := B1.c2; have l1 := B1.lt
  obtain ⟨v8, hv⟩ : ∃ v, v = v7.alloc (.cells #[.int .i64 1, .int .i64 1, .bool false, .int .i64 1] 29) := ⟨_, rfl⟩
  rw [← hv]
  have h : Ext v7 v8 := by rw [hv]; exact (Ext.refl _).alloc _
  have B4 : Held v8 v7.heap.size 29 #[.int .i64 1, .int .i64 1, .bool false, .int .i64 1] := by rw [hv]; exact Held.new _ _ _
  clear hv
  generalize v7.heap.size = b4 at *
  replace E := Ext.trans E h
  replace C := C.ext h
  replace B1 := B1.ext h
  clear h
  obtain ⟨k0, k1⟩ := B1.c2; have l1 := B1.lt
  obtain ⟨p0, p1, p2, p3⟩ := B4.c4; have l4 := B4.lt
  go_upto_region 10 with (go_at_call 11; (with_reducible refine Calls.mono (k_a0 C) ?_); rintro e v9 ⟨rfl, h⟩)
  replace E := Ext.trans E h
  replace C := C.ext h
  replace B1 := B1.ext h
  replace B4 := B4.ext h
  clear h
  obtain ⟨k0, k1⟩ := B1.c2; have l1 := B1.lt
  obtain ⟨p0, p1, p2, p3⟩ := B4.c4; have l4 := B4.lt
  go_upto_region 11 with (go_at_call 40; (with_reducible refine Calls.mono (k_r1 C) ?_); rintro e v10 ⟨rfl, h⟩)
  replace E := Ext.trans E h
  replace C := C.ext h
  replace B1 := B1.ext h
  replace B4 := B4.ext h
  clear h
  obtain ⟨k0, k1⟩ := B1.c2; have l1 := B1.lt
  obtain ⟨p0, p1, p2, p3⟩ := B4.c4; have l4 := B4.lt
  go_upto_region 12 with (go_at_call 40; (with_reducible refine Calls.mono (k_r2 C) ?_); rintro e v11 ⟨rfl, h⟩)
  replace E := Ext.trans E h
  replace C := C.ext h
  replace B1 := B1.ext h
  replace B4 := B4.ext h
  clear h
  obtain ⟨k0, k1⟩ := B1.c2; have l1 := B1.lt
  obtain ⟨p0, p1, p2, p3⟩ := B4.c4; have l4 := B4.lt
  go_upto_region 13 with (go_at_call 41; (with_reducible refine Calls.mono (k_y C) ?_); rintro e v12 ⟨rfl, h⟩)
  replace E := Ext.trans E h
  replace C := C.ext h
  replace B1 := B1.ext h
  replace B4 := B4.ext h
  clear h
  obtain ⟨k0, k1⟩ := B1.c2; have l1 := B1.lt
  obtain ⟨p0, p1, p2, p3⟩ := B4.c4; have l4 := B4.lt
  go_upto_region 15 with (fail)
  clear p0 p1 p2 p3 l4 B4
  go_upto_region 16 with (go_at_call 42; (with_reducible refine Calls.mono (k_n0 C) ?_); rintro e v13 ⟨s1, rfl, h, S1⟩)
  replace E := Ext.trans E h
  replace C := C.ext h
  replace B1 := B1.ext h
  clear h
  obtain ⟨k0, k1⟩ := B1.c2; have l1 := B1.lt
  go_upto_region 17 with (go_at_call 42; (with_reducible refine Calls.mono (k_n1 C) ?_); rintro e v14 ⟨s2, rfl, h, S2⟩)
  replace E := Ext.trans E h
  replace C := C.ext h
  replace B1 := B1.ext h
  replace S1 := S1.ext h
  clear h
  obtain ⟨k0, k1⟩ := B1.c2; have l1 := B1.lt
  go_upto_region 18 with (go_at_call 15; (with_reducible refine Calls.mono (k_p1 _) ?_); rintro e v15 ⟨rfl, h⟩)
  replace E := Ext.trans E h
  replace C := C.ext h
  replace B1 := B1.ext h
  replace S1 := S1.ext h
  replace S2 := S2.ext h
  clear h
  obtain ⟨k0, k1⟩ := B1.c2; have l1 := B1.lt
  go_upto_region 19 with (go_at_call 15; (with_reducible refine Calls.mono (k_p2 _) ?_); rintro e v16 ⟨rfl, h⟩)
  replace E := Ext.trans E h
  replace C := C.ext h
  replace B1 := B1.ext h
  replace S1 := S1.ext h
  replace S2 := S2.ext h
  clear h
  obtain ⟨k0, k1⟩ := B1.c2; have l1 := B1.lt
  obtain ⟨v17, hv⟩ : ∃ v, v = v16.alloc (.cells #[.int .i64 0, .bool false, .int .i64 6, .bool true, .string ⟨#[119, 97, 108, 108]⟩, .int .i64 0, .string ⟨#[]⟩] 34) := ⟨_, rfl⟩
  rw [← hv]
  have h : Ext v16 v17 := by rw [hv]; exact (Ext.refl _).alloc _
  have B6 : Held v17 v16.heap.size 34 #[.int .i64 0, .bool false, .int .i64 6, .bool true, .string ⟨#[119, 97, 108, 108]⟩, .int .i64 0, .string ⟨#[]⟩] := by rw [hv]; exact Held.new _ _ _
  clear hv
  generalize v16.heap.size = b6 at *
  replace E := Ext.trans E h
  replace C := C.ext h
  replace B1 := B1.ext h
  replace S1 := S1.ext h
  replace S2 := S2.ext h
  clear h
  obtain ⟨k0, k1⟩ := B1.c2; have l1 := B1.lt
  obtain ⟨p0, p1, p2, p3, p4, p5, p6⟩ := B6.c7; have l6 := B6.lt
  go_upto_region 21 with (first
    | (go_at_call 43; (with_reducible refine Calls.mono (eqInts2 _ (S1.ext ((Ext.refl _).alloc _)) (ints2_at (Held.new v17 _ _))) ?_); rintro e v18 ⟨rfl, h8⟩; have H8 := Ext.trans ((Ext.refl v17).alloc _) h8; clear p0 p1 p2 p3 p4 p5 p6 l6; obtain ⟨p0, p1, p2, p3, p4, p5, p6⟩ := (B6.ext H8).c7; have l6 := (B6.ext H8).lt)
    | (go_at_call 43; (with_reducible refine Calls.mono (eqInts2 _ (S2.ext (Ext.trans H8 ((Ext.refl _).alloc _))) (ints1_at (Held.new v18 _ _))) ?_); rintro e v19 ⟨rfl, h9⟩; have h := Ext.trans H8 (Ext.trans ((Ext.refl v18).alloc _) h9); clear p0 p1 p2 p3 p4 p5 p6 l6; obtain ⟨p0, p1, p2, p3, p4, p5, p6⟩ := (B6.ext h).c7; have l6 := (B6.ext h).lt))
  clear p0 p1 p2 p3 p4 p5 p6 l6 B6 S1 S2 H8 h8 h9
  replace E := Ext.trans E h
  replace C := C.ext h
  replace B1 := B1.ext h
  clear h
  obtain ⟨k0, k1⟩ := B1.c2; have l1 := B1.lt
  refine wp_region_xm 2 0 v19 mixed (by kernel_rfl) (by repeat (first | exact Ext.refl _ | (refine Ext.alloc ?_ _) | (refine Ext.trans ?_ (by assumption)))) ?_
  intro hne hrx hry
  try simp only []
  try simp only [List.append_eq, List.cons_append, List.nil_append]
  simp only [List.take_succ_cons, List.take_zero, List.drop_succ_cons, List.drop_zero]
  repeat (first
    | go_big_quiet_skip
    | (go_big_quiet_want; go_big_quiet_op; go_big_quiet_on)
    | (go_big_quiet_want; go_big_quiet_op; apply Exists.intro; refine ⟨fun u => ?_, ?_⟩
       · first
           | (go_at_call 45; (with_reducible refine Calls.mono (k_q3 _) ?_); rintro e w' ⟨rfl, hb⟩; exact ⟨rfl, u.back hb⟩)
       go_big_quiet_on))
  clear hne hry hrx
  refine wpQuiet_nil ?_
  intro va ha
  have Ca := C.ext ha
  go_wp2_with (go_at_call 44; (with_reducible refine Calls.mono (k_s3 Ca) ?_); rintro e v20 ⟨s3, rfl, hb, S3⟩)
  show wpQuiet _ _ _ _ _ _
  repeat (first | go_big_quiet_skip | (go_big_quiet_want; go_big_quiet_op; go_big_quiet_on))
  refine wpQuiet_nil ?_
  have h := Ext.trans ha hb
  clear ha hb Ca
  replace E := Ext.trans E h
  replace C := C.ext h
  replace B1 := B1.ext h
  clear h
  obtain ⟨k0, k1⟩ := B1.c2; have l1 := B1.lt
  go_upto_region 22 with (fail)
  refine wp_region_xm 2 0 v20 mixed (by kernel_rfl) (by repeat (first | exact Ext.refl _ | (refine Ext.alloc ?_ _) | (refine Ext.trans ?_ (by assumption)))) ?_
  intro hne hrx hry
  try simp only []
  try simp only [List.append_eq, List.cons_append, List.nil_append]
  simp only [List.take_succ_cons, List.take_zero, List.drop_succ_cons, List.drop_zero]
  repeat (first
    | go_big_quiet_skip
    | (go_big_quiet_want; go_big_quiet_op; go_big_quiet_on)
    | (go_big_quiet_want; go_big_quiet_op; apply Exists.intro; refine ⟨fun u => ?_, ?_⟩
       · first
           | (go_at_call 45; (with_reducible refine Calls.mono (k_q4 _) ?_); rintro e w' ⟨rfl, hb⟩; exact ⟨rfl, u.back hb⟩)
       go_big_quiet_on))
  clear hne hry hrx
  refine wpQuiet_nil ?_
  intro va ha
  have Ca := C.ext ha
  go_wp2_with (go_at_call 44; (with_reducible refine Calls.mono (k_s4 Ca) ?_); rintro e v21 ⟨s4, rfl, hb, S4⟩)
  show wpQuiet _ _ _ _ _ _
  repeat (first | go_big_quiet_skip | (go_big_quiet_want; go_big_quiet_op; go_big_quiet_on))
  refine wpQuiet_nil ?_
  have h := Ext.trans ha hb
  clear ha hb Ca
  replace E := Ext.trans E h
  replace C := C.ext h
  replace B1 := B1.ext h
  replace S3 := S3.ext h
  clear h
  obtain ⟨k0, k1⟩ := B1.c2; have l1 := B1.lt
  go_upto_region 23 with (fail)
  go_upto_region 24 with (go_at_call 46; (with_reducible refine Calls.mono (k_x (C.ext ((Ext.refl _).alloc _)) (strs2_at (Held.new v21 _ _))) ?_); rintro e v22 ⟨F, da, y, o, db, rfl, h8, X⟩; have h := Ext.trans ((Ext.refl v21).alloc _) h8)
  clear h8
  replace E := Ext.trans E h
  replace C := C.ext h
  replace B1 := B1.ext h
  replace S3 := S3.ext h
  replace S4 := S4.ext h
  clear h
  obtain ⟨k0, k1⟩ := B1.c2; have l1 := B1.lt
  obtain ⟨v23, hv⟩ : ∃ v, v = v22.alloc (.cells #[.slice F 2 da, .slice (some ⟨y, o, none⟩) 5 db] 25) := ⟨_, rfl⟩
  rw [← hv]
  have h : Ext v22 v23 := by rw [hv]; exact (Ext.refl _).alloc _
  have B7 : Held v23 v22.heap.size 25 #[.slice F 2 da, .slice (some ⟨y, o, none⟩) 5 db] := by rw [hv]; exact Held.new _ _ _
  clear hv
  generalize v22.heap.size = b7 at *
  replace E := Ext.trans E h
  replace C := C.ext h
  replace B1 := B1.ext h
  replace S3 := S3.ext h
  replace S4 := S4.ext h
  replace X := X.ext h
  clear h
  obtain ⟨k0, k1⟩ := B1.c2; have l1 := B1.lt
  obtain ⟨A4, c4, rfl, _, _, _⟩ := S4
  obtain ⟨q0, q1⟩ := B7.c2
  have l7 := B7.lt
  obtain ⟨l8, x0, x1, x2, x3⟩ := x_cells X
  go_upto_region 26 with (go_at_call 47; (with_reducible refine Calls.mono (w_same (S3.ext ((Ext.refl _).alloc _)) (spans1_at (Held.new v23 _ _))) ?_); rintro e v24 ⟨rfl, h8⟩; have h := Ext.trans ((Ext.refl v23).alloc _) h8; clear q0 q1 l7 l8 x0 x1 x2 x3; obtain ⟨q0, q1⟩ := (B7.ext h).c2; have l7 := (B7.ext h).lt; obtain ⟨l8, x0, x1, x2, x3⟩ := x_cells (X.ext h))
  clear q0 q1 l7 l8 x0 x1 x2 x3 B7 X S3 h8
  replace E := Ext.trans E h
  replace C := C.ext h
  replace B1 := B1.ext h
  clear h
  obtain ⟨k0, k1⟩ := B1.c2; have l1 := B1.lt
  go_upto_region 27 with (go_at_call 46; (with_reducible refine Calls.mono (k_xa (C.ext ((Ext.refl _).alloc _)) (strs1_at (s := sWall) (Held.new v24 _ _))) ?_); rintro e v25 ⟨r1, rfl, h8⟩; have h := Ext.trans ((Ext.refl v24).alloc _) h8)
  clear h8
  replace E := Ext.trans E h
  replace C := C.ext h
  replace B1 := B1.ext h
  clear h
  obtain ⟨k0, k1⟩ := B1.c2; have l1 := B1.lt
  go_upto_region 28 with (go_at_call 46; (with_reducible refine Calls.mono (k_xb (C.ext ((Ext.refl _).alloc _)) (strs1_at (s := sCanal) (Held.new v25 _ _))) ?_); rintro e v26 ⟨r2, rfl, h8⟩; have h := Ext.trans ((Ext.refl v25).alloc _) h8)
  clear h8
  replace E := Ext.trans E h
  replace C := C.ext h
  replace B1 := B1.ext h
  clear h
  obtain ⟨k0, k1⟩ := B1.c2; have l1 := B1.lt
  refine wp_region_fl 2 (.agg #[.slice A 2 ca, .slice A' 3 cb]) v26 mixed (by kernel_rfl) (by repeat (first | exact Ext.refl _ | (refine Ext.alloc ?_ _) | (refine Ext.trans ?_ (by assumption)))) ?_
  intro hne hrx hry
  try simp only []
  simp only [List.take_succ_cons, List.take_zero, List.drop_succ_cons, List.drop_zero]
  refine ⟨fun u K hK => ?_, ?_⟩
  · go_big_quiet_op
    exact hK _ rfl
  unfold Then
  go_big_quiet_op
  intro v0 h0
  clear hne hrx hry
  refine wpSeqC_go ?_
  have hmk := mk_strs
  go_wp2
  clear hmk
  refine onQ_in (h0.alloc _) ?_
  have hal := h0.alloc (.cells strs39 9)
  have Ca := C.ext hal
  have Ra := strs39_at (Held.new v0 9 strs39)
  clear h0
  refine wpSeqC_go ?_
  go_wp2_with (go_at_call 46; (with_reducible refine Calls.mono (k_xc Ca Ra) ?_); rintro e v27 ⟨r3, rfl, h7⟩)
  have h := Ext.trans hal h7
  refine onQ_in h ?_
  refine wpSeqC_nil ?_
  show wpQuiet _ _ _ _ _ _
  repeat (first | go_big_quiet_skip | (go_big_quiet_want; go_big_quiet_op; go_big_quiet_on))
  refine wpQuiet_nil ?_
  clear Ca Ra hal h7
  replace E := Ext.trans E h
  replace C := C.ext h
  replace B1 := B1.ext h
  clear h
  obtain ⟨k0, k1⟩ := B1.c2; have l1 := B1.lt
  go_upto_region 29 with (fail)
  go_upto_region 30 with (go_at_call 36; (with_reducible refine Calls.mono (example_held _) ?_); rintro e v28 ⟨ya, yb, rfl, h, hlo, hne, HA, HB⟩)
  obtain ⟨v29, hv⟩ : ∃ v, v = v28.alloc (.cells #[.slice (some ⟨ya, 0, none⟩) 2 2, .slice (some ⟨yb, 0, none⟩) 3 3] 25) := ⟨_, rfl⟩
  rw [← hv]
  have x2 : Ext v27 v29 := by rw [hv]; exact h.alloc _
  have x3 : Ext v28 v29 := by rw [hv]; exact (Ext.refl _).alloc _
  have B9 : Held v29 v28.heap.size 25 #[.slice (some ⟨ya, 0, none⟩) 2 2, .slice (some ⟨yb, 0, none⟩) 3 3] := by rw [hv]; exact Held.new _ _ _
  have hn9 : v28.heap.size ≠ yb := by have := HB.lt; omega
  have hm9 : ya ≠ v28.heap.size := by have := HA.lt; omega
  replace HA := HA.ext x3
  replace HB := HB.ext x3
  clear hv h x3
  generalize v28.heap.size = b9 at *
  clear k0 k1 l1
  have C2 := C
  have B2 := B1
  have E2 := E
  clear C B1 E
  obtain ⟨r0, r1⟩ := B9.c2
  have l9 := B9.lt
  have lb := HB.lt
  have f7 := HB.frozen 7
  have f6 := HB.frozen 6
  have y7 := HB.cell 7
  have y6 := HB.cell 6
  go_upto_region 31 with (fail)
  obtain ⟨v30, hv⟩ : ∃ v, v = v29.setCell ⟨yb, 7, none⟩ (.int .i64 0) := ⟨_, rfl⟩
  rw [← hv]
  have x3 : Ext v27 v30 := by rw [hv]; exact x2.setCell (p := ⟨yb, 7, none⟩) hlo _
  have HB1 : Held v30 yb 110 #[.int .i64 0, .string sWall, .int .i64 4095, .int .i64 0, .int .i64 0, .string sCanal, .int .i64 0, .int .i64 0, .int .i64 1, .string sWall, .int .i64 4095, .int .i64 0] := by rw [hv]; exact held12_7 HB _
  have B91 : Held v30 b9 25 #[.slice (some ⟨ya, 0, none⟩) 2 2, .slice (some ⟨yb, 0, none⟩) 3 3] := by rw [hv]; exact held_oth B9 hn9 _ _
  have HA1 : Held v30 ya 9 #[.string sUr, .string sSi] := by rw [hv]; exact held_oth HA hne _ _
  clear hv x2 HB B9 HA r0 r1 l9 lb f7 f6 y7 y6
  obtain ⟨r0, r1⟩ := B91.c2
  have l9 := B91.lt
  have lb := HB1.lt
  have f7 := HB1.frozen 7
  have f6 := HB1.frozen 6
  have y7 := HB1.cell 7
  have y6 := HB1.cell 6
  go_upto_region 32 with (fail)
  obtain ⟨v31, hv⟩ : ∃ v, v = v30.setCell ⟨yb, 6, none⟩ (.int .i64 4096) := ⟨_, rfl⟩
  rw [← hv]
  have x4 : Ext v27 v31 := by rw [hv]; exact x3.setCell (p := ⟨yb, 6, none⟩) hlo _
  have HB2 : Held v31 yb 110 #[.int .i64 0, .string sWall, .int .i64 4095, .int .i64 0, .int .i64 0, .string sCanal, .int .i64 4096, .int .i64 0, .int .i64 1, .string sWall, .int .i64 4095, .int .i64 0] := by rw [hv]; exact held12_6 HB1 _
  have B92 : Held v31 b9 25 #[.slice (some ⟨ya, 0, none⟩) 2 2, .slice (some ⟨yb, 0, none⟩) 3 3] := by rw [hv]; exact held_oth B91 hn9 _ _
  have HA2 : Held v31 ya 9 #[.string sUr, .string sSi] := by rw [hv]; exact held_oth HA1 hne _ _
  clear hv x3 HB1 B91 HA1 r0 r1 l9 lb f7 f6 y7 y6
  obtain ⟨r0, r1⟩ := B92.c2
  have l9 := B92.lt
  have lb := HB2.lt
  have f7 := HB2.frozen 7
  have f6 := HB2.frozen 6
  have y7 := HB2.cell 7
  have y6 := HB2.cell 6
  have CB := bad_at HA2 HB2
  have E := Ext.trans E2 x4
  have C := C2.ext x4
  have B1 := B2.ext x4
  clear E2 C2 B2 x4 lb f7 f6 y7 y6 HA2 HB2
  go_upto_region 33 with (go_at_call 37; (with_reducible refine Calls.mono (k_b CB) ?_); rintro e v32 ⟨rfl, h⟩)
  clear r0 r1 l9 B92 CB
  replace E := Ext.trans E h
  replace C := C.ext h
  replace B1 := B1.ext h
  clear h
  obtain ⟨k0, k1⟩ := B1.c2; have l1 := B1.lt
  refine wp_region_fl 2 (.agg #[.slice A 2 ca, .slice A' 3 cb]) v32 mixed (by kernel_rfl) (by repeat (first | exact Ext.refl _ | (refine Ext.alloc ?_ _) | (refine Ext.trans ?_ (by assumption)))) ?_
  intro hne hrx hry
  try simp only []
  simp only [List.take_succ_cons, List.take_zero, List.drop_succ_cons, List.drop_zero]
  refine ⟨fun u K hK => ?_, ?_⟩
  · go_big_quiet_op
    exact hK _ rfl
  unfold Then
  go_big_quiet_op
  intro v0 h0
  clear hne hrx hry
  refine wpSeqC_go ?_
  have hmk := mk_trs
  go_wp2
  clear hmk
  refine onQ_in (h0.alloc _) ?_
  have hal := h0.alloc (.cells trs65 34)
  have Ca := C.ext hal
  have Ra := trs65_at (Held.new v0 34 trs65)
  clear h0
  refine wpSeqC_go ?_
  go_wp2_with (go_at_call 16; (with_reducible refine Calls.mono (k_se Ca Ra) ?_); rintro e v33 ⟨r4, rfl, h7⟩)
  have h := Ext.trans hal h7
  refine onQ_in h ?_
  refine wpSeqC_nil ?_
  show wpQuiet _ _ _ _ _ _
  repeat (first | go_big_quiet_skip | (go_big_quiet_want; go_big_quiet_op; go_big_quiet_on))
  refine wpQuiet_nil ?_
  clear Ca Ra hal h7
  replace E := Ext.trans E h
  replace C := C.ext h
  replace B1 := B1.ext h
  clear h
  obtain ⟨k0, k1⟩ := B1.c2; have l1 := B1.lt
  go_wp2
  go_ret
  exact ⟨rfl, E⟩
end Go.Proofs.YthmjpbafbohelaaDoor
