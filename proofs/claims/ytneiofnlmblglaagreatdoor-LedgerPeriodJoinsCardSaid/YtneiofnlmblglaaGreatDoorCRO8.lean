/- The ledger's arguments opened, and its laid variable: no conditions but those that each lemma states. -/
import Derived.Test.YtneiofnlmblglaaGreatDoorR1
import Derived.Test.YtneiofnlmblglaaGreatDoorR7
import Derived.Test.YtneiofnlmblglaaGreatDoorR8
import Derived.LaidSub
set_option maxRecDepth 100000
set_option maxHeartbeats 4000000
set_option maxRecDepth 100000
namespace Go.Proofs.YtneiofnlmblglaaGreatDoor
open Go Go.ChangeShapes Go.WideShapes Go.ChangeAt Go.RowKit Go.Deep
theorem cells_ratio : Tryz.prog.cellsOf 73 = 2 := by kernel_rfl
theorem cells_loan : Tryz.prog.cellsOf 80 = 8 := by kernel_rfl
theorem cells_pay : Tryz.prog.cellsOf 127 = 6 := by kernel_rfl
theorem cells_task : Tryz.prog.cellsOf 91 = 4 := by kernel_rfl
theorem cells_i32 : Tryz.prog.cellsOf 21 = 1 := by kernel_rfl
theorem cells_herd : Tryz.prog.cellsOf 99 = 3 := by kernel_rfl
theorem cells_pays : Tryz.prog.cellsOf 81 = 1 := by kernel_rfl
theorem zero_at : Tryz.prog.globalNamed "bulla/metro.zero" = some 0 := by kernel_rfl
theorem zero_type : (Tryz.prog.globals[0]?).map (·.type) = some 73 := by kernel_rfl
theorem zro_of_laid1 {W : World} (h : laidMet Tryz.prog [("bulla/metro.zero", .agg [.lit (.int .i64 0), .lit (.int .i64 1)])] W) : Zv W := by
 obtain ⟨ps, ⟨g, t, cs, fuel, p, q, hg, ht, hvar, hd, _, _⟩, _⟩ := h
 obtain rfl := Option.some.inj (zero_at.symm.trans hg)
 obtain rfl := Option.some.inj (zero_type.symm.trans ht)
 obtain ⟨xs, m, _, hx, hlen, hxl, hf⟩ := DataW.trod_struct Tryz.underlying73 hd
 have hxl2 : xs.length = 2 := hxl
 simp only [Prod.mk.injEq, DataW.agg.injEq] at hx
 have hx1 := hx.1
 obtain ⟨cs⟩ := cs
 rw [cells_ratio] at hlen
 match cs, hlen, xs, hxl2 with
 | [a, b], _, [y0, y1], _ =>
  have e0 := Vq (i := 0) (by simp) (hf 0 _ rfl) Y2
  have e1 := Vq (i := 1) (by simp) (hf 1 _ rfl) Y2
  obtain ⟨s0, h01, h02, _⟩ := DataW.trod_int Tryz.underlying3 e0
  obtain ⟨s1, h11, h12, _⟩ := DataW.trod_int Tryz.underlying3 e1
  simp only [List.map_cons, List.map_nil, List.cons.injEq] at hx1
  have f0 : y0.1 = .lit (.int .i64 0) := hx1.1.symm
  have f1 : y1.1 = .lit (.int .i64 1) := hx1.2.1.symm
  have g0 : y0.1 = .lit (.int .i64 s0) := by have := congrArg Prod.fst h02; simpa using this
  have g1 : y1.1 = .lit (.int .i64 s1) := by have := congrArg Prod.fst h12; simpa using this
  obtain rfl : s0 = 0 := by rw [f0] at g0; simpa using g0.symm
  obtain rfl : s1 = 1 := by rw [f1] at g1; simpa using g1.symm
  have ha : a = .int .i64 0 := by simpa using h01
  have hb : b = .int .i64 1 := by simpa using h11
  subst ha; subst hb
  have c0 := World.var?_cell hg hvar 0
  have c1 := World.var?_cell hg hvar 1
  refine ⟨by simpa using c0, by simpa using c1, ?_⟩
  rcases Nat.lt_or_ge 0 W.heap.size with h1 | h1
  ·exact h1
  ·have h2 : W.heap.size = 0 := by omega
   have : W.cell? ⟨0, 0, none⟩ = some (.int .i64 0) := by simpa using c0
   simp [World.cell?, Array.getElem?_eq_none (show W.heap.size ≤ 0 by omega)] at this
section
variable {H : Type} {enc : TypeId × Value → H} {w : World} {base : Nat} {spare : Nat → Bool} {held : Bool} {r : Reach} {b0 : Nat} {v : Value} {d : DataW H} {p : List MemPlace}
theorem ratio_cells {n : Nat} {cs : List Value} {x : DataW H × List MemPlace} (h : DataW.trod enc Tryz.prog w base spare held n 73 cs = some x) : ∃ r : Rt, cs = [.int .i64 r.n, .int .i64 r.d] ∧ r.In := by
 obtain ⟨xs, m, _, _, hlen, hxl, hf⟩ := DataW.trod_struct Tryz.underlying73 h
 rw [cells_ratio] at hlen
 match cs, hlen with
 | [a, b], _ =>
  obtain ⟨z0, rfl, h0⟩ := Xm (Z9 hxl (by decide) (hf 0 _ rfl) Y2)
  obtain ⟨z1, rfl, h1⟩ := Xm (Z9 hxl (by decide) (hf 1 _ rfl) Y2)
  exact ⟨⟨z0, z1⟩, rfl, h0.1, h0.2, h1.1, h1.2⟩
theorem pay_cells {n : Nat} {cs : List Value} {x : DataW H × List MemPlace} (h : DataW.trod enc Tryz.prog w base spare held n 127 cs = some x) : ∃ y : Zy, cs = [.int .i64 y.on.y, .int .i64 y.on.m, .bool y.on.s, .int .i64 y.on.d, .int .i64 y.n.n, .int .i64 y.n.d] ∧ y.n.In := by
 obtain ⟨xs, m, _, _, hlen, hxl, hf⟩ := DataW.trod_struct Tryz.underlying127 h
 rw [cells_pay] at hlen
 match cs, hlen with
 | [c0, c1, c2, c3, c4, c5], _ =>
  obtain ⟨_, h0⟩ := Z9 hxl (by decide) (hf 0 _ rfl) U4
  obtain ⟨_, h1⟩ := Z9 hxl (by decide) (hf 1 _ rfl) cells_ratio
  obtain ⟨a, ha⟩ := V3 h0
  obtain ⟨b, hb, hi⟩ := ratio_cells h1
  have ha' : [c0, c1, c2, c3] = [.int .i64 a.y, .int .i64 a.m, .bool a.s, .int .i64 a.d] := ha
  have hb' : [c4, c5] = [.int .i64 b.n, .int .i64 b.d] := hb
  simp only [List.cons.injEq] at ha' hb'
  obtain ⟨rfl, rfl, rfl, rfl, _⟩ := ha'
  obtain ⟨rfl, rfl, _⟩ := hb'
  exact ⟨⟨a, b⟩, rfl, hi⟩
theorem loan_cells {n : Nat} {cs : List Value} {x : DataW H × List MemPlace} (h : DataW.trod enc Tryz.prog w base spare held n 80 cs = some x) : ∃ y : Ln, cs = [.int .i64 y.p.n, .int .i64 y.p.d, .int .i64 y.r.n, .int .i64 y.r.d, .int .i64 y.f.y, .int .i64 y.f.m, .bool y.f.s, .int .i64 y.f.d] ∧ y.p.In ∧ y.r.In := by
 obtain ⟨xs, m, _, _, hlen, hxl, hf⟩ := DataW.trod_struct Tryz.underlying80 h
 rw [cells_loan] at hlen
 match cs, hlen with
 | [c0, c1, c2, c3, c4, c5, c6, c7], _ =>
  obtain ⟨_, h0⟩ := Z9 hxl (by decide) (hf 0 _ rfl) cells_ratio
  obtain ⟨_, h1⟩ := Z9 hxl (by decide) (hf 1 _ rfl) cells_ratio
  obtain ⟨_, h2⟩ := Z9 hxl (by decide) (hf 2 _ rfl) U4
  obtain ⟨a, ha, hia⟩ := ratio_cells h0
  obtain ⟨b, hb, hib⟩ := ratio_cells h1
  obtain ⟨c, hc⟩ := V3 h2
  have ha' : [c0, c1] = [.int .i64 a.n, .int .i64 a.d] := ha
  have hb' : [c2, c3] = [.int .i64 b.n, .int .i64 b.d] := hb
  have hc' : [c4, c5, c6, c7] = [.int .i64 c.y, .int .i64 c.m, .bool c.s, .int .i64 c.d] := hc
  simp only [List.cons.injEq] at ha' hb' hc'
  obtain ⟨rfl, rfl, _⟩ := ha'
  obtain ⟨rfl, rfl, _⟩ := hb'
  obtain ⟨rfl, rfl, rfl, rfl, _⟩ := hc'
  exact ⟨⟨a, b, c⟩, rfl, hia, hib⟩
theorem task_cells {n : Nat} {cs : List Value} {x : DataW H × List MemPlace} (h : DataW.trod enc Tryz.prog w base spare held n 91 cs = some x) : ∃ y : Tk, cs = [.int .i64 y.a.n, .int .i64 y.a.d, .int .i64 y.r.n, .int .i64 y.r.d] ∧ y.a.In ∧ y.r.In := by
 obtain ⟨xs, m, _, _, hlen, hxl, hf⟩ := DataW.trod_struct Tryz.underlying91 h
 rw [cells_task] at hlen
 match cs, hlen with
 | [c0, c1, c2, c3], _ =>
  obtain ⟨_, h0⟩ := Z9 hxl (by decide) (hf 0 _ rfl) cells_ratio
  obtain ⟨_, h1⟩ := Z9 hxl (by decide) (hf 1 _ rfl) cells_ratio
  obtain ⟨a, ha, hia⟩ := ratio_cells h0
  obtain ⟨b, hb, hib⟩ := ratio_cells h1
  have ha' : [c0, c1] = [.int .i64 a.n, .int .i64 a.d] := ha
  have hb' : [c2, c3] = [.int .i64 b.n, .int .i64 b.d] := hb
  simp only [List.cons.injEq] at ha' hb'
  obtain ⟨rfl, rfl, _⟩ := ha'
  obtain ⟨rfl, rfl, _⟩ := hb'
  exact ⟨⟨a, b⟩, rfl, hia, hib⟩
theorem ratio_open (hv : Value.okWide Tryz.prog w r b0 73 v) (h : DataW.Trod enc Tryz.prog w base spare held 73 v d p) : ∃ x : Rt, v = .agg #[.int .i64 x.n, .int .i64 x.d] ∧ x.In := by
 obtain ⟨cs, rfl, _⟩ := okWide_struct Tryz.underlying73 hv
 obtain ⟨fuel, hf⟩ := h
 obtain ⟨x, hx, hi⟩ := ratio_cells hf
 obtain ⟨cs⟩ := cs
 have hx' : cs = [.int .i64 x.n, .int .i64 x.d] := hx
 exact ⟨x, by rw [hx'], hi⟩
theorem herd_open (hv : Value.okWide Tryz.prog w r b0 99 v) (h : DataW.Trod enc Tryz.prog w base spare held 99 v d p) : ∃ x : Jw, v = .agg #[.int .i64 x.e, .int .i64 x.r, .int .i64 x.l] ∧ (-9223372036854775808 ≤ x.e ∧ x.e ≤ 9223372036854775807) ∧ (-9223372036854775808 ≤ x.r ∧ x.r ≤ 9223372036854775807) ∧ -9223372036854775808 ≤ x.l ∧ x.l ≤ 9223372036854775807 := by
 obtain ⟨cs, rfl, hsz⟩ := okWide_struct Tryz.underlying99 hv
 obtain ⟨fuel, hf⟩ := h
 obtain ⟨xs, m, _, _, hlen, hxl, hf⟩ := DataW.trod_struct Tryz.underlying99 hf
 obtain ⟨cs⟩ := cs
 rw [cells_herd] at hsz
 match cs, hsz with
 | [c0, c1, c2], _ =>
  obtain ⟨a, rfl, ha⟩ := Xm (Z9 hxl (by decide) (hf 0 _ rfl) Y2)
  obtain ⟨b, rfl, hb⟩ := Xm (Z9 hxl (by decide) (hf 1 _ rfl) Y2)
  obtain ⟨c, rfl, hc⟩ := Xm (Z9 hxl (by decide) (hf 2 _ rfl) Y2)
  exact ⟨⟨a, b, c⟩, rfl, ha, hb, hc⟩
theorem i32_cell {m : Nat} {v : Value} (h : ∃ y, DataW.trod enc Tryz.prog w base spare held m 21 [v] = some y) : ∃ z : Int, v = .int .i32 z ∧ -2147483648 ≤ z ∧ z ≤ 2147483647 := by
 obtain ⟨y, h⟩ := h
 obtain ⟨z, h1, _, h2⟩ := DataW.trod_int Tryz.underlying21 h
 have e1 : IntKind.i32.min = -2147483648 := rfl
 have e2 : IntKind.i32.max = 2147483647 := rfl
 simp only [Lit.wf, Bool.and_eq_true, decide_eq_true_eq] at h2
 exact ⟨z, by simpa using h1, by omega, by omega⟩
theorem tasks_open (hv : Value.okWide Tryz.prog w r b0 92 v) (h : DataW.Trod enc Tryz.prog w base spare held 92 v d p) :
  ∃ (B : Option Addr) (n cap : Nat) (f : Nat → Tk), v = .slice B n cap ∧ Qn w B n 4 (Jz f) ∧ n ≤ cap ∧ cap ≤ maxLen ∧ ∀ i, i < n → (f i).a.In ∧ (f i).r.In := by
 obtain ⟨a, len, cap, rfl⟩ := okWide_slice Tryz.underlying92 hv
 obtain ⟨n, h⟩ := h
 exact O4 (v := .slice a len cap) (f := fun t : Tk => [.int .i64 t.a.n, .int .i64 t.a.d, .int .i64 t.r.n, .int .i64 t.r.d]) (p := fun t => t.a.In ∧ t.r.In) ⟨⟨0, 0⟩, ⟨0, 0⟩⟩ Tryz.underlying92 cells_task (by decide) (fun _ => rfl) (fun n cs x hx => task_cells hx) ⟨_, h⟩
end
end Go.Proofs.YtneiofnlmblglaaGreatDoor