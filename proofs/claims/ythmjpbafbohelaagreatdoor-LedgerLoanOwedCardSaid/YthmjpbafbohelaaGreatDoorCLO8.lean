/- The ledger's arguments opened, and its laid variable: no conditions but those that each lemma states. -/
import Derived.Test.YthmjpbafbohelaaGreatDoorL1
import Derived.Test.YthmjpbafbohelaaGreatDoorL8
import Derived.Test.YthmjpbafbohelaaGreatDoorL9
import Derived.LaidSub
set_option maxRecDepth 100000
set_option maxHeartbeats 4000000
set_option maxRecDepth 100000
namespace Go.Proofs.YthmjpbafbohelaaGreatDoor
open Go Go.ChangeShapes Go.WideShapes Go.ChangeAt Go.RowKit Go.Deep
theorem cells_ratio : Tryz.prog.cellsOf 23 = 2 := by kernel_rfl
theorem cells_loan : Tryz.prog.cellsOf 54 = 8 := by kernel_rfl
theorem cells_pay : Tryz.prog.cellsOf 129 = 6 := by kernel_rfl
theorem cells_task : Tryz.prog.cellsOf 97 = 4 := by kernel_rfl
theorem cells_i32 : Tryz.prog.cellsOf 21 = 1 := by kernel_rfl
theorem cells_herd : Tryz.prog.cellsOf 101 = 3 := by kernel_rfl
theorem cells_pays : Tryz.prog.cellsOf 55 = 1 := by kernel_rfl
theorem cells_credit : Tryz.prog.cellsOf 57 = 13 := by kernel_rfl
theorem cells_shift : Tryz.prog.cellsOf 39 = 10 := by kernel_rfl
theorem zero_at : Tryz.prog.globalNamed "bulla/metro.zero" = some 0 := by kernel_rfl
theorem zero_type : (Tryz.prog.globals[0]?).map (·.type) = some 23 := by kernel_rfl
theorem zro_of_laid1 {W : World} (h : laidMet Tryz.prog [("bulla/metro.zero", .agg [.lit (.int .i64 0), .lit (.int .i64 1)])] W) : Zro W := by
 obtain ⟨ps, ⟨g, t, cs, fuel, p, q, hg, ht, hvar, hd, _, _⟩, _⟩ := h
 obtain rfl := Option.some.inj (zero_at.symm.trans hg)
 obtain rfl := Option.some.inj (zero_type.symm.trans ht)
 obtain ⟨xs, m, _, hx, hlen, hxl, hf⟩ := DataW.trod_struct Tryz.underlying23 hd
 have hxl2 : xs.length = 2 := hxl
 simp only [Prod.mk.injEq, DataW.agg.injEq] at hx
 have hx1 := hx.1
 obtain ⟨cs⟩ := cs
 rw [cells_ratio] at hlen
 match cs, hlen, xs, hxl2 with
 | [a, b], _, [y0, y1], _ =>
  have e0 := sub_at (i := 0) (by simp) (hf 0 _ rfl) cells_int
  have e1 := sub_at (i := 1) (by simp) (hf 1 _ rfl) cells_int
  obtain ⟨s0, h01, h02, _⟩ := DataW.trod_int Tryz.underlying3 e0
  obtain ⟨s1, h11, h12, _⟩ := DataW.trod_int Tryz.underlying3 e1
  simp only [List.map_cons, List.map_nil, List.cons.injEq] at hx1
  have f0 : y0.1 = .lit (.int .i64 0) := hx1.1.symm
  have f1 : y1.1 = .lit (.int .i64 1) := hx1.2.1.symm
  have g0 : y0.1 = .lit (.int .i64 s0) := by have := congrArg Prod.fst h02; simpa using this
  have g1 : y1.1 = .lit (.int .i64 s1) := by have := congrArg Prod.fst h12; simpa using this
  obtain rfl : s0 = 0 := by rw [f0] at g0; simpa using g0.symm
  obtain rfl : s1 = 1 := by rw [f1] at g1; simpa using g1.symm
  have ha : a = .int .i64 0 := by simpa using h01
  have hb : b = .int .i64 1 := by simpa using h11
  subst ha; subst hb
  have c0 := World.var?_cell hg hvar 0
  have c1 := World.var?_cell hg hvar 1
  refine ⟨by simpa using c0, by simpa using c1, ?_⟩
  rcases Nat.lt_or_ge 0 W.heap.size with h1 | h1
  ·exact h1
  ·have h2 : W.heap.size = 0 := by omega
   have : W.cell? ⟨0, 0, none⟩ = some (.int .i64 0) := by simpa using c0
   simp [World.cell?, Array.getElem?_eq_none (show W.heap.size ≤ 0 by omega)] at this
section
variable {H : Type} {enc : TypeId × Value → H} {w : World} {base : Nat} {spare : Nat → Bool} {held : Bool} {r : Reach} {b0 : Nat} {v : Value} {d : DataW H} {p : List MemPlace}
theorem ratio_cells {n : Nat} {cs : List Value} {x : DataW H × List MemPlace} (h : DataW.trod enc Tryz.prog w base spare held n 23 cs = some x) : ∃ r : Rt, cs = [.int .i64 r.n, .int .i64 r.d] ∧ r.In := by
 obtain ⟨xs, m, _, _, hlen, hxl, hf⟩ := DataW.trod_struct Tryz.underlying23 h
 rw [cells_ratio] at hlen
 match cs, hlen with
 | [a, b], _ =>
  obtain ⟨z0, rfl, h0⟩ := int_cell (sub_read hxl (by decide) (hf 0 _ rfl) cells_int)
  obtain ⟨z1, rfl, h1⟩ := int_cell (sub_read hxl (by decide) (hf 1 _ rfl) cells_int)
  exact ⟨⟨z0, z1⟩, rfl, h0.1, h0.2, h1.1, h1.2⟩
theorem pay_cells {n : Nat} {cs : List Value} {x : DataW H × List MemPlace} (h : DataW.trod enc Tryz.prog w base spare held n 129 cs = some x) : ∃ y : Pay, cs = [.int .i64 y.on.y, .int .i64 y.on.m, .bool y.on.s, .int .i64 y.on.d, .int .i64 y.n.n, .int .i64 y.n.d] ∧ y.n.In := by
 obtain ⟨xs, m, _, _, hlen, hxl, hf⟩ := DataW.trod_struct Tryz.underlying129 h
 rw [cells_pay] at hlen
 match cs, hlen with
 | [c0, c1, c2, c3, c4, c5], _ =>
  obtain ⟨_, h0⟩ := sub_read hxl (by decide) (hf 0 _ rfl) cells_date
  obtain ⟨_, h1⟩ := sub_read hxl (by decide) (hf 1 _ rfl) cells_ratio
  obtain ⟨a, ha⟩ := date_cells h0
  obtain ⟨b, hb, hi⟩ := ratio_cells h1
  have ha' : [c0, c1, c2, c3] = [.int .i64 a.y, .int .i64 a.m, .bool a.s, .int .i64 a.d] := ha
  have hb' : [c4, c5] = [.int .i64 b.n, .int .i64 b.d] := hb
  simp only [List.cons.injEq] at ha' hb'
  obtain ⟨rfl, rfl, rfl, rfl, _⟩ := ha'
  obtain ⟨rfl, rfl, _⟩ := hb'
  exact ⟨⟨a, b⟩, rfl, hi⟩
theorem loan_cells {n : Nat} {cs : List Value} {x : DataW H × List MemPlace} (h : DataW.trod enc Tryz.prog w base spare held n 54 cs = some x) : ∃ y : Ln, cs = [.int .i64 y.p.n, .int .i64 y.p.d, .int .i64 y.r.n, .int .i64 y.r.d, .int .i64 y.f.y, .int .i64 y.f.m, .bool y.f.s, .int .i64 y.f.d] ∧ y.p.In ∧ y.r.In := by
 obtain ⟨xs, m, _, _, hlen, hxl, hf⟩ := DataW.trod_struct Tryz.underlying54 h
 rw [cells_loan] at hlen
 match cs, hlen with
 | [c0, c1, c2, c3, c4, c5, c6, c7], _ =>
  obtain ⟨_, h0⟩ := sub_read hxl (by decide) (hf 0 _ rfl) cells_ratio
  obtain ⟨_, h1⟩ := sub_read hxl (by decide) (hf 1 _ rfl) cells_ratio
  obtain ⟨_, h2⟩ := sub_read hxl (by decide) (hf 2 _ rfl) cells_date
  obtain ⟨a, ha, hia⟩ := ratio_cells h0
  obtain ⟨b, hb, hib⟩ := ratio_cells h1
  obtain ⟨c, hc⟩ := date_cells h2
  have ha' : [c0, c1] = [.int .i64 a.n, .int .i64 a.d] := ha
  have hb' : [c2, c3] = [.int .i64 b.n, .int .i64 b.d] := hb
  have hc' : [c4, c5, c6, c7] = [.int .i64 c.y, .int .i64 c.m, .bool c.s, .int .i64 c.d] := hc
  simp only [List.cons.injEq] at ha' hb' hc'
  obtain ⟨rfl, rfl, _⟩ := ha'
  obtain ⟨rfl, rfl, _⟩ := hb'
  obtain ⟨rfl, rfl, rfl, rfl, _⟩ := hc'
  exact ⟨⟨a, b, c⟩, rfl, hia, hib⟩
theorem task_cells {n : Nat} {cs : List Value} {x : DataW H × List MemPlace} (h : DataW.trod enc Tryz.prog w base spare held n 97 cs = some x) : ∃ y : Tk, cs = [.int .i64 y.a.n, .int .i64 y.a.d, .int .i64 y.r.n, .int .i64 y.r.d] ∧ y.a.In ∧ y.r.In := by
 obtain ⟨xs, m, _, _, hlen, hxl, hf⟩ := DataW.trod_struct Tryz.underlying97 h
 rw [cells_task] at hlen
 match cs, hlen with
 | [c0, c1, c2, c3], _ =>
  obtain ⟨_, h0⟩ := sub_read hxl (by decide) (hf 0 _ rfl) cells_ratio
  obtain ⟨_, h1⟩ := sub_read hxl (by decide) (hf 1 _ rfl) cells_ratio
  obtain ⟨a, ha, hia⟩ := ratio_cells h0
  obtain ⟨b, hb, hib⟩ := ratio_cells h1
  have ha' : [c0, c1] = [.int .i64 a.n, .int .i64 a.d] := ha
  have hb' : [c2, c3] = [.int .i64 b.n, .int .i64 b.d] := hb
  simp only [List.cons.injEq] at ha' hb'
  obtain ⟨rfl, rfl, _⟩ := ha'
  obtain ⟨rfl, rfl, _⟩ := hb'
  exact ⟨⟨a, b⟩, rfl, hia, hib⟩
theorem ratio_open (hv : Value.okWide Tryz.prog w r b0 23 v) (h : DataW.Trod enc Tryz.prog w base spare held 23 v d p) : ∃ x : Rt, v = .agg #[.int .i64 x.n, .int .i64 x.d] ∧ x.In := by
 obtain ⟨cs, rfl, _⟩ := okWide_struct Tryz.underlying23 hv
 obtain ⟨fuel, hf⟩ := h
 obtain ⟨x, hx, hi⟩ := ratio_cells hf
 obtain ⟨cs⟩ := cs
 have hx' : cs = [.int .i64 x.n, .int .i64 x.d] := hx
 exact ⟨x, by rw [hx'], hi⟩
theorem herd_open (hv : Value.okWide Tryz.prog w r b0 101 v) (h : DataW.Trod enc Tryz.prog w base spare held 101 v d p) : ∃ x : Hrd, v = .agg #[.int .i64 x.e, .int .i64 x.r, .int .i64 x.l] ∧ (-9223372036854775808 ≤ x.e ∧ x.e ≤ 9223372036854775807) ∧ (-9223372036854775808 ≤ x.r ∧ x.r ≤ 9223372036854775807) ∧ -9223372036854775808 ≤ x.l ∧ x.l ≤ 9223372036854775807 := by
 obtain ⟨cs, rfl, hsz⟩ := okWide_struct Tryz.underlying101 hv
 obtain ⟨fuel, hf⟩ := h
 obtain ⟨xs, m, _, _, hlen, hxl, hf⟩ := DataW.trod_struct Tryz.underlying101 hf
 obtain ⟨cs⟩ := cs
 rw [cells_herd] at hsz
 match cs, hsz with
 | [c0, c1, c2], _ =>
  obtain ⟨a, rfl, ha⟩ := int_cell (sub_read hxl (by decide) (hf 0 _ rfl) cells_int)
  obtain ⟨b, rfl, hb⟩ := int_cell (sub_read hxl (by decide) (hf 1 _ rfl) cells_int)
  obtain ⟨c, rfl, hc⟩ := int_cell (sub_read hxl (by decide) (hf 2 _ rfl) cells_int)
  exact ⟨⟨a, b, c⟩, rfl, ha, hb, hc⟩
theorem i32_cell {m : Nat} {v : Value} (h : ∃ y, DataW.trod enc Tryz.prog w base spare held m 21 [v] = some y) : ∃ z : Int, v = .int .i32 z ∧ -2147483648 ≤ z ∧ z ≤ 2147483647 := by
 obtain ⟨y, h⟩ := h
 obtain ⟨z, h1, _, h2⟩ := DataW.trod_int Tryz.underlying21 h
 have e1 : IntKind.i32.min = -2147483648 := rfl
 have e2 : IntKind.i32.max = 2147483647 := rfl
 simp only [Lit.wf, Bool.and_eq_true, decide_eq_true_eq] at h2
 exact ⟨z, by simpa using h1, by omega, by omega⟩
theorem shift_open (hv : Value.okWide Tryz.prog w r b0 39 v) (h : DataW.Trod enc Tryz.prog w base spare held 39 v d p) :
  ∃ (s : Rt) (f u : Dt), v = .agg #[.int .i64 s.n, .int .i64 s.d, .int .i64 f.y, .int .i64 f.m, .bool f.s, .int .i64 f.d, .int .i64 u.y, .int .i64 u.m, .bool u.s, .int .i64 u.d] ∧ s.In := by
 obtain ⟨cs, rfl, hsz⟩ := okWide_struct Tryz.underlying39 hv
 obtain ⟨fuel, hf⟩ := h
 obtain ⟨xs, m, _, _, hlen, hxl, hf⟩ := DataW.trod_struct Tryz.underlying39 hf
 obtain ⟨cs⟩ := cs
 rw [cells_shift] at hsz
 match cs, hsz with
 | [c0, c1, c2, c3, c4, c5, c6, c7, c8, c9], _ =>
  obtain ⟨_, h0⟩ := sub_read hxl (by decide) (hf 0 _ rfl) cells_ratio
  obtain ⟨_, h1⟩ := sub_read hxl (by decide) (hf 1 _ rfl) cells_date
  obtain ⟨_, h2⟩ := sub_read hxl (by decide) (hf 2 _ rfl) cells_date
  obtain ⟨a, ha, hia⟩ := ratio_cells h0
  obtain ⟨b, hb⟩ := date_cells h1
  obtain ⟨c, hc⟩ := date_cells h2
  have ha' : [c0, c1] = [.int .i64 a.n, .int .i64 a.d] := ha
  have hb' : [c2, c3, c4, c5] = [.int .i64 b.y, .int .i64 b.m, .bool b.s, .int .i64 b.d] := hb
  have hc' : [c6, c7, c8, c9] = [.int .i64 c.y, .int .i64 c.m, .bool c.s, .int .i64 c.d] := hc
  simp only [List.cons.injEq] at ha' hb' hc'
  obtain ⟨rfl, rfl, _⟩ := ha'
  obtain ⟨rfl, rfl, rfl, rfl, _⟩ := hb'
  obtain ⟨rfl, rfl, rfl, rfl, _⟩ := hc'
  exact ⟨a, b, c, rfl, hia⟩
theorem tasks_open (hv : Value.okWide Tryz.prog w r b0 35 v) (h : DataW.Trod enc Tryz.prog w base spare held 35 v d p) :
  ∃ (B : Option Addr) (n cap : Nat) (f : Nat → Tk), v = .slice B n cap ∧ RowsAt w B n 4 (taskr f) ∧ n ≤ cap ∧ cap ≤ maxLen ∧ ∀ i, i < n → (f i).a.In ∧ (f i).r.In := by
 obtain ⟨a, len, cap, rfl⟩ := okWide_slice Tryz.underlying35 hv
 obtain ⟨n, h⟩ := h
 exact slice_rows (v := .slice a len cap) (f := fun t : Tk => [.int .i64 t.a.n, .int .i64 t.a.d, .int .i64 t.r.n, .int .i64 t.r.d]) (p := fun t => t.a.In ∧ t.r.In) ⟨⟨0, 0⟩, ⟨0, 0⟩⟩ Tryz.underlying35 cells_task (by decide) (fun _ => rfl) (fun n cs x hx => task_cells hx) ⟨_, h⟩
theorem credit_open (hv : Value.okWide Tryz.prog w r b0 57 v) (h : DataW.Trod enc Tryz.prog w base spare held 57 v d p) :
  ∃ (l : Ln) (B : Option Addr) (n cap : Nat) (f : Nat → Pay) (on : Dt), v = .agg #[.int .i64 l.p.n, .int .i64 l.p.d, .int .i64 l.r.n, .int .i64 l.r.d, .int .i64 l.f.y, .int .i64 l.f.m, .bool l.f.s, .int .i64 l.f.d, .slice B n cap, .int .i64 on.y, .int .i64 on.m, .bool on.s, .int .i64 on.d] ∧ l.p.In ∧ l.r.In ∧ RowsAt w B n 6 (payr f) ∧ n ≤ cap ∧ cap ≤ maxLen ∧ (∀ i, i < n → (f i).n.In) ∧ (B = none → n = 0 ∧ cap = 0) := by
 obtain ⟨cs, rfl, hsz⟩ := okWide_struct Tryz.underlying57 hv
 obtain ⟨fuel, hf⟩ := h
 obtain ⟨xs, m, _, _, hlen, hxl, hf⟩ := DataW.trod_struct Tryz.underlying57 hf
 obtain ⟨cs⟩ := cs
 rw [cells_credit] at hsz
 match cs, hsz with
 | [c0, c1, c2, c3, c4, c5, c6, c7, c8, c9, c10, c11, c12], _ =>
  obtain ⟨_, h0⟩ := sub_read hxl (by decide) (hf 0 _ rfl) cells_loan
  have h1 : ∃ y, DataW.trod enc Tryz.prog w base spare held m 55 [c8] = some y := sub_read hxl (by decide) (hf 1 _ rfl) cells_pays
  obtain ⟨_, h2⟩ := sub_read hxl (by decide) (hf 2 _ rfl) cells_date
  obtain ⟨a, ha, hia, hib⟩ := loan_cells h0
  obtain ⟨c, hc⟩ := date_cells h2
  have ha' : [c0, c1, c2, c3, c4, c5, c6, c7] = [.int .i64 a.p.n, .int .i64 a.p.d, .int .i64 a.r.n, .int .i64 a.r.d, .int .i64 a.f.y, .int .i64 a.f.m, .bool a.f.s, .int .i64 a.f.d] := ha
  have hc' : [c9, c10, c11, c12] = [.int .i64 c.y, .int .i64 c.m, .bool c.s, .int .i64 c.d] := hc
  simp only [List.cons.injEq] at ha' hc'
  obtain ⟨rfl, rfl, rfl, rfl, rfl, rfl, rfl, rfl, _⟩ := ha'
  obtain ⟨rfl, rfl, rfl, rfl, _⟩ := hc'
  have hnil : ∀ A n k, c8 = .slice A n k → A = none → n = 0 ∧ k = 0 := fun A n k e h => by
   subst e; subst h
   obtain ⟨_, h1⟩ := h1
   rcases open_slice Tryz.underlying55 h1 with ⟨hcs, _⟩ | ⟨a, len, cap', k, m, D, Pl, hcs, _⟩
   ·simp at hcs; exact hcs
   ·simp at hcs
  obtain ⟨B, n, cap, f, rfl, r0, c0, m0, hin⟩ := slice_rows (v := c8) (f := fun y : Pay => [.int .i64 y.on.y, .int .i64 y.on.m, .bool y.on.s, .int .i64 y.on.d, .int .i64 y.n.n, .int .i64 y.n.d]) (p := fun y => y.n.In) ⟨⟨0, 0, false, 0⟩, ⟨0, 0⟩⟩ Tryz.underlying55 cells_pay (by decide) (fun _ => rfl) (fun n cs x hx => pay_cells hx) h1
  exact ⟨a, B, n, cap, f, c, rfl, hia, hib, r0, c0, m0, hin, hnil B n cap rfl⟩
end
end Go.Proofs.YthmjpbafbohelaaGreatDoor