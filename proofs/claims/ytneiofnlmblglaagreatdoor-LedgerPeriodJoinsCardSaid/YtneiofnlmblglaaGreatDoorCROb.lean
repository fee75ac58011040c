/- Periods opened, with what the form's own reach says of their sizes; no conditions but those that each lemma states. -/
import Derived.Test.YtneiofnlmblglaaGreatDoorCRO8
import Derived.Test.YtneiofnlmblglaaGreatDoorR11
set_option maxRecDepth 100000
set_option maxHeartbeats 4000000
set_option maxRecDepth 100000
namespace Go.Proofs.YtneiofnlmblglaaGreatDoor
open Go Go.ChangeShapes Go.WideShapes Go.ChangeAt Go.RowKit Go.Deep
theorem cells_lotT : Tryz.prog.cellsOf 68 = 2 := by kernel_rfl
theorem cells_lots : Tryz.prog.cellsOf 28 = 1 := by kernel_rfl
theorem cells_dealT : Tryz.prog.cellsOf 70 = 7 := by kernel_rfl
theorem cells_dealsT : Tryz.prog.cellsOf 29 = 1 := by kernel_rfl
theorem cells_perT : Tryz.prog.cellsOf 31 = 12 := by kernel_rfl
theorem bytes_lot : Tryz.prog.bytesOf 68 = 24 := by kernel_rfl
theorem bytes_deal : Tryz.prog.bytesOf 70 = 80 := by kernel_rfl
theorem memAll {H : Type} {P : Program} {e : TypeId} : ∀ {l : List (DataW H)} {d : DataW H}, d ∈ l → ∀ n ∈ d.weights P e, n ∈ DataW.weightsAll P e l
 | x :: r, d, h, n, hn => by
  simp only [DataW.weightsAll, List.mem_append]
  rcases List.mem_cons.1 h with rfl | h
  ·exact Or.inl hn
  ·exact Or.inr (memAll h n hn)
/-- What the reach says of a period's sizes. -/
structure Pd.Light (p : Pd) : Prop where
 o : p.o.length * 24 ≤ 140737488351232
 c : p.c.length * 24 ≤ 140737488351232
 l : ∀ i, i < p.d.length → (p.d.getD i Qr).l.length * 24 ≤ 140737488351232
 d : p.d.length * 80 ≤ 140737488351232
theorem ofL_range {α : Type} (z : α) (g : Nat → α) {n i : Nat} (h : i < n) : ((List.range n).map g).getD i z = g i := by simp [List.getD, h]
section
variable {H : Type} {enc : TypeId × Value → H} {w : World} {base : Nat} {spare : Nat → Bool} {held : Bool} {r : Reach} {b0 : Nat} {v : Value} {d : DataW H} {p : List MemPlace}
theorem slice_rowsL {P : Program} {α : Type} {t e : TypeId} {sz m : Nat} {v : Value} {x : DataW H × List MemPlace} {f : α → List Value} {p : α → Prop} (d0 : α) (ht : P.underlying t = some (.slice e)) (hC : P.cellsOf e = sz) (hsz : 0 < sz) (hl : ∀ y, (f y).length = sz)
  (hone : ∀ n cs x, DataW.trod enc P w base spare held n e cs = some x → (∀ k ∈ x.1.weights P e, k ≤ reachBytes) → ∃ y, cs = f y ∧ p y) (h : DataW.trod enc P w base spare held m t [v] = some x) (hw : ∀ k ∈ x.1.weights P t, k ≤ reachBytes) :
  ∃ (A : Option Addr) (n cap : Nat) (g : Nat → α), v = .slice A n cap ∧ Qn w A n sz (fun i => f (g i)) ∧ n ≤ cap ∧ cap ≤ maxLen ∧ (A = none → n = 0 ∧ cap = 0) ∧ (∀ i, i < n → p (g i)) ∧ n * P.bytesOf e ≤ reachBytes := by
 rcases open_slice ht h with ⟨hcs, _⟩ | ⟨a, len, cap, k, n, D, Pl, hcs, hb, hlc, hcm, hk, hx, hi⟩
 ·exact ⟨none, 0, 0, fun _ => d0, by simpa using hcs, Qn.nil, Nat.le_refl _, Nat.zero_le _, fun _ => ⟨rfl, rfl⟩, fun i hi => absurd hi (by omega), by simp⟩
 ·have hlk : len ≤ k := by rw [hk]; split <;> omega
  rw [hx] at hw
  have hbytes : len * P.bytesOf e ≤ reachBytes := by
   have := hw ((len + (k - len)) * P.bytesOf e) (by simp [DataW.weights, ht])
   exact Nat.le_trans (Nat.mul_le_mul_right _ (Nat.le_add_right _ _)) this
  have each : ∀ i, ∃ y : α, i < len → (p y ∧ ∀ j u, (f y)[j]? = some u → w.cell? (a.add (i * sz + j)) = some u) := fun i => by
   by_cases hil : i < len
   ·obtain ⟨cs', hc, htr⟩ := hi i (by omega)
    rw [hC] at hc
    obtain ⟨y, rfl, hp⟩ := hone _ _ _ htr (fun q hq => hw q (by
     simp only [DataW.weights, ht]
     exact List.mem_cons_of_mem _ (List.mem_append_left _ (memAll (List.mem_map.2 ⟨i, List.mem_range.2 hil, rfl⟩) q hq))))
    obtain ⟨_, _, hat⟩ := World.cells?_some hc
    refine ⟨y, fun _ => ⟨hp, fun j u hu => ?_⟩⟩
    have hj : j < sz := by have := (List.getElem?_eq_some_iff.1 hu).1; rw [hl] at this; exact this
    rw [← Go.Deep.add_add, hat j hj, hu]
   ·exact ⟨d0, fun h => absurd h hil⟩
  obtain ⟨g, hg⟩ := Classical.axiomOfChoice each
  refine ⟨some a, len, cap, g, by simpa using hcs, fun hn => ?_, hlc, hcm, fun h => (by cases h), fun i hi => (hg i hi).1, hbytes⟩
  obtain ⟨b, off, spot⟩ := a
  have h00 : ((f (g 0))[0]?).isSome := by rw [List.getElem?_eq_getElem (by rw [hl]; exact hsz)]; rfl
  obtain ⟨u, hu⟩ := Option.isSome_iff_exists.1 h00
  have hc0 := (hg 0 hn).2 0 u hu
  have hspot : spot = none := by simpa [Addr.add] using World.cell?_spot hc0
  subst hspot
  have hc0' : w.cell? ⟨b, off, none⟩ = some u := by simpa [add_plain] using hc0
  refine ⟨b, off, rfl, ?_, fun i j v hi hv => ?_⟩
  ·rcases Nat.lt_or_ge b w.heap.size with h1 | h1
   ·exact h1
   ·simp [World.cell?, Array.getElem?_eq_none h1] at hc0'
  ·have := (hg i hi).2 j v hv
   rw [add_plain, ← Nat.add_assoc] at this
   exact this
theorem lot_cells {n : Nat} {cs : List Value} {x : DataW H × List MemPlace} (h : DataW.trod enc Tryz.prog w base spare held n 68 cs = some x) : ∃ y : Lt, cs = [.string y.g, .int .i64 y.n] := by
 obtain ⟨xs, m, _, _, hlen, hxl, hf⟩ := DataW.trod_struct Tryz.underlying68 h
 rw [cells_lotT] at hlen
 match cs, hlen with
 | [a, b], _ =>
  obtain ⟨z0, rfl, _⟩ := Mr (Z9 hxl (by decide) (hf 0 _ rfl) V1)
  obtain ⟨z1, rfl, _⟩ := Xm (Z9 hxl (by decide) (hf 1 _ rfl) Y2)
  exact ⟨⟨z0, z1⟩, rfl⟩
theorem lots_cell {m : Nat} {v : Value} {x : DataW H × List MemPlace} (h : DataW.trod enc Tryz.prog w base spare held m 28 [v] = some x) (hw : ∀ k ∈ x.1.weights Tryz.prog 28, k ≤ reachBytes) : ∃ l : List Lt, Zn w v l ∧ l.length * 24 ≤ 140737488351232 := by
 obtain ⟨A, n, cap, g, rfl, h1, h2, h3, h4, _, h6⟩ := slice_rowsL (f := fun y : Lt => [.string y.g, .int .i64 y.n]) (p := fun _ => True) Xg Tryz.underlying28 cells_lotT (by decide) (fun _ => rfl) (fun n cs x hx _ => by
  obtain ⟨y, hy⟩ := lot_cells hx
  exact ⟨y, hy, trivial⟩) h hw
 rw [bytes_lot, Ow] at h6
 refine ⟨(List.range n).map g, ⟨A, cap, by simp, ?_, by simpa using h2, h3, by simpa using h4⟩, by simpa using h6⟩
 rw [List.length_map, List.length_range]
 exact h1.congr (fun i hi => by simp only [Q4, Qz]; rw [ofL_range Xg g hi])
theorem deal_cells {n : Nat} {cs : List Value} {x : DataW H × List MemPlace} (h : DataW.trod enc Tryz.prog w base spare held n 70 cs = some x) (hw : ∀ k ∈ x.1.weights Tryz.prog 70, k ≤ reachBytes) :
  ∃ y : Dl × Value, cs = Qs y.1 y.2 ∧ Zn w y.2 y.1.l ∧ y.1.l.length * 24 ≤ 140737488351232 := by
 obtain ⟨xs, m, _, hx, hlen, hxl, hf⟩ := DataW.trod_struct Tryz.underlying70 h
 have hxl2 : xs.length = 4 := hxl
 rw [hx] at hw
 have hw' : ∀ n ∈ DataW.weightsEach Tryz.prog [27, 4, 9, 28] (xs.map (·.1)), n ≤ reachBytes := fun n hn => hw n (by
  simp only [DataW.weights, Tryz.underlying70]
  exact hn)
 rw [cells_dealT] at hlen
 match cs, hlen with
 | [c0, c1, c2, c3, c4, c5, c6], _ =>
  obtain ⟨_, h0⟩ := Z9 hxl (by decide) (hf 0 _ rfl) U4
  obtain ⟨a, ha⟩ := V3 h0
  obtain ⟨z4, rfl⟩ := Gk (Z9 hxl (by decide) (hf 1 _ rfl) Gm)
  obtain ⟨z5, rfl, _⟩ := Mr (Z9 hxl (by decide) (hf 2 _ rfl) V1)
  have e3 : DataW.trod enc Tryz.prog w base spare held m 28 [c6] = some xs[3] := Vq (by omega) (hf 3 _ rfl) (n := 1) cells_lots
  obtain ⟨l, hl, hs⟩ := lots_cell e3 (fun k hk => hw' k (DataW.weights_mem_each (j := 3) rfl (by rw [List.getElem?_map, List.getElem?_eq_getElem (by omega)]; rfl) k hk))
  have ha' : [c0, c1, c2, c3] = [.int .i64 a.y, .int .i64 a.m, .bool a.s, .int .i64 a.d] := ha
  simp only [List.cons.injEq] at ha'
  obtain ⟨rfl, rfl, rfl, rfl, _⟩ := ha'
  exact ⟨(⟨a, z4, z5, l⟩, c6), rfl, hl, hs⟩
theorem deals_cell {m : Nat} {v : Value} {x : DataW H × List MemPlace} (h : DataW.trod enc Tryz.prog w base spare held m 29 [v] = some x) (hw : ∀ k ∈ x.1.weights Tryz.prog 29, k ≤ reachBytes) :
  ∃ l : List Dl, Yn w v l ∧ (∀ i, i < l.length → (l.getD i Qr).l.length * 24 ≤ 140737488351232) ∧ l.length * 80 ≤ 140737488351232 := by
 obtain ⟨A, n, cap, g, rfl, h1, h2, h3, h4, h5, h6⟩ := slice_rowsL (f := fun y : Dl × Value => Qs y.1 y.2) (p := fun y => Zn w y.2 y.1.l ∧ y.1.l.length * 24 ≤ 140737488351232) (Qr, .slice none 0 0) Tryz.underlying29 cells_dealT (by decide) (fun _ => rfl) (fun n cs x hx hk => deal_cells hx hk) h hw
 rw [bytes_deal, Ow] at h6
 have hg : ∀ i, i < n → ((List.range n).map (fun i => (g i).1)).getD i Qr = (g i).1 := fun i hi => ofL_range Qr _ hi
 refine ⟨(List.range n).map (fun i => (g i).1), ⟨A, cap, fun i => (g i).2, by simp, ?_, by simpa using h2, h3, by simpa using h4, fun i hi => ?_⟩, fun i hi => ?_, by simpa using h6⟩
 ·rw [List.length_map, List.length_range]
  exact h1.congr (fun i hi => by show Qs _ _ = Qs _ _; rw [hg i hi])
 ·rw [List.length_map, List.length_range] at hi
  rw [hg i hi]
  exact (h5 i hi).1
 ·rw [List.length_map, List.length_range] at hi
  rw [hg i hi]
  exact (h5 i hi).2
theorem per_cells {n : Nat} {cs : List Value} {x : DataW H × List MemPlace} (h : DataW.trod enc Tryz.prog w base spare held n 31 cs = some x) (hw : ∀ k ∈ x.1.weights Tryz.prog 31, k ≤ reachBytes) :
  ∃ y : Pd × Value × Value × Value, cs = Jp y.1 y.2.1 y.2.2.1 y.2.2.2 ∧ Zz w y.1 y.2.1 y.2.2.1 y.2.2.2 ∧ y.1.Light := by
 obtain ⟨xs, m, _, hx, hlen, hxl, hf⟩ := DataW.trod_struct Tryz.underlying31 h
 have hxl2 : xs.length = 6 := hxl
 rw [hx] at hw
 have hw' : ∀ n ∈ DataW.weightsEach Tryz.prog [9, 27, 27, 28, 29, 28] (xs.map (·.1)), n ≤ reachBytes := fun n hn => hw n (by
  simp only [DataW.weights, Tryz.underlying31]
  exact hn)
 rw [cells_perT] at hlen
 match cs, hlen with
 | [c0, c1, c2, c3, c4, c5, c6, c7, c8, c9, c10, c11], _ =>
  obtain ⟨z0, rfl, _⟩ := Mr (Z9 hxl (by decide) (hf 0 _ rfl) V1)
  obtain ⟨_, h1⟩ := Z9 hxl (by decide) (hf 1 _ rfl) U4
  obtain ⟨_, h2⟩ := Z9 hxl (by decide) (hf 2 _ rfl) U4
  obtain ⟨a, ha⟩ := V3 h1
  obtain ⟨b, hb⟩ := V3 h2
  have e3 : DataW.trod enc Tryz.prog w base spare held m 28 [c9] = some xs[3] := Vq (by omega) (hf 3 _ rfl) (n := 1) cells_lots
  have e4 : DataW.trod enc Tryz.prog w base spare held m 29 [c10] = some xs[4] := Vq (by omega) (hf 4 _ rfl) (n := 1) cells_dealsT
  have e5 : DataW.trod enc Tryz.prog w base spare held m 28 [c11] = some xs[5] := Vq (by omega) (hf 5 _ rfl) (n := 1) cells_lots
  obtain ⟨lo, ho, hso⟩ := lots_cell e3 (fun k hk => hw' k (DataW.weights_mem_each (j := 3) rfl (by rw [List.getElem?_map, List.getElem?_eq_getElem (by omega)]; rfl) k hk))
  obtain ⟨ld, hd, hsl, hsd⟩ := deals_cell e4 (fun k hk => hw' k (DataW.weights_mem_each (j := 4) rfl (by rw [List.getElem?_map, List.getElem?_eq_getElem (by omega)]; rfl) k hk))
  obtain ⟨lc, hc, hsc⟩ := lots_cell e5 (fun k hk => hw' k (DataW.weights_mem_each (j := 5) rfl (by rw [List.getElem?_map, List.getElem?_eq_getElem (by omega)]; rfl) k hk))
  have ha' : [c1, c2, c3, c4] = [.int .i64 a.y, .int .i64 a.m, .bool a.s, .int .i64 a.d] := ha
  have hb' : [c5, c6, c7, c8] = [.int .i64 b.y, .int .i64 b.m, .bool b.s, .int .i64 b.d] := hb
  simp only [List.cons.injEq] at ha' hb'
  obtain ⟨rfl, rfl, rfl, rfl, _⟩ := ha'
  obtain ⟨rfl, rfl, rfl, rfl, _⟩ := hb'
  exact ⟨(⟨z0, a, b, lo, ld, lc⟩, c9, c10, c11), rfl, ⟨ho, hd, hc⟩, ⟨hso, hsc, hsl, hsd⟩⟩
theorem period_open (hv : Value.okWide Tryz.prog w r b0 31 v) (h : DataW.Trod enc Tryz.prog w base spare held 31 v d p) (hl : ∀ n ∈ d.weights Tryz.prog 31, n ≤ reachBytes) :
  ∃ (p : Pd) (vo vd vc : Value), v = .agg #[.string p.h, .int .i64 p.a.y, .int .i64 p.a.m, .bool p.a.s, .int .i64 p.a.d, .int .i64 p.b.y, .int .i64 p.b.m, .bool p.b.s, .int .i64 p.b.d, vo, vd, vc] ∧ Zz w p vo vd vc ∧ p.Light := by
 obtain ⟨cs, rfl, hsz⟩ := okWide_struct Tryz.underlying31 hv
 obtain ⟨fuel, hf⟩ := h
 obtain ⟨⟨p, vo, vd, vc⟩, hy, hP, hL⟩ := per_cells hf hl
 obtain ⟨cs⟩ := cs
 have hy' : cs = Jp p vo vd vc := hy
 exact ⟨p, vo, vd, vc, by rw [hy']; rfl, hP, hL⟩
theorem periods_open (hv : Value.okWide Tryz.prog w r b0 41 v) (h : DataW.Trod enc Tryz.prog w base spare held 41 v d p) (hl : ∀ n ∈ d.weights Tryz.prog 41, n ≤ reachBytes) :
  ∃ l : List Pd, Wx w v l ∧ (∀ i, i < l.length → (l.getD i Wh).Light) ∧ l.length * 152 ≤ 140737488351232 := by
 obtain ⟨a, len, cap, rfl⟩ := okWide_slice Tryz.underlying41 hv
 obtain ⟨fuel, hf⟩ := h
 obtain ⟨A, n, cap, g, e, h1, h2, h3, h4, h5, h6⟩ := slice_rowsL (f := fun y : Pd × Value × Value × Value => Jp y.1 y.2.1 y.2.2.1 y.2.2.2) (p := fun y => Zz w y.1 y.2.1 y.2.2.1 y.2.2.2 ∧ y.1.Light) (Wh, .slice none 0 0, .slice none 0 0, .slice none 0 0) Tryz.underlying41 cells_perT (by decide) (fun _ => rfl) (fun n cs x hx hk => per_cells hx hk) hf hl
 rw [show Tryz.prog.bytesOf 31 = 152 by kernel_rfl, Ow] at h6
 have hg : ∀ i, i < n → ((List.range n).map (fun i => (g i).1)).getD i Wh = (g i).1 := fun i hi => ofL_range Wh _ hi
 rw [e]
 refine ⟨(List.range n).map (fun i => (g i).1), ⟨A, cap, fun i => (g i).2.1, fun i => (g i).2.2.1, fun i => (g i).2.2.2, by simp, ?_, by simpa using h2, h3, by simpa using h4, fun i hi => ?_⟩, fun i hi => ?_, by simpa using h6⟩
 ·rw [List.length_map, List.length_range]
  exact h1.congr (fun i hi => by show Jp _ _ _ _ = Jp _ _ _ _; rw [hg i hi])
 ·rw [List.length_map, List.length_range] at hi
  rw [hg i hi]
  exact (h5 i hi).1
 ·rw [List.length_map, List.length_range] at hi
  rw [hg i hi]
  exact (h5 i hi).2
end
end Go.Proofs.YtneiofnlmblglaaGreatDoor