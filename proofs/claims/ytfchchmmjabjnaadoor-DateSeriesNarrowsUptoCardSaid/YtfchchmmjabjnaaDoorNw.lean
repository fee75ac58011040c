/- The walk of DateSeriesNarrows, with the arguments opened; no conditions but those that each lemma states. -/
import Derived.Test.YtfchchmmjabjnaaDoorOp
import Derived.Test.YtfchchmmjabjnaaDoorLh
import Derived.Test.YtfchchmmjabjnaaDoorPl6
import Derived.Test.YtfchchmmjabjnaaDoorLa
import Derived.Test.YtfchchmmjabjnaaDoorWz
import Derived.Laws.Append
set_option maxRecDepth 100000
namespace Go.Proofs.YtfchchmmjabjnaaDoor
open Go Go.ChangeShapes Go.WideShapes Go.ChangeAt Go.RowKit Go.Deep
section
variable {H : Type} {enc : TypeId × Value → H} {w : World} {base : Nat} {spare : Nat → Bool} {held : Bool} {r : Reach} {b0 : Nat} {v : Value} {d : DataW H} {p : List MemPlace}
theorem int_open (hv : Value.okWide Tryd.prog w r b0 3 v) (h : DataW.Trod enc Tryd.prog w base spare held 3 v d p) : ∃ z : Int, v = .int .i64 z ∧ -9223372036854775808 ≤ z ∧ z ≤ 9223372036854775807 := by
  obtain ⟨z, rfl⟩ := okWide_int Tryd.underlying3 hv
  obtain ⟨n, h⟩ := h
  obtain ⟨z', e, h1⟩ := int_cell (v := .int .i64 z) ⟨_, h⟩
  cases e
  exact ⟨z, rfl, h1⟩
theorem string_open (hv : Value.okWide Tryd.prog w r b0 9 v) (h : DataW.Trod enc Tryd.prog w base spare held 9 v d p) : ∃ s : ByteArray, v = .string s ∧ s.size ≤ maxLen := by
  obtain ⟨s, rfl⟩ := okWide_string Tryd.underlying9 hv
  obtain ⟨n, h⟩ := h
  obtain ⟨s', e, h1⟩ := string_cell (v := .string s) ⟨_, h⟩
  cases e
  exact ⟨s, rfl, h1⟩
theorem traces_open (hv : Value.okWide Tryd.prog w r b0 26 v) (h : DataW.Trod enc Tryd.prog w base spare held 26 v d p) :
    ∃ (B : Option Addr) (n cap : Nat) (f : Nat → Tr), v = .slice B n cap ∧ RowsAt w B n 7 (fun i => (f i).cells) ∧ n ≤ cap ∧ cap ≤ maxLen := by
  obtain ⟨a, len, cap, rfl⟩ := okWide_slice Tryd.underlying26 hv
  obtain ⟨n, h⟩ := h
  obtain ⟨B, n', cap', f, h1, h2, h3, h4, _⟩ := slice_rows (v := .slice a len cap) (f := fun t : Tr => t.cells) (p := fun t => t.nm.size ≤ maxLen ∧ t.kg.size ≤ maxLen) ⟨0, false, 0, false, ByteArray.empty, 0, ByteArray.empty⟩ Tryd.underlying26 cells_trace (by decide) (fun _ => rfl) (fun n cs x hx => trace_cells hx) ⟨_, h⟩
  exact ⟨B, n', cap', f, h1, h2, h3, h4⟩
theorem ints_open (hv : Value.okWide Tryd.prog w r b0 63 v) (h : DataW.Trod enc Tryd.prog w base spare held 63 v d p) :
    ∃ (B : Option Addr) (n cap : Nat) (f : Nat → Int), v = .slice B n cap ∧ RowsAt w B n 1 (fun i => [.int .i64 (f i)]) ∧ n ≤ cap ∧ cap ≤ maxLen ∧ ∀ i, i < n → -9223372036854775808 ≤ f i ∧ f i ≤ 9223372036854775807 := by
  obtain ⟨a, len, cap, rfl⟩ := okWide_slice Tryd.underlying63 hv
  obtain ⟨n, h⟩ := h
  exact slice_rows (v := .slice a len cap) (f := fun z : Int => [.int .i64 z]) (p := fun z => -9223372036854775808 ≤ z ∧ z ≤ 9223372036854775807) 0 Tryd.underlying63 cells_int (by decide) (fun _ => rfl) (fun n cs x hx => by
    obtain ⟨z, e, _, _⟩ := DataW.trod_int Tryd.underlying3 hx
    subst e
    obtain ⟨z', e, h1⟩ := int_cell (v := .int .i64 z) ⟨_, hx⟩
    cases e
    exact ⟨z, rfl, h1⟩) ⟨_, h⟩
theorem arr_open (hv : Value.okWide Tryd.prog w r b0 47 v) (h : DataW.Trod enc Tryd.prog w base spare held 47 v d p) :
    ∃ x y : Int, v = .agg #[.int .i64 x, .int .i64 y] ∧ (-9223372036854775808 ≤ x ∧ x ≤ 9223372036854775807) ∧ -9223372036854775808 ≤ y ∧ y ≤ 9223372036854775807 := by
  have hc : ∃ cs, v = .agg cs ∧ cs.size = 2 := by
    simp only [Value.okWide, Tryd.underlying47] at hv
    obtain ⟨cs, h1, h2, _⟩ := hv
    exact ⟨cs, h1, h2.trans (by kernel_rfl)⟩
  obtain ⟨cs, rfl, hsz⟩ := hc
  obtain ⟨fuel, hf⟩ := h
  obtain ⟨xs, m, _, _, _, hxl, hf⟩ := DataW.trod_array Tryd.underlying47 hf
  obtain ⟨cs⟩ := cs
  match cs, hsz with
  | [a, b], _ =>
    have e0 := hf 0 (by decide)
    have e1 := hf 1 (by decide)
    rw [cells_int] at e0 e1
    rw [List.getElem?_eq_getElem (by omega)] at e0 e1
    obtain ⟨x, rfl, hx⟩ := int_cell ⟨_, e0⟩
    obtain ⟨y, rfl, hy⟩ := int_cell ⟨_, e1⟩
    exact ⟨x, y, rfl, hx, hy⟩
theorem added_open (hv : Value.okWide Tryd.prog w r b0 55 v) (h : DataW.Trod enc Tryd.prog w base spare held 55 v d p) :
    ∃ (t : Tr) (k : Int), v = .agg #[.int .i64 t.d, .bool t.more, .int .i64 t.m, .bool t.s, .string t.nm, .int .i64 t.af, .string t.kg, .int .i64 k] ∧ -9223372036854775808 ≤ k ∧ k ≤ 9223372036854775807 := by
  obtain ⟨cs, rfl, hsz⟩ := okWide_struct Tryd.underlying55 hv
  obtain ⟨fuel, hf⟩ := h
  obtain ⟨xs, m, _, _, hlen, hxl, hf⟩ := DataW.trod_struct Tryd.underlying55 hf
  obtain ⟨cs⟩ := cs
  have e8 : Tryd.prog.cellsOf 55 = 8 := by kernel_rfl
  rw [e8] at hsz
  match cs, hsz with
  | [c0, c1, c2, c3, c4, c5, c6, c7], _ =>
    obtain ⟨_, h0⟩ := sub_read hxl (by decide) (hf 0 _ rfl) cells_trace
    obtain ⟨t, ht, _⟩ := trace_cells h0
    obtain ⟨k, hk, h1⟩ := int_cell (sub_read hxl (by decide) (hf 1 _ rfl) cells_int)
    have ht' : [c0, c1, c2, c3, c4, c5, c6] = t.cells := ht
    simp only [Tr.cells, List.cons.injEq] at ht'
    obtain ⟨rfl, rfl, rfl, rfl, rfl, rfl, rfl, _⟩ := ht'
    subst hk
    exact ⟨t, k, rfl, h1⟩
end
end Go.Proofs.YtfchchmmjabjnaaDoor

namespace Go.Proofs.YtfchchmmjabjnaaDoor

/-- A trace put in at place k. -/
def insT (f : Nat → Tr) (k : Nat) (t : Tr) (i : Nat) : Tr := if i < k then f i else if i = k then t else f (i - 1)
def past (k i : Nat) : Nat := if i < k then i else i + 1
theorem insT_past (f : Nat → Tr) (k : Nat) (t : Tr) (i : Nat) : insT f k t (past k i) = f i := by
  unfold insT past
  by_cases h : i < k
  · rw [if_pos h, if_pos h]
  · rw [if_neg h, if_neg (by omega), if_neg (by omega)]; rfl
theorem asg_past {f : Nat → Tr} {k n : Nat} {t : Tr} {c : Cal} {D : Nat → Int} (h : Asg (fun i => c.spans (insT f k t i)) (n + 1) D) : Asg (fun i => c.spans (f i)) n (fun i => D (past k i)) := by
  refine ⟨fun i hi => ?_, fun i hi => ?_⟩
  · have := h.1 (past k i) (by unfold past; split <;> omega)
    simp only [insT_past] at this
    exact this
  · show D (past k i) ≤ D (past k (i + 1))
    unfold past
    by_cases h1 : i + 1 < k
    · rw [if_pos (by omega), if_pos h1]; exact h.2 i (by omega)
    · rw [if_neg h1]
      by_cases h2 : i < k
      · rw [if_pos h2]
        have a1 := h.2 i (by omega)
        have a2 := h.2 (i + 1) (by omega)
        omega
      · rw [if_neg h2]; exact h.2 (i + 1) (by omega)
theorem narrow_sum {c : Cal} {f : Nat → Tr} {k n : Nat} {t : Tr} (h : c.serE (insT f k t) (n + 1) = 0) : c.serE f n = 0 ∧ (c.serV f n).length = n ∧ (c.serV (insT f k t) (n + 1)).length = n + 1 ∧
    ∀ i, i < n → ((c.serV f n).getD i zSp).a ≤ ((c.serV (insT f k t) (n + 1)).getD (past k i) zSp).a ∧ ((c.serV (insT f k t) (n + 1)).getD (past k i) zSp).b ≤ ((c.serV f n).getD i zSp).b := by
  obtain ⟨hv, hn, hok, hf, hV⟩ := serE_ok h
  have hS : ∀ i, SpOk (c.spans (insT f k t i)) := fun i => spans_ok (valid_ny hv) _
  have hS' : ∀ i, SpOk (c.spans (f i)) := fun i => spans_ok (valid_ny hv) _
  have hA := asg_past (early_asg hS hf)
  have hB := asg_past (late_asg hS hf)
  have hok' : serOk f n = true := List.all_eq_true.2 fun i hi => by
    have hi' := List.mem_range.1 hi
    have := List.all_eq_true.1 hok (past k i) (List.mem_range.2 (by unfold past; split <;> omega))
    simp only [insT_past] at this
    exact this
  have hE := serE_of hv (by omega) hok' (asg_fail hS' hA)
  have hV' := (serE_ok hE).2.2.2.2
  refine ⟨hE, by rw [hV']; exact serL_len _ _, by rw [hV]; exact serL_len _ _, fun i hi => ?_⟩
  have hp : past k i < n + 1 := by unfold past; split <;> omega
  rw [hV, hV', serL_get hi, serL_get hp]
  exact ⟨(early_le hS' hA i hi).1, (late_ge hS' hB (n - i - 1) i (by omega)).1⟩
end Go.Proofs.YtfchchmmjabjnaaDoor

namespace Go.Proofs.YtfchchmmjabjnaaDoor
open Go Go.RowKit
attribute [local go_sem] gv_yes

set_option maxHeartbeats 1000000 in
theorem bring_any (n m : Int) (w : World) (hm : 1 ≤ m) (hm2 : m ≤ 9223372036854775807) : Calls Tryd.prog 35 #[.int .i64 n, .int .i64 m] w fun e w' => e = .returned (.int .i64 (bringI n m)) ∧ w' = w := by
  have h1 := Int.tmod_lt_of_pos n (show 0 < m by omega)
  have h2 := Int.lt_tmod_of_pos n (show 0 < m by omega)
  have HR : Hid (bringI n m = if n.tmod m < 0 then n.tmod m + m else n.tmod m) := by unfold Hid bringI; rw [if_neg (by omega)]
  by_cases hn : n.tmod m < 0
  · go_enter Tryd.func35, Tryd.ntmps35
    go_wp2
    go_ret
    exact ⟨ret_int (by rw [HR.out, if_pos hn]), rfl⟩
  · go_enter Tryd.func35, Tryd.ntmps35
    go_wp2
    go_ret
    exact ⟨ret_int (by rw [HR.out, if_neg (by omega)]), rfl⟩
theorem bring_ext (n m : Int) (w : World) (hm : 1 ≤ m) (hm2 : m ≤ 9223372036854775807) : Calls Tryd.prog 35 #[.int .i64 n, .int .i64 m] w fun e w' => e = .returned (.int .i64 (bringI n m)) ∧ Ext w w' :=
  (bring_any n m w hm hm2).mono fun _ _ ⟨h1, h2⟩ => ⟨h1, by rw [h2]; exact Ext.refl _⟩
theorem Held.off {W : World} {b b' i : Nat} {t : TypeId} {cs : Array Value} (h : Held W b t cs) (hne : b' ≠ b) (u : Value) : Held (W.setCell ⟨b', i, none⟩ u) b t cs := by
  unfold Held at h ⊢
  simp [World.setCell, Array.getElem?_modify, hne, h]
set_option maxRecDepth 100000 in
set_option maxHeartbeats 4000000 in
theorem hidden_any (t : Tr) (which day : Int) (w : World) (_hd : t.d ≤ 30) :
    Calls Tryd.prog 34 #[.agg #[.int .i64 t.d, .bool t.more, .int .i64 t.m, .bool t.s, .string t.nm, .int .i64 t.af, .string t.kg], .int .i64 which, .int .i64 day] w fun e w' => e = .returned (.agg #[.int .i64 (t.hide which day).d, .bool (t.hide which day).more, .int .i64 (t.hide which day).m, .bool (t.hide which day).s, .string (t.hide which day).nm, .int .i64 (t.hide which day).af, .string (t.hide which day).kg]) ∧ Ext w w' := by
  have HN : noB = ⟨#[]⟩ := rfl
  by_cases h0 : which = 0
  · subst h0
    have HR : Hid (t.hide 0 day = ⟨0, false, t.m, t.s, t.nm, t.af, t.kg⟩) := rfl
    generalize t.hide 0 day = u at *
    go_enter Tryd.func34, Tryd.ntmps34
    go_wp2
    refine bodyPost_ret (v := .agg #[.int .i64 0, .bool false, .int .i64 t.m, .bool t.s, .string t.nm, .int .i64 t.af, .string t.kg]) (by simp [results, Tryd.results34, go_sem]) rfl ⟨by rw [HR.out], (by repeat (first | exact Ext.refl _ | (refine Ext.alloc ?_ _) | (refine Ext.trans ?_ (by assumption))))⟩
  · have f0 := Lib.hid h0
    have g0 : (which == 0) = false := beq_eq_false_iff_ne.2 h0
    clear h0
    by_cases h1 : which = 1
    · subst h1
      by_cases hp : 0 < t.d
      · have hb := bringI_bd (n := day) hp
        have HR : Hid (t.hide 1 day = ⟨1 + bringI day t.d, true, t.m, t.s, t.nm, t.af, t.kg⟩) := by unfold Hid Tr.hide; rw [if_neg (by decide), if_pos rfl, if_pos hp]
        have NB := fun w => bring_ext day t.d w (by omega) (by omega)
        generalize bringI day t.d = r at *
        obtain ⟨hb1, hb2⟩ := hb
        generalize t.hide 1 day = u at *
        go_enter Tryd.func34, Tryd.ntmps34
        go_upto_region 13 with (go_at_call 35; (with_reducible refine Calls.mono (NB _) ?_); rintro e wq ⟨rfl, hq⟩; have hz := (Held.ext (b := w.heap.size) (t := 33) (cs := #[.int .i64 t.d, .bool t.more, .int .i64 t.m, .bool t.s, .string t.nm, .int .i64 t.af, .string t.kg]) (by repeat (first | (refine Held.at _ _ _ _ ?_; (simp; done)) | refine Held.alloc ?_ _)) hq); have hy := (Held.ext (b := w.heap.size + 1) (t := 33) (cs := #[.int .i64 0, .bool false, .int .i64 0, .bool false, .string ⟨#[]⟩, .int .i64 0, .string ⟨#[]⟩]) (by repeat (first | (refine Held.at _ _ _ _ ?_; (simp; done)) | refine Held.alloc ?_ _)) hq); obtain ⟨c0, c1, c2, c3, c4, c5, c6⟩ := hz.c7; obtain ⟨d0, d1, d2, d3, d4, d5, d6⟩ := frozen7 hz; have lz := hz.lt)
        have E1 : Ext w ((wq.setCell ⟨w.heap.size, 0, none⟩ (.int .i64 (1 + r))).setCell ⟨w.heap.size, 1, none⟩ (.bool true)) := by
          have e : Ext w wq := (by repeat (first | exact Ext.refl _ | (refine Ext.alloc ?_ _) | (refine Ext.trans ?_ (by assumption))))
          exact (e.setCell (p := ⟨w.heap.size, 0, none⟩) (Nat.le_refl _) _).setCell (p := ⟨w.heap.size, 1, none⟩) (Nat.le_refl _) _
        have Z1 := (hz.set 0 (.int .i64 (1 + r))).set 1 (.bool true)
        have Y1 := (hy.off (b' := w.heap.size) (i := 0) (by omega) (.int .i64 (1 + r))).off (b' := w.heap.size) (i := 1) (by omega) (.bool true)
        simp only [List.setIfInBounds_toArray, List.set_cons_zero, List.set_cons_succ] at Z1
        clear c0 c1 c2 c3 c4 c5 c6 d0 d1 d2 d3 d4 d5 d6 lz hz hy hq
        generalize ((wq.setCell ⟨w.heap.size, 0, none⟩ (.int .i64 (1 + r))).setCell ⟨w.heap.size, 1, none⟩ (.bool true)) = v at *
        obtain ⟨c0, c1, c2, c3, c4, c5, c6⟩ := Z1.c7
        have lz := Z1.lt
        obtain ⟨d0, d1, d2, d3, d4, d5, d6⟩ := frozen7 Y1
        obtain ⟨y0, y1, y2, y3, y4, y5, y6⟩ := Y1.c7
        have ly := Y1.lt
        go_wp2
        obtain ⟨hs, gE⟩ := seven_set Y1 (.int .i64 (1 + r)) (.bool true) (.int .i64 t.m) (.bool t.s) (.string t.nm) (.int .i64 t.af) (.string t.kg)
        obtain ⟨q0, q1, q2, q3, q4, q5, q6⟩ := hs.c7
        refine bodyPost_ret (v := .agg #[.int .i64 (1 + r), .bool true, .int .i64 t.m, .bool t.s, .string t.nm, .int .i64 t.af, .string t.kg]) (by simp [results, Tryd.results34, go_sem, q0, q1, q2, q3, q4, q5, q6]) rfl ⟨by rw [HR.out], gE w E1 (by omega)⟩
      · have HR : Hid (t.hide 1 day = t) := by unfold Hid Tr.hide; rw [if_neg (by decide), if_pos rfl, if_neg hp]
        generalize t.hide 1 day = u at *
        go_enter Tryd.func34, Tryd.ntmps34
        go_wp2
        refine bodyPost_ret (v := .agg #[.int .i64 t.d, .bool t.more, .int .i64 t.m, .bool t.s, .string t.nm, .int .i64 t.af, .string t.kg]) (by simp [results, Tryd.results34, go_sem]) rfl ⟨by rw [HR.out], (by repeat (first | exact Ext.refl _ | (refine Ext.alloc ?_ _) | (refine Ext.trans ?_ (by assumption))))⟩
    · have f1 := Lib.hid h1
      have g1 : (which == 1) = false := beq_eq_false_iff_ne.2 h1
      clear h1
      by_cases h2 : which = 2
      · subst h2
        have HR : Hid (t.hide 2 day = ⟨t.d, t.more, 0, false, t.nm, t.af, t.kg⟩) := rfl
        generalize t.hide 2 day = u at *
        go_enter Tryd.func34, Tryd.ntmps34
        go_wp2
        refine bodyPost_ret (v := .agg #[.int .i64 t.d, .bool t.more, .int .i64 0, .bool false, .string t.nm, .int .i64 t.af, .string t.kg]) (by simp [results, Tryd.results34, go_sem]) rfl ⟨by rw [HR.out], (by repeat (first | exact Ext.refl _ | (refine Ext.alloc ?_ _) | (refine Ext.trans ?_ (by assumption))))⟩
      · have f2 := Lib.hid h2
        have g2 : (which == 2) = false := beq_eq_false_iff_ne.2 h2
        clear h2
        by_cases h3 : which = 3
        · subst h3
          have HR : Hid (t.hide 3 day = ⟨t.d, t.more, t.m, t.s, noB, 0, t.kg⟩) := rfl
          generalize t.hide 3 day = u at *
          go_enter Tryd.func34, Tryd.ntmps34
          go_wp2
          refine bodyPost_ret (v := .agg #[.int .i64 t.d, .bool t.more, .int .i64 t.m, .bool t.s, .string ⟨#[]⟩, .int .i64 0, .string t.kg]) (by simp [results, Tryd.results34, go_sem]) rfl ⟨by rw [HR.out, HN], (by repeat (first | exact Ext.refl _ | (refine Ext.alloc ?_ _) | (refine Ext.trans ?_ (by assumption))))⟩
        · have f3 := Lib.hid h3
          have g3 : (which == 3) = false := beq_eq_false_iff_ne.2 h3
          clear h3
          by_cases h4 : which = 4
          · subst h4
            have HR : Hid (t.hide 4 day = ⟨t.d, t.more, t.m, t.s, t.nm, t.af, noB⟩) := rfl
            generalize t.hide 4 day = u at *
            go_enter Tryd.func34, Tryd.ntmps34
            go_wp2
            refine bodyPost_ret (v := .agg #[.int .i64 t.d, .bool t.more, .int .i64 t.m, .bool t.s, .string t.nm, .int .i64 t.af, .string ⟨#[]⟩]) (by simp [results, Tryd.results34, go_sem]) rfl ⟨by rw [HR.out, HN], (by repeat (first | exact Ext.refl _ | (refine Ext.alloc ?_ _) | (refine Ext.trans ?_ (by assumption))))⟩
          · have HR : Hid (t.hide which day = t) := by unfold Hid Tr.hide; rw [if_neg f0.out, if_neg f1.out, if_neg f2.out, if_neg f3.out, if_neg h4]
            have g4 : (which == 4) = false := beq_eq_false_iff_ne.2 h4
            clear h4
            generalize t.hide which day = u at *
            go_enter Tryd.func34, Tryd.ntmps34
            go_wp2
            refine bodyPost_ret (v := .agg #[.int .i64 t.d, .bool t.more, .int .i64 t.m, .bool t.s, .string t.nm, .int .i64 t.af, .string t.kg]) (by simp [results, Tryd.results34, go_sem]) rfl ⟨by rw [HR.out], (by repeat (first | exact Ext.refl _ | (refine Ext.alloc ?_ _) | (refine Ext.trans ?_ (by assumption))))⟩
end Go.Proofs.YtfchchmmjabjnaaDoor

namespace Go.Proofs.YtfchchmmjabjnaaDoor
open Go Go.RowKit
attribute [local go_sem] gv_yes

def cut5 (A : Value → Value → Value → Value → Value → Act) (S : World → Value → Prop) : Exit → Act → World → Prop := fun e a' w' => e = .normal ∧ ∃ p q r z s, S w' s ∧ a' = A p q r z s
theorem cut5_is {A : Value → Value → Value → Value → Value → Act} {S : World → Value → Prop} {w' : World} (p q r z s : Value) {a' : Act} (h : S w' s) (ha : a' = A p q r z s) : cut5 A S .normal a' w' := ⟨rfl, p, q, r, z, s, h, ha⟩
theorem wp_cut5 {P : Program} {c : Code} {Q : Exit → Act → World → Prop} {a : Act} {w : World} {A : Value → Value → Value → Value → Value → Act} (S : World → Value → Prop) (h1 : c.wp P (cut5 A S) a w) (h2 : ∀ p q r z s w', S w' s → Q .normal (A p q r z s) w') : c.wp P Q a w :=
  Code.wp_mono (fun e a' w' ⟨he, p, q, r, z, s, hs, ha⟩ => by subst he; subst ha; exact h2 p q r z s w' hs) h1
theorem info_trace : (Tryd.prog.info? 33).map (fun i => (i.zero, i.size, i.bytes)) = some (some (.agg #[.int .i64 0, .bool false, .int .i64 0, .bool false, .string ⟨#[]⟩, .int .i64 0, .string ⟨#[]⟩]), 7, 72) := by kernel_rfl
def rowsL (f : Nat → Tr) (k : Nat) : List Value := (List.range k).flatMap fun i => (f i).cells
theorem rowsL_succ (f : Nat → Tr) (k : Nat) : rowsL f (k + 1) = rowsL f k ++ (f k).cells := by simp [rowsL, List.range_succ]
theorem rowsL_len (f : Nat → Tr) : ∀ k, (rowsL f k).length = k * 7
  | 0 => rfl
  | k + 1 => by rw [rowsL_succ, List.length_append, rowsL_len f k]; show _ + 7 = _; omega
theorem rowsL_get (f : Nat → Tr) : ∀ {k i j : Nat}, i < k → j < 7 → (rowsL f k)[i * 7 + j]? = (f i).cells[j]?
  | k + 1, i, j, hi, hj => by
    rw [rowsL_succ]
    by_cases h : i = k
    · subst h
      rw [List.getElem?_append_right (by rw [rowsL_len]; omega), rowsL_len, show i * 7 + j - i * 7 = j by omega]
    · rw [List.getElem?_append_left (by rw [rowsL_len]; omega)]
      exact rowsL_get f (by omega) hj
theorem rowsL_add (f : Nat → Tr) (k : Nat) : ∀ m, rowsL f (k + m) = rowsL f k ++ rowsL (fun i => f (k + i)) m
  | 0 => by simp [rowsL]
  | m + 1 => by rw [← Nat.add_assoc, rowsL_succ, rowsL_add f k m, rowsL_succ, List.append_assoc]
theorem rowsL_congr {f g : Nat → Tr} {k : Nat} (h : ∀ i, i < k → f i = g i) : rowsL f k = rowsL g k := by
  induction k with
  | zero => rfl
  | succ k ih => rw [rowsL_succ, rowsL_succ, ih (fun i hi => h i (by omega)), h k (by omega)]
theorem rowsL_ins {f : Nat → Tr} {k n : Nat} {t : Tr} (hk : k ≤ n) : rowsL f k ++ t.cells ++ rowsL (fun i => f (k + i)) (n - k) = rowsL (insT f k t) (n + 1) := by
  rw [show n + 1 = (k + 1) + (n - k) by omega, rowsL_add, rowsL_succ]
  congr 1
  · congr 1
    · exact rowsL_congr fun i hi => by unfold insT; rw [if_pos hi]
    · unfold insT; rw [if_neg (by omega), if_pos rfl]
  · exact rowsL_congr fun i _ => by unfold insT; rw [if_neg (by omega), if_neg (by omega)]; congr 1; omega
theorem cells_one (t : Tr) : ∀ u ∈ t.cells, u.oneCell' = true := by simp [Tr.cells, Value.oneCell']
theorem rowsL_one (f : Nat → Tr) (k : Nat) : ∀ u ∈ rowsL f k, u.oneCell' = true := fun u hu => by
  obtain ⟨i, _, hi⟩ := List.mem_flatMap.1 hu
  exact cells_one _ u hi
theorem held_news {w : World} {b : Nat} {t : TypeId} {cs : Array Value} (h : Held w b t cs) : ∀ j u, cs.toList[j]? = some u → w.cell? ((⟨b, 0, none⟩ : Addr).add j) = some u := fun j u hj => by
  have e : (⟨b, 0, none⟩ : Addr).add j = ⟨b, j, none⟩ := by unfold Addr.add; split <;> simp_all
  rw [e, h.cell j]
  simpa using hj
/-- The cells of a slice's elements, by its address. -/
def NewsOk (a : Addr) (f : Nat → Tr) (n : Nat) (w : World) : Prop := 0 < n → ∃ b o, a = ⟨b, o, none⟩ ∧ b < w.heap.size ∧ ∀ i j u, i < n → (f i).cells[j]? = some u → w.cell? ⟨b, o + i * 7 + j, none⟩ = some u
theorem rows_news {w : World} {a : Addr} {n : Nat} {f : Nat → Tr} (h : RowsAt w (some a) n 7 (fun i => (f i).cells)) : NewsOk a f n w := fun h0 => by
  obtain ⟨b, o, e, hb, hc⟩ := h h0
  exact ⟨b, o, Option.some.inj e, hb, hc⟩
theorem plain_add (b o j : Nat) : (⟨b, o, none⟩ : Addr).add j = ⟨b, o + j, none⟩ := by unfold Addr.add; split <;> simp_all
theorem news_part {w : World} {a : Addr} {n : Nat} {f : Nat → Tr} (h : NewsOk a f n w) (s m : Nat) (hs : s + m ≤ n) : ∀ j u, (rowsL (fun i => f (s + i)) m)[j]? = some u → w.cell? ((a.add (s * 7)).add j) = some u := fun j u hj => by
  have hjl : j < m * 7 := by have := (List.getElem?_eq_some_iff.1 hj).1; rwa [rowsL_len] at this
  obtain ⟨b, o, rfl, _, hc⟩ := h (by omega)
  have hi : j / 7 < m := by omega
  have := rowsL_get (fun i => f (s + i)) hi (show j % 7 < 7 by omega)
  rw [show j / 7 * 7 + j % 7 = j by omega, hj] at this
  rw [plain_add, plain_add]
  have := hc (s + j / 7) (j % 7) u (by omega) this.symm
  rw [show o + (s + j / 7) * 7 + j % 7 = o + s * 7 + j by omega] at this
  exact this
theorem newsA {w w' : World} {a : Addr} {n : Nat} {f : Nat → Tr} (_h0 : True) (h : RowsAt w (some a) n 7 (fun i => (f i).cells)) (e : Ext w w') (k : Nat) (hk : k ≤ n) : ∀ j u, (rowsL f k)[j]? = some u → w'.cell? (a.add j) = some u := fun j u hj => by
  have := news_part (rows_news (h.ext e)) 0 k (by omega) j u (by simpa using hj)
  have e0 : (a.add (0 * 7)).add j = a.add j := by simp [Addr.add]
  rwa [e0] at this
theorem newsB {w w' : World} {a : Addr} {n : Nat} {f : Nat → Tr} (_h0 : True) (h : RowsAt w (some a) n 7 (fun i => (f i).cells)) (e : Ext w w') (k : Nat) (hk : k ≤ n) : ∀ j u, (rowsL (fun i => f (k + i)) (n - k))[j]? = some u → w'.cell? ((a.add (k * 7)).add j) = some u :=
  news_part (rows_news (h.ext e)) k (n - k) (by omega)
theorem trace_row {w : World} {base k : Nat} {v : Value} {g : Nat → Tr} (h : w.ownsRow base 33 7 v k (rowsL g k)) : ∃ F c, v = .slice F k c ∧ RowsAt w F k 7 (fun i => (g i).cells) := by
  rcases h.2 with ⟨rfl, h0⟩ | ⟨q, cap, cur, rfl, hb, hq, hn, hm, _⟩
  · exact ⟨none, 0, by rw [h0], fun hp => by omega⟩
  · refine ⟨_, _, rfl, fun _ => ⟨q, 0, rfl, (Array.getElem?_eq_some_iff.1 hq).1, fun i j v hi hv => ?_⟩⟩
    have hj : j < 7 := (List.getElem?_eq_some_iff.1 hv).1
    rw [Nat.zero_add, World.ownsRow.cellAt h (i * 7 + j) (by omega), rowsL_get g hi hj]
    exact hv
set_option maxRecDepth 100000 in
set_option maxHeartbeats 8000000 in
theorem dateSeriesNarrows_walk (hwk : WorksOk) (A A' : Option Addr) (ca cb : Nat) (c : Cal) (a : Addr) (n cap : Nat) (f : Nat → Tr) (t : Tr) (at_ : Int) (w : World) (hC : CalAt w A ca A' cb c) (hT : RowsAt w (some a) n 7 (fun i => (f i).cells)) (hn : n ≤ 1048576) (hcap : n ≤ cap) (hmax : cap ≤ maxLen) :
    Calls Tryd.prog 6 #[.agg #[.slice A c.nk ca, .slice A' c.ny cb], .slice (some a) n cap, .agg #[.int .i64 t.d, .bool t.more, .int .i64 t.m, .bool t.s, .string t.nm, .int .i64 t.af, .string t.kg, .int .i64 at_]] w fun e w' => e = .returned (.bool true) ∧ Ext w w' := by
  have hwk : ∀ w : World, Calls Tryd.prog 28 #[] w fun e w' => e = .returned (.bool true) ∧ Ext w w' := hwk
  have hn0 : True := trivial
  have hbr := bringI_bd (n := at_) (show 0 < (n : Int) + 1 by omega)
  have NB : ∀ w : World, Calls Tryd.prog 35 #[.int .i64 at_, .int .i64 ((n : Int) + 1)] w fun e w' => e = .returned (.int .i64 ((bringI at_ ((n : Int) + 1)).toNat : Int)) ∧ w' = w := fun w => by
    have := bring_any at_ ((n : Int) + 1) w (by omega) (by omega)
    rw [show (((bringI at_ ((n : Int) + 1)).toNat : Nat) : Int) = bringI at_ ((n : Int) + 1) by omega]
    exact this
  have hk : (bringI at_ ((n : Int) + 1)).toNat ≤ n := by omega
  generalize (bringI at_ ((n : Int) + 1)).toNat = k at *
  clear hbr
  have hkc : k ≤ cap := by omega
  have hcm : cap ≤ 9223372036854775807 := Nat.le_trans hmax (by decide)
  have N1 := fun (G : Option Addr) (cG : Nat) v (h : CalAt v A ca A' cb c) (hT : RowsAt v G (n + 1) 7 (fun i => (insT f k t i).cells)) => seriesX_any A A' ca cb c G (n + 1) cG (insT f k t) v h hT (by omega)
  have N2 := fun v (h : CalAt v A ca A' cb c) (hT : RowsAt v (some a) n 7 (fun i => (f i).cells)) => seriesX_any A A' ca cb c (some a) n cap f v h hT (by omega)
  obtain ⟨i0, hi, hz0, hz1, hz2⟩ := info_parts info_trace
  by_cases h1 : c.serE (insT f k t) (n + 1) = 0
  · obtain ⟨h2, hlx, hls, hx⟩ := narrow_sum h1
    simp only [h1] at N1
    simp only [h2] at N2
    clear h1 h2
    generalize c.serV (insT f k t) (n + 1) = l at *
    generalize c.serV f n = m at *
    have HX := Lib.hid hx
    clear hx
    go_enter Tryd.func6, Tryd.ntmps6
    go_upto_region 1 with (fail)
    obtain ⟨v, hv⟩ : ∃ v, v = ((w.alloc (.cells #[.slice A c.nk ca, .slice A' c.ny cb] 25)).alloc (.cells #[.int .i64 t.d, .bool t.more, .int .i64 t.m, .bool t.s, .string t.nm, .int .i64 t.af, .string t.kg, .int .i64 at_] 55)) := ⟨_, rfl⟩
    rw [← hv]
    have E : Ext w v := by rw [hv]; exact ((Ext.refl _).alloc _).alloc _
    have B1 : Held v w.heap.size 25 #[.slice A c.nk ca, .slice A' c.ny cb] := by rw [hv]; exact (Held.new _ _ _).alloc _
    have B2 : Held v (w.heap.size + 1) 55 #[.int .i64 t.d, .bool t.more, .int .i64 t.m, .bool t.s, .string t.nm, .int .i64 t.af, .string t.kg, .int .i64 at_] := by rw [hv]; exact Held.at _ _ _ _ (by simp)
    clear hv
    have C := hC.ext E
    clear hC
    generalize w.heap.size = b1 at *
    obtain ⟨k0, k1⟩ := B1.c2; have lk := B1.lt
    obtain ⟨p0, p1, p2, p3, p4, p5, p6, p7⟩ := B2.c8; have lp := B2.lt
    have HT := hT.ext E
    clear hT
    have HN1 := fun w' (e : Ext v w') => newsA hn0 HT e k hk
    have HN2 := fun w' (e : Ext v w') => newsB hn0 HT e k hk
    go_upto_region 2 with (go_at_call 35; (with_reducible refine Calls.mono (NB _) ?_); rintro e w' ⟨rfl, hw⟩; rw [hw]; clear hw w')
    go_upto_region 3 with (fail)
    apply wp_cut5 (S := fun w' s => Ext v w' ∧ w'.ownsRow v.heap.size 33 7 s (n + 1) (rowsL (insT f k t) (n + 1)))
    · by_cases hck : cap = k
      · have hnk := Lib.hid (show n - k = 0 by omega)
        have hckT : (cap = k) ↔ True := iff_true_intro hck
        clear hck
        refine wp_region_steps 14 v mixed rfl (by repeat (first | exact Ext.refl _ | (refine Ext.alloc ?_ _) | (refine Ext.trans ?_ (by assumption)))) ?_
        intro hne hrx hry v3 h3
        refine any_stills (g := 5) [0, 1, 2, 3, 5, 6, 9, 10, 11] [_, _, _, _, _, _, _, _, _] ⟨rfl, rfl, rfl, rfl, rfl, rfl, rfl, rfl, rfl, trivial⟩ (by kernel_rfl) (by kernel_rfl) h3 ?_
        simp only [List.getElem_toArray, List.getElem_cons_succ, List.getElem_cons_zero]
        apply Exists.intro
        refine ⟨fun u => ?_, ?_⟩
        · repeat (first | go_big_quiet_skip | (go_big_quiet_want; go_big_quiet_op; go_big_quiet_on))
          refine wpQuiet_nil ?_
          rfl
        refine any_fork 4 7 rfl rfl (by kernel_rfl) ?_ ?_
        · simp only [List.getElem_toArray, List.getElem_cons_succ, List.getElem_cons_zero]
          go_wp2_with (at_builtin; refine wpList_append_own_at _ rfl _ _ 26 rfl v.heap.size 33 i0 (.agg #[.int .i64 0, .bool false, .int .i64 0, .bool false, .string ⟨#[]⟩, .int .i64 0, .string ⟨#[]⟩]) 7 72 Tryd.underlying26 hi hz0 hz1 hz2 rfl (by decide) (.slice none 0 0) 0 [] rfl ⟨rfl, .inl ⟨rfl, rfl⟩⟩ a k cap (rowsL f k) rfl (rowsL_len f k) (HN1 _ h3) (rowsL_one f k) (by unfold maxLen; omega) (by omega) h3.size ?_; intro x1 w4 hown1 hgrow1 _ _)
          have e4 : Ext v w4 := h3.grown hgrow1 (fun q hq => by cases hq)
          refine onQ_in e4 ?_
          refine any_one 7 rfl (by kernel_rfl) ?_
          simp only [List.getElem_toArray, List.getElem_cons_succ, List.getElem_cons_zero]
          go_wp2
          refine onQ_in (e4.alloc _) ?_
          refine any_one 8 rfl (by kernel_rfl) ?_
          simp only [List.getElem_toArray, List.getElem_cons_succ, List.getElem_cons_zero]
          go_wp2_with (at_builtin; refine wpList_append_own_at _ rfl _ _ 26 rfl v.heap.size 33 i0 (.agg #[.int .i64 0, .bool false, .int .i64 0, .bool false, .string ⟨#[]⟩, .int .i64 0, .string ⟨#[]⟩]) 7 72 Tryd.underlying26 hi hz0 hz1 hz2 rfl (by decide) _ _ _ rfl (hown1.alloc _) ⟨w4.heap.size, 0, none⟩ 1 1 t.cells rfl rfl (held_news (Held.new w4 33 #[.int .i64 t.d, .bool t.more, .int .i64 t.m, .bool t.s, .string t.nm, .int .i64 t.af, .string t.kg])) (cells_one t) (by unfold maxLen; omega) (by omega) (e4.alloc _).size ?_; intro x2 w5 hown2 hgrow2 _ _)
          have e5 : Ext v w5 := (e4.alloc _).grown hgrow2 (fun q hq => (hown1.lt q hq).1)
          refine onQ_in e5 ?_
          refine any_one 12 rfl (by kernel_rfl) ?_
          simp only [List.getElem_toArray, List.getElem_cons_succ, List.getElem_cons_zero]
          go_wp2_with (at_builtin; refine wpList_append_own_at _ rfl _ _ 26 rfl v.heap.size 33 i0 (.agg #[.int .i64 0, .bool false, .int .i64 0, .bool false, .string ⟨#[]⟩, .int .i64 0, .string ⟨#[]⟩]) 7 72 Tryd.underlying26 hi hz0 hz1 hz2 rfl (by decide) _ _ _ rfl hown2 _ (n - k) _ (rowsL (fun i => f (k + i)) (n - k)) rfl (rowsL_len _ _) (fun j u h => by rw [hnk.out] at h; simp [rowsL] at h) (rowsL_one _ _) (by unfold maxLen; omega) (by omega) e5.size ?_; intro x3 w6 hown3 hgrow3 _ _)
          have e6 : Ext v w6 := e5.grown hgrow3 (fun q hq => (hown2.lt q hq).1)
          refine onQ_in e6 ?_
          refine any_stills (g := 0) [13] [_] ⟨rfl, trivial⟩ (by kernel_rfl) (by kernel_rfl) e6 ?_
          simp only [List.getElem_toArray, List.getElem_cons_succ, List.getElem_cons_zero]
          apply Exists.intro
          refine ⟨fun u => ?_, ?_⟩
          · repeat (first | go_big_quiet_skip | (go_big_quiet_want; go_big_quiet_op; go_big_quiet_on))
            refine wpQuiet_nil ?_
            rfl
          refine any_done (by kernel_rfl) ?_
          generalize Value.slice (some ⟨w4.heap.size, 0, none⟩) 1 1 = y
          generalize Value.slice (some a) (n - k) _ = z
          exact cut5_is x1 y x2 z x3 ⟨e6, by have := hown3; simp only [List.nil_append, Nat.zero_add] at this; rw [rowsL_ins hk, show k + 1 + (n - k) = n + 1 by omega] at this; exact this⟩ rfl
        · simp only [List.getElem_toArray, List.getElem_cons_succ, List.getElem_cons_zero]
          go_wp2
          have h3a := h3.alloc (.cells #[.int .i64 t.d, .bool t.more, .int .i64 t.m, .bool t.s, .string t.nm, .int .i64 t.af, .string t.kg] 33)
          have hT := Held.new v3 33 #[.int .i64 t.d, .bool t.more, .int .i64 t.m, .bool t.s, .string t.nm, .int .i64 t.af, .string t.kg]
          have hbs := h3.size
          refine onQ_in h3a ?_
          generalize v3.alloc (.cells #[.int .i64 t.d, .bool t.more, .int .i64 t.m, .bool t.s, .string t.nm, .int .i64 t.af, .string t.kg] 33) = va at *
          generalize v3.heap.size = b7 at *
          refine any_one 4 rfl (by kernel_rfl) ?_
          simp only [List.getElem_toArray, List.getElem_cons_succ, List.getElem_cons_zero]
          go_wp2_with (at_builtin; refine wpList_append_own_at _ rfl _ _ 26 rfl v.heap.size 33 i0 (.agg #[.int .i64 0, .bool false, .int .i64 0, .bool false, .string ⟨#[]⟩, .int .i64 0, .string ⟨#[]⟩]) 7 72 Tryd.underlying26 hi hz0 hz1 hz2 rfl (by decide) (.slice none 0 0) 0 [] rfl ⟨rfl, .inl ⟨rfl, rfl⟩⟩ a k cap (rowsL f k) rfl (rowsL_len f k) (HN1 _ h3a) (rowsL_one f k) (by unfold maxLen; omega) (by omega) h3a.size ?_; intro x1 w4 hown1 hgrow1 _ _)
          have e4 : Ext v w4 := h3a.grown hgrow1 (fun q hq => by cases hq)
          have hT4 := hT.kept hgrow1 (by simp [Value.ownBlock])
          refine onQ_in e4 ?_
          refine any_one 8 rfl (by kernel_rfl) ?_
          simp only [List.getElem_toArray, List.getElem_cons_succ, List.getElem_cons_zero]
          go_wp2_with (at_builtin; refine wpList_append_own_at _ rfl _ _ 26 rfl v.heap.size 33 i0 (.agg #[.int .i64 0, .bool false, .int .i64 0, .bool false, .string ⟨#[]⟩, .int .i64 0, .string ⟨#[]⟩]) 7 72 Tryd.underlying26 hi hz0 hz1 hz2 rfl (by decide) _ _ _ rfl hown1 ⟨b7, 0, none⟩ 1 1 t.cells rfl rfl (held_news hT4) (cells_one t) (by unfold maxLen; omega) (by omega) e4.size ?_; intro x2 w5 hown2 hgrow2 _ _)
          have e5 : Ext v w5 := e4.grown hgrow2 (fun q hq => (hown1.lt q hq).1)
          refine onQ_in e5 ?_
          refine any_one 12 rfl (by kernel_rfl) ?_
          simp only [List.getElem_toArray, List.getElem_cons_succ, List.getElem_cons_zero]
          go_wp2_with (at_builtin; refine wpList_append_own_at _ rfl _ _ 26 rfl v.heap.size 33 i0 (.agg #[.int .i64 0, .bool false, .int .i64 0, .bool false, .string ⟨#[]⟩, .int .i64 0, .string ⟨#[]⟩]) 7 72 Tryd.underlying26 hi hz0 hz1 hz2 rfl (by decide) _ _ _ rfl hown2 _ (n - k) _ (rowsL (fun i => f (k + i)) (n - k)) rfl (rowsL_len _ _) (fun j u h => by rw [hnk.out] at h; simp [rowsL] at h) (rowsL_one _ _) (by unfold maxLen; omega) (by omega) e5.size ?_; intro x3 w6 hown3 hgrow3 _ _)
          have e6 : Ext v w6 := e5.grown hgrow3 (fun q hq => (hown2.lt q hq).1)
          refine onQ_in e6 ?_
          refine any_stills (g := 0) [13] [_] ⟨rfl, trivial⟩ (by kernel_rfl) (by kernel_rfl) e6 ?_
          simp only [List.getElem_toArray, List.getElem_cons_succ, List.getElem_cons_zero]
          apply Exists.intro
          refine ⟨fun u => ?_, ?_⟩
          · repeat (first | go_big_quiet_skip | (go_big_quiet_want; go_big_quiet_op; go_big_quiet_on))
            refine wpQuiet_nil ?_
            rfl
          refine any_done (by kernel_rfl) ?_
          generalize Value.slice (some ⟨b7, 0, none⟩) 1 1 = y
          generalize Value.slice (some a) (n - k) _ = z
          exact cut5_is x1 y x2 z x3 ⟨e6, by have := hown3; simp only [List.nil_append, Nat.zero_add] at this; rw [rowsL_ins hk, show k + 1 + (n - k) = n + 1 by omega] at this; exact this⟩ rfl
      · skip
        refine wp_region_steps 14 v mixed rfl (by repeat (first | exact Ext.refl _ | (refine Ext.alloc ?_ _) | (refine Ext.trans ?_ (by assumption)))) ?_
        intro hne hrx hry v3 h3
        refine any_stills (g := 5) [0, 1, 2, 3, 5, 6, 9, 10, 11] [_, _, _, _, _, _, _, _, _] ⟨rfl, rfl, rfl, rfl, rfl, rfl, rfl, rfl, rfl, trivial⟩ (by kernel_rfl) (by kernel_rfl) h3 ?_
        simp only [List.getElem_toArray, List.getElem_cons_succ, List.getElem_cons_zero]
        apply Exists.intro
        refine ⟨fun u => ?_, ?_⟩
        · repeat (first | go_big_quiet_skip | (go_big_quiet_want; go_big_quiet_op; go_big_quiet_on))
          refine wpQuiet_nil ?_
          rfl
        refine any_fork 4 7 rfl rfl (by kernel_rfl) ?_ ?_
        · simp only [List.getElem_toArray, List.getElem_cons_succ, List.getElem_cons_zero]
          go_wp2_with (at_builtin; refine wpList_append_own_at _ rfl _ _ 26 rfl v.heap.size 33 i0 (.agg #[.int .i64 0, .bool false, .int .i64 0, .bool false, .string ⟨#[]⟩, .int .i64 0, .string ⟨#[]⟩]) 7 72 Tryd.underlying26 hi hz0 hz1 hz2 rfl (by decide) (.slice none 0 0) 0 [] rfl ⟨rfl, .inl ⟨rfl, rfl⟩⟩ a k cap (rowsL f k) rfl (rowsL_len f k) (HN1 _ h3) (rowsL_one f k) (by unfold maxLen; omega) (by omega) h3.size ?_; intro x1 w4 hown1 hgrow1 _ _)
          have e4 : Ext v w4 := h3.grown hgrow1 (fun q hq => by cases hq)
          refine onQ_in e4 ?_
          refine any_one 7 rfl (by kernel_rfl) ?_
          simp only [List.getElem_toArray, List.getElem_cons_succ, List.getElem_cons_zero]
          go_wp2
          refine onQ_in (e4.alloc _) ?_
          refine any_one 8 rfl (by kernel_rfl) ?_
          simp only [List.getElem_toArray, List.getElem_cons_succ, List.getElem_cons_zero]
          go_wp2_with (at_builtin; refine wpList_append_own_at _ rfl _ _ 26 rfl v.heap.size 33 i0 (.agg #[.int .i64 0, .bool false, .int .i64 0, .bool false, .string ⟨#[]⟩, .int .i64 0, .string ⟨#[]⟩]) 7 72 Tryd.underlying26 hi hz0 hz1 hz2 rfl (by decide) _ _ _ rfl (hown1.alloc _) ⟨w4.heap.size, 0, none⟩ 1 1 t.cells rfl rfl (held_news (Held.new w4 33 #[.int .i64 t.d, .bool t.more, .int .i64 t.m, .bool t.s, .string t.nm, .int .i64 t.af, .string t.kg])) (cells_one t) (by unfold maxLen; omega) (by omega) (e4.alloc _).size ?_; intro x2 w5 hown2 hgrow2 _ _)
          have e5 : Ext v w5 := (e4.alloc _).grown hgrow2 (fun q hq => (hown1.lt q hq).1)
          refine onQ_in e5 ?_
          refine any_one 12 rfl (by kernel_rfl) ?_
          simp only [List.getElem_toArray, List.getElem_cons_succ, List.getElem_cons_zero]
          go_wp2_with (at_builtin; refine wpList_append_own_at _ rfl _ _ 26 rfl v.heap.size 33 i0 (.agg #[.int .i64 0, .bool false, .int .i64 0, .bool false, .string ⟨#[]⟩, .int .i64 0, .string ⟨#[]⟩]) 7 72 Tryd.underlying26 hi hz0 hz1 hz2 rfl (by decide) _ _ _ rfl hown2 _ (n - k) _ (rowsL (fun i => f (k + i)) (n - k)) rfl (rowsL_len _ _) (HN2 _ e5) (rowsL_one _ _) (by unfold maxLen; omega) (by omega) e5.size ?_; intro x3 w6 hown3 hgrow3 _ _)
          have e6 : Ext v w6 := e5.grown hgrow3 (fun q hq => (hown2.lt q hq).1)
          refine onQ_in e6 ?_
          refine any_stills (g := 0) [13] [_] ⟨rfl, trivial⟩ (by kernel_rfl) (by kernel_rfl) e6 ?_
          simp only [List.getElem_toArray, List.getElem_cons_succ, List.getElem_cons_zero]
          apply Exists.intro
          refine ⟨fun u => ?_, ?_⟩
          · repeat (first | go_big_quiet_skip | (go_big_quiet_want; go_big_quiet_op; go_big_quiet_on))
            refine wpQuiet_nil ?_
            rfl
          refine any_done (by kernel_rfl) ?_
          generalize Value.slice (some ⟨w4.heap.size, 0, none⟩) 1 1 = y
          generalize Value.slice (some (a.add (k * 7))) (n - k) _ = z
          exact cut5_is x1 y x2 z x3 ⟨e6, by have := hown3; simp only [List.nil_append, Nat.zero_add] at this; rw [rowsL_ins hk, show k + 1 + (n - k) = n + 1 by omega] at this; exact this⟩ rfl
        · simp only [List.getElem_toArray, List.getElem_cons_succ, List.getElem_cons_zero]
          go_wp2
          have h3a := h3.alloc (.cells #[.int .i64 t.d, .bool t.more, .int .i64 t.m, .bool t.s, .string t.nm, .int .i64 t.af, .string t.kg] 33)
          have hT := Held.new v3 33 #[.int .i64 t.d, .bool t.more, .int .i64 t.m, .bool t.s, .string t.nm, .int .i64 t.af, .string t.kg]
          have hbs := h3.size
          refine onQ_in h3a ?_
          generalize v3.alloc (.cells #[.int .i64 t.d, .bool t.more, .int .i64 t.m, .bool t.s, .string t.nm, .int .i64 t.af, .string t.kg] 33) = va at *
          generalize v3.heap.size = b7 at *
          refine any_one 4 rfl (by kernel_rfl) ?_
          simp only [List.getElem_toArray, List.getElem_cons_succ, List.getElem_cons_zero]
          go_wp2_with (at_builtin; refine wpList_append_own_at _ rfl _ _ 26 rfl v.heap.size 33 i0 (.agg #[.int .i64 0, .bool false, .int .i64 0, .bool false, .string ⟨#[]⟩, .int .i64 0, .string ⟨#[]⟩]) 7 72 Tryd.underlying26 hi hz0 hz1 hz2 rfl (by decide) (.slice none 0 0) 0 [] rfl ⟨rfl, .inl ⟨rfl, rfl⟩⟩ a k cap (rowsL f k) rfl (rowsL_len f k) (HN1 _ h3a) (rowsL_one f k) (by unfold maxLen; omega) (by omega) h3a.size ?_; intro x1 w4 hown1 hgrow1 _ _)
          have e4 : Ext v w4 := h3a.grown hgrow1 (fun q hq => by cases hq)
          have hT4 := hT.kept hgrow1 (by simp [Value.ownBlock])
          refine onQ_in e4 ?_
          refine any_one 8 rfl (by kernel_rfl) ?_
          simp only [List.getElem_toArray, List.getElem_cons_succ, List.getElem_cons_zero]
          go_wp2_with (at_builtin; refine wpList_append_own_at _ rfl _ _ 26 rfl v.heap.size 33 i0 (.agg #[.int .i64 0, .bool false, .int .i64 0, .bool false, .string ⟨#[]⟩, .int .i64 0, .string ⟨#[]⟩]) 7 72 Tryd.underlying26 hi hz0 hz1 hz2 rfl (by decide) _ _ _ rfl hown1 ⟨b7, 0, none⟩ 1 1 t.cells rfl rfl (held_news hT4) (cells_one t) (by unfold maxLen; omega) (by omega) e4.size ?_; intro x2 w5 hown2 hgrow2 _ _)
          have e5 : Ext v w5 := e4.grown hgrow2 (fun q hq => (hown1.lt q hq).1)
          refine onQ_in e5 ?_
          refine any_one 12 rfl (by kernel_rfl) ?_
          simp only [List.getElem_toArray, List.getElem_cons_succ, List.getElem_cons_zero]
          go_wp2_with (at_builtin; refine wpList_append_own_at _ rfl _ _ 26 rfl v.heap.size 33 i0 (.agg #[.int .i64 0, .bool false, .int .i64 0, .bool false, .string ⟨#[]⟩, .int .i64 0, .string ⟨#[]⟩]) 7 72 Tryd.underlying26 hi hz0 hz1 hz2 rfl (by decide) _ _ _ rfl hown2 _ (n - k) _ (rowsL (fun i => f (k + i)) (n - k)) rfl (rowsL_len _ _) (HN2 _ e5) (rowsL_one _ _) (by unfold maxLen; omega) (by omega) e5.size ?_; intro x3 w6 hown3 hgrow3 _ _)
          have e6 : Ext v w6 := e5.grown hgrow3 (fun q hq => (hown2.lt q hq).1)
          refine onQ_in e6 ?_
          refine any_stills (g := 0) [13] [_] ⟨rfl, trivial⟩ (by kernel_rfl) (by kernel_rfl) e6 ?_
          simp only [List.getElem_toArray, List.getElem_cons_succ, List.getElem_cons_zero]
          apply Exists.intro
          refine ⟨fun u => ?_, ?_⟩
          · repeat (first | go_big_quiet_skip | (go_big_quiet_want; go_big_quiet_op; go_big_quiet_on))
            refine wpQuiet_nil ?_
            rfl
          refine any_done (by kernel_rfl) ?_
          generalize Value.slice (some ⟨b7, 0, none⟩) 1 1 = y
          generalize Value.slice (some (a.add (k * 7))) (n - k) _ = z
          exact cut5_is x1 y x2 z x3 ⟨e6, by have := hown3; simp only [List.nil_append, Nat.zero_add] at this; rw [rowsL_ins hk, show k + 1 + (n - k) = n + 1 by omega] at this; exact this⟩ rfl
    rintro x1 y x2 z x3 w6 ⟨h, hown⟩
    obtain ⟨G, cG, rfl, hG⟩ := trace_row hown
    clear hown
    replace HT := HT.ext h
    replace E := Ext.trans E h
    replace C := C.ext h
    replace B1 := B1.ext h
    replace B2 := B2.ext h
    clear h
    clear k0 k1 lk
    clear p0 p1 p2 p3 p4 p5 p6 p7 lp
    obtain ⟨k0, k1⟩ := B1.c2; have lk := B1.lt
    obtain ⟨p0, p1, p2, p3, p4, p5, p6, p7⟩ := B2.c8; have lp := B2.lt
    clear HN1 HN2 p0 p1 p2 p3 p4 p5 p6 p7 lp B2
    go_upto_region 5 with (go_at_call 24; (with_reducible refine Calls.mono (N1 _ _ _ C hG) ?_); rintro e v7 ⟨sv, rfl, h, S⟩)
    replace HT := HT.ext h
    replace E := Ext.trans E h
    replace C := C.ext h
    replace B1 := B1.ext h
    clear h
    clear k0 k1 lk
    obtain ⟨k0, k1⟩ := B1.c2; have lk := B1.lt
    go_upto_region 8 with (go_at_call 24; (with_reducible refine Calls.mono (N2 _ C HT) ?_); rintro e v8 ⟨xv, rfl, h, X⟩)
    replace S := S.ext h
    replace E := Ext.trans E h
    replace C := C.ext h
    clear h
    clear N1 N2 k0 k1 lk B1 C HT hG
    obtain ⟨Z, zc, rfl, hZ, hzc, hzm⟩ := S
    obtain ⟨Y, yc, rfl, hY, hyc, hym⟩ := X
    have h63 : l.length ≤ 9223372036854775807 := Nat.le_trans hzc (Nat.le_trans hzm (by decide))
    have g63 : m.length ≤ 9223372036854775807 := Nat.le_trans hyc (Nat.le_trans hym (by decide))
    clear hzc hzm hyc hym
    have hls1 : (l.length : Int) = (n : Int) + 1 := by omega
    have hlx1 : (m.length : Int) = (n : Int) := by omega
    have HLS := Lib.hid hls
    have HLX := Lib.hid hlx
    clear hls hlx
    go_upto_region 11 with (fail)
    go_loopw [13] (fun i wr => ∃ j : Nat, j ≤ n ∧ i = .int .i64 j ∧ Ext v8 wr) (fun i _ => n - (intOf i).toNat)
    case atStart => exact ⟨0, Nat.zero_le _, rfl, Ext.refl _⟩
    case round =>
      obtain ⟨j, hj, rfl, hE⟩ := hrel
      obtain ⟨wo, rfl⟩ : ∃ wo : World, wo = wr := ⟨_, rfl⟩
      by_cases hlt : j < n
      · have hjm : j < m.length := by have := HLX.out; omega
        have hjl : j < l.length := by have := HLS.out; omega
        have hjl1 : j + 1 < l.length := by have := HLS.out; omega
        obtain ⟨yb, yo, rfl, hyb, c0, c1⟩ := span_get (hY.ext hE) hjm
        obtain ⟨zb, zo, rfl, hzb, d0, d1⟩ := span_get (hZ.ext hE) hjl
        obtain ⟨_, _, e, _, e0, e1⟩ := span_get (hZ.ext hE) hjl1
        injection e with e
        injection e with ea eb
        subst ea
        subst eb
        have hx := HX.out j hlt
        have hp : past k j = if j < k then j else j + 1 := rfl
        rw [hp] at hx
        clear hp
        generalize (m.getD j zSp).a = x at *
        generalize (m.getD j zSp).b = y at *
        by_cases hjk : j < k
        · rw [if_pos hjk] at hx
          generalize (l.getD j zSp).a = z at *
          generalize (l.getD j zSp).b = z' at *
          have f0 : decide (k ≤ j) = false := decide_eq_false (by omega)
          obtain ⟨hx1, hx2⟩ := hx
          have f1 : decide (z < x) = false := decide_eq_false (by omega)
          have f2 : decide (y < z') = false := decide_eq_false (by omega)
          go_upto_region 16 with (fail)
          have B7 := Held.new wo 52 #[.int .i64 z, .int .i64 z']
          have h9 : Ext wo (wo.alloc (.cells #[.int .i64 z, .int .i64 z'] 52)) := (Ext.refl _).alloc _
          generalize wo.alloc (.cells #[.int .i64 z, .int .i64 z'] 52) = v9 at *
          have g0 := (h9.cell (p := ⟨yb, yo + j * 2, none⟩) hyb).trans c0
          have g1 := (h9.cell (p := ⟨yb, yo + j * 2 + 1, none⟩) hyb).trans c1
          have hyi : yb < v9.heap.size := Nat.lt_of_lt_of_le hyb h9.size
          generalize wo.heap.size = b7 at *
          obtain ⟨r0, r1⟩ := B7.c2
          have lr := B7.lt
          refine wp_region_xw v9 mixed (by kernel_rfl) (by repeat (first | exact Ext.refl _ | (refine Ext.alloc ?_ _) | (refine Ext.trans ?_ (by assumption)))) ?_
          intro hne hrx hry
          try simp only []
          try simp only [List.append_eq, List.cons_append, List.nil_append]
          skip
          repeat (first
            | go_big_quiet_skip
            | (go_big_quiet_want; go_big_quiet_op; go_big_quiet_on))
          clear hne hry hrx
          refine wpQuiet_nil ?_
          intro wn hwn
          obtain ⟨hcwn, hfwn, hzwn⟩ := Ext.rules hwn
          try simp only [World.size_alloc] at hzwn
          obtain ⟨hcbwn, hfbwn, hzbwn⟩ := Ext.rules (show Ext v9 wn from (by repeat (first | exact Ext.refl _ | (refine Ext.alloc ?_ _) | (refine Ext.trans ?_ (by assumption)))))
          clear hcwn hfwn
          go_wp2
          exact ⟨⟨j + 1, by omega, by go_num, (by repeat (first | exact Ext.refl _ | (refine Ext.alloc ?_ _) | (refine Ext.trans ?_ (by assumption))))⟩, by simp [intOf]; omega⟩
        · rw [if_neg hjk] at hx
          generalize (l.getD (j + 1) zSp).a = z at *
          generalize (l.getD (j + 1) zSp).b = z' at *
          generalize (l.getD j zSp).a = q at *
          generalize (l.getD j zSp).b = q' at *
          have f0 : decide (k ≤ j) = true := decide_eq_true (by omega)
          obtain ⟨hx1, hx2⟩ := hx
          have f1 : decide (z < x) = false := decide_eq_false (by omega)
          have f2 : decide (y < z') = false := decide_eq_false (by omega)
          go_upto_region 16 with (fail)
          have B7 := Held.new wo 52 #[.int .i64 z, .int .i64 z']
          have h9 : Ext wo (wo.alloc (.cells #[.int .i64 z, .int .i64 z'] 52)) := (Ext.refl _).alloc _
          generalize wo.alloc (.cells #[.int .i64 z, .int .i64 z'] 52) = v9 at *
          have g0 := (h9.cell (p := ⟨yb, yo + j * 2, none⟩) hyb).trans c0
          have g1 := (h9.cell (p := ⟨yb, yo + j * 2 + 1, none⟩) hyb).trans c1
          have hyi : yb < v9.heap.size := Nat.lt_of_lt_of_le hyb h9.size
          generalize wo.heap.size = b7 at *
          obtain ⟨r0, r1⟩ := B7.c2
          have lr := B7.lt
          refine wp_region_xw v9 mixed (by kernel_rfl) (by repeat (first | exact Ext.refl _ | (refine Ext.alloc ?_ _) | (refine Ext.trans ?_ (by assumption)))) ?_
          intro hne hrx hry
          try simp only []
          try simp only [List.append_eq, List.cons_append, List.nil_append]
          skip
          repeat (first
            | go_big_quiet_skip
            | (go_big_quiet_want; go_big_quiet_op; go_big_quiet_on))
          clear hne hry hrx
          refine wpQuiet_nil ?_
          intro wn hwn
          obtain ⟨hcwn, hfwn, hzwn⟩ := Ext.rules hwn
          try simp only [World.size_alloc] at hzwn
          obtain ⟨hcbwn, hfbwn, hzbwn⟩ := Ext.rules (show Ext v9 wn from (by repeat (first | exact Ext.refl _ | (refine Ext.alloc ?_ _) | (refine Ext.trans ?_ (by assumption)))))
          clear hcwn hfwn
          go_wp2
          exact ⟨⟨j + 1, by omega, by go_num, (by repeat (first | exact Ext.refl _ | (refine Ext.alloc ?_ _) | (refine Ext.trans ?_ (by assumption))))⟩, by simp [intOf]; omega⟩
      · go_wp2_with (go_at_call 28; (with_reducible refine Calls.mono (hwk _) ?_); rintro e v10 ⟨rfl, h⟩)
        go_ret
        exact ⟨rfl, (E.trans hE).trans h⟩
  · generalize c.serV (insT f k t) (n + 1) = l at *
    generalize c.serE (insT f k t) (n + 1) = e at *
    have he : (e == 0) = false := beq_eq_false_iff_ne.2 h1
    go_enter Tryd.func6, Tryd.ntmps6
    go_upto_region 1 with (fail)
    obtain ⟨v, hv⟩ : ∃ v, v = ((w.alloc (.cells #[.slice A c.nk ca, .slice A' c.ny cb] 25)).alloc (.cells #[.int .i64 t.d, .bool t.more, .int .i64 t.m, .bool t.s, .string t.nm, .int .i64 t.af, .string t.kg, .int .i64 at_] 55)) := ⟨_, rfl⟩
    rw [← hv]
    have E : Ext w v := by rw [hv]; exact ((Ext.refl _).alloc _).alloc _
    have B1 : Held v w.heap.size 25 #[.slice A c.nk ca, .slice A' c.ny cb] := by rw [hv]; exact (Held.new _ _ _).alloc _
    have B2 : Held v (w.heap.size + 1) 55 #[.int .i64 t.d, .bool t.more, .int .i64 t.m, .bool t.s, .string t.nm, .int .i64 t.af, .string t.kg, .int .i64 at_] := by rw [hv]; exact Held.at _ _ _ _ (by simp)
    clear hv
    have C := hC.ext E
    clear hC
    generalize w.heap.size = b1 at *
    obtain ⟨k0, k1⟩ := B1.c2; have lk := B1.lt
    obtain ⟨p0, p1, p2, p3, p4, p5, p6, p7⟩ := B2.c8; have lp := B2.lt
    have HT := hT.ext E
    clear hT
    have HN1 := fun w' (e : Ext v w') => newsA hn0 HT e k hk
    have HN2 := fun w' (e : Ext v w') => newsB hn0 HT e k hk
    go_upto_region 2 with (go_at_call 35; (with_reducible refine Calls.mono (NB _) ?_); rintro e w' ⟨rfl, hw⟩; rw [hw]; clear hw w')
    go_upto_region 3 with (fail)
    apply wp_cut5 (S := fun w' s => Ext v w' ∧ w'.ownsRow v.heap.size 33 7 s (n + 1) (rowsL (insT f k t) (n + 1)))
    · by_cases hck : cap = k
      · have hnk := Lib.hid (show n - k = 0 by omega)
        have hckT : (cap = k) ↔ True := iff_true_intro hck
        clear hck
        refine wp_region_steps 14 v mixed rfl (by repeat (first | exact Ext.refl _ | (refine Ext.alloc ?_ _) | (refine Ext.trans ?_ (by assumption)))) ?_
        intro hne hrx hry v3 h3
        refine any_stills (g := 5) [0, 1, 2, 3, 5, 6, 9, 10, 11] [_, _, _, _, _, _, _, _, _] ⟨rfl, rfl, rfl, rfl, rfl, rfl, rfl, rfl, rfl, trivial⟩ (by kernel_rfl) (by kernel_rfl) h3 ?_
        simp only [List.getElem_toArray, List.getElem_cons_succ, List.getElem_cons_zero]
        apply Exists.intro
        refine ⟨fun u => ?_, ?_⟩
        · repeat (first | go_big_quiet_skip | (go_big_quiet_want; go_big_quiet_op; go_big_quiet_on))
          refine wpQuiet_nil ?_
          rfl
        refine any_fork 4 7 rfl rfl (by kernel_rfl) ?_ ?_
        · simp only [List.getElem_toArray, List.getElem_cons_succ, List.getElem_cons_zero]
          go_wp2_with (at_builtin; refine wpList_append_own_at _ rfl _ _ 26 rfl v.heap.size 33 i0 (.agg #[.int .i64 0, .bool false, .int .i64 0, .bool false, .string ⟨#[]⟩, .int .i64 0, .string ⟨#[]⟩]) 7 72 Tryd.underlying26 hi hz0 hz1 hz2 rfl (by decide) (.slice none 0 0) 0 [] rfl ⟨rfl, .inl ⟨rfl, rfl⟩⟩ a k cap (rowsL f k) rfl (rowsL_len f k) (HN1 _ h3) (rowsL_one f k) (by unfold maxLen; omega) (by omega) h3.size ?_; intro x1 w4 hown1 hgrow1 _ _)
          have e4 : Ext v w4 := h3.grown hgrow1 (fun q hq => by cases hq)
          refine onQ_in e4 ?_
          refine any_one 7 rfl (by kernel_rfl) ?_
          simp only [List.getElem_toArray, List.getElem_cons_succ, List.getElem_cons_zero]
          go_wp2
          refine onQ_in (e4.alloc _) ?_
          refine any_one 8 rfl (by kernel_rfl) ?_
          simp only [List.getElem_toArray, List.getElem_cons_succ, List.getElem_cons_zero]
          go_wp2_with (at_builtin; refine wpList_append_own_at _ rfl _ _ 26 rfl v.heap.size 33 i0 (.agg #[.int .i64 0, .bool false, .int .i64 0, .bool false, .string ⟨#[]⟩, .int .i64 0, .string ⟨#[]⟩]) 7 72 Tryd.underlying26 hi hz0 hz1 hz2 rfl (by decide) _ _ _ rfl (hown1.alloc _) ⟨w4.heap.size, 0, none⟩ 1 1 t.cells rfl rfl (held_news (Held.new w4 33 #[.int .i64 t.d, .bool t.more, .int .i64 t.m, .bool t.s, .string t.nm, .int .i64 t.af, .string t.kg])) (cells_one t) (by unfold maxLen; omega) (by omega) (e4.alloc _).size ?_; intro x2 w5 hown2 hgrow2 _ _)
          have e5 : Ext v w5 := (e4.alloc _).grown hgrow2 (fun q hq => (hown1.lt q hq).1)
          refine onQ_in e5 ?_
          refine any_one 12 rfl (by kernel_rfl) ?_
          simp only [List.getElem_toArray, List.getElem_cons_succ, List.getElem_cons_zero]
          go_wp2_with (at_builtin; refine wpList_append_own_at _ rfl _ _ 26 rfl v.heap.size 33 i0 (.agg #[.int .i64 0, .bool false, .int .i64 0, .bool false, .string ⟨#[]⟩, .int .i64 0, .string ⟨#[]⟩]) 7 72 Tryd.underlying26 hi hz0 hz1 hz2 rfl (by decide) _ _ _ rfl hown2 _ (n - k) _ (rowsL (fun i => f (k + i)) (n - k)) rfl (rowsL_len _ _) (fun j u h => by rw [hnk.out] at h; simp [rowsL] at h) (rowsL_one _ _) (by unfold maxLen; omega) (by omega) e5.size ?_; intro x3 w6 hown3 hgrow3 _ _)
          have e6 : Ext v w6 := e5.grown hgrow3 (fun q hq => (hown2.lt q hq).1)
          refine onQ_in e6 ?_
          refine any_stills (g := 0) [13] [_] ⟨rfl, trivial⟩ (by kernel_rfl) (by kernel_rfl) e6 ?_
          simp only [List.getElem_toArray, List.getElem_cons_succ, List.getElem_cons_zero]
          apply Exists.intro
          refine ⟨fun u => ?_, ?_⟩
          · repeat (first | go_big_quiet_skip | (go_big_quiet_want; go_big_quiet_op; go_big_quiet_on))
            refine wpQuiet_nil ?_
            rfl
          refine any_done (by kernel_rfl) ?_
          generalize Value.slice (some ⟨w4.heap.size, 0, none⟩) 1 1 = y
          generalize Value.slice (some a) (n - k) _ = z
          exact cut5_is x1 y x2 z x3 ⟨e6, by have := hown3; simp only [List.nil_append, Nat.zero_add] at this; rw [rowsL_ins hk, show k + 1 + (n - k) = n + 1 by omega] at this; exact this⟩ rfl
        · simp only [List.getElem_toArray, List.getElem_cons_succ, List.getElem_cons_zero]
          go_wp2
          have h3a := h3.alloc (.cells #[.int .i64 t.d, .bool t.more, .int .i64 t.m, .bool t.s, .string t.nm, .int .i64 t.af, .string t.kg] 33)
          have hT := Held.new v3 33 #[.int .i64 t.d, .bool t.more, .int .i64 t.m, .bool t.s, .string t.nm, .int .i64 t.af, .string t.kg]
          have hbs := h3.size
          refine onQ_in h3a ?_
          generalize v3.alloc (.cells #[.int .i64 t.d, .bool t.more, .int .i64 t.m, .bool t.s, .string t.nm, .int .i64 t.af, .string t.kg] 33) = va at *
          generalize v3.heap.size = b7 at *
          refine any_one 4 rfl (by kernel_rfl) ?_
          simp only [List.getElem_toArray, List.getElem_cons_succ, List.getElem_cons_zero]
          go_wp2_with (at_builtin; refine wpList_append_own_at _ rfl _ _ 26 rfl v.heap.size 33 i0 (.agg #[.int .i64 0, .bool false, .int .i64 0, .bool false, .string ⟨#[]⟩, .int .i64 0, .string ⟨#[]⟩]) 7 72 Tryd.underlying26 hi hz0 hz1 hz2 rfl (by decide) (.slice none 0 0) 0 [] rfl ⟨rfl, .inl ⟨rfl, rfl⟩⟩ a k cap (rowsL f k) rfl (rowsL_len f k) (HN1 _ h3a) (rowsL_one f k) (by unfold maxLen; omega) (by omega) h3a.size ?_; intro x1 w4 hown1 hgrow1 _ _)
          have e4 : Ext v w4 := h3a.grown hgrow1 (fun q hq => by cases hq)
          have hT4 := hT.kept hgrow1 (by simp [Value.ownBlock])
          refine onQ_in e4 ?_
          refine any_one 8 rfl (by kernel_rfl) ?_
          simp only [List.getElem_toArray, List.getElem_cons_succ, List.getElem_cons_zero]
          go_wp2_with (at_builtin; refine wpList_append_own_at _ rfl _ _ 26 rfl v.heap.size 33 i0 (.agg #[.int .i64 0, .bool false, .int .i64 0, .bool false, .string ⟨#[]⟩, .int .i64 0, .string ⟨#[]⟩]) 7 72 Tryd.underlying26 hi hz0 hz1 hz2 rfl (by decide) _ _ _ rfl hown1 ⟨b7, 0, none⟩ 1 1 t.cells rfl rfl (held_news hT4) (cells_one t) (by unfold maxLen; omega) (by omega) e4.size ?_; intro x2 w5 hown2 hgrow2 _ _)
          have e5 : Ext v w5 := e4.grown hgrow2 (fun q hq => (hown1.lt q hq).1)
          refine onQ_in e5 ?_
          refine any_one 12 rfl (by kernel_rfl) ?_
          simp only [List.getElem_toArray, List.getElem_cons_succ, List.getElem_cons_zero]
          go_wp2_with (at_builtin; refine wpList_append_own_at _ rfl _ _ 26 rfl v.heap.size 33 i0 (.agg #[.int .i64 0, .bool false, .int .i64 0, .bool false, .string ⟨#[]⟩, .int .i64 0, .string ⟨#[]⟩]) 7 72 Tryd.underlying26 hi hz0 hz1 hz2 rfl (by decide) _ _ _ rfl hown2 _ (n - k) _ (rowsL (fun i => f (k + i)) (n - k)) rfl (rowsL_len _ _) (fun j u h => by rw [hnk.out] at h; simp [rowsL] at h) (rowsL_one _ _) (by unfold maxLen; omega) (by omega) e5.size ?_; intro x3 w6 hown3 hgrow3 _ _)
          have e6 : Ext v w6 := e5.grown hgrow3 (fun q hq => (hown2.lt q hq).1)
          refine onQ_in e6 ?_
          refine any_stills (g := 0) [13] [_] ⟨rfl, trivial⟩ (by kernel_rfl) (by kernel_rfl) e6 ?_
          simp only [List.getElem_toArray, List.getElem_cons_succ, List.getElem_cons_zero]
          apply Exists.intro
          refine ⟨fun u => ?_, ?_⟩
          · repeat (first | go_big_quiet_skip | (go_big_quiet_want; go_big_quiet_op; go_big_quiet_on))
            refine wpQuiet_nil ?_
            rfl
          refine any_done (by kernel_rfl) ?_
          generalize Value.slice (some ⟨b7, 0, none⟩) 1 1 = y
          generalize Value.slice (some a) (n - k) _ = z
          exact cut5_is x1 y x2 z x3 ⟨e6, by have := hown3; simp only [List.nil_append, Nat.zero_add] at this; rw [rowsL_ins hk, show k + 1 + (n - k) = n + 1 by omega] at this; exact this⟩ rfl
      · skip
        refine wp_region_steps 14 v mixed rfl (by repeat (first | exact Ext.refl _ | (refine Ext.alloc ?_ _) | (refine Ext.trans ?_ (by assumption)))) ?_
        intro hne hrx hry v3 h3
        refine any_stills (g := 5) [0, 1, 2, 3, 5, 6, 9, 10, 11] [_, _, _, _, _, _, _, _, _] ⟨rfl, rfl, rfl, rfl, rfl, rfl, rfl, rfl, rfl, trivial⟩ (by kernel_rfl) (by kernel_rfl) h3 ?_
        simp only [List.getElem_toArray, List.getElem_cons_succ, List.getElem_cons_zero]
        apply Exists.intro
        refine ⟨fun u => ?_, ?_⟩
        · repeat (first | go_big_quiet_skip | (go_big_quiet_want; go_big_quiet_op; go_big_quiet_on))
          refine wpQuiet_nil ?_
          rfl
        refine any_fork 4 7 rfl rfl (by kernel_rfl) ?_ ?_
        · simp only [List.getElem_toArray, List.getElem_cons_succ, List.getElem_cons_zero]
          go_wp2_with (at_builtin; refine wpList_append_own_at _ rfl _ _ 26 rfl v.heap.size 33 i0 (.agg #[.int .i64 0, .bool false, .int .i64 0, .bool false, .string ⟨#[]⟩, .int .i64 0, .string ⟨#[]⟩]) 7 72 Tryd.underlying26 hi hz0 hz1 hz2 rfl (by decide) (.slice none 0 0) 0 [] rfl ⟨rfl, .inl ⟨rfl, rfl⟩⟩ a k cap (rowsL f k) rfl (rowsL_len f k) (HN1 _ h3) (rowsL_one f k) (by unfold maxLen; omega) (by omega) h3.size ?_; intro x1 w4 hown1 hgrow1 _ _)
          have e4 : Ext v w4 := h3.grown hgrow1 (fun q hq => by cases hq)
          refine onQ_in e4 ?_
          refine any_one 7 rfl (by kernel_rfl) ?_
          simp only [List.getElem_toArray, List.getElem_cons_succ, List.getElem_cons_zero]
          go_wp2
          refine onQ_in (e4.alloc _) ?_
          refine any_one 8 rfl (by kernel_rfl) ?_
          simp only [List.getElem_toArray, List.getElem_cons_succ, List.getElem_cons_zero]
          go_wp2_with (at_builtin; refine wpList_append_own_at _ rfl _ _ 26 rfl v.heap.size 33 i0 (.agg #[.int .i64 0, .bool false, .int .i64 0, .bool false, .string ⟨#[]⟩, .int .i64 0, .string ⟨#[]⟩]) 7 72 Tryd.underlying26 hi hz0 hz1 hz2 rfl (by decide) _ _ _ rfl (hown1.alloc _) ⟨w4.heap.size, 0, none⟩ 1 1 t.cells rfl rfl (held_news (Held.new w4 33 #[.int .i64 t.d, .bool t.more, .int .i64 t.m, .bool t.s, .string t.nm, .int .i64 t.af, .string t.kg])) (cells_one t) (by unfold maxLen; omega) (by omega) (e4.alloc _).size ?_; intro x2 w5 hown2 hgrow2 _ _)
          have e5 : Ext v w5 := (e4.alloc _).grown hgrow2 (fun q hq => (hown1.lt q hq).1)
          refine onQ_in e5 ?_
          refine any_one 12 rfl (by kernel_rfl) ?_
          simp only [List.getElem_toArray, List.getElem_cons_succ, List.getElem_cons_zero]
          go_wp2_with (at_builtin; refine wpList_append_own_at _ rfl _ _ 26 rfl v.heap.size 33 i0 (.agg #[.int .i64 0, .bool false, .int .i64 0, .bool false, .string ⟨#[]⟩, .int .i64 0, .string ⟨#[]⟩]) 7 72 Tryd.underlying26 hi hz0 hz1 hz2 rfl (by decide) _ _ _ rfl hown2 _ (n - k) _ (rowsL (fun i => f (k + i)) (n - k)) rfl (rowsL_len _ _) (HN2 _ e5) (rowsL_one _ _) (by unfold maxLen; omega) (by omega) e5.size ?_; intro x3 w6 hown3 hgrow3 _ _)
          have e6 : Ext v w6 := e5.grown hgrow3 (fun q hq => (hown2.lt q hq).1)
          refine onQ_in e6 ?_
          refine any_stills (g := 0) [13] [_] ⟨rfl, trivial⟩ (by kernel_rfl) (by kernel_rfl) e6 ?_
          simp only [List.getElem_toArray, List.getElem_cons_succ, List.getElem_cons_zero]
          apply Exists.intro
          refine ⟨fun u => ?_, ?_⟩
          · repeat (first | go_big_quiet_skip | (go_big_quiet_want; go_big_quiet_op; go_big_quiet_on))
            refine wpQuiet_nil ?_
            rfl
          refine any_done (by kernel_rfl) ?_
          generalize Value.slice (some ⟨w4.heap.size, 0, none⟩) 1 1 = y
          generalize Value.slice (some (a.add (k * 7))) (n - k) _ = z
          exact cut5_is x1 y x2 z x3 ⟨e6, by have := hown3; simp only [List.nil_append, Nat.zero_add] at this; rw [rowsL_ins hk, show k + 1 + (n - k) = n + 1 by omega] at this; exact this⟩ rfl
        · simp only [List.getElem_toArray, List.getElem_cons_succ, List.getElem_cons_zero]
          go_wp2
          have h3a := h3.alloc (.cells #[.int .i64 t.d, .bool t.more, .int .i64 t.m, .bool t.s, .string t.nm, .int .i64 t.af, .string t.kg] 33)
          have hT := Held.new v3 33 #[.int .i64 t.d, .bool t.more, .int .i64 t.m, .bool t.s, .string t.nm, .int .i64 t.af, .string t.kg]
          have hbs := h3.size
          refine onQ_in h3a ?_
          generalize v3.alloc (.cells #[.int .i64 t.d, .bool t.more, .int .i64 t.m, .bool t.s, .string t.nm, .int .i64 t.af, .string t.kg] 33) = va at *
          generalize v3.heap.size = b7 at *
          refine any_one 4 rfl (by kernel_rfl) ?_
          simp only [List.getElem_toArray, List.getElem_cons_succ, List.getElem_cons_zero]
          go_wp2_with (at_builtin; refine wpList_append_own_at _ rfl _ _ 26 rfl v.heap.size 33 i0 (.agg #[.int .i64 0, .bool false, .int .i64 0, .bool false, .string ⟨#[]⟩, .int .i64 0, .string ⟨#[]⟩]) 7 72 Tryd.underlying26 hi hz0 hz1 hz2 rfl (by decide) (.slice none 0 0) 0 [] rfl ⟨rfl, .inl ⟨rfl, rfl⟩⟩ a k cap (rowsL f k) rfl (rowsL_len f k) (HN1 _ h3a) (rowsL_one f k) (by unfold maxLen; omega) (by omega) h3a.size ?_; intro x1 w4 hown1 hgrow1 _ _)
          have e4 : Ext v w4 := h3a.grown hgrow1 (fun q hq => by cases hq)
          have hT4 := hT.kept hgrow1 (by simp [Value.ownBlock])
          refine onQ_in e4 ?_
          refine any_one 8 rfl (by kernel_rfl) ?_
          simp only [List.getElem_toArray, List.getElem_cons_succ, List.getElem_cons_zero]
          go_wp2_with (at_builtin; refine wpList_append_own_at _ rfl _ _ 26 rfl v.heap.size 33 i0 (.agg #[.int .i64 0, .bool false, .int .i64 0, .bool false, .string ⟨#[]⟩, .int .i64 0, .string ⟨#[]⟩]) 7 72 Tryd.underlying26 hi hz0 hz1 hz2 rfl (by decide) _ _ _ rfl hown1 ⟨b7, 0, none⟩ 1 1 t.cells rfl rfl (held_news hT4) (cells_one t) (by unfold maxLen; omega) (by omega) e4.size ?_; intro x2 w5 hown2 hgrow2 _ _)
          have e5 : Ext v w5 := e4.grown hgrow2 (fun q hq => (hown1.lt q hq).1)
          refine onQ_in e5 ?_
          refine any_one 12 rfl (by kernel_rfl) ?_
          simp only [List.getElem_toArray, List.getElem_cons_succ, List.getElem_cons_zero]
          go_wp2_with (at_builtin; refine wpList_append_own_at _ rfl _ _ 26 rfl v.heap.size 33 i0 (.agg #[.int .i64 0, .bool false, .int .i64 0, .bool false, .string ⟨#[]⟩, .int .i64 0, .string ⟨#[]⟩]) 7 72 Tryd.underlying26 hi hz0 hz1 hz2 rfl (by decide) _ _ _ rfl hown2 _ (n - k) _ (rowsL (fun i => f (k + i)) (n - k)) rfl (rowsL_len _ _) (HN2 _ e5) (rowsL_one _ _) (by unfold maxLen; omega) (by omega) e5.size ?_; intro x3 w6 hown3 hgrow3 _ _)
          have e6 : Ext v w6 := e5.grown hgrow3 (fun q hq => (hown2.lt q hq).1)
          refine onQ_in e6 ?_
          refine any_stills (g := 0) [13] [_] ⟨rfl, trivial⟩ (by kernel_rfl) (by kernel_rfl) e6 ?_
          simp only [List.getElem_toArray, List.getElem_cons_succ, List.getElem_cons_zero]
          apply Exists.intro
          refine ⟨fun u => ?_, ?_⟩
          · repeat (first | go_big_quiet_skip | (go_big_quiet_want; go_big_quiet_op; go_big_quiet_on))
            refine wpQuiet_nil ?_
            rfl
          refine any_done (by kernel_rfl) ?_
          generalize Value.slice (some ⟨b7, 0, none⟩) 1 1 = y
          generalize Value.slice (some (a.add (k * 7))) (n - k) _ = z
          exact cut5_is x1 y x2 z x3 ⟨e6, by have := hown3; simp only [List.nil_append, Nat.zero_add] at this; rw [rowsL_ins hk, show k + 1 + (n - k) = n + 1 by omega] at this; exact this⟩ rfl
    rintro x1 y x2 z x3 w6 ⟨h, hown⟩
    obtain ⟨G, cG, rfl, hG⟩ := trace_row hown
    clear hown
    replace HT := HT.ext h
    replace E := Ext.trans E h
    replace C := C.ext h
    replace B1 := B1.ext h
    replace B2 := B2.ext h
    clear h
    clear k0 k1 lk
    clear p0 p1 p2 p3 p4 p5 p6 p7 lp
    obtain ⟨k0, k1⟩ := B1.c2; have lk := B1.lt
    obtain ⟨p0, p1, p2, p3, p4, p5, p6, p7⟩ := B2.c8; have lp := B2.lt
    clear HN1 HN2 p0 p1 p2 p3 p4 p5 p6 p7 lp B2
    go_upto_region 5 with (go_at_call 24; (with_reducible refine Calls.mono (N1 _ _ _ C hG) ?_); rintro e v7 ⟨sv, rfl, h, S⟩)
    replace HT := HT.ext h
    replace E := Ext.trans E h
    replace C := C.ext h
    replace B1 := B1.ext h
    clear h
    clear k0 k1 lk
    obtain ⟨k0, k1⟩ := B1.c2; have lk := B1.lt
    go_wp2_with (go_at_call 28; (with_reducible refine Calls.mono (hwk _) ?_); rintro e v8 ⟨rfl, h⟩)
    go_ret
    exact ⟨rfl, E.trans h⟩
theorem run_append_none {P : Program} {w : World} (t ty e : TypeId) (i : TypeInfo) (z : Value) (ht : P.underlying t = some (.slice e)) (hi : P.info? e = some i) (hz : i.zero = some z) :
    (Builtin.append_ #[t, t] ty #[.slice none 0 0, .slice none 0 0]).run P w = .ok (.slice none 0 0) w := by
  simp [Builtin.append_, run_underlying ht, sizeOf, typeInfo, zeroValue, hi, hz, Builtin.lenOf, run_firstCells_none]
theorem run_append_same {P : Program} {w : World} (t ty e : TypeId) (i : TypeInfo) (z : Value) (ht : P.underlying t = some (.slice e)) (hi : P.info? e = some i) (hz : i.zero = some z) (b : Addr) (n c : Nat) (hc : n ≤ c) :
    (Builtin.append_ #[t, t] ty #[.slice (some b) n c, .slice none 0 0]).run P w = .ok (.slice (some b) n c) w := by
  simp [Builtin.append_, run_underlying ht, sizeOf, typeInfo, zeroValue, hi, hz, Builtin.lenOf, run_firstCells_none, hc, storeCells]
theorem row_cap {w : World} {base k c g : Nat} {e : TypeId} {size : Nat} {xs : List Value} (h : w.ownsRow base e size (.slice (some ⟨g, 0, none⟩) k c) k xs) : k ≤ c := by
  rcases h.2 with ⟨h, _⟩ | ⟨q, cap, cur, h, _, _, hn, _⟩
  · cases h
  · cases h; exact hn
set_option maxRecDepth 100000 in
set_option maxHeartbeats 8000000 in
theorem dateSeriesNarrows_nil (hwk : WorksOk) (A A' : Option Addr) (ca cb : Nat) (c : Cal) (t : Tr) (at_ : Int) (w : World) (hC : CalAt w A ca A' cb c) :
    Calls Tryd.prog 6 #[.agg #[.slice A c.nk ca, .slice A' c.ny cb], .slice none 0 0, .agg #[.int .i64 t.d, .bool t.more, .int .i64 t.m, .bool t.s, .string t.nm, .int .i64 t.af, .string t.kg, .int .i64 at_]] w fun e w' => e = .returned (.bool true) ∧ Ext w w' := by
  have hwk : ∀ w : World, Calls Tryd.prog 28 #[] w fun e w' => e = .returned (.bool true) ∧ Ext w w' := hwk
  obtain ⟨f, _⟩ : ∃ f : Nat → Tr, True := ⟨fun _ => t, trivial⟩
  have NB : ∀ w : World, Calls Tryd.prog 35 #[.int .i64 at_, .int .i64 1] w fun e w' => e = .returned (.int .i64 0) ∧ w' = w := fun w => by
    have hbr := bringI_bd (n := at_) (show (0 : Int) < 1 by omega)
    have := bring_any at_ 1 w (by omega) (by omega)
    rw [show bringI at_ 1 = 0 by omega] at this
    exact this
  have N1 := fun (G : Option Addr) (cG : Nat) v (h : CalAt v A ca A' cb c) (hT : RowsAt v G 1 7 (fun i => (insT f 0 t i).cells)) => seriesX_any A A' ca cb c G 1 cG (insT f 0 t) v h hT (by omega)
  have N2 := fun v (h : CalAt v A ca A' cb c) (hT : RowsAt v (none : Option Addr) 0 7 (fun i => (f i).cells)) => seriesX_any A A' ca cb c none 0 0 f v h hT (by omega)
  obtain ⟨i0, hi, hz0, hz1, hz2⟩ := info_parts info_trace
  have ha0 := fun w : World => run_append_none (P := Tryd.prog) (w := w) 26 26 33 i0 _ Tryd.underlying26 hi hz0
  by_cases h1 : c.serE (insT f 0 t) 1 = 0
  · obtain ⟨h2, hlx, hls, _⟩ := narrow_sum (n := 0) h1
    simp only [h1] at N1
    simp only [h2] at N2
    clear h1 h2
    generalize c.serV (insT f 0 t) (0 + 1) = l at *
    generalize c.serV f 0 = m at *
    go_enter Tryd.func6, Tryd.ntmps6
    go_upto_region 1 with (fail)
    obtain ⟨v, hv⟩ : ∃ v, v = ((w.alloc (.cells #[.slice A c.nk ca, .slice A' c.ny cb] 25)).alloc (.cells #[.int .i64 t.d, .bool t.more, .int .i64 t.m, .bool t.s, .string t.nm, .int .i64 t.af, .string t.kg, .int .i64 at_] 55)) := ⟨_, rfl⟩
    rw [← hv]
    have E : Ext w v := by rw [hv]; exact ((Ext.refl _).alloc _).alloc _
    have B1 : Held v w.heap.size 25 #[.slice A c.nk ca, .slice A' c.ny cb] := by rw [hv]; exact (Held.new _ _ _).alloc _
    have B2 : Held v (w.heap.size + 1) 55 #[.int .i64 t.d, .bool t.more, .int .i64 t.m, .bool t.s, .string t.nm, .int .i64 t.af, .string t.kg, .int .i64 at_] := by rw [hv]; exact Held.at _ _ _ _ (by simp)
    clear hv
    have C := hC.ext E
    clear hC
    generalize w.heap.size = b1 at *
    obtain ⟨k0, k1⟩ := B1.c2; have lk := B1.lt
    obtain ⟨p0, p1, p2, p3, p4, p5, p6, p7⟩ := B2.c8; have lp := B2.lt
    go_upto_region 2 with (go_at_call 35; (with_reducible refine Calls.mono (NB _) ?_); rintro e w' ⟨rfl, hw⟩; rw [hw]; clear hw w')
    go_upto_region 3 with (fail)
    apply wp_cut5 (S := fun w' s => Ext v w' ∧ w'.ownsRow v.heap.size 33 7 s 1 (rowsL (insT f 0 t) 1))
    · refine wp_region_steps 14 v mixed rfl (by repeat (first | exact Ext.refl _ | (refine Ext.alloc ?_ _) | (refine Ext.trans ?_ (by assumption)))) ?_
      intro hne hrx hry v3 h3
      refine any_stills (g := 5) [0, 1, 2, 3, 5, 6, 9, 10, 11] [_, _, _, _, _, _, _, _, _] ⟨rfl, rfl, rfl, rfl, rfl, rfl, rfl, rfl, rfl, trivial⟩ (by kernel_rfl) (by kernel_rfl) h3 ?_
      simp only [List.getElem_toArray, List.getElem_cons_succ, List.getElem_cons_zero]
      apply Exists.intro
      refine ⟨fun u => ?_, ?_⟩
      · repeat (first | go_big_quiet_skip | (go_big_quiet_want; go_big_quiet_op; go_big_quiet_on))
        refine wpQuiet_nil ?_
        rfl
      refine any_fork 4 7 rfl rfl (by kernel_rfl) ?_ ?_
      · simp only [List.getElem_toArray, List.getElem_cons_succ, List.getElem_cons_zero]
        go_wp2
        refine onQ_in h3 ?_
        refine any_one 7 rfl (by kernel_rfl) ?_
        simp only [List.getElem_toArray, List.getElem_cons_succ, List.getElem_cons_zero]
        go_wp2
        refine onQ_in (h3.alloc _) ?_
        refine any_one 8 rfl (by kernel_rfl) ?_
        simp only [List.getElem_toArray, List.getElem_cons_succ, List.getElem_cons_zero]
        go_wp2_with (at_builtin; refine wpList_append_own_at _ rfl _ _ 26 rfl v.heap.size 33 i0 (.agg #[.int .i64 0, .bool false, .int .i64 0, .bool false, .string ⟨#[]⟩, .int .i64 0, .string ⟨#[]⟩]) 7 72 Tryd.underlying26 hi hz0 hz1 hz2 rfl (by decide) (.slice none 0 0) 0 [] rfl ⟨rfl, .inl ⟨rfl, rfl⟩⟩ ⟨v3.heap.size, 0, none⟩ 1 1 t.cells rfl rfl (held_news (Held.new v3 33 #[.int .i64 t.d, .bool t.more, .int .i64 t.m, .bool t.s, .string t.nm, .int .i64 t.af, .string t.kg])) (cells_one t) (by unfold maxLen; omega) (by omega) (h3.alloc _).size ?_; intro x2 w5 hown2 hgrow2 _ _)
        have e5 : Ext v w5 := (h3.alloc _).grown hgrow2 (fun q hq => by cases hq)
        refine onQ_in e5 ?_
        have hown2' : w5.ownsRow v.heap.size 33 7 x2 1 (rowsL (insT f 0 t) 1) := by simpa [rowsL, insT] using hown2
        clear hown2
        obtain ⟨g, cp, rfl⟩ := ownsRow_succ hown2'
        have hcp : 1 ≤ cp := row_cap hown2'
        have hcp0 : ¬ cp = 0 := by omega
        have hcp1 : ¬ cp < 1 := by omega
        have ha1 := fun w : World => run_append_same (P := Tryd.prog) (w := w) 26 26 33 i0 _ Tryd.underlying26 hi hz0 ⟨g, 0, none⟩ 1 cp (row_cap hown2')
        refine any_one 12 rfl (by kernel_rfl) ?_
        simp only [List.getElem_toArray, List.getElem_cons_succ, List.getElem_cons_zero]
        go_wp2
        refine onQ_in e5 ?_
        refine any_stills (g := 0) [13] [_] ⟨rfl, trivial⟩ (by kernel_rfl) (by kernel_rfl) e5 ?_
        simp only [List.getElem_toArray, List.getElem_cons_succ, List.getElem_cons_zero]
        apply Exists.intro
        refine ⟨fun u => ?_, ?_⟩
        · repeat (first | go_big_quiet_skip | (go_big_quiet_want; go_big_quiet_op; go_big_quiet_on))
          refine wpQuiet_nil ?_
          rfl
        refine any_done (by kernel_rfl) ?_
        clear ha1
        generalize Value.slice (some ⟨g, 0, none⟩) 1 cp = x2 at *
        generalize Value.slice (some ⟨v3.heap.size, 0, none⟩) 1 1 = y
        obtain ⟨p0, _⟩ : ∃ _ : Value, True := ⟨.slice none 0 0, trivial⟩
        obtain ⟨r0, _⟩ : ∃ _ : Value, True := ⟨.slice none 0 0, trivial⟩
        obtain ⟨z0, _⟩ : ∃ _ : Value, True := ⟨.slice none 0 0, trivial⟩
        exact cut5_is p0 y r0 z0 x2 ⟨e5, hown2'⟩ rfl
      · simp only [List.getElem_toArray, List.getElem_cons_succ, List.getElem_cons_zero]
        go_wp2
        have h3a := h3.alloc (.cells #[.int .i64 t.d, .bool t.more, .int .i64 t.m, .bool t.s, .string t.nm, .int .i64 t.af, .string t.kg] 33)
        have hT := Held.new v3 33 #[.int .i64 t.d, .bool t.more, .int .i64 t.m, .bool t.s, .string t.nm, .int .i64 t.af, .string t.kg]
        refine onQ_in h3a ?_
        generalize v3.alloc (.cells #[.int .i64 t.d, .bool t.more, .int .i64 t.m, .bool t.s, .string t.nm, .int .i64 t.af, .string t.kg] 33) = va at *
        generalize v3.heap.size = b7 at *
        refine any_one 4 rfl (by kernel_rfl) ?_
        simp only [List.getElem_toArray, List.getElem_cons_succ, List.getElem_cons_zero]
        go_wp2
        refine onQ_in h3a ?_
        refine any_one 8 rfl (by kernel_rfl) ?_
        simp only [List.getElem_toArray, List.getElem_cons_succ, List.getElem_cons_zero]
        go_wp2_with (at_builtin; refine wpList_append_own_at _ rfl _ _ 26 rfl v.heap.size 33 i0 (.agg #[.int .i64 0, .bool false, .int .i64 0, .bool false, .string ⟨#[]⟩, .int .i64 0, .string ⟨#[]⟩]) 7 72 Tryd.underlying26 hi hz0 hz1 hz2 rfl (by decide) (.slice none 0 0) 0 [] rfl ⟨rfl, .inl ⟨rfl, rfl⟩⟩ ⟨b7, 0, none⟩ 1 1 t.cells rfl rfl (held_news hT) (cells_one t) (by unfold maxLen; omega) (by omega) h3a.size ?_; intro x2 w5 hown2 hgrow2 _ _)
        have e5 : Ext v w5 := h3a.grown hgrow2 (fun q hq => by cases hq)
        refine onQ_in e5 ?_
        have hown2' : w5.ownsRow v.heap.size 33 7 x2 1 (rowsL (insT f 0 t) 1) := by simpa [rowsL, insT] using hown2
        clear hown2
        obtain ⟨g, cp, rfl⟩ := ownsRow_succ hown2'
        have hcp : 1 ≤ cp := row_cap hown2'
        have hcp0 : ¬ cp = 0 := by omega
        have hcp1 : ¬ cp < 1 := by omega
        have ha1 := fun w : World => run_append_same (P := Tryd.prog) (w := w) 26 26 33 i0 _ Tryd.underlying26 hi hz0 ⟨g, 0, none⟩ 1 cp (row_cap hown2')
        refine any_one 12 rfl (by kernel_rfl) ?_
        simp only [List.getElem_toArray, List.getElem_cons_succ, List.getElem_cons_zero]
        go_wp2
        refine onQ_in e5 ?_
        refine any_stills (g := 0) [13] [_] ⟨rfl, trivial⟩ (by kernel_rfl) (by kernel_rfl) e5 ?_
        simp only [List.getElem_toArray, List.getElem_cons_succ, List.getElem_cons_zero]
        apply Exists.intro
        refine ⟨fun u => ?_, ?_⟩
        · repeat (first | go_big_quiet_skip | (go_big_quiet_want; go_big_quiet_op; go_big_quiet_on))
          refine wpQuiet_nil ?_
          rfl
        refine any_done (by kernel_rfl) ?_
        clear ha1
        generalize Value.slice (some ⟨g, 0, none⟩) 1 cp = x2 at *
        generalize Value.slice (some ⟨b7, 0, none⟩) 1 1 = y
        obtain ⟨p0, _⟩ : ∃ _ : Value, True := ⟨.slice none 0 0, trivial⟩
        obtain ⟨r0, _⟩ : ∃ _ : Value, True := ⟨.slice none 0 0, trivial⟩
        obtain ⟨z0, _⟩ : ∃ _ : Value, True := ⟨.slice none 0 0, trivial⟩
        exact cut5_is p0 y r0 z0 x2 ⟨e5, hown2'⟩ rfl
    rintro x1 y x2 z x3 w6 ⟨h, hown⟩
    obtain ⟨G, cG, rfl, hG⟩ := trace_row hown
    clear hown
    have HT : RowsAt w6 (none : Option Addr) 0 7 (fun i => (f i).cells) := RowsAt.nil
    replace E := Ext.trans E h
    replace C := C.ext h
    replace B1 := B1.ext h
    replace B2 := B2.ext h
    clear h
    clear k0 k1 lk
    clear p0 p1 p2 p3 p4 p5 p6 p7 lp
    obtain ⟨k0, k1⟩ := B1.c2; have lk := B1.lt
    obtain ⟨p0, p1, p2, p3, p4, p5, p6, p7⟩ := B2.c8; have lp := B2.lt
    clear p0 p1 p2 p3 p4 p5 p6 p7 lp B2
    go_upto_region 5 with (go_at_call 24; (with_reducible refine Calls.mono (N1 _ _ _ C hG) ?_); rintro e v7 ⟨sv, rfl, h, S⟩)
    replace HT := HT.ext h
    replace E := Ext.trans E h
    replace C := C.ext h
    replace B1 := B1.ext h
    clear h
    clear k0 k1 lk
    obtain ⟨k0, k1⟩ := B1.c2; have lk := B1.lt
    go_upto_region 8 with (go_at_call 24; (with_reducible refine Calls.mono (N2 _ C HT) ?_); rintro e v8 ⟨xv, rfl, h, X⟩)
    replace S := S.ext h
    replace E := Ext.trans E h
    replace C := C.ext h
    clear h
    clear N1 N2 k0 k1 lk B1 C HT hG
    obtain ⟨Z, zc, rfl, hZ, hzc, hzm⟩ := S
    obtain ⟨Y, yc, rfl, hY, hyc, hym⟩ := X
    have hls1 : (l.length : Int) = 1 := by omega
    have hlx1 : (m.length : Int) = 0 := by omega
    clear hls hlx
    go_upto_region 11 with (fail)
    go_loopw [13] (fun i wr => i = .int .i64 0 ∧ Ext v8 wr) (fun _ _ => 0)
    case atStart => exact ⟨rfl, Ext.refl _⟩
    case round =>
      obtain ⟨rfl, hE⟩ := hrel
      go_wp2_with (go_at_call 28; (with_reducible refine Calls.mono (hwk _) ?_); rintro e v10 ⟨rfl, h⟩)
      go_ret
      exact ⟨rfl, (E.trans hE).trans h⟩
  · generalize c.serV (insT f 0 t) 1 = l at *
    generalize c.serE (insT f 0 t) 1 = e at *
    have he : (e == 0) = false := beq_eq_false_iff_ne.2 h1
    go_enter Tryd.func6, Tryd.ntmps6
    go_upto_region 1 with (fail)
    obtain ⟨v, hv⟩ : ∃ v, v = ((w.alloc (.cells #[.slice A c.nk ca, .slice A' c.ny cb] 25)).alloc (.cells #[.int .i64 t.d, .bool t.more, .int .i64 t.m, .bool t.s, .string t.nm, .int .i64 t.af, .string t.kg, .int .i64 at_] 55)) := ⟨_, rfl⟩
    rw [← hv]
    have E : Ext w v := by rw [hv]; exact ((Ext.refl _).alloc _).alloc _
    have B1 : Held v w.heap.size 25 #[.slice A c.nk ca, .slice A' c.ny cb] := by rw [hv]; exact (Held.new _ _ _).alloc _
    have B2 : Held v (w.heap.size + 1) 55 #[.int .i64 t.d, .bool t.more, .int .i64 t.m, .bool t.s, .string t.nm, .int .i64 t.af, .string t.kg, .int .i64 at_] := by rw [hv]; exact Held.at _ _ _ _ (by simp)
    clear hv
    have C := hC.ext E
    clear hC
    generalize w.heap.size = b1 at *
    obtain ⟨k0, k1⟩ := B1.c2; have lk := B1.lt
    obtain ⟨p0, p1, p2, p3, p4, p5, p6, p7⟩ := B2.c8; have lp := B2.lt
    go_upto_region 2 with (go_at_call 35; (with_reducible refine Calls.mono (NB _) ?_); rintro e w' ⟨rfl, hw⟩; rw [hw]; clear hw w')
    go_upto_region 3 with (fail)
    apply wp_cut5 (S := fun w' s => Ext v w' ∧ w'.ownsRow v.heap.size 33 7 s 1 (rowsL (insT f 0 t) 1))
    · refine wp_region_steps 14 v mixed rfl (by repeat (first | exact Ext.refl _ | (refine Ext.alloc ?_ _) | (refine Ext.trans ?_ (by assumption)))) ?_
      intro hne hrx hry v3 h3
      refine any_stills (g := 5) [0, 1, 2, 3, 5, 6, 9, 10, 11] [_, _, _, _, _, _, _, _, _] ⟨rfl, rfl, rfl, rfl, rfl, rfl, rfl, rfl, rfl, trivial⟩ (by kernel_rfl) (by kernel_rfl) h3 ?_
      simp only [List.getElem_toArray, List.getElem_cons_succ, List.getElem_cons_zero]
      apply Exists.intro
      refine ⟨fun u => ?_, ?_⟩
      · repeat (first | go_big_quiet_skip | (go_big_quiet_want; go_big_quiet_op; go_big_quiet_on))
        refine wpQuiet_nil ?_
        rfl
      refine any_fork 4 7 rfl rfl (by kernel_rfl) ?_ ?_
      · simp only [List.getElem_toArray, List.getElem_cons_succ, List.getElem_cons_zero]
        go_wp2
        refine onQ_in h3 ?_
        refine any_one 7 rfl (by kernel_rfl) ?_
        simp only [List.getElem_toArray, List.getElem_cons_succ, List.getElem_cons_zero]
        go_wp2
        refine onQ_in (h3.alloc _) ?_
        refine any_one 8 rfl (by kernel_rfl) ?_
        simp only [List.getElem_toArray, List.getElem_cons_succ, List.getElem_cons_zero]
        go_wp2_with (at_builtin; refine wpList_append_own_at _ rfl _ _ 26 rfl v.heap.size 33 i0 (.agg #[.int .i64 0, .bool false, .int .i64 0, .bool false, .string ⟨#[]⟩, .int .i64 0, .string ⟨#[]⟩]) 7 72 Tryd.underlying26 hi hz0 hz1 hz2 rfl (by decide) (.slice none 0 0) 0 [] rfl ⟨rfl, .inl ⟨rfl, rfl⟩⟩ ⟨v3.heap.size, 0, none⟩ 1 1 t.cells rfl rfl (held_news (Held.new v3 33 #[.int .i64 t.d, .bool t.more, .int .i64 t.m, .bool t.s, .string t.nm, .int .i64 t.af, .string t.kg])) (cells_one t) (by unfold maxLen; omega) (by omega) (h3.alloc _).size ?_; intro x2 w5 hown2 hgrow2 _ _)
        have e5 : Ext v w5 := (h3.alloc _).grown hgrow2 (fun q hq => by cases hq)
        refine onQ_in e5 ?_
        have hown2' : w5.ownsRow v.heap.size 33 7 x2 1 (rowsL (insT f 0 t) 1) := by simpa [rowsL, insT] using hown2
        clear hown2
        obtain ⟨g, cp, rfl⟩ := ownsRow_succ hown2'
        have hcp : 1 ≤ cp := row_cap hown2'
        have hcp0 : ¬ cp = 0 := by omega
        have hcp1 : ¬ cp < 1 := by omega
        have ha1 := fun w : World => run_append_same (P := Tryd.prog) (w := w) 26 26 33 i0 _ Tryd.underlying26 hi hz0 ⟨g, 0, none⟩ 1 cp (row_cap hown2')
        refine any_one 12 rfl (by kernel_rfl) ?_
        simp only [List.getElem_toArray, List.getElem_cons_succ, List.getElem_cons_zero]
        go_wp2
        refine onQ_in e5 ?_
        refine any_stills (g := 0) [13] [_] ⟨rfl, trivial⟩ (by kernel_rfl) (by kernel_rfl) e5 ?_
        simp only [List.getElem_toArray, List.getElem_cons_succ, List.getElem_cons_zero]
        apply Exists.intro
        refine ⟨fun u => ?_, ?_⟩
        · repeat (first | go_big_quiet_skip | (go_big_quiet_want; go_big_quiet_op; go_big_quiet_on))
          refine wpQuiet_nil ?_
          rfl
        refine any_done (by kernel_rfl) ?_
        clear ha1
        generalize Value.slice (some ⟨g, 0, none⟩) 1 cp = x2 at *
        generalize Value.slice (some ⟨v3.heap.size, 0, none⟩) 1 1 = y
        obtain ⟨p0, _⟩ : ∃ _ : Value, True := ⟨.slice none 0 0, trivial⟩
        obtain ⟨r0, _⟩ : ∃ _ : Value, True := ⟨.slice none 0 0, trivial⟩
        obtain ⟨z0, _⟩ : ∃ _ : Value, True := ⟨.slice none 0 0, trivial⟩
        exact cut5_is p0 y r0 z0 x2 ⟨e5, hown2'⟩ rfl
      · simp only [List.getElem_toArray, List.getElem_cons_succ, List.getElem_cons_zero]
        go_wp2
        have h3a := h3.alloc (.cells #[.int .i64 t.d, .bool t.more, .int .i64 t.m, .bool t.s, .string t.nm, .int .i64 t.af, .string t.kg] 33)
        have hT := Held.new v3 33 #[.int .i64 t.d, .bool t.more, .int .i64 t.m, .bool t.s, .string t.nm, .int .i64 t.af, .string t.kg]
        refine onQ_in h3a ?_
        generalize v3.alloc (.cells #[.int .i64 t.d, .bool t.more, .int .i64 t.m, .bool t.s, .string t.nm, .int .i64 t.af, .string t.kg] 33) = va at *
        generalize v3.heap.size = b7 at *
        refine any_one 4 rfl (by kernel_rfl) ?_
        simp only [List.getElem_toArray, List.getElem_cons_succ, List.getElem_cons_zero]
        go_wp2
        refine onQ_in h3a ?_
        refine any_one 8 rfl (by kernel_rfl) ?_
        simp only [List.getElem_toArray, List.getElem_cons_succ, List.getElem_cons_zero]
        go_wp2_with (at_builtin; refine wpList_append_own_at _ rfl _ _ 26 rfl v.heap.size 33 i0 (.agg #[.int .i64 0, .bool false, .int .i64 0, .bool false, .string ⟨#[]⟩, .int .i64 0, .string ⟨#[]⟩]) 7 72 Tryd.underlying26 hi hz0 hz1 hz2 rfl (by decide) (.slice none 0 0) 0 [] rfl ⟨rfl, .inl ⟨rfl, rfl⟩⟩ ⟨b7, 0, none⟩ 1 1 t.cells rfl rfl (held_news hT) (cells_one t) (by unfold maxLen; omega) (by omega) h3a.size ?_; intro x2 w5 hown2 hgrow2 _ _)
        have e5 : Ext v w5 := h3a.grown hgrow2 (fun q hq => by cases hq)
        refine onQ_in e5 ?_
        have hown2' : w5.ownsRow v.heap.size 33 7 x2 1 (rowsL (insT f 0 t) 1) := by simpa [rowsL, insT] using hown2
        clear hown2
        obtain ⟨g, cp, rfl⟩ := ownsRow_succ hown2'
        have hcp : 1 ≤ cp := row_cap hown2'
        have hcp0 : ¬ cp = 0 := by omega
        have hcp1 : ¬ cp < 1 := by omega
        have ha1 := fun w : World => run_append_same (P := Tryd.prog) (w := w) 26 26 33 i0 _ Tryd.underlying26 hi hz0 ⟨g, 0, none⟩ 1 cp (row_cap hown2')
        refine any_one 12 rfl (by kernel_rfl) ?_
        simp only [List.getElem_toArray, List.getElem_cons_succ, List.getElem_cons_zero]
        go_wp2
        refine onQ_in e5 ?_
        refine any_stills (g := 0) [13] [_] ⟨rfl, trivial⟩ (by kernel_rfl) (by kernel_rfl) e5 ?_
        simp only [List.getElem_toArray, List.getElem_cons_succ, List.getElem_cons_zero]
        apply Exists.intro
        refine ⟨fun u => ?_, ?_⟩
        · repeat (first | go_big_quiet_skip | (go_big_quiet_want; go_big_quiet_op; go_big_quiet_on))
          refine wpQuiet_nil ?_
          rfl
        refine any_done (by kernel_rfl) ?_
        clear ha1
        generalize Value.slice (some ⟨g, 0, none⟩) 1 cp = x2 at *
        generalize Value.slice (some ⟨b7, 0, none⟩) 1 1 = y
        obtain ⟨p0, _⟩ : ∃ _ : Value, True := ⟨.slice none 0 0, trivial⟩
        obtain ⟨r0, _⟩ : ∃ _ : Value, True := ⟨.slice none 0 0, trivial⟩
        obtain ⟨z0, _⟩ : ∃ _ : Value, True := ⟨.slice none 0 0, trivial⟩
        exact cut5_is p0 y r0 z0 x2 ⟨e5, hown2'⟩ rfl
    rintro x1 y x2 z x3 w6 ⟨h, hown⟩
    obtain ⟨G, cG, rfl, hG⟩ := trace_row hown
    clear hown
    have HT : RowsAt w6 (none : Option Addr) 0 7 (fun i => (f i).cells) := RowsAt.nil
    replace E := Ext.trans E h
    replace C := C.ext h
    replace B1 := B1.ext h
    replace B2 := B2.ext h
    clear h
    clear k0 k1 lk
    clear p0 p1 p2 p3 p4 p5 p6 p7 lp
    obtain ⟨k0, k1⟩ := B1.c2; have lk := B1.lt
    obtain ⟨p0, p1, p2, p3, p4, p5, p6, p7⟩ := B2.c8; have lp := B2.lt
    clear p0 p1 p2 p3 p4 p5 p6 p7 lp B2
    go_upto_region 5 with (go_at_call 24; (with_reducible refine Calls.mono (N1 _ _ _ C hG) ?_); rintro e v7 ⟨sv, rfl, h, S⟩)
    replace HT := HT.ext h
    replace E := Ext.trans E h
    replace C := C.ext h
    replace B1 := B1.ext h
    clear h
    clear k0 k1 lk
    obtain ⟨k0, k1⟩ := B1.c2; have lk := B1.lt
    go_wp2_with (go_at_call 28; (with_reducible refine Calls.mono (hwk _) ?_); rintro e v8 ⟨rfl, h⟩)
    go_ret
    exact ⟨rfl, E.trans h⟩
end Go.Proofs.YtfchchmmjabjnaaDoor

set_option maxRecDepth 100000
namespace Go.Proofs.YtfchchmmjabjnaaDoor
open Go Go.RowKit

theorem dateSeriesNarrows_all (hwk : WorksOk) (A A' : Option Addr) (ca cb : Nat) (c : Cal) (B : Option Addr) (n cap : Nat) (f : Nat → Tr) (t : Tr) (at_ : Int) (w : World) (hC : CalAt w A ca A' cb c) (hT : RowsAt w B n 7 (fun i => (f i).cells)) (hn : n ≤ 1048576) (hcap : n ≤ cap) (hmax : cap ≤ maxLen) (hnil : B = none → n = 0 ∧ cap = 0) :
    Calls Tryd.prog 6 #[.agg #[.slice A c.nk ca, .slice A' c.ny cb], .slice B n cap, .agg #[.int .i64 t.d, .bool t.more, .int .i64 t.m, .bool t.s, .string t.nm, .int .i64 t.af, .string t.kg, .int .i64 at_]] w fun e w' => e = .returned (.bool true) ∧ Ext w w' := by
  cases B with
  | none =>
    obtain ⟨rfl, rfl⟩ := hnil rfl
    exact dateSeriesNarrows_nil hwk A A' ca cb c t at_ w hC
  | some a => exact dateSeriesNarrows_walk hwk A A' ca cb c a n cap f t at_ w hC hT hn hcap hmax
theorem bulk_one {H : Type} (d : DataW H) : 1 ≤ Rows.uptoBulk d := by
  cases d with
  | lit l => cases l <;> simp [Rows.uptoBulk]
  | nil => simp [Rows.uptoBulk]
  | ptr d => simp [Rows.uptoBulk]
  | slice elems spare => simp [Rows.uptoBulk]
  | agg parts => simp [Rows.uptoBulk]
  | iface t d => simp [Rows.uptoBulk]
  | map entries => simp [Rows.uptoBulk]
  | held h => simp [Rows.uptoBulk]
theorem bulk_length {H : Type} : ∀ l : List (DataW H), l.length ≤ Rows.uptoBulkAll l
  | [] => Nat.zero_le _
  | x :: r => by
    have := bulk_length r
    have := bulk_one x
    simp only [Rows.uptoBulkAll, List.length_cons]
    omega
open Go.ChangeShapes Go.WideShapes Go.Deep in
theorem traces_bulk {H : Type} {enc : TypeId × Value → H} {w : World} {base : Nat} {spare : Nat → Bool} {held : Bool} {r : Reach} {b0 : Nat} {v : Value} {d : DataW H} {p : List MemPlace} (hv : Value.okWide Tryd.prog w r b0 26 v) (h : DataW.Trod enc Tryd.prog w base spare held 26 v d p) :
    ∃ (B : Option Addr) (n cap : Nat) (f : Nat → Tr), v = .slice B n cap ∧ RowsAt w B n 7 (fun i => (f i).cells) ∧ n ≤ cap ∧ cap ≤ maxLen ∧ (B = none → n = 0 ∧ cap = 0) ∧ n ≤ Rows.uptoBulk d := by
  obtain ⟨B, n, cap, f, rfl, h1, h2, h3⟩ := traces_open hv h
  refine ⟨B, n, cap, f, rfl, h1, h2, h3, ?_⟩
  obtain ⟨fuel, hf⟩ := h
  rcases open_slice Tryd.underlying26 hf with ⟨hcs, _⟩ | ⟨a, len, cap', k, m, D, Pl, hcs, _, _, _, _, hx, _⟩
  · simp [Value.cells] at hcs
    obtain ⟨rfl, rfl, rfl⟩ := hcs
    exact ⟨fun _ => ⟨rfl, rfl⟩, Nat.zero_le _⟩
  · simp [Value.cells] at hcs
    obtain ⟨rfl, rfl, rfl⟩ := hcs
    refine ⟨fun h => (by cases h), ?_⟩
    simp only [Prod.mk.injEq] at hx
    rw [hx.1]
    have := bulk_length ((List.range n).map D)
    simp only [List.length_map, List.length_range] at this
    simp only [Rows.uptoBulk]
    omega
end Go.Proofs.YtfchchmmjabjnaaDoor
