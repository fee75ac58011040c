/- The walks of Bring and hidden. -/
import Derived.Test.YtfchchmmjabjnaaDoorPl6
import Derived.Test.YtfchchmmjabjnaaDoorLa
import Derived.Test.YtfchchmmjabjnaaDoorWz
namespace Go.Proofs.YtfchchmmjabjnaaDoor
open Go Go.RowKit
attribute [local go_sem] gv_yes

set_option maxHeartbeats 1000000 in
theorem bring_any (n m : Int) (w : World) (hm : 1 ≤ m) (hm2 : m ≤ 9223372036854775807) : Calls Tryd.prog 35 #[.int .i64 n, .int .i64 m] w fun e w' => e = .returned (.int .i64 (bringI n m)) ∧ w' = w := by
  have h1 := Int.tmod_lt_of_pos n (show 0 < m by omega)
  have h2 := Int.lt_tmod_of_pos n (show 0 < m by omega)
  have HR : Hid (bringI n m = if n.tmod m < 0 then n.tmod m + m else n.tmod m) := by unfold Hid bringI; rw [if_neg (by omega)]
  by_cases hn : n.tmod m < 0
  · go_enter Tryd.func35, Tryd.ntmps35
    go_wp2
    go_ret
    exact ⟨ret_int (by rw [HR.out, if_pos hn]), rfl⟩
  · go_enter Tryd.func35, Tryd.ntmps35
    go_wp2
    go_ret
    exact ⟨ret_int (by rw [HR.out, if_neg (by omega)]), rfl⟩
theorem bring_ext (n m : Int) (w : World) (hm : 1 ≤ m) (hm2 : m ≤ 9223372036854775807) : Calls Tryd.prog 35 #[.int .i64 n, .int .i64 m] w fun e w' => e = .returned (.int .i64 (bringI n m)) ∧ Ext w w' :=
  (bring_any n m w hm hm2).mono fun _ _ ⟨h1, h2⟩ => ⟨h1, by rw [h2]; exact Ext.refl _⟩
theorem Held.off {W : World} {b b' i : Nat} {t : TypeId} {cs : Array Value} (h : Held W b t cs) (hne : b' ≠ b) (u : Value) : Held (W.setCell ⟨b', i, none⟩ u) b t cs := by
  unfold Held at h ⊢
  simp [World.setCell, Array.getElem?_modify, hne, h]
set_option maxRecDepth 100000 in
set_option maxHeartbeats 4000000 in
theorem hidden_any (t : Tr) (which day : Int) (w : World) (_hd : t.d ≤ 30) :
    Calls Tryd.prog 34 #[.agg #[.int .i64 t.d, .bool t.more, .int .i64 t.m, .bool t.s, .string t.nm, .int .i64 t.af, .string t.kg], .int .i64 which, .int .i64 day] w fun e w' => e = .returned (.agg #[.int .i64 (t.hide which day).d, .bool (t.hide which day).more, .int .i64 (t.hide which day).m, .bool (t.hide which day).s, .string (t.hide which day).nm, .int .i64 (t.hide which day).af, .string (t.hide which day).kg]) ∧ Ext w w' := by
  have HN : noB = ⟨#[]⟩ := rfl
  by_cases h0 : which = 0
  · subst h0
    have HR : Hid (t.hide 0 day = ⟨0, false, t.m, t.s, t.nm, t.af, t.kg⟩) := rfl
    generalize t.hide 0 day = u at *
    go_enter Tryd.func34, Tryd.ntmps34
    go_wp2
    refine bodyPost_ret (v := .agg #[.int .i64 0, .bool false, .int .i64 t.m, .bool t.s, .string t.nm, .int .i64 t.af, .string t.kg]) (by simp [results, Tryd.results34, go_sem]) rfl ⟨by rw [HR.out], (by repeat (first | exact Ext.refl _ | (refine Ext.alloc ?_ _) | (refine Ext.trans ?_ (by assumption))))⟩
  · have f0 := Lib.hid h0
    have g0 : (which == 0) = false := beq_eq_false_iff_ne.2 h0
    clear h0
    by_cases h1 : which = 1
    · subst h1
      by_cases hp : 0 < t.d
      · have hb := bringI_bd (n := day) hp
        have HR : Hid (t.hide 1 day = ⟨1 + bringI day t.d, true, t.m, t.s, t.nm, t.af, t.kg⟩) := by unfold Hid Tr.hide; rw [if_neg (by decide), if_pos rfl, if_pos hp]
        have NB := fun w => bring_ext day t.d w (by omega) (by omega)
        generalize bringI day t.d = r at *
        obtain ⟨hb1, hb2⟩ := hb
        generalize t.hide 1 day = u at *
        go_enter Tryd.func34, Tryd.ntmps34
        go_upto_region 13 with (go_at_call 35; (with_reducible refine Calls.mono (NB _) ?_); rintro e wq ⟨rfl, hq⟩; have hz := (Held.ext (b := w.heap.size) (t := 33) (cs := #[.int .i64 t.d, .bool t.more, .int .i64 t.m, .bool t.s, .string t.nm, .int .i64 t.af, .string t.kg]) (by repeat (first | (refine Held.at _ _ _ _ ?_; (simp; done)) | refine Held.alloc ?_ _)) hq); have hy := (Held.ext (b := w.heap.size + 1) (t := 33) (cs := #[.int .i64 0, .bool false, .int .i64 0, .bool false, .string ⟨#[]⟩, .int .i64 0, .string ⟨#[]⟩]) (by repeat (first | (refine Held.at _ _ _ _ ?_; (simp; done)) | refine Held.alloc ?_ _)) hq); obtain ⟨c0, c1, c2, c3, c4, c5, c6⟩ := hz.c7; obtain ⟨d0, d1, d2, d3, d4, d5, d6⟩ := frozen7 hz; have lz := hz.lt)
        have E1 : Ext w ((wq.setCell ⟨w.heap.size, 0, none⟩ (.int .i64 (1 + r))).setCell ⟨w.heap.size, 1, none⟩ (.bool true)) := by
          have e : Ext w wq := (by repeat (first | exact Ext.refl _ | (refine Ext.alloc ?_ _) | (refine Ext.trans ?_ (by assumption))))
          exact (e.setCell (p := ⟨w.heap.size, 0, none⟩) (Nat.le_refl _) _).setCell (p := ⟨w.heap.size, 1, none⟩) (Nat.le_refl _) _
        have Z1 := (hz.set 0 (.int .i64 (1 + r))).set 1 (.bool true)
        have Y1 := (hy.off (b' := w.heap.size) (i := 0) (by omega) (.int .i64 (1 + r))).off (b' := w.heap.size) (i := 1) (by omega) (.bool true)
        simp only [List.setIfInBounds_toArray, List.set_cons_zero, List.set_cons_succ] at Z1
        clear c0 c1 c2 c3 c4 c5 c6 d0 d1 d2 d3 d4 d5 d6 lz hz hy hq
        generalize ((wq.setCell ⟨w.heap.size, 0, none⟩ (.int .i64 (1 + r))).setCell ⟨w.heap.size, 1, none⟩ (.bool true)) = v at *
        obtain ⟨c0, c1, c2, c3, c4, c5, c6⟩ := Z1.c7
        have lz := Z1.lt
        obtain ⟨d0, d1, d2, d3, d4, d5, d6⟩ := frozen7 Y1
        obtain ⟨y0, y1, y2, y3, y4, y5, y6⟩ := Y1.c7
        have ly := Y1.lt
        go_wp2
        obtain ⟨hs, gE⟩ := seven_set Y1 (.int .i64 (1 + r)) (.bool true) (.int .i64 t.m) (.bool t.s) (.string t.nm) (.int .i64 t.af) (.string t.kg)
        obtain ⟨q0, q1, q2, q3, q4, q5, q6⟩ := hs.c7
        refine bodyPost_ret (v := .agg #[.int .i64 (1 + r), .bool true, .int .i64 t.m, .bool t.s, .string t.nm, .int .i64 t.af, .string t.kg]) (by simp [results, Tryd.results34, go_sem, q0, q1, q2, q3, q4, q5, q6]) rfl ⟨by rw [HR.out], gE w E1 (by omega)⟩
      · have HR : Hid (t.hide 1 day = t) := by unfold Hid Tr.hide; rw [if_neg (by decide), if_pos rfl, if_neg hp]
        generalize t.hide 1 day = u at *
        go_enter Tryd.func34, Tryd.ntmps34
        go_wp2
        refine bodyPost_ret (v := .agg #[.int .i64 t.d, .bool t.more, .int .i64 t.m, .bool t.s, .string t.nm, .int .i64 t.af, .string t.kg]) (by simp [results, Tryd.results34, go_sem]) rfl ⟨by rw [HR.out], (by repeat (first | exact Ext.refl _ | (refine Ext.alloc ?_ _) | (refine Ext.trans ?_ (by assumption))))⟩
    · have f1 := Lib.hid h1
      have g1 : (which == 1) = false := beq_eq_false_iff_ne.2 h1
      clear h1
      by_cases h2 : which = 2
      · subst h2
        have HR : Hid (t.hide 2 day = ⟨t.d, t.more, 0, false, t.nm, t.af, t.kg⟩) := rfl
        generalize t.hide 2 day = u at *
        go_enter Tryd.func34, Tryd.ntmps34
        go_wp2
        refine bodyPost_ret (v := .agg #[.int .i64 t.d, .bool t.more, .int .i64 0, .bool false, .string t.nm, .int .i64 t.af, .string t.kg]) (by simp [results, Tryd.results34, go_sem]) rfl ⟨by rw [HR.out], (by repeat (first | exact Ext.refl _ | (refine Ext.alloc ?_ _) | (refine Ext.trans ?_ (by assumption))))⟩
      · have f2 := Lib.hid h2
        have g2 : (which == 2) = false := beq_eq_false_iff_ne.2 h2
        clear h2
        by_cases h3 : which = 3
        · subst h3
          have HR : Hid (t.hide 3 day = ⟨t.d, t.more, t.m, t.s, noB, 0, t.kg⟩) := rfl
          generalize t.hide 3 day = u at *
          go_enter Tryd.func34, Tryd.ntmps34
          go_wp2
          refine bodyPost_ret (v := .agg #[.int .i64 t.d, .bool t.more, .int .i64 t.m, .bool t.s, .string ⟨#[]⟩, .int .i64 0, .string t.kg]) (by simp [results, Tryd.results34, go_sem]) rfl ⟨by rw [HR.out, HN], (by repeat (first | exact Ext.refl _ | (refine Ext.alloc ?_ _) | (refine Ext.trans ?_ (by assumption))))⟩
        · have f3 := Lib.hid h3
          have g3 : (which == 3) = false := beq_eq_false_iff_ne.2 h3
          clear h3
          by_cases h4 : which = 4
          · subst h4
            have HR : Hid (t.hide 4 day = ⟨t.d, t.more, t.m, t.s, t.nm, t.af, noB⟩) := rfl
            generalize t.hide 4 day = u at *
            go_enter Tryd.func34, Tryd.ntmps34
            go_wp2
            refine bodyPost_ret (v := .agg #[.int .i64 t.d, .bool t.more, .int .i64 t.m, .bool t.s, .string t.nm, .int .i64 t.af, .string ⟨#[]⟩]) (by simp [results, Tryd.results34, go_sem]) rfl ⟨by rw [HR.out, HN], (by repeat (first | exact Ext.refl _ | (refine Ext.alloc ?_ _) | (refine Ext.trans ?_ (by assumption))))⟩
          · have HR : Hid (t.hide which day = t) := by unfold Hid Tr.hide; rw [if_neg f0.out, if_neg f1.out, if_neg f2.out, if_neg f3.out, if_neg h4]
            have g4 : (which == 4) = false := beq_eq_false_iff_ne.2 h4
            clear h4
            generalize t.hide which day = u at *
            go_enter Tryd.func34, Tryd.ntmps34
            go_wp2
            refine bodyPost_ret (v := .agg #[.int .i64 t.d, .bool t.more, .int .i64 t.m, .bool t.s, .string t.nm, .int .i64 t.af, .string t.kg]) (by simp [results, Tryd.results34, go_sem]) rfl ⟨by rw [HR.out], (by repeat (first | exact Ext.refl _ | (refine Ext.alloc ?_ _) | (refine Ext.trans ?_ (by assumption))))⟩
end Go.Proofs.YtfchchmmjabjnaaDoor
