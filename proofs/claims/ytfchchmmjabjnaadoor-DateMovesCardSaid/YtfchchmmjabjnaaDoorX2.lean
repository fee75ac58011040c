/- The law's own small functions: read, example, sameSpans. -/
import Derived.Test.YtfchchmmjabjnaaDoorX1
namespace Go.Proofs.YtfchchmmjabjnaaDoor
open Go Go.RowKit
attribute [local go_sem] gv_yes

theorem parseE_cases (s : ByteArray) : parseE s = 0 ∨ (parseE s = 5 ∧ parseV s = zTr) := by
  unfold parseE parseV
  cases parseS s <;> simp
set_option maxHeartbeats 1000000 in
theorem lread_any (s : ByteArray) (T : Tr) (w : World) (h63 : s.size ≤ 9223372036854775807) (hT : parseV s = T) :
    Calls Tryd.prog 82 #[.string s] w fun e w' => e = .returned (.agg #[.int .i64 T.d, .bool T.more, .int .i64 T.m, .bool T.s, .string T.nm, .int .i64 T.af, .string T.kg]) ∧ Ext w w' := by
  have hp := fun w => parseX_any s w h63
  rw [hT] at hp
  rcases parseE_cases s with hE | ⟨hE, hV⟩
  · rw [hE] at hp
    replace hp : ∀ w, Calls Tryd.prog 50 #[.string s] w fun e w' => e = .returned (.tuple #[.agg #[.int .i64 T.d, .bool T.more, .int .i64 T.m, .bool T.s, .string T.nm, .int .i64 T.af, .string T.kg], .int .i64 0]) ∧ Ext w w' := hp
    clear hT hE
    go_enter Tryd.func82, Tryd.ntmps82
    go_wp2_with (go_at_call 50; (with_reducible refine Calls.mono (hp _) ?_); rintro e wq ⟨rfl, hq⟩; have hz := ((Held.new w 33 #[.int .i64 0, .bool false, .int .i64 0, .bool false, .string ⟨#[]⟩, .int .i64 0, .string ⟨#[]⟩]).ext hq); obtain ⟨z0, z1, z2, z3, z4, z5, z6⟩ := hz.c7; obtain ⟨f0, f1, f2, f3, f4, f5, f6⟩ := frozen7 hz; have lz := hz.lt)
    obtain ⟨hs, gE⟩ := seven_set hz (.int .i64 T.d) (.bool T.more) (.int .i64 T.m) (.bool T.s) (.string T.nm) (.int .i64 T.af) (.string T.kg)
    obtain ⟨q0, q1, q2, q3, q4, q5, q6⟩ := (hs.alloc (.cells #[.int .i64 T.d, .bool T.more, .int .i64 T.m, .bool T.s, .string T.nm, .int .i64 T.af, .string T.kg] 33)).c7
    refine bodyPost_ret (v := .agg #[.int .i64 T.d, .bool T.more, .int .i64 T.m, .bool T.s, .string T.nm, .int .i64 T.af, .string T.kg]) (by simp [results, Tryd.results82, go_sem, q0, q1, q2, q3, q4, q5, q6]) rfl ⟨rfl, (gE w (by repeat (first | exact Ext.refl _ | (refine Ext.alloc ?_ _) | (refine Ext.trans ?_ (by assumption)))) (Nat.le_refl _)).alloc _⟩
  · rw [hE] at hp
    rw [hT] at hV
    subst hV
    replace hp : ∀ w, Calls Tryd.prog 50 #[.string s] w fun e w' => e = .returned (.tuple #[.agg #[.int .i64 0, .bool false, .int .i64 0, .bool false, .string ⟨#[]⟩, .int .i64 0, .string ⟨#[]⟩], .int .i64 5]) ∧ Ext w w' := hp
    show Calls Tryd.prog 82 #[.string s] w fun e w' => e = .returned (.agg #[.int .i64 0, .bool false, .int .i64 0, .bool false, .string ⟨#[]⟩, .int .i64 0, .string ⟨#[]⟩]) ∧ Ext w w'
    clear hT hE
    go_enter Tryd.func82, Tryd.ntmps82
    go_wp2_with (go_at_call 50; (with_reducible refine Calls.mono (hp _) ?_); rintro e wq ⟨rfl, hq⟩; have hz := ((Held.new w 33 #[.int .i64 0, .bool false, .int .i64 0, .bool false, .string ⟨#[]⟩, .int .i64 0, .string ⟨#[]⟩]).ext hq); obtain ⟨z0, z1, z2, z3, z4, z5, z6⟩ := hz.c7; obtain ⟨f0, f1, f2, f3, f4, f5, f6⟩ := frozen7 hz; have lz := hz.lt)
    obtain ⟨hs, gE⟩ := seven_set hz (.int .i64 0) (.bool false) (.int .i64 0) (.bool false) (.string ⟨#[]⟩) (.int .i64 0) (.string ⟨#[]⟩)
    obtain ⟨q0, q1, q2, q3, q4, q5, q6⟩ := (hs.alloc (.cells #[.int .i64 0, .bool false, .int .i64 0, .bool false, .string ⟨#[]⟩, .int .i64 0, .string ⟨#[]⟩] 33)).c7
    refine bodyPost_ret (v := .agg #[.int .i64 0, .bool false, .int .i64 0, .bool false, .string ⟨#[]⟩, .int .i64 0, .string ⟨#[]⟩]) (by simp [results, Tryd.results82, go_sem, q0, q1, q2, q3, q4, q5, q6]) rfl ⟨rfl, (gE w (by repeat (first | exact Ext.refl _ | (refine Ext.alloc ?_ _) | (refine Ext.trans ?_ (by assumption)))) (Nat.le_refl _)).alloc _⟩
theorem rows_held {w : World} {b : Nat} {t : TypeId} {cs : Array Value} {n sz : Nat} {f : Nat → List Value} (h : Held w b t cs) (hf : ∀ i j v, i < n → (f i)[j]? = some v → cs[i * sz + j]? = some v) : RowsAt w (some ⟨b, 0, none⟩) n sz f :=
  fun _ => ⟨b, 0, rfl, h.lt, fun i j v hi hv => by rw [Nat.zero_add, h.cell]; exact hf i j v hi hv⟩
theorem example_any (w : World) : Calls Tryd.prog 81 #[] w fun e w' => ∃ A A' ca cb, e = .returned (.agg #[.slice A 2 ca, .slice A' 3 cb]) ∧ Ext w w' ∧ CalAt w' A ca A' cb exCal := by
  go_enter Tryd.func81, Tryd.ntmps81
  go_wp2
  refine bodyPost_ret (v := .agg #[.slice (some ⟨w.heap.size + 1, 0, none⟩) 2 2, .slice (some ⟨w.heap.size + 1 + 1, 0, none⟩) 3 3]) (by simp [results, Tryd.results81, go_sem]) rfl ⟨_, _, _, _, rfl, (by repeat (first | exact Ext.refl _ | (refine Ext.alloc ?_ _) | (refine Ext.trans ?_ (by assumption)))), ⟨?_, ?_, by decide, by decide, by decide, by decide⟩⟩
  · refine rows_held (t := 9) (cs := #[.string sUr, .string sSi]) (by repeat (first | (refine Held.at _ _ _ _ ?_; (simp; done)) | refine Held.alloc ?_ _)) ?_
    intro i j v hi hv
    have hi : i < 2 := hi
    have hj : j < 1 := (List.getElem?_eq_some_iff.1 hv).1
    rw [← hv]
    have : i = 0 ∨ i = 1 := by omega
    obtain rfl : j = 0 := by omega
    rcases this with rfl | rfl <;> rfl
  · refine rows_held (t := 99) (cs := #[.int .i64 0, .string sWall, .int .i64 4095, .int .i64 0, .int .i64 0, .string sCanal, .int .i64 0, .int .i64 6, .int .i64 1, .string sWall, .int .i64 4095, .int .i64 0]) (by repeat (first | (refine Held.at _ _ _ _ ?_; (simp; done)) | refine Held.alloc ?_ _)) ?_
    intro i j v hi hv
    have hi : i < 3 := hi
    have hj : j < 4 := (List.getElem?_eq_some_iff.1 hv).1
    rw [← hv]
    have h1 : i = 0 ∨ i = 1 ∨ i = 2 := by omega
    have h2 : j = 0 ∨ j = 1 ∨ j = 2 ∨ j = 3 := by omega
    rcases h1 with rfl | rfl | rfl <;> rcases h2 with rfl | rfl | rfl | rfl <;> rfl
end Go.Proofs.YtfchchmmjabjnaaDoor
