/- The walk of DateTraceTexts. -/
import Derived.Test.YtfchchmmjabjnaaDoorLe
import Derived.Test.YtfchchmmjabjnaaDoorLo
namespace Go.Proofs.YtfchchmmjabjnaaDoor
open Go Go.RowKit
attribute [local go_sem] gv_yes

set_option maxRecDepth 100000 in
set_option maxHeartbeats 4000000 in
theorem dateTraceTexts_walk (hwk : WorksOk) (t : Tr) (s : ByteArray) (hs : s.size ≤ maxLen) (w : World) :
    Calls Tryd.prog 13 #[.agg #[.int .i64 t.d, .bool t.more, .int .i64 t.m, .bool t.s, .string t.nm, .int .i64 t.af, .string t.kg], .string s] w fun e w' => e = .returned (.bool true) ∧ Ext w w' := by
  have hwk : ∀ w : World, Calls Tryd.prog 28 #[] w fun e w' => e = .returned (.bool true) ∧ Ext w w' := hwk
  have hs : s.size ≤ 9223372036854775807 := Nat.le_trans hs (by decide)
  have N1 := fun w => textX_any t w
  have M1 := fun w => rtext_any t w
  have NC := fun w => checkTrace_any t w
  have MC := fun w => checkTraceR_any t w
  have N3 := fun w => parseX_any s w hs
  have M3 := fun w => rparse_any s w hs
  clear hs
  generalize trChk t = z1 at *
  generalize (if t.ok then textS t else ⟨#[]⟩) = z2 at *
  generalize (if t.ok then (72 : Int) else 0) = z4 at *
  generalize (if t.ok then (0 : Int) else 72) = z3 at *
  generalize parseE s = z5 at *
  generalize parseV s = p at *
  unfold Tr.val at N3 M3
  have NE := fun w => trace_eql p w
  go_enter Tryd.func13, Tryd.ntmps13
  go_upto_region 1 with (fail)
  obtain ⟨v, hv⟩ : ∃ v, v = (w.alloc (.cells #[.int .i64 t.d, .bool t.more, .int .i64 t.m, .bool t.s, .string t.nm, .int .i64 t.af, .string t.kg] 33)) := ⟨_, rfl⟩
  rw [← hv]
  have E : Ext w v := by rw [hv]; exact (Ext.refl _).alloc _
  have B1 : Held v w.heap.size 33 #[.int .i64 t.d, .bool t.more, .int .i64 t.m, .bool t.s, .string t.nm, .int .i64 t.af, .string t.kg] := by rw [hv]; exact (Held.new _ _ _)
  clear hv
  generalize w.heap.size = b1 at *
  obtain ⟨k0, k1, k2, k3, k4, k5, k6⟩ := B1.c7; have lk := B1.lt
  go_upto_region 2 with (go_at_call 46; (with_reducible refine Calls.mono (N1 _) ?_); rintro e v2 ⟨rfl, h⟩)
  replace E := Ext.trans E h
  replace B1 := B1.ext h
  clear h
  clear k0 k1 k2 k3 k4 k5 k6 lk
  obtain ⟨k0, k1, k2, k3, k4, k5, k6⟩ := B1.c7; have lk := B1.lt
  go_upto_region 3 with (go_at_call 47; (with_reducible refine Calls.mono (M1 _) ?_); rintro e v3 ⟨rfl, h⟩)
  replace E := Ext.trans E h
  replace B1 := B1.ext h
  clear h
  clear k0 k1 k2 k3 k4 k5 k6 lk
  obtain ⟨k0, k1, k2, k3, k4, k5, k6⟩ := B1.c7; have lk := B1.lt
  refine wp_region_xw v3 mixed (by kernel_rfl) (by repeat (first | exact Ext.refl _ | (refine Ext.alloc ?_ _) | (refine Ext.trans ?_ (by assumption)))) ?_
  intro hne hrx hry
  try simp only []
  try simp only [List.append_eq, List.cons_append, List.nil_append]
  skip
  repeat (first
    | go_big_quiet_skip
    | (go_big_quiet_want; go_big_quiet_op; go_big_quiet_on)
    | (go_big_quiet_want; go_big_quiet_op; apply Exists.intro; refine ⟨fun u => ?_, ?_⟩
       · first
           | (go_at_call 48; (with_reducible refine Calls.mono (NC _) ?_); rintro e w' ⟨rfl, hb⟩; exact ⟨rfl, u.back hb⟩)
           | (go_at_call 49; (with_reducible refine Calls.mono (MC _) ?_); rintro e w' ⟨rfl, hb⟩; exact ⟨rfl, u.back hb⟩)
       go_big_quiet_on))
  clear hne hry hrx
  refine wpQuiet_nil ?_
  intro v4 h
  obtain ⟨hcv4, hfv4, hzv4⟩ := Ext.rules h
  try simp only [World.size_alloc] at hzv4
  obtain ⟨hcbv4, hfbv4, hzbv4⟩ := Ext.rules (show Ext v3 v4 from (by repeat (first | exact Ext.refl _ | (refine Ext.alloc ?_ _) | (refine Ext.trans ?_ (by assumption)))))
  clear hcv4 hfv4
  have E' := E.trans h
  clear h
  go_upto_region 5 with (go_at_call 50; (with_reducible refine Calls.mono (N3 _) ?_); rintro e v5 ⟨rfl, h⟩)
  replace E' := E'.trans h
  clear h
  obtain ⟨v6, hv⟩ : ∃ v, v = v5.alloc (.cells #[.int .i64 p.d, .bool p.more, .int .i64 p.m, .bool p.s, .string p.nm, .int .i64 p.af, .string p.kg] 33) := ⟨_, rfl⟩
  rw [← hv]
  have h' : Ext v5 v6 := by rw [hv]; exact (Ext.refl _).alloc _
  have B3 : Held v6 v5.heap.size 33 #[.int .i64 p.d, .bool p.more, .int .i64 p.m, .bool p.s, .string p.nm, .int .i64 p.af, .string p.kg] := by rw [hv]; exact Held.new _ _ _
  clear hv
  generalize v5.heap.size = b3 at *
  replace E' := E'.trans h'
  clear h'
  go_upto_region 6 with (go_at_call 51; (with_reducible refine Calls.mono (M3 _) ?_); rintro e v7 ⟨rfl, h⟩)
  replace E' := E'.trans h
  replace B3 := B3.ext h
  clear h
  obtain ⟨v8, hv⟩ : ∃ v, v = v7.alloc (.cells #[.int .i64 p.d, .bool p.more, .int .i64 p.m, .bool p.s, .string p.nm, .int .i64 p.af, .string p.kg] 33) := ⟨_, rfl⟩
  rw [← hv]
  have h' : Ext v7 v8 := by rw [hv]; exact (Ext.refl _).alloc _
  have B4 : Held v8 v7.heap.size 33 #[.int .i64 p.d, .bool p.more, .int .i64 p.m, .bool p.s, .string p.nm, .int .i64 p.af, .string p.kg] := by rw [hv]; exact Held.new _ _ _
  clear hv
  generalize v7.heap.size = b4 at *
  replace E' := E'.trans h'
  replace B3 := B3.ext h'
  clear h'
  obtain ⟨q0, q1, q2, q3, q4, q5, q6⟩ := B3.c7; have lq := B3.lt
  obtain ⟨r0, r1, r2, r3, r4, r5, r6⟩ := B4.c7; have lr := B4.lt
  go_wp2_with (go_at_call 28; (with_reducible refine Calls.mono (hwk _) ?_); rintro e v9 ⟨rfl, h⟩)
  go_ret
  exact ⟨rfl, E'.trans h⟩
end Go.Proofs.YtfchchmmjabjnaaDoor
