/- The walk of DateTraceBack. -/
import Derived.Test.YtfchchmmjabjnaaDoorLa
import Derived.Test.YtfchchmmjabjnaaDoorPl7
namespace Go.Proofs.YtfchchmmjabjnaaDoor
open Go Go.RowKit
attribute [local go_sem] gv_yes

theorem trace_eql (a : Tr) (w : World) : (binOp .eql 33 (.agg #[.int .i64 a.d, .bool a.more, .int .i64 a.m, .bool a.s, .string a.nm, .int .i64 a.af, .string a.kg]) (.agg #[.int .i64 a.d, .bool a.more, .int .i64 a.m, .bool a.s, .string a.nm, .int .i64 a.af, .string a.kg])).run Tryd.prog w = .ok (.bool true) w := by
  rw [eql_trace]; simp
theorem trace_neq (a : Tr) (w : World) : (binOp .neq 33 (.agg #[.int .i64 a.d, .bool a.more, .int .i64 a.m, .bool a.s, .string a.nm, .int .i64 a.af, .string a.kg]) (.agg #[.int .i64 a.d, .bool a.more, .int .i64 a.m, .bool a.s, .string a.nm, .int .i64 a.af, .string a.kg])).run Tryd.prog w = .ok (.bool false) w := by
  rw [neq_trace]; simp
set_option maxRecDepth 100000 in
set_option maxHeartbeats 4000000 in
theorem dateTraceBack_walk (hwk : WorksOk) (t : Tr) (s : ByteArray) (hs : s.size ≤ maxLen) (w : World) :
    Calls Tryd.prog 14 #[.agg #[.int .i64 t.d, .bool t.more, .int .i64 t.m, .bool t.s, .string t.nm, .int .i64 t.af, .string t.kg], .string s] w fun e w' => e = .returned (.bool true) ∧ Ext w w' := by
  have hwk : ∀ w : World, Calls Tryd.prog 28 #[] w fun e w' => e = .returned (.bool true) ∧ Ext w w' := hwk
  have hs : s.size ≤ 9223372036854775807 := Nat.le_trans hs (by decide)
  have N1 := fun w => textX_any t w
  have NC := fun w => checkTrace_any t w
  have NE := fun w => trace_neq t w
  have N3 : (parseS s = none ∧ ∀ w : World, Calls Tryd.prog 50 #[.string s] w fun e w' => e = .returned (.tuple #[.agg #[.int .i64 0, .bool false, .int .i64 0, .bool false, .string ⟨#[]⟩, .int .i64 0, .string ⟨#[]⟩], .int .i64 5]) ∧ Ext w w') ∨
      (∃ u : Tr, (∀ w : World, Calls Tryd.prog 46 #[.agg #[.int .i64 u.d, .bool u.more, .int .i64 u.m, .bool u.s, .string u.nm, .int .i64 u.af, .string u.kg]] w fun e w' => e = .returned (.tuple #[.string s, .int .i64 0]) ∧ Ext w w') ∧ ∀ w : World, Calls Tryd.prog 50 #[.string s] w fun e w' => e = .returned (.tuple #[.agg #[.int .i64 u.d, .bool u.more, .int .i64 u.m, .bool u.s, .string u.nm, .int .i64 u.af, .string u.kg], .int .i64 0]) ∧ Ext w w') := by
    cases hp : parseS s with
    | none =>
      refine .inl ⟨rfl, fun w => ?_⟩
      have := parseX_any s w hs
      unfold parseV parseE at this
      rw [hp] at this
      exact this
    | some u =>
      obtain ⟨h1, h2⟩ := text_parse hp
      refine .inr ⟨u, fun w => ?_, fun w => ?_⟩
      · have := textX_any u w
        rw [h1, h2] at this
        exact this
      · have := parseX_any s w hs
        unfold parseV parseE at this
        rw [hp] at this
        exact this
  clear hs
  cases hk : t.ok
  · have hc : trChk t = 72 := by unfold trChk; rw [hk]; rfl
    simp only [hk, Bool.false_eq_true, if_false] at N1
    simp only [hc] at NC
    clear hk hc NE
    have NZ := fun w => trace_eql ⟨0, false, 0, false, ⟨#[]⟩, 0, ⟨#[]⟩⟩ w
    rcases N3 with ⟨_, N3⟩ | ⟨u, N4, N3⟩
    · skip
      go_enter Tryd.func14, Tryd.ntmps14
      go_upto_region 1 with (fail)
      obtain ⟨v, hv⟩ : ∃ v, v = (w.alloc (.cells #[.int .i64 t.d, .bool t.more, .int .i64 t.m, .bool t.s, .string t.nm, .int .i64 t.af, .string t.kg] 33)) := ⟨_, rfl⟩
      rw [← hv]
      have E : Ext w v := by rw [hv]; exact (Ext.refl _).alloc _
      have B1 : Held v w.heap.size 33 #[.int .i64 t.d, .bool t.more, .int .i64 t.m, .bool t.s, .string t.nm, .int .i64 t.af, .string t.kg] := by rw [hv]; exact (Held.new _ _ _)
      clear hv
      generalize w.heap.size = b1 at *
      obtain ⟨k0, k1, k2, k3, k4, k5, k6⟩ := B1.c7; have lk := B1.lt
      go_upto_region 2 with (go_at_call 46; (with_reducible refine Calls.mono (N1 _) ?_); rintro e v2 ⟨rfl, h⟩)
      replace E := Ext.trans E h
      replace B1 := B1.ext h
      clear h
      clear k0 k1 k2 k3 k4 k5 k6 lk
      obtain ⟨k0, k1, k2, k3, k4, k5, k6⟩ := B1.c7; have lk := B1.lt
      go_upto_region 8 with (go_at_call 48; (with_reducible refine Calls.mono (NC _) ?_); rintro e vc ⟨rfl, h⟩)
      replace E := Ext.trans E h
      replace B1 := B1.ext h
      clear h
      clear k0 k1 k2 k3 k4 k5 k6 lk
      obtain ⟨k0, k1, k2, k3, k4, k5, k6⟩ := B1.c7; have lk := B1.lt
      go_upto_region 9 with (go_at_call 50; (with_reducible refine Calls.mono (N3 _) ?_); rintro e v5 ⟨rfl, h⟩)
      replace E := Ext.trans E h
      replace B1 := B1.ext h
      clear h
      clear k0 k1 k2 k3 k4 k5 k6 lk
      obtain ⟨k0, k1, k2, k3, k4, k5, k6⟩ := B1.c7; have lk := B1.lt
      obtain ⟨v6, hv⟩ : ∃ v, v = v5.alloc (.cells #[.int .i64 0, .bool false, .int .i64 0, .bool false, .string ⟨#[]⟩, .int .i64 0, .string ⟨#[]⟩] 33) := ⟨_, rfl⟩
      rw [← hv]
      have h : Ext v5 v6 := by rw [hv]; exact (Ext.refl _).alloc _
      have B3 : Held v6 v5.heap.size 33 #[.int .i64 0, .bool false, .int .i64 0, .bool false, .string ⟨#[]⟩, .int .i64 0, .string ⟨#[]⟩] := by rw [hv]; exact Held.new _ _ _
      clear hv
      generalize v5.heap.size = b3 at *
      replace E := Ext.trans E h
      replace B1 := B1.ext h
      clear h
      clear k0 k1 k2 k3 k4 k5 k6 lk
      obtain ⟨k0, k1, k2, k3, k4, k5, k6⟩ := B1.c7; have lk := B1.lt
      obtain ⟨q0, q1, q2, q3, q4, q5, q6⟩ := B3.c7; have lq := B3.lt
      go_wp2_with (go_at_call 28; (with_reducible refine Calls.mono (hwk _) ?_); rintro e v8 ⟨rfl, h⟩)
      go_ret
      exact ⟨rfl, E.trans h⟩
    · skip
      go_enter Tryd.func14, Tryd.ntmps14
      go_upto_region 1 with (fail)
      obtain ⟨v, hv⟩ : ∃ v, v = (w.alloc (.cells #[.int .i64 t.d, .bool t.more, .int .i64 t.m, .bool t.s, .string t.nm, .int .i64 t.af, .string t.kg] 33)) := ⟨_, rfl⟩
      rw [← hv]
      have E : Ext w v := by rw [hv]; exact (Ext.refl _).alloc _
      have B1 : Held v w.heap.size 33 #[.int .i64 t.d, .bool t.more, .int .i64 t.m, .bool t.s, .string t.nm, .int .i64 t.af, .string t.kg] := by rw [hv]; exact (Held.new _ _ _)
      clear hv
      generalize w.heap.size = b1 at *
      obtain ⟨k0, k1, k2, k3, k4, k5, k6⟩ := B1.c7; have lk := B1.lt
      go_upto_region 2 with (go_at_call 46; (with_reducible refine Calls.mono (N1 _) ?_); rintro e v2 ⟨rfl, h⟩)
      replace E := Ext.trans E h
      replace B1 := B1.ext h
      clear h
      clear k0 k1 k2 k3 k4 k5 k6 lk
      obtain ⟨k0, k1, k2, k3, k4, k5, k6⟩ := B1.c7; have lk := B1.lt
      go_upto_region 8 with (go_at_call 48; (with_reducible refine Calls.mono (NC _) ?_); rintro e vc ⟨rfl, h⟩)
      replace E := Ext.trans E h
      replace B1 := B1.ext h
      clear h
      clear k0 k1 k2 k3 k4 k5 k6 lk
      obtain ⟨k0, k1, k2, k3, k4, k5, k6⟩ := B1.c7; have lk := B1.lt
      go_upto_region 9 with (go_at_call 50; (with_reducible refine Calls.mono (N3 _) ?_); rintro e v5 ⟨rfl, h⟩)
      replace E := Ext.trans E h
      replace B1 := B1.ext h
      clear h
      clear k0 k1 k2 k3 k4 k5 k6 lk
      obtain ⟨k0, k1, k2, k3, k4, k5, k6⟩ := B1.c7; have lk := B1.lt
      obtain ⟨v6, hv⟩ : ∃ v, v = v5.alloc (.cells #[.int .i64 u.d, .bool u.more, .int .i64 u.m, .bool u.s, .string u.nm, .int .i64 u.af, .string u.kg] 33) := ⟨_, rfl⟩
      rw [← hv]
      have h : Ext v5 v6 := by rw [hv]; exact (Ext.refl _).alloc _
      have B3 : Held v6 v5.heap.size 33 #[.int .i64 u.d, .bool u.more, .int .i64 u.m, .bool u.s, .string u.nm, .int .i64 u.af, .string u.kg] := by rw [hv]; exact Held.new _ _ _
      clear hv
      generalize v5.heap.size = b3 at *
      replace E := Ext.trans E h
      replace B1 := B1.ext h
      clear h
      clear k0 k1 k2 k3 k4 k5 k6 lk
      obtain ⟨k0, k1, k2, k3, k4, k5, k6⟩ := B1.c7; have lk := B1.lt
      obtain ⟨q0, q1, q2, q3, q4, q5, q6⟩ := B3.c7; have lq := B3.lt
      go_upto_region 12 with (go_at_call 46; (with_reducible refine Calls.mono (N4 _) ?_); rintro e v7 ⟨rfl, h⟩)
      replace E := Ext.trans E h
      replace B1 := B1.ext h
      clear h
      clear k0 k1 k2 k3 k4 k5 k6 lk
      obtain ⟨k0, k1, k2, k3, k4, k5, k6⟩ := B1.c7; have lk := B1.lt
      go_wp2_with (go_at_call 28; (with_reducible refine Calls.mono (hwk _) ?_); rintro e v8 ⟨rfl, h⟩)
      go_ret
      exact ⟨rfl, E.trans h⟩
  · have hp := parse_text hk
    have hsm := text_small hk
    have N2 : ∀ w : World, Calls Tryd.prog 50 #[.string (textS t)] w fun e w' => e = .returned (.tuple #[.agg #[.int .i64 t.d, .bool t.more, .int .i64 t.m, .bool t.s, .string t.nm, .int .i64 t.af, .string t.kg], .int .i64 0]) ∧ Ext w w' := fun w => by
      have := parseX_any (textS t) w (by omega)
      unfold parseV parseE at this
      rw [hp] at this
      exact this
    simp only [hk, if_true] at N1
    clear hk hp hsm NC
    generalize textS t = p at *
    have NZ := fun w => trace_eql ⟨0, false, 0, false, ⟨#[]⟩, 0, ⟨#[]⟩⟩ w
    rcases N3 with ⟨_, N3⟩ | ⟨u, N4, N3⟩
    · skip
      go_enter Tryd.func14, Tryd.ntmps14
      go_upto_region 1 with (fail)
      obtain ⟨v, hv⟩ : ∃ v, v = (w.alloc (.cells #[.int .i64 t.d, .bool t.more, .int .i64 t.m, .bool t.s, .string t.nm, .int .i64 t.af, .string t.kg] 33)) := ⟨_, rfl⟩
      rw [← hv]
      have E : Ext w v := by rw [hv]; exact (Ext.refl _).alloc _
      have B1 : Held v w.heap.size 33 #[.int .i64 t.d, .bool t.more, .int .i64 t.m, .bool t.s, .string t.nm, .int .i64 t.af, .string t.kg] := by rw [hv]; exact (Held.new _ _ _)
      clear hv
      generalize w.heap.size = b1 at *
      obtain ⟨k0, k1, k2, k3, k4, k5, k6⟩ := B1.c7; have lk := B1.lt
      go_upto_region 2 with (go_at_call 46; (with_reducible refine Calls.mono (N1 _) ?_); rintro e v2 ⟨rfl, h⟩)
      replace E := Ext.trans E h
      replace B1 := B1.ext h
      clear h
      clear k0 k1 k2 k3 k4 k5 k6 lk
      obtain ⟨k0, k1, k2, k3, k4, k5, k6⟩ := B1.c7; have lk := B1.lt
      go_upto_region 4 with (go_at_call 50; (with_reducible refine Calls.mono (N2 _) ?_); rintro e v3 ⟨rfl, h⟩)
      replace E := Ext.trans E h
      replace B1 := B1.ext h
      clear h
      clear k0 k1 k2 k3 k4 k5 k6 lk
      obtain ⟨k0, k1, k2, k3, k4, k5, k6⟩ := B1.c7; have lk := B1.lt
      obtain ⟨v4, hv⟩ : ∃ v, v = v3.alloc (.cells #[.int .i64 t.d, .bool t.more, .int .i64 t.m, .bool t.s, .string t.nm, .int .i64 t.af, .string t.kg] 33) := ⟨_, rfl⟩
      rw [← hv]
      have h : Ext v3 v4 := by rw [hv]; exact (Ext.refl _).alloc _
      have B2 : Held v4 v3.heap.size 33 #[.int .i64 t.d, .bool t.more, .int .i64 t.m, .bool t.s, .string t.nm, .int .i64 t.af, .string t.kg] := by rw [hv]; exact Held.new _ _ _
      clear hv
      generalize v3.heap.size = b2 at *
      replace E := Ext.trans E h
      replace B1 := B1.ext h
      clear h
      clear k0 k1 k2 k3 k4 k5 k6 lk
      obtain ⟨k0, k1, k2, k3, k4, k5, k6⟩ := B1.c7; have lk := B1.lt
      obtain ⟨p0, p1, p2, p3, p4, p5, p6⟩ := B2.c7; have lp := B2.lt
      go_upto_region 8 with (fail)
      go_upto_region 9 with (go_at_call 50; (with_reducible refine Calls.mono (N3 _) ?_); rintro e v5 ⟨rfl, h⟩)
      replace E := Ext.trans E h
      replace B1 := B1.ext h
      clear h
      clear k0 k1 k2 k3 k4 k5 k6 lk
      obtain ⟨k0, k1, k2, k3, k4, k5, k6⟩ := B1.c7; have lk := B1.lt
      obtain ⟨v6, hv⟩ : ∃ v, v = v5.alloc (.cells #[.int .i64 0, .bool false, .int .i64 0, .bool false, .string ⟨#[]⟩, .int .i64 0, .string ⟨#[]⟩] 33) := ⟨_, rfl⟩
      rw [← hv]
      have h : Ext v5 v6 := by rw [hv]; exact (Ext.refl _).alloc _
      have B3 : Held v6 v5.heap.size 33 #[.int .i64 0, .bool false, .int .i64 0, .bool false, .string ⟨#[]⟩, .int .i64 0, .string ⟨#[]⟩] := by rw [hv]; exact Held.new _ _ _
      clear hv
      generalize v5.heap.size = b3 at *
      replace E := Ext.trans E h
      replace B1 := B1.ext h
      clear h
      clear k0 k1 k2 k3 k4 k5 k6 lk
      obtain ⟨k0, k1, k2, k3, k4, k5, k6⟩ := B1.c7; have lk := B1.lt
      obtain ⟨q0, q1, q2, q3, q4, q5, q6⟩ := B3.c7; have lq := B3.lt
      go_wp2_with (go_at_call 28; (with_reducible refine Calls.mono (hwk _) ?_); rintro e v8 ⟨rfl, h⟩)
      go_ret
      exact ⟨rfl, E.trans h⟩
    · skip
      go_enter Tryd.func14, Tryd.ntmps14
      go_upto_region 1 with (fail)
      obtain ⟨v, hv⟩ : ∃ v, v = (w.alloc (.cells #[.int .i64 t.d, .bool t.more, .int .i64 t.m, .bool t.s, .string t.nm, .int .i64 t.af, .string t.kg] 33)) := ⟨_, rfl⟩
      rw [← hv]
      have E : Ext w v := by rw [hv]; exact (Ext.refl _).alloc _
      have B1 : Held v w.heap.size 33 #[.int .i64 t.d, .bool t.more, .int .i64 t.m, .bool t.s, .string t.nm, .int .i64 t.af, .string t.kg] := by rw [hv]; exact (Held.new _ _ _)
      clear hv
      generalize w.heap.size = b1 at *
      obtain ⟨k0, k1, k2, k3, k4, k5, k6⟩ := B1.c7; have lk := B1.lt
      go_upto_region 2 with (go_at_call 46; (with_reducible refine Calls.mono (N1 _) ?_); rintro e v2 ⟨rfl, h⟩)
      replace E := Ext.trans E h
      replace B1 := B1.ext h
      clear h
      clear k0 k1 k2 k3 k4 k5 k6 lk
      obtain ⟨k0, k1, k2, k3, k4, k5, k6⟩ := B1.c7; have lk := B1.lt
      go_upto_region 4 with (go_at_call 50; (with_reducible refine Calls.mono (N2 _) ?_); rintro e v3 ⟨rfl, h⟩)
      replace E := Ext.trans E h
      replace B1 := B1.ext h
      clear h
      clear k0 k1 k2 k3 k4 k5 k6 lk
      obtain ⟨k0, k1, k2, k3, k4, k5, k6⟩ := B1.c7; have lk := B1.lt
      obtain ⟨v4, hv⟩ : ∃ v, v = v3.alloc (.cells #[.int .i64 t.d, .bool t.more, .int .i64 t.m, .bool t.s, .string t.nm, .int .i64 t.af, .string t.kg] 33) := ⟨_, rfl⟩
      rw [← hv]
      have h : Ext v3 v4 := by rw [hv]; exact (Ext.refl _).alloc _
      have B2 : Held v4 v3.heap.size 33 #[.int .i64 t.d, .bool t.more, .int .i64 t.m, .bool t.s, .string t.nm, .int .i64 t.af, .string t.kg] := by rw [hv]; exact Held.new _ _ _
      clear hv
      generalize v3.heap.size = b2 at *
      replace E := Ext.trans E h
      replace B1 := B1.ext h
      clear h
      clear k0 k1 k2 k3 k4 k5 k6 lk
      obtain ⟨k0, k1, k2, k3, k4, k5, k6⟩ := B1.c7; have lk := B1.lt
      obtain ⟨p0, p1, p2, p3, p4, p5, p6⟩ := B2.c7; have lp := B2.lt
      go_upto_region 8 with (fail)
      go_upto_region 9 with (go_at_call 50; (with_reducible refine Calls.mono (N3 _) ?_); rintro e v5 ⟨rfl, h⟩)
      replace E := Ext.trans E h
      replace B1 := B1.ext h
      clear h
      clear k0 k1 k2 k3 k4 k5 k6 lk
      obtain ⟨k0, k1, k2, k3, k4, k5, k6⟩ := B1.c7; have lk := B1.lt
      obtain ⟨v6, hv⟩ : ∃ v, v = v5.alloc (.cells #[.int .i64 u.d, .bool u.more, .int .i64 u.m, .bool u.s, .string u.nm, .int .i64 u.af, .string u.kg] 33) := ⟨_, rfl⟩
      rw [← hv]
      have h : Ext v5 v6 := by rw [hv]; exact (Ext.refl _).alloc _
      have B3 : Held v6 v5.heap.size 33 #[.int .i64 u.d, .bool u.more, .int .i64 u.m, .bool u.s, .string u.nm, .int .i64 u.af, .string u.kg] := by rw [hv]; exact Held.new _ _ _
      clear hv
      generalize v5.heap.size = b3 at *
      replace E := Ext.trans E h
      replace B1 := B1.ext h
      clear h
      clear k0 k1 k2 k3 k4 k5 k6 lk
      obtain ⟨k0, k1, k2, k3, k4, k5, k6⟩ := B1.c7; have lk := B1.lt
      obtain ⟨q0, q1, q2, q3, q4, q5, q6⟩ := B3.c7; have lq := B3.lt
      go_upto_region 12 with (go_at_call 46; (with_reducible refine Calls.mono (N4 _) ?_); rintro e v7 ⟨rfl, h⟩)
      replace E := Ext.trans E h
      replace B1 := B1.ext h
      clear h
      clear k0 k1 k2 k3 k4 k5 k6 lk
      obtain ⟨k0, k1, k2, k3, k4, k5, k6⟩ := B1.c7; have lk := B1.lt
      go_wp2_with (go_at_call 28; (with_reducible refine Calls.mono (hwk _) ?_); rintro e v8 ⟨rfl, h⟩)
      go_ret
      exact ⟨rfl, E.trans h⟩
end Go.Proofs.YtfchchmmjabjnaaDoor
