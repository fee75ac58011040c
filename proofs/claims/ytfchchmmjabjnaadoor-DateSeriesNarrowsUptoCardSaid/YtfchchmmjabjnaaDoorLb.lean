/- The walk of DateAdds. -/
import Derived.Test.YtfchchmmjabjnaaDoorLa
namespace Go.Proofs.YtfchchmmjabjnaaDoor
open Go Go.RowKit
attribute [local go_sem] gv_yes

theorem in2E_ok {c : Cal} {a b : Dt} (h : c.in2E a b = 0) : c.valid = true ∧ c.has a = true ∧ c.has b = true := by
  rcases in2E_cases c a b with ⟨_, hE⟩ | ⟨_, _, hE⟩ | ⟨hv, hh, _⟩
  · rw [hE] at h; cases h
  · rw [hE] at h; cases h
  · rw [Bool.and_eq_true] at hh; exact ⟨hv, hh⟩
theorem in2E_of {c : Cal} {a b : Dt} (hv : c.valid = true) (ha : c.has a = true) (hb : c.has b = true) : c.in2E a b = 0 := by unfold Cal.in2E; rw [hv, ha, hb]; rfl
theorem inE_of {c : Cal} {a : Dt} (hv : c.valid = true) (ha : c.has a = true) : c.inE a = 0 := by unfold Cal.inE; rw [hv, ha]; rfl
theorem add_to {c : Cal} {a b : Dt} (hv : c.valid = true) (ha : c.has a = true) (hb : c.has b = true) {n : Int} (hn : (c.num a).1 + n = (c.num b).1) : c.addV a n = b ∧ c.addE a n = 0 := by
  unfold Cal.addV Cal.addE
  rw [if_pos (inE_of hv ha), if_pos (inE_of hv ha), hn, at_num hb]
  exact ⟨rfl, rfl⟩
theorem adds_sum {c : Cal} {a b d : Dt} (h1 : c.in2E a b = 0) (h2 : c.in2E b d = 0) : ∃ p q x y : Int, c.betV a b = p ∧ c.betV b d = q ∧ c.betV a d = p + q ∧ c.schV a b = x ∧ c.schV b d = y ∧ c.schV a d = x + y ∧ c.in2E a d = 0 ∧
    c.addV a p = b ∧ c.addE a p = 0 ∧ c.addV b (-p) = a ∧ c.addE b (-p) = 0 ∧ -156000 ≤ p ∧ p ≤ 156000 ∧ -156000 ≤ q ∧ q ≤ 156000 ∧ -156100 ≤ x ∧ x ≤ 156100 ∧ -156100 ≤ y ∧ y ≤ 156100 := by
  obtain ⟨hv, ha, hb⟩ := in2E_ok h1
  obtain ⟨_, _, hd⟩ := in2E_ok h2
  have h3 := in2E_of hv ha hd
  have hny := valid_ny hv
  have hdd := dayAt_bd c c.ny
  have na := num_in ha
  have nb := num_in hb
  have nd := num_in hd
  have ka := has_day ha
  have kb := has_day hb
  have kd := has_day hd
  have ma := num_bd c a ka.1 ka.2
  have mb := num_bd c b kb.1 kb.2
  have md := num_bd c d kd.1 kd.2
  obtain ⟨t1, t2⟩ := add_to hv ha hb (n := (c.num b).1 - (c.num a).1) (by omega)
  obtain ⟨t3, t4⟩ := add_to hv hb ha (n := -((c.num b).1 - (c.num a).1)) (by omega)
  unfold Cal.betV Cal.schV
  rw [if_pos h1, if_pos h2, if_pos h3]
  refine ⟨_, _, _, _, rfl, rfl, ?_, rfl, rfl, ?_, h3, t1, t2, t3, t4, ?_, ?_, ?_, ?_, ?_, ?_, ?_, ?_⟩ <;> omega
set_option maxRecDepth 100000 in
set_option maxHeartbeats 4000000 in
theorem dateAdds_walk (hwk : WorksOk) (A A' : Option Addr) (ca cb : Nat) (c : Cal) (a b d : Dt) (w : World) (hC : CalAt w A ca A' cb c) :
    Calls Tryd.prog 12 #[.agg #[.slice A c.nk ca, .slice A' c.ny cb], .agg #[.int .i64 a.y, .int .i64 a.m, .bool a.s, .int .i64 a.d, .int .i64 b.y, .int .i64 b.m, .bool b.s, .int .i64 b.d], .agg #[.int .i64 d.y, .int .i64 d.m, .bool d.s, .int .i64 d.d]] w fun e w' => e = .returned (.bool true) ∧ Ext w w' := by
  have hwk : ∀ w : World, Calls Tryd.prog 28 #[] w fun e w' => e = .returned (.bool true) ∧ Ext w w' := hwk
  have N1 := fun v (h : CalAt v A ca A' cb c) => betweenX_any A A' ca cb c a b v h
  have N2 := fun v (h : CalAt v A ca A' cb c) => betweenX_any A A' ca cb c b d v h
  by_cases h1 : c.in2E a b = 0
  · by_cases h2 : c.in2E b d = 0
    · obtain ⟨p, q, x, y, e1, e2, e3, e4, e5, e6, e7, e8, e9, e10, e11, p1, p2, q1, q2, x1, x2, y1, y2⟩ := adds_sum h1 h2
      have N3 := fun v (h : CalAt v A ca A' cb c) => betweenX_any A A' ca cb c a d v h
      have N4 := fun v (h : CalAt v A ca A' cb c) => schemeX_any A A' ca cb c a b v h
      have N5 := fun v (h : CalAt v A ca A' cb c) => schemeX_any A A' ca cb c b d v h
      have N6 := fun v (h : CalAt v A ca A' cb c) => schemeX_any A A' ca cb c a d v h
      have N7 : ∀ v, CalAt v A ca A' cb c → Calls Tryd.prog 42 #[.agg #[.slice A c.nk ca, .slice A' c.ny cb], .agg #[.int .i64 a.y, .int .i64 a.m, .bool a.s, .int .i64 a.d], .int .i64 p] v fun e w' => e = .returned (.tuple #[.agg #[.int .i64 b.y, .int .i64 b.m, .bool b.s, .int .i64 b.d], .int .i64 0]) ∧ Ext v w' := fun v h => by
        have := addX_any A A' ca cb c a p v h
        rw [e8, e9] at this
        exact this
      have N8 : ∀ v, CalAt v A ca A' cb c → Calls Tryd.prog 42 #[.agg #[.slice A c.nk ca, .slice A' c.ny cb], .agg #[.int .i64 b.y, .int .i64 b.m, .bool b.s, .int .i64 b.d], .int .i64 (-p)] v fun e w' => e = .returned (.tuple #[.agg #[.int .i64 a.y, .int .i64 a.m, .bool a.s, .int .i64 a.d], .int .i64 0]) ∧ Ext v w' := fun v h => by
        have := addX_any A A' ca cb c b (-p) v h
        rw [e10, e11] at this
        exact this
      have Da := fun v => date_eql a a v
      have Db := fun v => date_eql b b v
      simp only [decide_true] at Da Db
      simp only [e1, h1] at N1
      simp only [e2, h2] at N2
      simp only [e3, e7] at N3
      simp only [e4, h1] at N4
      simp only [e5, h2] at N5
      simp only [e6, e7] at N6
      clear h1 h2 e1 e2 e3 e4 e5 e6 e7 e8 e9 e10 e11
      go_enter Tryd.func12, Tryd.ntmps12
      go_upto_region 1 with (fail)
      obtain ⟨v, hv⟩ : ∃ v, v = (((w.alloc (.cells #[.slice A c.nk ca, .slice A' c.ny cb] 25)).alloc (.cells #[.int .i64 a.y, .int .i64 a.m, .bool a.s, .int .i64 a.d, .int .i64 b.y, .int .i64 b.m, .bool b.s, .int .i64 b.d] 41)).alloc (.cells #[.int .i64 d.y, .int .i64 d.m, .bool d.s, .int .i64 d.d] 39)) := ⟨_, rfl⟩
      rw [← hv]
      have E : Ext w v := by rw [hv]; exact (((Ext.refl _).alloc _).alloc _).alloc _
      have B1 : Held v w.heap.size 25 #[.slice A c.nk ca, .slice A' c.ny cb] := by rw [hv]; exact ((Held.new _ _ _).alloc _).alloc _
      have B2 : Held v (w.heap.size + 1) 41 #[.int .i64 a.y, .int .i64 a.m, .bool a.s, .int .i64 a.d, .int .i64 b.y, .int .i64 b.m, .bool b.s, .int .i64 b.d] := by rw [hv]; exact (Held.at _ _ _ _ (by simp)).alloc _
      have B3 : Held v (w.heap.size + 1 + 1) 39 #[.int .i64 d.y, .int .i64 d.m, .bool d.s, .int .i64 d.d] := by rw [hv]; exact Held.at _ _ _ _ (by simp)
      clear hv
      have C := hC.ext E
      clear hC
      generalize w.heap.size = b1 at *
      obtain ⟨k0, k1⟩ := B1.c2; have lk := B1.lt
      obtain ⟨p0, p1, p2, p3, p4, p5, p6, p7⟩ := B2.c8; have lp := B2.lt
      obtain ⟨q0, q1, q2, q3⟩ := B3.c4; have lq := B3.lt
      go_upto_region 2 with (go_at_call 31; (with_reducible refine Calls.mono (N1 _ C) ?_); rintro e v2 ⟨rfl, h⟩)
      replace E := Ext.trans E h
      replace C := C.ext h
      replace B1 := B1.ext h
      replace B2 := B2.ext h
      replace B3 := B3.ext h
      clear h
      clear k0 k1 lk
      clear p0 p1 p2 p3 p4 p5 p6 p7 lp
      clear q0 q1 q2 q3 lq
      obtain ⟨k0, k1⟩ := B1.c2; have lk := B1.lt
      obtain ⟨p0, p1, p2, p3, p4, p5, p6, p7⟩ := B2.c8; have lp := B2.lt
      obtain ⟨q0, q1, q2, q3⟩ := B3.c4; have lq := B3.lt
      go_upto_region 3 with (go_at_call 31; (with_reducible refine Calls.mono (N2 _ C) ?_); rintro e v3 ⟨rfl, h⟩)
      replace E := Ext.trans E h
      replace C := C.ext h
      replace B1 := B1.ext h
      replace B2 := B2.ext h
      replace B3 := B3.ext h
      clear h
      clear k0 k1 lk
      clear p0 p1 p2 p3 p4 p5 p6 p7 lp
      clear q0 q1 q2 q3 lq
      obtain ⟨k0, k1⟩ := B1.c2; have lk := B1.lt
      obtain ⟨p0, p1, p2, p3, p4, p5, p6, p7⟩ := B2.c8; have lp := B2.lt
      obtain ⟨q0, q1, q2, q3⟩ := B3.c4; have lq := B3.lt
      go_upto_region 6 with (go_at_call 31; (with_reducible refine Calls.mono (N3 _ C) ?_); rintro e v4 ⟨rfl, h⟩)
      replace E := Ext.trans E h
      replace C := C.ext h
      replace B1 := B1.ext h
      replace B2 := B2.ext h
      replace B3 := B3.ext h
      clear h
      clear k0 k1 lk
      clear p0 p1 p2 p3 p4 p5 p6 p7 lp
      clear q0 q1 q2 q3 lq
      obtain ⟨k0, k1⟩ := B1.c2; have lk := B1.lt
      obtain ⟨p0, p1, p2, p3, p4, p5, p6, p7⟩ := B2.c8; have lp := B2.lt
      obtain ⟨q0, q1, q2, q3⟩ := B3.c4; have lq := B3.lt
      go_upto_region 7 with (go_at_call 32; (with_reducible refine Calls.mono (N4 _ C) ?_); rintro e v5 ⟨rfl, h⟩)
      replace E := Ext.trans E h
      replace C := C.ext h
      replace B1 := B1.ext h
      replace B2 := B2.ext h
      replace B3 := B3.ext h
      clear h
      clear k0 k1 lk
      clear p0 p1 p2 p3 p4 p5 p6 p7 lp
      clear q0 q1 q2 q3 lq
      obtain ⟨k0, k1⟩ := B1.c2; have lk := B1.lt
      obtain ⟨p0, p1, p2, p3, p4, p5, p6, p7⟩ := B2.c8; have lp := B2.lt
      obtain ⟨q0, q1, q2, q3⟩ := B3.c4; have lq := B3.lt
      go_upto_region 8 with (go_at_call 32; (with_reducible refine Calls.mono (N5 _ C) ?_); rintro e v6 ⟨rfl, h⟩)
      replace E := Ext.trans E h
      replace C := C.ext h
      replace B1 := B1.ext h
      replace B2 := B2.ext h
      replace B3 := B3.ext h
      clear h
      clear k0 k1 lk
      clear p0 p1 p2 p3 p4 p5 p6 p7 lp
      clear q0 q1 q2 q3 lq
      obtain ⟨k0, k1⟩ := B1.c2; have lk := B1.lt
      obtain ⟨p0, p1, p2, p3, p4, p5, p6, p7⟩ := B2.c8; have lp := B2.lt
      obtain ⟨q0, q1, q2, q3⟩ := B3.c4; have lq := B3.lt
      go_upto_region 9 with (go_at_call 32; (with_reducible refine Calls.mono (N6 _ C) ?_); rintro e v7 ⟨rfl, h⟩)
      replace E := Ext.trans E h
      replace C := C.ext h
      replace B1 := B1.ext h
      replace B2 := B2.ext h
      replace B3 := B3.ext h
      clear h
      clear k0 k1 lk
      clear p0 p1 p2 p3 p4 p5 p6 p7 lp
      clear q0 q1 q2 q3 lq
      obtain ⟨k0, k1⟩ := B1.c2; have lk := B1.lt
      obtain ⟨p0, p1, p2, p3, p4, p5, p6, p7⟩ := B2.c8; have lp := B2.lt
      obtain ⟨q0, q1, q2, q3⟩ := B3.c4; have lq := B3.lt
      go_upto_region 10 with (go_at_call 42; (with_reducible refine Calls.mono (N7 _ C) ?_); rintro e v8 ⟨rfl, h⟩)
      replace E := Ext.trans E h
      replace C := C.ext h
      replace B1 := B1.ext h
      replace B2 := B2.ext h
      replace B3 := B3.ext h
      clear h
      clear k0 k1 lk
      clear p0 p1 p2 p3 p4 p5 p6 p7 lp
      clear q0 q1 q2 q3 lq
      obtain ⟨k0, k1⟩ := B1.c2; have lk := B1.lt
      obtain ⟨p0, p1, p2, p3, p4, p5, p6, p7⟩ := B2.c8; have lp := B2.lt
      obtain ⟨q0, q1, q2, q3⟩ := B3.c4; have lq := B3.lt
      obtain ⟨v9, hv⟩ : ∃ v, v = v8.alloc (.cells #[.int .i64 b.y, .int .i64 b.m, .bool b.s, .int .i64 b.d] 39) := ⟨_, rfl⟩
      rw [← hv]
      have h : Ext v8 v9 := by rw [hv]; exact (Ext.refl _).alloc _
      have B4 : Held v9 v8.heap.size 39 #[.int .i64 b.y, .int .i64 b.m, .bool b.s, .int .i64 b.d] := by rw [hv]; exact Held.new _ _ _
      clear hv
      generalize v8.heap.size = b4 at *
      replace E := Ext.trans E h
      replace C := C.ext h
      replace B1 := B1.ext h
      replace B2 := B2.ext h
      replace B3 := B3.ext h
      clear h
      clear k0 k1 lk
      clear p0 p1 p2 p3 p4 p5 p6 p7 lp
      clear q0 q1 q2 q3 lq
      obtain ⟨k0, k1⟩ := B1.c2; have lk := B1.lt
      obtain ⟨p0, p1, p2, p3, p4, p5, p6, p7⟩ := B2.c8; have lp := B2.lt
      obtain ⟨q0, q1, q2, q3⟩ := B3.c4; have lq := B3.lt
      obtain ⟨r0, r1, r2, r3⟩ := B4.c4; have lr := B4.lt
      go_upto_region 11 with (go_at_call 42; (with_reducible refine Calls.mono (N8 _ C) ?_); rintro e v10 ⟨rfl, h⟩)
      replace E := Ext.trans E h
      replace C := C.ext h
      replace B1 := B1.ext h
      replace B2 := B2.ext h
      replace B3 := B3.ext h
      replace B4 := B4.ext h
      clear h
      clear k0 k1 lk
      clear p0 p1 p2 p3 p4 p5 p6 p7 lp
      clear q0 q1 q2 q3 lq
      clear r0 r1 r2 r3 lr
      obtain ⟨k0, k1⟩ := B1.c2; have lk := B1.lt
      obtain ⟨p0, p1, p2, p3, p4, p5, p6, p7⟩ := B2.c8; have lp := B2.lt
      obtain ⟨q0, q1, q2, q3⟩ := B3.c4; have lq := B3.lt
      obtain ⟨r0, r1, r2, r3⟩ := B4.c4; have lr := B4.lt
      obtain ⟨v11, hv⟩ : ∃ v, v = v10.alloc (.cells #[.int .i64 a.y, .int .i64 a.m, .bool a.s, .int .i64 a.d] 39) := ⟨_, rfl⟩
      rw [← hv]
      have h : Ext v10 v11 := by rw [hv]; exact (Ext.refl _).alloc _
      have B5 : Held v11 v10.heap.size 39 #[.int .i64 a.y, .int .i64 a.m, .bool a.s, .int .i64 a.d] := by rw [hv]; exact Held.new _ _ _
      clear hv
      generalize v10.heap.size = b5 at *
      replace E := Ext.trans E h
      replace C := C.ext h
      replace B1 := B1.ext h
      replace B2 := B2.ext h
      replace B3 := B3.ext h
      replace B4 := B4.ext h
      clear h
      clear k0 k1 lk
      clear p0 p1 p2 p3 p4 p5 p6 p7 lp
      clear q0 q1 q2 q3 lq
      clear r0 r1 r2 r3 lr
      obtain ⟨k0, k1⟩ := B1.c2; have lk := B1.lt
      obtain ⟨p0, p1, p2, p3, p4, p5, p6, p7⟩ := B2.c8; have lp := B2.lt
      obtain ⟨q0, q1, q2, q3⟩ := B3.c4; have lq := B3.lt
      obtain ⟨r0, r1, r2, r3⟩ := B4.c4; have lr := B4.lt
      obtain ⟨s0, s1, s2, s3⟩ := B5.c4; have ls := B5.lt
      go_wp2_with (go_at_call 28; (with_reducible refine Calls.mono (hwk _) ?_); rintro e v12 ⟨rfl, h⟩)
      go_ret
      exact ⟨rfl, E.trans h⟩
    · simp only [h1] at N1
      clear h1
      generalize c.betV a b = x at *
      generalize c.betV b d = y at *
      generalize c.in2E b d = e at *
      have he : (e == 0) = false := beq_eq_false_iff_ne.2 h2
      go_enter Tryd.func12, Tryd.ntmps12
      go_upto_region 1 with (fail)
      obtain ⟨v, hv⟩ : ∃ v, v = (((w.alloc (.cells #[.slice A c.nk ca, .slice A' c.ny cb] 25)).alloc (.cells #[.int .i64 a.y, .int .i64 a.m, .bool a.s, .int .i64 a.d, .int .i64 b.y, .int .i64 b.m, .bool b.s, .int .i64 b.d] 41)).alloc (.cells #[.int .i64 d.y, .int .i64 d.m, .bool d.s, .int .i64 d.d] 39)) := ⟨_, rfl⟩
      rw [← hv]
      have E : Ext w v := by rw [hv]; exact (((Ext.refl _).alloc _).alloc _).alloc _
      have B1 : Held v w.heap.size 25 #[.slice A c.nk ca, .slice A' c.ny cb] := by rw [hv]; exact ((Held.new _ _ _).alloc _).alloc _
      have B2 : Held v (w.heap.size + 1) 41 #[.int .i64 a.y, .int .i64 a.m, .bool a.s, .int .i64 a.d, .int .i64 b.y, .int .i64 b.m, .bool b.s, .int .i64 b.d] := by rw [hv]; exact (Held.at _ _ _ _ (by simp)).alloc _
      have B3 : Held v (w.heap.size + 1 + 1) 39 #[.int .i64 d.y, .int .i64 d.m, .bool d.s, .int .i64 d.d] := by rw [hv]; exact Held.at _ _ _ _ (by simp)
      clear hv
      have C := hC.ext E
      clear hC
      generalize w.heap.size = b1 at *
      obtain ⟨k0, k1⟩ := B1.c2; have lk := B1.lt
      obtain ⟨p0, p1, p2, p3, p4, p5, p6, p7⟩ := B2.c8; have lp := B2.lt
      obtain ⟨q0, q1, q2, q3⟩ := B3.c4; have lq := B3.lt
      go_upto_region 2 with (go_at_call 31; (with_reducible refine Calls.mono (N1 _ C) ?_); rintro e v2 ⟨rfl, h⟩)
      replace E := Ext.trans E h
      replace C := C.ext h
      replace B1 := B1.ext h
      replace B2 := B2.ext h
      replace B3 := B3.ext h
      clear h
      clear k0 k1 lk
      clear p0 p1 p2 p3 p4 p5 p6 p7 lp
      clear q0 q1 q2 q3 lq
      obtain ⟨k0, k1⟩ := B1.c2; have lk := B1.lt
      obtain ⟨p0, p1, p2, p3, p4, p5, p6, p7⟩ := B2.c8; have lp := B2.lt
      obtain ⟨q0, q1, q2, q3⟩ := B3.c4; have lq := B3.lt
      go_upto_region 3 with (go_at_call 31; (with_reducible refine Calls.mono (N2 _ C) ?_); rintro e v3 ⟨rfl, h⟩)
      replace E := Ext.trans E h
      replace C := C.ext h
      replace B1 := B1.ext h
      replace B2 := B2.ext h
      replace B3 := B3.ext h
      clear h
      clear k0 k1 lk
      clear p0 p1 p2 p3 p4 p5 p6 p7 lp
      clear q0 q1 q2 q3 lq
      obtain ⟨k0, k1⟩ := B1.c2; have lk := B1.lt
      obtain ⟨p0, p1, p2, p3, p4, p5, p6, p7⟩ := B2.c8; have lp := B2.lt
      obtain ⟨q0, q1, q2, q3⟩ := B3.c4; have lq := B3.lt
      go_wp2_with (go_at_call 28; (with_reducible refine Calls.mono (hwk _) ?_); rintro e v4 ⟨rfl, h⟩)
      go_ret
      exact ⟨rfl, E.trans h⟩
  · generalize c.betV a b = x at *
    generalize c.betV b d = y at *
    generalize c.in2E b d = f at *
    generalize c.in2E a b = e at *
    have he : (e == 0) = false := beq_eq_false_iff_ne.2 h1
    go_enter Tryd.func12, Tryd.ntmps12
    go_upto_region 1 with (fail)
    obtain ⟨v, hv⟩ : ∃ v, v = (((w.alloc (.cells #[.slice A c.nk ca, .slice A' c.ny cb] 25)).alloc (.cells #[.int .i64 a.y, .int .i64 a.m, .bool a.s, .int .i64 a.d, .int .i64 b.y, .int .i64 b.m, .bool b.s, .int .i64 b.d] 41)).alloc (.cells #[.int .i64 d.y, .int .i64 d.m, .bool d.s, .int .i64 d.d] 39)) := ⟨_, rfl⟩
    rw [← hv]
    have E : Ext w v := by rw [hv]; exact (((Ext.refl _).alloc _).alloc _).alloc _
    have B1 : Held v w.heap.size 25 #[.slice A c.nk ca, .slice A' c.ny cb] := by rw [hv]; exact ((Held.new _ _ _).alloc _).alloc _
    have B2 : Held v (w.heap.size + 1) 41 #[.int .i64 a.y, .int .i64 a.m, .bool a.s, .int .i64 a.d, .int .i64 b.y, .int .i64 b.m, .bool b.s, .int .i64 b.d] := by rw [hv]; exact (Held.at _ _ _ _ (by simp)).alloc _
    have B3 : Held v (w.heap.size + 1 + 1) 39 #[.int .i64 d.y, .int .i64 d.m, .bool d.s, .int .i64 d.d] := by rw [hv]; exact Held.at _ _ _ _ (by simp)
    clear hv
    have C := hC.ext E
    clear hC
    generalize w.heap.size = b1 at *
    obtain ⟨k0, k1⟩ := B1.c2; have lk := B1.lt
    obtain ⟨p0, p1, p2, p3, p4, p5, p6, p7⟩ := B2.c8; have lp := B2.lt
    obtain ⟨q0, q1, q2, q3⟩ := B3.c4; have lq := B3.lt
    go_upto_region 2 with (go_at_call 31; (with_reducible refine Calls.mono (N1 _ C) ?_); rintro e v2 ⟨rfl, h⟩)
    replace E := Ext.trans E h
    replace C := C.ext h
    replace B1 := B1.ext h
    replace B2 := B2.ext h
    replace B3 := B3.ext h
    clear h
    clear k0 k1 lk
    clear p0 p1 p2 p3 p4 p5 p6 p7 lp
    clear q0 q1 q2 q3 lq
    obtain ⟨k0, k1⟩ := B1.c2; have lk := B1.lt
    obtain ⟨p0, p1, p2, p3, p4, p5, p6, p7⟩ := B2.c8; have lp := B2.lt
    obtain ⟨q0, q1, q2, q3⟩ := B3.c4; have lq := B3.lt
    go_upto_region 3 with (go_at_call 31; (with_reducible refine Calls.mono (N2 _ C) ?_); rintro e v3 ⟨rfl, h⟩)
    replace E := Ext.trans E h
    replace C := C.ext h
    replace B1 := B1.ext h
    replace B2 := B2.ext h
    replace B3 := B3.ext h
    clear h
    clear k0 k1 lk
    clear p0 p1 p2 p3 p4 p5 p6 p7 lp
    clear q0 q1 q2 q3 lq
    obtain ⟨k0, k1⟩ := B1.c2; have lk := B1.lt
    obtain ⟨p0, p1, p2, p3, p4, p5, p6, p7⟩ := B2.c8; have lp := B2.lt
    obtain ⟨q0, q1, q2, q3⟩ := B3.c4; have lq := B3.lt
    go_wp2_with (go_at_call 28; (with_reducible refine Calls.mono (hwk _) ?_); rintro e v4 ⟨rfl, h⟩)
    go_ret
    exact ⟨rfl, E.trans h⟩
end Go.Proofs.YtfchchmmjabjnaaDoor
