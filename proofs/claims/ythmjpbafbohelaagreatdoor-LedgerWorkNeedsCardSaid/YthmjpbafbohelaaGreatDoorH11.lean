/- Walks of the program's functions and plain facts, packed; proved: the lemmas below; no conditions but those that each states. -/
import Derived.Test.YthmjpbafbohelaaGreatDoorH10
import Derived.Test.YthmjpbafbohelaaGreatDoorH8
namespace Go.Proofs.YthmjpbafbohelaaGreatDoor
open Go Go.RowKit
attribute [local go_sem] gv_yes
set_option maxRecDepth 100000 in
set_option maxHeartbeats 4000000 in
theorem two_any_r (A A' : Option Addr) (ca cb : Nat) (c : Cal) (a b : Dt) (w : World) (hC : CalAt w A ca A' cb c) :
  Calls Tryz.prog 116 #[.agg #[.slice A c.nk ca, .slice A' c.ny cb], .agg #[.int .i64 a.y, .int .i64 a.m, .bool a.s, .int .i64 a.d], .agg #[.int .i64 b.y, .int .i64 b.m, .bool b.s, .int .i64 b.d]] w fun e w' => e = .returned (.int .i64 (c.in2E a b)) ∧ Ext w w' := by
 have NV := fun v (h : CalAt v A ca A' cb c) => validR_any A A' ca cb c v h
 unfold Cal.in2E
 cases hv : c.valid
 ·rw [hv] at NV
  clear hv
  go_enter Tryz.func116, Tryz.ntmps116
  go_upto_region 1 with (fail)
  obtain ⟨v, hv⟩ : ∃ v, v = (((w.alloc (.cells #[.slice A c.nk ca, .slice A' c.ny cb] 34)).alloc (.cells #[.int .i64 a.y, .int .i64 a.m, .bool a.s, .int .i64 a.d] 37)).alloc (.cells #[.int .i64 b.y, .int .i64 b.m, .bool b.s, .int .i64 b.d] 37)) := ⟨_, rfl⟩
  rw [← hv]
  have E : Ext w v := by rw [hv]; exact (((Ext.refl _).alloc _).alloc _).alloc _
  have B1 : Held v w.heap.size 34 #[.slice A c.nk ca, .slice A' c.ny cb] := by rw [hv]; exact ((Held.new _ _ _).alloc _).alloc _
  have B2 : Held v (w.heap.size + 1) 37 #[.int .i64 a.y, .int .i64 a.m, .bool a.s, .int .i64 a.d] := by rw [hv]; exact (Held.at _ _ _ _ (by simp)).alloc _
  have B3 : Held v (w.heap.size + 1 + 1) 37 #[.int .i64 b.y, .int .i64 b.m, .bool b.s, .int .i64 b.d] := by rw [hv]; exact Held.at _ _ _ _ (by simp)
  clear hv
  have C := hC.ext E
  clear hC
  generalize hb1 : w.heap.size = b1 at *
  replace hb1 := Lib.hid hb1
  obtain ⟨k0, k1⟩ := B1.c2; have lk := B1.lt
  obtain ⟨p0, p1, p2, p3⟩ := B2.c4; have lp := B2.lt
  obtain ⟨q0, q1, q2, q3⟩ := B3.c4; have lq := B3.lt
  go_wp2_with (go_at_call 67; (with_reducible refine Calls.mono (NV _ C) ?_); rintro e v2 ⟨rfl, hx⟩)
  go_ret
  exact ⟨rfl, E.trans hx⟩
 ·have N1 := fun v (h : CalAt v A ca A' cb c) => has_any_r A A' ca cb c a v h hv
  have N2 := fun v (h : CalAt v A ca A' cb c) => has_any_r A A' ca cb c b v h hv
  rw [hv] at NV
  clear hv
  cases ha : c.has a
  ·rw [ha] at N1
   clear ha
   go_enter Tryz.func116, Tryz.ntmps116
   go_upto_region 1 with (fail)
   obtain ⟨v, hv⟩ : ∃ v, v = (((w.alloc (.cells #[.slice A c.nk ca, .slice A' c.ny cb] 34)).alloc (.cells #[.int .i64 a.y, .int .i64 a.m, .bool a.s, .int .i64 a.d] 37)).alloc (.cells #[.int .i64 b.y, .int .i64 b.m, .bool b.s, .int .i64 b.d] 37)) := ⟨_, rfl⟩
   rw [← hv]
   have E : Ext w v := by rw [hv]; exact (((Ext.refl _).alloc _).alloc _).alloc _
   have B1 : Held v w.heap.size 34 #[.slice A c.nk ca, .slice A' c.ny cb] := by rw [hv]; exact ((Held.new _ _ _).alloc _).alloc _
   have B2 : Held v (w.heap.size + 1) 37 #[.int .i64 a.y, .int .i64 a.m, .bool a.s, .int .i64 a.d] := by rw [hv]; exact (Held.at _ _ _ _ (by simp)).alloc _
   have B3 : Held v (w.heap.size + 1 + 1) 37 #[.int .i64 b.y, .int .i64 b.m, .bool b.s, .int .i64 b.d] := by rw [hv]; exact Held.at _ _ _ _ (by simp)
   clear hv
   have C := hC.ext E
   clear hC
   generalize hb1 : w.heap.size = b1 at *
   replace hb1 := Lib.hid hb1
   obtain ⟨k0, k1⟩ := B1.c2; have lk := B1.lt
   obtain ⟨p0, p1, p2, p3⟩ := B2.c4; have lp := B2.lt
   obtain ⟨q0, q1, q2, q3⟩ := B3.c4; have lq := B3.lt
   go_upto_region 3 with (go_at_call 67; (with_reducible refine Calls.mono (NV _ C) ?_); rintro e v2 ⟨rfl, h⟩)
   replace E := Ext.trans E h
   replace C := C.ext h
   replace B1 := B1.ext h
   replace B2 := B2.ext h
   replace B3 := B3.ext h
   clear h
   clear k0 k1 lk
   clear p0 p1 p2 p3 lp
   clear q0 q1 q2 q3 lq
   obtain ⟨k0, k1⟩ := B1.c2; have lk := B1.lt
   obtain ⟨p0, p1, p2, p3⟩ := B2.c4; have lp := B2.lt
   obtain ⟨q0, q1, q2, q3⟩ := B3.c4; have lq := B3.lt
   go_wp2_with (go_at_call 129; (with_reducible refine Calls.mono (N1 _ C) ?_); rintro e v3 ⟨rfl, hx⟩)
   go_ret
   exact ⟨rfl, E.trans hx⟩
  ·rw [ha] at N1
   clear ha
   cases hb : c.has b
   ·rw [hb] at N2
    clear hb
    go_enter Tryz.func116, Tryz.ntmps116
    go_upto_region 1 with (fail)
    obtain ⟨v, hv⟩ : ∃ v, v = (((w.alloc (.cells #[.slice A c.nk ca, .slice A' c.ny cb] 34)).alloc (.cells #[.int .i64 a.y, .int .i64 a.m, .bool a.s, .int .i64 a.d] 37)).alloc (.cells #[.int .i64 b.y, .int .i64 b.m, .bool b.s, .int .i64 b.d] 37)) := ⟨_, rfl⟩
    rw [← hv]
    have E : Ext w v := by rw [hv]; exact (((Ext.refl _).alloc _).alloc _).alloc _
    have B1 : Held v w.heap.size 34 #[.slice A c.nk ca, .slice A' c.ny cb] := by rw [hv]; exact ((Held.new _ _ _).alloc _).alloc _
    have B2 : Held v (w.heap.size + 1) 37 #[.int .i64 a.y, .int .i64 a.m, .bool a.s, .int .i64 a.d] := by rw [hv]; exact (Held.at _ _ _ _ (by simp)).alloc _
    have B3 : Held v (w.heap.size + 1 + 1) 37 #[.int .i64 b.y, .int .i64 b.m, .bool b.s, .int .i64 b.d] := by rw [hv]; exact Held.at _ _ _ _ (by simp)
    clear hv
    have C := hC.ext E
    clear hC
    generalize hb1 : w.heap.size = b1 at *
    replace hb1 := Lib.hid hb1
    obtain ⟨k0, k1⟩ := B1.c2; have lk := B1.lt
    obtain ⟨p0, p1, p2, p3⟩ := B2.c4; have lp := B2.lt
    obtain ⟨q0, q1, q2, q3⟩ := B3.c4; have lq := B3.lt
    go_upto_region 3 with (go_at_call 67; (with_reducible refine Calls.mono (NV _ C) ?_); rintro e v2 ⟨rfl, h⟩)
    replace E := Ext.trans E h
    replace C := C.ext h
    replace B1 := B1.ext h
    replace B2 := B2.ext h
    replace B3 := B3.ext h
    clear h
    clear k0 k1 lk
    clear p0 p1 p2 p3 lp
    clear q0 q1 q2 q3 lq
    obtain ⟨k0, k1⟩ := B1.c2; have lk := B1.lt
    obtain ⟨p0, p1, p2, p3⟩ := B2.c4; have lp := B2.lt
    obtain ⟨q0, q1, q2, q3⟩ := B3.c4; have lq := B3.lt
    clear k0 k1 lk p0 p1 p2 p3 lp q0 q1 q2 q3 lq
    obtain ⟨k0, k1⟩ := B1.c2; have lk := B1.lt
    obtain ⟨p0, p1, p2, p3⟩ := B2.c4; have lp := B2.lt
    obtain ⟨q0, q1, q2, q3⟩ := B3.c4; have lq := B3.lt
    go_wp2_with (first | (go_at_call 129; (with_reducible refine Calls.mono (N1 _ C) ?_); rintro e v3 ⟨rfl, h1⟩; have C3 := C.ext h1; clear k0 k1 lk q0 q1 q2 q3 lq; obtain ⟨k0, k1⟩ := (B1.ext h1).c2; have lk := (B1.ext h1).lt; obtain ⟨q0, q1, q2, q3⟩ := (B3.ext h1).c4; have lq := (B3.ext h1).lt) | (go_at_call 129; (with_reducible refine Calls.mono (N2 _ C3) ?_); rintro e v4 ⟨rfl, h2⟩))
    go_ret
    exact ⟨rfl, E.trans (h1.trans h2)⟩
   ·rw [hb] at N2
    clear hb
    go_enter Tryz.func116, Tryz.ntmps116
    go_upto_region 1 with (fail)
    obtain ⟨v, hv⟩ : ∃ v, v = (((w.alloc (.cells #[.slice A c.nk ca, .slice A' c.ny cb] 34)).alloc (.cells #[.int .i64 a.y, .int .i64 a.m, .bool a.s, .int .i64 a.d] 37)).alloc (.cells #[.int .i64 b.y, .int .i64 b.m, .bool b.s, .int .i64 b.d] 37)) := ⟨_, rfl⟩
    rw [← hv]
    have E : Ext w v := by rw [hv]; exact (((Ext.refl _).alloc _).alloc _).alloc _
    have B1 : Held v w.heap.size 34 #[.slice A c.nk ca, .slice A' c.ny cb] := by rw [hv]; exact ((Held.new _ _ _).alloc _).alloc _
    have B2 : Held v (w.heap.size + 1) 37 #[.int .i64 a.y, .int .i64 a.m, .bool a.s, .int .i64 a.d] := by rw [hv]; exact (Held.at _ _ _ _ (by simp)).alloc _
    have B3 : Held v (w.heap.size + 1 + 1) 37 #[.int .i64 b.y, .int .i64 b.m, .bool b.s, .int .i64 b.d] := by rw [hv]; exact Held.at _ _ _ _ (by simp)
    clear hv
    have C := hC.ext E
    clear hC
    generalize hb1 : w.heap.size = b1 at *
    replace hb1 := Lib.hid hb1
    obtain ⟨k0, k1⟩ := B1.c2; have lk := B1.lt
    obtain ⟨p0, p1, p2, p3⟩ := B2.c4; have lp := B2.lt
    obtain ⟨q0, q1, q2, q3⟩ := B3.c4; have lq := B3.lt
    go_upto_region 3 with (go_at_call 67; (with_reducible refine Calls.mono (NV _ C) ?_); rintro e v2 ⟨rfl, h⟩)
    replace E := Ext.trans E h
    replace C := C.ext h
    replace B1 := B1.ext h
    replace B2 := B2.ext h
    replace B3 := B3.ext h
    clear h
    clear k0 k1 lk
    clear p0 p1 p2 p3 lp
    clear q0 q1 q2 q3 lq
    obtain ⟨k0, k1⟩ := B1.c2; have lk := B1.lt
    obtain ⟨p0, p1, p2, p3⟩ := B2.c4; have lp := B2.lt
    obtain ⟨q0, q1, q2, q3⟩ := B3.c4; have lq := B3.lt
    clear k0 k1 lk p0 p1 p2 p3 lp q0 q1 q2 q3 lq
    obtain ⟨k0, k1⟩ := B1.c2; have lk := B1.lt
    obtain ⟨p0, p1, p2, p3⟩ := B2.c4; have lp := B2.lt
    obtain ⟨q0, q1, q2, q3⟩ := B3.c4; have lq := B3.lt
    go_wp2_with (first | (go_at_call 129; (with_reducible refine Calls.mono (N1 _ C) ?_); rintro e v3 ⟨rfl, h1⟩; have C3 := C.ext h1; clear k0 k1 lk q0 q1 q2 q3 lq; obtain ⟨k0, k1⟩ := (B1.ext h1).c2; have lk := (B1.ext h1).lt; obtain ⟨q0, q1, q2, q3⟩ := (B3.ext h1).c4; have lq := (B3.ext h1).lt) | (go_at_call 129; (with_reducible refine Calls.mono (N2 _ C3) ?_); rintro e v4 ⟨rfl, h2⟩))
    go_ret
    exact ⟨rfl, E.trans (h1.trans h2)⟩
theorem num_month {c : Cal} {d : Dt} (h : c.has d = true) (hny : c.ny ≤ 400) : 0 ≤ (c.num d).2 ∧ (c.num d).2 ≤ 5200 := by
 obtain ⟨i, x, hx, _, hn, _, _⟩ := num_ix h
 have hi := (List.getElem?_eq_some_iff.1 hx).1
 have hl := itemsTo_length c c.ny
 rw [hn]
 simp only
 have : c.items.length = (c.itemsTo c.ny).length := rfl
 omega
set_option maxRecDepth 100000 in
set_option maxHeartbeats 4000000 in
theorem scheme_any_r (A A' : Option Addr) (ca cb : Nat) (c : Cal) (a b : Dt) (w : World) (hC : CalAt w A ca A' cb c) :
  Calls Tryz.prog 69 #[.agg #[.slice A c.nk ca, .slice A' c.ny cb], .agg #[.int .i64 a.y, .int .i64 a.m, .bool a.s, .int .i64 a.d], .agg #[.int .i64 b.y, .int .i64 b.m, .bool b.s, .int .i64 b.d]] w fun e w' => e = .returned (.tuple #[.int .i64 (c.schV a b), .int .i64 (c.in2E a b)]) ∧ Ext w w' := by
 have NT := fun v (h : CalAt v A ca A' cb c) => two_any_r A A' ca cb c a b v h
 unfold Cal.schV
 by_cases hE : c.in2E a b = 0
 ·have hvh : c.valid = true ∧ (c.has a && c.has b) = true := by rcases in2E_cases c a b with ⟨_, h⟩ | ⟨_, _, h⟩ | ⟨h1, h2, _⟩ <;> first | exact ⟨h1, h2⟩ | omega
  obtain ⟨hv, hh⟩ := hvh
  rw [Bool.and_eq_true] at hh
  have N2 := fun v (h : CalAt v A ca A' cb c) => counted_any_r A A' ca cb c a v h hv hh.1
  have N3 := fun v (h : CalAt v A ca A' cb c) => counted_any_r A A' ca cb c b v h hv hh.2
  have d1 := has_day hh.1
  have d2 := has_day hh.2
  have x1 := num_in hh.1
  have y1 := num_in hh.2
  have x2 := num_month hh.1 (valid_ny hv)
  have y2 := num_month hh.2 (valid_ny hv)
  have hb := dayAt_bd c c.ny
  have hny := valid_ny hv
  have x3 : 0 ≤ (c.num a).1 ∧ (c.num a).1 ≤ 156000 := by omega
  have y3 : 0 ≤ (c.num b).1 ∧ (c.num b).1 ≤ 156000 := by omega
  simp only [hE] at NT
  rw [if_pos hE, hE]
  generalize c.num a = x at *
  generalize c.num b = y at *
  obtain ⟨x31, x32⟩ := x3
  obtain ⟨y31, y32⟩ := y3
  obtain ⟨x21, x22⟩ := x2
  obtain ⟨y21, y22⟩ := y2
  obtain ⟨d11, d12⟩ := d1
  obtain ⟨d21, d22⟩ := d2
  clear hv hh hE x1 y1 hb
  go_enter Tryz.func69, Tryz.ntmps69
  go_upto_region 1 with (fail)
  obtain ⟨v, hv⟩ : ∃ v, v = (((w.alloc (.cells #[.slice A c.nk ca, .slice A' c.ny cb] 34)).alloc (.cells #[.int .i64 a.y, .int .i64 a.m, .bool a.s, .int .i64 a.d] 37)).alloc (.cells #[.int .i64 b.y, .int .i64 b.m, .bool b.s, .int .i64 b.d] 37)) := ⟨_, rfl⟩
  rw [← hv]
  have E : Ext w v := by rw [hv]; exact (((Ext.refl _).alloc _).alloc _).alloc _
  have B1 : Held v w.heap.size 34 #[.slice A c.nk ca, .slice A' c.ny cb] := by rw [hv]; exact ((Held.new _ _ _).alloc _).alloc _
  have B2 : Held v (w.heap.size + 1) 37 #[.int .i64 a.y, .int .i64 a.m, .bool a.s, .int .i64 a.d] := by rw [hv]; exact (Held.at _ _ _ _ (by simp)).alloc _
  have B3 : Held v (w.heap.size + 1 + 1) 37 #[.int .i64 b.y, .int .i64 b.m, .bool b.s, .int .i64 b.d] := by rw [hv]; exact Held.at _ _ _ _ (by simp)
  clear hv
  have C := hC.ext E
  clear hC
  generalize hb1 : w.heap.size = b1 at *
  replace hb1 := Lib.hid hb1
  obtain ⟨k0, k1⟩ := B1.c2; have lk := B1.lt
  obtain ⟨p0, p1, p2, p3⟩ := B2.c4; have lp := B2.lt
  obtain ⟨q0, q1, q2, q3⟩ := B3.c4; have lq := B3.lt
  go_upto_region 2 with (go_at_call 116; (with_reducible refine Calls.mono (NT _ C) ?_); rintro e v2 ⟨rfl, h⟩)
  replace E := Ext.trans E h
  replace C := C.ext h
  replace B1 := B1.ext h
  replace B2 := B2.ext h
  replace B3 := B3.ext h
  clear h
  clear k0 k1 lk
  clear p0 p1 p2 p3 lp
  clear q0 q1 q2 q3 lq
  obtain ⟨k0, k1⟩ := B1.c2; have lk := B1.lt
  obtain ⟨p0, p1, p2, p3⟩ := B2.c4; have lp := B2.lt
  obtain ⟨q0, q1, q2, q3⟩ := B3.c4; have lq := B3.lt
  go_upto_region 5 with (go_at_call 117; (with_reducible refine Calls.mono (N2 _ C) ?_); rintro e v3 ⟨rfl, h⟩)
  replace E := Ext.trans E h
  replace C := C.ext h
  replace B1 := B1.ext h
  replace B2 := B2.ext h
  replace B3 := B3.ext h
  clear h
  clear k0 k1 lk
  clear p0 p1 p2 p3 lp
  clear q0 q1 q2 q3 lq
  obtain ⟨k0, k1⟩ := B1.c2; have lk := B1.lt
  obtain ⟨p0, p1, p2, p3⟩ := B2.c4; have lp := B2.lt
  obtain ⟨q0, q1, q2, q3⟩ := B3.c4; have lq := B3.lt
  go_upto_region 6 with (go_at_call 117; (with_reducible refine Calls.mono (N3 _ C) ?_); rintro e v4 ⟨rfl, h⟩)
  replace E := Ext.trans E h
  replace C := C.ext h
  replace B1 := B1.ext h
  replace B2 := B2.ext h
  replace B3 := B3.ext h
  clear h
  clear k0 k1 lk
  clear p0 p1 p2 p3 lp
  clear q0 q1 q2 q3 lq
  obtain ⟨k0, k1⟩ := B1.c2; have lk := B1.lt
  obtain ⟨p0, p1, p2, p3⟩ := B2.c4; have lp := B2.lt
  obtain ⟨q0, q1, q2, q3⟩ := B3.c4; have lq := B3.lt
  obtain ⟨x1, x2⟩ := x
  obtain ⟨y1, y2⟩ := y
  simp only at x31 x32 y31 y32 x21 x22 y21 y22 ⊢
  go_wp2
  refine bodyPost_ret (v := .tuple #[.int .i64 (30 * (y2 - x2) + b.d - a.d), .int .i64 0]) (by simp [results, Tryz.results69, go_sem]) rfl ⟨rfl, E⟩
 ·have hne : (c.in2E a b == 0) = false := beq_eq_false_iff_ne.2 hE
  rw [if_neg hE]
  clear hE
  generalize c.in2E a b = ee at *
  go_enter Tryz.func69, Tryz.ntmps69
  go_upto_region 1 with (fail)
  obtain ⟨v, hv⟩ : ∃ v, v = (((w.alloc (.cells #[.slice A c.nk ca, .slice A' c.ny cb] 34)).alloc (.cells #[.int .i64 a.y, .int .i64 a.m, .bool a.s, .int .i64 a.d] 37)).alloc (.cells #[.int .i64 b.y, .int .i64 b.m, .bool b.s, .int .i64 b.d] 37)) := ⟨_, rfl⟩
  rw [← hv]
  have E : Ext w v := by rw [hv]; exact (((Ext.refl _).alloc _).alloc _).alloc _
  have B1 : Held v w.heap.size 34 #[.slice A c.nk ca, .slice A' c.ny cb] := by rw [hv]; exact ((Held.new _ _ _).alloc _).alloc _
  have B2 : Held v (w.heap.size + 1) 37 #[.int .i64 a.y, .int .i64 a.m, .bool a.s, .int .i64 a.d] := by rw [hv]; exact (Held.at _ _ _ _ (by simp)).alloc _
  have B3 : Held v (w.heap.size + 1 + 1) 37 #[.int .i64 b.y, .int .i64 b.m, .bool b.s, .int .i64 b.d] := by rw [hv]; exact Held.at _ _ _ _ (by simp)
  clear hv
  have C := hC.ext E
  clear hC
  generalize hb1 : w.heap.size = b1 at *
  replace hb1 := Lib.hid hb1
  obtain ⟨k0, k1⟩ := B1.c2; have lk := B1.lt
  obtain ⟨p0, p1, p2, p3⟩ := B2.c4; have lp := B2.lt
  obtain ⟨q0, q1, q2, q3⟩ := B3.c4; have lq := B3.lt
  go_upto_region 2 with (go_at_call 116; (with_reducible refine Calls.mono (NT _ C) ?_); rintro e v2 ⟨rfl, h⟩)
  replace E := Ext.trans E h
  replace C := C.ext h
  replace B1 := B1.ext h
  replace B2 := B2.ext h
  replace B3 := B3.ext h
  clear h
  clear k0 k1 lk
  clear p0 p1 p2 p3 lp
  clear q0 q1 q2 q3 lq
  obtain ⟨k0, k1⟩ := B1.c2; have lk := B1.lt
  obtain ⟨p0, p1, p2, p3⟩ := B2.c4; have lp := B2.lt
  obtain ⟨q0, q1, q2, q3⟩ := B3.c4; have lq := B3.lt
  go_wp2
  go_ret2
  exact ⟨rfl, E⟩
end Go.Proofs.YthmjpbafbohelaaGreatDoor
namespace Go.Proofs.YthmjpbafbohelaaGreatDoor
open Go Go.RowKit Go.Shelf
attribute [local go_sem] gv_yes
set_option maxRecDepth 100000 in
set_option maxHeartbeats 4000000 in
theorem dayR_any (A A' : Option Addr) (ca cb : Nat) (c : Cal) (d : Dt) (w : World) (hC : CalAt w A ca A' cb c) (hv : c.valid = true) :
  Calls Tryz.prog 80 #[.agg #[.slice A c.nk ca, .slice A' c.ny cb], .agg #[.int .i64 d.y, .int .i64 d.m, .bool d.s, .int .i64 d.d]] w fun e w' => e = .returned (.int .i64 (c.numV d)) ∧ Ext w w' := by
 have NH := fun v (h : CalAt v A ca A' cb c) => has_any_r A A' ca cb c d v h hv
 unfold Cal.numV
 cases hh : c.has d
 ·have hE : c.inE d ≠ 0 := by rcases inE_cases c d with ⟨h, _⟩ | ⟨_, _, h⟩ | ⟨_, h, _⟩ <;> first | (rw [hv] at h; cases h) | (rw [h]; decide) | (rw [hh] at h; cases h)
  simp only [hh] at NH
  rw [if_neg hE]
  clear hE hh hv
  go_enter Tryz.func80, Tryz.ntmps80
  go_upto_region 1 with (fail)
  obtain ⟨v, hv⟩ : ∃ v, v = ((w.alloc (.cells #[.slice A c.nk ca, .slice A' c.ny cb] 34)).alloc (.cells #[.int .i64 d.y, .int .i64 d.m, .bool d.s, .int .i64 d.d] 37)) := ⟨_, rfl⟩
  rw [← hv]
  have E : Ext w v := by rw [hv]; exact ((Ext.refl _).alloc _).alloc _
  have B1 : Held v w.heap.size 34 #[.slice A c.nk ca, .slice A' c.ny cb] := by rw [hv]; exact (Held.new _ _ _).alloc _
  have B2 : Held v (w.heap.size + 1) 37 #[.int .i64 d.y, .int .i64 d.m, .bool d.s, .int .i64 d.d] := by rw [hv]; exact Held.at _ _ _ _ (by simp)
  clear hv
  obtain ⟨b2, hb2⟩ : ∃ b, b = w.heap.size + 1 := ⟨_, rfl⟩
  rw [← hb2] at B2 ⊢
  obtain ⟨b1, hb1⟩ : ∃ b, b = w.heap.size := ⟨_, rfl⟩
  rw [← hb1] at B1 ⊢
  have hbr : w.heap.size ≤ b2 := by omega
  have hbr1 : w.heap.size ≤ b1 := by omega
  have hn21 : b2 ≠ b1 := by omega
  clear hb1 hb2
  have C := hC.ext E
  clear hC
  obtain ⟨k0, k1⟩ := B1.c2
  have kl := B1.lt
  obtain ⟨p0, p1, p2, p3⟩ := B2.c4
  have pl := B2.lt
  go_wp2_with (go_at_call 129; (with_reducible refine Calls.mono (NH _ C) ?_); rintro e w1 ⟨rfl, h1⟩; replace E := E.trans h1; replace C := C.ext h1; replace B1 := B1.ext h1; replace B2 := B2.ext h1; clear k0 k1 kl; obtain ⟨k0, k1⟩ := B1.c2; have kl := B1.lt; clear p0 p1 p2 p3 pl; obtain ⟨p0, p1, p2, p3⟩ := B2.c4; have pl := B2.lt; clear h1)
  go_ret
  exact ⟨rfl, E⟩
 ·have hE : c.inE d = 0 := by rcases inE_cases c d with ⟨h, _⟩ | ⟨_, h, _⟩ | ⟨_, _, h⟩ <;> first | (rw [hv] at h; cases h) | exact h | (rw [hh] at h; cases h)
  have NK := fun v (h : CalAt v A ca A' cb c) => counted_any_r A A' ca cb c d v h hv hh
  simp only [hh] at NH
  rw [if_pos hE]
  generalize c.num d = V at *
  clear hE hh hv
  go_enter Tryz.func80, Tryz.ntmps80
  go_upto_region 1 with (fail)
  obtain ⟨v, hv⟩ : ∃ v, v = ((w.alloc (.cells #[.slice A c.nk ca, .slice A' c.ny cb] 34)).alloc (.cells #[.int .i64 d.y, .int .i64 d.m, .bool d.s, .int .i64 d.d] 37)) := ⟨_, rfl⟩
  rw [← hv]
  have E : Ext w v := by rw [hv]; exact ((Ext.refl _).alloc _).alloc _
  have B1 : Held v w.heap.size 34 #[.slice A c.nk ca, .slice A' c.ny cb] := by rw [hv]; exact (Held.new _ _ _).alloc _
  have B2 : Held v (w.heap.size + 1) 37 #[.int .i64 d.y, .int .i64 d.m, .bool d.s, .int .i64 d.d] := by rw [hv]; exact Held.at _ _ _ _ (by simp)
  clear hv
  obtain ⟨b2, hb2⟩ : ∃ b, b = w.heap.size + 1 := ⟨_, rfl⟩
  rw [← hb2] at B2 ⊢
  obtain ⟨b1, hb1⟩ : ∃ b, b = w.heap.size := ⟨_, rfl⟩
  rw [← hb1] at B1 ⊢
  have hbr : w.heap.size ≤ b2 := by omega
  have hbr1 : w.heap.size ≤ b1 := by omega
  have hn21 : b2 ≠ b1 := by omega
  clear hb1 hb2
  have C := hC.ext E
  clear hC
  obtain ⟨k0, k1⟩ := B1.c2
  have kl := B1.lt
  obtain ⟨p0, p1, p2, p3⟩ := B2.c4
  have pl := B2.lt
  go_wp2_with (first | (go_at_call 129; (with_reducible refine Calls.mono (NH _ C) ?_); rintro e w1 ⟨rfl, h1⟩; replace E := E.trans h1; replace C := C.ext h1; replace B1 := B1.ext h1; replace B2 := B2.ext h1; clear k0 k1 kl; obtain ⟨k0, k1⟩ := B1.c2; have kl := B1.lt; clear p0 p1 p2 p3 pl; obtain ⟨p0, p1, p2, p3⟩ := B2.c4; have pl := B2.lt; clear h1) | (go_at_call 117; (with_reducible refine Calls.mono (NK _ C) ?_); rintro e w2 ⟨rfl, h1⟩; replace E := E.trans h1; replace C := C.ext h1; replace B1 := B1.ext h1; replace B2 := B2.ext h1; clear k0 k1 kl; obtain ⟨k0, k1⟩ := B1.c2; have kl := B1.lt; clear p0 p1 p2 p3 pl; obtain ⟨p0, p1, p2, p3⟩ := B2.c4; have pl := B2.lt; clear h1))
  go_ret
  exact ⟨rfl, E⟩
set_option maxRecDepth 100000 in
set_option maxHeartbeats 4000000 in
theorem inOrderR_any (A A' : Option Addr) (ca cb : Nat) (c : Cal) (a b : Dt) (w : World) (hC : CalAt w A ca A' cb c) (hv : c.valid = true) :
    Calls Tryz.prog 68 #[.agg #[.slice A c.nk ca, .slice A' c.ny cb], .agg #[.int .i64 a.y, .int .i64 a.m, .bool a.s, .int .i64 a.d], .agg #[.int .i64 b.y, .int .i64 b.m, .bool b.s, .int .i64 b.d]] w fun e w' => e = .returned (.bool (decide (0 < c.numV a) && decide (c.numV a ≤ c.numV b))) ∧ Ext w w' := by
  have NA := fun v (h : CalAt v A ca A' cb c) => dayR_any A A' ca cb c a v h hv
  have NB := fun v (h : CalAt v A ca A' cb c) => dayR_any A A' ca cb c b v h hv
  generalize c.numV a = x at *
  generalize c.numV b = y at *
  clear hv
  go_enter Tryz.func68, Tryz.ntmps68
  go_upto_region 1 with (fail)
  obtain ⟨v, hv⟩ : ∃ v, v = (((w.alloc (.cells #[.slice A c.nk ca, .slice A' c.ny cb] 34)).alloc (.cells #[.int .i64 a.y, .int .i64 a.m, .bool a.s, .int .i64 a.d] 37)).alloc (.cells #[.int .i64 b.y, .int .i64 b.m, .bool b.s, .int .i64 b.d] 37)) := ⟨_, rfl⟩
  rw [← hv]
  have E : Ext w v := by rw [hv]; exact (((Ext.refl _).alloc _).alloc _).alloc _
  have B1 : Held v w.heap.size 34 #[.slice A c.nk ca, .slice A' c.ny cb] := by rw [hv]; exact ((Held.new _ _ _).alloc _).alloc _
  have B2 : Held v (w.heap.size + 1) 37 #[.int .i64 a.y, .int .i64 a.m, .bool a.s, .int .i64 a.d] := by rw [hv]; exact (Held.at _ _ _ _ (by simp)).alloc _
  have B3 : Held v (w.heap.size + 1 + 1) 37 #[.int .i64 b.y, .int .i64 b.m, .bool b.s, .int .i64 b.d] := by rw [hv]; exact Held.at _ _ _ _ (by simp)
  clear hv
  obtain ⟨b3, hb3⟩ : ∃ b, b = w.heap.size + 1 + 1 := ⟨_, rfl⟩
  rw [← hb3] at B3 ⊢
  obtain ⟨b2, hb2⟩ : ∃ b, b = w.heap.size + 1 := ⟨_, rfl⟩
  rw [← hb2] at B2 ⊢
  obtain ⟨b1, hb1⟩ : ∃ b, b = w.heap.size := ⟨_, rfl⟩
  rw [← hb1] at B1 ⊢
  have hbr : w.heap.size ≤ b3 := by omega
  have hbr1 : w.heap.size ≤ b1 := by omega
  have hbr2 : w.heap.size ≤ b2 := by omega
  have hn21 : b2 ≠ b1 := by omega
  have hn31 : b3 ≠ b1 := by omega
  have hn32 : b3 ≠ b2 := by omega
  clear hb1 hb2 hb3
  have C := hC.ext E
  clear hC
  obtain ⟨k0, k1⟩ := B1.c2
  have kl := B1.lt
  obtain ⟨p0, p1, p2, p3⟩ := B2.c4
  have pl := B2.lt
  obtain ⟨q0, q1, q2, q3⟩ := B3.c4
  have ql := B3.lt
  refine wp_region_xw v mixed (by kernel_rfl) (by repeat (first | exact Ext.refl _ | (refine Ext.alloc ?_ _) | (refine Ext.trans ?_ (by assumption)))) ?_
  intro hne hrx hry
  try simp only []
  try simp only [List.append_eq, List.cons_append, List.nil_append]
  skip
  repeat (first
    | go_big_quiet_skip
    | (go_big_quiet_want; go_big_quiet_op; go_big_quiet_on)
    | (go_big_quiet_want; go_big_quiet_op; apply Exists.intro; refine ⟨fun u => ?_, ?_⟩
       · first
           | (go_at_call 80; (with_reducible refine Calls.mono (NA _ (C.ext u.e)) ?_); rintro e w' ⟨rfl, hb⟩; exact ⟨rfl, u.back hb⟩)
           | (go_at_call 80; (with_reducible refine Calls.mono (NB _ (C.ext u.e)) ?_); rintro e w' ⟨rfl, hb⟩; exact ⟨rfl, u.back hb⟩)
       go_big_quiet_on))
  clear hne hry hrx
  refine wpQuiet_nil ?_
  intro v1 h1
  obtain ⟨hcv1, hfv1, hzv1⟩ := Ext.rules h1
  try simp only [World.size_alloc] at hzv1
  obtain ⟨hcbv1, hfbv1, hzbv1⟩ := Ext.rules (show Ext v v1 from (by repeat (first | exact Ext.refl _ | (refine Ext.alloc ?_ _) | (refine Ext.trans ?_ (by assumption)))))
  clear hcv1 hfv1
  clear NA NB C k0 k1 kl p0 p1 p2 p3 pl q0 q1 q2 q3 ql
  replace E := E.trans h1
  clear h1
  by_cases c1 : 0 < x
  · have g1 : decide (0 < x) = true := decide_eq_true c1
    by_cases c2 : 0 < y
    · have g2 : decide (0 < y) = true := decide_eq_true c2
      clear c1 c2
      cases g3 : decide (x ≤ y)
      · go_wp2
        go_ret
        exact ⟨by rw [g1]; first | rfl | (rw [g3]; rfl), E⟩
      · go_wp2
        go_ret
        exact ⟨by rw [g1]; first | rfl | (rw [g3]; rfl), E⟩
    · have g2 : decide (0 < y) = false := decide_eq_false c2
      have g3 : decide (x ≤ y) = false := decide_eq_false (by omega)
      clear c1 c2
      go_wp2
      go_ret
      exact ⟨by rw [g3, Bool.and_false]; rfl, E⟩
  · have g1 : decide (0 < x) = false := decide_eq_false c1
    clear c1
    go_wp2
    go_ret
    exact ⟨by rw [g1]; rfl, E⟩
set_option maxRecDepth 100000 in
set_option maxHeartbeats 4000000 in
theorem neededR_any (T : Option Addr) (n cap : Nat) (f : Nat → Tk) (w : World) (hin : ∀ i, i < n → (f i).a.In ∧ (f i).r.In) (hT : RowsAt w T n 4 (taskr f)) (hn : n ≤ 9223372036854775807) :
  Calls Tryz.prog 35 #[.slice T n cap] w fun e w' => e = .returned (.tuple #[.agg #[.int .i64 (needV f n).1.n, .int .i64 (needV f n).1.d], .int .i64 (needV f n).2]) ∧ Ext w w' := by
 obtain ⟨R, hR0⟩ : ∃ R, R = needV f n := ⟨_, rfl⟩
 rw [← hR0]
 unfold needV at hR0
 have HR := Lib.hid hR0
 clear hR0
 go_enter Tryz.func35, Tryz.ntmps35
 go_upto_region 1 with (fail)
 obtain ⟨v, hv⟩ : ∃ v, v = (w.alloc (.cells #[.int .i64 0, .int .i64 0] 23)) := ⟨_, rfl⟩
 rw [← hv]
 have E : Ext w v := by rw [hv]; exact (Ext.refl _).alloc _
 have B2 : Held v w.heap.size 23 #[.int .i64 0, .int .i64 0] := by rw [hv]; exact (Held.new _ _ _)
 clear hv
 obtain ⟨b1, hb1⟩ : ∃ b, b = w.heap.size := ⟨_, rfl⟩
 rw [← hb1] at B2 ⊢
 have hbr : w.heap.size ≤ b1 := by omega
 clear hb1
 have RT := hT.ext E
 clear hT
 by_cases h64 : 64 < n
 ·have hr := HR.out
  rw [if_pos h64] at hr
  have g1 : decide (64 < n) = true := decide_eq_true h64
  subst hr
  clear HR
  have f0 := B2.frozen 0
  have f1 := B2.frozen 1
  obtain ⟨x0, x1⟩ := B2.c2
  have lx := B2.lt
  have H4 := held_two B2 (.int .i64 0) (.int .i64 0)
  have EF := (E.setCell (p := ⟨b1, 0, none⟩) hbr (.int .i64 0)).setCell (p := ⟨b1, 1, none⟩) hbr (.int .i64 0)
  obtain ⟨y0, y1⟩ := H4.c2
  go_wp2
  refine bodyPost_ret (v := .tuple #[.agg #[.int .i64 0, .int .i64 0], .int .i64 3]) (by simp [results, Tryz.results35, go_sem, y0, y1]) rfl ⟨rfl, EF⟩
 have g1 : decide (64 < n) = false := decide_eq_false h64
 have hr := HR.out
 rw [if_neg h64] at hr
 replace HR := Lib.hid hr
 clear hr
 go_upto_region 4 with (fail)
 go_loopw [4] (fun i wr => ∃ k : Nat, k ≤ n ∧ i = .int .i64 k ∧ Hid (∀ j, j < k → taskOk (f j) = true) ∧ Ext v wr) (fun i _ => n - (intOf i).toNat)
 case atStart => exact ⟨0, Nat.zero_le _, rfl, (fun j h => absurd h (by omega)), Ext.refl _⟩
 case round =>
  obtain ⟨k, hk, rfl, hall, hE⟩ := hrel
  obtain ⟨wo, rfl⟩ : ∃ wo : World, wo = wr := ⟨_, rfl⟩
  by_cases hlt : k < n
  ·obtain ⟨b, off, rfl, hb, hc⟩ := (RT.ext hE) (by omega)
   have c0 : wo.cell? ⟨b, off + k * 4, none⟩ = some (.int .i64 (f k).a.n) := by simpa [taskr] using hc k 0 _ hlt rfl
   have c1 : wo.cell? ⟨b, off + k * 4 + 1, none⟩ = some (.int .i64 (f k).a.d) := by simpa [taskr] using hc k 1 _ hlt rfl
   have c2 : wo.cell? ⟨b, off + k * 4 + 2, none⟩ = some (.int .i64 (f k).r.n) := by simpa [taskr] using hc k 2 _ hlt rfl
   have c3 : wo.cell? ⟨b, off + k * 4 + 3, none⟩ = some (.int .i64 (f k).r.d) := by simpa [taskr] using hc k 3 _ hlt rfl
   obtain ⟨ia, ir⟩ := hin k hlt
   have NA := fun w => atLeast_any (f k).a ia w
   have NP := fun w => positiveR_any (f k).r ir w
   have hno : Hid (taskOk (f k) = false → R = (rat0, 81)) := fun h => by
    rw [HR.out, if_neg (by rw [Bool.not_eq_true]; exact List.all_eq_false.2 ⟨k, by simpa using hlt, by simp [h]⟩)]
   have hyes : Hid (taskOk (f k) = true → ∀ j, j < k + 1 → taskOk (f j) = true) := fun h j hj => by
    by_cases e : j = k
    ·subst e; exact h
    ·exact hall.out j (by omega)
   have htk : Hid (taskOk (f k) = ((f k).a.nn && (f k).r.pos)) := rfl
   clear hc hin RT hall HR h64
   cases ha : (f k).a.nn
   ·have hr := hno.out (by rw [htk.out, ha]; rfl)
    subst hr
    simp only [ha] at NA
    clear hno hyes htk ha NP
    go_upto_region 7 with (go_at_call 51; (with_reducible refine Calls.mono (NA _) ?_); rintro e w1 ⟨rfl, h1⟩; replace hE := hE.trans h1; replace c2 := (h1.cell (p := ⟨b, off + k * 4 + 2, none⟩) hb).trans c2; replace c3 := (h1.cell (p := ⟨b, off + k * 4 + 3, none⟩) hb).trans c3; replace hb := Nat.lt_of_lt_of_le hb h1.size; clear h1)
    replace E := E.trans hE
    replace B2 := B2.ext hE
    have f0 := B2.frozen 0
    have f1 := B2.frozen 1
    obtain ⟨x0, x1⟩ := B2.c2
    have lx := B2.lt
    have H4 := held_two B2 (.int .i64 0) (.int .i64 0)
    have EF := (E.setCell (p := ⟨b1, 0, none⟩) hbr (.int .i64 0)).setCell (p := ⟨b1, 1, none⟩) hbr (.int .i64 0)
    obtain ⟨y0, y1⟩ := H4.c2
    go_wp2
    refine bodyPost_ret (v := .tuple #[.agg #[.int .i64 0, .int .i64 0], .int .i64 81]) (by simp [results, Tryz.results35, go_sem, y0, y1]) rfl ⟨rfl, EF⟩
   ·simp only [ha] at NA
    cases hp : (f k).r.pos
    ·have hr := hno.out (by rw [htk.out, ha, hp]; rfl)
     subst hr
     simp only [hp] at NP
     clear hno hyes htk ha hp
     go_upto_region 7 with (first | (go_at_call 51; (with_reducible refine Calls.mono (NA _) ?_); rintro e w1 ⟨rfl, h1⟩; replace hE := hE.trans h1; replace c2 := (h1.cell (p := ⟨b, off + k * 4 + 2, none⟩) hb).trans c2; replace c3 := (h1.cell (p := ⟨b, off + k * 4 + 3, none⟩) hb).trans c3; replace hb := Nat.lt_of_lt_of_le hb h1.size; clear h1) | (go_at_call 55; (with_reducible refine Calls.mono (NP _) ?_); rintro e w2 ⟨rfl, h1⟩; replace hE := hE.trans h1; clear h1))
     replace E := E.trans hE
     replace B2 := B2.ext hE
     have f0 := B2.frozen 0
     have f1 := B2.frozen 1
     obtain ⟨x0, x1⟩ := B2.c2
     have lx := B2.lt
     have H4 := held_two B2 (.int .i64 0) (.int .i64 0)
     have EF := (E.setCell (p := ⟨b1, 0, none⟩) hbr (.int .i64 0)).setCell (p := ⟨b1, 1, none⟩) hbr (.int .i64 0)
     obtain ⟨y0, y1⟩ := H4.c2
     go_wp2
     refine bodyPost_ret (v := .tuple #[.agg #[.int .i64 0, .int .i64 0], .int .i64 81]) (by simp [results, Tryz.results35, go_sem, y0, y1]) rfl ⟨rfl, EF⟩
    ·simp only [hp] at NP
     have hall := Lib.hid (hyes.out (by rw [htk.out, ha, hp]; rfl))
     clear hno hyes htk ha hp B2
     go_wp2_with (first | (go_at_call 51; (with_reducible refine Calls.mono (NA _) ?_); rintro e w1 ⟨rfl, h1⟩; replace hE := hE.trans h1; replace c2 := (h1.cell (p := ⟨b, off + k * 4 + 2, none⟩) hb).trans c2; replace c3 := (h1.cell (p := ⟨b, off + k * 4 + 3, none⟩) hb).trans c3; replace hb := Nat.lt_of_lt_of_le hb h1.size; clear h1) | (go_at_call 55; (with_reducible refine Calls.mono (NP _) ?_); rintro e w2 ⟨rfl, h1⟩; replace hE := hE.trans h1; clear h1))
     exact ⟨⟨k + 1, by omega, by go_num, hall, hE⟩, by simp [intOf]; omega⟩
  ·obtain rfl : k = n := by omega
   have hr := HR.out
   rw [if_pos (List.all_eq_true.2 fun i hi => hall.out i (List.mem_range.1 hi))] at hr
   have HT : Hid (R = totR (fun i => divR (f i).a (f i).r) 0 (k - 0) (ratW 0)) := hr
   clear hr HR hall h64
   replace E := E.trans hE
   replace B2 := B2.ext hE
   replace RT := RT.ext hE
   clear hE
   go_upto_region 9 with (go_at_call 53; (with_reducible refine Calls.mono (wholeR_any 0 _) ?_); rintro e w4 ⟨rfl, h1⟩; replace E := E.trans h1; replace B2 := B2.ext h1; replace RT := RT.ext h1; clear h1)
   obtain ⟨v5, hv⟩ : ∃ x, x = (w4.alloc (.cells #[.int .i64 0, .int .i64 1] 23)) := ⟨_, rfl⟩
   rw [← hv]
   have hx : Ext w4 v5 := by rw [hv]; exact (Ext.refl _).alloc _
   have B5 : Held v5 w4.heap.size 23 #[.int .i64 0, .int .i64 1] := by rw [hv]; exact Held.new _ _ _
   clear hv
   obtain ⟨b5, hb50⟩ : ∃ b, b = w4.heap.size := ⟨_, rfl⟩
   rw [← hb50] at B5 ⊢
   have hb5 : w4.heap.size ≤ b5 := by omega
   clear hb50
   go_upto_region 10 with (fail)
   go_loopw [6] (fun i wr => ∃ j : Nat, j ≤ k ∧ i = .int .i64 j ∧ ∃ s : Rt, s.In ∧ Ext w4 wr ∧ Held wr b5 23 #[.int .i64 s.n, .int .i64 s.d] ∧ Hid (R = totR (fun i => divR (f i).a (f i).r) j (k - j) s)) (fun i _ => k - (intOf i).toNat)
   case atStart => exact ⟨0, Nat.zero_le _, rfl, ratW 0, (by unfold Rt.In ratW; decide), hx, B5, HT⟩
   case round =>
    clear HT hx B5
    obtain ⟨j, hj, rfl, s, hs, hE, B5, HT⟩ := hrel
    obtain ⟨wj, rfl⟩ : ∃ w' : World, w' = wr := ⟨_, rfl⟩
    by_cases hltj : j < k
    ·obtain ⟨b, off, rfl, _, _⟩ := (RT.ext hE) (by omega)
     obtain ⟨ia, ir⟩ := hin j hltj
     have ND := fun w => divFR_any (f j).a (f j).r ia ir w
     have hGin := divR_in (f j).a (f j).r
     obtain ⟨m, hm⟩ : ∃ m, k - j = m + 1 := ⟨k - j - 1, by omega⟩
     have hm2 : k - (j + 1) = m := by omega
     have HT' : Hid (R = if (divR (f j).a (f j).r).2 ≠ 0 then (rat0, (divR (f j).a (f j).r).2) else if (addR s (divR (f j).a (f j).r).1).2 ≠ 0 then (rat0, (addR s (divR (f j).a (f j).r).1).2) else totR (fun i => divR (f i).a (f i).r) (j + 1) (k - (j + 1)) (addR s (divR (f j).a (f j).r).1).1) := by
      rw [hm2]
      unfold Hid
      rw [HT.out, hm]; rfl
     clear HT hm hm2
     generalize divR (f j).a (f j).r = G at *
     obtain ⟨⟨Gn, Gd⟩, Ge⟩ := G
     have NAD := fun w => addFR_any s ⟨Gn, Gd⟩ hs hGin w
     have hSin := addR_in s ⟨Gn, Gd⟩
     simp only at ND HT'
     generalize addR s ⟨Gn, Gd⟩ = S at *
     obtain ⟨⟨Sn, Sd⟩, Se⟩ := S
     simp only at NAD HT'
     go_upto_region 12 with (fail)
     apply wp_cut1y (S := fun w' b => Ext wj w' ∧ wj.heap.size ≤ b ∧ Held w' b 23 #[.int .i64 Gn, .int .i64 Gd])
     ·refine wp_region_z 17 [12, 13, 15, 16] (fun x => Ext wj x) mixed rfl ?_
      intro vz hvz
      have HC := hvz
      refine z_stills (g := 7) [0, 1, 2, 3, 4, 5, 6, 7, 8, 9] [_, _, _, _, _, _, _, _, _, _] ⟨rfl, rfl, rfl, rfl, rfl, rfl, rfl, rfl, rfl, rfl, trivial⟩ (by kernel_rfl) (by kernel_rfl) HC ?_
      simp only [zgA, zgB, zgC]
      apply Exists.intro
      refine ⟨fun u hu => ?_, ?_⟩
      ·obtain ⟨b', off', hTe, hb, hc⟩ := (RT.ext (hE.trans hu)) (by omega)
       obtain ⟨rfl, rfl⟩ : b = b' ∧ off = off' := by simpa using hTe
       have c0 : u.cell? ⟨b, off + j * 4, none⟩ = some (.int .i64 (f j).a.n) := by simpa [taskr] using hc j 0 _ hltj rfl
       have c1 : u.cell? ⟨b, off + j * 4 + 1, none⟩ = some (.int .i64 (f j).a.d) := by simpa [taskr] using hc j 1 _ hltj rfl
       have c2 : u.cell? ⟨b, off + j * 4 + 2, none⟩ = some (.int .i64 (f j).r.n) := by simpa [taskr] using hc j 2 _ hltj rfl
       have c3 : u.cell? ⟨b, off + j * 4 + 3, none⟩ = some (.int .i64 (f j).r.d) := by simpa [taskr] using hc j 3 _ hltj rfl
       clear hc
       repeat (first | go_big_quiet_skip | (go_big_quiet_want; go_big_quiet_op; go_big_quiet_on))
       refine wpQuiet_nil ?_
       rfl
      refine z_two 10 14 rfl rfl (by kernel_rfl) ?_ ?_
      ·simp only [zgA, zgB, zgC]
       go_wp2_with (go_at_call 90; (with_reducible refine Calls.mono (ND _) ?_); rintro e wa ⟨rfl, h4⟩)
       replace HC := HC.trans h4
       try replace Q := Q.ext h4
       clear h4
       refine onQ_in HC ?_
       refine z_stills (g := 5) [11] [_] ⟨rfl, trivial⟩ (by kernel_rfl) (by kernel_rfl) HC ?_
       simp only [zgA, zgB, zgC]
       apply Exists.intro
       refine ⟨fun u hu => ?_, ?_⟩
       ·obtain ⟨b', off', hTe, hb, hc⟩ := (RT.ext (hE.trans hu)) (by omega)
        obtain ⟨rfl, rfl⟩ : b = b' ∧ off = off' := by simpa using hTe
        have c0 : u.cell? ⟨b, off + j * 4, none⟩ = some (.int .i64 (f j).a.n) := by simpa [taskr] using hc j 0 _ hltj rfl
        have c1 : u.cell? ⟨b, off + j * 4 + 1, none⟩ = some (.int .i64 (f j).a.d) := by simpa [taskr] using hc j 1 _ hltj rfl
        have c2 : u.cell? ⟨b, off + j * 4 + 2, none⟩ = some (.int .i64 (f j).r.n) := by simpa [taskr] using hc j 2 _ hltj rfl
        have c3 : u.cell? ⟨b, off + j * 4 + 3, none⟩ = some (.int .i64 (f j).r.d) := by simpa [taskr] using hc j 3 _ hltj rfl
        clear hc
        repeat (first | go_big_quiet_skip | (go_big_quiet_want; go_big_quiet_op; go_big_quiet_on))
        refine wpQuiet_nil ?_
        rfl
       refine z_pures (g := 3) [12, 13] [_, _] ⟨rfl, rfl, trivial⟩ (by kernel_rfl) (by kernel_rfl) ?_
       simp only [zgA, zgB, zgC]
       apply Exists.intro
       refine ⟨fun u hu => ?_, ?_⟩
       ·repeat (first | go_big_quiet_skip | (go_big_quiet_want; go_big_quiet_op; go_big_quiet_on))
        refine wpQuiet_nil ?_
        rfl
       refine z_one 14 rfl (by kernel_rfl) ?_
       simp only [zgA, zgB, zgC]
       go_wp2
       obtain ⟨bq, hbq, Q, HC', hge⟩ := ex_new HC 23 #[.int .i64 0, .int .i64 0]
       rw [← hbq]
       clear hbq
       replace HC := HC'
       clear HC'
       refine onQ_in HC ?_
       refine z_end 15 rfl (by kernel_rfl) ?_
       simp only [zgA, zgB, zgC]
       have f0 := Q.frozen 0
       have f1 := Q.frozen 1
       obtain ⟨z0, z1⟩ := Q.c2
       have lz := Q.lt
       have Q2 := held_two Q (.int .i64 Gn) (.int .i64 Gd)
       have HE2 := (HC.setCell (p := ⟨bq, 0, none⟩) hge (.int .i64 Gn)).setCell (p := ⟨bq, 1, none⟩) hge (.int .i64 Gd)
       go_wp2
       refine onQ_last ?_
       refine z_end 16 rfl (by kernel_rfl) ?_
       simp only [zgA, zgB, zgC]
       go_wp2
       refine onQ_last ?_
       refine z_done (by kernel_rfl) ?_
       exact cut1y_is bq ⟨HE2, hge, Q2⟩ rfl
      ·simp only [zgA, zgB, zgC]
       go_wp2
       obtain ⟨bq, hbq, Q, HC', hge⟩ := ex_new HC 23 #[.int .i64 0, .int .i64 0]
       rw [← hbq]
       clear hbq
       replace HC := HC'
       clear HC'
       refine onQ_in HC ?_
       refine z_one 10 rfl (by kernel_rfl) ?_
       simp only [zgA, zgB, zgC]
       go_wp2_with (go_at_call 90; (with_reducible refine Calls.mono (ND _) ?_); rintro e wa ⟨rfl, h4⟩)
       replace HC := HC.trans h4
       try replace Q := Q.ext h4
       clear h4
       refine onQ_in HC ?_
       refine z_stills (g := 4) [11] [_] ⟨rfl, trivial⟩ (by kernel_rfl) (by kernel_rfl) HC ?_
       simp only [zgA, zgB, zgC]
       apply Exists.intro
       refine ⟨fun u hu => ?_, ?_⟩
       ·obtain ⟨b', off', hTe, hb, hc⟩ := (RT.ext (hE.trans hu)) (by omega)
        obtain ⟨rfl, rfl⟩ : b = b' ∧ off = off' := by simpa using hTe
        have c0 : u.cell? ⟨b, off + j * 4, none⟩ = some (.int .i64 (f j).a.n) := by simpa [taskr] using hc j 0 _ hltj rfl
        have c1 : u.cell? ⟨b, off + j * 4 + 1, none⟩ = some (.int .i64 (f j).a.d) := by simpa [taskr] using hc j 1 _ hltj rfl
        have c2 : u.cell? ⟨b, off + j * 4 + 2, none⟩ = some (.int .i64 (f j).r.n) := by simpa [taskr] using hc j 2 _ hltj rfl
        have c3 : u.cell? ⟨b, off + j * 4 + 3, none⟩ = some (.int .i64 (f j).r.d) := by simpa [taskr] using hc j 3 _ hltj rfl
        clear hc
        repeat (first | go_big_quiet_skip | (go_big_quiet_want; go_big_quiet_op; go_big_quiet_on))
        refine wpQuiet_nil ?_
        rfl
       refine z_pures (g := 2) [12, 13] [_, _] ⟨rfl, rfl, trivial⟩ (by kernel_rfl) (by kernel_rfl) ?_
       simp only [zgA, zgB, zgC]
       apply Exists.intro
       refine ⟨fun u hu => ?_, ?_⟩
       ·repeat (first | go_big_quiet_skip | (go_big_quiet_want; go_big_quiet_op; go_big_quiet_on))
        refine wpQuiet_nil ?_
        rfl
       refine z_end 15 rfl (by kernel_rfl) ?_
       simp only [zgA, zgB, zgC]
       have f0 := Q.frozen 0
       have f1 := Q.frozen 1
       obtain ⟨z0, z1⟩ := Q.c2
       have lz := Q.lt
       have Q2 := held_two Q (.int .i64 Gn) (.int .i64 Gd)
       have HE2 := (HC.setCell (p := ⟨bq, 0, none⟩) hge (.int .i64 Gn)).setCell (p := ⟨bq, 1, none⟩) hge (.int .i64 Gd)
       go_wp2
       refine onQ_last ?_
       refine z_end 16 rfl (by kernel_rfl) ?_
       simp only [zgA, zgB, zgC]
       go_wp2
       refine onQ_last ?_
       refine z_done (by kernel_rfl) ?_
       exact cut1y_is bq ⟨HE2, hge, Q2⟩ rfl
     ·rintro bq w5 ⟨HC, hge, Q⟩
      by_cases hGe : Ge = 0
      ·subst hGe
       have h0 := HT'.out
       rw [if_neg (by decide)] at h0
       have HT2 := Lib.hid h0
       clear h0 HT' ND
       have hb5' : b5 ≠ bq := by have := B5.lt; omega
       obtain ⟨k0, k1⟩ := (B5.ext HC).c2
       have lk := (B5.ext HC).lt
       obtain ⟨q0, q1⟩ := Q.c2
       have lq := Q.lt
       go_upto_region 16 with (go_at_call 85; (with_reducible refine Calls.mono (NAD _) ?_); rintro e w6 ⟨rfl, h6⟩; have H5 := (B5.ext HC).ext h6; clear k0 k1 lk; obtain ⟨k0, k1⟩ := H5.c2; have lk := H5.lt; have f0 := H5.frozen 0; have f1 := H5.frozen 1)
       have H6 := held_two H5 (.int .i64 Sn) (.int .i64 Sd)
       have E6 := ((hE.trans (HC.trans h6)).setCell (p := ⟨b5, 0, none⟩) hb5 (.int .i64 Sn)).setCell (p := ⟨b5, 1, none⟩) hb5 (.int .i64 Sd)
       clear k0 k1 lk f0 f1 H5
       generalize (World.setCell w6 _ _).setCell _ _ = w7 at *
       by_cases hSe : Se = 0
       ·subst hSe
        have h0 := HT2.out
        rw [if_neg (by decide)] at h0
        have HT3 := Lib.hid h0
        clear h0 HT2
        go_wp2
        exact ⟨⟨j + 1, by omega, by go_num, ⟨Sn, Sd⟩, hSin, E6, H6, HT3⟩, by simp [intOf]; omega⟩
       ·have hr := HT2.out
        rw [if_pos hSe] at hr
        subst hr
        have gS : (Se == 0) = false := beq_eq_false_iff_ne.2 hSe
        have gSn : (Se != 0) = true := by rw [bne, gS]; rfl
        clear hSe HT2 hin
        replace E := E.trans E6
        replace B2 := B2.ext E6
        have f0 := B2.frozen 0
        have f1 := B2.frozen 1
        obtain ⟨x0, x1⟩ := B2.c2
        have lx := B2.lt
        have H4 := held_two B2 (.int .i64 0) (.int .i64 0)
        have EF := (E.setCell (p := ⟨b1, 0, none⟩) hbr (.int .i64 0)).setCell (p := ⟨b1, 1, none⟩) hbr (.int .i64 0)
        obtain ⟨y0, y1⟩ := H4.c2
        go_wp2
        refine bodyPost_ret (v := .tuple #[.agg #[.int .i64 0, .int .i64 0], .int .i64 Se]) (by simp [results, Tryz.results35, go_sem, y0, y1]) rfl ⟨rfl, EF⟩
      ·have hr := HT'.out
       rw [if_pos hGe] at hr
       subst hr
       have gG : (Ge == 0) = false := beq_eq_false_iff_ne.2 hGe
       have gGn : (Ge != 0) = true := by rw [bne, gG]; rfl
       clear hGe HT' hin
       replace E := (E.trans hE).trans HC
       replace B2 := (B2.ext hE).ext HC
       have f0 := B2.frozen 0
       have f1 := B2.frozen 1
       obtain ⟨x0, x1⟩ := B2.c2
       have lx := B2.lt
       have H4 := held_two B2 (.int .i64 0) (.int .i64 0)
       have EF := (E.setCell (p := ⟨b1, 0, none⟩) hbr (.int .i64 0)).setCell (p := ⟨b1, 1, none⟩) hbr (.int .i64 0)
       obtain ⟨y0, y1⟩ := H4.c2
       go_wp2
       refine bodyPost_ret (v := .tuple #[.agg #[.int .i64 0, .int .i64 0], .int .i64 Ge]) (by simp [results, Tryz.results35, go_sem, y0, y1]) rfl ⟨rfl, EF⟩
    ·obtain rfl : j = k := by omega
     have hr : R = (s, 0) := by rw [HT.out, Nat.sub_self]; rfl
     subst hr
     clear HT hin RT
     replace E := E.trans hE
     replace B2 := B2.ext hE
     obtain ⟨k0, k1⟩ := B5.c2
     have lk := B5.lt
     have f0 := B2.frozen 0
     have f1 := B2.frozen 1
     obtain ⟨x0, x1⟩ := B2.c2
     have lx := B2.lt
     have H4 := held_two B2 (.int .i64 s.n) (.int .i64 s.d)
     have EF := (E.setCell (p := ⟨b1, 0, none⟩) hbr (.int .i64 s.n)).setCell (p := ⟨b1, 1, none⟩) hbr (.int .i64 s.d)
     obtain ⟨y0, y1⟩ := H4.c2
     go_wp2
     refine bodyPost_ret (v := .tuple #[.agg #[.int .i64 s.n, .int .i64 s.d], .int .i64 0]) (by simp [results, Tryz.results35, go_sem, y0, y1]) rfl ⟨rfl, EF⟩
end Go.Proofs.YthmjpbafbohelaaGreatDoor
namespace Go.Proofs.YthmjpbafbohelaaGreatDoor
open Go Go.RowKit Go.Shelf
attribute [local go_sem] gv_yes
def cut2q (A : Nat → Nat → Act) (S : World → Nat → Nat → Prop) : Exit → Act → World → Prop := fun e a' w' => e = .normal ∧ ∃ p q, S w' p q ∧ a' = A p q
theorem cut2q_is {A : Nat → Nat → Act} {S : World → Nat → Nat → Prop} {w' : World} (p q : Nat) {a' : Act} (h : S w' p q) (ha : a' = A p q) : cut2q A S .normal a' w' := ⟨rfl, p, q, h, ha⟩
theorem wp_cut2q {P : Program} {c : Code} {Q : Exit → Act → World → Prop} {a : Act} {w : World} {A : Nat → Nat → Act} (S : World → Nat → Nat → Prop) (h1 : c.wp P (cut2q A S) a w) (h2 : ∀ p q w', S w' p q → Q .normal (A p q) w') : c.wp P Q a w :=
 Code.wp_mono (fun e a' w' ⟨he, p, q, hs, ha⟩ => by subst he; subst ha; exact h2 p q w' hs) h1
def Cal.availX (c : Cal) (f : Nat → Cw) (n : Nat) : Rt × Int := if c.valid then c.availV f n else (rat0, 70)
set_option maxRecDepth 100000 in
set_option maxHeartbeats 4000000 in
theorem availableR_any (A A' : Option Addr) (ca cb : Nat) (c : Cal) (T : Option Addr) (n cap : Nat) (f : Nat → Cw) (w : World) (hC : CalAt w A ca A' cb c) (hin : ∀ i, i < n → (f i).s.In ∧ -9223372036854775808 ≤ (f i).w ∧ (f i).w ≤ 9223372036854775807) (hT : RowsAt w T n 11 (crewr f)) (hn : n ≤ 9223372036854775807) :
    Calls Tryz.prog 37 #[.agg #[.slice A c.nk ca, .slice A' c.ny cb], .slice T n cap] w fun e w' => e = .returned (.tuple #[.agg #[.int .i64 (c.availX f n).1.n, .int .i64 (c.availX f n).1.d], .int .i64 (c.availX f n).2]) ∧ Ext w w' := by
  have NV := fun v (h : CalAt v A ca A' cb c) => validR_any A A' ca cb c v h
  obtain ⟨R, hR0⟩ : ∃ R, R = c.availX f n := ⟨_, rfl⟩
  rw [← hR0]
  unfold Cal.availX at hR0
  have HR := Lib.hid hR0
  clear hR0
  go_enter Tryz.func37, Tryz.ntmps37
  go_upto_region 1 with (fail)
  obtain ⟨v, hv⟩ : ∃ v, v = ((w.alloc (.cells #[.slice A c.nk ca, .slice A' c.ny cb] 34)).alloc (.cells #[.int .i64 0, .int .i64 0] 23)) := ⟨_, rfl⟩
  rw [← hv]
  have E : Ext w v := by rw [hv]; exact ((Ext.refl _).alloc _).alloc _
  have B1 : Held v w.heap.size 34 #[.slice A c.nk ca, .slice A' c.ny cb] := by rw [hv]; exact (Held.new _ _ _).alloc _
  have B2 : Held v (w.heap.size + 1) 23 #[.int .i64 0, .int .i64 0] := by rw [hv]; exact Held.at _ _ _ _ (by simp)
  clear hv
  obtain ⟨b2, hb2⟩ : ∃ b, b = w.heap.size + 1 := ⟨_, rfl⟩
  rw [← hb2] at B2 ⊢
  obtain ⟨b1, hb1⟩ : ∃ b, b = w.heap.size := ⟨_, rfl⟩
  rw [← hb1] at B1 ⊢
  have hbr : w.heap.size ≤ b2 := by omega
  have hbr1 : w.heap.size ≤ b1 := by omega
  have hn21 : b2 ≠ b1 := by omega
  clear hb1 hb2
  have RT := hT.ext E
  have C := hC.ext E
  clear hT hC
  obtain ⟨k0, k1⟩ := B1.c2
  have kl := B1.lt
  cases hv : c.valid
  · have hr := HR.out
    rw [hv] at hr
    simp only [Bool.false_eq_true, if_false] at hr
    subst hr
    simp only [hv] at NV
    clear HR hv
    go_upto_region 2 with (go_at_call 67; (with_reducible refine Calls.mono (NV _ C) ?_); rintro e w1 ⟨rfl, h1⟩; replace E := E.trans h1; replace C := C.ext h1; replace B1 := B1.ext h1; clear k0 k1 kl; obtain ⟨k0, k1⟩ := B1.c2; have kl := B1.lt; replace B2 := B2.ext h1; clear h1)
    have f0 := B2.frozen 0
    have f1 := B2.frozen 1
    obtain ⟨x0, x1⟩ := B2.c2
    have lx := B2.lt
    have H4 := held_two B2 (.int .i64 0) (.int .i64 0)
    have EF := (E.setCell (p := ⟨b2, 0, none⟩) hbr (.int .i64 0)).setCell (p := ⟨b2, 1, none⟩) hbr (.int .i64 0)
    obtain ⟨y0, y1⟩ := H4.c2
    go_wp2
    refine bodyPost_ret (v := .tuple #[.agg #[.int .i64 0, .int .i64 0], .int .i64 70]) (by simp [results, Tryz.results37, go_sem, y0, y1]) rfl ⟨rfl, EF⟩
  simp only [hv] at NV
  have hr := HR.out
  rw [hv, if_pos rfl] at hr
  unfold Cal.availV at hr
  replace HR := Lib.hid hr
  clear hr
  by_cases h64 : 64 < n
  · have hr := HR.out
    rw [if_pos h64] at hr
    have g1 : decide (64 < n) = true := decide_eq_true h64
    subst hr
    clear HR
    go_upto_region 4 with (go_at_call 67; (with_reducible refine Calls.mono (NV _ C) ?_); rintro e w1 ⟨rfl, h1⟩; replace E := E.trans h1; replace C := C.ext h1; replace B1 := B1.ext h1; clear k0 k1 kl; obtain ⟨k0, k1⟩ := B1.c2; have kl := B1.lt; replace B2 := B2.ext h1; clear h1)
    have f0 := B2.frozen 0
    have f1 := B2.frozen 1
    obtain ⟨x0, x1⟩ := B2.c2
    have lx := B2.lt
    have H4 := held_two B2 (.int .i64 0) (.int .i64 0)
    have EF := (E.setCell (p := ⟨b2, 0, none⟩) hbr (.int .i64 0)).setCell (p := ⟨b2, 1, none⟩) hbr (.int .i64 0)
    obtain ⟨y0, y1⟩ := H4.c2
    go_wp2
    refine bodyPost_ret (v := .tuple #[.agg #[.int .i64 0, .int .i64 0], .int .i64 3]) (by simp [results, Tryz.results37, go_sem, y0, y1]) rfl ⟨rfl, EF⟩
  have g1 : decide (64 < n) = false := decide_eq_false h64
  have hr := HR.out
  rw [if_neg h64] at hr
  replace HR := Lib.hid hr
  clear hr
  go_upto_region 6 with (go_at_call 67; (with_reducible refine Calls.mono (NV _ C) ?_); rintro e v9 ⟨rfl, h1⟩; replace E := E.trans h1; replace C := C.ext h1; replace B1 := B1.ext h1; clear k0 k1 kl; obtain ⟨k0, k1⟩ := B1.c2; have kl := B1.lt; replace B2 := B2.ext h1; replace RT := RT.ext h1; clear h1)
  clear k0 k1 kl NV
  go_loopw [6] (fun i wr => ∃ k : Nat, k ≤ n ∧ i = .int .i64 k ∧ Hid (∀ j, j < k → c.crewOk (f j) = true) ∧ Ext v9 wr) (fun i _ => n - (intOf i).toNat)
  case atStart => exact ⟨0, Nat.zero_le _, rfl, (fun j h => absurd h (by omega)), Ext.refl _⟩
  case round =>
    obtain ⟨k, hk, rfl, hall, hE⟩ := hrel
    obtain ⟨wo, rfl⟩ : ∃ wo : World, wo = wr := ⟨_, rfl⟩
    by_cases hlt : k < n
    · obtain ⟨b, off, rfl, hb, hc⟩ := (RT.ext hE) (by omega)
      have c0 : wo.cell? ⟨b, off + k * 11, none⟩ = some (.int .i64 (f k).w) := by simpa [crewr] using hc k 0 _ hlt rfl
      have c1 : wo.cell? ⟨b, off + k * 11 + 1, none⟩ = some (.int .i64 (f k).s.n) := by simpa [crewr] using hc k 1 _ hlt rfl
      have c2 : wo.cell? ⟨b, off + k * 11 + 2, none⟩ = some (.int .i64 (f k).s.d) := by simpa [crewr] using hc k 2 _ hlt rfl
      have c3 : wo.cell? ⟨b, off + k * 11 + 3, none⟩ = some (.int .i64 (f k).f.y) := by simpa [crewr] using hc k 3 _ hlt rfl
      have c4 : wo.cell? ⟨b, off + k * 11 + 4, none⟩ = some (.int .i64 (f k).f.m) := by simpa [crewr] using hc k 4 _ hlt rfl
      have c5 : wo.cell? ⟨b, off + k * 11 + 5, none⟩ = some (.bool (f k).f.s) := by simpa [crewr] using hc k 5 _ hlt rfl
      have c6 : wo.cell? ⟨b, off + k * 11 + 6, none⟩ = some (.int .i64 (f k).f.d) := by simpa [crewr] using hc k 6 _ hlt rfl
      have c7 : wo.cell? ⟨b, off + k * 11 + 7, none⟩ = some (.int .i64 (f k).t.y) := by simpa [crewr] using hc k 7 _ hlt rfl
      have c8 : wo.cell? ⟨b, off + k * 11 + 8, none⟩ = some (.int .i64 (f k).t.m) := by simpa [crewr] using hc k 8 _ hlt rfl
      have c9 : wo.cell? ⟨b, off + k * 11 + 9, none⟩ = some (.bool (f k).t.s) := by simpa [crewr] using hc k 9 _ hlt rfl
      have c10 : wo.cell? ⟨b, off + k * 11 + 10, none⟩ = some (.int .i64 (f k).t.d) := by simpa [crewr] using hc k 10 _ hlt rfl
      obtain ⟨is, iw1, iw2⟩ := hin k hlt
      have NRT := fun w => rate_any (f k).s is w
      have NIN := fun v h => inOrderR_any A A' ca cb c (f k).f (f k).t v h hv
      have hno : Hid (c.crewOk (f k) = false → R = (rat0, 81)) := fun h => by
        rw [HR.out, if_neg (by rw [Bool.not_eq_true]; exact List.all_eq_false.2 ⟨k, by simpa using hlt, by simp [h]⟩)]
      have hyes : Hid (c.crewOk (f k) = true → ∀ j, j < k + 1 → c.crewOk (f j) = true) := fun h j hj => by
        by_cases e : j = k
        · subst e; exact h
        · exact hall.out j (by omega)
      have htk : Hid (c.crewOk (f k) = (decide (0 ≤ (f k).w) && decide ((f k).w ≤ 4096) && (f k).s.shr && (decide (0 < c.numV (f k).f) && decide (c.numV (f k).f ≤ c.numV (f k).t)))) := rfl
      replace C := C.ext hE
      obtain ⟨k0, k1⟩ := (B1.ext hE).c2
      have kl := (B1.ext hE).lt
      clear hc hin RT hall HR h64 hv
      generalize hsp : (decide (0 < c.numV (f k).f) && decide (c.numV (f k).f ≤ c.numV (f k).t)) = sp at *
      generalize hsr : (f k).s.shr = sr at *
      clear hsp hsr
      by_cases hw1 : (f k).w < 0
      · have g2 : decide ((f k).w < 0) = true := decide_eq_true hw1
        have hr := hno.out (by rw [htk.out]; simp; intros; omega)
        subst hr
        clear hno hyes htk
        go_upto_region 8 with (fail)
        refine wp_region_xw wo mixed (by kernel_rfl) (by repeat (first | exact Ext.refl _ | (refine Ext.alloc ?_ _) | (refine Ext.trans ?_ (by assumption)))) ?_
        intro hne hrx hry
        try simp only []
        try simp only [List.append_eq, List.cons_append, List.nil_append]
        skip
        repeat (first
          | go_big_quiet_skip
          | (go_big_quiet_want; go_big_quiet_op; go_big_quiet_on)
          | (go_big_quiet_want; go_big_quiet_op; apply Exists.intro; refine ⟨fun u => ?_, ?_⟩
             · first
                 | (go_at_call 83; (with_reducible refine Calls.mono (NRT _) ?_); rintro e w' ⟨rfl, hb⟩; exact ⟨rfl, u.back hb⟩)
                 | (go_at_call 68; (with_reducible refine Calls.mono (NIN _ (C.ext u.e)) ?_); rintro e w' ⟨rfl, hb⟩; exact ⟨rfl, u.back hb⟩)
             go_big_quiet_on))
        clear hne hry hrx
        refine wpQuiet_nil ?_
        intro w2 h2
        obtain ⟨hcw2, hfw2, hzw2⟩ := Ext.rules h2
        try simp only [World.size_alloc] at hzw2
        obtain ⟨hcbw2, hfbw2, hzbw2⟩ := Ext.rules (show Ext wo w2 from (by repeat (first | exact Ext.refl _ | (refine Ext.alloc ?_ _) | (refine Ext.trans ?_ (by assumption)))))
        clear hcw2 hfw2
        replace hE := hE.trans h2
        clear h2 k0 k1 kl
        replace E := E.trans hE
        replace B2 := B2.ext hE
        have f0 := B2.frozen 0
        have f1 := B2.frozen 1
        obtain ⟨x0, x1⟩ := B2.c2
        have lx := B2.lt
        have H4 := held_two B2 (.int .i64 0) (.int .i64 0)
        have EF := (E.setCell (p := ⟨b2, 0, none⟩) hbr (.int .i64 0)).setCell (p := ⟨b2, 1, none⟩) hbr (.int .i64 0)
        obtain ⟨y0, y1⟩ := H4.c2
        go_wp2
        refine bodyPost_ret (v := .tuple #[.agg #[.int .i64 0, .int .i64 0], .int .i64 81]) (by simp [results, Tryz.results37, go_sem, y0, y1]) rfl ⟨rfl, EF⟩
      have g2 : decide ((f k).w < 0) = false := decide_eq_false hw1
      by_cases hw2 : 4096 < (f k).w
      · have g3 : decide (4096 < (f k).w) = true := decide_eq_true hw2
        have hr := hno.out (by rw [htk.out]; simp; intros; omega)
        subst hr
        clear hno hyes htk
        go_upto_region 8 with (fail)
        refine wp_region_xw wo mixed (by kernel_rfl) (by repeat (first | exact Ext.refl _ | (refine Ext.alloc ?_ _) | (refine Ext.trans ?_ (by assumption)))) ?_
        intro hne hrx hry
        try simp only []
        try simp only [List.append_eq, List.cons_append, List.nil_append]
        skip
        repeat (first
          | go_big_quiet_skip
          | (go_big_quiet_want; go_big_quiet_op; go_big_quiet_on)
          | (go_big_quiet_want; go_big_quiet_op; apply Exists.intro; refine ⟨fun u => ?_, ?_⟩
             · first
                 | (go_at_call 83; (with_reducible refine Calls.mono (NRT _) ?_); rintro e w' ⟨rfl, hb⟩; exact ⟨rfl, u.back hb⟩)
                 | (go_at_call 68; (with_reducible refine Calls.mono (NIN _ (C.ext u.e)) ?_); rintro e w' ⟨rfl, hb⟩; exact ⟨rfl, u.back hb⟩)
             go_big_quiet_on))
        clear hne hry hrx
        refine wpQuiet_nil ?_
        intro w2 h2
        obtain ⟨hcw2, hfw2, hzw2⟩ := Ext.rules h2
        try simp only [World.size_alloc] at hzw2
        obtain ⟨hcbw2, hfbw2, hzbw2⟩ := Ext.rules (show Ext wo w2 from (by repeat (first | exact Ext.refl _ | (refine Ext.alloc ?_ _) | (refine Ext.trans ?_ (by assumption)))))
        clear hcw2 hfw2
        replace hE := hE.trans h2
        clear h2 k0 k1 kl
        replace E := E.trans hE
        replace B2 := B2.ext hE
        have f0 := B2.frozen 0
        have f1 := B2.frozen 1
        obtain ⟨x0, x1⟩ := B2.c2
        have lx := B2.lt
        have H4 := held_two B2 (.int .i64 0) (.int .i64 0)
        have EF := (E.setCell (p := ⟨b2, 0, none⟩) hbr (.int .i64 0)).setCell (p := ⟨b2, 1, none⟩) hbr (.int .i64 0)
        obtain ⟨y0, y1⟩ := H4.c2
        go_wp2
        refine bodyPost_ret (v := .tuple #[.agg #[.int .i64 0, .int .i64 0], .int .i64 81]) (by simp [results, Tryz.results37, go_sem, y0, y1]) rfl ⟨rfl, EF⟩
      have g3 : decide (4096 < (f k).w) = false := decide_eq_false hw2
      cases sr
      · skip
        have hr := hno.out (by rw [htk.out]; simp)
        subst hr
        clear hno hyes htk
        go_upto_region 8 with (fail)
        refine wp_region_xw wo mixed (by kernel_rfl) (by repeat (first | exact Ext.refl _ | (refine Ext.alloc ?_ _) | (refine Ext.trans ?_ (by assumption)))) ?_
        intro hne hrx hry
        try simp only []
        try simp only [List.append_eq, List.cons_append, List.nil_append]
        skip
        repeat (first
          | go_big_quiet_skip
          | (go_big_quiet_want; go_big_quiet_op; go_big_quiet_on)
          | (go_big_quiet_want; go_big_quiet_op; apply Exists.intro; refine ⟨fun u => ?_, ?_⟩
             · first
                 | (go_at_call 83; (with_reducible refine Calls.mono (NRT _) ?_); rintro e w' ⟨rfl, hb⟩; exact ⟨rfl, u.back hb⟩)
                 | (go_at_call 68; (with_reducible refine Calls.mono (NIN _ (C.ext u.e)) ?_); rintro e w' ⟨rfl, hb⟩; exact ⟨rfl, u.back hb⟩)
             go_big_quiet_on))
        clear hne hry hrx
        refine wpQuiet_nil ?_
        intro w2 h2
        obtain ⟨hcw2, hfw2, hzw2⟩ := Ext.rules h2
        try simp only [World.size_alloc] at hzw2
        obtain ⟨hcbw2, hfbw2, hzbw2⟩ := Ext.rules (show Ext wo w2 from (by repeat (first | exact Ext.refl _ | (refine Ext.alloc ?_ _) | (refine Ext.trans ?_ (by assumption)))))
        clear hcw2 hfw2
        replace hE := hE.trans h2
        clear h2 k0 k1 kl
        replace E := E.trans hE
        replace B2 := B2.ext hE
        have f0 := B2.frozen 0
        have f1 := B2.frozen 1
        obtain ⟨x0, x1⟩ := B2.c2
        have lx := B2.lt
        have H4 := held_two B2 (.int .i64 0) (.int .i64 0)
        have EF := (E.setCell (p := ⟨b2, 0, none⟩) hbr (.int .i64 0)).setCell (p := ⟨b2, 1, none⟩) hbr (.int .i64 0)
        obtain ⟨y0, y1⟩ := H4.c2
        go_wp2
        refine bodyPost_ret (v := .tuple #[.agg #[.int .i64 0, .int .i64 0], .int .i64 81]) (by simp [results, Tryz.results37, go_sem, y0, y1]) rfl ⟨rfl, EF⟩
      cases sp
      · skip
        have hr := hno.out (by rw [htk.out]; simp)
        subst hr
        clear hno hyes htk
        go_upto_region 8 with (fail)
        refine wp_region_xw wo mixed (by kernel_rfl) (by repeat (first | exact Ext.refl _ | (refine Ext.alloc ?_ _) | (refine Ext.trans ?_ (by assumption)))) ?_
        intro hne hrx hry
        try simp only []
        try simp only [List.append_eq, List.cons_append, List.nil_append]
        skip
        repeat (first
          | go_big_quiet_skip
          | (go_big_quiet_want; go_big_quiet_op; go_big_quiet_on)
          | (go_big_quiet_want; go_big_quiet_op; apply Exists.intro; refine ⟨fun u => ?_, ?_⟩
             · first
                 | (go_at_call 83; (with_reducible refine Calls.mono (NRT _) ?_); rintro e w' ⟨rfl, hb⟩; exact ⟨rfl, u.back hb⟩)
                 | (go_at_call 68; (with_reducible refine Calls.mono (NIN _ (C.ext u.e)) ?_); rintro e w' ⟨rfl, hb⟩; exact ⟨rfl, u.back hb⟩)
             go_big_quiet_on))
        clear hne hry hrx
        refine wpQuiet_nil ?_
        intro w2 h2
        obtain ⟨hcw2, hfw2, hzw2⟩ := Ext.rules h2
        try simp only [World.size_alloc] at hzw2
        obtain ⟨hcbw2, hfbw2, hzbw2⟩ := Ext.rules (show Ext wo w2 from (by repeat (first | exact Ext.refl _ | (refine Ext.alloc ?_ _) | (refine Ext.trans ?_ (by assumption)))))
        clear hcw2 hfw2
        replace hE := hE.trans h2
        clear h2 k0 k1 kl
        replace E := E.trans hE
        replace B2 := B2.ext hE
        have f0 := B2.frozen 0
        have f1 := B2.frozen 1
        obtain ⟨x0, x1⟩ := B2.c2
        have lx := B2.lt
        have H4 := held_two B2 (.int .i64 0) (.int .i64 0)
        have EF := (E.setCell (p := ⟨b2, 0, none⟩) hbr (.int .i64 0)).setCell (p := ⟨b2, 1, none⟩) hbr (.int .i64 0)
        obtain ⟨y0, y1⟩ := H4.c2
        go_wp2
        refine bodyPost_ret (v := .tuple #[.agg #[.int .i64 0, .int .i64 0], .int .i64 81]) (by simp [results, Tryz.results37, go_sem, y0, y1]) rfl ⟨rfl, EF⟩
      have hall := Lib.hid (hyes.out (by rw [htk.out]; simp; omega))
      clear hno hyes htk B2
      go_upto_region 8 with (fail)
      refine wp_region_xw wo mixed (by kernel_rfl) (by repeat (first | exact Ext.refl _ | (refine Ext.alloc ?_ _) | (refine Ext.trans ?_ (by assumption)))) ?_
      intro hne hrx hry
      try simp only []
      try simp only [List.append_eq, List.cons_append, List.nil_append]
      skip
      repeat (first
        | go_big_quiet_skip
        | (go_big_quiet_want; go_big_quiet_op; go_big_quiet_on)
        | (go_big_quiet_want; go_big_quiet_op; apply Exists.intro; refine ⟨fun u => ?_, ?_⟩
           · first
               | (go_at_call 83; (with_reducible refine Calls.mono (NRT _) ?_); rintro e w' ⟨rfl, hb⟩; exact ⟨rfl, u.back hb⟩)
               | (go_at_call 68; (with_reducible refine Calls.mono (NIN _ (C.ext u.e)) ?_); rintro e w' ⟨rfl, hb⟩; exact ⟨rfl, u.back hb⟩)
           go_big_quiet_on))
      clear hne hry hrx
      refine wpQuiet_nil ?_
      intro w2 h2
      obtain ⟨hcw2, hfw2, hzw2⟩ := Ext.rules h2
      try simp only [World.size_alloc] at hzw2
      obtain ⟨hcbw2, hfbw2, hzbw2⟩ := Ext.rules (show Ext wo w2 from (by repeat (first | exact Ext.refl _ | (refine Ext.alloc ?_ _) | (refine Ext.trans ?_ (by assumption)))))
      clear hcw2 hfw2
      go_wp2
      exact ⟨⟨k + 1, by omega, by go_num, hall, hE.trans h2⟩, by simp [intOf]; omega⟩
    · obtain rfl : k = n := by omega
      have hr := HR.out
      rw [if_pos (List.all_eq_true.2 fun i hi => hall.out i (List.mem_range.1 hi))] at hr
      have HT : Hid (R = totR (fun i => prodV (fact3 c (f i)) 3) 0 (k - 0) (ratW 0)) := hr
      clear hr HR hall h64
      replace E := E.trans hE
      replace B1 := B1.ext hE
      replace B2 := B2.ext hE
      replace RT := RT.ext hE
      replace C := C.ext hE
      clear hE
      go_upto_region 11 with (go_at_call 53; (with_reducible refine Calls.mono (wholeR_any 0 _) ?_); rintro e w4 ⟨rfl, h1⟩; replace E := E.trans h1; replace B1 := B1.ext h1; replace B2 := B2.ext h1; replace RT := RT.ext h1; replace C := C.ext h1; clear h1)
      obtain ⟨v5, hv⟩ : ∃ x, x = (w4.alloc (.cells #[.int .i64 0, .int .i64 1] 23)) := ⟨_, rfl⟩
      rw [← hv]
      have hx : Ext w4 v5 := by rw [hv]; exact (Ext.refl _).alloc _
      have B5 : Held v5 w4.heap.size 23 #[.int .i64 0, .int .i64 1] := by rw [hv]; exact Held.new _ _ _
      clear hv
      obtain ⟨b5, hb50⟩ : ∃ b, b = w4.heap.size := ⟨_, rfl⟩
      rw [← hb50] at B5 ⊢
      have hb5 : w4.heap.size ≤ b5 := by omega
      clear hb50
      go_upto_region 12 with (fail)
      go_loopw [8] (fun i wr => ∃ j : Nat, j ≤ k ∧ i = .int .i64 j ∧ ∃ s : Rt, s.In ∧ Ext w4 wr ∧ Held wr b5 23 #[.int .i64 s.n, .int .i64 s.d] ∧ Hid (R = totR (fun i => prodV (fact3 c (f i)) 3) j (k - j) s)) (fun i _ => k - (intOf i).toNat)
      case atStart => exact ⟨0, Nat.zero_le _, rfl, ratW 0, (by unfold Rt.In ratW; decide), hx, B5, HT⟩
      case round =>
        clear HT hx B5
        obtain ⟨j, hj, rfl, s, hs, hE, B5, HT⟩ := hrel
        obtain ⟨wo, rfl⟩ : ∃ w' : World, w' = wr := ⟨_, rfl⟩
        by_cases hltj : j < k
        · obtain ⟨b, off, rfl, hb, hc⟩ := (RT.ext hE) (by omega)
          have c0 : wo.cell? ⟨b, off + j * 11, none⟩ = some (.int .i64 (f j).w) := by simpa [crewr] using hc j 0 _ hltj rfl
          have c1 : wo.cell? ⟨b, off + j * 11 + 1, none⟩ = some (.int .i64 (f j).s.n) := by simpa [crewr] using hc j 1 _ hltj rfl
          have c2 : wo.cell? ⟨b, off + j * 11 + 2, none⟩ = some (.int .i64 (f j).s.d) := by simpa [crewr] using hc j 2 _ hltj rfl
          have c3 : wo.cell? ⟨b, off + j * 11 + 3, none⟩ = some (.int .i64 (f j).f.y) := by simpa [crewr] using hc j 3 _ hltj rfl
          have c4 : wo.cell? ⟨b, off + j * 11 + 4, none⟩ = some (.int .i64 (f j).f.m) := by simpa [crewr] using hc j 4 _ hltj rfl
          have c5 : wo.cell? ⟨b, off + j * 11 + 5, none⟩ = some (.bool (f j).f.s) := by simpa [crewr] using hc j 5 _ hltj rfl
          have c6 : wo.cell? ⟨b, off + j * 11 + 6, none⟩ = some (.int .i64 (f j).f.d) := by simpa [crewr] using hc j 6 _ hltj rfl
          have c7 : wo.cell? ⟨b, off + j * 11 + 7, none⟩ = some (.int .i64 (f j).t.y) := by simpa [crewr] using hc j 7 _ hltj rfl
          have c8 : wo.cell? ⟨b, off + j * 11 + 8, none⟩ = some (.int .i64 (f j).t.m) := by simpa [crewr] using hc j 8 _ hltj rfl
          have c9 : wo.cell? ⟨b, off + j * 11 + 9, none⟩ = some (.bool (f j).t.s) := by simpa [crewr] using hc j 9 _ hltj rfl
          have c10 : wo.cell? ⟨b, off + j * 11 + 10, none⟩ = some (.int .i64 (f j).t.d) := by simpa [crewr] using hc j 10 _ hltj rfl
          clear hc
          obtain ⟨is, iw1, iw2⟩ := hin j hltj
          have hsm := sch_small c (f j).f (f j).t
          have NSC := fun v h => scheme_any_r A A' ca cb c (f j).f (f j).t v h
          have NPR := fun w b h => productF_any (some ⟨b, 0, none⟩) 3 3 (fact3 c (f j)) w h (by decide) (fact3_in is iw1 iw2 hsm)
          have hGin := prodV_in (fact3 c (f j)) 3
          obtain ⟨m, hm⟩ : ∃ m, k - j = m + 1 := ⟨k - j - 1, by omega⟩
          have hm2 : k - (j + 1) = m := by omega
          have HT' : Hid (R = if (prodV (fact3 c (f j)) 3).2 ≠ 0 then (rat0, (prodV (fact3 c (f j)) 3).2) else if (addR s (prodV (fact3 c (f j)) 3).1).2 ≠ 0 then (rat0, (addR s (prodV (fact3 c (f j)) 3).1).2) else totR (fun i => prodV (fact3 c (f i)) 3) (j + 1) (k - (j + 1)) (addR s (prodV (fact3 c (f j)) 3).1).1) := by
            rw [hm2]
            unfold Hid
            rw [HT.out, hm]; rfl
          clear HT hm hm2
          generalize prodV (fact3 c (f j)) 3 = G at *
          obtain ⟨⟨Gn, Gd⟩, Ge⟩ := G
          have NAD := fun w => addFR_any s ⟨Gn, Gd⟩ hs hGin w
          have hSin := addR_in s ⟨Gn, Gd⟩
          simp only at NPR HT'
          generalize addR s ⟨Gn, Gd⟩ = S at *
          obtain ⟨⟨Sn, Sd⟩, Se⟩ := S
          simp only at NAD HT'
          have hwr : IntKind.i64.wrap (c.schV (f j).f (f j).t + 1) = c.schV (f j).f (f j).t + 1 := wrap64 (by omega) (by omega)
          have C := C.ext hE
          have hBk := B1.ext hE
          obtain ⟨k0, k1⟩ := hBk.c2
          have kl := hBk.lt
          go_upto_region 14 with (fail)
          refine wp_region_xw wo mixed (by kernel_rfl) (by repeat (first | exact Ext.refl _ | (refine Ext.alloc ?_ _) | (refine Ext.trans ?_ (by assumption)))) ?_
          intro hne hrx hry
          try simp only []
          try simp only [List.append_eq, List.cons_append, List.nil_append]
          skip
          repeat (first
            | go_big_quiet_skip
            | (go_big_quiet_want; go_big_quiet_op; go_big_quiet_on)
            | (go_big_quiet_want; go_big_quiet_op; apply Exists.intro; refine ⟨fun u => ?_, ?_⟩
               · first
                   | (go_at_call 69; (with_reducible refine Calls.mono (NSC _ (C.ext u.e)) ?_); rintro e w' ⟨rfl, hb⟩; exact ⟨rfl, u.back hb⟩)
               go_big_quiet_on))
          clear hne hry hrx
          refine wpQuiet_nil ?_
          intro w3 h3
          obtain ⟨hcw3, hfw3, hzw3⟩ := Ext.rules h3
          try simp only [World.size_alloc] at hzw3
          obtain ⟨hcbw3, hfbw3, hzbw3⟩ := Ext.rules (show Ext wo w3 from (by repeat (first | exact Ext.refl _ | (refine Ext.alloc ?_ _) | (refine Ext.trans ?_ (by assumption)))))
          clear hcw3 hfw3
          clear c0 c1 c2 c3 c4 c5 c6 c7 c8 c9 c10 k0 k1 kl hBk C NSC hb
          replace hE := hE.trans h3
          replace B5 := B5.ext h3
          clear h3
          obtain ⟨wj, rfl⟩ : ∃ w' : World, w' = w3 := ⟨_, rfl⟩
          go_upto_region 15 with (fail)
          apply wp_cut2q (S := fun w' b _ => Ext wj w' ∧ wj.heap.size ≤ b ∧ Held w' b 23 #[.int .i64 Gn, .int .i64 Gd])
          · refine wp_region_z 22 [17, 18, 20, 21] (fun x => Ext wj x) mixed rfl ?_
            intro vz hvz
            have HC := hvz
            refine z_stills (g := 10) [0, 1, 2, 3, 4, 6, 7, 8, 9, 10, 11, 12] [_, _, _, _, _, _, _, _, _, _, _, _] ⟨rfl, rfl, rfl, rfl, rfl, rfl, rfl, rfl, rfl, rfl, rfl, rfl, trivial⟩ (by kernel_rfl) (by kernel_rfl) HC ?_
            simp only [zgA, zgB, zgC]
            apply Exists.intro
            refine ⟨fun u hu => ?_, ?_⟩
            · obtain ⟨b', off', hTe, hb, hc⟩ := (RT.ext (hE.trans hu)) (by omega)
              obtain ⟨rfl, rfl⟩ : b = b' ∧ off = off' := by simpa using hTe
              have c0 : u.cell? ⟨b, off + j * 11, none⟩ = some (.int .i64 (f j).w) := by simpa [crewr] using hc j 0 _ hltj rfl
              have c1 : u.cell? ⟨b, off + j * 11 + 1, none⟩ = some (.int .i64 (f j).s.n) := by simpa [crewr] using hc j 1 _ hltj rfl
              have c2 : u.cell? ⟨b, off + j * 11 + 2, none⟩ = some (.int .i64 (f j).s.d) := by simpa [crewr] using hc j 2 _ hltj rfl
              clear hc
              repeat (first | go_big_quiet_skip | (go_big_quiet_want; go_big_quiet_op; go_big_quiet_on))
              refine wpQuiet_nil ?_
              rfl
            refine z_two 5 19 rfl rfl (by kernel_rfl) ?_ ?_
            · simp only [zgA, zgB, zgC]
              go_wp2_with (go_at_call 53; (with_reducible refine Calls.mono (wholeR_any _ _) ?_); rintro e va ⟨rfl, h4⟩)
              replace HC := HC.trans h4
              try replace Q := Q.ext h4
              clear h4
              refine onQ_in HC ?_
              refine z_two 13 19 rfl rfl (by kernel_rfl) ?_ ?_
              · simp only [zgA, zgB, zgC]
                go_wp2_with (go_at_call 53; (with_reducible refine Calls.mono (wholeR_any _ _) ?_); rintro e va ⟨rfl, h4⟩)
                replace HC := HC.trans h4
                try replace Q := Q.ext h4
                clear h4
                refine onQ_in HC ?_
                refine z_two 14 19 rfl rfl (by kernel_rfl) ?_ ?_
                · simp only [zgA, zgB, zgC]
                  go_wp2
                  have B5s := rows3 (c := c) (x := f j) (Held.new va 23 #[.int .i64 (f j).w, .int .i64 1, .int .i64 (f j).s.n, .int .i64 (f j).s.d, .int .i64 (c.schV (f j).f (f j).t + 1), .int .i64 1])
                  replace HC : Ext wj (va.alloc _) := HC.alloc (.cells #[.int .i64 (f j).w, .int .i64 1, .int .i64 (f j).s.n, .int .i64 (f j).s.d, .int .i64 (c.schV (f j).f (f j).t + 1), .int .i64 1] 23)
                  try replace Q := Q.alloc (.cells #[.int .i64 (f j).w, .int .i64 1, .int .i64 (f j).s.n, .int .i64 (f j).s.d, .int .i64 (c.schV (f j).f (f j).t + 1), .int .i64 1] 23)
                  generalize va.heap.size = bs at *
                  generalize World.alloc va _ = va at *
                  refine onQ_in HC ?_
                  refine z_two 15 19 rfl rfl (by kernel_rfl) ?_ ?_
                  · simp only [zgA, zgB, zgC]
                    go_wp2_with (go_at_call 52; (with_reducible refine Calls.mono (NPR _ _ B5s) ?_); rintro e va ⟨rfl, h4⟩)
                    replace HC := HC.trans h4
                    try replace Q := Q.ext h4
                    clear h4
                    refine onQ_in HC ?_
                    refine z_stills (g := 5) [16] [_] ⟨rfl, trivial⟩ (by kernel_rfl) (by kernel_rfl) HC ?_
                    simp only [zgA, zgB, zgC]
                    apply Exists.intro
                    refine ⟨fun u hu => ?_, ?_⟩
                    · obtain ⟨b', off', hTe, hb, hc⟩ := (RT.ext (hE.trans hu)) (by omega)
                      obtain ⟨rfl, rfl⟩ : b = b' ∧ off = off' := by simpa using hTe
                      have c0 : u.cell? ⟨b, off + j * 11, none⟩ = some (.int .i64 (f j).w) := by simpa [crewr] using hc j 0 _ hltj rfl
                      have c1 : u.cell? ⟨b, off + j * 11 + 1, none⟩ = some (.int .i64 (f j).s.n) := by simpa [crewr] using hc j 1 _ hltj rfl
                      have c2 : u.cell? ⟨b, off + j * 11 + 2, none⟩ = some (.int .i64 (f j).s.d) := by simpa [crewr] using hc j 2 _ hltj rfl
                      clear hc
                      repeat (first | go_big_quiet_skip | (go_big_quiet_want; go_big_quiet_op; go_big_quiet_on))
                      refine wpQuiet_nil ?_
                      rfl
                    refine z_pures (g := 3) [17, 18] [_, _] ⟨rfl, rfl, trivial⟩ (by kernel_rfl) (by kernel_rfl) ?_
                    simp only [zgA, zgB, zgC]
                    apply Exists.intro
                    refine ⟨fun u hu => ?_, ?_⟩
                    · repeat (first | go_big_quiet_skip | (go_big_quiet_want; go_big_quiet_op; go_big_quiet_on))
                      refine wpQuiet_nil ?_
                      rfl
                    refine z_one 19 rfl (by kernel_rfl) ?_
                    simp only [zgA, zgB, zgC]
                    go_wp2
                    obtain ⟨bq, hbq, Q, HC', hge⟩ := ex_new HC 23 #[.int .i64 0, .int .i64 0]
                    rw [← hbq]
                    clear hbq
                    try replace B5s := B5s.ext ((Ext.refl _).alloc (.cells #[.int .i64 0, .int .i64 0] 23))
                    replace HC := HC'
                    clear HC'
                    generalize World.alloc _ (.cells #[.int .i64 0, .int .i64 0] 23) = va at *
                    refine onQ_in HC ?_
                    refine z_end 20 rfl (by kernel_rfl) ?_
                    simp only [zgA, zgB, zgC]
                    have f0 := Q.frozen 0
                    have f1 := Q.frozen 1
                    obtain ⟨z0, z1⟩ := Q.c2
                    have lz := Q.lt
                    have Q2 := held_two Q (.int .i64 Gn) (.int .i64 Gd)
                    have HE2 := (HC.setCell (p := ⟨bq, 0, none⟩) hge (.int .i64 Gn)).setCell (p := ⟨bq, 1, none⟩) hge (.int .i64 Gd)
                    go_wp2
                    refine onQ_last ?_
                    refine z_end 21 rfl (by kernel_rfl) ?_
                    simp only [zgA, zgB, zgC]
                    go_wp2
                    refine onQ_last ?_
                    refine z_done (by kernel_rfl) ?_
                    exact cut2q_is bq bs ⟨HE2, hge, Q2⟩ rfl
                  · simp only [zgA, zgB, zgC]
                    go_wp2
                    obtain ⟨bq, hbq, Q, HC', hge⟩ := ex_new HC 23 #[.int .i64 0, .int .i64 0]
                    rw [← hbq]
                    clear hbq
                    try replace B5s := B5s.ext ((Ext.refl _).alloc (.cells #[.int .i64 0, .int .i64 0] 23))
                    replace HC := HC'
                    clear HC'
                    generalize World.alloc _ (.cells #[.int .i64 0, .int .i64 0] 23) = va at *
                    refine onQ_in HC ?_
                    refine z_one 15 rfl (by kernel_rfl) ?_
                    simp only [zgA, zgB, zgC]
                    go_wp2_with (go_at_call 52; (with_reducible refine Calls.mono (NPR _ _ B5s) ?_); rintro e va ⟨rfl, h4⟩)
                    replace HC := HC.trans h4
                    try replace Q := Q.ext h4
                    clear h4
                    refine onQ_in HC ?_
                    refine z_stills (g := 4) [16] [_] ⟨rfl, trivial⟩ (by kernel_rfl) (by kernel_rfl) HC ?_
                    simp only [zgA, zgB, zgC]
                    apply Exists.intro
                    refine ⟨fun u hu => ?_, ?_⟩
                    · obtain ⟨b', off', hTe, hb, hc⟩ := (RT.ext (hE.trans hu)) (by omega)
                      obtain ⟨rfl, rfl⟩ : b = b' ∧ off = off' := by simpa using hTe
                      have c0 : u.cell? ⟨b, off + j * 11, none⟩ = some (.int .i64 (f j).w) := by simpa [crewr] using hc j 0 _ hltj rfl
                      have c1 : u.cell? ⟨b, off + j * 11 + 1, none⟩ = some (.int .i64 (f j).s.n) := by simpa [crewr] using hc j 1 _ hltj rfl
                      have c2 : u.cell? ⟨b, off + j * 11 + 2, none⟩ = some (.int .i64 (f j).s.d) := by simpa [crewr] using hc j 2 _ hltj rfl
                      clear hc
                      repeat (first | go_big_quiet_skip | (go_big_quiet_want; go_big_quiet_op; go_big_quiet_on))
                      refine wpQuiet_nil ?_
                      rfl
                    refine z_pures (g := 2) [17, 18] [_, _] ⟨rfl, rfl, trivial⟩ (by kernel_rfl) (by kernel_rfl) ?_
                    simp only [zgA, zgB, zgC]
                    apply Exists.intro
                    refine ⟨fun u hu => ?_, ?_⟩
                    · repeat (first | go_big_quiet_skip | (go_big_quiet_want; go_big_quiet_op; go_big_quiet_on))
                      refine wpQuiet_nil ?_
                      rfl
                    refine z_end 20 rfl (by kernel_rfl) ?_
                    simp only [zgA, zgB, zgC]
                    have f0 := Q.frozen 0
                    have f1 := Q.frozen 1
                    obtain ⟨z0, z1⟩ := Q.c2
                    have lz := Q.lt
                    have Q2 := held_two Q (.int .i64 Gn) (.int .i64 Gd)
                    have HE2 := (HC.setCell (p := ⟨bq, 0, none⟩) hge (.int .i64 Gn)).setCell (p := ⟨bq, 1, none⟩) hge (.int .i64 Gd)
                    go_wp2
                    refine onQ_last ?_
                    refine z_end 21 rfl (by kernel_rfl) ?_
                    simp only [zgA, zgB, zgC]
                    go_wp2
                    refine onQ_last ?_
                    refine z_done (by kernel_rfl) ?_
                    exact cut2q_is bq bs ⟨HE2, hge, Q2⟩ rfl
                · simp only [zgA, zgB, zgC]
                  go_wp2
                  obtain ⟨bq, hbq, Q, HC', hge⟩ := ex_new HC 23 #[.int .i64 0, .int .i64 0]
                  rw [← hbq]
                  clear hbq
                  try replace B5s := B5s.ext ((Ext.refl _).alloc (.cells #[.int .i64 0, .int .i64 0] 23))
                  replace HC := HC'
                  clear HC'
                  generalize World.alloc _ (.cells #[.int .i64 0, .int .i64 0] 23) = va at *
                  refine onQ_in HC ?_
                  refine z_one 14 rfl (by kernel_rfl) ?_
                  simp only [zgA, zgB, zgC]
                  go_wp2
                  have B5s := rows3 (c := c) (x := f j) (Held.new va 23 #[.int .i64 (f j).w, .int .i64 1, .int .i64 (f j).s.n, .int .i64 (f j).s.d, .int .i64 (c.schV (f j).f (f j).t + 1), .int .i64 1])
                  replace HC : Ext wj (va.alloc _) := HC.alloc (.cells #[.int .i64 (f j).w, .int .i64 1, .int .i64 (f j).s.n, .int .i64 (f j).s.d, .int .i64 (c.schV (f j).f (f j).t + 1), .int .i64 1] 23)
                  try replace Q := Q.alloc (.cells #[.int .i64 (f j).w, .int .i64 1, .int .i64 (f j).s.n, .int .i64 (f j).s.d, .int .i64 (c.schV (f j).f (f j).t + 1), .int .i64 1] 23)
                  generalize va.heap.size = bs at *
                  generalize World.alloc va _ = va at *
                  refine onQ_in HC ?_
                  refine z_one 15 rfl (by kernel_rfl) ?_
                  simp only [zgA, zgB, zgC]
                  go_wp2_with (go_at_call 52; (with_reducible refine Calls.mono (NPR _ _ B5s) ?_); rintro e va ⟨rfl, h4⟩)
                  replace HC := HC.trans h4
                  try replace Q := Q.ext h4
                  clear h4
                  refine onQ_in HC ?_
                  refine z_stills (g := 4) [16] [_] ⟨rfl, trivial⟩ (by kernel_rfl) (by kernel_rfl) HC ?_
                  simp only [zgA, zgB, zgC]
                  apply Exists.intro
                  refine ⟨fun u hu => ?_, ?_⟩
                  · obtain ⟨b', off', hTe, hb, hc⟩ := (RT.ext (hE.trans hu)) (by omega)
                    obtain ⟨rfl, rfl⟩ : b = b' ∧ off = off' := by simpa using hTe
                    have c0 : u.cell? ⟨b, off + j * 11, none⟩ = some (.int .i64 (f j).w) := by simpa [crewr] using hc j 0 _ hltj rfl
                    have c1 : u.cell? ⟨b, off + j * 11 + 1, none⟩ = some (.int .i64 (f j).s.n) := by simpa [crewr] using hc j 1 _ hltj rfl
                    have c2 : u.cell? ⟨b, off + j * 11 + 2, none⟩ = some (.int .i64 (f j).s.d) := by simpa [crewr] using hc j 2 _ hltj rfl
                    clear hc
                    repeat (first | go_big_quiet_skip | (go_big_quiet_want; go_big_quiet_op; go_big_quiet_on))
                    refine wpQuiet_nil ?_
                    rfl
                  refine z_pures (g := 2) [17, 18] [_, _] ⟨rfl, rfl, trivial⟩ (by kernel_rfl) (by kernel_rfl) ?_
                  simp only [zgA, zgB, zgC]
                  apply Exists.intro
                  refine ⟨fun u hu => ?_, ?_⟩
                  · repeat (first | go_big_quiet_skip | (go_big_quiet_want; go_big_quiet_op; go_big_quiet_on))
                    refine wpQuiet_nil ?_
                    rfl
                  refine z_end 20 rfl (by kernel_rfl) ?_
                  simp only [zgA, zgB, zgC]
                  have f0 := Q.frozen 0
                  have f1 := Q.frozen 1
                  obtain ⟨z0, z1⟩ := Q.c2
                  have lz := Q.lt
                  have Q2 := held_two Q (.int .i64 Gn) (.int .i64 Gd)
                  have HE2 := (HC.setCell (p := ⟨bq, 0, none⟩) hge (.int .i64 Gn)).setCell (p := ⟨bq, 1, none⟩) hge (.int .i64 Gd)
                  go_wp2
                  refine onQ_last ?_
                  refine z_end 21 rfl (by kernel_rfl) ?_
                  simp only [zgA, zgB, zgC]
                  go_wp2
                  refine onQ_last ?_
                  refine z_done (by kernel_rfl) ?_
                  exact cut2q_is bq bs ⟨HE2, hge, Q2⟩ rfl
              · simp only [zgA, zgB, zgC]
                go_wp2
                obtain ⟨bq, hbq, Q, HC', hge⟩ := ex_new HC 23 #[.int .i64 0, .int .i64 0]
                rw [← hbq]
                clear hbq
                try replace B5s := B5s.ext ((Ext.refl _).alloc (.cells #[.int .i64 0, .int .i64 0] 23))
                replace HC := HC'
                clear HC'
                generalize World.alloc _ (.cells #[.int .i64 0, .int .i64 0] 23) = va at *
                refine onQ_in HC ?_
                refine z_one 13 rfl (by kernel_rfl) ?_
                simp only [zgA, zgB, zgC]
                go_wp2_with (go_at_call 53; (with_reducible refine Calls.mono (wholeR_any _ _) ?_); rintro e va ⟨rfl, h4⟩)
                replace HC := HC.trans h4
                try replace Q := Q.ext h4
                clear h4
                refine onQ_in HC ?_
                refine z_one 14 rfl (by kernel_rfl) ?_
                simp only [zgA, zgB, zgC]
                go_wp2
                have B5s := rows3 (c := c) (x := f j) (Held.new va 23 #[.int .i64 (f j).w, .int .i64 1, .int .i64 (f j).s.n, .int .i64 (f j).s.d, .int .i64 (c.schV (f j).f (f j).t + 1), .int .i64 1])
                replace HC : Ext wj (va.alloc _) := HC.alloc (.cells #[.int .i64 (f j).w, .int .i64 1, .int .i64 (f j).s.n, .int .i64 (f j).s.d, .int .i64 (c.schV (f j).f (f j).t + 1), .int .i64 1] 23)
                try replace Q := Q.alloc (.cells #[.int .i64 (f j).w, .int .i64 1, .int .i64 (f j).s.n, .int .i64 (f j).s.d, .int .i64 (c.schV (f j).f (f j).t + 1), .int .i64 1] 23)
                generalize va.heap.size = bs at *
                generalize World.alloc va _ = va at *
                refine onQ_in HC ?_
                refine z_one 15 rfl (by kernel_rfl) ?_
                simp only [zgA, zgB, zgC]
                go_wp2_with (go_at_call 52; (with_reducible refine Calls.mono (NPR _ _ B5s) ?_); rintro e va ⟨rfl, h4⟩)
                replace HC := HC.trans h4
                try replace Q := Q.ext h4
                clear h4
                refine onQ_in HC ?_
                refine z_stills (g := 4) [16] [_] ⟨rfl, trivial⟩ (by kernel_rfl) (by kernel_rfl) HC ?_
                simp only [zgA, zgB, zgC]
                apply Exists.intro
                refine ⟨fun u hu => ?_, ?_⟩
                · obtain ⟨b', off', hTe, hb, hc⟩ := (RT.ext (hE.trans hu)) (by omega)
                  obtain ⟨rfl, rfl⟩ : b = b' ∧ off = off' := by simpa using hTe
                  have c0 : u.cell? ⟨b, off + j * 11, none⟩ = some (.int .i64 (f j).w) := by simpa [crewr] using hc j 0 _ hltj rfl
                  have c1 : u.cell? ⟨b, off + j * 11 + 1, none⟩ = some (.int .i64 (f j).s.n) := by simpa [crewr] using hc j 1 _ hltj rfl
                  have c2 : u.cell? ⟨b, off + j * 11 + 2, none⟩ = some (.int .i64 (f j).s.d) := by simpa [crewr] using hc j 2 _ hltj rfl
                  clear hc
                  repeat (first | go_big_quiet_skip | (go_big_quiet_want; go_big_quiet_op; go_big_quiet_on))
                  refine wpQuiet_nil ?_
                  rfl
                refine z_pures (g := 2) [17, 18] [_, _] ⟨rfl, rfl, trivial⟩ (by kernel_rfl) (by kernel_rfl) ?_
                simp only [zgA, zgB, zgC]
                apply Exists.intro
                refine ⟨fun u hu => ?_, ?_⟩
                · repeat (first | go_big_quiet_skip | (go_big_quiet_want; go_big_quiet_op; go_big_quiet_on))
                  refine wpQuiet_nil ?_
                  rfl
                refine z_end 20 rfl (by kernel_rfl) ?_
                simp only [zgA, zgB, zgC]
                have f0 := Q.frozen 0
                have f1 := Q.frozen 1
                obtain ⟨z0, z1⟩ := Q.c2
                have lz := Q.lt
                have Q2 := held_two Q (.int .i64 Gn) (.int .i64 Gd)
                have HE2 := (HC.setCell (p := ⟨bq, 0, none⟩) hge (.int .i64 Gn)).setCell (p := ⟨bq, 1, none⟩) hge (.int .i64 Gd)
                go_wp2
                refine onQ_last ?_
                refine z_end 21 rfl (by kernel_rfl) ?_
                simp only [zgA, zgB, zgC]
                go_wp2
                refine onQ_last ?_
                refine z_done (by kernel_rfl) ?_
                exact cut2q_is bq bs ⟨HE2, hge, Q2⟩ rfl
            · simp only [zgA, zgB, zgC]
              go_wp2
              obtain ⟨bq, hbq, Q, HC', hge⟩ := ex_new HC 23 #[.int .i64 0, .int .i64 0]
              rw [← hbq]
              clear hbq
              try replace B5s := B5s.ext ((Ext.refl _).alloc (.cells #[.int .i64 0, .int .i64 0] 23))
              replace HC := HC'
              clear HC'
              generalize World.alloc _ (.cells #[.int .i64 0, .int .i64 0] 23) = va at *
              refine onQ_in HC ?_
              refine z_one 5 rfl (by kernel_rfl) ?_
              simp only [zgA, zgB, zgC]
              go_wp2_with (go_at_call 53; (with_reducible refine Calls.mono (wholeR_any _ _) ?_); rintro e va ⟨rfl, h4⟩)
              replace HC := HC.trans h4
              try replace Q := Q.ext h4
              clear h4
              refine onQ_in HC ?_
              refine z_one 13 rfl (by kernel_rfl) ?_
              simp only [zgA, zgB, zgC]
              go_wp2_with (go_at_call 53; (with_reducible refine Calls.mono (wholeR_any _ _) ?_); rintro e va ⟨rfl, h4⟩)
              replace HC := HC.trans h4
              try replace Q := Q.ext h4
              clear h4
              refine onQ_in HC ?_
              refine z_one 14 rfl (by kernel_rfl) ?_
              simp only [zgA, zgB, zgC]
              go_wp2
              have B5s := rows3 (c := c) (x := f j) (Held.new va 23 #[.int .i64 (f j).w, .int .i64 1, .int .i64 (f j).s.n, .int .i64 (f j).s.d, .int .i64 (c.schV (f j).f (f j).t + 1), .int .i64 1])
              replace HC : Ext wj (va.alloc _) := HC.alloc (.cells #[.int .i64 (f j).w, .int .i64 1, .int .i64 (f j).s.n, .int .i64 (f j).s.d, .int .i64 (c.schV (f j).f (f j).t + 1), .int .i64 1] 23)
              try replace Q := Q.alloc (.cells #[.int .i64 (f j).w, .int .i64 1, .int .i64 (f j).s.n, .int .i64 (f j).s.d, .int .i64 (c.schV (f j).f (f j).t + 1), .int .i64 1] 23)
              generalize va.heap.size = bs at *
              generalize World.alloc va _ = va at *
              refine onQ_in HC ?_
              refine z_one 15 rfl (by kernel_rfl) ?_
              simp only [zgA, zgB, zgC]
              go_wp2_with (go_at_call 52; (with_reducible refine Calls.mono (NPR _ _ B5s) ?_); rintro e va ⟨rfl, h4⟩)
              replace HC := HC.trans h4
              try replace Q := Q.ext h4
              clear h4
              refine onQ_in HC ?_
              refine z_stills (g := 4) [16] [_] ⟨rfl, trivial⟩ (by kernel_rfl) (by kernel_rfl) HC ?_
              simp only [zgA, zgB, zgC]
              apply Exists.intro
              refine ⟨fun u hu => ?_, ?_⟩
              · obtain ⟨b', off', hTe, hb, hc⟩ := (RT.ext (hE.trans hu)) (by omega)
                obtain ⟨rfl, rfl⟩ : b = b' ∧ off = off' := by simpa using hTe
                have c0 : u.cell? ⟨b, off + j * 11, none⟩ = some (.int .i64 (f j).w) := by simpa [crewr] using hc j 0 _ hltj rfl
                have c1 : u.cell? ⟨b, off + j * 11 + 1, none⟩ = some (.int .i64 (f j).s.n) := by simpa [crewr] using hc j 1 _ hltj rfl
                have c2 : u.cell? ⟨b, off + j * 11 + 2, none⟩ = some (.int .i64 (f j).s.d) := by simpa [crewr] using hc j 2 _ hltj rfl
                clear hc
                repeat (first | go_big_quiet_skip | (go_big_quiet_want; go_big_quiet_op; go_big_quiet_on))
                refine wpQuiet_nil ?_
                rfl
              refine z_pures (g := 2) [17, 18] [_, _] ⟨rfl, rfl, trivial⟩ (by kernel_rfl) (by kernel_rfl) ?_
              simp only [zgA, zgB, zgC]
              apply Exists.intro
              refine ⟨fun u hu => ?_, ?_⟩
              · repeat (first | go_big_quiet_skip | (go_big_quiet_want; go_big_quiet_op; go_big_quiet_on))
                refine wpQuiet_nil ?_
                rfl
              refine z_end 20 rfl (by kernel_rfl) ?_
              simp only [zgA, zgB, zgC]
              have f0 := Q.frozen 0
              have f1 := Q.frozen 1
              obtain ⟨z0, z1⟩ := Q.c2
              have lz := Q.lt
              have Q2 := held_two Q (.int .i64 Gn) (.int .i64 Gd)
              have HE2 := (HC.setCell (p := ⟨bq, 0, none⟩) hge (.int .i64 Gn)).setCell (p := ⟨bq, 1, none⟩) hge (.int .i64 Gd)
              go_wp2
              refine onQ_last ?_
              refine z_end 21 rfl (by kernel_rfl) ?_
              simp only [zgA, zgB, zgC]
              go_wp2
              refine onQ_last ?_
              refine z_done (by kernel_rfl) ?_
              exact cut2q_is bq bs ⟨HE2, hge, Q2⟩ rfl
          · rintro bq bs w5 ⟨HC, hge, Q⟩
            by_cases hGe : Ge = 0
            · subst hGe
              have h0 := HT'.out
              rw [if_neg (by decide)] at h0
              have HT2 := Lib.hid h0
              clear h0 HT' NPR
              have hb5' : b5 ≠ bq := by have := B5.lt; omega
              obtain ⟨k0, k1⟩ := (B5.ext HC).c2
              have lk := (B5.ext HC).lt
              obtain ⟨q0, q1⟩ := Q.c2
              have lq := Q.lt
              go_upto_region 19 with (go_at_call 85; (with_reducible refine Calls.mono (NAD _) ?_); rintro e w6 ⟨rfl, h6⟩; have H5 := (B5.ext HC).ext h6; clear k0 k1 lk; obtain ⟨k0, k1⟩ := H5.c2; have lk := H5.lt; have f0 := H5.frozen 0; have f1 := H5.frozen 1)
              have H6 := held_two H5 (.int .i64 Sn) (.int .i64 Sd)
              have E6 := ((hE.trans (HC.trans h6)).setCell (p := ⟨b5, 0, none⟩) hb5 (.int .i64 Sn)).setCell (p := ⟨b5, 1, none⟩) hb5 (.int .i64 Sd)
              clear k0 k1 lk f0 f1 H5
              generalize (World.setCell w6 _ _).setCell _ _ = w7 at *
              by_cases hSe : Se = 0
              · subst hSe
                have h0 := HT2.out
                rw [if_neg (by decide)] at h0
                have HT3 := Lib.hid h0
                clear h0 HT2
                go_wp2
                exact ⟨⟨j + 1, by omega, by go_num, ⟨Sn, Sd⟩, hSin, E6, H6, HT3⟩, by simp [intOf]; omega⟩
              · have hr := HT2.out
                rw [if_pos hSe] at hr
                subst hr
                have gS : (Se == 0) = false := beq_eq_false_iff_ne.2 hSe
                have gSn : (Se != 0) = true := by rw [bne, gS]; rfl
                clear hSe HT2 hin
                replace E := E.trans E6
                replace B2 := B2.ext E6
                have f0 := B2.frozen 0
                have f1 := B2.frozen 1
                obtain ⟨x0, x1⟩ := B2.c2
                have lx := B2.lt
                have H4 := held_two B2 (.int .i64 0) (.int .i64 0)
                have EF := (E.setCell (p := ⟨b2, 0, none⟩) hbr (.int .i64 0)).setCell (p := ⟨b2, 1, none⟩) hbr (.int .i64 0)
                obtain ⟨y0, y1⟩ := H4.c2
                go_wp2
                refine bodyPost_ret (v := .tuple #[.agg #[.int .i64 0, .int .i64 0], .int .i64 Se]) (by simp [results, Tryz.results37, go_sem, y0, y1]) rfl ⟨rfl, EF⟩
            · have hr := HT'.out
              rw [if_pos hGe] at hr
              subst hr
              have gG : (Ge == 0) = false := beq_eq_false_iff_ne.2 hGe
              have gGn : (Ge != 0) = true := by rw [bne, gG]; rfl
              clear hGe HT' hin
              replace E := (E.trans hE).trans HC
              replace B2 := (B2.ext hE).ext HC
              have f0 := B2.frozen 0
              have f1 := B2.frozen 1
              obtain ⟨x0, x1⟩ := B2.c2
              have lx := B2.lt
              have H4 := held_two B2 (.int .i64 0) (.int .i64 0)
              have EF := (E.setCell (p := ⟨b2, 0, none⟩) hbr (.int .i64 0)).setCell (p := ⟨b2, 1, none⟩) hbr (.int .i64 0)
              obtain ⟨y0, y1⟩ := H4.c2
              go_wp2
              refine bodyPost_ret (v := .tuple #[.agg #[.int .i64 0, .int .i64 0], .int .i64 Ge]) (by simp [results, Tryz.results37, go_sem, y0, y1]) rfl ⟨rfl, EF⟩
        · obtain rfl : j = k := by omega
          have hr : R = (s, 0) := by rw [HT.out, Nat.sub_self]; rfl
          subst hr
          clear HT hin RT
          replace E := E.trans hE
          replace B2 := B2.ext hE
          obtain ⟨k0, k1⟩ := B5.c2
          have lk := B5.lt
          have f0 := B2.frozen 0
          have f1 := B2.frozen 1
          obtain ⟨x0, x1⟩ := B2.c2
          have lx := B2.lt
          have H4 := held_two B2 (.int .i64 s.n) (.int .i64 s.d)
          have EF := (E.setCell (p := ⟨b2, 0, none⟩) hbr (.int .i64 s.n)).setCell (p := ⟨b2, 1, none⟩) hbr (.int .i64 s.d)
          obtain ⟨y0, y1⟩ := H4.c2
          go_wp2
          refine bodyPost_ret (v := .tuple #[.agg #[.int .i64 s.n, .int .i64 s.d], .int .i64 0]) (by simp [results, Tryz.results37, go_sem, y0, y1]) rfl ⟨rfl, EF⟩
end Go.Proofs.YthmjpbafbohelaaGreatDoor
namespace Go.Proofs.YthmjpbafbohelaaGreatDoor
end Go.Proofs.YthmjpbafbohelaaGreatDoor
namespace Go.Proofs.YthmjpbafbohelaaGreatDoor
end Go.Proofs.YthmjpbafbohelaaGreatDoor
namespace Go.Proofs.YthmjpbafbohelaaGreatDoor
open Go Go.RowKit Go.Shelf
attribute [local go_sem] gv_yes
set_option maxRecDepth 100000 in
set_option maxHeartbeats 4000000 in
theorem balanceR_any (A A' : Option Addr) (ca cb : Nat) (c : Cal) (T : Option Addr) (nt capt : Nat) (t : Nat → Tk) (S : Option Addr) (n cap : Nat) (f : Nat → Cw) (w : World) (hC : CalAt w A ca A' cb c) (hint : ∀ i, i < nt → (t i).a.In ∧ (t i).r.In) (hT : RowsAt w T nt 4 (taskr t)) (hnt : nt ≤ 9223372036854775807) (hin : ∀ i, i < n → (f i).s.In ∧ -9223372036854775808 ≤ (f i).w ∧ (f i).w ≤ 9223372036854775807) (hS : RowsAt w S n 11 (crewr f)) (hn : n ≤ 9223372036854775807) :
  Calls Tryz.prog 39 #[.agg #[.slice A c.nk ca, .slice A' c.ny cb], .slice T nt capt, .slice S n cap] w fun e w' => e = .returned (.tuple #[.agg #[.int .i64 (c.balV t nt f n).1.n, .int .i64 (c.balV t nt f n).1.d], .int .i64 (c.balV t nt f n).2]) ∧ Ext w w' := by
 have NV := fun v (h : CalAt v A ca A' cb c) => validR_any A A' ca cb c v h
 have NN := fun v h => neededR_any T nt capt t v hint h hnt
 have NA := fun v h1 h2 => availableR_any A A' ca cb c S n cap f v h1 hin h2 hn
 obtain ⟨R, hR0⟩ : ∃ R, R = c.balV t nt f n := ⟨_, rfl⟩
 rw [← hR0]
 unfold Cal.balV at hR0
 have HR := Lib.hid hR0
 clear hR0
 go_enter Tryz.func39, Tryz.ntmps39
 go_upto_region 1 with (fail)
 obtain ⟨v, hv⟩ : ∃ v, v = ((w.alloc (.cells #[.slice A c.nk ca, .slice A' c.ny cb] 34)).alloc (.cells #[.int .i64 0, .int .i64 0] 23)) := ⟨_, rfl⟩
 rw [← hv]
 have E : Ext w v := by rw [hv]; exact ((Ext.refl _).alloc _).alloc _
 have B1 : Held v w.heap.size 34 #[.slice A c.nk ca, .slice A' c.ny cb] := by rw [hv]; exact (Held.new _ _ _).alloc _
 have B2 : Held v (w.heap.size + 1) 23 #[.int .i64 0, .int .i64 0] := by rw [hv]; exact Held.at _ _ _ _ (by simp)
 clear hv
 obtain ⟨b2, hb2⟩ : ∃ b, b = w.heap.size + 1 := ⟨_, rfl⟩
 rw [← hb2] at B2 ⊢
 obtain ⟨b1, hb1⟩ : ∃ b, b = w.heap.size := ⟨_, rfl⟩
 rw [← hb1] at B1 ⊢
 have hbr : w.heap.size ≤ b2 := by omega
 have hbr1 : w.heap.size ≤ b1 := by omega
 have hn21 : b2 ≠ b1 := by omega
 clear hb1 hb2
 have C := hC.ext E
 have RT := hT.ext E
 have RS := hS.ext E
 clear hC hT hS
 obtain ⟨k0, k1⟩ := B1.c2
 have kl := B1.lt
 obtain ⟨r0, r1⟩ := B2.c2
 have rl := B2.lt
 cases hv : c.valid
 ·have hr := HR.out
  rw [hv] at hr
  simp only [Bool.not_false, if_true] at hr
  subst hr
  simp only [hv] at NV
  clear HR hv NN NA
  go_upto_region 2 with (go_at_call 67; (with_reducible refine Calls.mono (NV _ C) ?_); rintro e w1 ⟨rfl, hx⟩; replace E := E.trans hx; replace C := C.ext hx; replace RT := RT.ext hx; replace RS := RS.ext hx; replace B1 := B1.ext hx; replace B2 := B2.ext hx; clear hx; clear k0 k1 kl r0 r1 rl; obtain ⟨k0, k1⟩ := B1.c2; have kl := B1.lt; obtain ⟨r0, r1⟩ := B2.c2; have rl := B2.lt)
  have f0 := B2.frozen 0
  have f1 := B2.frozen 1
  obtain ⟨x0, x1⟩ := B2.c2
  have lx := B2.lt
  have H4 := held_two B2 (.int .i64 0) (.int .i64 0)
  have EF := (E.setCell (p := ⟨b2, 0, none⟩) hbr (.int .i64 0)).setCell (p := ⟨b2, 1, none⟩) hbr (.int .i64 0)
  obtain ⟨y0, y1⟩ := H4.c2
  go_wp2
  refine bodyPost_ret (v := .tuple #[.agg #[.int .i64 0, .int .i64 0], .int .i64 70]) (by simp [results, Tryz.results39, go_sem, y0, y1]) rfl ⟨rfl, EF⟩
 simp only [hv] at NV
 rw [show c.availX f n = c.availV f n by unfold Cal.availX; rw [hv, if_pos rfl]] at NA
 have hr := HR.out
 rw [hv] at hr
 simp only [Bool.not_true, Bool.false_eq_true, if_false] at hr
 have HR2 := Lib.hid hr
 clear hr HR hv
 have hni := needV_in t nt
 have hai := availV_in c f n
 generalize needV t nt = N at *
 obtain ⟨⟨Nn, Nd⟩, Ne⟩ := N
 generalize c.availV f n = V at *
 obtain ⟨⟨Vn, Vd⟩, Ve⟩ := V
 simp only at HR2 NN NA hni hai
 have NS := fun w => subFR_any ⟨Vn, Vd⟩ ⟨Nn, Nd⟩ hai hni w
 generalize subR ⟨Vn, Vd⟩ ⟨Nn, Nd⟩ = D at *
 obtain ⟨⟨Dn, Dd⟩, De⟩ := D
 simp only at NS HR2
 go_upto_region 4 with (first | (go_at_call 67; (with_reducible refine Calls.mono (NV _ C) ?_); rintro e w1 ⟨rfl, hx⟩; replace E := E.trans hx; replace C := C.ext hx; replace RT := RT.ext hx; replace RS := RS.ext hx; replace B1 := B1.ext hx; replace B2 := B2.ext hx; clear hx; clear k0 k1 kl r0 r1 rl; obtain ⟨k0, k1⟩ := B1.c2; have kl := B1.lt; obtain ⟨r0, r1⟩ := B2.c2; have rl := B2.lt) | (go_at_call 35; (with_reducible refine Calls.mono (NN _ RT) ?_); rintro e w2 ⟨rfl, hx⟩; replace E := E.trans hx; replace C := C.ext hx; replace RT := RT.ext hx; replace RS := RS.ext hx; replace B1 := B1.ext hx; replace B2 := B2.ext hx; clear hx; clear k0 k1 kl r0 r1 rl; obtain ⟨k0, k1⟩ := B1.c2; have kl := B1.lt; obtain ⟨r0, r1⟩ := B2.c2; have rl := B2.lt))
 obtain ⟨vb1, hv⟩ : ∃ x, x = (w2.alloc (.cells #[.int .i64 Nn, .int .i64 Nd] 23)) := ⟨_, rfl⟩
 rw [← hv]
 have hx : Ext w2 vb1 := by rw [hv]; exact (Ext.refl _).alloc _
 have BN : Held vb1 w2.heap.size 23 #[.int .i64 Nn, .int .i64 Nd] := by rw [hv]; exact Held.new _ _ _
 clear hv
 generalize w2.heap.size = bb1 at *
 clear k0 k1 kl r0 r1 rl
 replace E := E.trans hx
 replace C := C.ext hx
 replace RT := RT.ext hx
 replace RS := RS.ext hx
 replace B1 := B1.ext hx
 replace B2 := B2.ext hx
 clear hx
 obtain ⟨k0, k1⟩ := B1.c2
 have kl := B1.lt
 obtain ⟨r0, r1⟩ := B2.c2
 have rl := B2.lt
 obtain ⟨n0, n1⟩ := BN.c2
 have nl := BN.lt
 by_cases hNe : Ne = 0
 rotate_left
 ·have hr := HR2.out
  rw [if_pos hNe] at hr
  subst hr
  have gN : (Ne == 0) = false := beq_eq_false_iff_ne.2 hNe
  have gNn : (Ne != 0) = true := by rw [bne, gN]; rfl
  clear HR2 hNe NA NS
  have f0 := B2.frozen 0
  have f1 := B2.frozen 1
  obtain ⟨x0, x1⟩ := B2.c2
  have lx := B2.lt
  have H4 := held_two B2 (.int .i64 0) (.int .i64 0)
  have EF := (E.setCell (p := ⟨b2, 0, none⟩) hbr (.int .i64 0)).setCell (p := ⟨b2, 1, none⟩) hbr (.int .i64 0)
  obtain ⟨y0, y1⟩ := H4.c2
  go_wp2
  refine bodyPost_ret (v := .tuple #[.agg #[.int .i64 0, .int .i64 0], .int .i64 Ne]) (by simp [results, Tryz.results39, go_sem, y0, y1]) rfl ⟨rfl, EF⟩
 subst hNe
 go_upto_region 7 with (go_at_call 37; (with_reducible refine Calls.mono (NA _ C RS) ?_); rintro e w3 ⟨rfl, hx⟩; replace E := E.trans hx; replace C := C.ext hx; replace RT := RT.ext hx; replace RS := RS.ext hx; replace B1 := B1.ext hx; replace B2 := B2.ext hx; replace BN := BN.ext hx; clear hx; clear k0 k1 kl r0 r1 rl n0 n1 nl; obtain ⟨k0, k1⟩ := B1.c2; have kl := B1.lt; obtain ⟨r0, r1⟩ := B2.c2; have rl := B2.lt; obtain ⟨n0, n1⟩ := BN.c2; have nl := BN.lt)
 obtain ⟨vb2, hv⟩ : ∃ x, x = (w3.alloc (.cells #[.int .i64 Vn, .int .i64 Vd] 23)) := ⟨_, rfl⟩
 rw [← hv]
 have hx : Ext w3 vb2 := by rw [hv]; exact (Ext.refl _).alloc _
 have BV : Held vb2 w3.heap.size 23 #[.int .i64 Vn, .int .i64 Vd] := by rw [hv]; exact Held.new _ _ _
 clear hv
 generalize w3.heap.size = bb2 at *
 clear k0 k1 kl r0 r1 rl n0 n1 nl
 replace E := E.trans hx
 replace C := C.ext hx
 replace RT := RT.ext hx
 replace RS := RS.ext hx
 replace B1 := B1.ext hx
 replace B2 := B2.ext hx
 replace BN := BN.ext hx
 clear hx
 obtain ⟨k0, k1⟩ := B1.c2
 have kl := B1.lt
 obtain ⟨r0, r1⟩ := B2.c2
 have rl := B2.lt
 obtain ⟨n0, n1⟩ := BN.c2
 have nl := BN.lt
 obtain ⟨v0, v1⟩ := BV.c2
 have vl := BV.lt
 have h0 := HR2.out
 rw [if_neg (by decide)] at h0
 have HR3 := Lib.hid h0
 clear h0 HR2
 by_cases hVe : Ve = 0
 rotate_left
 ·have hr := HR3.out
  rw [if_pos hVe] at hr
  subst hr
  have gV : (Ve == 0) = false := beq_eq_false_iff_ne.2 hVe
  have gVn : (Ve != 0) = true := by rw [bne, gV]; rfl
  clear HR3 hVe NS
  have f0 := B2.frozen 0
  have f1 := B2.frozen 1
  obtain ⟨x0, x1⟩ := B2.c2
  have lx := B2.lt
  have H4 := held_two B2 (.int .i64 0) (.int .i64 0)
  have EF := (E.setCell (p := ⟨b2, 0, none⟩) hbr (.int .i64 0)).setCell (p := ⟨b2, 1, none⟩) hbr (.int .i64 0)
  obtain ⟨y0, y1⟩ := H4.c2
  go_wp2
  refine bodyPost_ret (v := .tuple #[.agg #[.int .i64 0, .int .i64 0], .int .i64 Ve]) (by simp [results, Tryz.results39, go_sem, y0, y1]) rfl ⟨rfl, EF⟩
 subst hVe
 have h0 := HR3.out
 rw [if_neg (by decide)] at h0
 subst h0
 clear HR3
 go_wp2_with (first | (go_at_call 93; (with_reducible refine Calls.mono (NS _) ?_); rintro e wt ⟨rfl, ht⟩; replace E := E.trans ht; replace B2 := B2.ext ht; have f0 := B2.frozen 0; have f1 := B2.frozen 1; obtain ⟨x0, x1⟩ := B2.c2; have lx := B2.lt))
 have H4 := held_two B2 (.int .i64 Dn) (.int .i64 Dd)
 have EF := (E.setCell (p := ⟨b2, 0, none⟩) hbr (.int .i64 Dn)).setCell (p := ⟨b2, 1, none⟩) hbr (.int .i64 Dd)
 obtain ⟨y0, y1⟩ := H4.c2
 go_wp2
 refine bodyPost_ret (v := .tuple #[.agg #[.int .i64 Dn, .int .i64 Dd], .int .i64 De]) (by simp [results, Tryz.results39, go_sem, y0, y1]) rfl ⟨rfl, EF⟩
set_option maxRecDepth 100000 in
set_option maxHeartbeats 4000000 in
theorem availableX_any (A A' : Option Addr) (ca cb : Nat) (c : Cal) (S : Option Addr) (n cap : Nat) (f : Nat → Cw) (w : World) (hC : CalAt w A ca A' cb c) (hin : ∀ i, i < n → (f i).s.In ∧ -9223372036854775808 ≤ (f i).w ∧ (f i).w ≤ 9223372036854775807) (hS : RowsAt w S n 11 (crewr f)) (hn : n ≤ 9223372036854775807) (hZ : Zro w) :
  Calls Tryz.prog 36 #[.agg #[.slice A c.nk ca, .slice A' c.ny cb], .slice S n cap] w fun e w' => e = .returned (.tuple #[.agg #[.int .i64 (c.availX f n).1.n, .int .i64 (c.availX f n).1.d], .int .i64 (c.availX f n).2]) ∧ Ext w w' := by
 have NO := fun v (h : CalAt v A ca A' cb c) => opened_any A A' ca cb c v h
 have NA := fun v h1 h2 h3 => available_any A A' ca cb c S n cap f v h1 hin h2 hn h3
 obtain ⟨R, hR0⟩ : ∃ R, R = c.availX f n := ⟨_, rfl⟩
 rw [← hR0]
 unfold Cal.availX at hR0
 have HR := Lib.hid hR0
 clear hR0
 have hck : Hid (c.chk = if c.valid then 0 else 70) := by unfold Hid Cal.chk; rfl
 go_enter Tryz.func36, Tryz.ntmps36
 go_upto_region 1 with (fail)
 obtain ⟨v, hv⟩ : ∃ v, v = ((w.alloc (.cells #[.slice A c.nk ca, .slice A' c.ny cb] 34)).alloc (.cells #[.int .i64 0, .int .i64 0] 23)) := ⟨_, rfl⟩
 rw [← hv]
 have E : Ext w v := by rw [hv]; exact ((Ext.refl _).alloc _).alloc _
 have B1 : Held v w.heap.size 34 #[.slice A c.nk ca, .slice A' c.ny cb] := by rw [hv]; exact (Held.new _ _ _).alloc _
 have B2 : Held v (w.heap.size + 1) 23 #[.int .i64 0, .int .i64 0] := by rw [hv]; exact Held.at _ _ _ _ (by simp)
 clear hv
 obtain ⟨b2, hb2⟩ : ∃ b, b = w.heap.size + 1 := ⟨_, rfl⟩
 rw [← hb2] at B2 ⊢
 obtain ⟨b1, hb1⟩ : ∃ b, b = w.heap.size := ⟨_, rfl⟩
 rw [← hb1] at B1 ⊢
 have hbr : w.heap.size ≤ b2 := by omega
 have hbr1 : w.heap.size ≤ b1 := by omega
 have hn21 : b2 ≠ b1 := by omega
 clear hb1 hb2
 have C := hC.ext E
 have Z := hZ.ext E
 have RS := hS.ext E
 clear hC hZ hS
 obtain ⟨k0, k1⟩ := B1.c2
 have kl := B1.lt
 obtain ⟨r0, r1⟩ := B2.c2
 have rl := B2.lt
 have hN0 : Hid (c.chk = 0 ∧ R = c.availV f n ∨ c.chk ≠ 0 ∧ R = (rat0, c.chk)) := by
  unfold Hid
  rw [hck.out, HR.out]
  cases c.valid
  ·exact .inr ⟨by decide, rfl⟩
  ·exact .inl ⟨rfl, rfl⟩
 clear HR hck
 generalize c.chk = ck at *
 go_upto_region 2 with (go_at_call 63; (with_reducible refine Calls.mono (NO _ C) ?_); rintro e w1 ⟨rfl, hx⟩; replace E := E.trans hx; replace C := C.ext hx; replace Z := Z.ext hx; replace RS := RS.ext hx; replace B1 := B1.ext hx; replace B2 := B2.ext hx; clear hx; clear k0 k1 kl r0 r1 rl; obtain ⟨k0, k1⟩ := B1.c2; have kl := B1.lt; obtain ⟨r0, r1⟩ := B2.c2; have rl := B2.lt)
 obtain ⟨vb1, hv⟩ : ∃ x, x = (w1.alloc (.cells #[.slice A c.nk ca, .slice A' c.ny cb] 108)) := ⟨_, rfl⟩
 rw [← hv]
 have hx : Ext w1 vb1 := by rw [hv]; exact (Ext.refl _).alloc _
 have B3 : Held vb1 w1.heap.size 108 #[.slice A c.nk ca, .slice A' c.ny cb] := by rw [hv]; exact Held.new _ _ _
 clear hv
 generalize w1.heap.size = bb1 at *
 clear k0 k1 kl r0 r1 rl
 replace E := E.trans hx
 replace C := C.ext hx
 replace Z := Z.ext hx
 replace RS := RS.ext hx
 replace B1 := B1.ext hx
 replace B2 := B2.ext hx
 clear hx
 obtain ⟨k0, k1⟩ := B1.c2
 have kl := B1.lt
 obtain ⟨r0, r1⟩ := B2.c2
 have rl := B2.lt
 obtain ⟨q0, q1⟩ := B3.c2
 have ql := B3.lt
 generalize c.availV f n = V at *
 obtain ⟨⟨Vn, Vd⟩, Ve⟩ := V
 rcases hN0.out with ⟨h0, hr⟩ | ⟨hck, hr⟩
 rotate_left
 ·subst hr
  have gc : (ck == 0) = false := beq_eq_false_iff_ne.2 hck
  have gcn : (ck != 0) = true := by rw [bne, gc]; rfl
  clear hN0 hck NA
  have f0 := B2.frozen 0
  have f1 := B2.frozen 1
  obtain ⟨x0, x1⟩ := B2.c2
  have lx := B2.lt
  have H4 := held_two B2 (.int .i64 0) (.int .i64 0)
  have EF := (E.setCell (p := ⟨b2, 0, none⟩) hbr (.int .i64 0)).setCell (p := ⟨b2, 1, none⟩) hbr (.int .i64 0)
  obtain ⟨y0, y1⟩ := H4.c2
  go_wp2
  refine bodyPost_ret (v := .tuple #[.agg #[.int .i64 0, .int .i64 0], .int .i64 ck]) (by simp [results, Tryz.results36, go_sem, y0, y1]) rfl ⟨rfl, EF⟩
 subst h0 hr
 clear hN0
 go_wp2_with (first | (go_at_call 91; (with_reducible refine Calls.mono (NA _ C RS Z) ?_); rintro e wt ⟨rfl, ht⟩; replace E := E.trans ht; replace B2 := B2.ext ht; have f0 := B2.frozen 0; have f1 := B2.frozen 1; obtain ⟨x0, x1⟩ := B2.c2; have lx := B2.lt))
 have H4 := held_two B2 (.int .i64 Vn) (.int .i64 Vd)
 have EF := (E.setCell (p := ⟨b2, 0, none⟩) hbr (.int .i64 Vn)).setCell (p := ⟨b2, 1, none⟩) hbr (.int .i64 Vd)
 obtain ⟨y0, y1⟩ := H4.c2
 go_wp2
 refine bodyPost_ret (v := .tuple #[.agg #[.int .i64 Vn, .int .i64 Vd], .int .i64 Ve]) (by simp [results, Tryz.results36, go_sem, y0, y1]) rfl ⟨rfl, EF⟩
end Go.Proofs.YthmjpbafbohelaaGreatDoor

