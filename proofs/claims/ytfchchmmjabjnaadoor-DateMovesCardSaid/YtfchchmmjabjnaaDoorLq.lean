/- The walk of DateMoves. -/
import Derived.Test.YtfchchmmjabjnaaDoorLa
import Derived.Test.YtfchchmmjabjnaaDoorY1
namespace Go.Proofs.YtfchchmmjabjnaaDoor
open Go Go.RowKit
attribute [local go_sem] gv_yes

set_option maxRecDepth 100000 in
set_option maxHeartbeats 4000000 in
theorem dateMoves_walk (hwk : WorksOk) (A A' : Option Addr) (ca cb : Nat) (c : Cal) (a b : Dt) (n : Int) (hn1 : -9223372036854775808 ≤ n) (hn2 : n ≤ 9223372036854775807) (w : World) (hC : CalAt w A ca A' cb c) (hnA : A = none → c.nk = 0 ∧ ca = 0) (hnA' : A' = none → c.ny = 0 ∧ cb = 0) (hk : c.nk * 16 ≤ 140737488351232) (hy : c.ny * 40 ≤ 140737488351232) :
    Calls Tryd.prog 11 #[.agg #[.slice A c.nk ca, .slice A' c.ny cb], .agg #[.int .i64 a.y, .int .i64 a.m, .bool a.s, .int .i64 a.d, .int .i64 b.y, .int .i64 b.m, .bool b.s, .int .i64 b.d], .int .i64 n] w fun e w' => e = .returned (.bool true) ∧ Ext w w' := by
  have hwk : ∀ w : World, Calls Tryd.prog 28 #[] w fun e w' => e = .returned (.bool true) ∧ Ext w w' := hwk
  have NCP := fun v (h : CalAt v A ca A' cb c) => copy_any A A' ca cb c v h hnA hnA' hk hy
  have NSM := fun v {B B' : Option Addr} {da db : Nat} (h : CalAt v B da B' db c) (h' : CalAt v A ca A' cb c) => sameCal_any B B' A A' da db ca cb c v h h'
  have N1 := fun v {B B' : Option Addr} {da db : Nat} (h : CalAt v B da B' db c) => addX_any B B' da db c a n v h
  have M1 := fun v (h : CalAt v A ca A' cb c) => addX_any_r A A' ca cb c a n v h hn1 hn2
  have N2 := fun v {B B' : Option Addr} {da db : Nat} (h : CalAt v B da B' db c) => betweenX_any B B' da db c a b v h
  have M2 := fun v (h : CalAt v A ca A' cb c) => between_any_r A A' ca cb c a b v h
  have N3 := fun v {B B' : Option Addr} {da db : Nat} (h : CalAt v B da B' db c) => schemeX_any B B' da db c a b v h
  have M3 := fun v (h : CalAt v A ca A' cb c) => scheme_any_r A A' ca cb c a b v h
  generalize c.addV a n = x at *
  generalize c.addE a n = e1 at *
  generalize c.betV a b = p at *
  generalize c.schV a b = q at *
  generalize c.in2E a b = e2 at *
  unfold Dt.val at N1 M1
  have DX := fun v => date_eql x x v
  simp only [decide_true] at DX
  clear hn1 hn2 hnA hnA' hk hy
  go_enter Tryd.func11, Tryd.ntmps11
  go_upto_region 1 with (fail)
  obtain ⟨v, hv⟩ : ∃ v, v = ((w.alloc (.cells #[.slice A c.nk ca, .slice A' c.ny cb] 25)).alloc (.cells #[.int .i64 a.y, .int .i64 a.m, .bool a.s, .int .i64 a.d, .int .i64 b.y, .int .i64 b.m, .bool b.s, .int .i64 b.d] 41)) := ⟨_, rfl⟩
  rw [← hv]
  have E : Ext w v := by rw [hv]; exact ((Ext.refl _).alloc _).alloc _
  have B1 : Held v w.heap.size 25 #[.slice A c.nk ca, .slice A' c.ny cb] := by rw [hv]; exact (Held.new _ _ _).alloc _
  have B2 : Held v (w.heap.size + 1) 41 #[.int .i64 a.y, .int .i64 a.m, .bool a.s, .int .i64 a.d, .int .i64 b.y, .int .i64 b.m, .bool b.s, .int .i64 b.d] := by rw [hv]; exact Held.at _ _ _ _ (by simp)
  clear hv
  have C := hC.ext E
  clear hC
  generalize w.heap.size = b1 at *
  obtain ⟨k0, k1⟩ := B1.c2; have lk := B1.lt
  obtain ⟨p0, p1, p2, p3, p4, p5, p6, p7⟩ := B2.c8; have lp := B2.lt
  go_upto_region 2 with (go_at_call 23; (with_reducible refine Calls.mono (NCP _ C) ?_); rintro e v2 ⟨B, B', da, db, rfl, h, D⟩)
  replace E := Ext.trans E h
  replace C := C.ext h
  replace B1 := B1.ext h
  replace B2 := B2.ext h
  clear h
  clear k0 k1 lk
  clear p0 p1 p2 p3 p4 p5 p6 p7 lp
  obtain ⟨k0, k1⟩ := B1.c2; have lk := B1.lt
  obtain ⟨p0, p1, p2, p3, p4, p5, p6, p7⟩ := B2.c8; have lp := B2.lt
  obtain ⟨v3, hv⟩ : ∃ v, v = v2.alloc (.cells #[.slice B c.nk da, .slice B' c.ny db] 25) := ⟨_, rfl⟩
  rw [← hv]
  have h : Ext v2 v3 := by rw [hv]; exact (Ext.refl _).alloc _
  have B6 : Held v3 v2.heap.size 25 #[.slice B c.nk da, .slice B' c.ny db] := by rw [hv]; exact Held.new _ _ _
  clear hv
  generalize v2.heap.size = b9 at *
  replace E := Ext.trans E h
  replace C := C.ext h
  replace D := D.ext h
  replace B1 := B1.ext h
  replace B2 := B2.ext h
  clear h
  clear k0 k1 lk
  clear p0 p1 p2 p3 p4 p5 p6 p7 lp
  obtain ⟨k0, k1⟩ := B1.c2; have lk := B1.lt
  obtain ⟨p0, p1, p2, p3, p4, p5, p6, p7⟩ := B2.c8; have lp := B2.lt
  obtain ⟨t0, t1⟩ := B6.c2; have lt := B6.lt
  go_upto_region 3 with (go_at_call 42; (with_reducible refine Calls.mono (N1 _ D) ?_); rintro e v4 ⟨rfl, h⟩)
  replace E := Ext.trans E h
  replace C := C.ext h
  replace D := D.ext h
  replace B1 := B1.ext h
  replace B2 := B2.ext h
  replace B6 := B6.ext h
  clear h
  clear k0 k1 lk
  clear p0 p1 p2 p3 p4 p5 p6 p7 lp
  clear t0 t1 lt
  obtain ⟨k0, k1⟩ := B1.c2; have lk := B1.lt
  obtain ⟨p0, p1, p2, p3, p4, p5, p6, p7⟩ := B2.c8; have lp := B2.lt
  obtain ⟨t0, t1⟩ := B6.c2; have lt := B6.lt
  obtain ⟨v5, hv⟩ : ∃ v, v = v4.alloc (.cells #[.int .i64 x.y, .int .i64 x.m, .bool x.s, .int .i64 x.d] 39) := ⟨_, rfl⟩
  rw [← hv]
  have h : Ext v4 v5 := by rw [hv]; exact (Ext.refl _).alloc _
  have B3 : Held v5 v4.heap.size 39 #[.int .i64 x.y, .int .i64 x.m, .bool x.s, .int .i64 x.d] := by rw [hv]; exact Held.new _ _ _
  clear hv
  generalize v4.heap.size = b7 at *
  replace E := Ext.trans E h
  replace C := C.ext h
  replace D := D.ext h
  replace B1 := B1.ext h
  replace B2 := B2.ext h
  replace B6 := B6.ext h
  clear h
  clear k0 k1 lk
  clear p0 p1 p2 p3 p4 p5 p6 p7 lp
  clear t0 t1 lt
  obtain ⟨k0, k1⟩ := B1.c2; have lk := B1.lt
  obtain ⟨p0, p1, p2, p3, p4, p5, p6, p7⟩ := B2.c8; have lp := B2.lt
  obtain ⟨t0, t1⟩ := B6.c2; have lt := B6.lt
  obtain ⟨q0, q1, q2, q3⟩ := B3.c4; have lq := B3.lt
  go_upto_region 4 with (go_at_call 43; (with_reducible refine Calls.mono (M1 _ C) ?_); rintro e v6 ⟨rfl, h⟩)
  replace E := Ext.trans E h
  replace C := C.ext h
  replace D := D.ext h
  replace B1 := B1.ext h
  replace B2 := B2.ext h
  replace B6 := B6.ext h
  replace B3 := B3.ext h
  clear h
  clear k0 k1 lk
  clear p0 p1 p2 p3 p4 p5 p6 p7 lp
  clear t0 t1 lt
  clear q0 q1 q2 q3 lq
  obtain ⟨k0, k1⟩ := B1.c2; have lk := B1.lt
  obtain ⟨p0, p1, p2, p3, p4, p5, p6, p7⟩ := B2.c8; have lp := B2.lt
  obtain ⟨t0, t1⟩ := B6.c2; have lt := B6.lt
  obtain ⟨q0, q1, q2, q3⟩ := B3.c4; have lq := B3.lt
  obtain ⟨v7, hv⟩ : ∃ v, v = v6.alloc (.cells #[.int .i64 x.y, .int .i64 x.m, .bool x.s, .int .i64 x.d] 39) := ⟨_, rfl⟩
  rw [← hv]
  have h : Ext v6 v7 := by rw [hv]; exact (Ext.refl _).alloc _
  have B4 : Held v7 v6.heap.size 39 #[.int .i64 x.y, .int .i64 x.m, .bool x.s, .int .i64 x.d] := by rw [hv]; exact Held.new _ _ _
  clear hv
  generalize v6.heap.size = b8 at *
  replace E := Ext.trans E h
  replace C := C.ext h
  replace D := D.ext h
  replace B1 := B1.ext h
  replace B2 := B2.ext h
  replace B6 := B6.ext h
  replace B3 := B3.ext h
  clear h
  clear k0 k1 lk
  clear p0 p1 p2 p3 p4 p5 p6 p7 lp
  clear t0 t1 lt
  clear q0 q1 q2 q3 lq
  obtain ⟨k0, k1⟩ := B1.c2; have lk := B1.lt
  obtain ⟨p0, p1, p2, p3, p4, p5, p6, p7⟩ := B2.c8; have lp := B2.lt
  obtain ⟨t0, t1⟩ := B6.c2; have lt := B6.lt
  obtain ⟨q0, q1, q2, q3⟩ := B3.c4; have lq := B3.lt
  obtain ⟨r0, r1, r2, r3⟩ := B4.c4; have lr := B4.lt
  go_upto_region 6 with (go_at_call 31; (with_reducible refine Calls.mono (N2 _ D) ?_); rintro e v8 ⟨rfl, h⟩)
  replace E := Ext.trans E h
  replace C := C.ext h
  replace D := D.ext h
  replace B1 := B1.ext h
  replace B2 := B2.ext h
  replace B6 := B6.ext h
  replace B3 := B3.ext h
  replace B4 := B4.ext h
  clear h
  clear k0 k1 lk
  clear p0 p1 p2 p3 p4 p5 p6 p7 lp
  clear t0 t1 lt
  clear q0 q1 q2 q3 lq
  clear r0 r1 r2 r3 lr
  obtain ⟨k0, k1⟩ := B1.c2; have lk := B1.lt
  obtain ⟨p0, p1, p2, p3, p4, p5, p6, p7⟩ := B2.c8; have lp := B2.lt
  obtain ⟨t0, t1⟩ := B6.c2; have lt := B6.lt
  obtain ⟨q0, q1, q2, q3⟩ := B3.c4; have lq := B3.lt
  obtain ⟨r0, r1, r2, r3⟩ := B4.c4; have lr := B4.lt
  go_upto_region 7 with (go_at_call 44; (with_reducible refine Calls.mono (M2 _ C) ?_); rintro e v9 ⟨rfl, h⟩)
  replace E := Ext.trans E h
  replace C := C.ext h
  replace D := D.ext h
  replace B1 := B1.ext h
  replace B2 := B2.ext h
  replace B6 := B6.ext h
  replace B3 := B3.ext h
  replace B4 := B4.ext h
  clear h
  clear k0 k1 lk
  clear p0 p1 p2 p3 p4 p5 p6 p7 lp
  clear t0 t1 lt
  clear q0 q1 q2 q3 lq
  clear r0 r1 r2 r3 lr
  obtain ⟨k0, k1⟩ := B1.c2; have lk := B1.lt
  obtain ⟨p0, p1, p2, p3, p4, p5, p6, p7⟩ := B2.c8; have lp := B2.lt
  obtain ⟨t0, t1⟩ := B6.c2; have lt := B6.lt
  obtain ⟨q0, q1, q2, q3⟩ := B3.c4; have lq := B3.lt
  obtain ⟨r0, r1, r2, r3⟩ := B4.c4; have lr := B4.lt
  go_upto_region 9 with (go_at_call 32; (with_reducible refine Calls.mono (N3 _ D) ?_); rintro e v10 ⟨rfl, h⟩)
  replace E := Ext.trans E h
  replace C := C.ext h
  replace D := D.ext h
  replace B1 := B1.ext h
  replace B2 := B2.ext h
  replace B6 := B6.ext h
  replace B3 := B3.ext h
  replace B4 := B4.ext h
  clear h
  clear k0 k1 lk
  clear p0 p1 p2 p3 p4 p5 p6 p7 lp
  clear t0 t1 lt
  clear q0 q1 q2 q3 lq
  clear r0 r1 r2 r3 lr
  obtain ⟨k0, k1⟩ := B1.c2; have lk := B1.lt
  obtain ⟨p0, p1, p2, p3, p4, p5, p6, p7⟩ := B2.c8; have lp := B2.lt
  obtain ⟨t0, t1⟩ := B6.c2; have lt := B6.lt
  obtain ⟨q0, q1, q2, q3⟩ := B3.c4; have lq := B3.lt
  obtain ⟨r0, r1, r2, r3⟩ := B4.c4; have lr := B4.lt
  go_upto_region 10 with (go_at_call 45; (with_reducible refine Calls.mono (M3 _ C) ?_); rintro e v11 ⟨rfl, h⟩)
  replace E := Ext.trans E h
  replace C := C.ext h
  replace D := D.ext h
  replace B1 := B1.ext h
  replace B2 := B2.ext h
  replace B6 := B6.ext h
  replace B3 := B3.ext h
  replace B4 := B4.ext h
  clear h
  clear k0 k1 lk
  clear p0 p1 p2 p3 p4 p5 p6 p7 lp
  clear t0 t1 lt
  clear q0 q1 q2 q3 lq
  clear r0 r1 r2 r3 lr
  obtain ⟨k0, k1⟩ := B1.c2; have lk := B1.lt
  obtain ⟨p0, p1, p2, p3, p4, p5, p6, p7⟩ := B2.c8; have lp := B2.lt
  obtain ⟨t0, t1⟩ := B6.c2; have lt := B6.lt
  obtain ⟨q0, q1, q2, q3⟩ := B3.c4; have lq := B3.lt
  obtain ⟨r0, r1, r2, r3⟩ := B4.c4; have lr := B4.lt
  go_wp2_with (first | (go_at_call 27; (with_reducible refine Calls.mono (NSM _ D C) ?_); rintro e v12 ⟨rfl, h8⟩) | (go_at_call 28; (with_reducible refine Calls.mono (hwk _) ?_); rintro e v12' ⟨rfl, h9⟩))
  go_ret
  exact ⟨rfl, E.trans (h8.trans h9)⟩
end Go.Proofs.YtfchchmmjabjnaaDoor
