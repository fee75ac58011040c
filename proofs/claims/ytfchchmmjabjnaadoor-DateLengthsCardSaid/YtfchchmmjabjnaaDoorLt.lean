/- The walk of DateLengths. -/
import Derived.Test.YtfchchmmjabjnaaDoorLa
import Derived.Test.YtfchchmmjabjnaaDoorYl
import Derived.Test.YtfchchmmjabjnaaDoorWb
namespace Go.Proofs.YtfchchmmjabjnaaDoor
open Go Go.RowKit
attribute [local go_sem] gv_yes

set_option maxRecDepth 100000 in
set_option maxHeartbeats 4000000 in
theorem dateLengths_walk (hwk : WorksOk) (A A' : Option Addr) (ca cb : Nat) (c : Cal) (ay am : Int) (as_ : Bool) (an : Int) (hy1 : -9223372036854775808 ≤ ay) (hy2 : ay ≤ 9223372036854775807) (hn1 : -9223372036854775808 ≤ an) (hn2 : an ≤ 9223372036854775807) (w : World) (hC : CalAt w A ca A' cb c) (hnA : A = none → c.nk = 0 ∧ ca = 0) (hnA' : A' = none → c.ny = 0 ∧ cb = 0) (hk : c.nk * 16 ≤ 140737488351232) (hy : c.ny * 40 ≤ 140737488351232) :
    Calls Tryd.prog 19 #[.agg #[.slice A c.nk ca, .slice A' c.ny cb], .agg #[.int .i64 ay, .int .i64 am, .bool as_, .int .i64 an]] w fun e w' => e = .returned (.bool true) ∧ Ext w w' := by
  have hwk : ∀ w : World, Calls Tryd.prog 28 #[] w fun e w' => e = .returned (.bool true) ∧ Ext w w' := hwk
  have NCP := fun v (h : CalAt v A ca A' cb c) => copy_any A A' ca cb c v h hnA hnA' hk hy
  have NSM := fun v {B B' : Option Addr} {da db : Nat} (h : CalAt v B da B' db c) (h' : CalAt v A ca A' cb c) => sameCal_any B B' A A' da db ca cb c v h h'
  have N1 := fun v {B B' : Option Addr} {da db : Nat} (h : CalAt v B da B' db c) => lengthX_any B B' da db c ay am as_ v h
  have M1 := fun v (h : CalAt v A ca A' cb c) => length_any_r A A' ca cb c ay am as_ v h
  have N2 := fun v {B B' : Option Addr} {da db : Nat} (h : CalAt v B da B' db c) => daysX_any B B' da db c ay v h
  have M2 := fun v (h : CalAt v A ca A' cb c) => daysR_any_r A A' ca cb c ay v h
  have N3 := fun v {B B' : Option Addr} {da db : Nat} (h : CalAt v B da B' db c) => reign_any B B' da db c ay hy1 hy2 v h
  have M3 := fun v (h : CalAt v A ca A' cb c) => reign_any_r A A' ca cb c ay hy1 hy2 v h
  have N4 := fun v {B B' : Option Addr} {da db : Nat} (h : CalAt v B da B' db c) => atX_any B B' da db c an v h hn1 hn2
  have M4 := fun v (h : CalAt v A ca A' cb c) => atX_any_r A A' ca cb c an v h hn1 hn2
  generalize (c.lenR ay am as_) = l at *
  obtain ⟨l1, l2⟩ := l
  generalize (c.daysR ay) = m at *
  obtain ⟨m1, m2⟩ := m
  simp only at N1 M1 N2 M2
  generalize c.reignS ay = rs at *
  generalize c.reignN ay = rn at *
  generalize c.yearE ay = re at *
  generalize c.atV an = x at *
  generalize c.atE an = e4 at *
  unfold Dt.val at N4 M4
  have DX := fun v => date_eql x x v
  simp only [decide_true] at DX
  clear hnA hnA' hk hy hn1 hn2 hy1 hy2
  go_enter Tryd.func19, Tryd.ntmps19
  go_upto_region 1 with (fail)
  obtain ⟨v, hv⟩ : ∃ v, v = ((w.alloc (.cells #[.slice A c.nk ca, .slice A' c.ny cb] 25)).alloc (.cells #[.int .i64 ay, .int .i64 am, .bool as_, .int .i64 an] 88)) := ⟨_, rfl⟩
  rw [← hv]
  have E : Ext w v := by rw [hv]; exact ((Ext.refl _).alloc _).alloc _
  have B1 : Held v w.heap.size 25 #[.slice A c.nk ca, .slice A' c.ny cb] := by rw [hv]; exact (Held.new _ _ _).alloc _
  have B2 : Held v (w.heap.size + 1) 88 #[.int .i64 ay, .int .i64 am, .bool as_, .int .i64 an] := by rw [hv]; exact Held.at _ _ _ _ (by simp)
  clear hv
  have C := hC.ext E
  clear hC
  generalize w.heap.size = b1 at *
  obtain ⟨k0, k1⟩ := B1.c2; have lk := B1.lt
  obtain ⟨p0, p1, p2, p3⟩ := B2.c4; have lp := B2.lt
  go_upto_region 2 with (go_at_call 23; (with_reducible refine Calls.mono (NCP _ C) ?_); rintro e v2 ⟨B, B', da, db, rfl, h, D⟩)
  replace E := Ext.trans E h
  replace C := C.ext h
  replace B1 := B1.ext h
  replace B2 := B2.ext h
  clear h
  clear k0 k1 lk
  clear p0 p1 p2 p3 lp
  obtain ⟨k0, k1⟩ := B1.c2; have lk := B1.lt
  obtain ⟨p0, p1, p2, p3⟩ := B2.c4; have lp := B2.lt
  obtain ⟨v3, hv⟩ : ∃ v, v = v2.alloc (.cells #[.slice B c.nk da, .slice B' c.ny db] 25) := ⟨_, rfl⟩
  rw [← hv]
  have h : Ext v2 v3 := by rw [hv]; exact (Ext.refl _).alloc _
  have B6 : Held v3 v2.heap.size 25 #[.slice B c.nk da, .slice B' c.ny db] := by rw [hv]; exact Held.new _ _ _
  clear hv
  generalize v2.heap.size = b9 at *
  replace E := Ext.trans E h
  replace C := C.ext h
  replace D := D.ext h
  replace B1 := B1.ext h
  replace B2 := B2.ext h
  clear h
  clear k0 k1 lk
  clear p0 p1 p2 p3 lp
  obtain ⟨k0, k1⟩ := B1.c2; have lk := B1.lt
  obtain ⟨p0, p1, p2, p3⟩ := B2.c4; have lp := B2.lt
  obtain ⟨t0, t1⟩ := B6.c2; have lt := B6.lt
  go_upto_region 3 with (go_at_call 65; (with_reducible refine Calls.mono (N1 _ D) ?_); rintro e v4 ⟨rfl, h⟩)
  replace E := Ext.trans E h
  replace C := C.ext h
  replace D := D.ext h
  replace B1 := B1.ext h
  replace B2 := B2.ext h
  replace B6 := B6.ext h
  clear h
  clear k0 k1 lk
  clear p0 p1 p2 p3 lp
  clear t0 t1 lt
  obtain ⟨k0, k1⟩ := B1.c2; have lk := B1.lt
  obtain ⟨p0, p1, p2, p3⟩ := B2.c4; have lp := B2.lt
  obtain ⟨t0, t1⟩ := B6.c2; have lt := B6.lt
  go_upto_region 4 with (go_at_call 66; (with_reducible refine Calls.mono (M1 _ C) ?_); rintro e v5 ⟨rfl, h⟩)
  replace E := Ext.trans E h
  replace C := C.ext h
  replace D := D.ext h
  replace B1 := B1.ext h
  replace B2 := B2.ext h
  replace B6 := B6.ext h
  clear h
  clear k0 k1 lk
  clear p0 p1 p2 p3 lp
  clear t0 t1 lt
  obtain ⟨k0, k1⟩ := B1.c2; have lk := B1.lt
  obtain ⟨p0, p1, p2, p3⟩ := B2.c4; have lp := B2.lt
  obtain ⟨t0, t1⟩ := B6.c2; have lt := B6.lt
  go_upto_region 6 with (go_at_call 58; (with_reducible refine Calls.mono (N2 _ D) ?_); rintro e v6 ⟨rfl, h⟩)
  replace E := Ext.trans E h
  replace C := C.ext h
  replace D := D.ext h
  replace B1 := B1.ext h
  replace B2 := B2.ext h
  replace B6 := B6.ext h
  clear h
  clear k0 k1 lk
  clear p0 p1 p2 p3 lp
  clear t0 t1 lt
  obtain ⟨k0, k1⟩ := B1.c2; have lk := B1.lt
  obtain ⟨p0, p1, p2, p3⟩ := B2.c4; have lp := B2.lt
  obtain ⟨t0, t1⟩ := B6.c2; have lt := B6.lt
  go_upto_region 7 with (go_at_call 67; (with_reducible refine Calls.mono (M2 _ C) ?_); rintro e v7 ⟨rfl, h⟩)
  replace E := Ext.trans E h
  replace C := C.ext h
  replace D := D.ext h
  replace B1 := B1.ext h
  replace B2 := B2.ext h
  replace B6 := B6.ext h
  clear h
  clear k0 k1 lk
  clear p0 p1 p2 p3 lp
  clear t0 t1 lt
  obtain ⟨k0, k1⟩ := B1.c2; have lk := B1.lt
  obtain ⟨p0, p1, p2, p3⟩ := B2.c4; have lp := B2.lt
  obtain ⟨t0, t1⟩ := B6.c2; have lt := B6.lt
  go_upto_region 9 with (go_at_call 68; (with_reducible refine Calls.mono (N3 _ D) ?_); rintro e v8 ⟨rfl, h⟩)
  replace E := Ext.trans E h
  replace C := C.ext h
  replace D := D.ext h
  replace B1 := B1.ext h
  replace B2 := B2.ext h
  replace B6 := B6.ext h
  clear h
  clear k0 k1 lk
  clear p0 p1 p2 p3 lp
  clear t0 t1 lt
  obtain ⟨k0, k1⟩ := B1.c2; have lk := B1.lt
  obtain ⟨p0, p1, p2, p3⟩ := B2.c4; have lp := B2.lt
  obtain ⟨t0, t1⟩ := B6.c2; have lt := B6.lt
  go_upto_region 10 with (go_at_call 69; (with_reducible refine Calls.mono (M3 _ C) ?_); rintro e v9 ⟨rfl, h⟩)
  replace E := Ext.trans E h
  replace C := C.ext h
  replace D := D.ext h
  replace B1 := B1.ext h
  replace B2 := B2.ext h
  replace B6 := B6.ext h
  clear h
  clear k0 k1 lk
  clear p0 p1 p2 p3 lp
  clear t0 t1 lt
  obtain ⟨k0, k1⟩ := B1.c2; have lk := B1.lt
  obtain ⟨p0, p1, p2, p3⟩ := B2.c4; have lp := B2.lt
  obtain ⟨t0, t1⟩ := B6.c2; have lt := B6.lt
  go_upto_region 12 with (go_at_call 39; (with_reducible refine Calls.mono (N4 _ D) ?_); rintro e v10 ⟨rfl, h⟩)
  replace E := Ext.trans E h
  replace C := C.ext h
  replace D := D.ext h
  replace B1 := B1.ext h
  replace B2 := B2.ext h
  replace B6 := B6.ext h
  clear h
  clear k0 k1 lk
  clear p0 p1 p2 p3 lp
  clear t0 t1 lt
  obtain ⟨k0, k1⟩ := B1.c2; have lk := B1.lt
  obtain ⟨p0, p1, p2, p3⟩ := B2.c4; have lp := B2.lt
  obtain ⟨t0, t1⟩ := B6.c2; have lt := B6.lt
  obtain ⟨v11, hv⟩ : ∃ v, v = v10.alloc (.cells #[.int .i64 x.y, .int .i64 x.m, .bool x.s, .int .i64 x.d] 39) := ⟨_, rfl⟩
  rw [← hv]
  have h : Ext v10 v11 := by rw [hv]; exact (Ext.refl _).alloc _
  have B3 : Held v11 v10.heap.size 39 #[.int .i64 x.y, .int .i64 x.m, .bool x.s, .int .i64 x.d] := by rw [hv]; exact Held.new _ _ _
  clear hv
  generalize v10.heap.size = b7 at *
  replace E := Ext.trans E h
  replace C := C.ext h
  replace D := D.ext h
  replace B1 := B1.ext h
  replace B2 := B2.ext h
  replace B6 := B6.ext h
  clear h
  clear k0 k1 lk
  clear p0 p1 p2 p3 lp
  clear t0 t1 lt
  obtain ⟨k0, k1⟩ := B1.c2; have lk := B1.lt
  obtain ⟨p0, p1, p2, p3⟩ := B2.c4; have lp := B2.lt
  obtain ⟨t0, t1⟩ := B6.c2; have lt := B6.lt
  obtain ⟨q0, q1, q2, q3⟩ := B3.c4; have lq := B3.lt
  go_upto_region 13 with (go_at_call 70; (with_reducible refine Calls.mono (M4 _ C) ?_); rintro e v12 ⟨rfl, h⟩)
  replace E := Ext.trans E h
  replace C := C.ext h
  replace D := D.ext h
  replace B1 := B1.ext h
  replace B2 := B2.ext h
  replace B6 := B6.ext h
  replace B3 := B3.ext h
  clear h
  clear k0 k1 lk
  clear p0 p1 p2 p3 lp
  clear t0 t1 lt
  clear q0 q1 q2 q3 lq
  obtain ⟨k0, k1⟩ := B1.c2; have lk := B1.lt
  obtain ⟨p0, p1, p2, p3⟩ := B2.c4; have lp := B2.lt
  obtain ⟨t0, t1⟩ := B6.c2; have lt := B6.lt
  obtain ⟨q0, q1, q2, q3⟩ := B3.c4; have lq := B3.lt
  obtain ⟨v13, hv⟩ : ∃ v, v = v12.alloc (.cells #[.int .i64 x.y, .int .i64 x.m, .bool x.s, .int .i64 x.d] 39) := ⟨_, rfl⟩
  rw [← hv]
  have h : Ext v12 v13 := by rw [hv]; exact (Ext.refl _).alloc _
  have B4 : Held v13 v12.heap.size 39 #[.int .i64 x.y, .int .i64 x.m, .bool x.s, .int .i64 x.d] := by rw [hv]; exact Held.new _ _ _
  clear hv
  generalize v12.heap.size = b8 at *
  replace E := Ext.trans E h
  replace C := C.ext h
  replace D := D.ext h
  replace B1 := B1.ext h
  replace B2 := B2.ext h
  replace B6 := B6.ext h
  replace B3 := B3.ext h
  clear h
  clear k0 k1 lk
  clear p0 p1 p2 p3 lp
  clear t0 t1 lt
  clear q0 q1 q2 q3 lq
  obtain ⟨k0, k1⟩ := B1.c2; have lk := B1.lt
  obtain ⟨p0, p1, p2, p3⟩ := B2.c4; have lp := B2.lt
  obtain ⟨t0, t1⟩ := B6.c2; have lt := B6.lt
  obtain ⟨q0, q1, q2, q3⟩ := B3.c4; have lq := B3.lt
  obtain ⟨r0, r1, r2, r3⟩ := B4.c4; have lr := B4.lt
  go_wp2_with (first | (go_at_call 27; (with_reducible refine Calls.mono (NSM _ D C) ?_); rintro e v14 ⟨rfl, h8⟩) | (go_at_call 28; (with_reducible refine Calls.mono (hwk _) ?_); rintro e v14' ⟨rfl, h9⟩))
  go_ret
  exact ⟨rfl, E.trans (h8.trans h9)⟩
end Go.Proofs.YtfchchmmjabjnaaDoor
