/- The walk of DateChecks. -/
import Derived.Test.YtfchchmmjabjnaaDoorLe
import Derived.Test.YtfchchmmjabjnaaDoorYh
namespace Go.Proofs.YtfchchmmjabjnaaDoor
open Go Go.RowKit
attribute [local go_sem] gv_yes

set_option maxRecDepth 100000 in
set_option maxHeartbeats 4000000 in
theorem dateChecks_walk (hwk : WorksOk) (A A' : Option Addr) (ca cb : Nat) (c : Cal) (d : Dt) (w : World) (hC : CalAt w A ca A' cb c) (hnA : A = none → c.nk = 0 ∧ ca = 0) (hnA' : A' = none → c.ny = 0 ∧ cb = 0) (hk : c.nk * 16 ≤ 140737488351232) (hy : c.ny * 40 ≤ 140737488351232) :
    Calls Tryd.prog 15 #[.agg #[.slice A c.nk ca, .slice A' c.ny cb], .agg #[.int .i64 d.y, .int .i64 d.m, .bool d.s, .int .i64 d.d]] w fun e w' => e = .returned (.bool true) ∧ Ext w w' := by
  have hwk : ∀ w : World, Calls Tryd.prog 28 #[] w fun e w' => e = .returned (.bool true) ∧ Ext w w' := hwk
  have NCP := fun v (h : CalAt v A ca A' cb c) => copy_any A A' ca cb c v h hnA hnA' hk hy
  have NSM := fun v {B B' : Option Addr} {da db : Nat} (h : CalAt v B da B' db c) (h' : CalAt v A ca A' cb c) => sameCal_any B B' A A' da db ca cb c v h h'
  have N1 := fun v {B B' : Option Addr} {da db : Nat} (h : CalAt v B da B' db c) => inX_any B B' da db c d v h
  have M1 := fun v (h : CalAt v A ca A' cb c) => inX_any_r A A' ca cb c d v h
  have NC := fun v {B B' : Option Addr} {da db : Nat} (h : CalAt v B da B' db c) => check_any B B' da db c v h
  have MC := fun v (h : CalAt v A ca A' cb c) => checkR_any A A' ca cb c v h
  have N2 := fun v {B B' : Option Addr} {da db : Nat} (h : CalAt v B da B' db c) => numberX_any B B' da db c d v h
  have M2 := fun v (h : CalAt v A ca A' cb c) => number_any_rr A A' ca cb c d v h
  have N3 := fun v {B B' : Option Addr} {da db : Nat} (h : CalAt v B da B' db c) => whole_any B B' da db c d v h
  have M3 := fun v (h : CalAt v A ca A' cb c) => whole_any_r A A' ca cb c d v h
  generalize c.wholeV d = x at *
  generalize c.inE d = e1 at *
  generalize c.numV d = p at *
  generalize (c.valid && c.has d) = q at *
  generalize c.chk = e2 at *
  unfold Tr.val at N3 M3
  have NE := fun w => trace_eql x w
  clear hnA hnA' hk hy
  go_enter Tryd.func15, Tryd.ntmps15
  go_upto_region 1 with (fail)
  obtain ⟨v, hv⟩ : ∃ v, v = ((w.alloc (.cells #[.slice A c.nk ca, .slice A' c.ny cb] 25)).alloc (.cells #[.int .i64 d.y, .int .i64 d.m, .bool d.s, .int .i64 d.d] 39)) := ⟨_, rfl⟩
  rw [← hv]
  have E : Ext w v := by rw [hv]; exact ((Ext.refl _).alloc _).alloc _
  have B1 : Held v w.heap.size 25 #[.slice A c.nk ca, .slice A' c.ny cb] := by rw [hv]; exact (Held.new _ _ _).alloc _
  have B2 : Held v (w.heap.size + 1) 39 #[.int .i64 d.y, .int .i64 d.m, .bool d.s, .int .i64 d.d] := by rw [hv]; exact Held.at _ _ _ _ (by simp)
  clear hv
  have C := hC.ext E
  clear hC
  generalize w.heap.size = b1 at *
  obtain ⟨k0, k1⟩ := B1.c2; have lk := B1.lt
  obtain ⟨p0, p1, p2, p3⟩ := B2.c4; have lp := B2.lt
  go_upto_region 2 with (go_at_call 23; (with_reducible refine Calls.mono (NCP _ C) ?_); rintro e v2 ⟨B, B', da, db, rfl, h, D⟩)
  replace E := Ext.trans E h
  replace C := C.ext h
  replace B1 := B1.ext h
  replace B2 := B2.ext h
  clear h
  clear k0 k1 lk
  clear p0 p1 p2 p3 lp
  obtain ⟨k0, k1⟩ := B1.c2; have lk := B1.lt
  obtain ⟨p0, p1, p2, p3⟩ := B2.c4; have lp := B2.lt
  obtain ⟨v3, hv⟩ : ∃ v, v = v2.alloc (.cells #[.slice B c.nk da, .slice B' c.ny db] 25) := ⟨_, rfl⟩
  rw [← hv]
  have h : Ext v2 v3 := by rw [hv]; exact (Ext.refl _).alloc _
  have B6 : Held v3 v2.heap.size 25 #[.slice B c.nk da, .slice B' c.ny db] := by rw [hv]; exact Held.new _ _ _
  clear hv
  generalize v2.heap.size = b9 at *
  replace E := Ext.trans E h
  replace C := C.ext h
  replace D := D.ext h
  replace B1 := B1.ext h
  replace B2 := B2.ext h
  clear h
  clear k0 k1 lk
  clear p0 p1 p2 p3 lp
  obtain ⟨k0, k1⟩ := B1.c2; have lk := B1.lt
  obtain ⟨p0, p1, p2, p3⟩ := B2.c4; have lp := B2.lt
  obtain ⟨t0, t1⟩ := B6.c2; have lt := B6.lt
  go_upto_region 3 with (go_at_call 52; (with_reducible refine Calls.mono (N1 _ D) ?_); rintro e v4 ⟨rfl, h⟩)
  replace E := Ext.trans E h
  replace C := C.ext h
  replace D := D.ext h
  replace B1 := B1.ext h
  replace B2 := B2.ext h
  replace B6 := B6.ext h
  clear h
  clear k0 k1 lk
  clear p0 p1 p2 p3 lp
  clear t0 t1 lt
  obtain ⟨k0, k1⟩ := B1.c2; have lk := B1.lt
  obtain ⟨p0, p1, p2, p3⟩ := B2.c4; have lp := B2.lt
  obtain ⟨t0, t1⟩ := B6.c2; have lt := B6.lt
  go_upto_region 4 with (go_at_call 53; (with_reducible refine Calls.mono (M1 _ C) ?_); rintro e v5 ⟨rfl, h⟩)
  replace E := Ext.trans E h
  replace C := C.ext h
  replace D := D.ext h
  replace B1 := B1.ext h
  replace B2 := B2.ext h
  replace B6 := B6.ext h
  clear h
  clear k0 k1 lk
  clear p0 p1 p2 p3 lp
  clear t0 t1 lt
  obtain ⟨k0, k1⟩ := B1.c2; have lk := B1.lt
  obtain ⟨p0, p1, p2, p3⟩ := B2.c4; have lp := B2.lt
  obtain ⟨t0, t1⟩ := B6.c2; have lt := B6.lt
  refine wp_region_xw v5 mixed (by kernel_rfl) (by repeat (first | exact Ext.refl _ | (refine Ext.alloc ?_ _) | (refine Ext.trans ?_ (by assumption)))) ?_
  intro hne hrx hry
  try simp only []
  try simp only [List.append_eq, List.cons_append, List.nil_append]
  skip
  repeat (first
    | go_big_quiet_skip
    | (go_big_quiet_want; go_big_quiet_op; go_big_quiet_on)
    | (go_big_quiet_want; go_big_quiet_op; apply Exists.intro; refine ⟨fun u => ?_, ?_⟩
       · first
           | (go_at_call 41; (with_reducible refine Calls.mono (NC _ (D.ext (Ext.trans (by repeat (first | exact Ext.refl _ | (refine Ext.alloc ?_ _) | (refine Ext.trans ?_ (by assumption)))) u.e))) ?_); rintro e w' ⟨rfl, hb⟩; exact ⟨rfl, u.back hb⟩)
           | (go_at_call 54; (with_reducible refine Calls.mono (MC _ (C.ext (Ext.trans (by repeat (first | exact Ext.refl _ | (refine Ext.alloc ?_ _) | (refine Ext.trans ?_ (by assumption)))) u.e))) ?_); rintro e w' ⟨rfl, hb⟩; exact ⟨rfl, u.back hb⟩)
       go_big_quiet_on))
  clear hne hry hrx
  refine wpQuiet_nil ?_
  intro v6 h
  obtain ⟨hcv6, hfv6, hzv6⟩ := Ext.rules h
  try simp only [World.size_alloc] at hzv6
  obtain ⟨hcbv6, hfbv6, hzbv6⟩ := Ext.rules (show Ext v5 v6 from (by repeat (first | exact Ext.refl _ | (refine Ext.alloc ?_ _) | (refine Ext.trans ?_ (by assumption)))))
  clear hcv6 hfv6
  replace E := Ext.trans E h
  replace C := C.ext h
  replace D := D.ext h
  replace B1 := B1.ext h
  replace B2 := B2.ext h
  replace B6 := B6.ext h
  clear h
  clear k0 k1 lk
  clear p0 p1 p2 p3 lp
  clear t0 t1 lt
  obtain ⟨k0, k1⟩ := B1.c2; have lk := B1.lt
  obtain ⟨p0, p1, p2, p3⟩ := B2.c4; have lp := B2.lt
  obtain ⟨t0, t1⟩ := B6.c2; have lt := B6.lt
  go_upto_region 6 with (go_at_call 29; (with_reducible refine Calls.mono (N2 _ D) ?_); rintro e v7 ⟨rfl, h⟩)
  replace E := Ext.trans E h
  replace C := C.ext h
  replace D := D.ext h
  replace B1 := B1.ext h
  replace B2 := B2.ext h
  replace B6 := B6.ext h
  clear h
  clear k0 k1 lk
  clear p0 p1 p2 p3 lp
  clear t0 t1 lt
  obtain ⟨k0, k1⟩ := B1.c2; have lk := B1.lt
  obtain ⟨p0, p1, p2, p3⟩ := B2.c4; have lp := B2.lt
  obtain ⟨t0, t1⟩ := B6.c2; have lt := B6.lt
  go_upto_region 7 with (go_at_call 55; (with_reducible refine Calls.mono (M2 _ C) ?_); rintro e v8 ⟨rfl, h⟩)
  replace E := Ext.trans E h
  replace C := C.ext h
  replace D := D.ext h
  replace B1 := B1.ext h
  replace B2 := B2.ext h
  replace B6 := B6.ext h
  clear h
  clear k0 k1 lk
  clear p0 p1 p2 p3 lp
  clear t0 t1 lt
  obtain ⟨k0, k1⟩ := B1.c2; have lk := B1.lt
  obtain ⟨p0, p1, p2, p3⟩ := B2.c4; have lp := B2.lt
  obtain ⟨t0, t1⟩ := B6.c2; have lt := B6.lt
  go_upto_region 9 with (go_at_call 56; (with_reducible refine Calls.mono (N3 _ D) ?_); rintro e v9 ⟨rfl, h⟩)
  replace E := Ext.trans E h
  replace C := C.ext h
  replace D := D.ext h
  replace B1 := B1.ext h
  replace B2 := B2.ext h
  replace B6 := B6.ext h
  clear h
  clear k0 k1 lk
  clear p0 p1 p2 p3 lp
  clear t0 t1 lt
  obtain ⟨k0, k1⟩ := B1.c2; have lk := B1.lt
  obtain ⟨p0, p1, p2, p3⟩ := B2.c4; have lp := B2.lt
  obtain ⟨t0, t1⟩ := B6.c2; have lt := B6.lt
  obtain ⟨v10, hv⟩ : ∃ v, v = v9.alloc (.cells #[.int .i64 x.d, .bool x.more, .int .i64 x.m, .bool x.s, .string x.nm, .int .i64 x.af, .string x.kg] 33) := ⟨_, rfl⟩
  rw [← hv]
  have h : Ext v9 v10 := by rw [hv]; exact (Ext.refl _).alloc _
  have B4 : Held v10 v9.heap.size 33 #[.int .i64 x.d, .bool x.more, .int .i64 x.m, .bool x.s, .string x.nm, .int .i64 x.af, .string x.kg] := by rw [hv]; exact Held.new _ _ _
  clear hv
  generalize v9.heap.size = b7 at *
  replace E := Ext.trans E h
  replace C := C.ext h
  replace D := D.ext h
  replace B1 := B1.ext h
  replace B2 := B2.ext h
  replace B6 := B6.ext h
  clear h
  clear k0 k1 lk
  clear p0 p1 p2 p3 lp
  clear t0 t1 lt
  obtain ⟨k0, k1⟩ := B1.c2; have lk := B1.lt
  obtain ⟨p0, p1, p2, p3⟩ := B2.c4; have lp := B2.lt
  obtain ⟨t0, t1⟩ := B6.c2; have lt := B6.lt
  obtain ⟨r0, r1, r2, r3, r4, r5, r6⟩ := B4.c7; have lr := B4.lt
  go_upto_region 10 with (go_at_call 57; (with_reducible refine Calls.mono (M3 _ C) ?_); rintro e v11 ⟨rfl, h⟩)
  replace E := Ext.trans E h
  replace C := C.ext h
  replace D := D.ext h
  replace B1 := B1.ext h
  replace B2 := B2.ext h
  replace B6 := B6.ext h
  replace B4 := B4.ext h
  clear h
  clear k0 k1 lk
  clear p0 p1 p2 p3 lp
  clear t0 t1 lt
  clear r0 r1 r2 r3 r4 r5 r6 lr
  obtain ⟨k0, k1⟩ := B1.c2; have lk := B1.lt
  obtain ⟨p0, p1, p2, p3⟩ := B2.c4; have lp := B2.lt
  obtain ⟨t0, t1⟩ := B6.c2; have lt := B6.lt
  obtain ⟨r0, r1, r2, r3, r4, r5, r6⟩ := B4.c7; have lr := B4.lt
  obtain ⟨v12, hv⟩ : ∃ v, v = v11.alloc (.cells #[.int .i64 x.d, .bool x.more, .int .i64 x.m, .bool x.s, .string x.nm, .int .i64 x.af, .string x.kg] 33) := ⟨_, rfl⟩
  rw [← hv]
  have h : Ext v11 v12 := by rw [hv]; exact (Ext.refl _).alloc _
  have B5 : Held v12 v11.heap.size 33 #[.int .i64 x.d, .bool x.more, .int .i64 x.m, .bool x.s, .string x.nm, .int .i64 x.af, .string x.kg] := by rw [hv]; exact Held.new _ _ _
  clear hv
  generalize v11.heap.size = b8 at *
  replace E := Ext.trans E h
  replace C := C.ext h
  replace D := D.ext h
  replace B1 := B1.ext h
  replace B2 := B2.ext h
  replace B6 := B6.ext h
  replace B4 := B4.ext h
  clear h
  clear k0 k1 lk
  clear p0 p1 p2 p3 lp
  clear t0 t1 lt
  clear r0 r1 r2 r3 r4 r5 r6 lr
  obtain ⟨k0, k1⟩ := B1.c2; have lk := B1.lt
  obtain ⟨p0, p1, p2, p3⟩ := B2.c4; have lp := B2.lt
  obtain ⟨t0, t1⟩ := B6.c2; have lt := B6.lt
  obtain ⟨r0, r1, r2, r3, r4, r5, r6⟩ := B4.c7; have lr := B4.lt
  obtain ⟨s0, s1, s2, s3, s4, s5, s6⟩ := B5.c7; have ls := B5.lt
  go_wp2_with (first | (go_at_call 27; (with_reducible refine Calls.mono (NSM _ D C) ?_); rintro e v13 ⟨rfl, h8⟩) | (go_at_call 28; (with_reducible refine Calls.mono (hwk _) ?_); rintro e v13' ⟨rfl, h9⟩))
  go_ret
  exact ⟨rfl, E.trans (h8.trans h9)⟩
end Go.Proofs.YtfchchmmjabjnaaDoor
