/- The walk of DateNames. -/
import Derived.Test.YtfchchmmjabjnaaDoorLa
import Derived.Test.YtfchchmmjabjnaaDoorY2
namespace Go.Proofs.YtfchchmmjabjnaaDoor
open Go Go.RowKit
attribute [local go_sem] gv_yes

theorem eqIntsAt (w : World) {sx sy : Value} {l : List Int} (h : IntsAt w sx l) (h' : IntsAt w sy l) : Calls Tryd.prog 64 #[sx, sy] w fun e w' => e = .returned (.bool true) ∧ Ext w w' := by
  obtain ⟨A, ca, rfl, hA, h1, h2⟩ := h
  obtain ⟨B, cb, rfl, hB, _, _⟩ := h'
  exact eqInts_any A B l.length ca cb (fun i => l.getD i 0) w hA hB (by unfold maxLen at h2; omega)

set_option maxRecDepth 100000 in
set_option maxHeartbeats 4000000 in
theorem dateNames_walk (hwk : WorksOk) (A A' : Option Addr) (ca cb : Nat) (c : Cal) (x y : ByteArray) (hnm : y.size ≤ maxLen) (n : Int) (hn1 : -9223372036854775808 ≤ n) (hn2 : n ≤ 9223372036854775807) (w : World) (hC : CalAt w A ca A' cb c) (hnA : A = none → c.nk = 0 ∧ ca = 0) (hnA' : A' = none → c.ny = 0 ∧ cb = 0) (hk : c.nk * 16 ≤ 140737488351232) (hy : c.ny * 40 ≤ 140737488351232) :
    Calls Tryd.prog 18 #[.agg #[.slice A c.nk ca, .slice A' c.ny cb], .agg #[.string x, .string y], .int .i64 n] w fun e w' => e = .returned (.bool true) ∧ Ext w w' := by
  have hwk : ∀ w : World, Calls Tryd.prog 28 #[] w fun e w' => e = .returned (.bool true) ∧ Ext w w' := hwk
  have NCP := fun v (h : CalAt v A ca A' cb c) => copy_any A A' ca cb c v h hnA hnA' hk hy
  have NSM := fun v {B B' : Option Addr} {da db : Nat} (h : CalAt v B da B' db c) (h' : CalAt v A ca A' cb c) => sameCal_any B B' A A' da db ca cb c v h h'
  have N1 := fun v {B B' : Option Addr} {da db : Nat} (h : CalAt v B da B' db c) => yearOf_any B B' da db c x n hn1 hn2 v h
  have M1 := fun v (h : CalAt v A ca A' cb c) => yearOf_any_r A A' ca cb c x n hn1 hn2 v h
  have N2 := fun v {B B' : Option Addr} {da db : Nat} (h : CalAt v B da B' db c) => named_any B B' da db c y x hnm v h
  have M2 := fun v (h : CalAt v A ca A' cb c) => named_any_r A A' ca cb c y x v h
  have NEQ := fun w {sx sy : Value} (h : IntsAt w sx ((c.namedV y x).map fun (i : Nat) => (i : Int))) (h' : IntsAt w sy ((c.namedV y x).map fun (i : Nat) => (i : Int))) => eqIntsAt w h h'
  generalize c.yofV x n = p at *
  generalize c.yofE x n = e1 at *
  generalize c.chk = e2 at *
  generalize ((c.namedV y x).map fun (i : Nat) => (i : Int)) = l at *
  clear hnA hnA' hk hy hn1 hn2 hnm
  go_enter Tryd.func18, Tryd.ntmps18
  go_upto_region 1 with (fail)
  obtain ⟨v, hv⟩ : ∃ v, v = ((w.alloc (.cells #[.slice A c.nk ca, .slice A' c.ny cb] 25)).alloc (.cells #[.string x, .string y] 81)) := ⟨_, rfl⟩
  rw [← hv]
  have E : Ext w v := by rw [hv]; exact ((Ext.refl _).alloc _).alloc _
  have B1 : Held v w.heap.size 25 #[.slice A c.nk ca, .slice A' c.ny cb] := by rw [hv]; exact (Held.new _ _ _).alloc _
  have B2 : Held v (w.heap.size + 1) 81 #[.string x, .string y] := by rw [hv]; exact Held.at _ _ _ _ (by simp)
  clear hv
  have C := hC.ext E
  clear hC
  generalize w.heap.size = b1 at *
  obtain ⟨k0, k1⟩ := B1.c2; have lk := B1.lt
  obtain ⟨p0, p1⟩ := B2.c2; have lp := B2.lt
  go_upto_region 2 with (go_at_call 23; (with_reducible refine Calls.mono (NCP _ C) ?_); rintro e v2 ⟨B, B', da, db, rfl, h, D⟩)
  replace E := Ext.trans E h
  replace C := C.ext h
  replace B1 := B1.ext h
  replace B2 := B2.ext h
  clear h
  clear k0 k1 lk
  clear p0 p1 lp
  obtain ⟨k0, k1⟩ := B1.c2; have lk := B1.lt
  obtain ⟨p0, p1⟩ := B2.c2; have lp := B2.lt
  obtain ⟨v3, hv⟩ : ∃ v, v = v2.alloc (.cells #[.slice B c.nk da, .slice B' c.ny db] 25) := ⟨_, rfl⟩
  rw [← hv]
  have h : Ext v2 v3 := by rw [hv]; exact (Ext.refl _).alloc _
  have B6 : Held v3 v2.heap.size 25 #[.slice B c.nk da, .slice B' c.ny db] := by rw [hv]; exact Held.new _ _ _
  clear hv
  generalize v2.heap.size = b9 at *
  replace E := Ext.trans E h
  replace C := C.ext h
  replace D := D.ext h
  replace B1 := B1.ext h
  replace B2 := B2.ext h
  clear h
  clear k0 k1 lk
  clear p0 p1 lp
  obtain ⟨k0, k1⟩ := B1.c2; have lk := B1.lt
  obtain ⟨p0, p1⟩ := B2.c2; have lp := B2.lt
  obtain ⟨t0, t1⟩ := B6.c2; have lt := B6.lt
  go_upto_region 3 with (go_at_call 60; (with_reducible refine Calls.mono (N1 _ D) ?_); rintro e v4 ⟨rfl, h⟩)
  replace E := Ext.trans E h
  replace C := C.ext h
  replace D := D.ext h
  replace B1 := B1.ext h
  replace B2 := B2.ext h
  replace B6 := B6.ext h
  clear h
  clear k0 k1 lk
  clear p0 p1 lp
  clear t0 t1 lt
  obtain ⟨k0, k1⟩ := B1.c2; have lk := B1.lt
  obtain ⟨p0, p1⟩ := B2.c2; have lp := B2.lt
  obtain ⟨t0, t1⟩ := B6.c2; have lt := B6.lt
  go_upto_region 4 with (go_at_call 61; (with_reducible refine Calls.mono (M1 _ C) ?_); rintro e v5 ⟨rfl, h⟩)
  replace E := Ext.trans E h
  replace C := C.ext h
  replace D := D.ext h
  replace B1 := B1.ext h
  replace B2 := B2.ext h
  replace B6 := B6.ext h
  clear h
  clear k0 k1 lk
  clear p0 p1 lp
  clear t0 t1 lt
  obtain ⟨k0, k1⟩ := B1.c2; have lk := B1.lt
  obtain ⟨p0, p1⟩ := B2.c2; have lp := B2.lt
  obtain ⟨t0, t1⟩ := B6.c2; have lt := B6.lt
  go_upto_region 6 with (go_at_call 62; (with_reducible refine Calls.mono (N2 _ D) ?_); rintro e v6 ⟨sx, rfl, h, SX⟩)
  replace E := Ext.trans E h
  replace C := C.ext h
  replace D := D.ext h
  replace B1 := B1.ext h
  replace B2 := B2.ext h
  replace B6 := B6.ext h
  clear h
  clear k0 k1 lk
  clear p0 p1 lp
  clear t0 t1 lt
  obtain ⟨k0, k1⟩ := B1.c2; have lk := B1.lt
  obtain ⟨p0, p1⟩ := B2.c2; have lp := B2.lt
  obtain ⟨t0, t1⟩ := B6.c2; have lt := B6.lt
  go_upto_region 7 with (go_at_call 63; (with_reducible refine Calls.mono (M2 _ C) ?_); rintro e v7 ⟨sy, rfl, h, SY⟩)
  replace SX := SX.ext h
  replace E := Ext.trans E h
  replace C := C.ext h
  replace D := D.ext h
  replace B1 := B1.ext h
  replace B2 := B2.ext h
  replace B6 := B6.ext h
  clear h
  clear k0 k1 lk
  clear p0 p1 lp
  clear t0 t1 lt
  obtain ⟨k0, k1⟩ := B1.c2; have lk := B1.lt
  obtain ⟨p0, p1⟩ := B2.c2; have lp := B2.lt
  obtain ⟨t0, t1⟩ := B6.c2; have lt := B6.lt
  go_wp2_with (first | (go_at_call 64; (with_reducible refine Calls.mono (NEQ _ SX SY) ?_); rintro e v8 ⟨rfl, h7⟩; have D7 := D.ext h7; have C7 := C.ext h7; clear k0 k1 lk; obtain ⟨k0, k1⟩ := (B1.ext h7).c2; have lk := (B1.ext h7).lt; clear t0 t1 lt; obtain ⟨t0, t1⟩ := (B6.ext h7).c2; have lt := (B6.ext h7).lt) | (go_at_call 27; (with_reducible refine Calls.mono (NSM _ D7 C7) ?_); rintro e v9 ⟨rfl, h8⟩) | (go_at_call 28; (with_reducible refine Calls.mono (hwk _) ?_); rintro e v10 ⟨rfl, h9⟩))
  go_ret
  exact ⟨rfl, E.trans (h7.trans (h8.trans h9))⟩
end Go.Proofs.YtfchchmmjabjnaaDoor
