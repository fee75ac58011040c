/- The walk of DateBack. -/
import Derived.Test.YtfchchmmjabjnaaDoorLb
import Derived.Test.YtfchchmmjabjnaaDoorPl4
import Derived.Test.YtfchchmmjabjnaaDoorW8
import Derived.Test.YtfchchmmjabjnaaDoorWa
namespace Go.Proofs.YtfchchmmjabjnaaDoor
open Go Go.RowKit
attribute [local go_sem] gv_yes Dt.val

theorem date_neq (a : Dt) (w : World) : (binOp .neq 39 (.agg #[.int .i64 a.y, .int .i64 a.m, .bool a.s, .int .i64 a.d]) (.agg #[.int .i64 a.y, .int .i64 a.m, .bool a.s, .int .i64 a.d])).run Tryd.prog w = .ok (.bool false) w := by
  rw [neq_date]; simp
set_option maxRecDepth 100000 in
set_option maxHeartbeats 8000000 in
theorem dateBack_walk (hwk : WorksOk) (A A' : Option Addr) (ca cb : Nat) (c : Cal) (n : Int) (hn1 : -9223372036854775808 ≤ n) (hn2 : n ≤ 9223372036854775807) (w : World) (hC : CalAt w A ca A' cb c) :
    Calls Tryd.prog 16 #[.agg #[.slice A c.nk ca, .slice A' c.ny cb], .int .i64 n] w fun e w' => e = .returned (.bool true) ∧ Ext w w' := by
  have hwk : ∀ w : World, Calls Tryd.prog 28 #[] w fun e w' => e = .returned (.bool true) ∧ Ext w w' := hwk
  have NC := fun v (h : CalAt v A ca A' cb c) => check_any A A' ca cb c v h
  cases hv : c.valid
  · have h1 : c.chk = 70 := by unfold Cal.chk; rw [hv]; rfl
    simp only [h1] at NC
    clear h1 hv
    go_enter Tryd.func16, Tryd.ntmps16
    go_upto_region 1 with (fail)
    obtain ⟨v, hv⟩ : ∃ v, v = (w.alloc (.cells #[.slice A c.nk ca, .slice A' c.ny cb] 25)) := ⟨_, rfl⟩
    rw [← hv]
    have E : Ext w v := by rw [hv]; exact (Ext.refl _).alloc _
    have B1 : Held v w.heap.size 25 #[.slice A c.nk ca, .slice A' c.ny cb] := by rw [hv]; exact (Held.new _ _ _)
    clear hv
    have C := hC.ext E
    clear hC
    generalize w.heap.size = b1 at *
    obtain ⟨k0, k1⟩ := B1.c2; have lk := B1.lt
    go_upto_region 2 with (go_at_call 41; (with_reducible refine Calls.mono (NC _ C) ?_); rintro e v2 ⟨rfl, h⟩)
    replace E := Ext.trans E h
    replace C := C.ext h
    replace B1 := B1.ext h
    clear h
    clear k0 k1 lk
    obtain ⟨k0, k1⟩ := B1.c2; have lk := B1.lt
    go_wp2_with (go_at_call 28; (with_reducible refine Calls.mono (hwk _) ?_); rintro e v3 ⟨rfl, h⟩)
    go_ret
    exact ⟨rfl, E.trans h⟩
  · have h1 : c.chk = 0 := by unfold Cal.chk; rw [hv]; rfl
    simp only [h1] at NC
    have HY := Lib.hid (valid_ny hv)
    have HV := Lib.hid hv
    have hny := hC.ny_le
    have HF : Hid (∀ k : Nat, k < c.ny → c.atV (c.dayAt k) = ⟨k, 1, false, 1⟩ ∧ c.atE (c.dayAt k) = 0) := fun k hk => by unfold Cal.atV Cal.atE; rw [hv, at_first hk]; exact ⟨rfl, rfl⟩
    have HD : Hid (∀ k : Nat, k < c.ny → c.daysR (k : Int) = ((c.yr k).days, 0)) := fun k hk => by
      unfold Cal.daysR Cal.yrI
      rw [hv, if_pos rfl, if_pos ⟨by omega, by omega⟩, show ((k : Int)).toNat = k by omega]
    clear h1 hv
    go_enter Tryd.func16, Tryd.ntmps16
    go_upto_region 1 with (fail)
    obtain ⟨v, hv⟩ : ∃ v, v = (w.alloc (.cells #[.slice A c.nk ca, .slice A' c.ny cb] 25)) := ⟨_, rfl⟩
    rw [← hv]
    have E : Ext w v := by rw [hv]; exact (Ext.refl _).alloc _
    have B1 : Held v w.heap.size 25 #[.slice A c.nk ca, .slice A' c.ny cb] := by rw [hv]; exact (Held.new _ _ _)
    clear hv
    have C := hC.ext E
    clear hC
    generalize w.heap.size = b1 at *
    obtain ⟨k0, k1⟩ := B1.c2; have lk := B1.lt
    go_upto_region 2 with (go_at_call 41; (with_reducible refine Calls.mono (NC _ C) ?_); rintro e v2 ⟨rfl, h⟩)
    replace E := Ext.trans E h
    replace C := C.ext h
    replace B1 := B1.ext h
    clear h
    clear k0 k1 lk
    obtain ⟨k0, k1⟩ := B1.c2; have lk := B1.lt
    clear NC
    have E0 := E
    go_upto_region 5 with (fail)
    go_loopw [5, 6] (fun al i wr => ∃ k : Nat, k ≤ c.ny ∧ i = .int .i64 k ∧ al = .int .i64 (c.dayAt k - 1) ∧ Ext v2 wr) (fun _ i _ => c.ny - (intOf i).toNat)
    case atStart => exact ⟨0, Nat.zero_le _, rfl, rfl, Ext.refl _⟩
    case round =>
      obtain ⟨k, hk, rfl, rfl, hE⟩ := hrel
      obtain ⟨wo, rfl⟩ : ∃ wo : World, wo = wr := ⟨_, rfl⟩
      replace E := hE
      have C := C.ext hE
      have B1 := B1.ext hE
      clear k0 k1 lk
      obtain ⟨k0, k1⟩ := B1.c2
      have lk := B1.lt
      by_cases hlt : k < c.ny
      · obtain ⟨x, hx⟩ : ∃ x, x = c.dayAt k := ⟨_, rfl⟩
        obtain ⟨z, hz⟩ : ∃ z, z = (c.yr k).days := ⟨_, rfl⟩
        have hx' : Hid (c.dayAt (k + 1) - 1 = x - 1 + z) := by unfold Hid; rw [hx, hz, Cal.dayAt]; omega
        have hxb : 1 ≤ x ∧ x ≤ 156001 := by have h1 := dayAt_bd c k; have h2 := HY.out; omega
        have hzb := days_bd (c.yr k)
        rw [← hz] at hzb
        obtain ⟨hx1, hx2⟩ := hxb
        obtain ⟨hz1, hz2⟩ := hzb
        have hav := HF.out k hlt
        have hdr := HD.out k hlt
        rw [← hz] at hdr
        rw [← hx] at hav
        have NA : ∀ v, CalAt v A ca A' cb c → Calls Tryd.prog 39 #[.agg #[.slice A c.nk ca, .slice A' c.ny cb], .int .i64 x] v fun e w' => e = .returned (.tuple #[.agg #[.int .i64 (k : Int), .int .i64 1, .bool false, .int .i64 1], .int .i64 0]) ∧ Ext v w' := fun v h => by
          have := atX_any A A' ca cb c x v h (by omega) (by omega)
          rw [hav.1, hav.2] at this
          exact this
        have ND : ∀ v, CalAt v A ca A' cb c → Calls Tryd.prog 58 #[.agg #[.slice A c.nk ca, .slice A' c.ny cb], .int .i64 k] v fun e w' => e = .returned (.tuple #[.int .i64 z, .int .i64 0]) ∧ Ext v w' := fun v h => by
          have := daysX_any A A' ca cb c k v h
          rw [hdr] at this
          exact this
        have NQ := fun w => date_neq ⟨k, 1, false, 1⟩ w
        rw [← hx]
        clear hav hdr hx hz
        go_upto_region 7 with (fail)
        have hxx : x - 1 + 1 = x := by omega
        go_upto_region 8 with (go_at_call 39; (try rw [hxx]); (with_reducible refine Calls.mono (NA _ C) ?_); rintro e v3 ⟨rfl, h⟩)
        replace E := Ext.trans E h
        replace C := C.ext h
        replace B1 := B1.ext h
        clear h
        clear k0 k1 lk
        obtain ⟨k0, k1⟩ := B1.c2; have lk := B1.lt
        obtain ⟨v4, hv⟩ : ∃ v, v = v3.alloc (.cells #[.int .i64 (k : Int), .int .i64 1, .bool false, .int .i64 1] 39) := ⟨_, rfl⟩
        rw [← hv]
        have h : Ext v3 v4 := by rw [hv]; exact (Ext.refl _).alloc _
        have B2 : Held v4 v3.heap.size 39 #[.int .i64 (k : Int), .int .i64 1, .bool false, .int .i64 1] := by rw [hv]; exact Held.new _ _ _
        clear hv
        generalize v3.heap.size = b2 at *
        replace E := Ext.trans E h
        replace C := C.ext h
        replace B1 := B1.ext h
        clear h
        clear k0 k1 lk
        obtain ⟨k0, k1⟩ := B1.c2; have lk := B1.lt
        obtain ⟨p0, p1, p2, p3⟩ := B2.c4; have lp := B2.lt
        go_upto_region 9 with (go_at_call 58; (with_reducible refine Calls.mono (ND _ C) ?_); rintro e v5 ⟨rfl, h⟩)
        replace E := Ext.trans E h
        replace C := C.ext h
        replace B1 := B1.ext h
        replace B2 := B2.ext h
        clear h
        clear k0 k1 lk
        clear p0 p1 p2 p3 lp
        obtain ⟨k0, k1⟩ := B1.c2; have lk := B1.lt
        obtain ⟨p0, p1, p2, p3⟩ := B2.c4; have lp := B2.lt
        have f1 : decide (z < 348) = false := decide_eq_false (by omega)
        have f2 : decide (390 < z) = false := decide_eq_false (by omega)
        go_wp2
        exact ⟨⟨k + 1, by omega, by go_num, by rw [hx'.out], E⟩, by simp [intOf]; omega⟩
      · have hkn : k = c.ny := by omega
        subst hkn
        clear HD HF
        by_cases hr : n < 1 ∨ c.dayAt c.ny - 1 < n
        · have h8 : c.atE n = 8 := by unfold Cal.atE; rw [HV.out, at_out (by omega)]; rfl
          have NA : ∀ v, CalAt v A ca A' cb c → Calls Tryd.prog 39 #[.agg #[.slice A c.nk ca, .slice A' c.ny cb], .int .i64 n] v fun e w' => e = .returned (.tuple #[.agg #[.int .i64 (c.atV n).y, .int .i64 (c.atV n).m, .bool (c.atV n).s, .int .i64 (c.atV n).d], .int .i64 8]) ∧ Ext v w' := fun v h => by
            have := atX_any A A' ca cb c n v h hn1 hn2
            rw [h8] at this
            exact this
          clear h8
          generalize c.atV n = d at *
          generalize c.dayAt c.ny - 1 = al at *
          by_cases h1 : n < 1
          · skip
            go_upto_region 13 with (go_at_call 39; (with_reducible refine Calls.mono (NA _ C) ?_); rintro e v3 ⟨rfl, h⟩)
            replace E := Ext.trans E h
            replace C := C.ext h
            replace B1 := B1.ext h
            clear h
            clear k0 k1 lk
            obtain ⟨k0, k1⟩ := B1.c2; have lk := B1.lt
            obtain ⟨v4, hv⟩ : ∃ v, v = v3.alloc (.cells #[.int .i64 d.y, .int .i64 d.m, .bool d.s, .int .i64 d.d] 39) := ⟨_, rfl⟩
            rw [← hv]
            have h : Ext v3 v4 := by rw [hv]; exact (Ext.refl _).alloc _
            have B2 : Held v4 v3.heap.size 39 #[.int .i64 d.y, .int .i64 d.m, .bool d.s, .int .i64 d.d] := by rw [hv]; exact Held.new _ _ _
            clear hv
            generalize v3.heap.size = b2 at *
            replace E := Ext.trans E h
            replace C := C.ext h
            replace B1 := B1.ext h
            clear h
            clear k0 k1 lk
            obtain ⟨k0, k1⟩ := B1.c2; have lk := B1.lt
            obtain ⟨p0, p1, p2, p3⟩ := B2.c4; have lp := B2.lt
            go_wp2_with (go_at_call 28; (with_reducible refine Calls.mono (hwk _) ?_); rintro e v5 ⟨rfl, h⟩)
            go_ret
            exact ⟨rfl, E0.trans (E.trans h)⟩
          · have h2 : decide (al < n) = true := decide_eq_true (by omega)
            go_upto_region 13 with (go_at_call 39; (with_reducible refine Calls.mono (NA _ C) ?_); rintro e v3 ⟨rfl, h⟩)
            replace E := Ext.trans E h
            replace C := C.ext h
            replace B1 := B1.ext h
            clear h
            clear k0 k1 lk
            obtain ⟨k0, k1⟩ := B1.c2; have lk := B1.lt
            obtain ⟨v4, hv⟩ : ∃ v, v = v3.alloc (.cells #[.int .i64 d.y, .int .i64 d.m, .bool d.s, .int .i64 d.d] 39) := ⟨_, rfl⟩
            rw [← hv]
            have h : Ext v3 v4 := by rw [hv]; exact (Ext.refl _).alloc _
            have B2 : Held v4 v3.heap.size 39 #[.int .i64 d.y, .int .i64 d.m, .bool d.s, .int .i64 d.d] := by rw [hv]; exact Held.new _ _ _
            clear hv
            generalize v3.heap.size = b2 at *
            replace E := Ext.trans E h
            replace C := C.ext h
            replace B1 := B1.ext h
            clear h
            clear k0 k1 lk
            obtain ⟨k0, k1⟩ := B1.c2; have lk := B1.lt
            obtain ⟨p0, p1, p2, p3⟩ := B2.c4; have lp := B2.lt
            go_wp2_with (go_at_call 28; (with_reducible refine Calls.mono (hwk _) ?_); rintro e v5 ⟨rfl, h⟩)
            go_ret
            exact ⟨rfl, E0.trans (E.trans h)⟩
        · obtain ⟨d, hd⟩ := at_in (c := c) (n := n) (by omega) (by omega)
          obtain ⟨hh, hnum⟩ := at_has hd
          have NA : ∀ v, CalAt v A ca A' cb c → Calls Tryd.prog 39 #[.agg #[.slice A c.nk ca, .slice A' c.ny cb], .int .i64 n] v fun e w' => e = .returned (.tuple #[.agg #[.int .i64 d.y, .int .i64 d.m, .bool d.s, .int .i64 d.d], .int .i64 0]) ∧ Ext v w' := fun v h => by
            have := atX_any A A' ca cb c n v h hn1 hn2
            rw [show c.atV n = d by unfold Cal.atV; rw [HV.out, hd]; rfl, show c.atE n = 0 by unfold Cal.atE; rw [HV.out, hd]; rfl] at this
            exact this
          have NN : ∀ v, CalAt v A ca A' cb c → Calls Tryd.prog 29 #[.agg #[.slice A c.nk ca, .slice A' c.ny cb], .agg #[.int .i64 d.y, .int .i64 d.m, .bool d.s, .int .i64 d.d]] v fun e w' => e = .returned (.tuple #[.int .i64 n, .int .i64 0]) ∧ Ext v w' := fun v h => by
            have := numberX_any A A' ca cb c d v h
            rw [show c.numV d = n by unfold Cal.numV; rw [if_pos (inE_of HV.out hh)]; exact hnum, inE_of HV.out hh] at this
            exact this
          have NI : ∀ v, CalAt v A ca A' cb c → Calls Tryd.prog 52 #[.agg #[.slice A c.nk ca, .slice A' c.ny cb], .agg #[.int .i64 d.y, .int .i64 d.m, .bool d.s, .int .i64 d.d]] v fun e w' => e = .returned (.tuple #[.bool true, .int .i64 0]) ∧ Ext v w' := fun v h => by
            have := inX_any A A' ca cb c d v h
            rw [HV.out, hh, show c.chk = 0 by unfold Cal.chk; rw [HV.out]; rfl] at this
            exact this
          clear hd hh hnum
          generalize c.dayAt c.ny - 1 = al at *
          have h1 : decide (n < 1) = false := decide_eq_false (by omega)
          have h2 : decide (al < n) = false := decide_eq_false (by omega)
          go_upto_region 13 with (go_at_call 39; (with_reducible refine Calls.mono (NA _ C) ?_); rintro e v3 ⟨rfl, h⟩)
          replace E := Ext.trans E h
          replace C := C.ext h
          replace B1 := B1.ext h
          clear h
          clear k0 k1 lk
          obtain ⟨k0, k1⟩ := B1.c2; have lk := B1.lt
          obtain ⟨v4, hv⟩ : ∃ v, v = v3.alloc (.cells #[.int .i64 d.y, .int .i64 d.m, .bool d.s, .int .i64 d.d] 39) := ⟨_, rfl⟩
          rw [← hv]
          have h : Ext v3 v4 := by rw [hv]; exact (Ext.refl _).alloc _
          have B2 : Held v4 v3.heap.size 39 #[.int .i64 d.y, .int .i64 d.m, .bool d.s, .int .i64 d.d] := by rw [hv]; exact Held.new _ _ _
          clear hv
          generalize v3.heap.size = b2 at *
          replace E := Ext.trans E h
          replace C := C.ext h
          replace B1 := B1.ext h
          clear h
          clear k0 k1 lk
          obtain ⟨k0, k1⟩ := B1.c2; have lk := B1.lt
          obtain ⟨p0, p1, p2, p3⟩ := B2.c4; have lp := B2.lt
          go_upto_region 16 with (go_at_call 29; (with_reducible refine Calls.mono (NN _ C) ?_); rintro e v5 ⟨rfl, h⟩)
          replace E := Ext.trans E h
          replace C := C.ext h
          replace B1 := B1.ext h
          replace B2 := B2.ext h
          clear h
          clear k0 k1 lk
          clear p0 p1 p2 p3 lp
          obtain ⟨k0, k1⟩ := B1.c2; have lk := B1.lt
          obtain ⟨p0, p1, p2, p3⟩ := B2.c4; have lp := B2.lt
          go_upto_region 17 with (go_at_call 52; (with_reducible refine Calls.mono (NI _ C) ?_); rintro e v6 ⟨rfl, h⟩)
          replace E := Ext.trans E h
          replace C := C.ext h
          replace B1 := B1.ext h
          replace B2 := B2.ext h
          clear h
          clear k0 k1 lk
          clear p0 p1 p2 p3 lp
          obtain ⟨k0, k1⟩ := B1.c2; have lk := B1.lt
          obtain ⟨p0, p1, p2, p3⟩ := B2.c4; have lp := B2.lt
          go_wp2_with (go_at_call 28; (with_reducible refine Calls.mono (hwk _) ?_); rintro e v7 ⟨rfl, h⟩)
          go_ret
          exact ⟨rfl, E0.trans (E.trans h)⟩
end Go.Proofs.YtfchchmmjabjnaaDoor
