/- The walk of DateExtendKeeps. -/
import Derived.Test.YtfchchmmjabjnaaDoorLa
import Derived.Test.YtfchchmmjabjnaaDoorYq
namespace Go.Proofs.YtfchchmmjabjnaaDoor
open Go Go.RowKit
attribute [local go_sem] gv_yes
attribute [local go_sem high] neq_date
set_option maxRecDepth 100000 in
set_option maxHeartbeats 4000000 in
theorem dateExtendKeeps_walk (hwk : WorksOk) (A A' Bn : Option Addr) (ca cb n cap : Nat) (c : Cal) (g : Nat → ByteArray) (p m : Int) (hm1 : -9223372036854775808 ≤ m) (hm2 : m ≤ 9223372036854775807) (w : World) (hC : CalAt w A ca A' cb c) (hN : RowsAt w Bn n 1 (fun i => [.string (g i)])) (hn : n ≤ 9223372036854775807) :
    Calls Tryd.prog 22 #[.agg #[.slice A c.nk ca, .slice A' c.ny cb], .slice Bn n cap, .agg #[.int .i64 p, .int .i64 m]] w fun e w' => e = .returned (.bool true) ∧ Ext w w' := by
  have hwk : ∀ w : World, Calls Tryd.prog 28 #[] w fun e w' => e = .returned (.bool true) ∧ Ext w w' := hwk
  by_cases hE : c.extE g n p = 0
  · obtain ⟨hv, hp, hl, hall, hX⟩ := extE_ok hE
    have N1 : ∀ v, CalAt v A ca A' cb c → RowsAt v Bn n 1 (fun i => [.string (g i)]) → Calls Tryd.prog 72 #[.agg #[.slice A c.nk ca, .slice A' c.ny cb], .slice Bn n cap, .int .i64 p] v fun e w' => ∃ F F' da db, e = .returned (.tuple #[.agg #[.slice F c.nk da, .slice F' (c.ny + n) db], .int .i64 0]) ∧ Ext v w' ∧ CalAt w' F da F' db (c.ext p.toNat g n) := fun v h h' => by
      have := extend_any A A' Bn ca cb n cap c g p v h h' hn
      rw [hX, hE] at this
      exact this
    have hXv := ext_valid hv hl.2 hall
    have hchk := chk_yes hXv
    have hat := fun h => ext_atE (n := m) hE h
    rw [hX] at hat
    obtain ⟨q, rfl⟩ : ∃ q : Nat, p = (q : Int) := ⟨p.toNat, by omega⟩
    have hq1 : 1 ≤ q := by omega
    have hq2 : q ≤ 19 := by omega
    have hseven := many_seven hq1 hq2
    rw [show ((q : Int)).toNat = q from rfl] at *
    have hny := (valid_iff.1 hv).ny.2
    have hnyy : Hid (∀ i, (c.ext q g n).yr (c.ny + i) = newYr c.lastK (placeAt q i) (g i)) := fun i => extY_new c q g i
    have hXn : Hid ((c.ext q g n).ny = c.ny + n) := rfl
    have hXk : Hid ((c.ext q g n).nk = c.nk) := rfl
    generalize hXX : c.ext q g n = X at *
    have NC : ∀ v {F F' : Option Addr} {da db : Nat}, CalAt v F da F' db X → Calls Tryd.prog 41 #[.agg #[.slice F c.nk da, .slice F' (c.ny + n) db]] v fun e w' => e = .returned (.int .i64 0) ∧ Ext v w' := fun v {F F' da db} h => by
      have := check_any F F' da db X v h
      rw [hXn.out, hXk.out, hchk] at this
      exact this
    have NA := fun v (h : CalAt v A ca A' cb c) => atX_any A A' ca cb c m v h hm1 hm2
    have NX : ∀ v {F F' : Option Addr} {da db : Nat}, CalAt v F da F' db X → Calls Tryd.prog 39 #[.agg #[.slice F c.nk da, .slice F' (c.ny + n) db], .int .i64 m] v fun e w' => e = .returned (.tuple #[(X.atV m).val, .int .i64 (X.atE m)]) ∧ Ext v w' := fun v {F F' da db} h => by
      have := atX_any F F' da db X m v h hm1 hm2
      rw [hXn.out, hXk.out] at this
      exact this
    have hms : ∀ k, many q (k + 1) = many q k + (if 0 < dbl (placeAt q k) then 1 else 0) := fun _ => rfl
    have hml := many_le q
    have hm0 : many q 0 = 0 := rfl
    generalize many q = mny at *
    unfold Dt.val at NA NX
    clear hXX hX hE hv hp hall hXv hchk
    have hcase : (c.atE m = 0 ∧ X.atE m = 0 ∧ X.atV m = c.atV m) ∨ ¬ c.atE m = 0 := by
      by_cases h : c.atE m = 0
      · exact .inl ⟨h, hat h⟩
      · exact .inr h
    clear hat
    generalize X.atV m = D2 at *
    generalize X.atE m = e2 at *
    generalize c.atV m = D1 at *
    generalize c.atE m = e1 at *
    rcases hcase with ⟨rfl, rfl, rfl⟩ | hne
    · go_enter Tryd.func22, Tryd.ntmps22
      go_upto_region 1 with (fail)
      obtain ⟨v, hv⟩ : ∃ v, v = ((w.alloc (.cells #[.slice A c.nk ca, .slice A' c.ny cb] 25)).alloc (.cells #[.int .i64 (q : Int), .int .i64 m] 47)) := ⟨_, rfl⟩
      rw [← hv]
      have E : Ext w v := by rw [hv]; exact ((Ext.refl _).alloc _).alloc _
      have B1 : Held v w.heap.size 25 #[.slice A c.nk ca, .slice A' c.ny cb] := by rw [hv]; exact (Held.new _ _ _).alloc _
      have B2 : Held v (w.heap.size + 1) 47 #[.int .i64 (q : Int), .int .i64 m] := by rw [hv]; exact Held.at _ _ _ _ (by simp)
      clear hv
      have C := hC.ext E
      clear hC
      generalize w.heap.size = b1 at *
      obtain ⟨k0, k1⟩ := B1.c2; have lk := B1.lt
      obtain ⟨p0, p1⟩ := B2.c2; have lp := B2.lt
      have NR := hN.ext E
      clear hN
      go_upto_region 3 with (go_at_call 72; (with_reducible refine Calls.mono (N1 _ C NR) ?_); rintro e v2 ⟨F, F', da, db, rfl, h, CX⟩)
      replace NR := NR.ext h
      replace E := Ext.trans E h
      replace C := C.ext h
      replace B1 := B1.ext h
      replace B2 := B2.ext h
      clear h
      clear k0 k1 lk
      clear p0 p1 lp
      obtain ⟨k0, k1⟩ := B1.c2; have lk := B1.lt
      obtain ⟨p0, p1⟩ := B2.c2; have lp := B2.lt
      obtain ⟨v3, hv⟩ : ∃ v, v = v2.alloc (.cells #[.slice F c.nk da, .slice F' (c.ny + n) db] 25) := ⟨_, rfl⟩
      rw [← hv]
      have h : Ext v2 v3 := by rw [hv]; exact (Ext.refl _).alloc _
      have B3 : Held v3 v2.heap.size 25 #[.slice F c.nk da, .slice F' (c.ny + n) db] := by rw [hv]; exact Held.new _ _ _
      clear hv
      generalize v2.heap.size = b3 at *
      replace E := Ext.trans E h
      replace C := C.ext h
      replace B1 := B1.ext h
      replace B2 := B2.ext h
      replace CX := CX.ext h
      replace NR := NR.ext h
      clear h
      clear k0 k1 lk
      clear p0 p1 lp
      obtain ⟨k0, k1⟩ := B1.c2; have lk := B1.lt
      obtain ⟨p0, p1⟩ := B2.c2; have lp := B2.lt
      obtain ⟨q0, q1⟩ := B3.c2; have lq := B3.lt
      go_upto_region 6 with (go_at_call 39; (with_reducible refine Calls.mono (NA _ C) ?_); rintro e v4 ⟨rfl, h⟩)
      replace CX := CX.ext h
      replace NR := NR.ext h
      replace E := Ext.trans E h
      replace C := C.ext h
      replace B1 := B1.ext h
      replace B2 := B2.ext h
      replace B3 := B3.ext h
      clear h
      clear k0 k1 lk
      clear p0 p1 lp
      clear q0 q1 lq
      obtain ⟨k0, k1⟩ := B1.c2; have lk := B1.lt
      obtain ⟨p0, p1⟩ := B2.c2; have lp := B2.lt
      obtain ⟨q0, q1⟩ := B3.c2; have lq := B3.lt
      obtain ⟨v5, hv⟩ : ∃ v, v = v4.alloc (.cells #[.int .i64 D2.y, .int .i64 D2.m, .bool D2.s, .int .i64 D2.d] 39) := ⟨_, rfl⟩
      rw [← hv]
      have h : Ext v4 v5 := by rw [hv]; exact (Ext.refl _).alloc _
      have B4 : Held v5 v4.heap.size 39 #[.int .i64 D2.y, .int .i64 D2.m, .bool D2.s, .int .i64 D2.d] := by rw [hv]; exact Held.new _ _ _
      clear hv
      generalize v4.heap.size = b4 at *
      replace E := Ext.trans E h
      replace C := C.ext h
      replace B1 := B1.ext h
      replace B2 := B2.ext h
      replace B3 := B3.ext h
      replace CX := CX.ext h
      replace NR := NR.ext h
      clear h
      clear k0 k1 lk
      clear p0 p1 lp
      clear q0 q1 lq
      obtain ⟨k0, k1⟩ := B1.c2; have lk := B1.lt
      obtain ⟨p0, p1⟩ := B2.c2; have lp := B2.lt
      obtain ⟨q0, q1⟩ := B3.c2; have lq := B3.lt
      obtain ⟨r0, r1, r2, r3⟩ := B4.c4; have lr := B4.lt
      go_upto_region 7 with (go_at_call 39; (with_reducible refine Calls.mono (NX _ CX) ?_); rintro e v6 ⟨rfl, h⟩)
      replace CX := CX.ext h
      replace NR := NR.ext h
      replace E := Ext.trans E h
      replace C := C.ext h
      replace B1 := B1.ext h
      replace B2 := B2.ext h
      replace B3 := B3.ext h
      replace B4 := B4.ext h
      clear h
      clear k0 k1 lk
      clear p0 p1 lp
      clear q0 q1 lq
      clear r0 r1 r2 r3 lr
      obtain ⟨k0, k1⟩ := B1.c2; have lk := B1.lt
      obtain ⟨p0, p1⟩ := B2.c2; have lp := B2.lt
      obtain ⟨q0, q1⟩ := B3.c2; have lq := B3.lt
      obtain ⟨r0, r1, r2, r3⟩ := B4.c4; have lr := B4.lt
      obtain ⟨v7, hv⟩ : ∃ v, v = v6.alloc (.cells #[.int .i64 D2.y, .int .i64 D2.m, .bool D2.s, .int .i64 D2.d] 39) := ⟨_, rfl⟩
      rw [← hv]
      have h : Ext v6 v7 := by rw [hv]; exact (Ext.refl _).alloc _
      have B5 : Held v7 v6.heap.size 39 #[.int .i64 D2.y, .int .i64 D2.m, .bool D2.s, .int .i64 D2.d] := by rw [hv]; exact Held.new _ _ _
      clear hv
      generalize v6.heap.size = b5 at *
      replace E := Ext.trans E h
      replace C := C.ext h
      replace B1 := B1.ext h
      replace B2 := B2.ext h
      replace B3 := B3.ext h
      replace B4 := B4.ext h
      replace CX := CX.ext h
      replace NR := NR.ext h
      clear h
      clear k0 k1 lk
      clear p0 p1 lp
      clear q0 q1 lq
      clear r0 r1 r2 r3 lr
      obtain ⟨k0, k1⟩ := B1.c2; have lk := B1.lt
      obtain ⟨p0, p1⟩ := B2.c2; have lp := B2.lt
      obtain ⟨q0, q1⟩ := B3.c2; have lq := B3.lt
      obtain ⟨r0, r1, r2, r3⟩ := B4.c4; have lr := B4.lt
      obtain ⟨s0, s1, s2, s3⟩ := B5.c4; have ls := B5.lt
      go_upto_region 11 with (go_at_call 41; (with_reducible refine Calls.mono (NC _ CX) ?_); rintro e v8 ⟨rfl, h⟩; clear k0 k1 lk q0 q1 lq r0 r1 r2 r3 lr s0 s1 s2 s3 ls; obtain ⟨k0, k1⟩ := (B1.ext h).c2; have lk := (B1.ext h).lt; obtain ⟨q0, q1⟩ := (B3.ext h).c2; have lq := (B3.ext h).lt; obtain ⟨r0, r1, r2, r3⟩ := (B4.ext h).c4; have lr := (B4.ext h).lt; obtain ⟨s0, s1, s2, s3⟩ := (B5.ext h).c4; have ls := (B5.ext h).lt)
      replace CX := CX.ext h
      replace NR := NR.ext h
      replace E := Ext.trans E h
      replace C := C.ext h
      replace B1 := B1.ext h
      replace B2 := B2.ext h
      replace B3 := B3.ext h
      replace B4 := B4.ext h
      replace B5 := B5.ext h
      clear h
      clear k0 k1 lk
      clear p0 p1 lp
      clear q0 q1 lq
      clear r0 r1 r2 r3 lr
      clear s0 s1 s2 s3 ls
      obtain ⟨k0, k1⟩ := B1.c2; have lk := B1.lt
      obtain ⟨p0, p1⟩ := B2.c2; have lp := B2.lt
      obtain ⟨q0, q1⟩ := B3.c2; have lq := B3.lt
      obtain ⟨r0, r1, r2, r3⟩ := B4.c4; have lr := B4.lt
      obtain ⟨s0, s1, s2, s3⟩ := B5.c4; have ls := B5.lt
      clear k0 k1 lk p0 p1 lp q0 q1 lq r0 r1 r2 r3 lr s0 s1 s2 s3 ls
      go_loopw [13, 14] (fun mv iv wr => ∃ k : Nat, k ≤ n ∧ k ≤ 19 ∧ iv = .int .i64 (k : Int) ∧ mv = .int .i64 (mny k : Int) ∧ Ext v8 wr) (fun _ iv _ => 19 - (intOf iv).toNat)
      case atStart => exact ⟨0, Nat.zero_le _, by omega, rfl, by rw [hm0]; rfl, Ext.refl _⟩
      case round =>
        obtain ⟨k, hk, hk2, rfl, rfl, hE2⟩ := hrel
        obtain ⟨wo, rfl⟩ : ∃ wo : World, wo = wr := ⟨_, rfl⟩
        obtain ⟨k0, k1⟩ := (B1.ext hE2).c2
        have lk := (B1.ext hE2).lt
        obtain ⟨q0, q1⟩ := (B3.ext hE2).c2
        have lq := (B3.ext hE2).lt
        have hmk := hml k
        by_cases hlt : k < n ∧ k < 19
        · have b1 : decide ((k : Int) < (n : Int)) = true := decide_eq_true (by omega)
          have b2 : decide ((k : Int) < 19) = true := decide_eq_true (by omega)
          obtain ⟨yb, yo, e1, hyb, y0, y1, y2, y3⟩ := (CX.ext hE2).year (i := c.ny + k) (by rw [hXn.out]; omega)
          rw [hnyy.out] at y0 y1 y2 y3
          obtain ⟨nb, no, e2, hnb, hc⟩ := (NR.ext hE2) (by omega)
          subst e1
          subst e2
          have c0 : wo.cell? ⟨nb, no + k, none⟩ = some (.string (g k)) := by simpa using hc k 0 _ hlt.1 rfl
          have hs := Lib.hid (hms k)
          clear hc C CX NR
          replace y0 : wo.cell? ⟨yb, yo + (c.ny + k) * 4, none⟩ = some (.int .i64 c.lastK) := y0
          replace y1 : wo.cell? ⟨yb, yo + (c.ny + k) * 4 + 1, none⟩ = some (.string (g k)) := y1
          replace y2 : wo.cell? ⟨yb, yo + (c.ny + k) * 4 + 2, none⟩ = some (.int .i64 (lgOf (dbl (placeAt q k)))) := y2
          replace y3 : wo.cell? ⟨yb, yo + (c.ny + k) * 4 + 3, none⟩ = some (.int .i64 (dbl (placeAt q k))) := y3
          generalize lgOf (dbl (placeAt q k)) = lg at *
          generalize dbl (placeAt q k) = db2 at *
          generalize c.lastK = LK at *
          go_upto_region 14 with (fail)
          obtain ⟨wy, hwy⟩ : ∃ x, x = wo.alloc (.cells #[.int .i64 LK, .string (g k), .int .i64 lg, .int .i64 db2] 99) := ⟨_, rfl⟩
          rw [← hwy]
          have hy6 : Ext wo wy := by rw [hwy]; exact (Ext.refl _).alloc _
          have HBy : Held wy wo.heap.size 99 #[.int .i64 LK, .string (g k), .int .i64 lg, .int .i64 db2] := by rw [hwy]; exact Held.new _ _ _
          replace c0 := (hy6.cell (p := ⟨nb, no + k, none⟩) hnb).trans c0
          replace hnb := Nat.lt_of_lt_of_le hnb hy6.size
          clear hwy y0 y1 y2 y3 k0 k1 lk q0 q1 lq hyb
          generalize wo.heap.size = by_ at *
          obtain ⟨t0, t1, t2, t3⟩ := HBy.c4
          have lt := HBy.lt
          refine wp_region_xw wy mixed (by kernel_rfl) (by repeat (first | exact Ext.refl _ | (refine Ext.alloc ?_ _) | (refine Ext.trans ?_ (by assumption)))) ?_
          intro hne hrx hry
          try simp only []
          try simp only [List.append_eq, List.cons_append, List.nil_append]
          skip
          repeat (first
            | go_big_quiet_skip
            | (go_big_quiet_want; go_big_quiet_op; go_big_quiet_on))
          clear hne hry hrx
          refine wpQuiet_nil ?_
          intro wn hwn
          obtain ⟨hcwn, hfwn, hzwn⟩ := Ext.rules hwn
          try simp only [World.size_alloc] at hzwn
          obtain ⟨hcbwn, hfbwn, hzbwn⟩ := Ext.rules (show Ext wy wn from (by repeat (first | exact Ext.refl _ | (refine Ext.alloc ?_ _) | (refine Ext.trans ?_ (by assumption)))))
          clear hcwn hfwn
          by_cases hd : 0 < db2
          · have hdb : decide (0 < db2) = true := decide_eq_true hd
            rw [if_pos hd] at hs
            clear hd
            go_wp2
            exact ⟨⟨k + 1, by omega, by omega, by go_num, by rw [hs.out]; go_num, hE2.trans (hy6.trans hwn)⟩, by simp [intOf]; omega⟩
          · have hdb : decide (0 < db2) = false := decide_eq_false hd
            rw [if_neg hd] at hs
            clear hd
            go_wp2
            exact ⟨⟨k + 1, by omega, by omega, by go_num, by rw [hs.out]; go_num, hE2.trans (hy6.trans hwn)⟩, by simp [intOf]; omega⟩
        · by_cases h19 : n < 19
          · have b1 : decide ((k : Int) < (n : Int)) = false := decide_eq_false (by omega)
            have b3 : decide ((n : Int) < 19) = true := decide_eq_true (by omega)
            go_wp2_with (go_at_call 28; (with_reducible refine Calls.mono (hwk _) ?_); rintro e v9 ⟨rfl, h⟩)
            go_ret
            exact ⟨rfl, E.trans (hE2.trans h)⟩
          · obtain rfl : k = 19 := by omega
            have b2 : decide (((19 : Nat) : Int) < 19) = false := by decide
            have b3 : decide ((n : Int) < 19) = false := decide_eq_false (by omega)
            rw [hseven]
            go_wp2_with (go_at_call 28; (with_reducible refine Calls.mono (hwk _) ?_); rintro e v9 ⟨rfl, h⟩)
            all_goals
              go_ret
              exact ⟨rfl, E.trans (hE2.trans h)⟩
    · have hneb : (e1 == 0) = false := beq_eq_false_iff_ne.2 hne
      have hneb2 : (e1 != 0) = true := by rw [bne, hneb]; rfl
      clear hne
      go_enter Tryd.func22, Tryd.ntmps22
      go_upto_region 1 with (fail)
      obtain ⟨v, hv⟩ : ∃ v, v = ((w.alloc (.cells #[.slice A c.nk ca, .slice A' c.ny cb] 25)).alloc (.cells #[.int .i64 (q : Int), .int .i64 m] 47)) := ⟨_, rfl⟩
      rw [← hv]
      have E : Ext w v := by rw [hv]; exact ((Ext.refl _).alloc _).alloc _
      have B1 : Held v w.heap.size 25 #[.slice A c.nk ca, .slice A' c.ny cb] := by rw [hv]; exact (Held.new _ _ _).alloc _
      have B2 : Held v (w.heap.size + 1) 47 #[.int .i64 (q : Int), .int .i64 m] := by rw [hv]; exact Held.at _ _ _ _ (by simp)
      clear hv
      have C := hC.ext E
      clear hC
      generalize w.heap.size = b1 at *
      obtain ⟨k0, k1⟩ := B1.c2; have lk := B1.lt
      obtain ⟨p0, p1⟩ := B2.c2; have lp := B2.lt
      have NR := hN.ext E
      clear hN
      go_upto_region 3 with (go_at_call 72; (with_reducible refine Calls.mono (N1 _ C NR) ?_); rintro e v2 ⟨F, F', da, db, rfl, h, CX⟩)
      replace NR := NR.ext h
      replace E := Ext.trans E h
      replace C := C.ext h
      replace B1 := B1.ext h
      replace B2 := B2.ext h
      clear h
      clear k0 k1 lk
      clear p0 p1 lp
      obtain ⟨k0, k1⟩ := B1.c2; have lk := B1.lt
      obtain ⟨p0, p1⟩ := B2.c2; have lp := B2.lt
      obtain ⟨v3, hv⟩ : ∃ v, v = v2.alloc (.cells #[.slice F c.nk da, .slice F' (c.ny + n) db] 25) := ⟨_, rfl⟩
      rw [← hv]
      have h : Ext v2 v3 := by rw [hv]; exact (Ext.refl _).alloc _
      have B3 : Held v3 v2.heap.size 25 #[.slice F c.nk da, .slice F' (c.ny + n) db] := by rw [hv]; exact Held.new _ _ _
      clear hv
      generalize v2.heap.size = b3 at *
      replace E := Ext.trans E h
      replace C := C.ext h
      replace B1 := B1.ext h
      replace B2 := B2.ext h
      replace CX := CX.ext h
      replace NR := NR.ext h
      clear h
      clear k0 k1 lk
      clear p0 p1 lp
      obtain ⟨k0, k1⟩ := B1.c2; have lk := B1.lt
      obtain ⟨p0, p1⟩ := B2.c2; have lp := B2.lt
      obtain ⟨q0, q1⟩ := B3.c2; have lq := B3.lt
      go_upto_region 6 with (go_at_call 39; (with_reducible refine Calls.mono (NA _ C) ?_); rintro e v4 ⟨rfl, h⟩)
      replace CX := CX.ext h
      replace NR := NR.ext h
      replace E := Ext.trans E h
      replace C := C.ext h
      replace B1 := B1.ext h
      replace B2 := B2.ext h
      replace B3 := B3.ext h
      clear h
      clear k0 k1 lk
      clear p0 p1 lp
      clear q0 q1 lq
      obtain ⟨k0, k1⟩ := B1.c2; have lk := B1.lt
      obtain ⟨p0, p1⟩ := B2.c2; have lp := B2.lt
      obtain ⟨q0, q1⟩ := B3.c2; have lq := B3.lt
      obtain ⟨v5, hv⟩ : ∃ v, v = v4.alloc (.cells #[.int .i64 D1.y, .int .i64 D1.m, .bool D1.s, .int .i64 D1.d] 39) := ⟨_, rfl⟩
      rw [← hv]
      have h : Ext v4 v5 := by rw [hv]; exact (Ext.refl _).alloc _
      have B4 : Held v5 v4.heap.size 39 #[.int .i64 D1.y, .int .i64 D1.m, .bool D1.s, .int .i64 D1.d] := by rw [hv]; exact Held.new _ _ _
      clear hv
      generalize v4.heap.size = b4 at *
      replace E := Ext.trans E h
      replace C := C.ext h
      replace B1 := B1.ext h
      replace B2 := B2.ext h
      replace B3 := B3.ext h
      replace CX := CX.ext h
      replace NR := NR.ext h
      clear h
      clear k0 k1 lk
      clear p0 p1 lp
      clear q0 q1 lq
      obtain ⟨k0, k1⟩ := B1.c2; have lk := B1.lt
      obtain ⟨p0, p1⟩ := B2.c2; have lp := B2.lt
      obtain ⟨q0, q1⟩ := B3.c2; have lq := B3.lt
      obtain ⟨r0, r1, r2, r3⟩ := B4.c4; have lr := B4.lt
      go_upto_region 7 with (go_at_call 39; (with_reducible refine Calls.mono (NX _ CX) ?_); rintro e v6 ⟨rfl, h⟩)
      replace CX := CX.ext h
      replace NR := NR.ext h
      replace E := Ext.trans E h
      replace C := C.ext h
      replace B1 := B1.ext h
      replace B2 := B2.ext h
      replace B3 := B3.ext h
      replace B4 := B4.ext h
      clear h
      clear k0 k1 lk
      clear p0 p1 lp
      clear q0 q1 lq
      clear r0 r1 r2 r3 lr
      obtain ⟨k0, k1⟩ := B1.c2; have lk := B1.lt
      obtain ⟨p0, p1⟩ := B2.c2; have lp := B2.lt
      obtain ⟨q0, q1⟩ := B3.c2; have lq := B3.lt
      obtain ⟨r0, r1, r2, r3⟩ := B4.c4; have lr := B4.lt
      obtain ⟨v7, hv⟩ : ∃ v, v = v6.alloc (.cells #[.int .i64 D2.y, .int .i64 D2.m, .bool D2.s, .int .i64 D2.d] 39) := ⟨_, rfl⟩
      rw [← hv]
      have h : Ext v6 v7 := by rw [hv]; exact (Ext.refl _).alloc _
      have B5 : Held v7 v6.heap.size 39 #[.int .i64 D2.y, .int .i64 D2.m, .bool D2.s, .int .i64 D2.d] := by rw [hv]; exact Held.new _ _ _
      clear hv
      generalize v6.heap.size = b5 at *
      replace E := Ext.trans E h
      replace C := C.ext h
      replace B1 := B1.ext h
      replace B2 := B2.ext h
      replace B3 := B3.ext h
      replace B4 := B4.ext h
      replace CX := CX.ext h
      replace NR := NR.ext h
      clear h
      clear k0 k1 lk
      clear p0 p1 lp
      clear q0 q1 lq
      clear r0 r1 r2 r3 lr
      obtain ⟨k0, k1⟩ := B1.c2; have lk := B1.lt
      obtain ⟨p0, p1⟩ := B2.c2; have lp := B2.lt
      obtain ⟨q0, q1⟩ := B3.c2; have lq := B3.lt
      obtain ⟨r0, r1, r2, r3⟩ := B4.c4; have lr := B4.lt
      obtain ⟨s0, s1, s2, s3⟩ := B5.c4; have ls := B5.lt
      go_upto_region 11 with (go_at_call 41; (with_reducible refine Calls.mono (NC _ CX) ?_); rintro e v8 ⟨rfl, h⟩; clear k0 k1 lk q0 q1 lq r0 r1 r2 r3 lr s0 s1 s2 s3 ls; obtain ⟨k0, k1⟩ := (B1.ext h).c2; have lk := (B1.ext h).lt; obtain ⟨q0, q1⟩ := (B3.ext h).c2; have lq := (B3.ext h).lt; obtain ⟨r0, r1, r2, r3⟩ := (B4.ext h).c4; have lr := (B4.ext h).lt; obtain ⟨s0, s1, s2, s3⟩ := (B5.ext h).c4; have ls := (B5.ext h).lt)
      replace CX := CX.ext h
      replace NR := NR.ext h
      replace E := Ext.trans E h
      replace C := C.ext h
      replace B1 := B1.ext h
      replace B2 := B2.ext h
      replace B3 := B3.ext h
      replace B4 := B4.ext h
      replace B5 := B5.ext h
      clear h
      clear k0 k1 lk
      clear p0 p1 lp
      clear q0 q1 lq
      clear r0 r1 r2 r3 lr
      clear s0 s1 s2 s3 ls
      obtain ⟨k0, k1⟩ := B1.c2; have lk := B1.lt
      obtain ⟨p0, p1⟩ := B2.c2; have lp := B2.lt
      obtain ⟨q0, q1⟩ := B3.c2; have lq := B3.lt
      obtain ⟨r0, r1, r2, r3⟩ := B4.c4; have lr := B4.lt
      obtain ⟨s0, s1, s2, s3⟩ := B5.c4; have ls := B5.lt
      clear k0 k1 lk p0 p1 lp q0 q1 lq r0 r1 r2 r3 lr s0 s1 s2 s3 ls
      go_loopw [13, 14] (fun mv iv wr => ∃ k : Nat, k ≤ n ∧ k ≤ 19 ∧ iv = .int .i64 (k : Int) ∧ mv = .int .i64 (mny k : Int) ∧ Ext v8 wr) (fun _ iv _ => 19 - (intOf iv).toNat)
      case atStart => exact ⟨0, Nat.zero_le _, by omega, rfl, by rw [hm0]; rfl, Ext.refl _⟩
      case round =>
        obtain ⟨k, hk, hk2, rfl, rfl, hE2⟩ := hrel
        obtain ⟨wo, rfl⟩ : ∃ wo : World, wo = wr := ⟨_, rfl⟩
        obtain ⟨k0, k1⟩ := (B1.ext hE2).c2
        have lk := (B1.ext hE2).lt
        obtain ⟨q0, q1⟩ := (B3.ext hE2).c2
        have lq := (B3.ext hE2).lt
        have hmk := hml k
        by_cases hlt : k < n ∧ k < 19
        · have b1 : decide ((k : Int) < (n : Int)) = true := decide_eq_true (by omega)
          have b2 : decide ((k : Int) < 19) = true := decide_eq_true (by omega)
          obtain ⟨yb, yo, e1, hyb, y0, y1, y2, y3⟩ := (CX.ext hE2).year (i := c.ny + k) (by rw [hXn.out]; omega)
          rw [hnyy.out] at y0 y1 y2 y3
          obtain ⟨nb, no, e2, hnb, hc⟩ := (NR.ext hE2) (by omega)
          subst e1
          subst e2
          have c0 : wo.cell? ⟨nb, no + k, none⟩ = some (.string (g k)) := by simpa using hc k 0 _ hlt.1 rfl
          have hs := Lib.hid (hms k)
          clear hc C CX NR
          replace y0 : wo.cell? ⟨yb, yo + (c.ny + k) * 4, none⟩ = some (.int .i64 c.lastK) := y0
          replace y1 : wo.cell? ⟨yb, yo + (c.ny + k) * 4 + 1, none⟩ = some (.string (g k)) := y1
          replace y2 : wo.cell? ⟨yb, yo + (c.ny + k) * 4 + 2, none⟩ = some (.int .i64 (lgOf (dbl (placeAt q k)))) := y2
          replace y3 : wo.cell? ⟨yb, yo + (c.ny + k) * 4 + 3, none⟩ = some (.int .i64 (dbl (placeAt q k))) := y3
          generalize lgOf (dbl (placeAt q k)) = lg at *
          generalize dbl (placeAt q k) = db2 at *
          generalize c.lastK = LK at *
          go_upto_region 14 with (fail)
          obtain ⟨wy, hwy⟩ : ∃ x, x = wo.alloc (.cells #[.int .i64 LK, .string (g k), .int .i64 lg, .int .i64 db2] 99) := ⟨_, rfl⟩
          rw [← hwy]
          have hy6 : Ext wo wy := by rw [hwy]; exact (Ext.refl _).alloc _
          have HBy : Held wy wo.heap.size 99 #[.int .i64 LK, .string (g k), .int .i64 lg, .int .i64 db2] := by rw [hwy]; exact Held.new _ _ _
          replace c0 := (hy6.cell (p := ⟨nb, no + k, none⟩) hnb).trans c0
          replace hnb := Nat.lt_of_lt_of_le hnb hy6.size
          clear hwy y0 y1 y2 y3 k0 k1 lk q0 q1 lq hyb
          generalize wo.heap.size = by_ at *
          obtain ⟨t0, t1, t2, t3⟩ := HBy.c4
          have lt := HBy.lt
          refine wp_region_xw wy mixed (by kernel_rfl) (by repeat (first | exact Ext.refl _ | (refine Ext.alloc ?_ _) | (refine Ext.trans ?_ (by assumption)))) ?_
          intro hne hrx hry
          try simp only []
          try simp only [List.append_eq, List.cons_append, List.nil_append]
          skip
          repeat (first
            | go_big_quiet_skip
            | (go_big_quiet_want; go_big_quiet_op; go_big_quiet_on))
          clear hne hry hrx
          refine wpQuiet_nil ?_
          intro wn hwn
          obtain ⟨hcwn, hfwn, hzwn⟩ := Ext.rules hwn
          try simp only [World.size_alloc] at hzwn
          obtain ⟨hcbwn, hfbwn, hzbwn⟩ := Ext.rules (show Ext wy wn from (by repeat (first | exact Ext.refl _ | (refine Ext.alloc ?_ _) | (refine Ext.trans ?_ (by assumption)))))
          clear hcwn hfwn
          by_cases hd : 0 < db2
          · have hdb : decide (0 < db2) = true := decide_eq_true hd
            rw [if_pos hd] at hs
            clear hd
            go_wp2
            exact ⟨⟨k + 1, by omega, by omega, by go_num, by rw [hs.out]; go_num, hE2.trans (hy6.trans hwn)⟩, by simp [intOf]; omega⟩
          · have hdb : decide (0 < db2) = false := decide_eq_false hd
            rw [if_neg hd] at hs
            clear hd
            go_wp2
            exact ⟨⟨k + 1, by omega, by omega, by go_num, by rw [hs.out]; go_num, hE2.trans (hy6.trans hwn)⟩, by simp [intOf]; omega⟩
        · by_cases h19 : n < 19
          · have b1 : decide ((k : Int) < (n : Int)) = false := decide_eq_false (by omega)
            have b3 : decide ((n : Int) < 19) = true := decide_eq_true (by omega)
            go_wp2_with (go_at_call 28; (with_reducible refine Calls.mono (hwk _) ?_); rintro e v9 ⟨rfl, h⟩)
            go_ret
            exact ⟨rfl, E.trans (hE2.trans h)⟩
          · obtain rfl : k = 19 := by omega
            have b2 : decide (((19 : Nat) : Int) < 19) = false := by decide
            have b3 : decide ((n : Int) < 19) = false := decide_eq_false (by omega)
            rw [hseven]
            go_wp2_with (go_at_call 28; (with_reducible refine Calls.mono (hwk _) ?_); rintro e v9 ⟨rfl, h⟩)
            all_goals
              go_ret
              exact ⟨rfl, E.trans (hE2.trans h)⟩
  · have hV : c.extV g n p = zCal := by unfold Cal.extV; rw [if_neg hE]
    have N1 : ∀ v, CalAt v A ca A' cb c → RowsAt v Bn n 1 (fun i => [.string (g i)]) → Calls Tryd.prog 72 #[.agg #[.slice A c.nk ca, .slice A' c.ny cb], .slice Bn n cap, .int .i64 p] v fun e w' => ∃ F F' da db, e = .returned (.tuple #[.agg #[.slice F 0 da, .slice F' 0 db], .int .i64 (c.extE g n p)]) ∧ Ext v w' := fun v h h' => by
      have := extend_any A A' Bn ca cb n cap c g p v h h' hn
      rw [hV] at this
      exact this.mono fun _ _ ⟨F, F', da, db, h1, h2, _⟩ => ⟨F, F', da, db, h1, h2⟩
    have hEb : (c.extE g n p == 0) = false := beq_eq_false_iff_ne.2 hE
    have hEb2 : (c.extE g n p != 0) = true := by rw [bne, hEb]; rfl
    clear hV hE
    generalize c.extE g n p = ee at *
    go_enter Tryd.func22, Tryd.ntmps22
    go_upto_region 1 with (fail)
    obtain ⟨v, hv⟩ : ∃ v, v = ((w.alloc (.cells #[.slice A c.nk ca, .slice A' c.ny cb] 25)).alloc (.cells #[.int .i64 p, .int .i64 m] 47)) := ⟨_, rfl⟩
    rw [← hv]
    have E : Ext w v := by rw [hv]; exact ((Ext.refl _).alloc _).alloc _
    have B1 : Held v w.heap.size 25 #[.slice A c.nk ca, .slice A' c.ny cb] := by rw [hv]; exact (Held.new _ _ _).alloc _
    have B2 : Held v (w.heap.size + 1) 47 #[.int .i64 p, .int .i64 m] := by rw [hv]; exact Held.at _ _ _ _ (by simp)
    clear hv
    have C := hC.ext E
    clear hC
    generalize w.heap.size = b1 at *
    obtain ⟨k0, k1⟩ := B1.c2; have lk := B1.lt
    obtain ⟨p0, p1⟩ := B2.c2; have lp := B2.lt
    have NR := hN.ext E
    clear hN
    go_upto_region 3 with (go_at_call 72; (with_reducible refine Calls.mono (N1 _ C NR) ?_); rintro e v2 ⟨F, F', da, db, rfl, h⟩)
    replace E := Ext.trans E h
    replace C := C.ext h
    replace B1 := B1.ext h
    replace B2 := B2.ext h
    clear h
    clear k0 k1 lk
    clear p0 p1 lp
    obtain ⟨k0, k1⟩ := B1.c2; have lk := B1.lt
    obtain ⟨p0, p1⟩ := B2.c2; have lp := B2.lt
    obtain ⟨v3, hv⟩ : ∃ v, v = v2.alloc (.cells #[.slice F 0 da, .slice F' 0 db] 25) := ⟨_, rfl⟩
    rw [← hv]
    have h : Ext v2 v3 := by rw [hv]; exact (Ext.refl _).alloc _
    have B3 : Held v3 v2.heap.size 25 #[.slice F 0 da, .slice F' 0 db] := by rw [hv]; exact Held.new _ _ _
    clear hv
    generalize v2.heap.size = b3 at *
    replace E := Ext.trans E h
    replace C := C.ext h
    replace B1 := B1.ext h
    replace B2 := B2.ext h
    clear h
    clear k0 k1 lk
    clear p0 p1 lp
    obtain ⟨k0, k1⟩ := B1.c2; have lk := B1.lt
    obtain ⟨p0, p1⟩ := B2.c2; have lp := B2.lt
    obtain ⟨q0, q1⟩ := B3.c2; have lq := B3.lt
    go_wp2_with (go_at_call 28; (with_reducible refine Calls.mono (hwk _) ?_); rintro e v9 ⟨rfl, h⟩)
    go_ret
    exact ⟨rfl, E.trans h⟩
end Go.Proofs.YtfchchmmjabjnaaDoor
