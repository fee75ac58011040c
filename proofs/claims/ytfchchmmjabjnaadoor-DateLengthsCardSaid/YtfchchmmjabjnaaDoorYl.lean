/- The reference's Length and Days. -/
import Derived.Test.YtfchchmmjabjnaaDoorYi
namespace Go.Proofs.YtfchchmmjabjnaaDoor
open Go Go.RowKit
attribute [local go_sem] gv_yes

theorem len_hit {c : Cal} {n i : Nat} {m : Int} {s : Bool} (hi : i < (c.yr n).mos.length) (h1 : moI (c.yr n) i = m) (h2 : moS (c.yr n) i = s) : c.noMonth n m s = false ∧ moL (c.yr n) i = (c.yr n).len m s := by
  obtain ⟨k1, k2, k3⟩ := mos_of hi
  change 1 ≤ moI (c.yr n) i at k1
  change moI (c.yr n) i ≤ 12 at k2
  change moS (c.yr n) i = true → (c.yr n).db = moI (c.yr n) i at k3
  rw [h1] at k1 k2 k3
  rw [h2] at k3
  refine ⟨?_, by unfold moL; rw [h1, h2]⟩
  unfold Cal.noMonth
  rw [decide_eq_false (by omega), decide_eq_false (by omega), show c.yrI (n : Int) = c.yr n from rfl]
  cases s
  · rfl
  · simp [k3 rfl]
theorem len_miss {c : Cal} {n : Nat} {m : Int} {s : Bool} (h : ∀ i, i < (c.yr n).mos.length → ¬ (moI (c.yr n) i = m ∧ moS (c.yr n) i = s)) : c.noMonth n m s = true := by
  cases hh : c.noMonth n m s
  · exfalso
    simp only [Cal.noMonth, Bool.or_eq_false_iff, decide_eq_false_iff_not] at hh
    obtain ⟨⟨h1, h2⟩, h3⟩ := hh
    obtain ⟨i, hi, he⟩ := mos_at (y := c.yr n) (m := m) (s := s) (by omega) (by omega) (fun hs => by subst hs; simpa [show c.yrI (n : Int) = c.yr n from rfl] using h3)
    exact h i hi ⟨by unfold moI; rw [he], by unfold moS; rw [he]⟩
  · rfl
set_option maxRecDepth 100000 in
set_option maxHeartbeats 4000000 in
theorem length_any_r (A A' : Option Addr) (ca cb : Nat) (c : Cal) (y m : Int) (s : Bool) (w : World) (hC : CalAt w A ca A' cb c) :
    Calls Tryd.prog 66 #[.agg #[.slice A c.nk ca, .slice A' c.ny cb], .int .i64 y, .int .i64 m, .bool s] w fun e w' => e = .returned (.tuple #[.int .i64 (c.lenR y m s).1, .int .i64 (c.lenR y m s).2]) ∧ Ext w w' := by
  have hnyle := hC.ny_le
  have NT := fun v (h : CalAt v A ca A' cb c) => validR_any A A' ca cb c v h
  cases hv : c.valid
  · have HR : Hid (c.lenR y m s = (0, 70)) := by unfold Hid Cal.lenR; rw [hv]; rfl
    simp only [hv] at NT
    clear hv
    go_enter Tryd.func66, Tryd.ntmps66
    go_upto_region 1 with (fail)
    obtain ⟨v, hv⟩ : ∃ v, v = (w.alloc (.cells #[.slice A c.nk ca, .slice A' c.ny cb] 25)) := ⟨_, rfl⟩
    rw [← hv]
    have E : Ext w v := by rw [hv]; exact (Ext.refl _).alloc _
    have B1 : Held v w.heap.size 25 #[.slice A c.nk ca, .slice A' c.ny cb] := by rw [hv]; exact (Held.new _ _ _)
    clear hv
    have C := hC.ext E
    clear hC
    generalize w.heap.size = b1 at *
    obtain ⟨k0, k1⟩ := B1.c2; have lk := B1.lt
    go_upto_region 2 with (go_at_call 78; (with_reducible refine Calls.mono (NT _ C) ?_); rintro e v2 ⟨rfl, h⟩)
    replace E := Ext.trans E h
    replace C := C.ext h
    replace B1 := B1.ext h
    clear h
    clear k0 k1 lk
    obtain ⟨k0, k1⟩ := B1.c2; have lk := B1.lt
    go_wp2
    go_ret2
    exact ⟨by rw [HR.out]; rfl, E⟩
  · by_cases hy : 0 ≤ y ∧ y < c.ny
    · obtain ⟨n, rfl⟩ := Int.eq_ofNat_of_zero_le hy.1
      have hn : n < c.ny := by omega
      have hlg := valid_lg hv n hn
      have hny := valid_ny hv
      simp only [hv] at NT
      have HR : Hid (c.lenR (n : Int) m s = if c.noMonth n m s then (0, 4) else ((c.yr n).len m s, 0)) := by unfold Hid Cal.lenR; rw [if_pos hv, if_pos hy]; rfl
      clear hv hy
      have h0b : decide ((n : Int) < 0) = false := decide_eq_false (by omega)
      have h1b : decide ((c.ny : Int) ≤ (n : Int)) = false := decide_eq_false (by omega)
      have HH := Lib.hid (fun i hi h1 h2 => len_hit (c := c) (n := n) (m := m) (s := s) (i := i) hi h1 h2)
      have HM := Lib.hid (fun h => len_miss (c := c) (n := n) (m := m) (s := s) h)
      have hmo := fun w => months_any_r (c.yr n) w hlg.1 hlg.2
      go_enter Tryd.func66, Tryd.ntmps66
      go_upto_region 1 with (fail)
      obtain ⟨v, hv⟩ : ∃ v, v = (w.alloc (.cells #[.slice A c.nk ca, .slice A' c.ny cb] 25)) := ⟨_, rfl⟩
      rw [← hv]
      have E : Ext w v := by rw [hv]; exact (Ext.refl _).alloc _
      have B1 : Held v w.heap.size 25 #[.slice A c.nk ca, .slice A' c.ny cb] := by rw [hv]; exact (Held.new _ _ _)
      clear hv
      have C := hC.ext E
      clear hC
      generalize w.heap.size = b1 at *
      obtain ⟨k0, k1⟩ := B1.c2; have lk := B1.lt
      go_upto_region 3 with (go_at_call 78; (with_reducible refine Calls.mono (NT _ C) ?_); rintro e v2 ⟨rfl, h⟩)
      replace E := Ext.trans E h
      replace C := C.ext h
      replace B1 := B1.ext h
      clear h
      clear k0 k1 lk
      obtain ⟨k0, k1⟩ := B1.c2; have lk := B1.lt
      obtain ⟨yb, yo, hA', hyb, y0, y1, y2, y3⟩ := C.year hn
      subst hA'
      generalize c.noMonth n m s = no at *
      have hml := (mos_length (c.yr n)).2
      generalize c.yr n = Y at *
      go_upto_region 6 with (go_at_call 107; (with_reducible refine Calls.mono (hmo _) ?_); rintro e v3 ⟨mv, rfl, h, MA⟩)
      obtain ⟨MA, mcap, rfl, MM⟩ := MA
      clear y0 y1 y2 y3 hyb hmo k0 k1 lk
      go_wp2
      go_loopw [11] (fun iv wr => ∃ j : Nat, j ≤ Y.mos.length ∧ iv = .int .i64 (j : Int) ∧ Hid (∀ i, i < j → ¬ (moI Y i = m ∧ moS Y i = s)) ∧ Ext v3 wr) (fun iv _ => Y.mos.length - (intOf iv).toNat)
      case atStart => exact ⟨0, Nat.zero_le _, rfl, fun i hi => absurd hi (by omega), Ext.refl _⟩
      case round =>
        obtain ⟨j, hj, rfl, hno, hE2⟩ := hrel
        obtain ⟨wo, rfl⟩ : ∃ wo : World, wo = wr := ⟨_, rfl⟩
        by_cases hlt : j < Y.mos.length
        · obtain ⟨mb, mo, rfl, hmb, c0, c1, c2⟩ := mon_at (MM.ext hE2) hlt
          have hhit := Lib.hid (HH.out j hlt)
          have hnx : moI Y j ≠ m ∨ moS Y j ≠ s → Hid (∀ i, i < j + 1 → ¬ (moI Y i = m ∧ moS Y i = s)) := fun hd i hi => by
            by_cases e : i = j
            · subst e; intro h; rcases hd with hd | hd; exact hd h.1; exact hd h.2
            · exact hno.out i (by omega)
          generalize Y.mos.length = L at *
          generalize moI Y j = x at *
          generalize moS Y j = z at *
          generalize moL Y j = q at *
          by_cases e1 : x = m
          · have e1b : (x == m) = true := beq_iff_eq.2 e1
            by_cases e2 : z = s
            · have e2b : (z == s) = true := beq_iff_eq.2 e2
              have hr := Lib.hid (hhit.out e1 e2)
              clear e1 e2 hhit hnx
              go_wp2
              go_ret2
              exact ⟨by rw [HR.out, hr.out.1, hr.out.2]; rfl, E.trans (h.trans hE2)⟩
            · have e2b : (z == s) = false := beq_eq_false_iff_ne.2 e2
              have hnx' := hnx (.inr e2)
              clear e1 e2 hhit hnx
              go_wp2
              exact ⟨⟨j + 1, by omega, by go_num, hnx', hE2⟩, by simp [intOf]; omega⟩
          · have e1b : (x == m) = false := beq_eq_false_iff_ne.2 e1
            have hnx' := hnx (.inl e1)
            clear e1 hhit hnx
            go_wp2
            exact ⟨⟨j + 1, by omega, by go_num, hnx', hE2⟩, by simp [intOf]; omega⟩
        · obtain rfl : j = Y.mos.length := by omega
          have hr := Lib.hid (HM.out hno.out)
          go_wp2
          go_ret2
          exact ⟨by rw [HR.out, hr.out]; rfl, E.trans (h.trans hE2)⟩
    · have HR : Hid (c.lenR y m s = (0, 8)) := by unfold Hid Cal.lenR; rw [if_pos hv, if_neg hy]
      simp only [hv] at NT
      clear hv
      by_cases h0 : y < 0
      · have h0b : decide (y < 0) = true := decide_eq_true h0
        go_enter Tryd.func66, Tryd.ntmps66
        go_upto_region 1 with (fail)
        obtain ⟨v, hv⟩ : ∃ v, v = (w.alloc (.cells #[.slice A c.nk ca, .slice A' c.ny cb] 25)) := ⟨_, rfl⟩
        rw [← hv]
        have E : Ext w v := by rw [hv]; exact (Ext.refl _).alloc _
        have B1 : Held v w.heap.size 25 #[.slice A c.nk ca, .slice A' c.ny cb] := by rw [hv]; exact (Held.new _ _ _)
        clear hv
        have C := hC.ext E
        clear hC
        generalize w.heap.size = b1 at *
        obtain ⟨k0, k1⟩ := B1.c2; have lk := B1.lt
        go_upto_region 3 with (go_at_call 78; (with_reducible refine Calls.mono (NT _ C) ?_); rintro e v2 ⟨rfl, h⟩)
        replace E := Ext.trans E h
        replace C := C.ext h
        replace B1 := B1.ext h
        clear h
        clear k0 k1 lk
        obtain ⟨k0, k1⟩ := B1.c2; have lk := B1.lt
        go_wp2
        go_ret2
        exact ⟨by rw [HR.out]; rfl, E⟩
      · have h0b : decide (y < 0) = false := decide_eq_false h0
        have h1b : decide ((c.ny : Int) ≤ y) = true := decide_eq_true (by omega)
        go_enter Tryd.func66, Tryd.ntmps66
        go_upto_region 1 with (fail)
        obtain ⟨v, hv⟩ : ∃ v, v = (w.alloc (.cells #[.slice A c.nk ca, .slice A' c.ny cb] 25)) := ⟨_, rfl⟩
        rw [← hv]
        have E : Ext w v := by rw [hv]; exact (Ext.refl _).alloc _
        have B1 : Held v w.heap.size 25 #[.slice A c.nk ca, .slice A' c.ny cb] := by rw [hv]; exact (Held.new _ _ _)
        clear hv
        have C := hC.ext E
        clear hC
        generalize w.heap.size = b1 at *
        obtain ⟨k0, k1⟩ := B1.c2; have lk := B1.lt
        go_upto_region 3 with (go_at_call 78; (with_reducible refine Calls.mono (NT _ C) ?_); rintro e v2 ⟨rfl, h⟩)
        replace E := Ext.trans E h
        replace C := C.ext h
        replace B1 := B1.ext h
        clear h
        clear k0 k1 lk
        obtain ⟨k0, k1⟩ := B1.c2; have lk := B1.lt
        go_wp2
        go_ret2
        exact ⟨by rw [HR.out]; rfl, E⟩
set_option maxRecDepth 100000 in
set_option maxHeartbeats 4000000 in
theorem daysR_any_r (A A' : Option Addr) (ca cb : Nat) (c : Cal) (y : Int) (w : World) (hC : CalAt w A ca A' cb c) :
    Calls Tryd.prog 67 #[.agg #[.slice A c.nk ca, .slice A' c.ny cb], .int .i64 y] w fun e w' => e = .returned (.tuple #[.int .i64 (c.daysR y).1, .int .i64 (c.daysR y).2]) ∧ Ext w w' := by
  have hnyle := hC.ny_le
  have NT := fun v (h : CalAt v A ca A' cb c) => validR_any A A' ca cb c v h
  cases hv : c.valid
  · have HR : Hid (c.daysR y = (0, 70)) := by unfold Hid Cal.daysR; rw [hv]; rfl
    simp only [hv] at NT
    clear hv
    go_enter Tryd.func67, Tryd.ntmps67
    go_upto_region 1 with (fail)
    obtain ⟨v, hv⟩ : ∃ v, v = (w.alloc (.cells #[.slice A c.nk ca, .slice A' c.ny cb] 25)) := ⟨_, rfl⟩
    rw [← hv]
    have E : Ext w v := by rw [hv]; exact (Ext.refl _).alloc _
    have B1 : Held v w.heap.size 25 #[.slice A c.nk ca, .slice A' c.ny cb] := by rw [hv]; exact (Held.new _ _ _)
    clear hv
    have C := hC.ext E
    clear hC
    generalize w.heap.size = b1 at *
    obtain ⟨k0, k1⟩ := B1.c2; have lk := B1.lt
    go_upto_region 2 with (go_at_call 78; (with_reducible refine Calls.mono (NT _ C) ?_); rintro e v2 ⟨rfl, h⟩)
    replace E := Ext.trans E h
    replace C := C.ext h
    replace B1 := B1.ext h
    clear h
    clear k0 k1 lk
    obtain ⟨k0, k1⟩ := B1.c2; have lk := B1.lt
    go_wp2
    go_ret2
    exact ⟨by rw [HR.out]; rfl, E⟩
  · by_cases hy : 0 ≤ y ∧ y < c.ny
    · obtain ⟨n, rfl⟩ := Int.eq_ofNat_of_zero_le hy.1
      have hn : n < c.ny := by omega
      have hlg := valid_lg hv n hn
      have hny := valid_ny hv
      simp only [hv] at NT
      have HR : Hid (c.daysR (n : Int) = ((c.yr n).days, 0)) := by unfold Hid Cal.daysR; rw [if_pos hv, if_pos hy]; rfl
      clear hv hy
      have h0b : decide ((n : Int) < 0) = false := decide_eq_false (by omega)
      have h1b : decide ((c.ny : Int) ≤ (n : Int)) = false := decide_eq_false (by omega)
      have ND := fun w => days_any_r (c.yr n) w hlg.1 hlg.2
      go_enter Tryd.func67, Tryd.ntmps67
      go_upto_region 1 with (fail)
      obtain ⟨v, hv⟩ : ∃ v, v = (w.alloc (.cells #[.slice A c.nk ca, .slice A' c.ny cb] 25)) := ⟨_, rfl⟩
      rw [← hv]
      have E : Ext w v := by rw [hv]; exact (Ext.refl _).alloc _
      have B1 : Held v w.heap.size 25 #[.slice A c.nk ca, .slice A' c.ny cb] := by rw [hv]; exact (Held.new _ _ _)
      clear hv
      have C := hC.ext E
      clear hC
      generalize w.heap.size = b1 at *
      obtain ⟨k0, k1⟩ := B1.c2; have lk := B1.lt
      go_upto_region 3 with (go_at_call 78; (with_reducible refine Calls.mono (NT _ C) ?_); rintro e v2 ⟨rfl, h⟩)
      replace E := Ext.trans E h
      replace C := C.ext h
      replace B1 := B1.ext h
      clear h
      clear k0 k1 lk
      obtain ⟨k0, k1⟩ := B1.c2; have lk := B1.lt
      obtain ⟨yb, yo, hA', hyb, y0, y1, y2, y3⟩ := C.year hn
      subst hA'
      go_wp2_with (go_at_call 108; (with_reducible refine Calls.mono (ND _) ?_); rintro e v3 ⟨rfl, h⟩)
      go_ret2
      exact ⟨by rw [HR.out]; rfl, E.trans h⟩
    · have HR : Hid (c.daysR y = (0, 8)) := by unfold Hid Cal.daysR; rw [if_pos hv, if_neg hy]
      simp only [hv] at NT
      clear hv
      by_cases h0 : y < 0
      · have h0b : decide (y < 0) = true := decide_eq_true h0
        go_enter Tryd.func67, Tryd.ntmps67
        go_upto_region 1 with (fail)
        obtain ⟨v, hv⟩ : ∃ v, v = (w.alloc (.cells #[.slice A c.nk ca, .slice A' c.ny cb] 25)) := ⟨_, rfl⟩
        rw [← hv]
        have E : Ext w v := by rw [hv]; exact (Ext.refl _).alloc _
        have B1 : Held v w.heap.size 25 #[.slice A c.nk ca, .slice A' c.ny cb] := by rw [hv]; exact (Held.new _ _ _)
        clear hv
        have C := hC.ext E
        clear hC
        generalize w.heap.size = b1 at *
        obtain ⟨k0, k1⟩ := B1.c2; have lk := B1.lt
        go_upto_region 3 with (go_at_call 78; (with_reducible refine Calls.mono (NT _ C) ?_); rintro e v2 ⟨rfl, h⟩)
        replace E := Ext.trans E h
        replace C := C.ext h
        replace B1 := B1.ext h
        clear h
        clear k0 k1 lk
        obtain ⟨k0, k1⟩ := B1.c2; have lk := B1.lt
        go_wp2
        go_ret2
        exact ⟨by rw [HR.out]; rfl, E⟩
      · have h0b : decide (y < 0) = false := decide_eq_false h0
        have h1b : decide ((c.ny : Int) ≤ y) = true := decide_eq_true (by omega)
        go_enter Tryd.func67, Tryd.ntmps67
        go_upto_region 1 with (fail)
        obtain ⟨v, hv⟩ : ∃ v, v = (w.alloc (.cells #[.slice A c.nk ca, .slice A' c.ny cb] 25)) := ⟨_, rfl⟩
        rw [← hv]
        have E : Ext w v := by rw [hv]; exact (Ext.refl _).alloc _
        have B1 : Held v w.heap.size 25 #[.slice A c.nk ca, .slice A' c.ny cb] := by rw [hv]; exact (Held.new _ _ _)
        clear hv
        have C := hC.ext E
        clear hC
        generalize w.heap.size = b1 at *
        obtain ⟨k0, k1⟩ := B1.c2; have lk := B1.lt
        go_upto_region 3 with (go_at_call 78; (with_reducible refine Calls.mono (NT _ C) ?_); rintro e v2 ⟨rfl, h⟩)
        replace E := Ext.trans E h
        replace C := C.ext h
        replace B1 := B1.ext h
        clear h
        clear k0 k1 lk
        obtain ⟨k0, k1⟩ := B1.c2; have lk := B1.lt
        go_wp2
        go_ret2
        exact ⟨by rw [HR.out]; rfl, E⟩
end Go.Proofs.YtfchchmmjabjnaaDoor
