/- Reign and YearOf, of the program and of the reference; the reference's Length and Days. -/
import Derived.Test.YtfchchmmjabjnaaDoorYh
import Derived.Test.YtfchchmmjabjnaaDoorWp
namespace Go.Proofs.YtfchchmmjabjnaaDoor
open Go Go.RowKit
attribute [local go_sem] gv_yes

theorem yearE_cases (c : Cal) (y : Int) : (c.valid = false ∧ c.yearE y = 70) ∨ (c.valid = true ∧ ¬ (0 ≤ y ∧ y < c.ny) ∧ c.yearE y = 8) ∨ (c.valid = true ∧ (0 ≤ y ∧ y < c.ny) ∧ c.yearE y = 0) := by
  unfold Cal.yearE
  cases hv : c.valid
  · exact .inl ⟨rfl, rfl⟩
  · by_cases h : 0 ≤ y ∧ y < c.ny
    · rw [if_pos rfl, if_pos h]; exact .inr (.inr ⟨rfl, h, rfl⟩)
    · rw [if_pos rfl, if_neg h]; exact .inr (.inl ⟨rfl, h, rfl⟩)
theorem checksNone_any (A A' : Option Addr) (ca cb : Nat) (c : Cal) (w : World) (hC : CalAt w A ca A' cb c) :
    Calls Tryd.prog 75 #[.agg #[.slice A c.nk ca, .slice A' c.ny cb], .slice none 0 0] w fun e w' => e = .returned (.int .i64 c.chk) ∧ Ext w w' := by
  have := checks_any A A' ca cb c none 0 0 (fun _ => ⟨0, 0, false, 0⟩) w hC (rows_none _ _ _) (by omega)
  rwa [checks_none] at this
set_option maxRecDepth 100000 in
set_option maxHeartbeats 4000000 in
theorem reign_any (A A' : Option Addr) (ca cb : Nat) (c : Cal) (y : Int) (hi1 : -9223372036854775808 ≤ y) (hi2 : y ≤ 9223372036854775807) (w : World) (hC : CalAt w A ca A' cb c) :
    Calls Tryd.prog 68 #[.agg #[.slice A c.nk ca, .slice A' c.ny cb], .int .i64 y] w fun e w' => e = .returned (.tuple #[.string (c.reignS y), .int .i64 (c.reignN y), .int .i64 (c.yearE y)]) ∧ Ext w w' := by
  have hnyle := hC.ny_le
  have NT := fun v (h : CalAt v A ca A' cb c) => checksNone_any A A' ca cb c v h
  have NH := fun v => hasYear_any A A' ca cb c y v hnyle
  rcases yearE_cases c y with ⟨hv, hE⟩ | ⟨hv, hy, hE⟩ | ⟨hv, hy, hE⟩
  · have HR : Hid (c.reignS y = ⟨#[]⟩ ∧ c.reignN y = 0 ∧ c.yearE y = 70) := by unfold Hid Cal.reignS Cal.reignN; rw [hE]; exact ⟨rfl, rfl, rfl⟩
    simp only [chk_no hv] at NT
    clear hv hE
    go_enter Tryd.func68, Tryd.ntmps68
    go_upto_region 1 with (fail)
    obtain ⟨v, hv⟩ : ∃ v, v = (w.alloc (.cells #[.slice A c.nk ca, .slice A' c.ny cb] 25)) := ⟨_, rfl⟩
    rw [← hv]
    have E : Ext w v := by rw [hv]; exact (Ext.refl _).alloc _
    have B1 : Held v w.heap.size 25 #[.slice A c.nk ca, .slice A' c.ny cb] := by rw [hv]; exact (Held.new _ _ _)
    clear hv
    have C := hC.ext E
    clear hC
    generalize w.heap.size = b1 at *
    obtain ⟨k0, k1⟩ := B1.c2; have lk := B1.lt
    go_upto_region 2 with (go_at_call 75; (with_reducible refine Calls.mono (NT _ C) ?_); rintro e v2 ⟨rfl, h⟩)
    replace E := Ext.trans E h
    replace C := C.ext h
    replace B1 := B1.ext h
    clear h
    clear k0 k1 lk
    obtain ⟨k0, k1⟩ := B1.c2; have lk := B1.lt
    go_wp2
    go_ret3
    exact ⟨by rw [HR.out.1, HR.out.2.1, HR.out.2.2]; rfl, E⟩
  · have HR : Hid (c.reignS y = ⟨#[]⟩ ∧ c.reignN y = 0 ∧ c.yearE y = 8) := by unfold Hid Cal.reignS Cal.reignN; rw [hE]; exact ⟨rfl, rfl, rfl⟩
    simp only [chk_yes hv] at NT
    simp only [decide_eq_false hy] at NH
    clear hv hE
    go_enter Tryd.func68, Tryd.ntmps68
    go_upto_region 1 with (fail)
    obtain ⟨v, hv⟩ : ∃ v, v = (w.alloc (.cells #[.slice A c.nk ca, .slice A' c.ny cb] 25)) := ⟨_, rfl⟩
    rw [← hv]
    have E : Ext w v := by rw [hv]; exact (Ext.refl _).alloc _
    have B1 : Held v w.heap.size 25 #[.slice A c.nk ca, .slice A' c.ny cb] := by rw [hv]; exact (Held.new _ _ _)
    clear hv
    have C := hC.ext E
    clear hC
    generalize w.heap.size = b1 at *
    obtain ⟨k0, k1⟩ := B1.c2; have lk := B1.lt
    go_upto_region 2 with (go_at_call 75; (with_reducible refine Calls.mono (NT _ C) ?_); rintro e v2 ⟨rfl, h⟩)
    replace E := Ext.trans E h
    replace C := C.ext h
    replace B1 := B1.ext h
    clear h
    clear k0 k1 lk
    obtain ⟨k0, k1⟩ := B1.c2; have lk := B1.lt
    go_wp2_with (go_at_call 102; (with_reducible refine Calls.mono (NH _) ?_); rintro e v3 ⟨rfl, h⟩)
    go_ret3
    exact ⟨by rw [HR.out.1, HR.out.2.1, HR.out.2.2]; rfl, E.trans h⟩
  · obtain ⟨Y, rfl⟩ : ∃ Y : Nat, y = (Y : Int) := ⟨y.toNat, by omega⟩
    have hYn : Y < c.ny := by omega
    have HR : Hid (c.reignS (Y : Int) = c.kg (c.yr Y).k.toNat ∧ c.reignN (Y : Int) = (c.ofKing (c.yr Y).k (Y + 1) : Int) ∧ c.yearE (Y : Int) = 0) := by unfold Hid Cal.reignS Cal.reignN; rw [hE]; exact ⟨rfl, rfl, rfl⟩
    have ok := valid_iff.1 hv
    have hkk0 : 0 ≤ (c.yr Y).k := ok.k0 hYn
    have hkk1 : (c.yr Y).k < c.nk := (ok.yk Y hYn).2
    have hny := ok.ny.2
    have hnk := ok.nk.2
    have hS : ∀ j, c.ofKing (c.yr Y).k (j + 1) = c.ofKing (c.yr Y).k j + (if (c.yr j).k = (c.yr Y).k then 1 else 0) := fun _ => rfl
    have hL := ofKing_le c (c.yr Y).k
    have hZ : c.ofKing (c.yr Y).k 0 = 0 := rfl
    generalize c.ofKing (c.yr Y).k = N at *
    simp only [chk_yes hv] at NT
    simp only [decide_eq_true hy] at NH
    clear hv hE ok hy
    go_enter Tryd.func68, Tryd.ntmps68
    go_upto_region 1 with (fail)
    obtain ⟨v, hv⟩ : ∃ v, v = (w.alloc (.cells #[.slice A c.nk ca, .slice A' c.ny cb] 25)) := ⟨_, rfl⟩
    rw [← hv]
    have E : Ext w v := by rw [hv]; exact (Ext.refl _).alloc _
    have B1 : Held v w.heap.size 25 #[.slice A c.nk ca, .slice A' c.ny cb] := by rw [hv]; exact (Held.new _ _ _)
    clear hv
    have C := hC.ext E
    clear hC
    generalize w.heap.size = b1 at *
    obtain ⟨k0, k1⟩ := B1.c2; have lk := B1.lt
    go_upto_region 4 with (go_at_call 75; (with_reducible refine Calls.mono (NT _ C) ?_); rintro e v2 ⟨rfl, h⟩)
    replace E := Ext.trans E h
    replace C := C.ext h
    replace B1 := B1.ext h
    clear h
    clear k0 k1 lk
    obtain ⟨k0, k1⟩ := B1.c2; have lk := B1.lt
    go_upto_region 6 with (go_at_call 102; (with_reducible refine Calls.mono (NH _) ?_); rintro e v3 ⟨rfl, h⟩)
    replace E := Ext.trans E h
    replace C := C.ext h
    replace B1 := B1.ext h
    clear h
    clear k0 k1 lk
    obtain ⟨k0, k1⟩ := B1.c2; have lk := B1.lt
    obtain ⟨yb, yo, hA', hyb, y0, y1, y2, y3⟩ := C.year hYn
    have hcb := C.ny_cap
    subst hA'
    go_wp2
    clear y0 y1 y2 y3
    go_loopw [5, 32] (fun nv iv wr => ∃ j : Nat, j ≤ Y + 1 ∧ iv = .int .i64 (j : Int) ∧ nv = .int .i64 (N j : Int) ∧ Ext v3 wr) (fun _ iv _ => Y + 1 - (intOf iv).toNat)
    case atStart => exact ⟨0, Nat.zero_le _, rfl, by rw [hZ]; rfl, Ext.refl _⟩
    case round =>
      obtain ⟨j, hj, rfl, rfl, hE2⟩ := hrel
      obtain ⟨wo, rfl⟩ : ∃ wo : World, wo = wr := ⟨_, rfl⟩
      have Co := C.ext hE2
      obtain ⟨k0, k1⟩ := (B1.ext hE2).c2
      have lk := (B1.ext hE2).lt
      have hLj := hL j
      by_cases hlt : j < Y + 1
      · have hjb : decide ((j : Int) < (Y : Int) + 1) = true := decide_eq_true (by omega)
        have hjb2 : decide ((j : Int) ≤ (Y : Int)) = true := decide_eq_true (by omega)
        obtain ⟨yb, yo, hA', hyb, y0, y1, y2, y3⟩ := Co.year (show j < c.ny by omega)
        obtain ⟨yb', yo', hA'', hyb', z0, z1, z2, z3⟩ := Co.year hYn
        skip
        cases hA'
        cases hA''
        by_cases hq : (c.yr j).k = (c.yr Y).k
        · have hqb : ((c.yr j).k == (c.yr Y).k) = true := beq_iff_eq.2 hq
          have hs : N (j + 1) = N j + 1 := by rw [hS, if_pos hq]
          clear hq
          go_wp2
          exact ⟨⟨j + 1, by omega, by go_num, by rw [hs]; go_num, (by repeat (first | exact Ext.refl _ | (refine Ext.alloc ?_ _) | (refine Ext.trans ?_ (by assumption))))⟩, by simp [intOf]; omega⟩
        · have hqb : ((c.yr j).k == (c.yr Y).k) = false := beq_eq_false_iff_ne.2 hq
          have hs : N (j + 1) = N j := by rw [hS, if_neg hq]; rfl
          clear hq
          go_wp2
          exact ⟨⟨j + 1, by omega, by go_num, by rw [hs], (by repeat (first | exact Ext.refl _ | (refine Ext.alloc ?_ _) | (refine Ext.trans ?_ (by assumption))))⟩, by simp [intOf]; omega⟩
      · obtain rfl : j = Y + 1 := by omega
        have hjb : decide (((Y + 1 : Nat) : Int) < (Y : Int) + 1) = false := decide_eq_false (by omega)
        have hjb2 : decide (((Y + 1 : Nat) : Int) ≤ (Y : Int)) = false := decide_eq_false (by omega)
        obtain ⟨kb, ko, hA, hkb, q9⟩ := Co.kingI hkk0 hkk1
        subst hA
        go_wp2
        go_ret3
        exact ⟨by rw [HR.out.1, HR.out.2.1, HR.out.2.2]; rfl, (by repeat (first | exact Ext.refl _ | (refine Ext.alloc ?_ _) | (refine Ext.trans ?_ (by assumption))))⟩
set_option maxRecDepth 100000 in
set_option maxHeartbeats 4000000 in
theorem reign_any_r (A A' : Option Addr) (ca cb : Nat) (c : Cal) (y : Int) (hi1 : -9223372036854775808 ≤ y) (hi2 : y ≤ 9223372036854775807) (w : World) (hC : CalAt w A ca A' cb c) :
    Calls Tryd.prog 69 #[.agg #[.slice A c.nk ca, .slice A' c.ny cb], .int .i64 y] w fun e w' => e = .returned (.tuple #[.string (c.reignS y), .int .i64 (c.reignN y), .int .i64 (c.yearE y)]) ∧ Ext w w' := by
  have hnyle := hC.ny_le
  have NT := fun v (h : CalAt v A ca A' cb c) => validR_any A A' ca cb c v h
  rcases yearE_cases c y with ⟨hv, hE⟩ | ⟨hv, hy, hE⟩ | ⟨hv, hy, hE⟩
  · have HR : Hid (c.reignS y = ⟨#[]⟩ ∧ c.reignN y = 0 ∧ c.yearE y = 70) := by unfold Hid Cal.reignS Cal.reignN; rw [hE]; exact ⟨rfl, rfl, rfl⟩
    simp only [hv] at NT
    clear hv hE
    go_enter Tryd.func69, Tryd.ntmps69
    go_upto_region 1 with (fail)
    obtain ⟨v, hv⟩ : ∃ v, v = (w.alloc (.cells #[.slice A c.nk ca, .slice A' c.ny cb] 25)) := ⟨_, rfl⟩
    rw [← hv]
    have E : Ext w v := by rw [hv]; exact (Ext.refl _).alloc _
    have B1 : Held v w.heap.size 25 #[.slice A c.nk ca, .slice A' c.ny cb] := by rw [hv]; exact (Held.new _ _ _)
    clear hv
    have C := hC.ext E
    clear hC
    generalize w.heap.size = b1 at *
    obtain ⟨k0, k1⟩ := B1.c2; have lk := B1.lt
    go_upto_region 2 with (go_at_call 78; (with_reducible refine Calls.mono (NT _ C) ?_); rintro e v2 ⟨rfl, h⟩)
    replace E := Ext.trans E h
    replace C := C.ext h
    replace B1 := B1.ext h
    clear h
    clear k0 k1 lk
    obtain ⟨k0, k1⟩ := B1.c2; have lk := B1.lt
    go_wp2
    go_ret3
    exact ⟨by rw [HR.out.1, HR.out.2.1, HR.out.2.2]; rfl, E⟩
  · have HR : Hid (c.reignS y = ⟨#[]⟩ ∧ c.reignN y = 0 ∧ c.yearE y = 8) := by unfold Hid Cal.reignS Cal.reignN; rw [hE]; exact ⟨rfl, rfl, rfl⟩
    simp only [hv] at NT
    clear hv hE
    by_cases h0 : y < 0
    · have h0b : decide (y < 0) = true := decide_eq_true h0
      go_enter Tryd.func69, Tryd.ntmps69
      go_upto_region 1 with (fail)
      obtain ⟨v, hv⟩ : ∃ v, v = (w.alloc (.cells #[.slice A c.nk ca, .slice A' c.ny cb] 25)) := ⟨_, rfl⟩
      rw [← hv]
      have E : Ext w v := by rw [hv]; exact (Ext.refl _).alloc _
      have B1 : Held v w.heap.size 25 #[.slice A c.nk ca, .slice A' c.ny cb] := by rw [hv]; exact (Held.new _ _ _)
      clear hv
      have C := hC.ext E
      clear hC
      generalize w.heap.size = b1 at *
      obtain ⟨k0, k1⟩ := B1.c2; have lk := B1.lt
      go_upto_region 3 with (go_at_call 78; (with_reducible refine Calls.mono (NT _ C) ?_); rintro e v2 ⟨rfl, h⟩)
      replace E := Ext.trans E h
      replace C := C.ext h
      replace B1 := B1.ext h
      clear h
      clear k0 k1 lk
      obtain ⟨k0, k1⟩ := B1.c2; have lk := B1.lt
      go_wp2
      go_ret3
      exact ⟨by rw [HR.out.1, HR.out.2.1, HR.out.2.2]; rfl, E⟩

    · have h0b : decide (y < 0) = false := decide_eq_false h0
      have h1b : decide ((c.ny : Int) ≤ y) = true := decide_eq_true (by omega)
      go_enter Tryd.func69, Tryd.ntmps69
      go_upto_region 1 with (fail)
      obtain ⟨v, hv⟩ : ∃ v, v = (w.alloc (.cells #[.slice A c.nk ca, .slice A' c.ny cb] 25)) := ⟨_, rfl⟩
      rw [← hv]
      have E : Ext w v := by rw [hv]; exact (Ext.refl _).alloc _
      have B1 : Held v w.heap.size 25 #[.slice A c.nk ca, .slice A' c.ny cb] := by rw [hv]; exact (Held.new _ _ _)
      clear hv
      have C := hC.ext E
      clear hC
      generalize w.heap.size = b1 at *
      obtain ⟨k0, k1⟩ := B1.c2; have lk := B1.lt
      go_upto_region 3 with (go_at_call 78; (with_reducible refine Calls.mono (NT _ C) ?_); rintro e v2 ⟨rfl, h⟩)
      replace E := Ext.trans E h
      replace C := C.ext h
      replace B1 := B1.ext h
      clear h
      clear k0 k1 lk
      obtain ⟨k0, k1⟩ := B1.c2; have lk := B1.lt
      go_wp2
      go_ret3
      exact ⟨by rw [HR.out.1, HR.out.2.1, HR.out.2.2]; rfl, E⟩
  · obtain ⟨Y, rfl⟩ : ∃ Y : Nat, y = (Y : Int) := ⟨y.toNat, by omega⟩
    have hYn : Y < c.ny := by omega
    have HR : Hid (c.reignS (Y : Int) = c.kg (c.yr Y).k.toNat ∧ c.reignN (Y : Int) = (c.ofKing (c.yr Y).k (Y + 1) : Int) ∧ c.yearE (Y : Int) = 0) := by unfold Hid Cal.reignS Cal.reignN; rw [hE]; exact ⟨rfl, rfl, rfl⟩
    have ok := valid_iff.1 hv
    have hkk0 : 0 ≤ (c.yr Y).k := ok.k0 hYn
    have hkk1 : (c.yr Y).k < c.nk := (ok.yk Y hYn).2
    have hny := ok.ny.2
    have hnk := ok.nk.2
    have hS : ∀ j, c.ofKing (c.yr Y).k (j + 1) = c.ofKing (c.yr Y).k j + (if (c.yr j).k = (c.yr Y).k then 1 else 0) := fun _ => rfl
    have hL := ofKing_le c (c.yr Y).k
    have hZ : c.ofKing (c.yr Y).k 0 = 0 := rfl
    generalize c.ofKing (c.yr Y).k = N at *
    simp only [hv] at NT
    clear hv hE ok hy
    have h0b : decide ((Y : Int) < 0) = false := decide_eq_false (by omega)
    have h1b : decide ((c.ny : Int) ≤ (Y : Int)) = false := decide_eq_false (by omega)
    go_enter Tryd.func69, Tryd.ntmps69
    go_upto_region 1 with (fail)
    obtain ⟨v, hv⟩ : ∃ v, v = (w.alloc (.cells #[.slice A c.nk ca, .slice A' c.ny cb] 25)) := ⟨_, rfl⟩
    rw [← hv]
    have E : Ext w v := by rw [hv]; exact (Ext.refl _).alloc _
    have B1 : Held v w.heap.size 25 #[.slice A c.nk ca, .slice A' c.ny cb] := by rw [hv]; exact (Held.new _ _ _)
    clear hv
    have C := hC.ext E
    clear hC
    generalize w.heap.size = b1 at *
    obtain ⟨k0, k1⟩ := B1.c2; have lk := B1.lt
    go_upto_region 3 with (go_at_call 78; (with_reducible refine Calls.mono (NT _ C) ?_); rintro e v2 ⟨rfl, h⟩)
    replace E := Ext.trans E h
    replace C := C.ext h
    replace B1 := B1.ext h
    clear h
    clear k0 k1 lk
    obtain ⟨k0, k1⟩ := B1.c2; have lk := B1.lt
    have hcb := C.ny_cap

    go_wp2
    go_loopw [7, 8] (fun nv iv wr => ∃ j : Nat, j ≤ Y + 1 ∧ iv = .int .i64 (j : Int) ∧ nv = .int .i64 (N j : Int) ∧ Ext v2 wr) (fun _ iv _ => Y + 1 - (intOf iv).toNat)
    case atStart => exact ⟨0, Nat.zero_le _, rfl, by rw [hZ]; rfl, Ext.refl _⟩
    case round =>
      obtain ⟨j, hj, rfl, rfl, hE2⟩ := hrel
      obtain ⟨wo, rfl⟩ : ∃ wo : World, wo = wr := ⟨_, rfl⟩
      have Co := C.ext hE2
      obtain ⟨k0, k1⟩ := (B1.ext hE2).c2
      have lk := (B1.ext hE2).lt
      have hLj := hL j
      by_cases hlt : j < Y + 1
      · have hjb : decide ((j : Int) < (Y : Int) + 1) = true := decide_eq_true (by omega)
        have hjb2 : decide ((j : Int) ≤ (Y : Int)) = true := decide_eq_true (by omega)
        obtain ⟨yb, yo, hA', hyb, y0, y1, y2, y3⟩ := Co.year (show j < c.ny by omega)
        obtain ⟨yb', yo', hA'', hyb', z0, z1, z2, z3⟩ := Co.year hYn
        skip
        cases hA'
        cases hA''
        by_cases hq : (c.yr j).k = (c.yr Y).k
        · have hqb : ((c.yr j).k == (c.yr Y).k) = true := beq_iff_eq.2 hq
          have hs : N (j + 1) = N j + 1 := by rw [hS, if_pos hq]
          clear hq
          go_upto_region 9 with (fail)
          refine wp_region_xw wo mixed (by kernel_rfl) (by repeat (first | exact Ext.refl _ | (refine Ext.alloc ?_ _) | (refine Ext.trans ?_ (by assumption)))) ?_
          intro hne hrx hry
          try simp only []
          try simp only [List.append_eq, List.cons_append, List.nil_append]
          skip
          repeat (first
            | go_big_quiet_skip
            | (go_big_quiet_want; go_big_quiet_op; go_big_quiet_on))
          clear hne hry hrx
          refine wpQuiet_nil ?_
          intro wn hwn
          obtain ⟨hcwn, hfwn, hzwn⟩ := Ext.rules hwn
          try simp only [World.size_alloc] at hzwn
          obtain ⟨hcbwn, hfbwn, hzbwn⟩ := Ext.rules (show Ext wo wn from (by repeat (first | exact Ext.refl _ | (refine Ext.alloc ?_ _) | (refine Ext.trans ?_ (by assumption)))))
          clear hcwn hfwn
          go_wp2
          exact ⟨⟨j + 1, by omega, by go_num, by rw [hs]; go_num, hE2.trans hwn⟩, by simp [intOf]; omega⟩
        · have hqb : ((c.yr j).k == (c.yr Y).k) = false := beq_eq_false_iff_ne.2 hq
          have hs : N (j + 1) = N j := by rw [hS, if_neg hq]; rfl
          clear hq
          go_upto_region 9 with (fail)
          refine wp_region_xw wo mixed (by kernel_rfl) (by repeat (first | exact Ext.refl _ | (refine Ext.alloc ?_ _) | (refine Ext.trans ?_ (by assumption)))) ?_
          intro hne hrx hry
          try simp only []
          try simp only [List.append_eq, List.cons_append, List.nil_append]
          skip
          repeat (first
            | go_big_quiet_skip
            | (go_big_quiet_want; go_big_quiet_op; go_big_quiet_on))
          clear hne hry hrx
          refine wpQuiet_nil ?_
          intro wn hwn
          obtain ⟨hcwn, hfwn, hzwn⟩ := Ext.rules hwn
          try simp only [World.size_alloc] at hzwn
          obtain ⟨hcbwn, hfbwn, hzbwn⟩ := Ext.rules (show Ext wo wn from (by repeat (first | exact Ext.refl _ | (refine Ext.alloc ?_ _) | (refine Ext.trans ?_ (by assumption)))))
          clear hcwn hfwn
          go_wp2
          exact ⟨⟨j + 1, by omega, by go_num, by rw [hs], hE2.trans hwn⟩, by simp [intOf]; omega⟩
      · obtain rfl : j = Y + 1 := by omega
        have hjb : decide (((Y + 1 : Nat) : Int) < (Y : Int) + 1) = false := decide_eq_false (by omega)
        have hjb2 : decide (((Y + 1 : Nat) : Int) ≤ (Y : Int)) = false := decide_eq_false (by omega)
        obtain ⟨kb, ko, hA, hkb, q9⟩ := Co.kingI hkk0 hkk1
        subst hA
        obtain ⟨yb', yo', hA'', hyb', z0, z1, z2, z3⟩ := Co.year hYn
        subst hA''
        go_upto_region 11 with (fail)
        refine wp_region_xw wo mixed (by kernel_rfl) (by repeat (first | exact Ext.refl _ | (refine Ext.alloc ?_ _) | (refine Ext.trans ?_ (by assumption)))) ?_
        intro hne hrx hry
        try simp only []
        try simp only [List.append_eq, List.cons_append, List.nil_append]
        skip
        repeat (first
          | go_big_quiet_skip
          | (go_big_quiet_want; go_big_quiet_op; go_big_quiet_on))
        clear hne hry hrx
        refine wpQuiet_nil ?_
        intro wn hwn
        obtain ⟨hcwn, hfwn, hzwn⟩ := Ext.rules hwn
        try simp only [World.size_alloc] at hzwn
        obtain ⟨hcbwn, hfbwn, hzbwn⟩ := Ext.rules (show Ext wo wn from (by repeat (first | exact Ext.refl _ | (refine Ext.alloc ?_ _) | (refine Ext.trans ?_ (by assumption)))))
        clear hcwn hfwn
        go_wp2
        go_ret3
        exact ⟨by rw [HR.out.1, HR.out.2.1, HR.out.2.2]; rfl, E.trans (hE2.trans hwn)⟩
end Go.Proofs.YtfchchmmjabjnaaDoor
