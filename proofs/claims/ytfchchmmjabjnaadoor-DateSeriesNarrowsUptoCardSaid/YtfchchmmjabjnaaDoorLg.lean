/- The walk of fitting. -/
import Derived.Test.YtfchchmmjabjnaaDoorLc
import Derived.Test.YtfchchmmjabjnaaDoorRh
namespace Go.Proofs.YtfchchmmjabjnaaDoor
open Go Go.RowKit
attribute [local go_sem] gv_yes

def Cal.fitOk (c : Cal) (f : Nat → Tr) (g : Nat → Int) (k : Nat) : Bool := decide (c.atE (g k) = 0) && (decide (k = 0) || decide (g (k - 1) ≤ g k)) && decide (c.fitE (f k) (c.atV (g k)) = 0) && c.fitV (f k) (c.atV (g k))
def Cal.fitting (c : Cal) (f : Nat → Tr) (n : Nat) (g : Nat → Int) (m : Nat) : Bool := decide (m = n) && (List.range n).all (c.fitOk f g)
def FitTo (c : Cal) (f : Nat → Tr) (g : Nat → Int) (k : Nat) : Prop := ∀ j, j < k → c.fitOk f g j = true
theorem fitting_no {c : Cal} {f : Nat → Tr} {g : Nat → Int} {n k : Nat} (hk : k < n) (h : c.fitOk f g k = false) : c.fitting f n g n = false := by
  unfold Cal.fitting
  rw [Bool.and_eq_false_iff]
  exact .inr (List.all_eq_false.2 ⟨k, by simpa using hk, by simp [h]⟩)
theorem fitting_yes {c : Cal} {f : Nat → Tr} {g : Nat → Int} {n : Nat} (h : FitTo c f g n) : c.fitting f n g n = true := by
  unfold Cal.fitting
  rw [decide_eq_true rfl, Bool.true_and, List.all_eq_true]
  intro k hk
  exact h k (by simpa using hk)
theorem fitTo_snoc {c : Cal} {f : Nat → Tr} {g : Nat → Int} {k : Nat} (h : FitTo c f g k) (hk : c.fitOk f g k = true) : FitTo c f g (k + 1) := fun j hj => by
  by_cases e : j = k
  · subst e; exact hk
  · exact h j (by omega)
theorem int_row {w : World} {B : Option Addr} {n : Nat} {g : Nat → Int} (h : RowsAt w B n 1 (fun i => [.int .i64 (g i)])) {k : Nat} (hk : k < n) :
    ∃ b o, B = some ⟨b, o, none⟩ ∧ b < w.heap.size ∧ w.cell? ⟨b, o + k, none⟩ = some (.int .i64 (g k)) := by
  obtain ⟨b, o, hB, hb, hc⟩ := h (by omega)
  exact ⟨b, o, hB, hb, by simpa using hc k 0 _ hk rfl⟩
set_option maxRecDepth 100000 in
set_option maxHeartbeats 8000000 in
theorem fitting_any (A A' : Option Addr) (ca cb : Nat) (c : Cal) (B D : Option Addr) (n cap m capd : Nat) (f : Nat → Tr) (g : Nat → Int) (w : World) (hC : CalAt w A ca A' cb c) (hT : RowsAt w B n 7 (fun i => (f i).cells)) (hD : RowsAt w D m 1 (fun i => [.int .i64 (g i)]))
    (hn : n ≤ 9223372036854775807) (hm : m ≤ 9223372036854775807) (hg : ∀ i, i < m → -9223372036854775808 ≤ g i ∧ g i ≤ 9223372036854775807) :
    Calls Tryd.prog 40 #[.agg #[.slice A c.nk ca, .slice A' c.ny cb], .slice B n cap, .slice D m capd] w fun e w' => e = .returned (.bool (c.fitting f n g m)) ∧ Ext w w' := by
  by_cases hnm : m = n
  · subst hnm
    go_enter Tryd.func40, Tryd.ntmps40
    go_upto_region 1 with (fail)
    obtain ⟨v, hv⟩ : ∃ v, v = (w.alloc (.cells #[.slice A c.nk ca, .slice A' c.ny cb] 25)) := ⟨_, rfl⟩
    rw [← hv]
    have E : Ext w v := by rw [hv]; exact (Ext.refl _).alloc _
    have B1 : Held v w.heap.size 25 #[.slice A c.nk ca, .slice A' c.ny cb] := by rw [hv]; exact (Held.new _ _ _)
    clear hv
    have C := hC.ext E
    clear hC
    generalize w.heap.size = b1 at *
    obtain ⟨k0, k1⟩ := B1.c2; have lk := B1.lt
    have HT := hT.ext E
    have HD := hD.ext E
    clear hT hD k0 k1 lk
    go_upto_region 4 with (fail)
    go_loopw [7] (fun i wr => ∃ k : Nat, k ≤ m ∧ i = .int .i64 k ∧ FitTo c f g k ∧ Ext v wr) (fun i _ => m - (intOf i).toNat)
    case atStart => exact ⟨0, Nat.zero_le _, rfl, (fun j hj => absurd hj (by omega)), Ext.refl _⟩
    case round =>
      obtain ⟨k, hk, rfl, hft, hE⟩ := hrel
      obtain ⟨wo, rfl⟩ : ∃ wo : World, wo = wr := ⟨_, rfl⟩
      by_cases hlt : k < m
      · obtain ⟨db, do_, rfl, hdb, c0⟩ := int_row (HD.ext hE) hlt
        have B1 := B1.ext hE
        have C := C.ext hE
        obtain ⟨k0, k1⟩ := B1.c2
        have lk := B1.lt
        have NA : ∀ v, CalAt v A ca A' cb c → Calls Tryd.prog 39 #[.agg #[.slice A c.nk ca, .slice A' c.ny cb], .int .i64 (g k)] v fun e w' => e = .returned (.tuple #[.agg #[.int .i64 (c.atV (g k)).y, .int .i64 (c.atV (g k)).m, .bool (c.atV (g k)).s, .int .i64 (c.atV (g k)).d], .int .i64 (c.atE (g k))]) ∧ Ext v w' := fun v h => atX_any A A' ca cb c (g k) v h (hg k hlt).1 (hg k hlt).2
        have NF := fun v (h : CalAt v A ca A' cb c) => fitsX_any A A' ca cb c (f k) (c.atV (g k)) v h
        have HB : Hid (c.fitOk f g k = (decide (c.atE (g k) = 0) && (decide (k = 0) || decide (g (k - 1) ≤ g k)) && decide (c.fitE (f k) (c.atV (g k)) = 0) && c.fitV (f k) (c.atV (g k)))) := rfl
        generalize c.fitE (f k) (c.atV (g k)) = fe at *
        generalize c.fitV (f k) (c.atV (g k)) = fv at *
        generalize c.atV (g k) = d at *
        generalize c.atE (g k) = ae at *
        have c1 : 0 < k → wo.cell? ⟨db, do_ + (k - 1), none⟩ = some (.int .i64 (g (k - 1))) := fun h0 => by
          obtain ⟨_, _, e, _, c1⟩ := int_row (HD.ext hE) (show k - 1 < m by omega)
          injection e with e
          injection e with e1 e2
          subst e1
          subst e2
          exact c1
        generalize g (k - 1) = y at *
        generalize g k = x at *
        go_upto_region 6 with (fail)
        apply wp_cutP (S := fun w' p => ∃ b, p = .pointer (some ⟨b, 0, none⟩) ∧ Ext wo w' ∧ Held w' b 39 #[.int .i64 d.y, .int .i64 d.m, .bool d.s, .int .i64 d.d])
        · refine wp_region_steps 12 wo mixed rfl (by repeat (first | exact Ext.refl _ | (refine Ext.alloc ?_ _) | (refine Ext.trans ?_ (by assumption)))) ?_
          intro hne hrx hry v3 h3
          refine any_stills (g := 7) [0, 1, 2, 3, 4] [_, _, _, _, _] ⟨rfl, rfl, rfl, rfl, rfl, trivial⟩ (by kernel_rfl) (by kernel_rfl) h3 ?_
          simp only [List.getElem_toArray, List.getElem_cons_succ, List.getElem_cons_zero]
          apply Exists.intro
          refine ⟨fun u => ?_, ?_⟩
          · repeat (first | go_big_quiet_skip | (go_big_quiet_want; go_big_quiet_op; go_big_quiet_on))
            refine wpQuiet_nil ?_
            rfl
          refine any_fork 5 9 rfl rfl (by kernel_rfl) ?_ ?_
          · simp only [List.getElem_toArray, List.getElem_cons_succ, List.getElem_cons_zero]
            go_wp2_with (go_at_call 39; (with_reducible refine Calls.mono (NA _ (C.ext h3)) ?_); rintro e v4 ⟨rfl, h4⟩)
            refine onQ_in (h3.trans h4) ?_
            refine any_stills (g := 3) [6, 7, 8] [_, _, _] ⟨rfl, rfl, rfl, trivial⟩ (by kernel_rfl) (by kernel_rfl) (h3.trans h4) ?_
            simp only [List.getElem_toArray, List.getElem_cons_succ, List.getElem_cons_zero]
            apply Exists.intro
            refine ⟨fun u => ?_, ?_⟩
            · repeat (first | go_big_quiet_skip | (go_big_quiet_want; go_big_quiet_op; go_big_quiet_on))
              refine wpQuiet_nil ?_
              rfl
            refine any_one 9 rfl (by kernel_rfl) ?_
            simp only [List.getElem_toArray, List.getElem_cons_succ, List.getElem_cons_zero]
            go_wp2
            refine onQ_in ((h3.trans h4).alloc _) ?_
            refine any_one 10 rfl (by kernel_rfl) ?_
            simp only [List.getElem_toArray, List.getElem_cons_succ, List.getElem_cons_zero]
            go_wp2
            refine onQ_in ((h3.trans h4).alloc _) ?_
            refine any_stills (g := 0) [11] [_] ⟨rfl, trivial⟩ (by kernel_rfl) (by kernel_rfl) ((h3.trans h4).alloc _) ?_
            simp only [List.getElem_toArray, List.getElem_cons_succ, List.getElem_cons_zero]
            apply Exists.intro
            refine ⟨fun u => ?_, ?_⟩
            · repeat (first | go_big_quiet_skip | (go_big_quiet_want; go_big_quiet_op; go_big_quiet_on))
              refine wpQuiet_nil ?_
              rfl
            refine any_done (by kernel_rfl) ?_
            obtain ⟨p, hp⟩ : ∃ p, p = Value.pointer (some ⟨v4.heap.size, 0, none⟩) := ⟨_, rfl⟩
            rw [← hp]
            exact cutP_is p ⟨_, hp, (h3.trans h4).alloc _, Held.new _ _ _⟩ rfl
          · simp only [List.getElem_toArray, List.getElem_cons_succ, List.getElem_cons_zero]
            go_wp2
            have h3a := h3.alloc (.cells #[.int .i64 0, .int .i64 0, .bool false, .int .i64 0] 39)
            refine onQ_in h3a ?_
            have hz := Held.new v3 39 #[.int .i64 0, .int .i64 0, .bool false, .int .i64 0]
            have hle := h3.size
            generalize v3.alloc (.cells #[.int .i64 0, .int .i64 0, .bool false, .int .i64 0] 39) = va at *
            generalize v3.heap.size = b at *
            refine any_one 5 rfl (by kernel_rfl) ?_
            simp only [List.getElem_toArray, List.getElem_cons_succ, List.getElem_cons_zero]
            go_wp2_with (go_at_call 39; (with_reducible refine Calls.mono (NA _ (C.ext h3a)) ?_); rintro e v4 ⟨rfl, h4⟩)
            refine onQ_in (h3a.trans h4) ?_
            replace hz := hz.ext h4
            have hx := h3a.trans h4
            clear h3 h3a h4
            refine any_stills (g := 2) [6, 7, 8] [_, _, _] ⟨rfl, rfl, rfl, trivial⟩ (by kernel_rfl) (by kernel_rfl) hx ?_
            simp only [List.getElem_toArray, List.getElem_cons_succ, List.getElem_cons_zero]
            apply Exists.intro
            refine ⟨fun u => ?_, ?_⟩
            · repeat (first | go_big_quiet_skip | (go_big_quiet_want; go_big_quiet_op; go_big_quiet_on))
              refine wpQuiet_nil ?_
              rfl
            obtain ⟨z0, z1, z2, z3⟩ := hz.c4
            have f0 := hz.frozen 0
            have f1 := hz.frozen 1
            have f2 := hz.frozen 2
            have f3 := hz.frozen 3
            have lz := hz.lt
            refine any_one 10 rfl (by kernel_rfl) ?_
            simp only [List.getElem_toArray, List.getElem_cons_succ, List.getElem_cons_zero]
            go_wp2
            have hs := held_set4 hz (.int .i64 d.y) (.int .i64 d.m) (.bool d.s) (.int .i64 d.d)
            have hx2 : Ext wo _ := (four_set hz (.int .i64 d.y) (.int .i64 d.m) (.bool d.s) (.int .i64 d.d)).2 wo hx hle
            refine onQ_in hx2 ?_
            refine any_stills (g := 0) [11] [_] ⟨rfl, trivial⟩ (by kernel_rfl) (by kernel_rfl) hx2 ?_
            simp only [List.getElem_toArray, List.getElem_cons_succ, List.getElem_cons_zero]
            apply Exists.intro
            refine ⟨fun u => ?_, ?_⟩
            · repeat (first | go_big_quiet_skip | (go_big_quiet_want; go_big_quiet_op; go_big_quiet_on))
              refine wpQuiet_nil ?_
              rfl
            refine any_done (by kernel_rfl) ?_
            obtain ⟨p, hp⟩ : ∃ p, p = Value.pointer (some ⟨b, 0, none⟩) := ⟨_, rfl⟩
            rw [← hp]
            exact cutP_is p ⟨_, hp, hx2, hs⟩ rfl
        rintro p v4 ⟨b4, rfl, h, B4⟩
        have e0 := (h.cell (p := ⟨db, do_ + k, none⟩) hdb).trans c0
        have ld : db < v4.heap.size := Nat.lt_of_lt_of_le hdb h.size
        have C4 := C.ext h
        obtain ⟨m0, m1⟩ := (B1.ext h).c2
        have lm := (B1.ext h).lt
        obtain ⟨r0, r1, r2, r3⟩ := B4.c4
        have lr := B4.lt
        have HK := Lib.hid hft
        clear hft NA
        by_cases ha : ae = 0
        · subst ha
          by_cases h0 : 0 < k
          · have hi1 : ((k : Int) - 1).toNat = k - 1 := by omega
            have e1 := (h.cell (p := ⟨db, do_ + (k - 1), none⟩) hdb).trans (c1 h0)
            by_cases hxy : x < y
            · have HN : Hid (c.fitOk f g k = false) := HB.out.trans (by rw [decide_eq_false (show ¬ k = 0 by omega), decide_eq_false (show ¬ y ≤ x by omega)]; rfl)
              clear HB
              go_upto_region 7 with (fail)
              refine wp_region_xw v4 mixed (by kernel_rfl) (by repeat (first | exact Ext.refl _ | (refine Ext.alloc ?_ _) | (refine Ext.trans ?_ (by assumption)))) ?_
              intro hne hrx hry
              try simp only []
              try simp only [List.append_eq, List.cons_append, List.nil_append]
              skip
              repeat (first
                | go_big_quiet_skip
                | (go_big_quiet_want; go_big_quiet_op; go_big_quiet_on))
              clear hne hry hrx
              refine wpQuiet_nil ?_
              intro wn hwn
              obtain ⟨hcwn, hfwn, hzwn⟩ := Ext.rules hwn
              try simp only [World.size_alloc] at hzwn
              obtain ⟨hcbwn, hfbwn, hzbwn⟩ := Ext.rules (show Ext v4 wn from (by repeat (first | exact Ext.refl _ | (refine Ext.alloc ?_ _) | (refine Ext.trans ?_ (by assumption)))))
              clear hcwn hfwn
              go_wp2
              go_ret
              exact ⟨by rw [fitting_no hlt HN.out]; rfl, (E.trans hE).trans (by repeat (first | exact Ext.refl _ | (refine Ext.alloc ?_ _) | (refine Ext.trans ?_ (by assumption))))⟩
            · have HB2 : Hid (c.fitOk f g k = (decide (fe = 0) && fv)) := HB.out.trans (by rw [decide_eq_true (show y ≤ x by omega), Bool.or_true]; rfl)
              have hxy' : decide (x < y) = false := decide_eq_false hxy
              clear HB hxy
              go_upto_region 7 with (fail)
              refine wp_region_xw v4 mixed (by kernel_rfl) (by repeat (first | exact Ext.refl _ | (refine Ext.alloc ?_ _) | (refine Ext.trans ?_ (by assumption)))) ?_
              intro hne hrx hry
              try simp only []
              try simp only [List.append_eq, List.cons_append, List.nil_append]
              skip
              repeat (first
                | go_big_quiet_skip
                | (go_big_quiet_want; go_big_quiet_op; go_big_quiet_on))
              clear hne hry hrx
              refine wpQuiet_nil ?_
              intro wn hwn
              obtain ⟨hcwn, hfwn, hzwn⟩ := Ext.rules hwn
              try simp only [World.size_alloc] at hzwn
              obtain ⟨hcbwn, hfbwn, hzbwn⟩ := Ext.rules (show Ext v4 wn from (by repeat (first | exact Ext.refl _ | (refine Ext.alloc ?_ _) | (refine Ext.trans ?_ (by assumption)))))
              clear hcwn hfwn
              obtain ⟨tb, to_, rfl, htb, t0, t1, t2, t3, t4, t5, t6⟩ := Tr.row (HT.ext (hE.trans h)) hlt
              go_upto_region 9 with (fail)
              refine wp_region_xw v4 mixed (by kernel_rfl) (by repeat (first | exact Ext.refl _ | (refine Ext.alloc ?_ _) | (refine Ext.trans ?_ (by assumption)))) ?_
              intro hne hrx hry
              try simp only []
              try simp only [List.append_eq, List.cons_append, List.nil_append]
              skip
              repeat (first
                | go_big_quiet_skip
                | (go_big_quiet_want; go_big_quiet_op; go_big_quiet_on)
                | (go_big_quiet_want; go_big_quiet_op; apply Exists.intro; refine ⟨fun u => ?_, ?_⟩
                   · first
                       | (go_at_call 36; (with_reducible refine Calls.mono (NF _ (C4.ext (Ext.trans (by assumption) u.e))) ?_); rintro e w' ⟨rfl, hb⟩; exact ⟨rfl, u.back hb⟩)
                   go_big_quiet_on))
              clear hne hry hrx
              refine wpQuiet_nil ?_
              intro wm hwm
              obtain ⟨hcwm, hfwm, hzwm⟩ := Ext.rules hwm
              try simp only [World.size_alloc] at hzwm
              obtain ⟨hcbwm, hfbwm, hzbwm⟩ := Ext.rules (show Ext v4 wm from (by repeat (first | exact Ext.refl _ | (refine Ext.alloc ?_ _) | (refine Ext.trans ?_ (by assumption)))))
              clear hcwm hfwm
              by_cases hfe : fe = 0
              · subst hfe
                cases hfv : fv
                · have HN : Hid (c.fitOk f g k = false) := HB2.out.trans (by rw [hfv]; rfl)
                  go_wp2
                  go_ret
                  exact ⟨by rw [fitting_no hlt HN.out]; rfl, (E.trans hE).trans (by repeat (first | exact Ext.refl _ | (refine Ext.alloc ?_ _) | (refine Ext.trans ?_ (by assumption))))⟩
                · have HY : Hid (FitTo c f g (k + 1)) := fitTo_snoc HK.out (HB2.out.trans (by rw [hfv]; rfl))
                  go_wp2
                  exact ⟨⟨k + 1, by omega, by go_num, HY.out, (by repeat (first | exact Ext.refl _ | (refine Ext.alloc ?_ _) | (refine Ext.trans ?_ (by assumption))))⟩, by simp [intOf]; omega⟩
              · have HN : Hid (c.fitOk f g k = false) := HB2.out.trans (by rw [decide_eq_false hfe]; rfl)
                have hfe' : (fe == 0) = false := beq_eq_false_iff_ne.2 hfe
                go_wp2
                go_ret
                exact ⟨by rw [fitting_no hlt HN.out]; rfl, (E.trans hE).trans (by repeat (first | exact Ext.refl _ | (refine Ext.alloc ?_ _) | (refine Ext.trans ?_ (by assumption))))⟩
          · have HB2 : Hid (c.fitOk f g k = (decide (fe = 0) && fv)) := HB.out.trans (by rw [decide_eq_true (show k = 0 by omega), Bool.true_or]; rfl)
            clear HB
            go_upto_region 7 with (fail)
            refine wp_region_xw v4 mixed (by kernel_rfl) (by repeat (first | exact Ext.refl _ | (refine Ext.alloc ?_ _) | (refine Ext.trans ?_ (by assumption)))) ?_
            intro hne hrx hry
            try simp only []
            try simp only [List.append_eq, List.cons_append, List.nil_append]
            skip
            repeat (first
              | go_big_quiet_skip
              | (go_big_quiet_want; go_big_quiet_op; go_big_quiet_on))
            clear hne hry hrx
            refine wpQuiet_nil ?_
            intro wn hwn
            obtain ⟨hcwn, hfwn, hzwn⟩ := Ext.rules hwn
            try simp only [World.size_alloc] at hzwn
            obtain ⟨hcbwn, hfbwn, hzbwn⟩ := Ext.rules (show Ext v4 wn from (by repeat (first | exact Ext.refl _ | (refine Ext.alloc ?_ _) | (refine Ext.trans ?_ (by assumption)))))
            clear hcwn hfwn
            obtain ⟨tb, to_, rfl, htb, t0, t1, t2, t3, t4, t5, t6⟩ := Tr.row (HT.ext (hE.trans h)) hlt
            go_upto_region 9 with (fail)
            refine wp_region_xw v4 mixed (by kernel_rfl) (by repeat (first | exact Ext.refl _ | (refine Ext.alloc ?_ _) | (refine Ext.trans ?_ (by assumption)))) ?_
            intro hne hrx hry
            try simp only []
            try simp only [List.append_eq, List.cons_append, List.nil_append]
            skip
            repeat (first
              | go_big_quiet_skip
              | (go_big_quiet_want; go_big_quiet_op; go_big_quiet_on)
              | (go_big_quiet_want; go_big_quiet_op; apply Exists.intro; refine ⟨fun u => ?_, ?_⟩
                 · first
                     | (go_at_call 36; (with_reducible refine Calls.mono (NF _ (C4.ext (Ext.trans (by assumption) u.e))) ?_); rintro e w' ⟨rfl, hb⟩; exact ⟨rfl, u.back hb⟩)
                 go_big_quiet_on))
            clear hne hry hrx
            refine wpQuiet_nil ?_
            intro wm hwm
            obtain ⟨hcwm, hfwm, hzwm⟩ := Ext.rules hwm
            try simp only [World.size_alloc] at hzwm
            obtain ⟨hcbwm, hfbwm, hzbwm⟩ := Ext.rules (show Ext v4 wm from (by repeat (first | exact Ext.refl _ | (refine Ext.alloc ?_ _) | (refine Ext.trans ?_ (by assumption)))))
            clear hcwm hfwm
            by_cases hfe : fe = 0
            · subst hfe
              cases hfv : fv
              · have HN : Hid (c.fitOk f g k = false) := HB2.out.trans (by rw [hfv]; rfl)
                go_wp2
                go_ret
                exact ⟨by rw [fitting_no hlt HN.out]; rfl, (E.trans hE).trans (by repeat (first | exact Ext.refl _ | (refine Ext.alloc ?_ _) | (refine Ext.trans ?_ (by assumption))))⟩
              · have HY : Hid (FitTo c f g (k + 1)) := fitTo_snoc HK.out (HB2.out.trans (by rw [hfv]; rfl))
                go_wp2
                exact ⟨⟨k + 1, by omega, by go_num, HY.out, (by repeat (first | exact Ext.refl _ | (refine Ext.alloc ?_ _) | (refine Ext.trans ?_ (by assumption))))⟩, by simp [intOf]; omega⟩
            · have HN : Hid (c.fitOk f g k = false) := HB2.out.trans (by rw [decide_eq_false hfe]; rfl)
              have hfe' : (fe == 0) = false := beq_eq_false_iff_ne.2 hfe
              go_wp2
              go_ret
              exact ⟨by rw [fitting_no hlt HN.out]; rfl, (E.trans hE).trans (by repeat (first | exact Ext.refl _ | (refine Ext.alloc ?_ _) | (refine Ext.trans ?_ (by assumption))))⟩
        · have HN : Hid (c.fitOk f g k = false) := HB.out.trans (by rw [decide_eq_false ha]; rfl)
          have ha' : (ae == 0) = false := beq_eq_false_iff_ne.2 ha
          have ha2 : (ae != 0) = true := by simp [ha]
          have ha3 : decide (ae = 0) = false := decide_eq_false ha
          clear HB
          go_upto_region 7 with (fail)
          refine wp_region_xw v4 mixed (by kernel_rfl) (by repeat (first | exact Ext.refl _ | (refine Ext.alloc ?_ _) | (refine Ext.trans ?_ (by assumption)))) ?_
          intro hne hrx hry
          try simp only []
          try simp only [List.append_eq, List.cons_append, List.nil_append]
          skip
          repeat (first
            | go_big_quiet_skip
            | (go_big_quiet_want; go_big_quiet_op; go_big_quiet_on))
          clear hne hry hrx
          refine wpQuiet_nil ?_
          intro wn hwn
          obtain ⟨hcwn, hfwn, hzwn⟩ := Ext.rules hwn
          try simp only [World.size_alloc] at hzwn
          obtain ⟨hcbwn, hfbwn, hzbwn⟩ := Ext.rules (show Ext v4 wn from (by repeat (first | exact Ext.refl _ | (refine Ext.alloc ?_ _) | (refine Ext.trans ?_ (by assumption)))))
          clear hcwn hfwn
          go_wp2
          go_ret
          exact ⟨by rw [fitting_no hlt HN.out]; rfl, (E.trans hE).trans (by repeat (first | exact Ext.refl _ | (refine Ext.alloc ?_ _) | (refine Ext.trans ?_ (by assumption))))⟩
      · have hkn : k = m := by omega
        subst hkn
        have HR := Lib.hid (fitting_yes hft)
        clear hft
        go_wp2
        go_ret
        exact ⟨by rw [HR.out]; rfl, E.trans hE⟩
  · have HR : Hid (c.fitting f n g m = false) := by unfold Hid Cal.fitting; rw [decide_eq_false hnm, Bool.false_and]
    have h1 : ((m : Int) == (n : Int)) = false := beq_eq_false_iff_ne.2 (by omega)
    have h2 : (m == n) = false := beq_eq_false_iff_ne.2 hnm
    go_enter Tryd.func40, Tryd.ntmps40
    go_wp2
    go_ret
    exact ⟨ret_bool HR.out.symm, (by repeat (first | exact Ext.refl _ | (refine Ext.alloc ?_ _) | (refine Ext.trans ?_ (by assumption))))⟩
end Go.Proofs.YtfchchmmjabjnaaDoor
