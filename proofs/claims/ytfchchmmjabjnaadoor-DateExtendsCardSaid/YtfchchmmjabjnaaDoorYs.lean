/- Extend of the reference. -/
import Derived.Test.YtfchchmmjabjnaaDoorYr
namespace Go.Proofs.YtfchchmmjabjnaaDoor
open Go Go.RowKit
attribute [local go_sem] gv_yes

/-- What a round of the loop leaves. -/
structure ExR (b W : World) (bo : Nat) (vk vy : Value) (nk : Nat) (kx : List Value) (ny : Nat) (yx : List Value) : Prop where
  e : Ext b W
  k : W.ownsRow b.heap.size 9 1 vk nk kx
  y : W.ownsRow b.heap.size 99 4 vy ny yx
  o : Held W bo 25 #[vk, vy]
  lo : b.heap.size ≤ bo
namespace ExR
variable {b W W' : World} {bo nk ny : Nat} {vk vy : Value} {kx yx : List Value}
theorem ext (h : ExR b W bo vk vy nk kx ny yx) (x : Ext W W') : ExR b W' bo vk vy nk kx ny yx := ⟨h.e.trans x, ownsRow_ext h.k x, ownsRow_ext h.y x, h.o.ext x, h.lo⟩
theorem push (h : ExR b W bo vk vy nk kx ny yx) {w1 : World} {v' : Value} {ob : Obj} {news : List Value} {m : Nat} (hown : w1.ownsRow b.heap.size 99 4 v' m news) (hgrow : (W.alloc ob).grownBy w1 vy.ownBlock) :
    Held w1 bo 25 #[vk, vy] ∧ ExR b (w1.setCell ⟨bo, 1, none⟩ v') bo vk v' nk kx m news := by
  have ha := h.ext ((Ext.refl W).alloc ob)
  have e1 : Ext b w1 := ha.e.grown hgrow (fun q hq => (row_type ha.y q hq).1)
  have k1 := ha.k.kept hgrow (rows_apart ha.k ha.y (by decide))
  have o1 := ha.o.kept hgrow (ha.o.not_row (by decide) ha.y)
  exact ⟨o1, e1.setCell (p := ⟨bo, 1, none⟩) h.lo _, own_set o1 (by decide) k1 1 v', own_set o1 (by decide) hown 1 v', held_snd o1 v', h.lo⟩
end ExR
theorem place_int {p k : Nat} (h : 1 ≤ p) : ((p : Int) - 1 + (k : Int)) % 19 + 1 = (placeAt p k : Int) := by
  unfold placeAt
  omega
set_option maxRecDepth 100000 in
set_option maxHeartbeats 8000000 in
theorem extend_any_r (A A' Bn : Option Addr) (ca cb n cap : Nat) (c : Cal) (g : Nat → ByteArray) (p : Int) (w : World) (hC : CalAt w A ca A' cb c) (hN : RowsAt w Bn n 1 (fun i => [.string (g i)])) (hn : n ≤ 9223372036854775807) :
    Calls Tryd.prog 73 #[.agg #[.slice A c.nk ca, .slice A' c.ny cb], .slice Bn n cap, .int .i64 p] w fun e w' => ∃ F F' da db, e = .returned (.tuple #[.agg #[.slice F (c.extV g n p).nk da, .slice F' (c.extV g n p).ny db], .int .i64 (c.extE g n p)]) ∧ Ext w w' ∧ CalAt w' F da F' db (c.extV g n p) := by
  have NT := fun v (h : CalAt v A ca A' cb c) => validR_any A A' ca cb c v h
  cases hv : c.valid
  · have HR : Hid (c.extE g n p = 70) := by unfold Hid Cal.extE; rw [hv]; rfl
    rw [hv] at NT
    clear hv
    go_enter Tryd.func73, Tryd.ntmps73
    go_upto_region 1 with (fail)
    obtain ⟨v, hv⟩ : ∃ v, v = ((w.alloc (.cells #[.slice A c.nk ca, .slice A' c.ny cb] 25)).alloc (.cells #[.slice none 0 0, .slice none 0 0] 25)) := ⟨_, rfl⟩
    rw [← hv]
    have E : Ext w v := by rw [hv]; exact ((Ext.refl _).alloc _).alloc _
    have B1 : Held v w.heap.size 25 #[.slice A c.nk ca, .slice A' c.ny cb] := by rw [hv]; exact (Held.new _ _ _).alloc _
    have B2 : Held v (w.heap.size + 1) 25 #[.slice none 0 0, .slice none 0 0] := by rw [hv]; exact Held.at _ _ _ _ (by simp)
    clear hv
    have C := hC.ext E
    clear hC
    generalize hb1 : w.heap.size = b1 at *
    replace hb1 := Lib.hid hb1
    obtain ⟨k0, k1⟩ := B1.c2; have lk := B1.lt
    obtain ⟨p0, p1⟩ := B2.c2; have lp := B2.lt
    go_upto_region 2 with (go_at_call 78; (with_reducible refine Calls.mono (NT _ C) ?_); rintro e v2 ⟨rfl, h⟩)
    replace E := Ext.trans E h
    replace C := C.ext h
    replace B1 := B1.ext h
    replace B2 := B2.ext h
    clear h
    clear k0 k1 lk
    clear p0 p1 lp
    obtain ⟨k0, k1⟩ := B1.c2; have lk := B1.lt
    obtain ⟨p0, p1⟩ := B2.c2; have lp := B2.lt
    have f0 := B2.frozen 0
    have f1 := B2.frozen 1
    have BZ := B2
    have EZ := E
    have HR3 := HR
    go_wp2
    have H2 := held_two BZ (.slice none 0 0) (.slice none 0 0)
    obtain ⟨y0, y1⟩ := H2.c2
    have E2 := (EZ.setCell (p := ⟨b1 + 1, 0, none⟩) (by have := hb1.out; show w.heap.size ≤ b1 + 1; omega) (.slice none 0 0)).setCell (p := ⟨b1 + 1, 1, none⟩) (by have := hb1.out; show w.heap.size ≤ b1 + 1; omega) (.slice none 0 0)
    refine bodyPost_ret (v := .tuple #[.agg #[.slice none 0 0, .slice none 0 0], .int .i64 70]) (by simp [results, Tryd.results73, go_sem, y0, y1]) rfl ⟨none, none, 0, 0, by rw [HR3.out]; unfold Cal.extV; rw [HR3.out]; rfl, E2, by unfold Cal.extV; rw [HR3.out]; exact ⟨fun h => absurd h (by show ¬ 0 < 0; omega), fun h => absurd h (by show ¬ 0 < 0; omega), Nat.zero_le _, Nat.zero_le _, Nat.le_refl _, Nat.le_refl _⟩⟩
  · have ok := valid_iff.1 hv
    have hny := ok.ny
    have hnk := ok.nk
    rw [hv] at NT
    by_cases hp : 1 ≤ p ∧ p ≤ 19
    · by_cases hl : n ≤ 38 ∧ c.ny + n ≤ 400
      · obtain ⟨P, rfl⟩ : ∃ P : Nat, p = (P : Int) := ⟨p.toNat, by omega⟩
        have HR : Hid (c.extE g n (P : Int) = if c.extAll P g n then 0 else 5) := by unfold Hid Cal.extE; rw [if_pos hv, if_pos hp, if_pos hl]; rfl
        have hP1 : 1 ≤ P := by omega
        have hP2 : P ≤ 19 := by omega
        have p1 : decide ((P : Int) < 1) = false := decide_eq_false (by omega)
        have p2 : decide (19 < (P : Int)) = false := decide_eq_false (by omega)
        have l1b : decide (38 < (n : Int)) = false := decide_eq_false (by omega)
        have l2b : decide (400 < (c.ny : Int) + (n : Int)) = false := decide_eq_false (by omega)
        obtain ⟨i0, hi, hz0, hz1, hz2⟩ := info_parts info_year
        clear hv ok hp
        go_enter Tryd.func73, Tryd.ntmps73
        go_upto_region 1 with (fail)
        obtain ⟨v, hv⟩ : ∃ v, v = ((w.alloc (.cells #[.slice A c.nk ca, .slice A' c.ny cb] 25)).alloc (.cells #[.slice none 0 0, .slice none 0 0] 25)) := ⟨_, rfl⟩
        rw [← hv]
        have E : Ext w v := by rw [hv]; exact ((Ext.refl _).alloc _).alloc _
        have B1 : Held v w.heap.size 25 #[.slice A c.nk ca, .slice A' c.ny cb] := by rw [hv]; exact (Held.new _ _ _).alloc _
        have B2 : Held v (w.heap.size + 1) 25 #[.slice none 0 0, .slice none 0 0] := by rw [hv]; exact Held.at _ _ _ _ (by simp)
        clear hv
        have C := hC.ext E
        clear hC
        generalize hb1 : w.heap.size = b1 at *
        replace hb1 := Lib.hid hb1
        obtain ⟨k0, k1⟩ := B1.c2; have lk := B1.lt
        obtain ⟨p0, p1⟩ := B2.c2; have lp := B2.lt
        go_upto_region 3 with (go_at_call 78; (with_reducible refine Calls.mono (NT _ C) ?_); rintro e v2 ⟨rfl, h⟩)
        replace E := Ext.trans E h
        replace C := C.ext h
        replace B1 := B1.ext h
        replace B2 := B2.ext h
        clear h
        clear k0 k1 lk
        clear p0 p1 lp
        obtain ⟨k0, k1⟩ := B1.c2; have lk := B1.lt
        obtain ⟨p0, p1⟩ := B2.c2; have lp := B2.lt
        obtain ⟨kb, ko, hA, hkb, q9⟩ := C.king (i := 0) (by omega)
        obtain ⟨yb, yo, hA', hyb, y0, y1, y2, y3⟩ := C.year (i := 0) (by omega)
        subst hA
        subst hA'
        clear q9 y0 y1 y2 y3
        have NCP := fun v (h : CalAt v (some ⟨kb, ko, none⟩) ca (some ⟨yb, yo, none⟩) cb c) => copy_own _ _ ca cb c v h (fun h => by cases h) (fun h => by cases h) (by omega) (by omega)
        go_upto_region 8 with (go_at_call 23; (with_reducible refine Calls.mono (NCP _ C) ?_); rintro e v3 ⟨F1, F2, m1, m2, rfl, h, hK, hY⟩)
        obtain ⟨v4, hv4⟩ : ∃ x, x = v3.alloc (.cells #[.slice F1 c.nk m1, .slice F2 c.ny m2] 25) := ⟨_, rfl⟩
        rw [← hv4]
        have h4 : Ext v3 v4 := by rw [hv4]; exact (Ext.refl _).alloc _
        have HBo : Held v4 v3.heap.size 25 #[.slice F1 c.nk m1, .slice F2 c.ny m2] := by rw [hv4]; exact Held.new _ _ _
        have hS0 : ExR v2 v4 v3.heap.size (.slice F1 c.nk m1) (.slice F2 c.ny m2) c.nk (flatL (strRow c.kg) c.nk) c.ny (flatL (fun i => (c.yr i).cells) c.ny) := ⟨h.trans h4, ownsRow_ext hK h4, ownsRow_ext hY h4, HBo, h.size⟩
        have Ef := h.trans h4
        clear hv4 h h4 HBo hK hY NCP k0 k1 lk
        generalize v3.heap.size = bo at *
        have Cf := C.ext Ef
        obtain ⟨k0, k1⟩ := (B1.ext Ef).c2
        have lk := (B1.ext Ef).lt
        obtain ⟨yb', yo', ee, hyb', y0, y1, y2, y3⟩ := Cf.year (i := c.ny - 1) (by omega)
        cases ee
        obtain ⟨K, hKK⟩ : ∃ K, K = (c.yr (c.ny - 1)).k := ⟨_, rfl⟩
        have hLK : Hid (c.lastK = K) := hKK.symm
        rw [← hKK] at y0
        clear hKK y1 y2 y3 Cf
        have x0 : (0 : Int) ≤ (c.ny : Int) - 1 := by omega
        have x1 : (c.ny : Int) - 1 < (c.ny : Int) := by omega
        have hS1 : ∃ vy, ExR v2 v4 bo (.slice F1 c.nk m1) vy c.nk (flatL (strRow c.kg) c.nk) (c.ny + 0) (flatL (fun i => (c.extY P g i).cells) (c.ny + 0)) := ⟨_, by
          rw [Nat.add_zero, show flatL (fun i => (c.extY P g i).cells) c.ny = flatL (fun i => (c.yr i).cells) c.ny from flatL_congr fun i hi => by rw [extY_old hi]]
          exact hS0⟩
        clear hS0
        go_upto_region 10 with (fail)
        go_loopw [10] (fun iv wr => ∃ k : Nat, k ≤ n ∧ iv = .int .i64 (k : Int) ∧ Hid (∀ i, i < k → c.extGood P g i = true) ∧ ∃ vy, ExR v2 wr bo (.slice F1 c.nk m1) vy c.nk (flatL (strRow c.kg) c.nk) (c.ny + k) (flatL (fun i => (c.extY P g i).cells) (c.ny + k))) (fun iv _ => n - (intOf iv).toNat)
        case atStart => exact ⟨0, Nat.zero_le _, rfl, fun i h => absurd h (by omega), hS1⟩
        case round =>
          clear hS1 k0 k1 lk y0
          obtain ⟨k, hk, rfl, hgood, vy, hS⟩ := hrel
          obtain ⟨wo, rfl⟩ : ∃ wo : World, wo = wr := ⟨_, rfl⟩
          by_cases hlt : k < n
          · obtain ⟨nb, no, hNN, hnb, hc⟩ := (hN.ext (E.trans hS.e)) (by omega)
            subst hNN
            have c0 : wo.cell? ⟨nb, no + k, none⟩ = some (.string (g k)) := by simpa using hc k 0 _ hlt rfl
            clear hc
            have hpb := placeAt_bd P k
            have hpi := place_int (k := k) hP1
            have hnew := Lib.hid (extY_new c P g k)
            have ND := fun w => doubled_any (placeAt P k) hpb.1 hpb.2 w
            have hEG : Hid (c.extGood P g k = (isName (g k) && !hadF (c.extY P g) ⟨K, g k, lgOf (dbl (placeAt P k)), dbl (placeAt P k)⟩ (c.ny + k))) := by
              show _ = _
              rw [← hLK.out]; rfl
            generalize placeAt P k = q at *
            have hdc := dbl_cases q
            generalize hdq : dbl q = dq at *
            go_upto_region 12 with (fail)
            apply wp_cut1x (S := fun w' r => Ext wo w' ∧ wo.heap.size ≤ r ∧ Held w' r 99 #[.int .i64 K, .string (g k), .int .i64 1365, .int .i64 dq])
            · refine wp_region_stepsW 15 wo mixed rfl (Ext.refl _) ?_
              intro hne hrx v3 h3
              refine any_stills (g := 4) [0, 1, 2, 3, 4, 5, 6, 7, 8, 9, 10] [_, _, _, _, _, _, _, _, _, _, _] ⟨rfl, rfl, rfl, rfl, rfl, rfl, rfl, rfl, rfl, rfl, rfl, trivial⟩ (by kernel_rfl) (by kernel_rfl) h3 ?_
              simp only [List.getElem_toArray, List.getElem_cons_succ, List.getElem_cons_zero]
              apply Exists.intro
              refine ⟨fun u => ?_, ?_⟩
              · repeat (first | go_big_quiet_skip | (go_big_quiet_want; go_big_quiet_op; go_big_quiet_on))
                refine wpQuiet_nil ?_
                rfl
              refine any_fork 11 13 rfl rfl (by kernel_rfl) ?_ ?_
              · simp only [List.getElem_toArray, List.getElem_cons_succ, List.getElem_cons_zero]
                go_wp2_with (go_at_call 115; (with_reducible refine Calls.mono (ND _) ?_); rintro e w8 ⟨rfl, h8⟩)
                have e8 := h3.trans h8
                refine onQ_in e8 ?_
                refine any_stills (g := 2) [12] [_] ⟨rfl, trivial⟩ (by kernel_rfl) (by kernel_rfl) e8 ?_
                simp only [List.getElem_toArray, List.getElem_cons_succ, List.getElem_cons_zero]
                apply Exists.intro
                refine ⟨fun u => ?_, ?_⟩
                · repeat (first | go_big_quiet_skip | (go_big_quiet_want; go_big_quiet_op; go_big_quiet_on))
                  refine wpQuiet_nil ?_
                  rfl
                refine any_one 13 rfl (by kernel_rfl) ?_
                simp only [List.getElem_toArray, List.getElem_cons_succ, List.getElem_cons_zero]
                go_wp2
                refine onQ_in (e8.alloc _) ?_
                refine any_one 14 rfl (by kernel_rfl) ?_
                simp only [List.getElem_toArray, List.getElem_cons_succ, List.getElem_cons_zero]
                have hle := e8.size
                have HB0 := Held.new w8 99 #[.int .i64 0, .string ⟨#[]⟩, .int .i64 0, .int .i64 0]
                have h6' : Ext w8 (w8.alloc (.cells #[.int .i64 0, .string ⟨#[]⟩, .int .i64 0, .int .i64 0] 99)) := (Ext.refl _).alloc _
                generalize w8.heap.size = by_ at *
                generalize World.alloc w8 _ = w9 at *
                have e9 := e8.trans h6'
                have g0 := HB0.frozen 0
                have g1 := HB0.frozen 1
                have g2 := HB0.frozen 2
                have g3 := HB0.frozen 3
                obtain ⟨t0, t1, t2, t3⟩ := HB0.c4
                have lt := HB0.lt
                obtain hx := held_set4 HB0 (.int .i64 K) (.string (g k)) (.int .i64 1365) (.int .i64 dq)
                have ex := (four_set HB0 (.int .i64 K) (.string (g k)) (.int .i64 1365) (.int .i64 dq)).2 wo e9 hle
                go_wp2
                refine onQ_in ex ?_
                refine any_done (by kernel_rfl) ?_
                exact cut1x_is by_ ⟨ex, hle, hx⟩ rfl
              · simp only [List.getElem_toArray, List.getElem_cons_succ, List.getElem_cons_zero]
                go_wp2
                refine onQ_in (h3.alloc _) ?_
                have hle := h3.size
                have HB0 := Held.new v3 99 #[.int .i64 0, .string ⟨#[]⟩, .int .i64 0, .int .i64 0]
                have h6' : Ext v3 (v3.alloc (.cells #[.int .i64 0, .string ⟨#[]⟩, .int .i64 0, .int .i64 0] 99)) := (Ext.refl _).alloc _
                generalize v3.heap.size = by_ at *
                generalize World.alloc v3 _ = w8 at *
                have e8 := h3.trans h6'
                refine any_one 11 rfl (by kernel_rfl) ?_
                simp only [List.getElem_toArray, List.getElem_cons_succ, List.getElem_cons_zero]
                go_wp2_with (go_at_call 115; (with_reducible refine Calls.mono (ND _) ?_); rintro e w9 ⟨rfl, h8⟩)
                have e9 := e8.trans h8
                replace HB0 := HB0.ext h8
                refine onQ_in e9 ?_
                refine any_one 12 rfl (by kernel_rfl) ?_
                simp only [List.getElem_toArray, List.getElem_cons_succ, List.getElem_cons_zero]
                go_wp2
                refine onQ_in e9 ?_
                refine any_one 14 rfl (by kernel_rfl) ?_
                simp only [List.getElem_toArray, List.getElem_cons_succ, List.getElem_cons_zero]
                have g0 := HB0.frozen 0
                have g1 := HB0.frozen 1
                have g2 := HB0.frozen 2
                have g3 := HB0.frozen 3
                obtain ⟨t0, t1, t2, t3⟩ := HB0.c4
                have lt := HB0.lt
                obtain hx := held_set4 HB0 (.int .i64 K) (.string (g k)) (.int .i64 1365) (.int .i64 dq)
                have ex := (four_set HB0 (.int .i64 K) (.string (g k)) (.int .i64 1365) (.int .i64 dq)).2 wo e9 hle
                go_wp2
                refine onQ_in ex ?_
                refine any_done (by kernel_rfl) ?_
                exact cut1x_is by_ ⟨ex, hle, hx⟩ rfl
            · intro by_ w9 ⟨e9, hle, HBy⟩
              have HDQ := Lib.hid hdq
              clear hdq c0 hpi
              rcases hdc with rfl | rfl | rfl
              · have S9 := hS.ext e9
                obtain ⟨F3, m3, rfl, hRY, hm3, hm4, hm5, hm6⟩ := flat_rows (f := fun i => (c.extY P g i).cells) (sz := 4) (fun _ => rfl) S9.y
                have NH : Calls Tryd.prog 116 #[.slice F3 (c.ny + k) m3, .agg #[.int .i64 K, .string (g k), .int .i64 1365, .int .i64 0]] w9 fun e w' => e = .returned (.bool (hadF (c.extY P g) ⟨K, g k, 1365, 0⟩ (c.ny + k))) ∧ Ext w9 w' := had_any F3 (c.ny + k) m3 (c.extY P g) ⟨K, g k, 1365, 0⟩ w9 hRY (by omega)
                have hEG2 : Hid (c.extGood P g k = (isName (g k) && !hadF (c.extY P g) ⟨K, g k, 1365, 0⟩ (c.ny + k))) := hEG.out
                have NIS := isNameR_any (g k) w9
                clear hEG
                generalize hadF (c.extY P g) ⟨K, g k, 1365, 0⟩ (c.ny + k) = hb at *
                generalize isName (g k) = ib at *
                obtain ⟨o0, o1⟩ := S9.o.c2
                have lo := S9.o.lt
                obtain ⟨t0, t1, t2, t3⟩ := HBy.c4
                have lt := HBy.lt
                cases ib
                · have HR3 : Hid (c.extE g n (P : Int) = 5) := by unfold Hid; rw [HR.out, extAll_no hlt (by rw [hEG2.out]; rfl)]; rfl
                  have BZ := B2.ext S9.e
                  have EZ := E.trans S9.e
                  have f0 := BZ.frozen 0
                  have f1 := BZ.frozen 1
                  obtain ⟨r0, r1⟩ := BZ.c2
                  have lr := BZ.lt
                  go_wp2_with (go_at_call 95; refine NIS.mono ?_; rintro e w' ⟨rfl, rfl⟩)
                  have H2 := held_two BZ (.slice none 0 0) (.slice none 0 0)
                  obtain ⟨y0, y1⟩ := H2.c2
                  have E2 := (EZ.setCell (p := ⟨b1 + 1, 0, none⟩) (by have := hb1.out; show w.heap.size ≤ b1 + 1; omega) (.slice none 0 0)).setCell (p := ⟨b1 + 1, 1, none⟩) (by have := hb1.out; show w.heap.size ≤ b1 + 1; omega) (.slice none 0 0)
                  refine bodyPost_ret (v := .tuple #[.agg #[.slice none 0 0, .slice none 0 0], .int .i64 5]) (by simp [results, Tryd.results73, go_sem, y0, y1]) rfl ⟨none, none, 0, 0, by rw [HR3.out]; unfold Cal.extV; rw [HR3.out]; rfl, E2, by unfold Cal.extV; rw [HR3.out]; exact ⟨fun h => absurd h (by show ¬ 0 < 0; omega), fun h => absurd h (by show ¬ 0 < 0; omega), Nat.zero_le _, Nat.zero_le _, Nat.le_refl _, Nat.le_refl _⟩⟩
                · cases hb
                  · have hgk : c.extGood P g k = true := hEG2.out
                    clear hEG2
                    go_upto_region 17 with (first | (go_at_call 95; refine NIS.mono ?_; rintro e w' ⟨rfl, rfl⟩) | (go_at_call 116; (with_reducible refine Calls.mono NH ?_); rintro e w7 ⟨rfl, h7⟩))
                    have S7 := S9.ext h7
                    have HB7 := HBy.ext h7
                    clear o0 o1 lo t0 t1 t2 t3 lt NH NIS hRY
                    obtain ⟨o0, o1⟩ := S7.o.c2
                    have lo := S7.o.lt
                    obtain ⟨t0, t1, t2, t3⟩ := HB7.c4
                    have lt := HB7.lt
                    go_wp2_with (at_builtin; refine wpList_append_own _ rfl _ _ 23 rfl v2.heap.size 99 i0 (.agg #[.int .i64 0, .string ⟨#[]⟩, .int .i64 0, .int .i64 0]) 4 40 Tryd.underlying23 hi hz0 hz1 hz2 rfl (by decide) _ _ _ rfl (S7.y.alloc _) ⟨w7.heap.size, 0, none⟩ 1 1 [.int .i64 K, .string (g k), .int .i64 1365, .int .i64 0] rfl rfl (cells_newL _ _ _) (by simp [Value.oneCell']) (by unfold maxLen; omega) (by omega) (by have := S7.e.size; simp; omega) ?_; intro v' w11 hown' hgrow hnil; obtain ⟨F4, m4, rfl⟩ := own_slice hown'; obtain ⟨hO, hP⟩ := S7.push hown' hgrow; obtain ⟨z0, z1⟩ := hO.c2; have fz := hO.frozen 1; have lz := hO.lt)
                    have hfl : Hid (flatL (fun i => (c.extY P g i).cells) (c.ny + k) ++ [.int .i64 K, .string (g k), .int .i64 1365, .int .i64 0] = flatL (fun i => (c.extY P g i).cells) (c.ny + (k + 1))) := by
                      unfold Hid
                      rw [show c.ny + (k + 1) = c.ny + k + 1 from rfl, flatL_succ, hnew.out]
                      unfold newYr lgOf
                      rw [hLK.out, HDQ.out]; rfl
                    exact ⟨⟨k + 1, by omega, by go_num, fun i hi => by
                      by_cases e : i = k
                      · subst e; exact hgk
                      · exact hgood.out i (by omega), _, by rw [← hfl.out]; exact hP⟩, by simp [intOf]; omega⟩
                  · have HR3 : Hid (c.extE g n (P : Int) = 5) := by unfold Hid; rw [HR.out, extAll_no hlt (by rw [hEG2.out]; rfl)]; rfl
                    go_wp2_with (first | (go_at_call 95; refine NIS.mono ?_; rintro e w' ⟨rfl, rfl⟩) | (go_at_call 116; (with_reducible refine Calls.mono NH ?_); rintro e w7 ⟨rfl, h7⟩; have BZ := B2.ext (S9.e.trans h7); have f0 := BZ.frozen 0; have f1 := BZ.frozen 1; obtain ⟨r0, r1⟩ := BZ.c2; have lr := BZ.lt))
                    have EZ := E.trans (S9.e.trans h7)
                    have H2 := held_two BZ (.slice none 0 0) (.slice none 0 0)
                    obtain ⟨y0, y1⟩ := H2.c2
                    have E2 := (EZ.setCell (p := ⟨b1 + 1, 0, none⟩) (by have := hb1.out; show w.heap.size ≤ b1 + 1; omega) (.slice none 0 0)).setCell (p := ⟨b1 + 1, 1, none⟩) (by have := hb1.out; show w.heap.size ≤ b1 + 1; omega) (.slice none 0 0)
                    refine bodyPost_ret (v := .tuple #[.agg #[.slice none 0 0, .slice none 0 0], .int .i64 5]) (by simp [results, Tryd.results73, go_sem, y0, y1]) rfl ⟨none, none, 0, 0, by rw [HR3.out]; unfold Cal.extV; rw [HR3.out]; rfl, E2, by unfold Cal.extV; rw [HR3.out]; exact ⟨fun h => absurd h (by show ¬ 0 < 0; omega), fun h => absurd h (by show ¬ 0 < 0; omega), Nat.zero_le _, Nat.zero_le _, Nat.le_refl _, Nat.le_refl _⟩⟩
              · obtain ⟨t0, t1, t2, t3⟩ := HBy.c4
                have g2 := HBy.frozen 2
                have lt := HBy.lt
                go_upto_region 15 with (fail)
                obtain ⟨w10, h10⟩ : ∃ x, x = w9.setCell ⟨by_, 2, none⟩ (.int .i64 5461) := ⟨_, rfl⟩
                rw [← h10]
                have e10 : Ext wo w10 := by rw [h10]; exact e9.setCell (p := ⟨by_, 2, none⟩) hle _
                have HB10 : Held w10 by_ 99 #[.int .i64 K, .string (g k), .int .i64 5461, .int .i64 6] := by rw [h10]; exact held_third HBy _
                clear h10 t0 t1 t2 t3 g2 lt
                have S10 := hS.ext e10
                obtain ⟨F3, m3, rfl, hRY, hm3, hm4, hm5, hm6⟩ := flat_rows (f := fun i => (c.extY P g i).cells) (sz := 4) (fun _ => rfl) S10.y
                have NH : Calls Tryd.prog 116 #[.slice F3 (c.ny + k) m3, .agg #[.int .i64 K, .string (g k), .int .i64 5461, .int .i64 6]] w10 fun e w' => e = .returned (.bool (hadF (c.extY P g) ⟨K, g k, 5461, 6⟩ (c.ny + k))) ∧ Ext w10 w' := had_any F3 (c.ny + k) m3 (c.extY P g) ⟨K, g k, 5461, 6⟩ w10 hRY (by omega)
                have hEG2 : Hid (c.extGood P g k = (isName (g k) && !hadF (c.extY P g) ⟨K, g k, 5461, 6⟩ (c.ny + k))) := hEG.out
                have NIS := isNameR_any (g k) w10
                clear hEG
                generalize hadF (c.extY P g) ⟨K, g k, 5461, 6⟩ (c.ny + k) = hb at *
                generalize isName (g k) = ib at *
                obtain ⟨o0, o1⟩ := S10.o.c2
                have lo := S10.o.lt
                obtain ⟨t0, t1, t2, t3⟩ := HB10.c4
                have lt := HB10.lt
                cases ib
                · have HR3 : Hid (c.extE g n (P : Int) = 5) := by unfold Hid; rw [HR.out, extAll_no hlt (by rw [hEG2.out]; rfl)]; rfl
                  have BZ := B2.ext S10.e
                  have EZ := E.trans S10.e
                  have f0 := BZ.frozen 0
                  have f1 := BZ.frozen 1
                  obtain ⟨r0, r1⟩ := BZ.c2
                  have lr := BZ.lt
                  go_wp2_with (go_at_call 95; refine NIS.mono ?_; rintro e w' ⟨rfl, rfl⟩)
                  have H2 := held_two BZ (.slice none 0 0) (.slice none 0 0)
                  obtain ⟨y0, y1⟩ := H2.c2
                  have E2 := (EZ.setCell (p := ⟨b1 + 1, 0, none⟩) (by have := hb1.out; show w.heap.size ≤ b1 + 1; omega) (.slice none 0 0)).setCell (p := ⟨b1 + 1, 1, none⟩) (by have := hb1.out; show w.heap.size ≤ b1 + 1; omega) (.slice none 0 0)
                  refine bodyPost_ret (v := .tuple #[.agg #[.slice none 0 0, .slice none 0 0], .int .i64 5]) (by simp [results, Tryd.results73, go_sem, y0, y1]) rfl ⟨none, none, 0, 0, by rw [HR3.out]; unfold Cal.extV; rw [HR3.out]; rfl, E2, by unfold Cal.extV; rw [HR3.out]; exact ⟨fun h => absurd h (by show ¬ 0 < 0; omega), fun h => absurd h (by show ¬ 0 < 0; omega), Nat.zero_le _, Nat.zero_le _, Nat.le_refl _, Nat.le_refl _⟩⟩
                · cases hb
                  · have hgk : c.extGood P g k = true := hEG2.out
                    clear hEG2
                    go_upto_region 17 with (first | (go_at_call 95; refine NIS.mono ?_; rintro e w' ⟨rfl, rfl⟩) | (go_at_call 116; (with_reducible refine Calls.mono NH ?_); rintro e w7 ⟨rfl, h7⟩))
                    have S7 := S10.ext h7
                    have HB7 := HB10.ext h7
                    clear o0 o1 lo t0 t1 t2 t3 lt NH NIS hRY
                    obtain ⟨o0, o1⟩ := S7.o.c2
                    have lo := S7.o.lt
                    obtain ⟨t0, t1, t2, t3⟩ := HB7.c4
                    have lt := HB7.lt
                    go_wp2_with (at_builtin; refine wpList_append_own _ rfl _ _ 23 rfl v2.heap.size 99 i0 (.agg #[.int .i64 0, .string ⟨#[]⟩, .int .i64 0, .int .i64 0]) 4 40 Tryd.underlying23 hi hz0 hz1 hz2 rfl (by decide) _ _ _ rfl (S7.y.alloc _) ⟨w7.heap.size, 0, none⟩ 1 1 [.int .i64 K, .string (g k), .int .i64 5461, .int .i64 6] rfl rfl (cells_newL _ _ _) (by simp [Value.oneCell']) (by unfold maxLen; omega) (by omega) (by have := S7.e.size; simp; omega) ?_; intro v' w11 hown' hgrow hnil; obtain ⟨F4, m4, rfl⟩ := own_slice hown'; obtain ⟨hO, hP⟩ := S7.push hown' hgrow; obtain ⟨z0, z1⟩ := hO.c2; have fz := hO.frozen 1; have lz := hO.lt)
                    have hfl : Hid (flatL (fun i => (c.extY P g i).cells) (c.ny + k) ++ [.int .i64 K, .string (g k), .int .i64 5461, .int .i64 6] = flatL (fun i => (c.extY P g i).cells) (c.ny + (k + 1))) := by
                      unfold Hid
                      rw [show c.ny + (k + 1) = c.ny + k + 1 from rfl, flatL_succ, hnew.out]
                      unfold newYr lgOf
                      rw [hLK.out, HDQ.out]; rfl
                    exact ⟨⟨k + 1, by omega, by go_num, fun i hi => by
                      by_cases e : i = k
                      · subst e; exact hgk
                      · exact hgood.out i (by omega), _, by rw [← hfl.out]; exact hP⟩, by simp [intOf]; omega⟩
                  · have HR3 : Hid (c.extE g n (P : Int) = 5) := by unfold Hid; rw [HR.out, extAll_no hlt (by rw [hEG2.out]; rfl)]; rfl
                    go_wp2_with (first | (go_at_call 95; refine NIS.mono ?_; rintro e w' ⟨rfl, rfl⟩) | (go_at_call 116; (with_reducible refine Calls.mono NH ?_); rintro e w7 ⟨rfl, h7⟩; have BZ := B2.ext (S10.e.trans h7); have f0 := BZ.frozen 0; have f1 := BZ.frozen 1; obtain ⟨r0, r1⟩ := BZ.c2; have lr := BZ.lt))
                    have EZ := E.trans (S10.e.trans h7)
                    have H2 := held_two BZ (.slice none 0 0) (.slice none 0 0)
                    obtain ⟨y0, y1⟩ := H2.c2
                    have E2 := (EZ.setCell (p := ⟨b1 + 1, 0, none⟩) (by have := hb1.out; show w.heap.size ≤ b1 + 1; omega) (.slice none 0 0)).setCell (p := ⟨b1 + 1, 1, none⟩) (by have := hb1.out; show w.heap.size ≤ b1 + 1; omega) (.slice none 0 0)
                    refine bodyPost_ret (v := .tuple #[.agg #[.slice none 0 0, .slice none 0 0], .int .i64 5]) (by simp [results, Tryd.results73, go_sem, y0, y1]) rfl ⟨none, none, 0, 0, by rw [HR3.out]; unfold Cal.extV; rw [HR3.out]; rfl, E2, by unfold Cal.extV; rw [HR3.out]; exact ⟨fun h => absurd h (by show ¬ 0 < 0; omega), fun h => absurd h (by show ¬ 0 < 0; omega), Nat.zero_le _, Nat.zero_le _, Nat.le_refl _, Nat.le_refl _⟩⟩
              · obtain ⟨t0, t1, t2, t3⟩ := HBy.c4
                have g2 := HBy.frozen 2
                have lt := HBy.lt
                go_upto_region 15 with (fail)
                obtain ⟨w10, h10⟩ : ∃ x, x = w9.setCell ⟨by_, 2, none⟩ (.int .i64 5461) := ⟨_, rfl⟩
                rw [← h10]
                have e10 : Ext wo w10 := by rw [h10]; exact e9.setCell (p := ⟨by_, 2, none⟩) hle _
                have HB10 : Held w10 by_ 99 #[.int .i64 K, .string (g k), .int .i64 5461, .int .i64 12] := by rw [h10]; exact held_third HBy _
                clear h10 t0 t1 t2 t3 g2 lt
                have S10 := hS.ext e10
                obtain ⟨F3, m3, rfl, hRY, hm3, hm4, hm5, hm6⟩ := flat_rows (f := fun i => (c.extY P g i).cells) (sz := 4) (fun _ => rfl) S10.y
                have NH : Calls Tryd.prog 116 #[.slice F3 (c.ny + k) m3, .agg #[.int .i64 K, .string (g k), .int .i64 5461, .int .i64 12]] w10 fun e w' => e = .returned (.bool (hadF (c.extY P g) ⟨K, g k, 5461, 12⟩ (c.ny + k))) ∧ Ext w10 w' := had_any F3 (c.ny + k) m3 (c.extY P g) ⟨K, g k, 5461, 12⟩ w10 hRY (by omega)
                have hEG2 : Hid (c.extGood P g k = (isName (g k) && !hadF (c.extY P g) ⟨K, g k, 5461, 12⟩ (c.ny + k))) := hEG.out
                have NIS := isNameR_any (g k) w10
                clear hEG
                generalize hadF (c.extY P g) ⟨K, g k, 5461, 12⟩ (c.ny + k) = hb at *
                generalize isName (g k) = ib at *
                obtain ⟨o0, o1⟩ := S10.o.c2
                have lo := S10.o.lt
                obtain ⟨t0, t1, t2, t3⟩ := HB10.c4
                have lt := HB10.lt
                cases ib
                · have HR3 : Hid (c.extE g n (P : Int) = 5) := by unfold Hid; rw [HR.out, extAll_no hlt (by rw [hEG2.out]; rfl)]; rfl
                  have BZ := B2.ext S10.e
                  have EZ := E.trans S10.e
                  have f0 := BZ.frozen 0
                  have f1 := BZ.frozen 1
                  obtain ⟨r0, r1⟩ := BZ.c2
                  have lr := BZ.lt
                  go_wp2_with (go_at_call 95; refine NIS.mono ?_; rintro e w' ⟨rfl, rfl⟩)
                  have H2 := held_two BZ (.slice none 0 0) (.slice none 0 0)
                  obtain ⟨y0, y1⟩ := H2.c2
                  have E2 := (EZ.setCell (p := ⟨b1 + 1, 0, none⟩) (by have := hb1.out; show w.heap.size ≤ b1 + 1; omega) (.slice none 0 0)).setCell (p := ⟨b1 + 1, 1, none⟩) (by have := hb1.out; show w.heap.size ≤ b1 + 1; omega) (.slice none 0 0)
                  refine bodyPost_ret (v := .tuple #[.agg #[.slice none 0 0, .slice none 0 0], .int .i64 5]) (by simp [results, Tryd.results73, go_sem, y0, y1]) rfl ⟨none, none, 0, 0, by rw [HR3.out]; unfold Cal.extV; rw [HR3.out]; rfl, E2, by unfold Cal.extV; rw [HR3.out]; exact ⟨fun h => absurd h (by show ¬ 0 < 0; omega), fun h => absurd h (by show ¬ 0 < 0; omega), Nat.zero_le _, Nat.zero_le _, Nat.le_refl _, Nat.le_refl _⟩⟩
                · cases hb
                  · have hgk : c.extGood P g k = true := hEG2.out
                    clear hEG2
                    go_upto_region 17 with (first | (go_at_call 95; refine NIS.mono ?_; rintro e w' ⟨rfl, rfl⟩) | (go_at_call 116; (with_reducible refine Calls.mono NH ?_); rintro e w7 ⟨rfl, h7⟩))
                    have S7 := S10.ext h7
                    have HB7 := HB10.ext h7
                    clear o0 o1 lo t0 t1 t2 t3 lt NH NIS hRY
                    obtain ⟨o0, o1⟩ := S7.o.c2
                    have lo := S7.o.lt
                    obtain ⟨t0, t1, t2, t3⟩ := HB7.c4
                    have lt := HB7.lt
                    go_wp2_with (at_builtin; refine wpList_append_own _ rfl _ _ 23 rfl v2.heap.size 99 i0 (.agg #[.int .i64 0, .string ⟨#[]⟩, .int .i64 0, .int .i64 0]) 4 40 Tryd.underlying23 hi hz0 hz1 hz2 rfl (by decide) _ _ _ rfl (S7.y.alloc _) ⟨w7.heap.size, 0, none⟩ 1 1 [.int .i64 K, .string (g k), .int .i64 5461, .int .i64 12] rfl rfl (cells_newL _ _ _) (by simp [Value.oneCell']) (by unfold maxLen; omega) (by omega) (by have := S7.e.size; simp; omega) ?_; intro v' w11 hown' hgrow hnil; obtain ⟨F4, m4, rfl⟩ := own_slice hown'; obtain ⟨hO, hP⟩ := S7.push hown' hgrow; obtain ⟨z0, z1⟩ := hO.c2; have fz := hO.frozen 1; have lz := hO.lt)
                    have hfl : Hid (flatL (fun i => (c.extY P g i).cells) (c.ny + k) ++ [.int .i64 K, .string (g k), .int .i64 5461, .int .i64 12] = flatL (fun i => (c.extY P g i).cells) (c.ny + (k + 1))) := by
                      unfold Hid
                      rw [show c.ny + (k + 1) = c.ny + k + 1 from rfl, flatL_succ, hnew.out]
                      unfold newYr lgOf
                      rw [hLK.out, HDQ.out]; rfl
                    exact ⟨⟨k + 1, by omega, by go_num, fun i hi => by
                      by_cases e : i = k
                      · subst e; exact hgk
                      · exact hgood.out i (by omega), _, by rw [← hfl.out]; exact hP⟩, by simp [intOf]; omega⟩
                  · have HR3 : Hid (c.extE g n (P : Int) = 5) := by unfold Hid; rw [HR.out, extAll_no hlt (by rw [hEG2.out]; rfl)]; rfl
                    go_wp2_with (first | (go_at_call 95; refine NIS.mono ?_; rintro e w' ⟨rfl, rfl⟩) | (go_at_call 116; (with_reducible refine Calls.mono NH ?_); rintro e w7 ⟨rfl, h7⟩; have BZ := B2.ext (S10.e.trans h7); have f0 := BZ.frozen 0; have f1 := BZ.frozen 1; obtain ⟨r0, r1⟩ := BZ.c2; have lr := BZ.lt))
                    have EZ := E.trans (S10.e.trans h7)
                    have H2 := held_two BZ (.slice none 0 0) (.slice none 0 0)
                    obtain ⟨y0, y1⟩ := H2.c2
                    have E2 := (EZ.setCell (p := ⟨b1 + 1, 0, none⟩) (by have := hb1.out; show w.heap.size ≤ b1 + 1; omega) (.slice none 0 0)).setCell (p := ⟨b1 + 1, 1, none⟩) (by have := hb1.out; show w.heap.size ≤ b1 + 1; omega) (.slice none 0 0)
                    refine bodyPost_ret (v := .tuple #[.agg #[.slice none 0 0, .slice none 0 0], .int .i64 5]) (by simp [results, Tryd.results73, go_sem, y0, y1]) rfl ⟨none, none, 0, 0, by rw [HR3.out]; unfold Cal.extV; rw [HR3.out]; rfl, E2, by unfold Cal.extV; rw [HR3.out]; exact ⟨fun h => absurd h (by show ¬ 0 < 0; omega), fun h => absurd h (by show ¬ 0 < 0; omega), Nat.zero_le _, Nat.zero_le _, Nat.le_refl _, Nat.le_refl _⟩⟩
          · obtain rfl : k = n := by omega
            have hall := extAll_yes (c := c) (p := P) (g := g) (n := k) hgood.out
            have HR3 : Hid (c.extE g k (P : Int) = 0) := by unfold Hid; rw [HR.out, if_pos hall]
            have HV3 : Hid (c.extV g k (P : Int) = c.ext P g k) := by unfold Hid Cal.extV; rw [if_pos HR3.out]; rfl
            obtain ⟨F4, m4, rfl⟩ := own_slice hS.y
            obtain ⟨F5, m5, e5, hRK, a1, a2, a3, a4⟩ := flat_rows (f := strRow c.kg) (sz := 1) (fun _ => rfl) hS.k
            cases e5
            obtain ⟨F6, m6, e6, hRY, d1, d2, d3, d4⟩ := flat_rows (f := fun i => (c.extY P g i).cells) (sz := 4) (fun _ => rfl) hS.y
            cases e6
            have hb2 := B2.lt
            have BZ := B2.ext hS.e
            have EZ := E.trans hS.e
            have f0 := BZ.frozen 0
            have f1 := BZ.frozen 1
            obtain ⟨r0, r1⟩ := BZ.c2
            have lr := BZ.lt
            obtain ⟨o0, o1⟩ := hS.o.c2
            have lo := hS.o.lt
            go_wp2
            have H2 := held_two BZ (.slice F1 c.nk m1) (.slice F4 (c.ny + k) m4)
            obtain ⟨y0, y1⟩ := H2.c2
            have E2 := (EZ.setCell (p := ⟨b1 + 1, 0, none⟩) (by have := hb1.out; show w.heap.size ≤ b1 + 1; omega) (.slice F1 c.nk m1)).setCell (p := ⟨b1 + 1, 1, none⟩) (by have := hb1.out; show w.heap.size ≤ b1 + 1; omega) (.slice F4 (c.ny + k) m4)
            have hm63 : maxLen ≤ 9223372036854775807 := by decide
            refine bodyPost_ret (v := .tuple #[.agg #[.slice F1 c.nk m1, .slice F4 (c.ny + k) m4], .int .i64 0]) (by simp [results, Tryd.results73, go_sem, y0, y1]) rfl ⟨F1, F4, m1, m4, by rw [HR3.out, HV3.out]; rfl, E2, by
              rw [HV3.out]
              exact ⟨rows_set2 hRK (fun a h => by have := a4 a h; omega) 0 1 _ _, rows_set2 hRY (fun a h => by have := d4 a h; omega) 0 1 _ _, by show c.nk ≤ _; omega, by show c.ny + k ≤ _; omega, a1, d1⟩⟩
      · have HR : Hid (c.extE g n p = 3) := by unfold Hid Cal.extE; rw [if_pos hv, if_pos hp, if_neg hl]
        have p1 : decide (p < 1) = false := decide_eq_false (by omega)
        have p2 : decide (19 < p) = false := decide_eq_false (by omega)
        have hl2 : 38 < n ∨ (n ≤ 38 ∧ 400 < c.ny + n) := by omega
        clear hv ok hp
        rcases hl2 with l1 | ⟨l1, l2⟩
        · have l1b : decide (38 < (n : Int)) = true := decide_eq_true (by omega)
          go_enter Tryd.func73, Tryd.ntmps73
          go_upto_region 1 with (fail)
          obtain ⟨v, hv⟩ : ∃ v, v = ((w.alloc (.cells #[.slice A c.nk ca, .slice A' c.ny cb] 25)).alloc (.cells #[.slice none 0 0, .slice none 0 0] 25)) := ⟨_, rfl⟩
          rw [← hv]
          have E : Ext w v := by rw [hv]; exact ((Ext.refl _).alloc _).alloc _
          have B1 : Held v w.heap.size 25 #[.slice A c.nk ca, .slice A' c.ny cb] := by rw [hv]; exact (Held.new _ _ _).alloc _
          have B2 : Held v (w.heap.size + 1) 25 #[.slice none 0 0, .slice none 0 0] := by rw [hv]; exact Held.at _ _ _ _ (by simp)
          clear hv
          have C := hC.ext E
          clear hC
          generalize hb1 : w.heap.size = b1 at *
          replace hb1 := Lib.hid hb1
          obtain ⟨k0, k1⟩ := B1.c2; have lk := B1.lt
          obtain ⟨p0, p1⟩ := B2.c2; have lp := B2.lt
          go_upto_region 3 with (go_at_call 78; (with_reducible refine Calls.mono (NT _ C) ?_); rintro e v2 ⟨rfl, h⟩)
          replace E := Ext.trans E h
          replace C := C.ext h
          replace B1 := B1.ext h
          replace B2 := B2.ext h
          clear h
          clear k0 k1 lk
          clear p0 p1 lp
          obtain ⟨k0, k1⟩ := B1.c2; have lk := B1.lt
          obtain ⟨p0, p1⟩ := B2.c2; have lp := B2.lt
          have f0 := B2.frozen 0
          have f1 := B2.frozen 1
          have BZ := B2
          have EZ := E
          have HR3 := HR
          go_wp2
          have H2 := held_two BZ (.slice none 0 0) (.slice none 0 0)
          obtain ⟨y0, y1⟩ := H2.c2
          have E2 := (EZ.setCell (p := ⟨b1 + 1, 0, none⟩) (by have := hb1.out; show w.heap.size ≤ b1 + 1; omega) (.slice none 0 0)).setCell (p := ⟨b1 + 1, 1, none⟩) (by have := hb1.out; show w.heap.size ≤ b1 + 1; omega) (.slice none 0 0)
          refine bodyPost_ret (v := .tuple #[.agg #[.slice none 0 0, .slice none 0 0], .int .i64 3]) (by simp [results, Tryd.results73, go_sem, y0, y1]) rfl ⟨none, none, 0, 0, by rw [HR3.out]; unfold Cal.extV; rw [HR3.out]; rfl, E2, by unfold Cal.extV; rw [HR3.out]; exact ⟨fun h => absurd h (by show ¬ 0 < 0; omega), fun h => absurd h (by show ¬ 0 < 0; omega), Nat.zero_le _, Nat.zero_le _, Nat.le_refl _, Nat.le_refl _⟩⟩
        · have l1b : decide (38 < (n : Int)) = false := decide_eq_false (by omega)
          have l2b : decide (400 < (c.ny : Int) + (n : Int)) = true := decide_eq_true (by omega)
          go_enter Tryd.func73, Tryd.ntmps73
          go_upto_region 1 with (fail)
          obtain ⟨v, hv⟩ : ∃ v, v = ((w.alloc (.cells #[.slice A c.nk ca, .slice A' c.ny cb] 25)).alloc (.cells #[.slice none 0 0, .slice none 0 0] 25)) := ⟨_, rfl⟩
          rw [← hv]
          have E : Ext w v := by rw [hv]; exact ((Ext.refl _).alloc _).alloc _
          have B1 : Held v w.heap.size 25 #[.slice A c.nk ca, .slice A' c.ny cb] := by rw [hv]; exact (Held.new _ _ _).alloc _
          have B2 : Held v (w.heap.size + 1) 25 #[.slice none 0 0, .slice none 0 0] := by rw [hv]; exact Held.at _ _ _ _ (by simp)
          clear hv
          have C := hC.ext E
          clear hC
          generalize hb1 : w.heap.size = b1 at *
          replace hb1 := Lib.hid hb1
          obtain ⟨k0, k1⟩ := B1.c2; have lk := B1.lt
          obtain ⟨p0, p1⟩ := B2.c2; have lp := B2.lt
          go_upto_region 3 with (go_at_call 78; (with_reducible refine Calls.mono (NT _ C) ?_); rintro e v2 ⟨rfl, h⟩)
          replace E := Ext.trans E h
          replace C := C.ext h
          replace B1 := B1.ext h
          replace B2 := B2.ext h
          clear h
          clear k0 k1 lk
          clear p0 p1 lp
          obtain ⟨k0, k1⟩ := B1.c2; have lk := B1.lt
          obtain ⟨p0, p1⟩ := B2.c2; have lp := B2.lt
          have f0 := B2.frozen 0
          have f1 := B2.frozen 1
          have BZ := B2
          have EZ := E
          have HR3 := HR
          go_wp2
          have H2 := held_two BZ (.slice none 0 0) (.slice none 0 0)
          obtain ⟨y0, y1⟩ := H2.c2
          have E2 := (EZ.setCell (p := ⟨b1 + 1, 0, none⟩) (by have := hb1.out; show w.heap.size ≤ b1 + 1; omega) (.slice none 0 0)).setCell (p := ⟨b1 + 1, 1, none⟩) (by have := hb1.out; show w.heap.size ≤ b1 + 1; omega) (.slice none 0 0)
          refine bodyPost_ret (v := .tuple #[.agg #[.slice none 0 0, .slice none 0 0], .int .i64 3]) (by simp [results, Tryd.results73, go_sem, y0, y1]) rfl ⟨none, none, 0, 0, by rw [HR3.out]; unfold Cal.extV; rw [HR3.out]; rfl, E2, by unfold Cal.extV; rw [HR3.out]; exact ⟨fun h => absurd h (by show ¬ 0 < 0; omega), fun h => absurd h (by show ¬ 0 < 0; omega), Nat.zero_le _, Nat.zero_le _, Nat.le_refl _, Nat.le_refl _⟩⟩
    · have HR : Hid (c.extE g n p = 8) := by unfold Hid Cal.extE; rw [if_pos hv, if_neg hp]
      clear hv ok
      by_cases h1 : p < 1
      · have p1 : decide (p < 1) = true := decide_eq_true h1
        go_enter Tryd.func73, Tryd.ntmps73
        go_upto_region 1 with (fail)
        obtain ⟨v, hv⟩ : ∃ v, v = ((w.alloc (.cells #[.slice A c.nk ca, .slice A' c.ny cb] 25)).alloc (.cells #[.slice none 0 0, .slice none 0 0] 25)) := ⟨_, rfl⟩
        rw [← hv]
        have E : Ext w v := by rw [hv]; exact ((Ext.refl _).alloc _).alloc _
        have B1 : Held v w.heap.size 25 #[.slice A c.nk ca, .slice A' c.ny cb] := by rw [hv]; exact (Held.new _ _ _).alloc _
        have B2 : Held v (w.heap.size + 1) 25 #[.slice none 0 0, .slice none 0 0] := by rw [hv]; exact Held.at _ _ _ _ (by simp)
        clear hv
        have C := hC.ext E
        clear hC
        generalize hb1 : w.heap.size = b1 at *
        replace hb1 := Lib.hid hb1
        obtain ⟨k0, k1⟩ := B1.c2; have lk := B1.lt
        obtain ⟨p0, p1⟩ := B2.c2; have lp := B2.lt
        go_upto_region 3 with (go_at_call 78; (with_reducible refine Calls.mono (NT _ C) ?_); rintro e v2 ⟨rfl, h⟩)
        replace E := Ext.trans E h
        replace C := C.ext h
        replace B1 := B1.ext h
        replace B2 := B2.ext h
        clear h
        clear k0 k1 lk
        clear p0 p1 lp
        obtain ⟨k0, k1⟩ := B1.c2; have lk := B1.lt
        obtain ⟨p0, p1⟩ := B2.c2; have lp := B2.lt
        have f0 := B2.frozen 0
        have f1 := B2.frozen 1
        have BZ := B2
        have EZ := E
        have HR3 := HR
        go_wp2
        have H2 := held_two BZ (.slice none 0 0) (.slice none 0 0)
        obtain ⟨y0, y1⟩ := H2.c2
        have E2 := (EZ.setCell (p := ⟨b1 + 1, 0, none⟩) (by have := hb1.out; show w.heap.size ≤ b1 + 1; omega) (.slice none 0 0)).setCell (p := ⟨b1 + 1, 1, none⟩) (by have := hb1.out; show w.heap.size ≤ b1 + 1; omega) (.slice none 0 0)
        refine bodyPost_ret (v := .tuple #[.agg #[.slice none 0 0, .slice none 0 0], .int .i64 8]) (by simp [results, Tryd.results73, go_sem, y0, y1]) rfl ⟨none, none, 0, 0, by rw [HR3.out]; unfold Cal.extV; rw [HR3.out]; rfl, E2, by unfold Cal.extV; rw [HR3.out]; exact ⟨fun h => absurd h (by show ¬ 0 < 0; omega), fun h => absurd h (by show ¬ 0 < 0; omega), Nat.zero_le _, Nat.zero_le _, Nat.le_refl _, Nat.le_refl _⟩⟩
      · have p1 : decide (p < 1) = false := decide_eq_false h1
        have p2 : decide (19 < p) = true := decide_eq_true (by omega)
        go_enter Tryd.func73, Tryd.ntmps73
        go_upto_region 1 with (fail)
        obtain ⟨v, hv⟩ : ∃ v, v = ((w.alloc (.cells #[.slice A c.nk ca, .slice A' c.ny cb] 25)).alloc (.cells #[.slice none 0 0, .slice none 0 0] 25)) := ⟨_, rfl⟩
        rw [← hv]
        have E : Ext w v := by rw [hv]; exact ((Ext.refl _).alloc _).alloc _
        have B1 : Held v w.heap.size 25 #[.slice A c.nk ca, .slice A' c.ny cb] := by rw [hv]; exact (Held.new _ _ _).alloc _
        have B2 : Held v (w.heap.size + 1) 25 #[.slice none 0 0, .slice none 0 0] := by rw [hv]; exact Held.at _ _ _ _ (by simp)
        clear hv
        have C := hC.ext E
        clear hC
        generalize hb1 : w.heap.size = b1 at *
        replace hb1 := Lib.hid hb1
        obtain ⟨k0, k1⟩ := B1.c2; have lk := B1.lt
        obtain ⟨p0, p1⟩ := B2.c2; have lp := B2.lt
        go_upto_region 3 with (go_at_call 78; (with_reducible refine Calls.mono (NT _ C) ?_); rintro e v2 ⟨rfl, h⟩)
        replace E := Ext.trans E h
        replace C := C.ext h
        replace B1 := B1.ext h
        replace B2 := B2.ext h
        clear h
        clear k0 k1 lk
        clear p0 p1 lp
        obtain ⟨k0, k1⟩ := B1.c2; have lk := B1.lt
        obtain ⟨p0, p1⟩ := B2.c2; have lp := B2.lt
        have f0 := B2.frozen 0
        have f1 := B2.frozen 1
        have BZ := B2
        have EZ := E
        have HR3 := HR
        go_wp2
        have H2 := held_two BZ (.slice none 0 0) (.slice none 0 0)
        obtain ⟨y0, y1⟩ := H2.c2
        have E2 := (EZ.setCell (p := ⟨b1 + 1, 0, none⟩) (by have := hb1.out; show w.heap.size ≤ b1 + 1; omega) (.slice none 0 0)).setCell (p := ⟨b1 + 1, 1, none⟩) (by have := hb1.out; show w.heap.size ≤ b1 + 1; omega) (.slice none 0 0)
        refine bodyPost_ret (v := .tuple #[.agg #[.slice none 0 0, .slice none 0 0], .int .i64 8]) (by simp [results, Tryd.results73, go_sem, y0, y1]) rfl ⟨none, none, 0, 0, by rw [HR3.out]; unfold Cal.extV; rw [HR3.out]; rfl, E2, by unfold Cal.extV; rw [HR3.out]; exact ⟨fun h => absurd h (by show ¬ 0 < 0; omega), fun h => absurd h (by show ¬ 0 < 0; omega), Nat.zero_le _, Nat.zero_le _, Nat.le_refl _, Nat.le_refl _⟩⟩
end Go.Proofs.YtfchchmmjabjnaaDoor
