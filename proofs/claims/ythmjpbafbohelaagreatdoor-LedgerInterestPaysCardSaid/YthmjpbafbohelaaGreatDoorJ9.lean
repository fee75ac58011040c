/- Walks of the program's functions and plain facts, packed; proved: the lemmas below; no conditions but those that each states. -/
import Derived.Test.YthmjpbafbohelaaGreatDoorJ8
import Derived.Test.YthmjpbafbohelaaGreatDoorJ5
import Derived.Test.YthmjpbafbohelaaGreatDoorJ7
import Derived.Test.YthmjpbafbohelaaGreatDoorJ4
namespace Go.Proofs.YthmjpbafbohelaaGreatDoor
open Go Go.RowKit Go.Shelf
attribute [local go_sem] gv_yes

set_option maxRecDepth 100000 in
set_option maxHeartbeats 4000000 in
theorem productF_any (A : Option Addr) (n ca : Nat) (f : Nat → Rt) (w : World) (hA : RowsAt w A n 2 (rtr f)) (hn : n ≤ 9223372036854775807) (hin : ∀ i, i < n → (f i).In) :
    Calls Tryz.prog 52 #[.slice A n ca] w fun e w' => e = .returned (.tuple #[.agg #[.int .i64 (prodV f n).1.n, .int .i64 (prodV f n).1.d], .int .i64 (prodV f n).2]) ∧ Ext w w' := by
  obtain ⟨R, hR0⟩ : ∃ R, R = prodV f n := ⟨_, rfl⟩
  rw [← hR0]
  unfold prodV at hR0
  have HR := Lib.hid hR0
  clear hR0
  go_enter Tryz.func52, Tryz.ntmps52
  go_upto_region 1 with (fail)
  obtain ⟨v, hv⟩ : ∃ v, v = (w.alloc (.cells #[.int .i64 0, .int .i64 0] 23)) := ⟨_, rfl⟩
  rw [← hv]
  have E : Ext w v := by rw [hv]; exact (Ext.refl _).alloc _
  have B1 : Held v w.heap.size 23 #[.int .i64 0, .int .i64 0] := by rw [hv]; exact (Held.new _ _ _)
  clear hv
  obtain ⟨b1, hb1⟩ : ∃ b, b = w.heap.size := ⟨_, rfl⟩
  rw [← hb1] at B1 ⊢
  have hbr : w.heap.size ≤ b1 := by omega
  clear hb1
  have RA := hA.ext E
  clear hA
  by_cases hbig : 64 < n
  · have hr := HR.out
    rw [if_pos hbig] at hr
    have g1 : decide (64 < n) = true := decide_eq_true hbig
    subst hr
    clear HR
    have f0 := B1.frozen 0
    have f1 := B1.frozen 1
    obtain ⟨x0, x1⟩ := B1.c2
    have lx := B1.lt
    have H4 := held_two B1 (.int .i64 0) (.int .i64 0)
    have EF := (E.setCell (p := ⟨b1, 0, none⟩) hbr (.int .i64 0)).setCell (p := ⟨b1, 1, none⟩) hbr (.int .i64 0)
    obtain ⟨y0, y1⟩ := H4.c2
    go_wp2
    refine bodyPost_ret (v := .tuple #[.agg #[.int .i64 0, .int .i64 0], .int .i64 3]) (by simp [results, Tryz.results52, go_sem, y0, y1]) rfl ⟨rfl, EF⟩
  have g1 : decide (64 < n) = false := decide_eq_false hbig
  have hr := HR.out
  rw [if_neg hbig] at hr
  replace HR := Lib.hid hr
  clear hr
  go_upto_region 5 with (fail)
  go_loopw [4, 5] (fun zv iv wr => ∃ k : Nat, k ≤ n ∧ iv = .int .i64 k ∧ ∃ zb : Bool, zv = .bool zb ∧ Hid (zb = true ↔ ∃ i, i < k ∧ (f i).n = 0) ∧ Hid (∀ i, i < k → (f i).ok = true) ∧ Ext v wr) (fun _ iv _ => n - (intOf iv).toNat)
  case atStart => exact ⟨0, Nat.zero_le _, rfl, false, rfl, Iff.intro (fun h => (by cases h)) (fun ⟨i, h, _⟩ => absurd h (by omega)), (fun i h => absurd h (by omega)), Ext.refl _⟩
  case round =>
    obtain ⟨k, hk, rfl, zb, rfl, hz, hok, hE⟩ := hrel
    obtain ⟨wo, rfl⟩ : ∃ wo : World, wo = wr := ⟨_, rfl⟩
    by_cases hlt : k < n
    · have RK := RA.ext hE
      obtain ⟨b, off, rfl, hb, hc⟩ := RK (by omega)
      have c0 : wo.cell? ⟨b, off + k * 2, none⟩ = some (.int .i64 (f k).n) := by simpa [rtr] using hc k 0 _ hlt rfl
      have c1 : wo.cell? ⟨b, off + k * 2 + 1, none⟩ = some (.int .i64 (f k).d) := by simpa [rtr] using hc k 1 _ hlt rfl
      obtain ⟨i1, i2, i3, i4⟩ := hin k hlt
      have NI := fun w => isRatioR_any (f k).n (f k).d i1 i2 i3 i4 w
      rw [show Rt.ok ⟨(f k).n, (f k).d⟩ = (f k).ok from rfl] at NI
      clear hc RK i1 i2 i3 i4 hin
      cases ho : (f k).ok
      · simp only [ho] at NI
        have hr := HR.out
        rw [if_neg (fun h => by have := List.all_eq_true.1 h k (List.mem_range.2 hlt); rw [ho] at this; cases this)] at hr
        subst hr
        clear HR hz hok ho RA
        replace E := E.trans hE
        replace B1 := B1.ext hE
        go_upto_region 8 with (go_at_call 107; (with_reducible refine Calls.mono (NI _) ?_); rintro e w2 ⟨rfl, h1⟩; replace E := E.trans h1; replace B1 := B1.ext h1)
        have f0 := B1.frozen 0
        have f1 := B1.frozen 1
        obtain ⟨x0, x1⟩ := B1.c2
        have lx := B1.lt
        have H4 := held_two B1 (.int .i64 0) (.int .i64 0)
        have EF := (E.setCell (p := ⟨b1, 0, none⟩) hbr (.int .i64 0)).setCell (p := ⟨b1, 1, none⟩) hbr (.int .i64 0)
        obtain ⟨y0, y1⟩ := H4.c2
        go_wp2
        refine bodyPost_ret (v := .tuple #[.agg #[.int .i64 0, .int .i64 0], .int .i64 2]) (by simp [results, Tryz.results52, go_sem, y0, y1]) rfl ⟨rfl, EF⟩
      · simp only [ho] at NI
        have hok' : Hid (∀ i, i < k + 1 → (f i).ok = true) := fun i hi => by
          by_cases e : i = k
          · subst e; exact ho
          · exact hok.out i (by omega)
        have hz' : Hid ((zb || ((f k).n == 0)) = true ↔ ∃ i, i < k + 1 ∧ (f i).n = 0) := by
          unfold Hid
          rw [Bool.or_eq_true, hz.out]
          constructor
          · rintro (⟨i, h1, h2⟩ | h)
            · exact ⟨i, by omega, h2⟩
            · exact ⟨k, by omega, by simpa using h⟩
          · rintro ⟨i, h1, h2⟩
            by_cases e : i = k
            · subst e; exact .inr (by simpa using h2)
            · exact .inl ⟨i, by omega, h2⟩
        clear hz hok ho HR RA B1
        cases zb
        · generalize hx : (f k).n = x at *
          generalize hy : (f k).d = y at *
          clear hx hy
          go_upto_region 9 with (go_at_call 107; (with_reducible refine Calls.mono (NI _) ?_); rintro e w2 ⟨rfl, h1⟩; replace c0 := (h1.cell (p := ⟨b, off + k * 2, none⟩) hb).trans c0; replace hb := Nat.lt_of_lt_of_le hb h1.size)
          cases hx0 : (x == 0)
          · rw [hx0] at hz'
            go_wp2
            exact ⟨⟨k + 1, by omega, by go_num, false, rfl, hz', hok', hE.trans h1⟩, by simp [intOf]; omega⟩
          · rw [hx0] at hz'
            go_wp2
            exact ⟨⟨k + 1, by omega, by go_num, true, rfl, hz', hok', hE.trans h1⟩, by simp [intOf]; omega⟩
        · rw [Bool.true_or] at hz'
          go_wp2_with (go_at_call 107; (with_reducible refine Calls.mono (NI _) ?_); rintro e w2 ⟨rfl, h1⟩; replace c0 := (h1.cell (p := ⟨b, off + k * 2, none⟩) hb).trans c0; replace hb := Nat.lt_of_lt_of_le hb h1.size)
          exact ⟨⟨k + 1, by omega, by go_num, true, rfl, Iff.intro (fun _ => hz'.out.1 (by trivial)) (fun _ => rfl), hok', hE.trans h1⟩, by simp [intOf]; omega⟩
    · obtain rfl : k = n := by omega
      have hr := HR.out
      rw [if_pos (List.all_eq_true.2 fun i hi => hok.out i (List.mem_range.1 hi))] at hr
      have hrr := Lib.hid hr
      clear hr HR
      replace E := E.trans hE
      replace B1 := B1.ext hE
      replace RA := RA.ext hE
      clear hE
      cases zb
      · have hnz : Hid (∀ i, i < k → (f i).n ≠ 0) := fun i hi h => by have := hz.out.2 ⟨i, hi, h⟩; cases this
        clear hz
        go_upto_region 14 with (fail)
        obtain ⟨vf, hv⟩ : ∃ x, x = (wo.alloc (.cells #[.bool false, .slice none 0 0, .slice none 0 0] 148)) := ⟨_, rfl⟩
        rw [← hv]
        have hx : Ext wo vf := by rw [hv]; exact (Ext.refl _).alloc _
        have HB : Held vf wo.heap.size 148 #[.bool false, .slice none 0 0, .slice none 0 0] := by rw [hv]; exact Held.new _ _ _
        clear hv
        obtain ⟨bf, hbf0⟩ : ∃ b, b = wo.heap.size := ⟨_, rfl⟩
        rw [← hbf0] at HB ⊢
        have hbf : wo.heap.size ≤ bf := by omega
        clear hbf0
        go_loopw [7] (fun iv wr => ∃ j : Nat, j ≤ k ∧ iv = .int .i64 j ∧ ∃ vu vd, Ext wo wr ∧ Held wr bf 148 #[.bool (negs f j), vu, vd] ∧ wr.ownsRow (bf + 1) 177 1 vu j (flatL (u64r fun i => (f i).n.natAbs) j) ∧ wr.ownsRow (bf + 1) 177 1 vd j (flatL (u64r fun i => (f i).d.natAbs) j) ∧ Apart vu vd) (fun iv _ => k - (intOf iv).toNat)
        case atStart => exact ⟨0, Nat.zero_le _, rfl, _, _, hx, HB, World.ownsRow_nil _ _ _ _, World.ownsRow_nil _ _ _ _, fun x y h _ => by cases h⟩
        case round =>
          clear hx HB
          obtain ⟨j, hj, rfl, vu, vd, hE, HB, hU, hD, hap⟩ := hrel
          obtain ⟨wj, rfl⟩ : ∃ w' : World, w' = wr := ⟨_, rfl⟩
          by_cases hlt : j < k
          · obtain ⟨b, off, rfl, hb, hc⟩ := (RA.ext hE) (by omega)
            have c0 : wj.cell? ⟨b, off + j * 2, none⟩ = some (.int .i64 (f j).n) := by simpa [rtr] using hc j 0 _ hlt rfl
            have c1 : wj.cell? ⟨b, off + j * 2 + 1, none⟩ = some (.int .i64 (f j).d) := by simpa [rtr] using hc j 1 _ hlt rfl
            have NT := timesR_any bf j (negs f j) vu vd (fun i => (f i).n.natAbs) (fun i => (f i).d.natAbs) (f j) (hin j hlt) rfl rfl (by omega) wo wj hE hbf HB hU hD hap
            clear hc hin hrr hnz hok RA
            go_wp2_with (go_at_call 108; (with_reducible refine Calls.mono NT ?_); rintro e w2 ⟨rfl, hx, vu', vd', HB', hU', hD', hap'⟩)
            exact ⟨⟨j + 1, by omega, by go_num, vu', vd', hx, HB', hU', hD', hap'⟩, by simp [intOf]; omega⟩
          · obtain rfl : j = k := by omega
            obtain ⟨F1, c1, rfl⟩ := own_sl hU
            obtain ⟨F2, c2, rfl⟩ := own_sl hD
            have NV := valueR_any F1 F2 j j c1 c2 (fun i => (f i).n.natAbs) (fun i => (f i).d.natAbs) (negs f j) bf (bf + 1) wo wj hE hbf (Nat.lt_succ_self _) HB hU hD hap (by omega) (by omega) (fun i hi => by have := hnz.out i hi; omega) (fun i hi => by have := ok_bd (hok.out i hi); omega) (fun i hi => by have := ok_bd (hok.out i hi); omega) (fun i hi => by have := ok_bd (hok.out i hi); omega)
            rw [show quo (negs f j) (upTo (fun i => (f i).n.natAbs) j) (upTo (fun i => (f i).d.natAbs) j) = R from hrr.out.symm] at NV
            clear hrr hnz hok RA hin hU hD hap HB
            obtain ⟨⟨Rn, Rd⟩, Re⟩ := R
            go_wp2_with (go_at_call 109; (with_reducible refine Calls.mono NV ?_); rintro e wt ⟨rfl, ht⟩; replace E := E.trans ht; replace B1 := B1.ext ht; have f0 := B1.frozen 0; have f1 := B1.frozen 1; obtain ⟨x0, x1⟩ := B1.c2; have lx := B1.lt)
            have H4 := held_two B1 (.int .i64 Rn) (.int .i64 Rd)
            have EF := (E.setCell (p := ⟨b1, 0, none⟩) hbr (.int .i64 Rn)).setCell (p := ⟨b1, 1, none⟩) hbr (.int .i64 Rd)
            obtain ⟨y0, y1⟩ := H4.c2
            go_wp2
            refine bodyPost_ret (v := .tuple #[.agg #[.int .i64 Rn, .int .i64 Rd], .int .i64 Re]) (by simp [results, Tryz.results52, go_sem, y0, y1]) rfl ⟨rfl, EF⟩
      · have hzz : R = (⟨0, 1⟩, 0) := by
          rw [hrr.out]
          unfold mulsV
          rw [(upTo_zero_iff (f := fun i => (f i).n.natAbs) k).2 (by obtain ⟨i, h1, h2⟩ := hz.out.1 rfl; exact ⟨i, h1, by simp only [h2]; rfl⟩)]
          exact quo_zero (upTo_pos k fun i hi => by have := (ok_bd (hok.out i hi)).1; omega)
        subst hzz
        clear hz hok hrr RA
        have f0 := B1.frozen 0
        have f1 := B1.frozen 1
        obtain ⟨x0, x1⟩ := B1.c2
        have lx := B1.lt
        have H4 := held_two B1 (.int .i64 0) (.int .i64 1)
        have EF := (E.setCell (p := ⟨b1, 0, none⟩) hbr (.int .i64 0)).setCell (p := ⟨b1, 1, none⟩) hbr (.int .i64 1)
        obtain ⟨y0, y1⟩ := H4.c2
        go_wp2
        refine bodyPost_ret (v := .tuple #[.agg #[.int .i64 0, .int .i64 1], .int .i64 0]) (by simp [results, Tryz.results52, go_sem, y0, y1]) rfl ⟨rfl, EF⟩

set_option maxRecDepth 100000 in
set_option maxHeartbeats 4000000 in
theorem positiveR_any (r : Rt) (hr : r.In) (w : World) :
    Calls Tryz.prog 55 #[.agg #[.int .i64 r.n, .int .i64 r.d]] w fun e w' => e = .returned (.bool r.pos) ∧ Ext w w' := by
  have NI := fun w => isRatioR_any r.n r.d hr.1 hr.2.1 hr.2.2.1 hr.2.2.2 w
  rw [show Rt.ok ⟨r.n, r.d⟩ = r.ok from rfl] at NI
  have HR : Hid (r.pos = (r.ok && decide (0 < r.n))) := rfl
  generalize r.pos = R at *
  generalize r.ok = o at *
  clear hr
  go_enter Tryz.func55, Tryz.ntmps55
  go_upto_region 1 with (fail)
  obtain ⟨v, hv⟩ : ∃ v, v = (w.alloc (.cells #[.int .i64 r.n, .int .i64 r.d] 23)) := ⟨_, rfl⟩
  rw [← hv]
  have E : Ext w v := by rw [hv]; exact (Ext.refl _).alloc _
  have B1 : Held v w.heap.size 23 #[.int .i64 r.n, .int .i64 r.d] := by rw [hv]; exact (Held.new _ _ _)
  clear hv
  obtain ⟨b1, hb1⟩ : ∃ b, b = w.heap.size := ⟨_, rfl⟩
  rw [← hb1] at B1 ⊢
  have hbr : w.heap.size ≤ b1 := by omega
  clear hb1
  obtain ⟨k0, k1⟩ := B1.c2
  have lk := B1.lt
  cases o
  · go_wp2_with (go_at_call 107; (with_reducible refine Calls.mono (NI _) ?_); rintro e w2 ⟨rfl, h⟩; replace B1 := B1.ext h; clear k0 k1 lk; obtain ⟨k0, k1⟩ := B1.c2; have lk := B1.lt)
    go_ret
    exact ⟨by rw [HR.out]; rfl, E.trans h⟩
  · by_cases h0 : 0 < r.n
    · have g1 : decide (0 < r.n) = true := decide_eq_true h0
      clear h0
      go_wp2_with (go_at_call 107; (with_reducible refine Calls.mono (NI _) ?_); rintro e w2 ⟨rfl, h⟩; replace B1 := B1.ext h; clear k0 k1 lk; obtain ⟨k0, k1⟩ := B1.c2; have lk := B1.lt)
      go_ret
      exact ⟨by rw [HR.out, g1]; rfl, E.trans h⟩
    · have g1 : decide (0 < r.n) = false := decide_eq_false h0
      clear h0
      go_wp2_with (go_at_call 107; (with_reducible refine Calls.mono (NI _) ?_); rintro e w2 ⟨rfl, h⟩; replace B1 := B1.ext h; clear k0 k1 lk; obtain ⟨k0, k1⟩ := B1.c2; have lk := B1.lt)
      go_ret
      exact ⟨by rw [HR.out, g1]; rfl, E.trans h⟩

set_option maxRecDepth 100000 in
set_option maxHeartbeats 4000000 in
theorem doublesR_any (r : Rt) (hr : r.In) (w : World) :
    Calls Tryz.prog 14 #[.agg #[.int .i64 r.n, .int .i64 r.d]] w fun e w' => e = .returned (.tuple #[.int .i64 (dblV r).1, .int .i64 (dblV r).2]) ∧ Ext w w' := by
  have NP := fun w => positiveR_any r hr w
  cases hp : r.pos
  · have HR : dblV r = (0, 2) := by unfold dblV; rw [hp]; rfl
    rw [HR]
    simp only [hp] at NP
    clear hp HR
    go_enter Tryz.func14, Tryz.ntmps14
    go_upto_region 1 with (fail)
    obtain ⟨v, hv⟩ : ∃ v, v = (w.alloc (.cells #[.int .i64 r.n, .int .i64 r.d] 23)) := ⟨_, rfl⟩
    rw [← hv]
    have E : Ext w v := by rw [hv]; exact (Ext.refl _).alloc _
    have B1 : Held v w.heap.size 23 #[.int .i64 r.n, .int .i64 r.d] := by rw [hv]; exact (Held.new _ _ _)
    clear hv
    obtain ⟨b1, hb1⟩ : ∃ b, b = w.heap.size := ⟨_, rfl⟩
    rw [← hb1] at B1 ⊢
    have hbr : w.heap.size ≤ b1 := by omega
    clear hb1
    obtain ⟨k0, k1⟩ := B1.c2
    have lk := B1.lt
    go_wp2_with (go_at_call 55; (with_reducible refine Calls.mono (NP _) ?_); rintro e w2 ⟨rfl, h⟩)
    go_ret2
    exact ⟨rfl, E.trans h⟩
  · have HR : dblV r = ((360 * r.d + r.n - 1) / r.n, 0) := by unfold dblV; rw [hp]; rfl
    have HB := Lib.hid (dbl_bd hp)
    rw [HR] at HB ⊢
    simp only [hp] at NP
    obtain ⟨ho, hn⟩ : r.ok = true ∧ 0 < r.n := by simpa [Rt.pos] using hp
    obtain ⟨d1, d2, n1, n2, _⟩ := ok_bd ho
    have w1 : IntKind.i64.wrap (360 * r.d) = 360 * r.d := wrap64 (by omega) (by omega)
    have w2 : IntKind.i64.wrap (360 * r.d + r.n) = 360 * r.d + r.n := wrap64 (by omega) (by omega)
    have w3 : IntKind.i64.wrap (360 * r.d + r.n - 1) = 360 * r.d + r.n - 1 := wrap64 (by omega) (by omega)
    have w4 : IntKind.i64.wrap ((360 * r.d + r.n - 1).tdiv r.n) = (360 * r.d + r.n - 1) / r.n := by
      rw [Int.tdiv_eq_ediv_of_nonneg (by omega)]
      have := HB.out
      exact wrap64 (by omega) (by omega)
    have w5 : (r.n == 0) = false := beq_eq_false_iff_ne.2 (by omega)
    have w6 : r.n ≠ 0 := by omega
    clear hp HR HB ho hn d1 d2 n1 n2
    go_enter Tryz.func14, Tryz.ntmps14
    go_upto_region 1 with (fail)
    obtain ⟨v, hv⟩ : ∃ v, v = (w.alloc (.cells #[.int .i64 r.n, .int .i64 r.d] 23)) := ⟨_, rfl⟩
    rw [← hv]
    have E : Ext w v := by rw [hv]; exact (Ext.refl _).alloc _
    have B1 : Held v w.heap.size 23 #[.int .i64 r.n, .int .i64 r.d] := by rw [hv]; exact (Held.new _ _ _)
    clear hv
    obtain ⟨b1, hb1⟩ : ∃ b, b = w.heap.size := ⟨_, rfl⟩
    rw [← hb1] at B1 ⊢
    have hbr : w.heap.size ≤ b1 := by omega
    clear hb1
    obtain ⟨k0, k1⟩ := B1.c2
    have lk := B1.lt
    go_wp2_with (go_at_call 55; (with_reducible refine Calls.mono (NP _) ?_); rintro e w2 ⟨rfl, h⟩; replace B1 := B1.ext h; clear k0 k1 lk; obtain ⟨k0, k1⟩ := B1.c2; have lk := B1.lt)
    go_ret2
    exact ⟨rfl, E.trans h⟩


set_option maxRecDepth 100000 in
set_option maxHeartbeats 4000000 in
theorem interestR_any (p r : Rt) (k : Int) (hp : p.In) (hr : r.In) (hk1 : -9223372036854775808 ≤ k) (hk2 : k ≤ 9223372036854775807) (w : World) :
    Calls Tryz.prog 12 #[.agg #[.int .i64 p.n, .int .i64 p.d], .agg #[.int .i64 r.n, .int .i64 r.d], .int .i64 k] w fun e w' => e = .returned (.tuple #[.agg #[.int .i64 (intV p r k).1.n, .int .i64 (intV p r k).1.d], .int .i64 (intV p r k).2]) ∧ Ext w w' := by
  have NP1 := fun w => atLeast_any p hp w
  have NP2 := fun w => atLeast_any r hr w
  have HI := int_cases p r k
  obtain ⟨R, hR0⟩ : ∃ R, R = intV p r k := ⟨_, rfl⟩
  rw [← hR0]
  have HR := Lib.hid hR0
  clear hR0
  rw [show intV p r k = R from HR.out.symm] at HI
  clear HR
  go_enter Tryz.func12, Tryz.ntmps12
  go_upto_region 1 with (fail)
  obtain ⟨v, hv⟩ : ∃ v, v = (((w.alloc (.cells #[.int .i64 p.n, .int .i64 p.d] 23)).alloc (.cells #[.int .i64 r.n, .int .i64 r.d] 23)).alloc (.cells #[.int .i64 0, .int .i64 0] 23)) := ⟨_, rfl⟩
  rw [← hv]
  have E : Ext w v := by rw [hv]; exact (((Ext.refl _).alloc _).alloc _).alloc _
  have B1 : Held v w.heap.size 23 #[.int .i64 p.n, .int .i64 p.d] := by rw [hv]; exact ((Held.new _ _ _).alloc _).alloc _
  have B2 : Held v (w.heap.size + 1) 23 #[.int .i64 r.n, .int .i64 r.d] := by rw [hv]; exact (Held.at _ _ _ _ (by simp)).alloc _
  have B3 : Held v (w.heap.size + 1 + 1) 23 #[.int .i64 0, .int .i64 0] := by rw [hv]; exact Held.at _ _ _ _ (by simp)
  clear hv
  obtain ⟨b3, hb3⟩ : ∃ b, b = w.heap.size + 1 + 1 := ⟨_, rfl⟩
  rw [← hb3] at B3 ⊢
  obtain ⟨b2, hb2⟩ : ∃ b, b = w.heap.size + 1 := ⟨_, rfl⟩
  rw [← hb2] at B2 ⊢
  obtain ⟨b1, hb1⟩ : ∃ b, b = w.heap.size := ⟨_, rfl⟩
  rw [← hb1] at B1 ⊢
  have hbr : w.heap.size ≤ b3 := by omega
  have hbr1 : w.heap.size ≤ b1 := by omega
  have hbr2 : w.heap.size ≤ b2 := by omega
  have hn21 : b2 ≠ b1 := by omega
  have hn31 : b3 ≠ b1 := by omega
  have hn32 : b3 ≠ b2 := by omega
  clear hb1 hb2 hb3
  obtain ⟨k0, k1⟩ := B1.c2
  have lk := B1.lt
  obtain ⟨p0, p1⟩ := B2.c2
  have lp := B2.lt
  cases hp1 : p.nn
  · simp only [hp1] at NP1
    have hr := HI.out.1 (by rw [hp1]; rfl)
    subst hr
    clear HI NP2
    go_upto_region 2 with (go_at_call 51; (with_reducible refine Calls.mono (NP1 _) ?_); rintro e w2 ⟨rfl, h⟩; replace E := E.trans h; replace B1 := B1.ext h; replace B2 := B2.ext h; replace B3 := B3.ext h; clear h k0 k1 lk p0 p1 lp; obtain ⟨k0, k1⟩ := B1.c2; have lk := B1.lt; obtain ⟨p0, p1⟩ := B2.c2; have lp := B2.lt)
    have f0 := B3.frozen 0
    have f1 := B3.frozen 1
    obtain ⟨x0, x1⟩ := B3.c2
    have lx := B3.lt
    have H4 := held_two B3 (.int .i64 0) (.int .i64 0)
    have EF := (E.setCell (p := ⟨b3, 0, none⟩) hbr (.int .i64 0)).setCell (p := ⟨b3, 1, none⟩) hbr (.int .i64 0)
    obtain ⟨y0, y1⟩ := H4.c2
    go_wp2
    refine bodyPost_ret (v := .tuple #[.agg #[.int .i64 0, .int .i64 0], .int .i64 2]) (by simp [results, Tryz.results12, go_sem, y0, y1]) rfl ⟨rfl, EF⟩
  simp only [hp1] at NP1
  cases hr1 : r.nn
  · simp only [hr1] at NP2
    have hr := HI.out.1 (by rw [hp1, hr1]; rfl)
    subst hr
    clear HI
    go_upto_region 2 with (first | (go_at_call 51; (with_reducible refine Calls.mono (NP1 _) ?_); rintro e w1 ⟨rfl, h⟩; replace E := E.trans h; replace B1 := B1.ext h; replace B2 := B2.ext h; replace B3 := B3.ext h; clear h k0 k1 lk p0 p1 lp; obtain ⟨k0, k1⟩ := B1.c2; have lk := B1.lt; obtain ⟨p0, p1⟩ := B2.c2; have lp := B2.lt) | (go_at_call 51; (with_reducible refine Calls.mono (NP2 _) ?_); rintro e w2 ⟨rfl, h⟩; replace E := E.trans h; replace B1 := B1.ext h; replace B2 := B2.ext h; replace B3 := B3.ext h; clear h k0 k1 lk p0 p1 lp; obtain ⟨k0, k1⟩ := B1.c2; have lk := B1.lt; obtain ⟨p0, p1⟩ := B2.c2; have lp := B2.lt))
    have f0 := B3.frozen 0
    have f1 := B3.frozen 1
    obtain ⟨x0, x1⟩ := B3.c2
    have lx := B3.lt
    have H4 := held_two B3 (.int .i64 0) (.int .i64 0)
    have EF := (E.setCell (p := ⟨b3, 0, none⟩) hbr (.int .i64 0)).setCell (p := ⟨b3, 1, none⟩) hbr (.int .i64 0)
    obtain ⟨y0, y1⟩ := H4.c2
    go_wp2
    refine bodyPost_ret (v := .tuple #[.agg #[.int .i64 0, .int .i64 0], .int .i64 2]) (by simp [results, Tryz.results12, go_sem, y0, y1]) rfl ⟨rfl, EF⟩
  · simp only [hr1] at NP2
    have hnn : (p.nn && r.nn) = true := by rw [hp1, hr1]; rfl
    have hI := Lib.hid (HI.out.2 hnn)
    clear HI
    go_upto_region 3 with (first | (go_at_call 51; (with_reducible refine Calls.mono (NP1 _) ?_); rintro e w1 ⟨rfl, h⟩; replace E := E.trans h; replace B1 := B1.ext h; replace B2 := B2.ext h; replace B3 := B3.ext h; clear h k0 k1 lk p0 p1 lp; obtain ⟨k0, k1⟩ := B1.c2; have lk := B1.lt; obtain ⟨p0, p1⟩ := B2.c2; have lp := B2.lt) | (go_at_call 51; (with_reducible refine Calls.mono (NP2 _) ?_); rintro e w2 ⟨rfl, h⟩; replace E := E.trans h; replace B1 := B1.ext h; replace B2 := B2.ext h; replace B3 := B3.ext h; clear h k0 k1 lk p0 p1 lp; obtain ⟨k0, k1⟩ := B1.c2; have lk := B1.lt; obtain ⟨p0, p1⟩ := B2.c2; have lp := B2.lt))
    clear NP1 NP2 hp1 hr1 k0 k1 lk p0 p1 lp
    by_cases c1 : k < 0
    · have g1 : decide (k < 0) = true := decide_eq_true c1
      have hr := hI.out.1 (.inl c1)
      subst hr
      clear hI hnn c1
      have f0 := B3.frozen 0
      have f1 := B3.frozen 1
      obtain ⟨x0, x1⟩ := B3.c2
      have lx := B3.lt
      have H4 := held_two B3 (.int .i64 0) (.int .i64 0)
      have EF := (E.setCell (p := ⟨b3, 0, none⟩) hbr (.int .i64 0)).setCell (p := ⟨b3, 1, none⟩) hbr (.int .i64 0)
      obtain ⟨y0, y1⟩ := H4.c2
      go_wp2
      refine bodyPost_ret (v := .tuple #[.agg #[.int .i64 0, .int .i64 0], .int .i64 8]) (by simp [results, Tryz.results12, go_sem, y0, y1]) rfl ⟨rfl, EF⟩
    · have g1 : decide (k < 0) = false := decide_eq_false c1
      by_cases c2 : 1099511627776 < k
      · have g2 : decide (1099511627776 < k) = true := decide_eq_true c2
        have hr := hI.out.1 (.inr c2)
        subst hr
        clear hI hnn c1 c2
        have f0 := B3.frozen 0
        have f1 := B3.frozen 1
        obtain ⟨x0, x1⟩ := B3.c2
        have lx := B3.lt
        have H4 := held_two B3 (.int .i64 0) (.int .i64 0)
        have EF := (E.setCell (p := ⟨b3, 0, none⟩) hbr (.int .i64 0)).setCell (p := ⟨b3, 1, none⟩) hbr (.int .i64 0)
        obtain ⟨y0, y1⟩ := H4.c2
        go_wp2
        refine bodyPost_ret (v := .tuple #[.agg #[.int .i64 0, .int .i64 0], .int .i64 8]) (by simp [results, Tryz.results12, go_sem, y0, y1]) rfl ⟨rfl, EF⟩
      · have g2 : decide (1099511627776 < k) = false := decide_eq_false c2
        obtain ⟨np, nr⟩ := Bool.and_eq_true_iff.1 hnn
        have hok : ∀ i, i < 4 → (fact4 p r k i).ok = true := fact4_ok (nn_parts np).1 (nn_parts nr).1 (by omega) (by omega)
        have NP := fun w b h => productF_any (some ⟨b, 0, none⟩) 4 4 (fact4 p r k) w h (by decide) (fun i hi => ok_in (hok i hi))
        rw [prod_muls (by decide) hok, show mulsV (fact4 p r k) 4 = R from (hI.out.2 (by omega) (by omega)).symm] at NP
        clear hI hnn np nr hok c1 c2
        obtain ⟨⟨Rn, Rd⟩, Re⟩ := R
        go_upto_region 5 with (fail)
        refine wp_region_z 11 [9, 10] (fun x => Ext w2 x) mixed rfl ?_
        intro vz hvz
        have HC := hvz
        refine z_stills (g := 7) [0, 1, 2, 4] [_, _, _, _] ⟨rfl, rfl, rfl, rfl, trivial⟩ (by kernel_rfl) (by kernel_rfl) HC ?_
        simp only [List.getElem_toArray, List.getElem_cons_succ, List.getElem_cons_zero]
        apply Exists.intro
        refine ⟨fun u hu => ?_, ?_⟩
        · obtain ⟨k0, k1⟩ := (B1.ext hu).c2
          obtain ⟨p0, p1⟩ := (B2.ext hu).c2
          have lk := (B1.ext hu).lt
          have lp := (B2.ext hu).lt
          repeat (first | go_big_quiet_skip | (go_big_quiet_want; go_big_quiet_op; go_big_quiet_on))
          refine wpQuiet_nil ?_
          rfl
        refine z_one 3 rfl (by kernel_rfl) ?_
        simp only [List.getElem_toArray, List.getElem_cons_succ, List.getElem_cons_zero]
        go_wp2_with (go_at_call 53; (with_reducible refine Calls.mono (wholeR_any _ _) ?_); rintro e va ⟨rfl, h4⟩)
        replace HC := HC.trans h4
        clear h4 hvz
        refine onQ_in HC ?_
        refine z_one 5 rfl (by kernel_rfl) ?_
        simp only [List.getElem_toArray, List.getElem_cons_succ, List.getElem_cons_zero]
        go_wp2
        have B5 := rows4 (p := p) (r := r) (k := k) (Held.new va 23 #[.int .i64 p.n, .int .i64 p.d, .int .i64 r.n, .int .i64 r.d, .int .i64 k, .int .i64 1, .int .i64 1, .int .i64 360])
        replace HC : Ext w2 (va.alloc _) := HC.alloc (.cells #[.int .i64 p.n, .int .i64 p.d, .int .i64 r.n, .int .i64 r.d, .int .i64 k, .int .i64 1, .int .i64 1, .int .i64 360] 23)
        generalize va.heap.size = b5 at *
        generalize World.alloc va _ = vd at *
        clear va
        refine onQ_in HC ?_
        refine z_one 6 rfl (by kernel_rfl) ?_
        simp only [List.getElem_toArray, List.getElem_cons_succ, List.getElem_cons_zero]
        go_wp2_with (go_at_call 52; (with_reducible refine Calls.mono (NP _ _ B5) ?_); rintro e vb ⟨rfl, h4⟩)
        replace HC := HC.trans h4
        clear h4 B5 NP
        refine onQ_in HC ?_
        refine z_stills (g := 2) [7, 8] [_, _] ⟨rfl, rfl, trivial⟩ (by kernel_rfl) (by kernel_rfl) HC ?_
        simp only [List.getElem_toArray, List.getElem_cons_succ, List.getElem_cons_zero]
        apply Exists.intro
        refine ⟨fun u hu => ?_, ?_⟩
        · skip
          repeat (first | go_big_quiet_skip | (go_big_quiet_want; go_big_quiet_op; go_big_quiet_on))
          refine wpQuiet_nil ?_
          rfl
        replace B3 := B3.ext HC
        replace E := E.trans HC
        refine z_end 9 rfl (by kernel_rfl) ?_
        simp only [List.getElem_toArray, List.getElem_cons_succ, List.getElem_cons_zero]
        have f0 := B3.frozen 0
        have f1 := B3.frozen 1
        obtain ⟨x0, x1⟩ := B3.c2
        have lx := B3.lt
        have H4 := held_two B3 (.int .i64 Rn) (.int .i64 Rd)
        have EF := (E.setCell (p := ⟨b3, 0, none⟩) hbr (.int .i64 Rn)).setCell (p := ⟨b3, 1, none⟩) hbr (.int .i64 Rd)
        obtain ⟨y0, y1⟩ := H4.c2
        go_wp2
        refine onQ_last ?_
        refine z_end 10 rfl (by kernel_rfl) ?_
        simp only [List.getElem_toArray, List.getElem_cons_succ, List.getElem_cons_zero]
        go_wp2
        refine onQ_last ?_
        refine z_done (by kernel_rfl) ?_
        go_wp2
        refine bodyPost_ret (v := .tuple #[.agg #[.int .i64 Rn, .int .i64 Rd], .int .i64 Re]) (by simp [results, Tryz.results12, go_sem, y0, y1]) rfl ⟨rfl, EF⟩


end Go.Proofs.YthmjpbafbohelaaGreatDoor

namespace Go.Proofs.YthmjpbafbohelaaGreatDoor
open Go Go.RowKit Go.Shelf
attribute [local go_sem] gv_yes

theorem sch_lo (c : Cal) (a b : Dt) : -9223372036854775808 ≤ c.schV a b := by
  by_cases h : c.in2E a b = 0
  · have hv : c.valid = true := by
      rcases in2E_cases c a b with ⟨_, hE⟩ | ⟨hv, _, _⟩ | ⟨hv, _, _⟩
      · rw [hE] at h; exact absurd h (by decide)
      · exact hv
      · exact hv
    have hh : (c.has a && c.has b) = true := by
      rcases in2E_cases c a b with ⟨_, hE⟩ | ⟨_, _, hE⟩ | ⟨_, hh, _⟩
      · rw [hE] at h; exact absurd h (by decide)
      · rw [hE] at h; exact absurd h (by decide)
      · exact hh
    obtain ⟨h1, h2⟩ := Bool.and_eq_true_iff.1 hh
    rw [sch_of hv h1 h2]
    have := num2_bd hv h1
    have := num2_bd hv h2
    omega
  · unfold Cal.schV; rw [if_neg h]; decide
theorem sch_hi (c : Cal) (a b : Dt) : c.schV a b ≤ 9223372036854775807 := by
  by_cases h : c.in2E a b = 0
  · have hv : c.valid = true := by
      rcases in2E_cases c a b with ⟨_, hE⟩ | ⟨hv, _, _⟩ | ⟨hv, _, _⟩
      · rw [hE] at h; exact absurd h (by decide)
      · exact hv
      · exact hv
    have hh : (c.has a && c.has b) = true := by
      rcases in2E_cases c a b with ⟨_, hE⟩ | ⟨_, _, hE⟩ | ⟨_, hh, _⟩
      · rw [hE] at h; exact absurd h (by decide)
      · rw [hE] at h; exact absurd h (by decide)
      · exact hh
    obtain ⟨h1, h2⟩ := Bool.and_eq_true_iff.1 hh
    rw [sch_of hv h1 h2]
    have := num2_bd hv h1
    have := num2_bd hv h2
    omega
  · unfold Cal.schV; rw [if_neg h]; decide
set_option maxRecDepth 100000 in
set_option maxHeartbeats 4000000 in
theorem accrue_any (A A' : Option Addr) (ca cb : Nat) (c : Cal) (l : Ln) (hr : l.r.In) (X : Db) (hX : X.In) (fr tu : Dt) (bt bd bl bb bf be : Nat) (v0 w : World) (hv0 : Ext v0 w) (C : CalAt v0 A ca A' cb c) (Z : Zro v0) (ht : Held w bt 166 #[.func (.func 126) #[] #[.pointer (some ⟨be, 0, none⟩)]]) (hd : Held w bd 60 #[.int .i64 X.p.n, .int .i64 X.p.d, .int .i64 X.i.n, .int .i64 X.i.d, .int .i64 X.s.n, .int .i64 X.s.d]) (hl : Held w bl 54 #[.int .i64 l.p.n, .int .i64 l.p.d, .int .i64 l.r.n, .int .i64 l.r.d, .int .i64 l.f.y, .int .i64 l.f.m, .bool l.f.s, .int .i64 l.f.d]) (hb : Held w bb 108 #[.slice A c.nk ca, .slice A' c.ny cb]) (hf : Held w bf 37 #[.int .i64 fr.y, .int .i64 fr.m, .bool fr.s, .int .i64 fr.d]) (he : Held w be 24 #[.int .i64 0]) (g3 : v0.heap.size ≤ be) (n1 : bd ≠ bf) (n2 : bd ≠ be) (n3 : bf ≠ be) (n4 : bt ∉ [bd, bf, be]) (n5 : bl ∉ [bd, bf, be]) (n6 : bb ∉ [bd, bf, be]) :
    Calls Tryz.prog 127 #[.agg #[.int .i64 tu.y, .int .i64 tu.m, .bool tu.s, .int .i64 tu.d], .pointer (some ⟨bt, 0, none⟩), .pointer (some ⟨bd, 0, none⟩), .pointer (some ⟨bl, 0, none⟩), .pointer (some ⟨bb, 0, none⟩), .pointer (some ⟨bf, 0, none⟩), .pointer (some ⟨be, 0, none⟩)] w fun e w' => e = .returned (.tuple #[]) ∧ Only [bd, bf, be] w w' ∧ Held w' bf 37 #[.int .i64 tu.y, .int .i64 tu.m, .bool tu.s, .int .i64 tu.d] ∧ Held w' be 24 #[.int .i64 (accV c l.r X fr tu).2] ∧ ∃ Y : Db, Y.In ∧ Held w' bd 60 #[.int .i64 Y.p.n, .int .i64 Y.p.d, .int .i64 Y.i.n, .int .i64 Y.i.d, .int .i64 Y.s.n, .int .i64 Y.s.d] ∧ ((accV c l.r X fr tu).2 = 0 → Y = (accV c l.r X fr tu).1) := by
  have NI := fun w z => interest_any X.p l.r (c.schV fr tu) hX.p hr (sch_lo c fr tu) (sch_hi c fr tu) w z
  have HV : Hid (accV c l.r X fr tu = if (intV X.p l.r (c.schV fr tu)).2 ≠ 0 then (X, (intV X.p l.r (c.schV fr tu)).2) else if (addR X.i (intV X.p l.r (c.schV fr tu)).1).2 ≠ 0 then (X, (addR X.i (intV X.p l.r (c.schV fr tu)).1).2) else (⟨X.p, (addR X.i (intV X.p l.r (c.schV fr tu)).1).1, X.s⟩, 0)) := rfl
  have hMi := intV_in X.p l.r (c.schV fr tu)
  generalize accV c l.r X fr tu = V at *
  generalize intV X.p l.r (c.schV fr tu) = M at *
  obtain ⟨⟨Mn, Md⟩, Me⟩ := M
  simp only [] at HV NI hMi
  go_enter Tryz.func127, Tryz.ntmps127
  go_upto_region 1 with (fail)
  obtain ⟨v, hv⟩ : ∃ v, v = (w.alloc (.cells #[.int .i64 tu.y, .int .i64 tu.m, .bool tu.s, .int .i64 tu.d] 37)) := ⟨_, rfl⟩
  rw [← hv]
  have E : Ext w v := by rw [hv]; exact (Ext.refl _).alloc _
  have H7 : Held v w.heap.size 37 #[.int .i64 tu.y, .int .i64 tu.m, .bool tu.s, .int .i64 tu.d] := by rw [hv]; exact (Held.new _ _ _)
  clear hv
  obtain ⟨b1, hb1⟩ : ∃ b, b = w.heap.size := ⟨_, rfl⟩
  rw [← hb1] at H7 ⊢
  have hbr : w.heap.size ≤ b1 := by omega
  clear hb1
  have n7 : b1 ≠ be := by have := he.lt; omega
  have n8 : b1 ≠ bd := by have := hd.lt; omega
  have HE := hv0.trans E
  have HO : Only [bd, bf, be] w v := Only.of_ext E
  have Ht := ht.ext E
  have Hd := hd.ext E
  have Hl := hl.ext E
  have Hb := hb.ext E
  have Hf := hf.ext E
  have He := he.ext E
  clear E hv0
  apply wp_cut1y (S := fun w' b => Ext v0 w' ∧ w.heap.size ≤ b ∧ Only [bd, bf, be] w w' ∧ Held w' bt 166 #[.func (.func 126) #[] #[.pointer (some ⟨be, 0, none⟩)]] ∧ Held w' bd 60 #[.int .i64 X.p.n, .int .i64 X.p.d, .int .i64 X.i.n, .int .i64 X.i.d, .int .i64 X.s.n, .int .i64 X.s.d] ∧ Held w' bf 37 #[.int .i64 fr.y, .int .i64 fr.m, .bool fr.s, .int .i64 fr.d] ∧ Held w' b1 37 #[.int .i64 tu.y, .int .i64 tu.m, .bool tu.s, .int .i64 tu.d] ∧ Held w' be 24 #[.int .i64 Me] ∧ Held w' b 23 #[.int .i64 Mn, .int .i64 Md] ∧ b1 ≠ b)
  · refine wp_region_z 15 [14] (fun x => Ext v0 x ∧ Held x bt 166 #[.func (.func 126) #[] #[.pointer (some ⟨be, 0, none⟩)]] ∧ Held x bd 60 #[.int .i64 X.p.n, .int .i64 X.p.d, .int .i64 X.i.n, .int .i64 X.i.d, .int .i64 X.s.n, .int .i64 X.s.d] ∧ Held x bl 54 #[.int .i64 l.p.n, .int .i64 l.p.d, .int .i64 l.r.n, .int .i64 l.r.d, .int .i64 l.f.y, .int .i64 l.f.m, .bool l.f.s, .int .i64 l.f.d] ∧ Held x bb 108 #[.slice A c.nk ca, .slice A' c.ny cb] ∧ Held x bf 37 #[.int .i64 fr.y, .int .i64 fr.m, .bool fr.s, .int .i64 fr.d] ∧ Held x b1 37 #[.int .i64 tu.y, .int .i64 tu.m, .bool tu.s, .int .i64 tu.d]) mixed rfl ?_
    intro vz hvz
    replace HO := HO.trans (Only.of_ext hvz)
    replace HE := HE.trans hvz
    replace Ht := Ht.ext hvz
    replace Hd := Hd.ext hvz
    replace Hl := Hl.ext hvz
    replace Hb := Hb.ext hvz
    replace Hf := Hf.ext hvz
    replace H7 := H7.ext hvz
    replace He := He.ext hvz
    try replace Q := Q.ext hvz
    clear hvz
    refine z_stills (g := 7) [0, 1, 2, 3, 4, 5, 6, 7] [_, _, _, _, _, _, _, _] ⟨rfl, rfl, rfl, rfl, rfl, rfl, rfl, rfl, trivial⟩ (by kernel_rfl) (by kernel_rfl) ⟨HE, Ht, Hd, Hl, Hb, Hf, H7⟩ ?_
    simp only [List.getElem_toArray, List.getElem_cons_succ, List.getElem_cons_zero]
    apply Exists.intro
    refine ⟨fun u hu => ?_, ?_⟩
    · have t0 := hu.2.1.c1
      have lt := hu.2.1.lt
      obtain ⟨d0, d1, d2, d3, d4, d5⟩ := hu.2.2.1.c6
      have ld := hu.2.2.1.lt
      obtain ⟨p0, p1, p2, p3, p4, p5, p6, p7⟩ := hu.2.2.2.1.c8
      have lp := hu.2.2.2.1.lt
      obtain ⟨k0, k1⟩ := hu.2.2.2.2.1.c2
      have lk := hu.2.2.2.2.1.lt
      obtain ⟨f0, f1, f2, f3⟩ := hu.2.2.2.2.2.1.c4
      have lf := hu.2.2.2.2.2.1.lt
      obtain ⟨s0, s1, s2, s3⟩ := hu.2.2.2.2.2.2.c4
      have ls := hu.2.2.2.2.2.2.lt
      repeat (first | go_big_quiet_skip | (go_big_quiet_want; go_big_quiet_op; go_big_quiet_on))
      refine wpQuiet_nil ?_
      rfl
    refine z_two 8 13 rfl rfl (by kernel_rfl) ?_ ?_
    · simp only [List.getElem_toArray, List.getElem_cons_succ, List.getElem_cons_zero]
      go_wp2_with (go_at_call 66; (with_reducible refine Calls.mono (bet_any A A' ca cb c fr tu _ (C.ext HE)) ?_); rintro e wa ⟨rfl, h4⟩)
      replace HO := HO.trans (Only.of_ext h4)
      replace HE := HE.trans h4
      replace Ht := Ht.ext h4
      replace Hd := Hd.ext h4
      replace Hl := Hl.ext h4
      replace Hb := Hb.ext h4
      replace Hf := Hf.ext h4
      replace H7 := H7.ext h4
      replace He := He.ext h4
      try replace Q := Q.ext h4
      clear h4
      refine onQ_in ⟨HE, Ht, Hd, Hl, Hb, Hf, H7⟩ ?_
      refine z_two 9 13 rfl rfl (by kernel_rfl) ?_ ?_
      · simp only [List.getElem_toArray, List.getElem_cons_succ, List.getElem_cons_zero]
        go_wp2_with (go_at_call 11; (with_reducible refine Calls.mono (NI _ (Z.ext HE)) ?_); rintro e wc ⟨rfl, h4⟩)
        replace HO := HO.trans (Only.of_ext h4)
        replace HE := HE.trans h4
        replace Ht := Ht.ext h4
        replace Hd := Hd.ext h4
        replace Hl := Hl.ext h4
        replace Hb := Hb.ext h4
        replace Hf := Hf.ext h4
        replace H7 := H7.ext h4
        replace He := He.ext h4
        try replace Q := Q.ext h4
        clear h4
        refine onQ_in ⟨HE, Ht, Hd, Hl, Hb, Hf, H7⟩ ?_
        refine z_stills (g := 3) [10, 11] [_, _] ⟨rfl, rfl, trivial⟩ (by kernel_rfl) (by kernel_rfl) ⟨HE, Ht, Hd, Hl, Hb, Hf, H7⟩ ?_
        simp only [List.getElem_toArray, List.getElem_cons_succ, List.getElem_cons_zero]
        apply Exists.intro
        refine ⟨fun u hu => ?_, ?_⟩
        · have t0 := hu.2.1.c1
          have lt := hu.2.1.lt
          obtain ⟨d0, d1, d2, d3, d4, d5⟩ := hu.2.2.1.c6
          have ld := hu.2.2.1.lt
          obtain ⟨p0, p1, p2, p3, p4, p5, p6, p7⟩ := hu.2.2.2.1.c8
          have lp := hu.2.2.2.1.lt
          obtain ⟨k0, k1⟩ := hu.2.2.2.2.1.c2
          have lk := hu.2.2.2.2.1.lt
          obtain ⟨f0, f1, f2, f3⟩ := hu.2.2.2.2.2.1.c4
          have lf := hu.2.2.2.2.2.1.lt
          obtain ⟨s0, s1, s2, s3⟩ := hu.2.2.2.2.2.2.c4
          have ls := hu.2.2.2.2.2.2.lt
          repeat (first | go_big_quiet_skip | (go_big_quiet_want; go_big_quiet_op; go_big_quiet_on))
          refine wpQuiet_nil ?_
          rfl
        refine z_two 12 13 rfl rfl (by kernel_rfl) ?_ ?_
        · simp only [List.getElem_toArray, List.getElem_cons_succ, List.getElem_cons_zero]
          go_wp2_with (first | (go_at_call 126; (with_reducible refine Calls.mono (try_any ⟨Mn, Md⟩ Me 0 be _ He) ?_); rintro e we ⟨rfl, h5, He2⟩) | (go_at_fn 126; (with_reducible refine Calls.mono (try_any ⟨Mn, Md⟩ Me 0 be _ He) ?_); rintro e we ⟨rfl, h5, He2⟩))
          try rw [if_pos rfl] at He2
          have h5' := h5.mono (T := [bd, bf, be]) (fun k hk => by rw [List.mem_singleton.1 hk]; simp)
          replace HO := HO.trans h5'
          replace HE := h5.ext HE (fun k hk => by rw [List.mem_singleton.1 hk]; exact g3)
          replace Ht := h5.held Ht (by simp only [List.mem_singleton]; exact fun e => n4 (by rw [e]; simp))
          replace Hd := h5.held Hd (by simp only [List.mem_singleton]; exact n2)
          replace Hl := h5.held Hl (by simp only [List.mem_singleton]; exact fun e => n5 (by rw [e]; simp))
          replace Hb := h5.held Hb (by simp only [List.mem_singleton]; exact fun e => n6 (by rw [e]; simp))
          replace Hf := h5.held Hf (by simp only [List.mem_singleton]; exact n3)
          replace H7 := h5.held H7 (by simp only [List.mem_singleton]; exact n7)
          try replace Q := h5.held Q (by simp only [List.mem_singleton]; have := he.lt; omega)
          have He := He2
          clear h5 h5' He2
          refine onQ_in ⟨HE, Ht, Hd, Hl, Hb, Hf, H7⟩ ?_
          refine z_one 13 rfl (by kernel_rfl) ?_
          simp only [List.getElem_toArray, List.getElem_cons_succ, List.getElem_cons_zero]
          go_wp2
          obtain ⟨bq, hbq, Q, HE', hge⟩ := ex_new HE 23 #[.int .i64 0, .int .i64 0]
          rw [← hbq]
          have hb1q : b1 ≠ bq := by have := H7.lt; omega
          have hwq : w.heap.size ≤ bq := by have := HO.size; omega
          have HO' := HO.trans (Only.of_ext (S := [bd, bf, be]) ((Ext.refl _).alloc (.cells #[.int .i64 0, .int .i64 0] 23)))
          clear hbq
          replace Ht := Ht.alloc (.cells #[.int .i64 0, .int .i64 0] 23)
          replace Hd := Hd.alloc (.cells #[.int .i64 0, .int .i64 0] 23)
          replace Hl := Hl.alloc (.cells #[.int .i64 0, .int .i64 0] 23)
          replace Hb := Hb.alloc (.cells #[.int .i64 0, .int .i64 0] 23)
          replace Hf := Hf.alloc (.cells #[.int .i64 0, .int .i64 0] 23)
          replace H7 := H7.alloc (.cells #[.int .i64 0, .int .i64 0] 23)
          replace He := He.alloc (.cells #[.int .i64 0, .int .i64 0] 23)
          replace HE := HE'
          replace HO := HO'
          clear HE' HO'
          refine onQ_in ⟨HE, Ht, Hd, Hl, Hb, Hf, H7⟩ ?_
          refine z_end 14 rfl (by kernel_rfl) ?_
          simp only [List.getElem_toArray, List.getElem_cons_succ, List.getElem_cons_zero]
          have z0 := Q.frozen 0
          have z1 := Q.frozen 1
          obtain ⟨x0, x1⟩ := Q.c2
          have lx := Q.lt
          have Q2 := held_two Q (.int .i64 Mn) (.int .i64 Md)
          have hbq2 : ∀ b, b < w.heap.size → b ≠ bq := fun b h => by omega
          have Ht' := held_oth (held_oth Ht (hbq2 _ ht.lt) 0 (.int .i64 Mn)) (hbq2 _ ht.lt) 1 (.int .i64 Md)
          have Hd' := held_oth (held_oth Hd (hbq2 _ hd.lt) 0 (.int .i64 Mn)) (hbq2 _ hd.lt) 1 (.int .i64 Md)
          have Hl' := held_oth (held_oth Hl (hbq2 _ hl.lt) 0 (.int .i64 Mn)) (hbq2 _ hl.lt) 1 (.int .i64 Md)
          have Hb' := held_oth (held_oth Hb (hbq2 _ hb.lt) 0 (.int .i64 Mn)) (hbq2 _ hb.lt) 1 (.int .i64 Md)
          have Hf' := held_oth (held_oth Hf (hbq2 _ hf.lt) 0 (.int .i64 Mn)) (hbq2 _ hf.lt) 1 (.int .i64 Md)
          have He' := held_oth (held_oth He (hbq2 _ he.lt) 0 (.int .i64 Mn)) (hbq2 _ he.lt) 1 (.int .i64 Md)
          have H7' := held_oth (held_oth H7 hb1q 0 (.int .i64 Mn)) hb1q 1 (.int .i64 Md)
          have HO2 := HO.far hwq 0 1 (.int .i64 Mn) (.int .i64 Md)
          have HE2 := (HE.setCell (p := ⟨bq, 0, none⟩) hge (.int .i64 Mn)).setCell (p := ⟨bq, 1, none⟩) hge (.int .i64 Md)
          go_wp2
          refine onQ_last ?_
          refine z_done (by kernel_rfl) ?_
          exact cut1y_is bq ⟨HE2, hwq, HO2, Ht', Hd', Hf', H7', He', Q2, hb1q⟩ rfl
        · simp only [List.getElem_toArray, List.getElem_cons_succ, List.getElem_cons_zero]
          go_wp2
          obtain ⟨bq, hbq, Q, HE', hge⟩ := ex_new HE 23 #[.int .i64 0, .int .i64 0]
          rw [← hbq]
          have hb1q : b1 ≠ bq := by have := H7.lt; omega
          have hwq : w.heap.size ≤ bq := by have := HO.size; omega
          have HO' := HO.trans (Only.of_ext (S := [bd, bf, be]) ((Ext.refl _).alloc (.cells #[.int .i64 0, .int .i64 0] 23)))
          clear hbq
          replace Ht := Ht.alloc (.cells #[.int .i64 0, .int .i64 0] 23)
          replace Hd := Hd.alloc (.cells #[.int .i64 0, .int .i64 0] 23)
          replace Hl := Hl.alloc (.cells #[.int .i64 0, .int .i64 0] 23)
          replace Hb := Hb.alloc (.cells #[.int .i64 0, .int .i64 0] 23)
          replace Hf := Hf.alloc (.cells #[.int .i64 0, .int .i64 0] 23)
          replace H7 := H7.alloc (.cells #[.int .i64 0, .int .i64 0] 23)
          replace He := He.alloc (.cells #[.int .i64 0, .int .i64 0] 23)
          replace HE := HE'
          replace HO := HO'
          clear HE' HO'
          refine onQ_in ⟨HE, Ht, Hd, Hl, Hb, Hf, H7⟩ ?_
          refine z_one 12 rfl (by kernel_rfl) ?_
          simp only [List.getElem_toArray, List.getElem_cons_succ, List.getElem_cons_zero]
          go_wp2_with (first | (go_at_call 126; (with_reducible refine Calls.mono (try_any ⟨Mn, Md⟩ Me 0 be _ He) ?_); rintro e we ⟨rfl, h5, He2⟩) | (go_at_fn 126; (with_reducible refine Calls.mono (try_any ⟨Mn, Md⟩ Me 0 be _ He) ?_); rintro e we ⟨rfl, h5, He2⟩))
          try rw [if_pos rfl] at He2
          have h5' := h5.mono (T := [bd, bf, be]) (fun k hk => by rw [List.mem_singleton.1 hk]; simp)
          replace HO := HO.trans h5'
          replace HE := h5.ext HE (fun k hk => by rw [List.mem_singleton.1 hk]; exact g3)
          replace Ht := h5.held Ht (by simp only [List.mem_singleton]; exact fun e => n4 (by rw [e]; simp))
          replace Hd := h5.held Hd (by simp only [List.mem_singleton]; exact n2)
          replace Hl := h5.held Hl (by simp only [List.mem_singleton]; exact fun e => n5 (by rw [e]; simp))
          replace Hb := h5.held Hb (by simp only [List.mem_singleton]; exact fun e => n6 (by rw [e]; simp))
          replace Hf := h5.held Hf (by simp only [List.mem_singleton]; exact n3)
          replace H7 := h5.held H7 (by simp only [List.mem_singleton]; exact n7)
          try replace Q := h5.held Q (by simp only [List.mem_singleton]; have := he.lt; omega)
          have He := He2
          clear h5 h5' He2
          refine onQ_in ⟨HE, Ht, Hd, Hl, Hb, Hf, H7⟩ ?_
          refine z_end 14 rfl (by kernel_rfl) ?_
          simp only [List.getElem_toArray, List.getElem_cons_succ, List.getElem_cons_zero]
          have z0 := Q.frozen 0
          have z1 := Q.frozen 1
          obtain ⟨x0, x1⟩ := Q.c2
          have lx := Q.lt
          have Q2 := held_two Q (.int .i64 Mn) (.int .i64 Md)
          have hbq2 : ∀ b, b < w.heap.size → b ≠ bq := fun b h => by omega
          have Ht' := held_oth (held_oth Ht (hbq2 _ ht.lt) 0 (.int .i64 Mn)) (hbq2 _ ht.lt) 1 (.int .i64 Md)
          have Hd' := held_oth (held_oth Hd (hbq2 _ hd.lt) 0 (.int .i64 Mn)) (hbq2 _ hd.lt) 1 (.int .i64 Md)
          have Hl' := held_oth (held_oth Hl (hbq2 _ hl.lt) 0 (.int .i64 Mn)) (hbq2 _ hl.lt) 1 (.int .i64 Md)
          have Hb' := held_oth (held_oth Hb (hbq2 _ hb.lt) 0 (.int .i64 Mn)) (hbq2 _ hb.lt) 1 (.int .i64 Md)
          have Hf' := held_oth (held_oth Hf (hbq2 _ hf.lt) 0 (.int .i64 Mn)) (hbq2 _ hf.lt) 1 (.int .i64 Md)
          have He' := held_oth (held_oth He (hbq2 _ he.lt) 0 (.int .i64 Mn)) (hbq2 _ he.lt) 1 (.int .i64 Md)
          have H7' := held_oth (held_oth H7 hb1q 0 (.int .i64 Mn)) hb1q 1 (.int .i64 Md)
          have HO2 := HO.far hwq 0 1 (.int .i64 Mn) (.int .i64 Md)
          have HE2 := (HE.setCell (p := ⟨bq, 0, none⟩) hge (.int .i64 Mn)).setCell (p := ⟨bq, 1, none⟩) hge (.int .i64 Md)
          go_wp2
          refine onQ_last ?_
          refine z_done (by kernel_rfl) ?_
          exact cut1y_is bq ⟨HE2, hwq, HO2, Ht', Hd', Hf', H7', He', Q2, hb1q⟩ rfl
      · simp only [List.getElem_toArray, List.getElem_cons_succ, List.getElem_cons_zero]
        go_wp2
        obtain ⟨bq, hbq, Q, HE', hge⟩ := ex_new HE 23 #[.int .i64 0, .int .i64 0]
        rw [← hbq]
        have hb1q : b1 ≠ bq := by have := H7.lt; omega
        have hwq : w.heap.size ≤ bq := by have := HO.size; omega
        have HO' := HO.trans (Only.of_ext (S := [bd, bf, be]) ((Ext.refl _).alloc (.cells #[.int .i64 0, .int .i64 0] 23)))
        clear hbq
        replace Ht := Ht.alloc (.cells #[.int .i64 0, .int .i64 0] 23)
        replace Hd := Hd.alloc (.cells #[.int .i64 0, .int .i64 0] 23)
        replace Hl := Hl.alloc (.cells #[.int .i64 0, .int .i64 0] 23)
        replace Hb := Hb.alloc (.cells #[.int .i64 0, .int .i64 0] 23)
        replace Hf := Hf.alloc (.cells #[.int .i64 0, .int .i64 0] 23)
        replace H7 := H7.alloc (.cells #[.int .i64 0, .int .i64 0] 23)
        replace He := He.alloc (.cells #[.int .i64 0, .int .i64 0] 23)
        replace HE := HE'
        replace HO := HO'
        clear HE' HO'
        refine onQ_in ⟨HE, Ht, Hd, Hl, Hb, Hf, H7⟩ ?_
        refine z_one 9 rfl (by kernel_rfl) ?_
        simp only [List.getElem_toArray, List.getElem_cons_succ, List.getElem_cons_zero]
        go_wp2_with (go_at_call 11; (with_reducible refine Calls.mono (NI _ (Z.ext HE)) ?_); rintro e wc ⟨rfl, h4⟩)
        replace HO := HO.trans (Only.of_ext h4)
        replace HE := HE.trans h4
        replace Ht := Ht.ext h4
        replace Hd := Hd.ext h4
        replace Hl := Hl.ext h4
        replace Hb := Hb.ext h4
        replace Hf := Hf.ext h4
        replace H7 := H7.ext h4
        replace He := He.ext h4
        try replace Q := Q.ext h4
        clear h4
        refine onQ_in ⟨HE, Ht, Hd, Hl, Hb, Hf, H7⟩ ?_
        refine z_stills (g := 2) [10, 11] [_, _] ⟨rfl, rfl, trivial⟩ (by kernel_rfl) (by kernel_rfl) ⟨HE, Ht, Hd, Hl, Hb, Hf, H7⟩ ?_
        simp only [List.getElem_toArray, List.getElem_cons_succ, List.getElem_cons_zero]
        apply Exists.intro
        refine ⟨fun u hu => ?_, ?_⟩
        · have t0 := hu.2.1.c1
          have lt := hu.2.1.lt
          obtain ⟨d0, d1, d2, d3, d4, d5⟩ := hu.2.2.1.c6
          have ld := hu.2.2.1.lt
          obtain ⟨p0, p1, p2, p3, p4, p5, p6, p7⟩ := hu.2.2.2.1.c8
          have lp := hu.2.2.2.1.lt
          obtain ⟨k0, k1⟩ := hu.2.2.2.2.1.c2
          have lk := hu.2.2.2.2.1.lt
          obtain ⟨f0, f1, f2, f3⟩ := hu.2.2.2.2.2.1.c4
          have lf := hu.2.2.2.2.2.1.lt
          obtain ⟨s0, s1, s2, s3⟩ := hu.2.2.2.2.2.2.c4
          have ls := hu.2.2.2.2.2.2.lt
          repeat (first | go_big_quiet_skip | (go_big_quiet_want; go_big_quiet_op; go_big_quiet_on))
          refine wpQuiet_nil ?_
          rfl
        refine z_one 12 rfl (by kernel_rfl) ?_
        simp only [List.getElem_toArray, List.getElem_cons_succ, List.getElem_cons_zero]
        go_wp2_with (first | (go_at_call 126; (with_reducible refine Calls.mono (try_any ⟨Mn, Md⟩ Me 0 be _ He) ?_); rintro e we ⟨rfl, h5, He2⟩) | (go_at_fn 126; (with_reducible refine Calls.mono (try_any ⟨Mn, Md⟩ Me 0 be _ He) ?_); rintro e we ⟨rfl, h5, He2⟩))
        try rw [if_pos rfl] at He2
        have h5' := h5.mono (T := [bd, bf, be]) (fun k hk => by rw [List.mem_singleton.1 hk]; simp)
        replace HO := HO.trans h5'
        replace HE := h5.ext HE (fun k hk => by rw [List.mem_singleton.1 hk]; exact g3)
        replace Ht := h5.held Ht (by simp only [List.mem_singleton]; exact fun e => n4 (by rw [e]; simp))
        replace Hd := h5.held Hd (by simp only [List.mem_singleton]; exact n2)
        replace Hl := h5.held Hl (by simp only [List.mem_singleton]; exact fun e => n5 (by rw [e]; simp))
        replace Hb := h5.held Hb (by simp only [List.mem_singleton]; exact fun e => n6 (by rw [e]; simp))
        replace Hf := h5.held Hf (by simp only [List.mem_singleton]; exact n3)
        replace H7 := h5.held H7 (by simp only [List.mem_singleton]; exact n7)
        try replace Q := h5.held Q (by simp only [List.mem_singleton]; have := he.lt; omega)
        have He := He2
        clear h5 h5' He2
        refine onQ_in ⟨HE, Ht, Hd, Hl, Hb, Hf, H7⟩ ?_
        refine z_end 14 rfl (by kernel_rfl) ?_
        simp only [List.getElem_toArray, List.getElem_cons_succ, List.getElem_cons_zero]
        have z0 := Q.frozen 0
        have z1 := Q.frozen 1
        obtain ⟨x0, x1⟩ := Q.c2
        have lx := Q.lt
        have Q2 := held_two Q (.int .i64 Mn) (.int .i64 Md)
        have hbq2 : ∀ b, b < w.heap.size → b ≠ bq := fun b h => by omega
        have Ht' := held_oth (held_oth Ht (hbq2 _ ht.lt) 0 (.int .i64 Mn)) (hbq2 _ ht.lt) 1 (.int .i64 Md)
        have Hd' := held_oth (held_oth Hd (hbq2 _ hd.lt) 0 (.int .i64 Mn)) (hbq2 _ hd.lt) 1 (.int .i64 Md)
        have Hl' := held_oth (held_oth Hl (hbq2 _ hl.lt) 0 (.int .i64 Mn)) (hbq2 _ hl.lt) 1 (.int .i64 Md)
        have Hb' := held_oth (held_oth Hb (hbq2 _ hb.lt) 0 (.int .i64 Mn)) (hbq2 _ hb.lt) 1 (.int .i64 Md)
        have Hf' := held_oth (held_oth Hf (hbq2 _ hf.lt) 0 (.int .i64 Mn)) (hbq2 _ hf.lt) 1 (.int .i64 Md)
        have He' := held_oth (held_oth He (hbq2 _ he.lt) 0 (.int .i64 Mn)) (hbq2 _ he.lt) 1 (.int .i64 Md)
        have H7' := held_oth (held_oth H7 hb1q 0 (.int .i64 Mn)) hb1q 1 (.int .i64 Md)
        have HO2 := HO.far hwq 0 1 (.int .i64 Mn) (.int .i64 Md)
        have HE2 := (HE.setCell (p := ⟨bq, 0, none⟩) hge (.int .i64 Mn)).setCell (p := ⟨bq, 1, none⟩) hge (.int .i64 Md)
        go_wp2
        refine onQ_last ?_
        refine z_done (by kernel_rfl) ?_
        exact cut1y_is bq ⟨HE2, hwq, HO2, Ht', Hd', Hf', H7', He', Q2, hb1q⟩ rfl
    · simp only [List.getElem_toArray, List.getElem_cons_succ, List.getElem_cons_zero]
      go_wp2
      obtain ⟨bq, hbq, Q, HE', hge⟩ := ex_new HE 23 #[.int .i64 0, .int .i64 0]
      rw [← hbq]
      have hb1q : b1 ≠ bq := by have := H7.lt; omega
      have hwq : w.heap.size ≤ bq := by have := HO.size; omega
      have HO' := HO.trans (Only.of_ext (S := [bd, bf, be]) ((Ext.refl _).alloc (.cells #[.int .i64 0, .int .i64 0] 23)))
      clear hbq
      replace Ht := Ht.alloc (.cells #[.int .i64 0, .int .i64 0] 23)
      replace Hd := Hd.alloc (.cells #[.int .i64 0, .int .i64 0] 23)
      replace Hl := Hl.alloc (.cells #[.int .i64 0, .int .i64 0] 23)
      replace Hb := Hb.alloc (.cells #[.int .i64 0, .int .i64 0] 23)
      replace Hf := Hf.alloc (.cells #[.int .i64 0, .int .i64 0] 23)
      replace H7 := H7.alloc (.cells #[.int .i64 0, .int .i64 0] 23)
      replace He := He.alloc (.cells #[.int .i64 0, .int .i64 0] 23)
      replace HE := HE'
      replace HO := HO'
      clear HE' HO'
      refine onQ_in ⟨HE, Ht, Hd, Hl, Hb, Hf, H7⟩ ?_
      refine z_one 8 rfl (by kernel_rfl) ?_
      simp only [List.getElem_toArray, List.getElem_cons_succ, List.getElem_cons_zero]
      go_wp2_with (go_at_call 66; (with_reducible refine Calls.mono (bet_any A A' ca cb c fr tu _ (C.ext HE)) ?_); rintro e wa ⟨rfl, h4⟩)
      replace HO := HO.trans (Only.of_ext h4)
      replace HE := HE.trans h4
      replace Ht := Ht.ext h4
      replace Hd := Hd.ext h4
      replace Hl := Hl.ext h4
      replace Hb := Hb.ext h4
      replace Hf := Hf.ext h4
      replace H7 := H7.ext h4
      replace He := He.ext h4
      try replace Q := Q.ext h4
      clear h4
      refine onQ_in ⟨HE, Ht, Hd, Hl, Hb, Hf, H7⟩ ?_
      refine z_one 9 rfl (by kernel_rfl) ?_
      simp only [List.getElem_toArray, List.getElem_cons_succ, List.getElem_cons_zero]
      go_wp2_with (go_at_call 11; (with_reducible refine Calls.mono (NI _ (Z.ext HE)) ?_); rintro e wc ⟨rfl, h4⟩)
      replace HO := HO.trans (Only.of_ext h4)
      replace HE := HE.trans h4
      replace Ht := Ht.ext h4
      replace Hd := Hd.ext h4
      replace Hl := Hl.ext h4
      replace Hb := Hb.ext h4
      replace Hf := Hf.ext h4
      replace H7 := H7.ext h4
      replace He := He.ext h4
      try replace Q := Q.ext h4
      clear h4
      refine onQ_in ⟨HE, Ht, Hd, Hl, Hb, Hf, H7⟩ ?_
      refine z_stills (g := 2) [10, 11] [_, _] ⟨rfl, rfl, trivial⟩ (by kernel_rfl) (by kernel_rfl) ⟨HE, Ht, Hd, Hl, Hb, Hf, H7⟩ ?_
      simp only [List.getElem_toArray, List.getElem_cons_succ, List.getElem_cons_zero]
      apply Exists.intro
      refine ⟨fun u hu => ?_, ?_⟩
      · have t0 := hu.2.1.c1
        have lt := hu.2.1.lt
        obtain ⟨d0, d1, d2, d3, d4, d5⟩ := hu.2.2.1.c6
        have ld := hu.2.2.1.lt
        obtain ⟨p0, p1, p2, p3, p4, p5, p6, p7⟩ := hu.2.2.2.1.c8
        have lp := hu.2.2.2.1.lt
        obtain ⟨k0, k1⟩ := hu.2.2.2.2.1.c2
        have lk := hu.2.2.2.2.1.lt
        obtain ⟨f0, f1, f2, f3⟩ := hu.2.2.2.2.2.1.c4
        have lf := hu.2.2.2.2.2.1.lt
        obtain ⟨s0, s1, s2, s3⟩ := hu.2.2.2.2.2.2.c4
        have ls := hu.2.2.2.2.2.2.lt
        repeat (first | go_big_quiet_skip | (go_big_quiet_want; go_big_quiet_op; go_big_quiet_on))
        refine wpQuiet_nil ?_
        rfl
      refine z_one 12 rfl (by kernel_rfl) ?_
      simp only [List.getElem_toArray, List.getElem_cons_succ, List.getElem_cons_zero]
      go_wp2_with (first | (go_at_call 126; (with_reducible refine Calls.mono (try_any ⟨Mn, Md⟩ Me 0 be _ He) ?_); rintro e we ⟨rfl, h5, He2⟩) | (go_at_fn 126; (with_reducible refine Calls.mono (try_any ⟨Mn, Md⟩ Me 0 be _ He) ?_); rintro e we ⟨rfl, h5, He2⟩))
      try rw [if_pos rfl] at He2
      have h5' := h5.mono (T := [bd, bf, be]) (fun k hk => by rw [List.mem_singleton.1 hk]; simp)
      replace HO := HO.trans h5'
      replace HE := h5.ext HE (fun k hk => by rw [List.mem_singleton.1 hk]; exact g3)
      replace Ht := h5.held Ht (by simp only [List.mem_singleton]; exact fun e => n4 (by rw [e]; simp))
      replace Hd := h5.held Hd (by simp only [List.mem_singleton]; exact n2)
      replace Hl := h5.held Hl (by simp only [List.mem_singleton]; exact fun e => n5 (by rw [e]; simp))
      replace Hb := h5.held Hb (by simp only [List.mem_singleton]; exact fun e => n6 (by rw [e]; simp))
      replace Hf := h5.held Hf (by simp only [List.mem_singleton]; exact n3)
      replace H7 := h5.held H7 (by simp only [List.mem_singleton]; exact n7)
      try replace Q := h5.held Q (by simp only [List.mem_singleton]; have := he.lt; omega)
      have He := He2
      clear h5 h5' He2
      refine onQ_in ⟨HE, Ht, Hd, Hl, Hb, Hf, H7⟩ ?_
      refine z_end 14 rfl (by kernel_rfl) ?_
      simp only [List.getElem_toArray, List.getElem_cons_succ, List.getElem_cons_zero]
      have z0 := Q.frozen 0
      have z1 := Q.frozen 1
      obtain ⟨x0, x1⟩ := Q.c2
      have lx := Q.lt
      have Q2 := held_two Q (.int .i64 Mn) (.int .i64 Md)
      have hbq2 : ∀ b, b < w.heap.size → b ≠ bq := fun b h => by omega
      have Ht' := held_oth (held_oth Ht (hbq2 _ ht.lt) 0 (.int .i64 Mn)) (hbq2 _ ht.lt) 1 (.int .i64 Md)
      have Hd' := held_oth (held_oth Hd (hbq2 _ hd.lt) 0 (.int .i64 Mn)) (hbq2 _ hd.lt) 1 (.int .i64 Md)
      have Hl' := held_oth (held_oth Hl (hbq2 _ hl.lt) 0 (.int .i64 Mn)) (hbq2 _ hl.lt) 1 (.int .i64 Md)
      have Hb' := held_oth (held_oth Hb (hbq2 _ hb.lt) 0 (.int .i64 Mn)) (hbq2 _ hb.lt) 1 (.int .i64 Md)
      have Hf' := held_oth (held_oth Hf (hbq2 _ hf.lt) 0 (.int .i64 Mn)) (hbq2 _ hf.lt) 1 (.int .i64 Md)
      have He' := held_oth (held_oth He (hbq2 _ he.lt) 0 (.int .i64 Mn)) (hbq2 _ he.lt) 1 (.int .i64 Md)
      have H7' := held_oth (held_oth H7 hb1q 0 (.int .i64 Mn)) hb1q 1 (.int .i64 Md)
      have HO2 := HO.far hwq 0 1 (.int .i64 Mn) (.int .i64 Md)
      have HE2 := (HE.setCell (p := ⟨bq, 0, none⟩) hge (.int .i64 Mn)).setCell (p := ⟨bq, 1, none⟩) hge (.int .i64 Md)
      go_wp2
      refine onQ_last ?_
      refine z_done (by kernel_rfl) ?_
      exact cut1y_is bq ⟨HE2, hwq, HO2, Ht', Hd', Hf', H7', He', Q2, hb1q⟩ rfl
  rintro b8 w3 ⟨HE3, hw8, HO3, Ht3, Hd3, Hf3, H73, He3, Q, n9⟩
  clear HE HO Ht Hd Hf He H7 Hl Hb NI
  have HE := HE3
  have HO := HO3
  have Ht := Ht3
  have Hd := Hd3
  have Hf := Hf3
  have H7 := H73
  have He := He3
  clear HE3 HO3 Ht3 Hd3 Hf3 H73 He3
  have e0 := He.c1
  have le := He.lt
  by_cases h0 : Me = 0
  · subst h0
    have NA := fun w z => addF_any X.i ⟨Mn, Md⟩ hX.i hMi w z
    have hSi := addR_in X.i ⟨Mn, Md⟩
    have hV := HV.out
    rw [if_neg (by simp)] at hV
    generalize addR X.i ⟨Mn, Md⟩ = S at *
    obtain ⟨⟨Sn, Sd⟩, Se⟩ := S
    have hV2 : V.2 = Se ∧ (Se = 0 → V.1 = ⟨X.p, ⟨Sn, Sd⟩, X.s⟩) := by
      rw [hV]
      by_cases hs : Se = 0
      · rw [if_neg (by simpa using hs)]; exact ⟨hs.symm, fun _ => rfl⟩
      · rw [if_pos hs]; exact ⟨rfl, fun h => absurd h hs⟩
    replace hV2 := Lib.hid hV2
    clear HV hV
    go_upto_region 3 with (fail)
    clear e0 le
    refine wp_region_z 10 [9] (fun x => Ext v0 x ∧ Held x bt 166 #[.func (.func 126) #[] #[.pointer (some ⟨be, 0, none⟩)]] ∧ Held x bd 60 #[.int .i64 X.p.n, .int .i64 X.p.d, .int .i64 X.i.n, .int .i64 X.i.d, .int .i64 X.s.n, .int .i64 X.s.d] ∧ Held x b8 23 #[.int .i64 Mn, .int .i64 Md] ∧ True) mixed rfl ?_
    intro vz hvz
    replace HO := HO.trans (Only.of_ext hvz)
    replace HE := HE.trans hvz
    replace Ht := Ht.ext hvz
    replace Hd := Hd.ext hvz
    replace Hf := Hf.ext hvz
    replace H7 := H7.ext hvz
    replace He := He.ext hvz
    replace Q := Q.ext hvz
    clear hvz
    refine z_stills (g := 6) [0, 1, 2, 3] [_, _, _, _] ⟨rfl, rfl, rfl, rfl, trivial⟩ (by kernel_rfl) (by kernel_rfl) ⟨HE, Ht, Hd, Q, trivial⟩ ?_
    simp only [List.getElem_toArray, List.getElem_cons_succ, List.getElem_cons_zero]
    apply Exists.intro
    refine ⟨fun u hu => ?_, ?_⟩
    · have t0 := hu.2.1.c1
      have lt := hu.2.1.lt
      obtain ⟨d0, d1, d2, d3, d4, d5⟩ := hu.2.2.1.c6
      have ld := hu.2.2.1.lt
      obtain ⟨r0, r1⟩ := hu.2.2.2.1.c2
      have lr := hu.2.2.2.1.lt
      repeat (first | go_big_quiet_skip | (go_big_quiet_want; go_big_quiet_op; go_big_quiet_on))
      refine wpQuiet_nil ?_
      rfl
    refine z_one 4 rfl (by kernel_rfl) ?_
    simp only [List.getElem_toArray, List.getElem_cons_succ, List.getElem_cons_zero]
    go_wp2_with (go_at_call 84; (with_reducible refine Calls.mono (NA _ (Z.ext HE)) ?_); rintro e wc ⟨rfl, h4⟩)
    replace HO := HO.trans (Only.of_ext h4)
    replace HE := HE.trans h4
    replace Ht := Ht.ext h4
    replace Hd := Hd.ext h4
    replace Hf := Hf.ext h4
    replace H7 := H7.ext h4
    replace He := He.ext h4
    replace Q := Q.ext h4
    clear h4
    refine onQ_in ⟨HE, Ht, Hd, Q, trivial⟩ ?_
    refine z_stills (g := 3) [5, 6] [_, _] ⟨rfl, rfl, trivial⟩ (by kernel_rfl) (by kernel_rfl) ⟨HE, Ht, Hd, Q, trivial⟩ ?_
    simp only [List.getElem_toArray, List.getElem_cons_succ, List.getElem_cons_zero]
    apply Exists.intro
    refine ⟨fun u hu => ?_, ?_⟩
    · have t0 := hu.2.1.c1
      have lt := hu.2.1.lt
      obtain ⟨d0, d1, d2, d3, d4, d5⟩ := hu.2.2.1.c6
      have ld := hu.2.2.1.lt
      obtain ⟨r0, r1⟩ := hu.2.2.2.1.c2
      have lr := hu.2.2.2.1.lt
      repeat (first | go_big_quiet_skip | (go_big_quiet_want; go_big_quiet_op; go_big_quiet_on))
      refine wpQuiet_nil ?_
      rfl
    refine z_one 7 rfl (by kernel_rfl) ?_
    simp only [List.getElem_toArray, List.getElem_cons_succ, List.getElem_cons_zero]
    go_wp2_with (first | (go_at_call 126; (with_reducible refine Calls.mono (try_any ⟨Sn, Sd⟩ Se 0 be _ He) ?_); rintro e we ⟨rfl, h5, He2⟩) | (go_at_fn 126; (with_reducible refine Calls.mono (try_any ⟨Sn, Sd⟩ Se 0 be _ He) ?_); rintro e we ⟨rfl, h5, He2⟩))
    try rw [if_pos rfl] at He2
    have h5' := h5.mono (T := [bd, bf, be]) (fun k hk => by rw [List.mem_singleton.1 hk]; simp)
    replace HO := HO.trans h5'
    replace HE := h5.ext HE (fun k hk => by rw [List.mem_singleton.1 hk]; exact g3)
    replace Ht := h5.held Ht (by simp only [List.mem_singleton]; exact fun e => n4 (by rw [e]; simp))
    replace Hd := h5.held Hd (by simp only [List.mem_singleton]; exact n2)
    replace Hf := h5.held Hf (by simp only [List.mem_singleton]; exact n3)
    replace H7 := h5.held H7 (by simp only [List.mem_singleton]; exact n7)
    replace Q := h5.held Q (by simp only [List.mem_singleton]; have := he.lt; omega)
    have He := He2
    clear h5 h5' He2
    refine onQ_in ⟨HE, Ht, Hd, Q, trivial⟩ ?_
    refine z_stills (g := 1) [8] [_] ⟨rfl, trivial⟩ (by kernel_rfl) (by kernel_rfl) ⟨HE, Ht, Hd, Q, trivial⟩ ?_
    simp only [List.getElem_toArray, List.getElem_cons_succ, List.getElem_cons_zero]
    apply Exists.intro
    refine ⟨fun u hu => ?_, ?_⟩
    · have t0 := hu.2.1.c1
      have lt := hu.2.1.lt
      obtain ⟨d0, d1, d2, d3, d4, d5⟩ := hu.2.2.1.c6
      have ld := hu.2.2.1.lt
      obtain ⟨r0, r1⟩ := hu.2.2.2.1.c2
      have lr := hu.2.2.2.1.lt
      repeat (first | go_big_quiet_skip | (go_big_quiet_want; go_big_quiet_op; go_big_quiet_on))
      refine wpQuiet_nil ?_
      rfl
    refine z_end 9 rfl (by kernel_rfl) ?_
    simp only [List.getElem_toArray, List.getElem_cons_succ, List.getElem_cons_zero]
    have z2 := Hd.frozen 2
    have z3 := Hd.frozen 3
    obtain ⟨x0, x1, x2, x3, x4, x5⟩ := Hd.c6
    have lx := Hd.lt
    have Hd2 := held6_2 Hd (.int .i64 Sn) (.int .i64 Sd)
    have Hf := held_oth (held_oth Hf (Ne.symm n1) 2 (.int .i64 Sn)) (Ne.symm n1) 3 (.int .i64 Sd)
    have He := held_oth (held_oth He (Ne.symm n2) 2 (.int .i64 Sn)) (Ne.symm n2) 3 (.int .i64 Sd)
    have H7 := held_oth (held_oth H7 (n8) 2 (.int .i64 Sn)) (n8) 3 (.int .i64 Sd)
    have HO := (HO.trans (Only.set _ (by simp : bd ∈ [bd, bf, be]) 2 (.int .i64 Sn))).trans (Only.set _ (by simp : bd ∈ [bd, bf, be]) 3 (.int .i64 Sd))
    go_wp2
    refine onQ_last ?_
    refine z_done (by kernel_rfl) ?_
    have Hd := Hd2
    generalize World.setCell _ _ _ = wq at *
    clear z2 z3 x0 x1 x2 x3 x4 x5 lx
    have YY : ∃ Y : Db, Y.In ∧ Held (World.setCell (World.setCell (World.setCell (World.setCell wq ⟨bf, 0, none⟩ (.int .i64 tu.y)) ⟨bf, 1, none⟩ (.int .i64 tu.m)) ⟨bf, 2, none⟩ (.bool tu.s)) ⟨bf, 3, none⟩ (.int .i64 tu.d)) bd 60 #[.int .i64 Y.p.n, .int .i64 Y.p.d, .int .i64 Y.i.n, .int .i64 Y.i.d, .int .i64 Y.s.n, .int .i64 Y.s.d] ∧ (V.2 = 0 → Y = V.1) :=
      ⟨⟨X.p, ⟨Sn, Sd⟩, X.s⟩, ⟨hX.p, hSi, hX.s⟩, held_oth (held_oth (held_oth (held_oth Hd n1 0 (.int .i64 tu.y)) n1 1 (.int .i64 tu.m)) n1 2 (.bool tu.s)) n1 3 (.int .i64 tu.d), fun h => (hV2.out.2 (hV2.out.1.symm.trans h)).symm⟩
    have hVe := Lib.hid hV2.out.1
    obtain ⟨s0, s1, s2, s3⟩ := H7.c4
    have ls := H7.lt
    obtain ⟨f0, f1, f2, f3⟩ := Hf.c4
    have lf := Hf.lt
    have z0 := Hf.frozen 0
    have z1 := Hf.frozen 1
    have z2 := Hf.frozen 2
    have z3 := Hf.frozen 3
    have Hf2 := held4 Hf (.int .i64 tu.y) (.int .i64 tu.m) (.bool tu.s) (.int .i64 tu.d)
    have He2 := held_oth (held_oth (held_oth (held_oth He (Ne.symm n3) 0 (.int .i64 tu.y)) (Ne.symm n3) 1 (.int .i64 tu.m)) (Ne.symm n3) 2 (.bool tu.s)) (Ne.symm n3) 3 (.int .i64 tu.d)
    have Hd2 := held_oth (held_oth (held_oth (held_oth Hd n1 0 (.int .i64 tu.y)) n1 1 (.int .i64 tu.m)) n1 2 (.bool tu.s)) n1 3 (.int .i64 tu.d)
    have OF := (((HO.trans (Only.set _ (by simp : bf ∈ [bd, bf, be]) 0 (.int .i64 tu.y))).trans (Only.set _ (by simp : bf ∈ [bd, bf, be]) 1 (.int .i64 tu.m))).trans (Only.set _ (by simp : bf ∈ [bd, bf, be]) 2 (.bool tu.s))).trans (Only.set _ (by simp : bf ∈ [bd, bf, be]) 3 (.int .i64 tu.d))
    go_wp2
    (try simp only [Exit.inBlock, Exit.then])
    refine bodyPost_end (results_none rfl _ _ _) rfl ⟨rfl, OF, Hf2, by rw [hVe.out]; exact He2, YY⟩
  · have g0 : (Me == 0) = false := beq_eq_false_iff_ne.2 h0
    have hV := HV.out
    rw [if_pos h0] at hV
    have YY : ∃ Y : Db, Y.In ∧ Held (World.setCell (World.setCell (World.setCell (World.setCell w3 ⟨bf, 0, none⟩ (.int .i64 tu.y)) ⟨bf, 1, none⟩ (.int .i64 tu.m)) ⟨bf, 2, none⟩ (.bool tu.s)) ⟨bf, 3, none⟩ (.int .i64 tu.d)) bd 60 #[.int .i64 Y.p.n, .int .i64 Y.p.d, .int .i64 Y.i.n, .int .i64 Y.i.d, .int .i64 Y.s.n, .int .i64 Y.s.d] ∧ (V.2 = 0 → Y = V.1) :=
      ⟨X, hX, held_oth (held_oth (held_oth (held_oth Hd n1 0 (.int .i64 tu.y)) n1 1 (.int .i64 tu.m)) n1 2 (.bool tu.s)) n1 3 (.int .i64 tu.d), fun h => by rw [hV]⟩
    have hVe : V.2 = Me := by rw [hV]
    clear HV hV h0
    replace hVe := Lib.hid hVe
    obtain ⟨s0, s1, s2, s3⟩ := H7.c4
    have ls := H7.lt
    obtain ⟨f0, f1, f2, f3⟩ := Hf.c4
    have lf := Hf.lt
    have z0 := Hf.frozen 0
    have z1 := Hf.frozen 1
    have z2 := Hf.frozen 2
    have z3 := Hf.frozen 3
    have Hf2 := held4 Hf (.int .i64 tu.y) (.int .i64 tu.m) (.bool tu.s) (.int .i64 tu.d)
    have He2 := held_oth (held_oth (held_oth (held_oth He (Ne.symm n3) 0 (.int .i64 tu.y)) (Ne.symm n3) 1 (.int .i64 tu.m)) (Ne.symm n3) 2 (.bool tu.s)) (Ne.symm n3) 3 (.int .i64 tu.d)
    have Hd2 := held_oth (held_oth (held_oth (held_oth Hd n1 0 (.int .i64 tu.y)) n1 1 (.int .i64 tu.m)) n1 2 (.bool tu.s)) n1 3 (.int .i64 tu.d)
    have OF := (((HO.trans (Only.set _ (by simp : bf ∈ [bd, bf, be]) 0 (.int .i64 tu.y))).trans (Only.set _ (by simp : bf ∈ [bd, bf, be]) 1 (.int .i64 tu.m))).trans (Only.set _ (by simp : bf ∈ [bd, bf, be]) 2 (.bool tu.s))).trans (Only.set _ (by simp : bf ∈ [bd, bf, be]) 3 (.int .i64 tu.d))
    go_wp2
    (try simp only [Exit.inBlock, Exit.then])
    refine bodyPost_end (results_none rfl _ _ _) rfl ⟨rfl, OF, Hf2, by rw [hVe.out]; exact He2, YY⟩

end Go.Proofs.YthmjpbafbohelaaGreatDoor

namespace Go.Proofs.YthmjpbafbohelaaGreatDoor

def nrm (v : Db × Int) : Db × Int := if v.2 ≠ 0 then (db0, v.2) else v
def runK (c : Cal) (r : Rt) (f : Nat → Pay) (on : Dt) (i m : Nat) (x : Db) (a : Dt) : Db × Int := nrm (owedRun c r f on i m x a)
def rest2 (c : Cal) (r : Rt) (f : Nat → Pay) (on : Dt) (i m : Nat) (x : Db) (lf : Rt) : Db × Int := if (addR x.s lf).2 ≠ 0 then (db0, (addR x.s lf).2) else runK c r f on (i + 1) m ⟨x.p, x.i, (addR x.s lf).1⟩ (f i).on
def rest1 (c : Cal) (r : Rt) (f : Nat → Pay) (on : Dt) (i m : Nat) (x : Db) (lf : Rt) : Db × Int := if (payV x.p lf).2 ≠ 0 then (db0, (payV x.p lf).2) else rest2 c r f on i m ⟨(payV x.p lf).1.1, x.i, x.s⟩ (payV x.p lf).1.2
def rest0 (c : Cal) (r : Rt) (f : Nat → Pay) (on : Dt) (i m : Nat) (x : Db) (lf : Rt) : Db × Int := if (payV x.i lf).2 ≠ 0 then (db0, (payV x.i lf).2) else rest1 c r f on i m ⟨x.p, (payV x.i lf).1.1, x.s⟩ (payV x.i lf).1.2
theorem nrm_err {v : Db × Int} (h : v.2 ≠ 0) : nrm v = (db0, v.2) := by unfold nrm; rw [if_pos h]
theorem nrm_ok {v : Db × Int} (h : v.2 = 0) : nrm v = v := by unfold nrm; rw [if_neg (by simpa using h)]
theorem runK_stop {c : Cal} {r : Rt} {f : Nat → Pay} {on : Dt} {i m : Nat} {x : Db} {a : Dt} (h : c.numV on < c.numV (f i).on) : runK c r f on i (m + 1) x a = nrm (accV c r x a on) := by
  unfold runK; rw [owedRun, if_pos h]
theorem runK_err {c : Cal} {r : Rt} {f : Nat → Pay} {on : Dt} {i m : Nat} {x : Db} {a : Dt} (h : ¬ c.numV on < c.numV (f i).on) (h2 : (accV c r x a (f i).on).2 ≠ 0) : runK c r f on i (m + 1) x a = (db0, (accV c r x a (f i).on).2) := by
  unfold runK; rw [owedRun, if_neg h, if_pos h2]; exact nrm_err h2
theorem runK_go {c : Cal} {r : Rt} {f : Nat → Pay} {on : Dt} {i m : Nat} {x : Db} {a : Dt} (h : ¬ c.numV on < c.numV (f i).on) (h2 : (accV c r x a (f i).on).2 = 0) : runK c r f on i (m + 1) x a = rest0 c r f on i m (accV c r x a (f i).on).1 (f i).n := by
  unfold runK
  rw [owedRun, if_neg h, if_neg (by simpa using h2)]
  generalize (accV c r x a (f i).on).1 = X
  generalize (f i).n = n
  unfold paidV rest0 rest1 rest2 runK
  by_cases e1 : (payV X.i n).2 ≠ 0
  · rw [if_pos e1, if_pos e1, if_pos e1]; exact nrm_err e1
  · rw [if_neg e1, if_neg e1]
    simp only
    by_cases e2 : (payV X.p (payV X.i n).1.2).2 ≠ 0
    · rw [if_pos e2, if_pos e2, if_pos e2]; exact nrm_err e2
    · rw [if_neg e2, if_neg e2]
      by_cases e3 : (addR X.s (payV X.p (payV X.i n).1.2).1.2).2 ≠ 0
      · rw [if_pos e3, if_pos e3, if_pos e3]; exact nrm_err e3
      · rw [if_neg e3, if_neg e3]
        simp
theorem owedV_run {c : Cal} {l : Ln} {f : Nat → Pay} {n : Nat} {on : Dt} (h1 : c.loanE l f n = 0) (h2 : c.numV on ≠ 0) (h3 : ¬ c.numV on < c.numV l.f) : c.owedV l f n on = runK c l.r f on 0 n (start l) l.f := by
  unfold Cal.owedV runK nrm
  rw [if_neg (by rw [h1]; decide), if_neg h2, if_neg h3]
  by_cases e : (owedRun c l.r f on 0 n (start l) l.f).2 ≠ 0
  · rw [if_pos e, if_pos e]
  · rw [if_neg e, if_neg e]
    have e' := Decidable.not_not.1 e
    exact Prod.ext rfl e'.symm
end Go.Proofs.YthmjpbafbohelaaGreatDoor

