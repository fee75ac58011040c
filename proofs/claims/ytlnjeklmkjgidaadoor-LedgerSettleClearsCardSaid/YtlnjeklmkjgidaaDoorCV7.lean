/- total of the law; the walk of LedgerPaymentsKept. -/
import Derived.Test.YtlnjeklmkjgidaaDoorD12
namespace Go.Proofs.YtlnjeklmkjgidaaDoor
open Go Go.RowKit Go.Shelf
attribute [local go_sem] gv_yes
attribute [local go_sem high] neq_ratio neq_debt neq_herd

section
variable {W : World} {b : Nat} {t : TypeId} {v0 v1 v2 v3 v4 v5 v6 v7 v8 v9 v10 v11 v12 : Value}
theorem held_d10 (h : Held W b t #[v0, v1, v2, v3, v4, v5, v6, v7, v8, v9]) : W.cell? ⟨b, 0, none⟩ = some v0 ∧ W.cell? ⟨b, 1, none⟩ = some v1 ∧ W.cell? ⟨b, 2, none⟩ = some v2 ∧ W.cell? ⟨b, 3, none⟩ = some v3 ∧ W.cell? ⟨b, 4, none⟩ = some v4 ∧ W.cell? ⟨b, 5, none⟩ = some v5 ∧ W.cell? ⟨b, 6, none⟩ = some v6 ∧ W.cell? ⟨b, 7, none⟩ = some v7 ∧ W.cell? ⟨b, 8, none⟩ = some v8 ∧ W.cell? ⟨b, 9, none⟩ = some v9 := ⟨h.cell 0, h.cell 1, h.cell 2, h.cell 3, h.cell 4, h.cell 5, h.cell 6, h.cell 7, h.cell 8, h.cell 9⟩
theorem held_d13 (h : Held W b t #[v0, v1, v2, v3, v4, v5, v6, v7, v8, v9, v10, v11, v12]) : W.cell? ⟨b, 0, none⟩ = some v0 ∧ W.cell? ⟨b, 1, none⟩ = some v1 ∧ W.cell? ⟨b, 2, none⟩ = some v2 ∧ W.cell? ⟨b, 3, none⟩ = some v3 ∧ W.cell? ⟨b, 4, none⟩ = some v4 ∧ W.cell? ⟨b, 5, none⟩ = some v5 ∧ W.cell? ⟨b, 6, none⟩ = some v6 ∧ W.cell? ⟨b, 7, none⟩ = some v7 ∧ W.cell? ⟨b, 8, none⟩ = some v8 ∧ W.cell? ⟨b, 9, none⟩ = some v9 ∧ W.cell? ⟨b, 10, none⟩ = some v10 ∧ W.cell? ⟨b, 11, none⟩ = some v11 ∧ W.cell? ⟨b, 12, none⟩ = some v12 := ⟨h.cell 0, h.cell 1, h.cell 2, h.cell 3, h.cell 4, h.cell 5, h.cell 6, h.cell 7, h.cell 8, h.cell 9, h.cell 10, h.cell 11, h.cell 12⟩
end
set_option maxRecDepth 100000 in
set_option maxHeartbeats 4000000 in
theorem total8_any (x : Db) (hx : x.In) (w : World) (hZ : Zro w) :
    Calls Tryd.prog 31 #[.agg #[.int .i64 x.p.n, .int .i64 x.p.d, .int .i64 x.i.n, .int .i64 x.i.d, .int .i64 x.s.n, .int .i64 x.s.d]] w fun e w' => e = .returned (.tuple #[.agg #[.int .i64 (totD x).1.n, .int .i64 (totD x).1.d], .bool (totD x).2]) ∧ Ext w w' := by
  have NA := fun w hz => addF_any x.p x.i hx.p hx.i w hz
  have NS := fun w hz => subF_any (addR x.p x.i).1 x.s (addR_in _ _) hx.s w hz
  obtain ⟨R, hR⟩ : ∃ R, R = totD x := ⟨_, rfl⟩
  rw [← hR]
  have HR : Hid (R = if (addR x.p x.i).2 ≠ 0 then (rat0, false) else ((subR (addR x.p x.i).1 x.s).1, decide ((subR (addR x.p x.i).1 x.s).2 = 0))) := hR
  clear hR
  generalize subR (addR x.p x.i).1 x.s = S at *
  generalize addR x.p x.i = A at *
  obtain ⟨⟨an, ad⟩, ae⟩ := A
  obtain ⟨⟨sn, sd⟩, se⟩ := S
  simp only at NA NS HR
  go_enter Tryd.func31, Tryd.ntmps31
  go_upto_region 1 with (fail)
  obtain ⟨v, hv⟩ : ∃ v, v = ((w.alloc (.cells #[.int .i64 x.p.n, .int .i64 x.p.d, .int .i64 x.i.n, .int .i64 x.i.d, .int .i64 x.s.n, .int .i64 x.s.d] 83)).alloc (.cells #[.int .i64 0, .int .i64 0] 52)) := ⟨_, rfl⟩
  rw [← hv]
  have E : Ext w v := by rw [hv]; exact ((Ext.refl _).alloc _).alloc _
  have B1 : Held v w.heap.size 83 #[.int .i64 x.p.n, .int .i64 x.p.d, .int .i64 x.i.n, .int .i64 x.i.d, .int .i64 x.s.n, .int .i64 x.s.d] := by rw [hv]; exact (Held.new _ _ _).alloc _
  have B2 : Held v (w.heap.size + 1) 52 #[.int .i64 0, .int .i64 0] := by rw [hv]; exact Held.at _ _ _ _ (by simp)
  clear hv
  obtain ⟨b2, hb2⟩ : ∃ b, b = w.heap.size + 1 := ⟨_, rfl⟩
  rw [← hb2] at B2 ⊢
  obtain ⟨b1, hb1⟩ : ∃ b, b = w.heap.size := ⟨_, rfl⟩
  rw [← hb1] at B1 ⊢
  have hbr : w.heap.size ≤ b2 := by omega
  have hbr1 : w.heap.size ≤ b1 := by omega
  have hn21 : b2 ≠ b1 := by omega
  clear hb1 hb2
  have Z := hZ.ext E
  obtain ⟨k0, k1, k2, k3, k4, k5⟩ := B1.c6
  have kl := B1.lt
  obtain ⟨p0, p1⟩ := B2.c2
  have pl := B2.lt
  go_upto_region 2 with (go_at_call 23; (with_reducible refine Calls.mono (NA _ Z) ?_); rintro e w1 ⟨rfl, hx⟩; replace E := E.trans hx; replace Z := Z.ext hx; replace B1 := B1.ext hx; replace B2 := B2.ext hx; clear hx; clear k0 k1 k2 k3 k4 k5 kl p0 p1 pl; obtain ⟨k0, k1, k2, k3, k4, k5⟩ := B1.c6; have kl := B1.lt; obtain ⟨p0, p1⟩ := B2.c2; have pl := B2.lt)
  obtain ⟨vb1, hv⟩ : ∃ x, x = (w1.alloc (.cells #[.int .i64 an, .int .i64 ad] 52)) := ⟨_, rfl⟩
  rw [← hv]
  have hx : Ext w1 vb1 := by rw [hv]; exact (Ext.refl _).alloc _
  have B3 : Held vb1 w1.heap.size 52 #[.int .i64 an, .int .i64 ad] := by rw [hv]; exact Held.new _ _ _
  clear hv
  generalize w1.heap.size = bb1 at *
  clear k0 k1 k2 k3 k4 k5 kl p0 p1 pl
  replace E := E.trans hx
  replace Z := Z.ext hx
  replace B1 := B1.ext hx
  replace B2 := B2.ext hx
  clear hx
  obtain ⟨k0, k1, k2, k3, k4, k5⟩ := B1.c6
  have kl := B1.lt
  obtain ⟨p0, p1⟩ := B2.c2
  have pl := B2.lt
  obtain ⟨q0, q1⟩ := B3.c2
  have ql := B3.lt
  clear p0 p1 pl
  by_cases e0 : ae = 0
  rotate_left
  · have g0 : (ae == 0) = false := beq_eq_false_iff_ne.2 e0
    have g0n : (ae != 0) = true := by rw [bne, g0]; rfl
    have hr : R = (⟨0, 0⟩, false) := by rw [HR.out, if_pos e0]; rfl
    clear HR e0
    have f0 := B2.frozen 0
    have f1 := B2.frozen 1
    obtain ⟨x0, x1⟩ := B2.c2
    have lx := B2.lt
    have H4 := held_two B2 (.int .i64 0) (.int .i64 0)
    have EF := (E.setCell (p := ⟨b2, 0, none⟩) hbr (.int .i64 0)).setCell (p := ⟨b2, 1, none⟩) hbr (.int .i64 0)
    obtain ⟨y0, y1⟩ := H4.c2
    go_wp2
    refine bodyPost_ret (v := .tuple #[.agg #[.int .i64 0, .int .i64 0], .bool false]) (by simp [results, Tryd.results31, go_sem, y0, y1]) rfl ⟨by rw [hr], EF⟩
  subst e0
  have hr0 : R = (⟨sn, sd⟩, decide (se = 0)) := by rw [HR.out, if_neg (by simp)]
  clear HR
  obtain ⟨p0, p1⟩ := B2.c2
  have pl := B2.lt
  go_upto_region 5 with (go_at_call 32; (with_reducible refine Calls.mono (NS _ Z) ?_); rintro e w2 ⟨rfl, hx⟩; replace E := E.trans hx; replace Z := Z.ext hx; replace B1 := B1.ext hx; replace B2 := B2.ext hx; replace B3 := B3.ext hx; clear hx; clear k0 k1 k2 k3 k4 k5 kl p0 p1 pl q0 q1 ql; obtain ⟨k0, k1, k2, k3, k4, k5⟩ := B1.c6; have kl := B1.lt; obtain ⟨p0, p1⟩ := B2.c2; have pl := B2.lt; obtain ⟨q0, q1⟩ := B3.c2; have ql := B3.lt)
  obtain ⟨vb2, hv⟩ : ∃ x, x = (w2.alloc (.cells #[.int .i64 sn, .int .i64 sd] 52)) := ⟨_, rfl⟩
  rw [← hv]
  have hx : Ext w2 vb2 := by rw [hv]; exact (Ext.refl _).alloc _
  have B4 : Held vb2 w2.heap.size 52 #[.int .i64 sn, .int .i64 sd] := by rw [hv]; exact Held.new _ _ _
  clear hv
  generalize w2.heap.size = bb2 at *
  clear k0 k1 k2 k3 k4 k5 kl p0 p1 pl q0 q1 ql
  replace E := E.trans hx
  replace Z := Z.ext hx
  replace B1 := B1.ext hx
  replace B2 := B2.ext hx
  replace B3 := B3.ext hx
  clear hx
  obtain ⟨k0, k1, k2, k3, k4, k5⟩ := B1.c6
  have kl := B1.lt
  obtain ⟨p0, p1⟩ := B2.c2
  have pl := B2.lt
  obtain ⟨q0, q1⟩ := B3.c2
  have ql := B3.lt
  obtain ⟨r0, r1⟩ := B4.c2
  have rl := B4.lt
  clear p0 p1 pl
  by_cases e1 : se = 0
  · have hr : R = (⟨sn, sd⟩, true) := by rw [hr0, decide_eq_true e1]
    clear hr0
    subst e1
    have f0 := B2.frozen 0
    have f1 := B2.frozen 1
    obtain ⟨x0, x1⟩ := B2.c2
    have lx := B2.lt
    have H4 := held_two B2 (.int .i64 sn) (.int .i64 sd)
    have EF := (E.setCell (p := ⟨b2, 0, none⟩) hbr (.int .i64 sn)).setCell (p := ⟨b2, 1, none⟩) hbr (.int .i64 sd)
    obtain ⟨y0, y1⟩ := H4.c2
    go_wp2
    refine bodyPost_ret (v := .tuple #[.agg #[.int .i64 sn, .int .i64 sd], .bool true]) (by simp [results, Tryd.results31, go_sem, y0, y1]) rfl ⟨by rw [hr], EF⟩
  · have g1 : (se == 0) = false := beq_eq_false_iff_ne.2 e1
    have hr : R = (⟨sn, sd⟩, false) := by rw [hr0, decide_eq_false e1]
    clear hr0 e1
    have f0 := B2.frozen 0
    have f1 := B2.frozen 1
    obtain ⟨x0, x1⟩ := B2.c2
    have lx := B2.lt
    have H4 := held_two B2 (.int .i64 sn) (.int .i64 sd)
    have EF := (E.setCell (p := ⟨b2, 0, none⟩) hbr (.int .i64 sn)).setCell (p := ⟨b2, 1, none⟩) hbr (.int .i64 sd)
    obtain ⟨y0, y1⟩ := H4.c2
    go_wp2
    refine bodyPost_ret (v := .tuple #[.agg #[.int .i64 sn, .int .i64 sd], .bool false]) (by simp [results, Tryd.results31, go_sem, y0, y1]) rfl ⟨by rw [hr], EF⟩

theorem pay_get {w : World} {b off n k : Nat} {f : Nat → Pay} (h : RowsAt w (some ⟨b, off, none⟩) n 6 (payr f)) (hk : k < n) : b < w.heap.size ∧ w.cell? ⟨b, off + k * 6, none⟩ = some (.int .i64 (f k).on.y) ∧ w.cell? ⟨b, off + k * 6 + 1, none⟩ = some (.int .i64 (f k).on.m) ∧ w.cell? ⟨b, off + k * 6 + 2, none⟩ = some (.bool (f k).on.s) ∧ w.cell? ⟨b, off + k * 6 + 3, none⟩ = some (.int .i64 (f k).on.d) ∧ w.cell? ⟨b, off + k * 6 + 4, none⟩ = some (.int .i64 (f k).n.n) ∧ w.cell? ⟨b, off + k * 6 + 5, none⟩ = some (.int .i64 (f k).n.d) := by
  obtain ⟨b', off', e, hb, hc⟩ := h (by omega)
  cases e
  exact ⟨hb, by simpa [payr] using hc k 0 _ hk rfl, hc k 1 _ hk rfl, hc k 2 _ hk rfl, hc k 3 _ hk rfl, hc k 4 _ hk rfl, hc k 5 _ hk rfl⟩
theorem totD_in (x : Db) : (totD x).1.In := by
  unfold totD
  split
  · exact rat0_in
  · exact subR_in _ _
theorem owedDb_in (c : Cal) (l : Ln) (f : Nat → Pay) (n : Nat) (on : Dt) (hp : l.p.In) : (c.owedV l f n on).1.In := by
  have h0 : db0.In := ⟨rat0_in, rat0_in, rat0_in⟩
  unfold Cal.owedV
  split
  · exact h0
  · split
    · exact h0
    · split
      · exact h0
      · split
        · exact h0
        · exact owedRun_in c l.r f on _ _ _ _ ⟨hp, ratW0_in, ratW0_in⟩

set_option maxRecDepth 100000 in
set_option maxHeartbeats 4000000 in
theorem ledgerPaymentsKept_walk (A A' : Option Addr) (ca cb : Nat) (c : Cal) (l : Ln) (B : Option Addr) (n cap : Nat) (f : Nat → Pay) (on : Dt) (w : World) (hC : CalAt w A ca A' cb c) (hB : RowsAt w B n 6 (payr f)) (hcap : n ≤ cap) (hmax : cap ≤ maxLen) (hlp : l.p.In) (hlr : l.r.In) (hin : ∀ i, i < n → (f i).n.In) (hZ : Zro w) :
    Calls Tryd.prog 8 #[.agg #[.slice A c.nk ca, .slice A' c.ny cb], .agg #[.int .i64 l.p.n, .int .i64 l.p.d, .int .i64 l.r.n, .int .i64 l.r.d, .int .i64 l.f.y, .int .i64 l.f.m, .bool l.f.s, .int .i64 l.f.d, .slice B n cap, .int .i64 on.y, .int .i64 on.m, .bool on.s, .int .i64 on.d]] w fun e w' => e = .returned (.bool true) ∧ Ext w w' := by
  have n63 : n ≤ 9223372036854775807 := Nat.le_trans hcap (Nat.le_trans hmax (by decide))
  have NC := fun w hC hB => checkLoanF_any A A' ca cb c B n cap l f hlp hlr hin w hC hB n63
  have NO := fun k (hk : k ≤ n) w hC hB on hZ => owedF_any A A' ca cb c B k cap l f hlp hlr (fun i hi => hin i (by omega)) w hC hB (by omega) hZ on
  obtain ⟨le, hle⟩ : ∃ x, x = c.loanE l f n := ⟨_, rfl⟩
  simp only [← hle] at NC
  replace hle := Lib.hid hle
  go_enter Tryd.func8, Tryd.ntmps8
  go_upto_region 1 with (fail)
  obtain ⟨v, hv⟩ : ∃ v, v = ((w.alloc (.cells #[.slice A c.nk ca, .slice A' c.ny cb] 25)).alloc (.cells #[.int .i64 l.p.n, .int .i64 l.p.d, .int .i64 l.r.n, .int .i64 l.r.d, .int .i64 l.f.y, .int .i64 l.f.m, .bool l.f.s, .int .i64 l.f.d, .slice B n cap, .int .i64 on.y, .int .i64 on.m, .bool on.s, .int .i64 on.d] 80)) := ⟨_, rfl⟩
  rw [← hv]
  have E : Ext w v := by rw [hv]; exact ((Ext.refl _).alloc _).alloc _
  have B1 : Held v w.heap.size 25 #[.slice A c.nk ca, .slice A' c.ny cb] := by rw [hv]; exact (Held.new _ _ _).alloc _
  have B2 : Held v (w.heap.size + 1) 80 #[.int .i64 l.p.n, .int .i64 l.p.d, .int .i64 l.r.n, .int .i64 l.r.d, .int .i64 l.f.y, .int .i64 l.f.m, .bool l.f.s, .int .i64 l.f.d, .slice B n cap, .int .i64 on.y, .int .i64 on.m, .bool on.s, .int .i64 on.d] := by rw [hv]; exact Held.at _ _ _ _ (by simp)
  clear hv
  obtain ⟨b2, hb2⟩ : ∃ b, b = w.heap.size + 1 := ⟨_, rfl⟩
  rw [← hb2] at B2 ⊢
  obtain ⟨b1, hb1⟩ : ∃ b, b = w.heap.size := ⟨_, rfl⟩
  rw [← hb1] at B1 ⊢
  have hbr : w.heap.size ≤ b2 := by omega
  have hbr1 : w.heap.size ≤ b1 := by omega
  have hn21 : b2 ≠ b1 := by omega
  clear hb1 hb2
  have Z := hZ.ext E
  have C := hC.ext E
  have B := hB.ext E
  obtain ⟨k0, k1⟩ := B1.c2
  have kl := B1.lt
  obtain ⟨p0, p1, p2, p3, p4, p5, p6, p7, p8, p9, p10, p11, p12⟩ := held_d13 B2
  have pl := B2.lt
  by_cases e0 : le = 0
  rotate_left
  · have g0 : (le == 0) = false := beq_eq_false_iff_ne.2 e0
    have g0n : (le != 0) = true := by rw [bne, g0]; rfl
    clear NO hle e0
    go_wp2_with (first | (go_at_call 29; (with_reducible refine Calls.mono (NC _ C B) ?_); rintro e w1 ⟨rfl, hx⟩; replace E := E.trans hx; replace Z := Z.ext hx; replace C := C.ext hx; replace B := B.ext hx; replace B1 := B1.ext hx; replace B2 := B2.ext hx; clear hx; clear k0 k1 kl p0 p1 p2 p3 p4 p5 p6 p7 p8 p9 p10 p11 p12 pl; obtain ⟨k0, k1⟩ := B1.c2; have kl := B1.lt; obtain ⟨p0, p1, p2, p3, p4, p5, p6, p7, p8, p9, p10, p11, p12⟩ := held_d13 B2; have pl := B2.lt) | (go_at_call 21; (with_reducible refine Calls.mono (works8_any _ Z) ?_); rintro e wk ⟨rfl, hk⟩))
    go_ret
    exact ⟨rfl, E.trans hk⟩
  subst e0
  have hE0 := Lib.hid hle.out.symm
  clear hle
  go_upto_region 4 with (go_at_call 29; (with_reducible refine Calls.mono (NC _ C B) ?_); rintro e w1 ⟨rfl, hx⟩; replace E := E.trans hx; replace Z := Z.ext hx; replace C := C.ext hx; replace B := B.ext hx; replace B1 := B1.ext hx; replace B2 := B2.ext hx; clear hx; clear k0 k1 kl p0 p1 p2 p3 p4 p5 p6 p7 p8 p9 p10 p11 p12 pl; obtain ⟨k0, k1⟩ := B1.c2; have kl := B1.lt; obtain ⟨p0, p1, p2, p3, p4, p5, p6, p7, p8, p9, p10, p11, p12⟩ := held_d13 B2; have pl := B2.lt)
  clear NC
  go_loopw [5] (fun iv wr => ∃ k : Nat, k ≤ n ∧ iv = .int .i64 (k : Int) ∧ Ext w1 wr) (fun iv _ => n - (intOf iv).toNat)
  case atStart => exact ⟨0, Nat.zero_le _, rfl, Ext.refl _⟩
  case round =>
    obtain ⟨k, hk, rfl, hE⟩ := hrel
    obtain ⟨wo, rfl⟩ : ∃ wo : World, wo = wr := ⟨_, rfl⟩

    replace E := E.trans hE
    replace Z := Z.ext hE
    replace C := C.ext hE
    replace B := B.ext hE
    replace B1 := B1.ext hE
    replace B2 := B2.ext hE
    clear k0 k1 kl p0 p1 p2 p3 p4 p5 p6 p7 p8 p9 p10 p11 p12 pl
    obtain ⟨k0, k1⟩ := B1.c2
    have kl := B1.lt
    obtain ⟨p0, p1, p2, p3, p4, p5, p6, p7, p8, p9, p10, p11, p12⟩ := held_d13 B2
    have pl := B2.lt

    by_cases hlt : k < n
    · obtain ⟨b, off, rfl, hb, hc⟩ := id (B (by omega))

      clear hc hb
      have NA := fun w hC hB hZ => NO k (by omega) w hC hB (f k).on hZ
      have NB := fun w hC hB hZ => NO (k + 1) (by omega) w hC hB (f k).on hZ
      have IA := owedDb_in c l f k (f k).on hlp
      have IB := owedDb_in c l f (k + 1) (f k).on hlp
      have wk1 : IntKind.i64.wrap ((k : Int) + 1) = (k : Int) + 1 := wrap64 (by omega) (by omega)
      obtain ⟨X, hX⟩ : ∃ x, x = c.owedV l f k (f k).on := ⟨_, rfl⟩
      obtain ⟨Y, hY⟩ : ∃ x, x = c.owedV l f (k + 1) (f k).on := ⟨_, rfl⟩
      simp only [← hX] at NA IA
      simp only [← hY] at NB IB
      replace hX := Lib.hid hX
      replace hY := Lib.hid hY
      obtain ⟨X, xe⟩ := X
      obtain ⟨Y, ye⟩ := Y
      simp only at NA NB IA IB
      replace IA := Lib.hid IA
      replace IB := Lib.hid IB
      clear NO hin hB hC hZ

      go_upto_region 6 with (fail)
      clear k0 k1 kl p0 p1 p2 p3 p4 p5 p6 p7 p8 p9 p10 p11 p12 pl
      apply wp_cut1y (S := fun w' r => Ext wo w' ∧ Held w' r 83 #[.int .i64 X.p.n, .int .i64 X.p.d, .int .i64 X.i.n, .int .i64 X.i.d, .int .i64 X.s.n, .int .i64 X.s.d])
      · refine wp_region_z 20 [15, 16, 18, 19] (fun x => Ext wo x) mixed rfl ?_
        intro vz hvz
        have HC := hvz
        refine z_stills (g := 7) [0, 1, 2, 3, 4, 5, 6, 7, 8, 9, 10, 11, 12] [_, _, _, _, _, _, _, _, _, _, _, _, _] ⟨rfl, rfl, rfl, rfl, rfl, rfl, rfl, rfl, rfl, rfl, rfl, rfl, rfl, trivial⟩ (by kernel_rfl) (by kernel_rfl) HC ?_
        simp only [List.getElem_toArray, List.getElem_cons_succ, List.getElem_cons_zero]
        apply Exists.intro
        refine ⟨fun u hu => ?_, ?_⟩
        · obtain ⟨k0, k1⟩ := (B1.ext hu).c2
          have kl := (B1.ext hu).lt
          obtain ⟨p0, p1, p2, p3, p4, p5, p6, p7, p8, p9, p10, p11, p12⟩ := held_d13 (B2.ext hu)
          have pl := (B2.ext hu).lt
          obtain ⟨bl, d0, d1, d2, d3, d4, d5⟩ := pay_get (B.ext hu) hlt
          repeat (first | go_big_quiet_skip | (go_big_quiet_want; go_big_quiet_op; go_big_quiet_on))
          refine wpQuiet_nil ?_
          rfl
        refine z_two 13 17 rfl rfl (by kernel_rfl) ?_ ?_
        · simp only [List.getElem_toArray, List.getElem_cons_succ, List.getElem_cons_zero]
          go_wp2_with (go_at_call 30; (with_reducible refine Calls.mono (NA _ (C.ext HC) ((B.ext HC).take (by omega)) (Z.ext HC)) ?_); rintro e wa ⟨rfl, hx⟩)
          replace HC := HC.trans hx
          try replace H5 := H5.ext hx
          clear hx
          refine onQ_in HC ?_
          refine z_stills (g := 5) [14] [_] ⟨rfl, trivial⟩ (by kernel_rfl) (by kernel_rfl) HC ?_
          simp only [List.getElem_toArray, List.getElem_cons_succ, List.getElem_cons_zero]
          apply Exists.intro
          refine ⟨fun u hu => ?_, ?_⟩
          · obtain ⟨k0, k1⟩ := (B1.ext hu).c2
            have kl := (B1.ext hu).lt
            obtain ⟨p0, p1, p2, p3, p4, p5, p6, p7, p8, p9, p10, p11, p12⟩ := held_d13 (B2.ext hu)
            have pl := (B2.ext hu).lt
            obtain ⟨bl, d0, d1, d2, d3, d4, d5⟩ := pay_get (B.ext hu) hlt
            repeat (first | go_big_quiet_skip | (go_big_quiet_want; go_big_quiet_op; go_big_quiet_on))
            refine wpQuiet_nil ?_
            rfl
          refine z_pures (g := 3) [15, 16] [_, _] ⟨rfl, rfl, trivial⟩ (by kernel_rfl) (by kernel_rfl) ?_
          simp only [List.getElem_toArray, List.getElem_cons_succ, List.getElem_cons_zero]
          apply Exists.intro
          refine ⟨fun u hu => ?_, ?_⟩
          · repeat (first | go_big_quiet_skip | (go_big_quiet_want; go_big_quiet_op; go_big_quiet_on))
            refine wpQuiet_nil ?_
            rfl
          refine z_one 17 rfl (by kernel_rfl) ?_
          simp only [List.getElem_toArray, List.getElem_cons_succ, List.getElem_cons_zero]
          go_wp2
          obtain ⟨b9, wb, hbq, hwb, H5, HC', hx, g5⟩ := ex_new2 HC 83 #[.int .i64 0, .int .i64 0, .int .i64 0, .int .i64 0, .int .i64 0, .int .i64 0]
          rw [← hbq, ← hwb]
          replace HC := HC'
          clear hbq hwb hx HC'
          refine onQ_in HC ?_
          refine z_end 18 rfl (by kernel_rfl) ?_
          simp only [List.getElem_toArray, List.getElem_cons_succ, List.getElem_cons_zero]
          have z0 := H5.frozen 0
          have z1 := H5.frozen 1
          have z2 := H5.frozen 2
          have z3 := H5.frozen 3
          have z4 := H5.frozen 4
          have z5 := H5.frozen 5
          obtain ⟨x0, x1, x2, x3, x4, x5⟩ := H5.c6
          have lx := H5.lt
          go_wp2
          have H6 := held6_all H5 (.int .i64 X.p.n) (.int .i64 X.p.d) (.int .i64 X.i.n) (.int .i64 X.i.d) (.int .i64 X.s.n) (.int .i64 X.s.d)
          replace HC := ext6 HC g5 (.int .i64 X.p.n) (.int .i64 X.p.d) (.int .i64 X.i.n) (.int .i64 X.i.d) (.int .i64 X.s.n) (.int .i64 X.s.d)
          clear z0 x0 z1 x1 z2 x2 z3 x3 z4 x4 z5 x5 lx H5
          generalize World.setCell _ _ _ = wq at *
          refine onQ_last ?_
          refine z_end 19 rfl (by kernel_rfl) ?_
          simp only [List.getElem_toArray, List.getElem_cons_succ, List.getElem_cons_zero]
          go_wp2
          refine onQ_last ?_
          refine z_done (by kernel_rfl) ?_
          exact cut1y_is b9 ⟨HC, H6⟩ rfl
        · simp only [List.getElem_toArray, List.getElem_cons_succ, List.getElem_cons_zero]
          go_wp2
          obtain ⟨b9, wb, hbq, hwb, H5, HC', hx, g5⟩ := ex_new2 HC 83 #[.int .i64 0, .int .i64 0, .int .i64 0, .int .i64 0, .int .i64 0, .int .i64 0]
          rw [← hbq, ← hwb]
          replace HC := HC'
          clear hbq hwb hx HC'
          refine onQ_in HC ?_
          refine z_one 13 rfl (by kernel_rfl) ?_
          simp only [List.getElem_toArray, List.getElem_cons_succ, List.getElem_cons_zero]
          go_wp2_with (go_at_call 30; (with_reducible refine Calls.mono (NA _ (C.ext HC) ((B.ext HC).take (by omega)) (Z.ext HC)) ?_); rintro e wa ⟨rfl, hx⟩)
          replace HC := HC.trans hx
          try replace H5 := H5.ext hx
          clear hx
          refine onQ_in HC ?_
          refine z_stills (g := 4) [14] [_] ⟨rfl, trivial⟩ (by kernel_rfl) (by kernel_rfl) HC ?_
          simp only [List.getElem_toArray, List.getElem_cons_succ, List.getElem_cons_zero]
          apply Exists.intro
          refine ⟨fun u hu => ?_, ?_⟩
          · obtain ⟨k0, k1⟩ := (B1.ext hu).c2
            have kl := (B1.ext hu).lt
            obtain ⟨p0, p1, p2, p3, p4, p5, p6, p7, p8, p9, p10, p11, p12⟩ := held_d13 (B2.ext hu)
            have pl := (B2.ext hu).lt
            obtain ⟨bl, d0, d1, d2, d3, d4, d5⟩ := pay_get (B.ext hu) hlt
            repeat (first | go_big_quiet_skip | (go_big_quiet_want; go_big_quiet_op; go_big_quiet_on))
            refine wpQuiet_nil ?_
            rfl
          refine z_pures (g := 2) [15, 16] [_, _] ⟨rfl, rfl, trivial⟩ (by kernel_rfl) (by kernel_rfl) ?_
          simp only [List.getElem_toArray, List.getElem_cons_succ, List.getElem_cons_zero]
          apply Exists.intro
          refine ⟨fun u hu => ?_, ?_⟩
          · repeat (first | go_big_quiet_skip | (go_big_quiet_want; go_big_quiet_op; go_big_quiet_on))
            refine wpQuiet_nil ?_
            rfl
          refine z_end 18 rfl (by kernel_rfl) ?_
          simp only [List.getElem_toArray, List.getElem_cons_succ, List.getElem_cons_zero]
          have z0 := H5.frozen 0
          have z1 := H5.frozen 1
          have z2 := H5.frozen 2
          have z3 := H5.frozen 3
          have z4 := H5.frozen 4
          have z5 := H5.frozen 5
          obtain ⟨x0, x1, x2, x3, x4, x5⟩ := H5.c6
          have lx := H5.lt
          go_wp2
          have H6 := held6_all H5 (.int .i64 X.p.n) (.int .i64 X.p.d) (.int .i64 X.i.n) (.int .i64 X.i.d) (.int .i64 X.s.n) (.int .i64 X.s.d)
          replace HC := ext6 HC g5 (.int .i64 X.p.n) (.int .i64 X.p.d) (.int .i64 X.i.n) (.int .i64 X.i.d) (.int .i64 X.s.n) (.int .i64 X.s.d)
          clear z0 x0 z1 x1 z2 x2 z3 x3 z4 x4 z5 x5 lx H5
          generalize World.setCell _ _ _ = wq at *
          refine onQ_last ?_
          refine z_end 19 rfl (by kernel_rfl) ?_
          simp only [List.getElem_toArray, List.getElem_cons_succ, List.getElem_cons_zero]
          go_wp2
          refine onQ_last ?_
          refine z_done (by kernel_rfl) ?_
          exact cut1y_is b9 ⟨HC, H6⟩ rfl
      rintro bx v6 ⟨hx, BX⟩
      replace E := E.trans hx
      replace hE := hE.trans hx
      replace Z := Z.ext hx
      replace C := C.ext hx
      replace B := B.ext hx
      replace B1 := B1.ext hx
      replace B2 := B2.ext hx
      clear hx

      obtain ⟨k0, k1⟩ := B1.c2
      have kl := B1.lt
      obtain ⟨p0, p1, p2, p3, p4, p5, p6, p7, p8, p9, p10, p11, p12⟩ := held_d13 B2
      have pl := B2.lt
      obtain ⟨x0, x1, x2, x3, x4, x5⟩ := BX.c6
      have xl := BX.lt

      go_upto_region 7 with (fail)
      clear k0 k1 kl p0 p1 p2 p3 p4 p5 p6 p7 p8 p9 p10 p11 p12 pl x0 x1 x2 x3 x4 x5 xl
      apply wp_cut1y (S := fun w' r => Ext v6 w' ∧ Held w' r 83 #[.int .i64 Y.p.n, .int .i64 Y.p.d, .int .i64 Y.i.n, .int .i64 Y.i.d, .int .i64 Y.s.n, .int .i64 Y.s.d])
      · refine wp_region_z 21 [16, 17, 19, 20] (fun x => Ext v6 x) mixed rfl ?_
        intro vz hvz
        have HC := hvz
        refine z_stills (g := 7) [0, 1, 2, 3, 4, 5, 6, 7, 8, 9, 10, 11, 12, 13] [_, _, _, _, _, _, _, _, _, _, _, _, _, _] ⟨rfl, rfl, rfl, rfl, rfl, rfl, rfl, rfl, rfl, rfl, rfl, rfl, rfl, rfl, trivial⟩ (by kernel_rfl) (by kernel_rfl) HC ?_
        simp only [List.getElem_toArray, List.getElem_cons_succ, List.getElem_cons_zero]
        apply Exists.intro
        refine ⟨fun u hu => ?_, ?_⟩
        · obtain ⟨k0, k1⟩ := (B1.ext hu).c2
          have kl := (B1.ext hu).lt
          obtain ⟨p0, p1, p2, p3, p4, p5, p6, p7, p8, p9, p10, p11, p12⟩ := held_d13 (B2.ext hu)
          have pl := (B2.ext hu).lt
          obtain ⟨bl, d0, d1, d2, d3, d4, d5⟩ := pay_get (B.ext hu) hlt
          repeat (first | go_big_quiet_skip | (go_big_quiet_want; go_big_quiet_op; go_big_quiet_on))
          refine wpQuiet_nil ?_
          rfl
        refine z_two 14 18 rfl rfl (by kernel_rfl) ?_ ?_
        · simp only [List.getElem_toArray, List.getElem_cons_succ, List.getElem_cons_zero]
          go_wp2_with (go_at_call 30; (with_reducible refine Calls.mono (NB _ (C.ext HC) ((B.ext HC).take (by omega)) (Z.ext HC)) ?_); rintro e wa ⟨rfl, hx⟩)
          replace HC := HC.trans hx
          try replace H5 := H5.ext hx
          clear hx
          refine onQ_in HC ?_
          refine z_stills (g := 5) [15] [_] ⟨rfl, trivial⟩ (by kernel_rfl) (by kernel_rfl) HC ?_
          simp only [List.getElem_toArray, List.getElem_cons_succ, List.getElem_cons_zero]
          apply Exists.intro
          refine ⟨fun u hu => ?_, ?_⟩
          · obtain ⟨k0, k1⟩ := (B1.ext hu).c2
            have kl := (B1.ext hu).lt
            obtain ⟨p0, p1, p2, p3, p4, p5, p6, p7, p8, p9, p10, p11, p12⟩ := held_d13 (B2.ext hu)
            have pl := (B2.ext hu).lt
            obtain ⟨bl, d0, d1, d2, d3, d4, d5⟩ := pay_get (B.ext hu) hlt
            repeat (first | go_big_quiet_skip | (go_big_quiet_want; go_big_quiet_op; go_big_quiet_on))
            refine wpQuiet_nil ?_
            rfl
          refine z_pures (g := 3) [16, 17] [_, _] ⟨rfl, rfl, trivial⟩ (by kernel_rfl) (by kernel_rfl) ?_
          simp only [List.getElem_toArray, List.getElem_cons_succ, List.getElem_cons_zero]
          apply Exists.intro
          refine ⟨fun u hu => ?_, ?_⟩
          · repeat (first | go_big_quiet_skip | (go_big_quiet_want; go_big_quiet_op; go_big_quiet_on))
            refine wpQuiet_nil ?_
            rfl
          refine z_one 18 rfl (by kernel_rfl) ?_
          simp only [List.getElem_toArray, List.getElem_cons_succ, List.getElem_cons_zero]
          go_wp2
          obtain ⟨b9, wb, hbq, hwb, H5, HC', hx, g5⟩ := ex_new2 HC 83 #[.int .i64 0, .int .i64 0, .int .i64 0, .int .i64 0, .int .i64 0, .int .i64 0]
          rw [← hbq, ← hwb]
          replace HC := HC'
          clear hbq hwb hx HC'
          refine onQ_in HC ?_
          refine z_end 19 rfl (by kernel_rfl) ?_
          simp only [List.getElem_toArray, List.getElem_cons_succ, List.getElem_cons_zero]
          have z0 := H5.frozen 0
          have z1 := H5.frozen 1
          have z2 := H5.frozen 2
          have z3 := H5.frozen 3
          have z4 := H5.frozen 4
          have z5 := H5.frozen 5
          obtain ⟨x0, x1, x2, x3, x4, x5⟩ := H5.c6
          have lx := H5.lt
          go_wp2
          have H6 := held6_all H5 (.int .i64 Y.p.n) (.int .i64 Y.p.d) (.int .i64 Y.i.n) (.int .i64 Y.i.d) (.int .i64 Y.s.n) (.int .i64 Y.s.d)
          replace HC := ext6 HC g5 (.int .i64 Y.p.n) (.int .i64 Y.p.d) (.int .i64 Y.i.n) (.int .i64 Y.i.d) (.int .i64 Y.s.n) (.int .i64 Y.s.d)
          clear z0 x0 z1 x1 z2 x2 z3 x3 z4 x4 z5 x5 lx H5
          generalize World.setCell _ _ _ = wq at *
          refine onQ_last ?_
          refine z_end 20 rfl (by kernel_rfl) ?_
          simp only [List.getElem_toArray, List.getElem_cons_succ, List.getElem_cons_zero]
          go_wp2
          refine onQ_last ?_
          refine z_done (by kernel_rfl) ?_
          exact cut1y_is b9 ⟨HC, H6⟩ rfl
        · simp only [List.getElem_toArray, List.getElem_cons_succ, List.getElem_cons_zero]
          go_wp2
          obtain ⟨b9, wb, hbq, hwb, H5, HC', hx, g5⟩ := ex_new2 HC 83 #[.int .i64 0, .int .i64 0, .int .i64 0, .int .i64 0, .int .i64 0, .int .i64 0]
          rw [← hbq, ← hwb]
          replace HC := HC'
          clear hbq hwb hx HC'
          refine onQ_in HC ?_
          refine z_one 14 rfl (by kernel_rfl) ?_
          simp only [List.getElem_toArray, List.getElem_cons_succ, List.getElem_cons_zero]
          go_wp2_with (go_at_call 30; (with_reducible refine Calls.mono (NB _ (C.ext HC) ((B.ext HC).take (by omega)) (Z.ext HC)) ?_); rintro e wa ⟨rfl, hx⟩)
          replace HC := HC.trans hx
          try replace H5 := H5.ext hx
          clear hx
          refine onQ_in HC ?_
          refine z_stills (g := 4) [15] [_] ⟨rfl, trivial⟩ (by kernel_rfl) (by kernel_rfl) HC ?_
          simp only [List.getElem_toArray, List.getElem_cons_succ, List.getElem_cons_zero]
          apply Exists.intro
          refine ⟨fun u hu => ?_, ?_⟩
          · obtain ⟨k0, k1⟩ := (B1.ext hu).c2
            have kl := (B1.ext hu).lt
            obtain ⟨p0, p1, p2, p3, p4, p5, p6, p7, p8, p9, p10, p11, p12⟩ := held_d13 (B2.ext hu)
            have pl := (B2.ext hu).lt
            obtain ⟨bl, d0, d1, d2, d3, d4, d5⟩ := pay_get (B.ext hu) hlt
            repeat (first | go_big_quiet_skip | (go_big_quiet_want; go_big_quiet_op; go_big_quiet_on))
            refine wpQuiet_nil ?_
            rfl
          refine z_pures (g := 2) [16, 17] [_, _] ⟨rfl, rfl, trivial⟩ (by kernel_rfl) (by kernel_rfl) ?_
          simp only [List.getElem_toArray, List.getElem_cons_succ, List.getElem_cons_zero]
          apply Exists.intro
          refine ⟨fun u hu => ?_, ?_⟩
          · repeat (first | go_big_quiet_skip | (go_big_quiet_want; go_big_quiet_op; go_big_quiet_on))
            refine wpQuiet_nil ?_
            rfl
          refine z_end 19 rfl (by kernel_rfl) ?_
          simp only [List.getElem_toArray, List.getElem_cons_succ, List.getElem_cons_zero]
          have z0 := H5.frozen 0
          have z1 := H5.frozen 1
          have z2 := H5.frozen 2
          have z3 := H5.frozen 3
          have z4 := H5.frozen 4
          have z5 := H5.frozen 5
          obtain ⟨x0, x1, x2, x3, x4, x5⟩ := H5.c6
          have lx := H5.lt
          go_wp2
          have H6 := held6_all H5 (.int .i64 Y.p.n) (.int .i64 Y.p.d) (.int .i64 Y.i.n) (.int .i64 Y.i.d) (.int .i64 Y.s.n) (.int .i64 Y.s.d)
          replace HC := ext6 HC g5 (.int .i64 Y.p.n) (.int .i64 Y.p.d) (.int .i64 Y.i.n) (.int .i64 Y.i.d) (.int .i64 Y.s.n) (.int .i64 Y.s.d)
          clear z0 x0 z1 x1 z2 x2 z3 x3 z4 x4 z5 x5 lx H5
          generalize World.setCell _ _ _ = wq at *
          refine onQ_last ?_
          refine z_end 20 rfl (by kernel_rfl) ?_
          simp only [List.getElem_toArray, List.getElem_cons_succ, List.getElem_cons_zero]
          go_wp2
          refine onQ_last ?_
          refine z_done (by kernel_rfl) ?_
          exact cut1y_is b9 ⟨HC, H6⟩ rfl
      rintro by' v7 ⟨hx, BY⟩
      replace E := E.trans hx
      replace hE := hE.trans hx
      replace Z := Z.ext hx
      replace C := C.ext hx
      replace B := B.ext hx
      replace B1 := B1.ext hx
      replace B2 := B2.ext hx
      replace BX := BX.ext hx
      clear hx

      obtain ⟨k0, k1⟩ := B1.c2
      have kl := B1.lt
      obtain ⟨p0, p1, p2, p3, p4, p5, p6, p7, p8, p9, p10, p11, p12⟩ := held_d13 B2
      have pl := B2.lt
      obtain ⟨x0, x1, x2, x3, x4, x5⟩ := BX.c6
      have xl := BX.lt
      obtain ⟨y0, y1, y2, y3, y4, y5⟩ := BY.c6
      have yl := BY.lt

      by_cases hxe : xe = 0
      rotate_left
      · have g0 : (xe == 0) = false := beq_eq_false_iff_ne.2 hxe
        have g0n : (xe != 0) = true := by rw [bne, g0]; rfl
        clear hX hY NA NB hxe
        go_wp2_with (first | (go_at_call 21; (with_reducible refine Calls.mono (works8_any _ Z) ?_); rintro e wk ⟨rfl, hk⟩))
        go_ret
        exact ⟨rfl, E.trans hk⟩
      subst hxe
      by_cases hye : ye = 0
      rotate_left
      · have g0 : (ye == 0) = false := beq_eq_false_iff_ne.2 hye
        have g0n : (ye != 0) = true := by rw [bne, g0]; rfl
        clear hX hY NA NB hye
        go_wp2_with (first | (go_at_call 21; (with_reducible refine Calls.mono (works8_any _ Z) ?_); rintro e wk ⟨rfl, hk⟩))
        go_ret
        exact ⟨rfl, E.trans hk⟩
      subst hye
      have KP := kept (c := c) (l := l) (f := f) (n := n) (i := k) hE0.out hlt (by rw [← hX.out]) (by rw [← hY.out])
      rw [← hX.out, ← hY.out] at KP
      simp only at KP
      obtain ⟨kx, ky, kd, kp, ks⟩ := KP
      have T1 := fun w hz => total8_any X IA.out w hz
      have T2 := fun w hz => total8_any Y IB.out w hz
      have TS := fun w hz => subF_any (totD X).1 (totD Y).1 (totD_in X) (totD_in Y) w hz
      replace kd := Lib.hid kd
      replace kp := Lib.hid kp
      replace ks := Lib.hid ks
      generalize subR (totD X).1 (totD Y).1 = S at *
      generalize totD X = M at *
      generalize totD Y = Q at *
      obtain ⟨⟨mn, md⟩, mp⟩ := M
      obtain ⟨⟨qn, qd⟩, qp⟩ := Q
      obtain ⟨⟨sn, sd⟩, se⟩ := S
      simp only at T1 T2 TS kd
      clear NA NB hX hY IA IB
      go_upto_region 11 with (go_at_call 31; (with_reducible refine Calls.mono (T1 _ Z) ?_); rintro e w11 ⟨rfl, hx⟩; replace E := E.trans hx; replace hE := hE.trans hx; replace Z := Z.ext hx; replace C := C.ext hx; replace B := B.ext hx; replace B1 := B1.ext hx; replace B2 := B2.ext hx; replace BX := BX.ext hx; replace BY := BY.ext hx; clear hx; clear k0 k1 kl p0 p1 p2 p3 p4 p5 p6 p7 p8 p9 p10 p11 p12 pl x0 x1 x2 x3 x4 x5 xl y0 y1 y2 y3 y4 y5 yl; obtain ⟨k0, k1⟩ := B1.c2; have kl := B1.lt; obtain ⟨p0, p1, p2, p3, p4, p5, p6, p7, p8, p9, p10, p11, p12⟩ := held_d13 B2; have pl := B2.lt; obtain ⟨x0, x1, x2, x3, x4, x5⟩ := BX.c6; have xl := BX.lt; obtain ⟨y0, y1, y2, y3, y4, y5⟩ := BY.c6; have yl := BY.lt)

      obtain ⟨vb21, hv⟩ : ∃ x, x = (w11.alloc (.cells #[.int .i64 mn, .int .i64 md] 52)) := ⟨_, rfl⟩
      rw [← hv]
      have hx : Ext w11 vb21 := by rw [hv]; exact (Ext.refl _).alloc _
      have BM : Held vb21 w11.heap.size 52 #[.int .i64 mn, .int .i64 md] := by rw [hv]; exact Held.new _ _ _
      clear hv
      generalize w11.heap.size = bb21 at *
      clear k0 k1 kl p0 p1 p2 p3 p4 p5 p6 p7 p8 p9 p10 p11 p12 pl x0 x1 x2 x3 x4 x5 xl y0 y1 y2 y3 y4 y5 yl
      replace E := E.trans hx
      replace hE := hE.trans hx
      replace Z := Z.ext hx
      replace C := C.ext hx
      replace B := B.ext hx
      replace B1 := B1.ext hx
      replace B2 := B2.ext hx
      replace BX := BX.ext hx
      replace BY := BY.ext hx
      clear hx
      obtain ⟨k0, k1⟩ := B1.c2
      have kl := B1.lt
      obtain ⟨p0, p1, p2, p3, p4, p5, p6, p7, p8, p9, p10, p11, p12⟩ := held_d13 B2
      have pl := B2.lt
      obtain ⟨x0, x1, x2, x3, x4, x5⟩ := BX.c6
      have xl := BX.lt
      obtain ⟨y0, y1, y2, y3, y4, y5⟩ := BY.c6
      have yl := BY.lt
      obtain ⟨m0, m1⟩ := BM.c2
      have ml := BM.lt
      go_upto_region 12 with (go_at_call 31; (with_reducible refine Calls.mono (T2 _ Z) ?_); rintro e w12 ⟨rfl, hx⟩; replace E := E.trans hx; replace hE := hE.trans hx; replace Z := Z.ext hx; replace C := C.ext hx; replace B := B.ext hx; replace B1 := B1.ext hx; replace B2 := B2.ext hx; replace BX := BX.ext hx; replace BY := BY.ext hx; replace BM := BM.ext hx; clear hx; clear k0 k1 kl p0 p1 p2 p3 p4 p5 p6 p7 p8 p9 p10 p11 p12 pl x0 x1 x2 x3 x4 x5 xl y0 y1 y2 y3 y4 y5 yl m0 m1 ml; obtain ⟨k0, k1⟩ := B1.c2; have kl := B1.lt; obtain ⟨p0, p1, p2, p3, p4, p5, p6, p7, p8, p9, p10, p11, p12⟩ := held_d13 B2; have pl := B2.lt; obtain ⟨x0, x1, x2, x3, x4, x5⟩ := BX.c6; have xl := BX.lt; obtain ⟨y0, y1, y2, y3, y4, y5⟩ := BY.c6; have yl := BY.lt; obtain ⟨m0, m1⟩ := BM.c2; have ml := BM.lt)
      obtain ⟨vb22, hv⟩ : ∃ x, x = (w12.alloc (.cells #[.int .i64 qn, .int .i64 qd] 52)) := ⟨_, rfl⟩
      rw [← hv]
      have hx : Ext w12 vb22 := by rw [hv]; exact (Ext.refl _).alloc _
      have BQ : Held vb22 w12.heap.size 52 #[.int .i64 qn, .int .i64 qd] := by rw [hv]; exact Held.new _ _ _
      clear hv
      generalize w12.heap.size = bb22 at *
      clear k0 k1 kl p0 p1 p2 p3 p4 p5 p6 p7 p8 p9 p10 p11 p12 pl x0 x1 x2 x3 x4 x5 xl y0 y1 y2 y3 y4 y5 yl m0 m1 ml
      replace E := E.trans hx
      replace hE := hE.trans hx
      replace Z := Z.ext hx
      replace C := C.ext hx
      replace B := B.ext hx
      replace B1 := B1.ext hx
      replace B2 := B2.ext hx
      replace BX := BX.ext hx
      replace BY := BY.ext hx
      replace BM := BM.ext hx
      clear hx
      obtain ⟨k0, k1⟩ := B1.c2
      have kl := B1.lt
      obtain ⟨p0, p1, p2, p3, p4, p5, p6, p7, p8, p9, p10, p11, p12⟩ := held_d13 B2
      have pl := B2.lt
      obtain ⟨x0, x1, x2, x3, x4, x5⟩ := BX.c6
      have xl := BX.lt
      obtain ⟨y0, y1, y2, y3, y4, y5⟩ := BY.c6
      have yl := BY.lt
      obtain ⟨m0, m1⟩ := BM.c2
      have ml := BM.lt
      obtain ⟨qq0, qq1⟩ := BQ.c2
      have qql := BQ.lt
      go_upto_region 13 with (go_at_call 32; (with_reducible refine Calls.mono (TS _ Z) ?_); rintro e w13 ⟨rfl, hx⟩; replace E := E.trans hx; replace hE := hE.trans hx; replace Z := Z.ext hx; replace C := C.ext hx; replace B := B.ext hx; replace B1 := B1.ext hx; replace B2 := B2.ext hx; replace BX := BX.ext hx; replace BY := BY.ext hx; replace BM := BM.ext hx; replace BQ := BQ.ext hx; clear hx; clear k0 k1 kl p0 p1 p2 p3 p4 p5 p6 p7 p8 p9 p10 p11 p12 pl x0 x1 x2 x3 x4 x5 xl y0 y1 y2 y3 y4 y5 yl m0 m1 ml qq0 qq1 qql; obtain ⟨k0, k1⟩ := B1.c2; have kl := B1.lt; obtain ⟨p0, p1, p2, p3, p4, p5, p6, p7, p8, p9, p10, p11, p12⟩ := held_d13 B2; have pl := B2.lt; obtain ⟨x0, x1, x2, x3, x4, x5⟩ := BX.c6; have xl := BX.lt; obtain ⟨y0, y1, y2, y3, y4, y5⟩ := BY.c6; have yl := BY.lt; obtain ⟨m0, m1⟩ := BM.c2; have ml := BM.lt; obtain ⟨qq0, qq1⟩ := BQ.c2; have qql := BQ.lt)
      obtain ⟨vb23, hv⟩ : ∃ x, x = (w13.alloc (.cells #[.int .i64 sn, .int .i64 sd] 52)) := ⟨_, rfl⟩
      rw [← hv]
      have hx : Ext w13 vb23 := by rw [hv]; exact (Ext.refl _).alloc _
      have BS : Held vb23 w13.heap.size 52 #[.int .i64 sn, .int .i64 sd] := by rw [hv]; exact Held.new _ _ _
      clear hv
      generalize w13.heap.size = bb23 at *
      clear k0 k1 kl p0 p1 p2 p3 p4 p5 p6 p7 p8 p9 p10 p11 p12 pl x0 x1 x2 x3 x4 x5 xl y0 y1 y2 y3 y4 y5 yl m0 m1 ml qq0 qq1 qql
      replace E := E.trans hx
      replace hE := hE.trans hx
      replace Z := Z.ext hx
      replace C := C.ext hx
      replace B := B.ext hx
      replace B1 := B1.ext hx
      replace B2 := B2.ext hx
      replace BX := BX.ext hx
      replace BY := BY.ext hx
      replace BM := BM.ext hx
      replace BQ := BQ.ext hx
      clear hx
      obtain ⟨k0, k1⟩ := B1.c2
      have kl := B1.lt
      obtain ⟨p0, p1, p2, p3, p4, p5, p6, p7, p8, p9, p10, p11, p12⟩ := held_d13 B2
      have pl := B2.lt
      obtain ⟨x0, x1, x2, x3, x4, x5⟩ := BX.c6
      have xl := BX.lt
      obtain ⟨y0, y1, y2, y3, y4, y5⟩ := BY.c6
      have yl := BY.lt
      obtain ⟨m0, m1⟩ := BM.c2
      have ml := BM.lt
      obtain ⟨qq0, qq1⟩ := BQ.c2
      have qql := BQ.lt
      obtain ⟨ss0, ss1⟩ := BS.c2
      have ssl := BS.lt
      clear T1 T2 TS
      obtain ⟨bl, d0, d1, d2, d3, d4, d5⟩ := pay_get B hlt
      refine wp_region_xw vb23 mixed (by kernel_rfl) (by repeat (first | exact Ext.refl _ | (refine Ext.alloc ?_ _) | (refine Ext.trans ?_ (by assumption)))) ?_
      intro hne hrx hry
      try simp only []
      try simp only [List.append_eq, List.cons_append, List.nil_append]
      skip
      repeat (first
        | go_big_quiet_skip
        | ((with_reducible apply q_and)
           · exact rfl
           · exact rfl
           · exact rfl
           intro K hK
           unfold Then; go_big_quiet_op; (with_reducible refine hK _ ?_); clear hK K)
        | ((with_reducible apply q_or)
           · exact rfl
           · exact rfl
           · exact rfl
           intro K hK
           unfold Then; go_big_quiet_op; (with_reducible refine hK _ ?_); clear hK K)
        | (go_big_quiet_want; go_big_quiet_op; go_big_quiet_on)
        | ((with_reducible apply q_and_g)
           · first | exact wanted_pt rfl rfl rfl | exact wanted_pf rfl rfl rfl | exact wanted_gt rfl rfl rfl | exact wanted_gf rfl rfl rfl
           · exact rfl
           · exact rfl
           · exact rfl
           intro K hK
           unfold Then; go_big_quiet_op; (with_reducible refine hK _ ?_); clear hK K)
        | ((with_reducible apply q_or_g)
           · first | exact wanted_pt rfl rfl rfl | exact wanted_pf rfl rfl rfl | exact wanted_gt rfl rfl rfl | exact wanted_gf rfl rfl rfl
           · exact rfl
           · exact rfl
           · exact rfl
           intro K hK
           unfold Then; go_big_quiet_op; (with_reducible refine hK _ ?_); clear hK K)
        | ((with_reducible apply q_sym)
           · first | exact wanted_pt rfl rfl rfl | exact wanted_pf rfl rfl rfl | exact wanted_gt rfl rfl rfl | exact wanted_gf rfl rfl rfl
           apply Exists.intro
           refine And.intro (fun hgb => ?_) ?_
           · intro u
             try simp at hgb
             go_simp
             try simp only [if_pos hsl]
             try simp only [if_pos (hin (by omega))]
             try (simp only [hd0 (by omega)]; go_simp)
             try (rw [hlook _ (Ext.trans (by repeat (first | exact Ext.refl _ | (refine Ext.alloc ?_ _) | (refine Ext.trans ?_ (by assumption)))) u.e) (hlk0 hgb)]; go_simp)
             first
               | (with_reducible exact rfl)
           intro K hK
           unfold Then; go_big_quiet_op; (with_reducible refine hK _ ?_); clear hK K))
      clear hne hry hrx
      refine wpQuiet_nil ?_
      intro v14 hx
      obtain ⟨hcv14, hfv14, hzv14⟩ := Ext.rules hx
      try simp only [World.size_alloc] at hzv14
      obtain ⟨hcbv14, hfbv14, hzbv14⟩ := Ext.rules (show Ext vb23 v14 from (by repeat (first | exact Ext.refl _ | (refine Ext.alloc ?_ _) | (refine Ext.trans ?_ (by assumption)))))
      clear hcv14 hfv14
      have hg : Hid ((mp && qp && (se == 0) && (!(sn == (f k).n.n) || !(sd == (f k).n.d))) = false) := by
        unfold Hid
        cases mp
        · rfl
        cases qp
        · rfl
        by_cases e : se = 0
        · have h := kd.out (by trivial) (by trivial) (by first | trivial | exact e)
          rw [← h, beq_self_eq_true, beq_self_eq_true, Bool.not_true, Bool.or_self, Bool.and_false]
        · rw [beq_eq_false_iff_ne.2 e]; rfl
      generalize (mp && qp && (se == 0) && (!(sn == (f k).n.n) || !(sd == (f k).n.d))) = g at *
      have hg0 := hg.out
      subst hg0
      clear kd hg d0 d1 d2 d3 d4 d5 bl
      replace E := E.trans hx
      replace hE := hE.trans hx
      replace Z := Z.ext hx
      replace C := C.ext hx
      replace B := B.ext hx
      replace B1 := B1.ext hx
      replace B2 := B2.ext hx
      replace BX := BX.ext hx
      replace BY := BY.ext hx
      replace BM := BM.ext hx
      replace BQ := BQ.ext hx
      replace BS := BS.ext hx
      clear hx
      clear k0 k1 kl p0 p1 p2 p3 p4 p5 p6 p7 p8 p9 p10 p11 p12 pl x0 x1 x2 x3 x4 x5 xl y0 y1 y2 y3 y4 y5 yl m0 m1 ml qq0 qq1 qql ss0 ss1 ssl
      go_upto_region 15 with (fail)
      obtain ⟨k0, k1⟩ := B1.c2
      have kl := B1.lt
      obtain ⟨p0, p1, p2, p3, p4, p5, p6, p7, p8, p9, p10, p11, p12⟩ := held_d13 B2
      have pl := B2.lt
      obtain ⟨x0, x1, x2, x3, x4, x5⟩ := BX.c6
      have xl := BX.lt
      obtain ⟨y0, y1, y2, y3, y4, y5⟩ := BY.c6
      have yl := BY.lt
      obtain ⟨m0, m1⟩ := BM.c2
      have ml := BM.lt
      obtain ⟨qq0, qq1⟩ := BQ.c2
      have qql := BQ.lt
      obtain ⟨ss0, ss1⟩ := BS.c2
      have ssl := BS.lt
      have a1 : decide (Y.p.n < 0) = false := decide_eq_false (by have := (nn_parts ky.p).2; omega)
      have a2 : decide (Y.i.n < 0) = false := decide_eq_false (by have := (nn_parts ky.i).2; omega)
      have a3 : decide (Y.s.n < 0) = false := decide_eq_false (by have := (nn_parts ky.s).2; omega)
      clear kx ky
      obtain ⟨⟨xpn, xpd⟩, ⟨xin, xid⟩, ⟨xsn, xsd⟩⟩ := X
      obtain ⟨⟨ypn, ypd⟩, ⟨yin, yid⟩, ⟨ysn, ysd⟩⟩ := Y
      simp only at kp ks a1 a2 a3 x0 x1 x2 x3 x4 x5 y0 y1 y2 y3 y4 y5
      have q1 : Hid ((decide (0 < yin) = false) ∨ (decide (0 < yin) = true ∧ ypn = xpn ∧ ypd = xpd)) := by
        by_cases h : 0 < yin
        · have h2 := kp.out h
          rw [Rt.mk.injEq] at h2
          exact .inr ⟨decide_eq_true h, h2.1, h2.2⟩
        · exact .inl (decide_eq_false h)
      have q2 : Hid ((ysn = xsn ∧ ysd = xsd) ∨ ((!(ysn == xsn) || !(ysd == xsd)) = true ∧ decide (0 < ypn) = false ∧ decide (0 < yin) = false)) := by
        by_cases h : (Rt.mk ysn ysd) = Rt.mk xsn xsd
        · rw [Rt.mk.injEq] at h
          exact .inl h
        · have h2 := ks.out h
          refine .inr ⟨?_, decide_eq_false (by omega), decide_eq_false (by omega)⟩
          rw [Rt.mk.injEq] at h
          by_cases e1 : ysn = xsn
          · rw [beq_eq_false_iff_ne.2 (fun e2 => h ⟨e1, e2⟩)]; simp
          · rw [beq_eq_false_iff_ne.2 e1]; rfl
      clear kp ks
      rcases q1.out with b1' | ⟨b1', rfl, rfl⟩
      · rcases q2.out with ⟨rfl, rfl⟩ | ⟨b2', b3', _⟩
        · clear q1 q2
          go_wp2
          exact ⟨⟨k + 1, by omega, by go_num, hE⟩, by simp [intOf]; omega⟩
        · clear q1 q2
          go_wp2
          exact ⟨⟨k + 1, by omega, by go_num, hE⟩, by simp [intOf]; omega⟩
      · rcases q2.out with ⟨rfl, rfl⟩ | ⟨b2', b3', b4'⟩
        · clear q1 q2
          go_wp2
          exact ⟨⟨k + 1, by omega, by go_num, hE⟩, by simp [intOf]; omega⟩
        · rw [b1'] at b4'
          cases b4'

    · obtain rfl : k = n := by omega
      go_wp2_with (first | (go_at_call 21; (with_reducible refine Calls.mono (works8_any _ Z) ?_); rintro e wk ⟨rfl, hk⟩))
      go_ret
      exact ⟨rfl, E.trans hk⟩

end Go.Proofs.YtlnjeklmkjgidaaDoor
