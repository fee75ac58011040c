/- The walk of LedgerSettleClears. -/
import Derived.Test.YtlnjeklmkjgidaaDoorCV7
namespace Go.Proofs.YtlnjeklmkjgidaaDoor
open Go Go.RowKit Go.Shelf
attribute [local go_sem] gv_yes
attribute [local go_sem high] neq_ratio neq_debt eql_debt

theorem in2E_ok {c : Cal} {a b : Dt} (hv : c.valid = true) (ha : c.numV a ≠ 0) (hb : c.numV b ≠ 0) : c.in2E a b = 0 ∧ c.betV a b = c.numV b - c.numV a := by
  obtain ⟨h1, h2, _⟩ := numV_has hv ha
  obtain ⟨h3, h4, _⟩ := numV_has hv hb
  have h : c.in2E a b = 0 := by unfold Cal.in2E; rw [if_pos hv, h1, h3]; rfl
  exact ⟨h, by unfold Cal.betV; rw [if_pos h, h2, h4]⟩
theorem in2E_of {c : Cal} {a b : Dt} (hv : c.valid = true) (h : c.in2E a b = 0) : c.numV a ≠ 0 ∧ c.numV b ≠ 0 := by
  unfold Cal.in2E at h
  rw [if_pos hv] at h
  constructor
  · intro h0
    rw [(numV_zero hv).1 h0] at h
    simp at h
  · intro h0
    rw [(numV_zero hv).1 h0, Bool.and_false] at h
    simp at h
theorem owed_num {c : Cal} {l : Ln} {f : Nat → Pay} {n : Nat} {on : Dt} (h : (c.owedV l f n on).2 = 0) : c.loanE l f n = 0 ∧ c.numV on ≠ 0 := by
  unfold Cal.owedV at h
  by_cases h1 : c.loanE l f n ≠ 0
  · rw [if_pos h1] at h; exact absurd h h1
  · rw [if_neg h1] at h
    by_cases h2 : c.numV on = 0
    · rw [if_pos h2] at h; exact absurd h (by decide)
    · exact ⟨Decidable.not_not.1 h1, h2⟩
theorem info_pay : (Tryd.prog.info? 87).map (fun i => (i.zero, i.size, i.bytes)) = some (some (.agg #[.int .i64 0, .int .i64 0, .bool false, .int .i64 0, .int .i64 0, .int .i64 0]), 6, 48) := by kernel_rfl
theorem settle_in (c : Cal) (l : Ln) (f : Nat → Pay) (n : Nat) (on : Dt) : (c.settleV l f n on).1.In := by
  unfold Cal.settleV
  split
  · exact rat0_in
  · exact addR_in _ _
theorem payr_add {f : Nat → Pay} {n : Nat} {x : Pay} : flatL (payr f) n ++ [.int .i64 x.on.y, .int .i64 x.on.m, .bool x.on.s, .int .i64 x.on.d, .int .i64 x.n.n, .int .i64 x.n.d] = flatL (payr (addPay f n x)) (n + 1) := by
  rw [flatL_succ]
  have h1 : ∀ k, k ≤ n → flatL (payr f) k = flatL (payr (addPay f n x)) k := fun k => by
    induction k with
    | zero => intro _; rfl
    | succ k ih =>
      intro hk
      rw [flatL_succ, flatL_succ, ih (by omega)]
      have : payr (addPay f n x) k = payr f k := by unfold payr addPay; rw [if_pos (by omega)]
      rw [this]
  rw [h1 n (Nat.le_refl _)]
  have : payr (addPay f n x) n = [.int .i64 x.on.y, .int .i64 x.on.m, .bool x.on.s, .int .i64 x.on.d, .int .i64 x.n.n, .int .i64 x.n.d] := by unfold payr addPay; rw [if_neg (by omega)]
  rw [this]
def cut3w (A : Option Addr → Nat → Nat → Value → Act) (S : World → Value → Prop) : Exit → Act → World → Prop := fun e a' w' => e = .normal ∧ ∃ p m q r, S w' r ∧ a' = A p m q r
theorem cut3w_is {A : Option Addr → Nat → Nat → Value → Act} {S : World → Value → Prop} {w' : World} (p : Option Addr) (m q : Nat) (r : Value) {a' : Act} (h : S w' r) (ha : a' = A p m q r) : cut3w A S .normal a' w' := ⟨rfl, p, m, q, r, h, ha⟩
theorem wp_cut3w {P : Program} {c : Code} {Q : Exit → Act → World → Prop} {a : Act} {w : World} {A : Option Addr → Nat → Nat → Value → Act} (S : World → Value → Prop) (h1 : c.wp P (cut3w A S) a w) (h2 : ∀ p m q r w', S w' r → Q .normal (A p m q r) w') : c.wp P Q a w :=
  Code.wp_mono (fun e a' w' ⟨he, p, m, q, r, hs, ha⟩ => by subst he; subst ha; exact h2 p m q r w' hs) h1
set_option maxRecDepth 100000 in
set_option maxHeartbeats 40000000 in
theorem ledgerSettleClears_walk (A A' : Option Addr) (ca cb : Nat) (c : Cal) (l : Ln) (B : Option Addr) (n cap : Nat) (f : Nat → Pay) (on later : Dt) (w : World) (hC : CalAt w A ca A' cb c) (hB : RowsAt w B n 6 (payr f)) (hcap : n ≤ cap) (hmax : cap ≤ maxLen) (hlp : l.p.In) (hlr : l.r.In) (hin : ∀ i, i < n → (f i).n.In) (hnil : B = none → n = 0 ∧ cap = 0) (hZ : Zro w) :
    Calls Tryd.prog 9 #[.agg #[.slice A c.nk ca, .slice A' c.ny cb], .agg #[.int .i64 l.p.n, .int .i64 l.p.d, .int .i64 l.r.n, .int .i64 l.r.d, .int .i64 l.f.y, .int .i64 l.f.m, .bool l.f.s, .int .i64 l.f.d, .slice B n cap, .int .i64 on.y, .int .i64 on.m, .bool on.s, .int .i64 on.d], .agg #[.int .i64 later.y, .int .i64 later.m, .bool later.s, .int .i64 later.d]] w fun e w' => e = .returned (.bool true) ∧ Ext w w' := by
  have n63 : n ≤ 9223372036854775807 := Nat.le_trans hcap (Nat.le_trans hmax (by decide))
  have NO := fun w hC hB hZ => owedF_any A A' ca cb c B n cap l f hlp hlr hin w hC hB n63 hZ on
  have NS := fun w hC hB hZ => settle_any A A' ca cb c B n cap l f hlp hlr hin w hC hB n63 hZ on
  have NP := fun D m (g : Nat → Pay) (hg : ∀ i, i < n + 1 → (g i).n.In) (hn : n ≤ 64) w hC hD o hZ => owedF_any A A' ca cb c D (n + 1) m l g hlp hlr hg w hC hD (by omega) hZ o
  have NB := fun a b w hC => betweenX_any A A' ca cb c a b w hC
  have hst := settle_in c l f n on
  obtain ⟨X, hX⟩ : ∃ x, x = c.owedV l f n on := ⟨_, rfl⟩
  obtain ⟨Y, hY⟩ : ∃ x, x = c.settleV l f n on := ⟨_, rfl⟩
  simp only [← hX] at NO
  simp only [← hY] at NS hst
  replace hX := Lib.hid hX
  replace hY := Lib.hid hY
  replace hin := Lib.hid hin
  replace hst := Lib.hid hst
  obtain ⟨X, xe⟩ := X
  obtain ⟨Y, ye⟩ := Y
  simp only at NO NS hst
  go_enter Tryd.func9, Tryd.ntmps9
  go_upto_region 1 with (fail)
  obtain ⟨v, hv⟩ : ∃ v, v = (((w.alloc (.cells #[.slice A c.nk ca, .slice A' c.ny cb] 25)).alloc (.cells #[.int .i64 l.p.n, .int .i64 l.p.d, .int .i64 l.r.n, .int .i64 l.r.d, .int .i64 l.f.y, .int .i64 l.f.m, .bool l.f.s, .int .i64 l.f.d, .slice B n cap, .int .i64 on.y, .int .i64 on.m, .bool on.s, .int .i64 on.d] 80)).alloc (.cells #[.int .i64 later.y, .int .i64 later.m, .bool later.s, .int .i64 later.d] 29)) := ⟨_, rfl⟩
  rw [← hv]
  have E : Ext w v := by rw [hv]; exact (((Ext.refl _).alloc _).alloc _).alloc _
  have B1 : Held v w.heap.size 25 #[.slice A c.nk ca, .slice A' c.ny cb] := by rw [hv]; exact ((Held.new _ _ _).alloc _).alloc _
  have B2 : Held v (w.heap.size + 1) 80 #[.int .i64 l.p.n, .int .i64 l.p.d, .int .i64 l.r.n, .int .i64 l.r.d, .int .i64 l.f.y, .int .i64 l.f.m, .bool l.f.s, .int .i64 l.f.d, .slice B n cap, .int .i64 on.y, .int .i64 on.m, .bool on.s, .int .i64 on.d] := by rw [hv]; exact (Held.at _ _ _ _ (by simp)).alloc _
  have B3 : Held v (w.heap.size + 1 + 1) 29 #[.int .i64 later.y, .int .i64 later.m, .bool later.s, .int .i64 later.d] := by rw [hv]; exact Held.at _ _ _ _ (by simp)
  clear hv
  obtain ⟨b3, hb3⟩ : ∃ b, b = w.heap.size + 1 + 1 := ⟨_, rfl⟩
  rw [← hb3] at B3 ⊢
  obtain ⟨b2, hb2⟩ : ∃ b, b = w.heap.size + 1 := ⟨_, rfl⟩
  rw [← hb2] at B2 ⊢
  obtain ⟨b1, hb1⟩ : ∃ b, b = w.heap.size := ⟨_, rfl⟩
  rw [← hb1] at B1 ⊢
  have hbr : w.heap.size ≤ b3 := by omega
  have hbr1 : w.heap.size ≤ b1 := by omega
  have hbr2 : w.heap.size ≤ b2 := by omega
  have hn21 : b2 ≠ b1 := by omega
  have hn31 : b3 ≠ b1 := by omega
  have hn32 : b3 ≠ b2 := by omega
  clear hb1 hb2 hb3
  have Z := hZ.ext E
  have C := hC.ext E
  have B := hB.ext E
  obtain ⟨k0, k1⟩ := B1.c2
  have kl := B1.lt
  obtain ⟨p0, p1, p2, p3, p4, p5, p6, p7, p8, p9, p10, p11, p12⟩ := held_d13 B2
  have pl := B2.lt
  obtain ⟨q0, q1, q2, q3⟩ := B3.c4
  have ql := B3.lt
  clear hC hB hZ
  go_upto_region 2 with (go_at_call 30; (with_reducible refine Calls.mono (NO _ C B Z) ?_); rintro e w1 ⟨rfl, hx⟩; replace E := E.trans hx; replace Z := Z.ext hx; replace C := C.ext hx; replace B := B.ext hx; replace B1 := B1.ext hx; replace B2 := B2.ext hx; replace B3 := B3.ext hx; clear hx; clear k0 k1 kl p0 p1 p2 p3 p4 p5 p6 p7 p8 p9 p10 p11 p12 pl q0 q1 q2 q3 ql; obtain ⟨k0, k1⟩ := B1.c2; have kl := B1.lt; obtain ⟨p0, p1, p2, p3, p4, p5, p6, p7, p8, p9, p10, p11, p12⟩ := held_d13 B2; have pl := B2.lt; obtain ⟨q0, q1, q2, q3⟩ := B3.c4; have ql := B3.lt)
  obtain ⟨vb1, hv⟩ : ∃ x, x = (w1.alloc (.cells #[.int .i64 X.p.n, .int .i64 X.p.d, .int .i64 X.i.n, .int .i64 X.i.d, .int .i64 X.s.n, .int .i64 X.s.d] 83)) := ⟨_, rfl⟩
  rw [← hv]
  have hx : Ext w1 vb1 := by rw [hv]; exact (Ext.refl _).alloc _
  have BX : Held vb1 w1.heap.size 83 #[.int .i64 X.p.n, .int .i64 X.p.d, .int .i64 X.i.n, .int .i64 X.i.d, .int .i64 X.s.n, .int .i64 X.s.d] := by rw [hv]; exact Held.new _ _ _
  clear hv
  generalize w1.heap.size = bb1 at *
  clear k0 k1 kl p0 p1 p2 p3 p4 p5 p6 p7 p8 p9 p10 p11 p12 pl q0 q1 q2 q3 ql
  replace E := E.trans hx
  replace Z := Z.ext hx
  replace C := C.ext hx
  replace B := B.ext hx
  replace B1 := B1.ext hx
  replace B2 := B2.ext hx
  replace B3 := B3.ext hx
  clear hx
  obtain ⟨k0, k1⟩ := B1.c2
  have kl := B1.lt
  obtain ⟨p0, p1, p2, p3, p4, p5, p6, p7, p8, p9, p10, p11, p12⟩ := held_d13 B2
  have pl := B2.lt
  obtain ⟨q0, q1, q2, q3⟩ := B3.c4
  have ql := B3.lt
  obtain ⟨x0, x1, x2, x3, x4, x5⟩ := BX.c6
  have xl := BX.lt
  go_upto_region 3 with (go_at_call 33; (with_reducible refine Calls.mono (NS _ C B Z) ?_); rintro e w2 ⟨rfl, hx⟩; replace E := E.trans hx; replace Z := Z.ext hx; replace C := C.ext hx; replace B := B.ext hx; replace B1 := B1.ext hx; replace B2 := B2.ext hx; replace B3 := B3.ext hx; replace BX := BX.ext hx; clear hx; clear k0 k1 kl p0 p1 p2 p3 p4 p5 p6 p7 p8 p9 p10 p11 p12 pl q0 q1 q2 q3 ql x0 x1 x2 x3 x4 x5 xl; obtain ⟨k0, k1⟩ := B1.c2; have kl := B1.lt; obtain ⟨p0, p1, p2, p3, p4, p5, p6, p7, p8, p9, p10, p11, p12⟩ := held_d13 B2; have pl := B2.lt; obtain ⟨q0, q1, q2, q3⟩ := B3.c4; have ql := B3.lt; obtain ⟨x0, x1, x2, x3, x4, x5⟩ := BX.c6; have xl := BX.lt)
  obtain ⟨vb2, hv⟩ : ∃ x, x = (w2.alloc (.cells #[.int .i64 Y.n, .int .i64 Y.d] 52)) := ⟨_, rfl⟩
  rw [← hv]
  have hx : Ext w2 vb2 := by rw [hv]; exact (Ext.refl _).alloc _
  have BS : Held vb2 w2.heap.size 52 #[.int .i64 Y.n, .int .i64 Y.d] := by rw [hv]; exact Held.new _ _ _
  clear hv
  generalize w2.heap.size = bb2 at *
  clear k0 k1 kl p0 p1 p2 p3 p4 p5 p6 p7 p8 p9 p10 p11 p12 pl q0 q1 q2 q3 ql x0 x1 x2 x3 x4 x5 xl
  replace E := E.trans hx
  replace Z := Z.ext hx
  replace C := C.ext hx
  replace B := B.ext hx
  replace B1 := B1.ext hx
  replace B2 := B2.ext hx
  replace B3 := B3.ext hx
  replace BX := BX.ext hx
  clear hx
  obtain ⟨k0, k1⟩ := B1.c2
  have kl := B1.lt
  obtain ⟨p0, p1, p2, p3, p4, p5, p6, p7, p8, p9, p10, p11, p12⟩ := held_d13 B2
  have pl := B2.lt
  obtain ⟨q0, q1, q2, q3⟩ := B3.c4
  have ql := B3.lt
  obtain ⟨x0, x1, x2, x3, x4, x5⟩ := BX.c6
  have xl := BX.lt
  obtain ⟨y0, y1⟩ := BS.c2
  have yl := BS.lt
  clear NO NS
  by_cases hxe : xe = 0
  rotate_left
  · have g0 : (xe == 0) = false := beq_eq_false_iff_ne.2 hxe
    have g0n : (xe != 0) = true := by rw [bne, g0]; rfl
    clear hX hY NP NB hxe
    go_wp2_with (first | (go_at_call 21; (with_reducible refine Calls.mono (works8_any _ Z) ?_); rintro e wk ⟨rfl, hk⟩))
    go_ret
    exact ⟨rfl, E.trans hk⟩
  subst hxe
  by_cases hye : ye = 0
  rotate_left
  · have g0 : (ye == 0) = false := beq_eq_false_iff_ne.2 hye
    have g0n : (ye != 0) = true := by rw [bne, g0]; rfl
    clear hX hY NP NB hye
    go_wp2_with (first | (go_at_call 21; (with_reducible refine Calls.mono (works8_any _ Z) ?_); rintro e wk ⟨rfl, hk⟩))
    go_ret
    exact ⟨rfl, E.trans hk⟩
  subst hye
  obtain ⟨hle, hon⟩ := owed_num (c := c) (l := l) (f := f) (n := n) (on := on) (by rw [← hX.out])
  obtain ⟨hv, h64, hlo⟩ := loanE_ok hle
  have hon := Lib.hid hon
  have CL := Lib.hid (fun hn hl h0 => clears (c := c) (l := l) (f := f) (n := n) (on := on) (later := later) hn (by rw [← hX.out]) (by rw [← hY.out]) hl h0)
  have hv := Lib.hid hv
  by_cases hn0 : n = 0
  · have gn : decide ((0 : Int) < (n : Int)) = false := decide_eq_false (by omega)
    have gn' : decide (0 < n) = false := decide_eq_false (by omega)
    have hl : Hid (0 < n → c.numV (f (n - 1)).on ≤ c.numV on) := fun h => absurd h (by omega)
    clear hn0
    go_upto_region 10 with (fail)
    skip
    clear k0 k1 kl p0 p1 p2 p3 p4 p5 p6 p7 p8 p9 p10 p11 p12 pl q0 q1 q2 q3 ql x0 x1 x2 x3 x4 x5 xl y0 y1 yl
    obtain ⟨i0, hi, hz0, hz1, hz2⟩ := info_parts info_pay
    have hlen := flatL_len (f := payr f) (sz := 6) (fun _ => rfl) n
    have hone : ∀ u ∈ flatL (payr f) n, u.oneCell' = true := flat_one (f := payr f) (n := n) (fun i u hu => by simp [payr] at hu; rcases hu with rfl | rfl | rfl | rfl | rfl | rfl <;> simp [Value.oneCell'])
    have cellsP : ∀ u ∈ [Value.int .i64 on.y, .int .i64 on.m, .bool on.s, .int .i64 on.d, Value.int .i64 Y.n, .int .i64 Y.d], u.oneCell' = true := by simp [Value.oneCell']
    have B0 := B
    apply wp_cut3w (S := fun w' p => Ext vb2 w' ∧ w'.ownsRow vb2.heap.size 87 6 p (n + 1) (flatL (payr f) n ++ [.int .i64 on.y, .int .i64 on.m, .bool on.s, .int .i64 on.d, .int .i64 Y.n, .int .i64 Y.d]))
    · refine wp_region_z 11 [10] (fun x => Ext vb2 x) mixed rfl ?_
      intro vz hvz
      have HC := hvz
      refine z_stills (g := 4) [0, 1, 2, 4, 5, 6, 7] [_, _, _, _, _, _, _] ⟨rfl, rfl, rfl, rfl, rfl, rfl, rfl, trivial⟩ (by kernel_rfl) (by kernel_rfl) HC ?_
      simp only [List.getElem_toArray, List.getElem_cons_succ, List.getElem_cons_zero]
      apply Exists.intro
      refine ⟨fun u hu => ?_, ?_⟩
      · obtain ⟨p0, p1, p2, p3, p4, p5, p6, p7, p8, p9, p10, p11, p12⟩ := held_d13 (B2.ext hu)
        have pl := (B2.ext hu).lt
        obtain ⟨y0, y1⟩ := (BS.ext hu).c2
        have yl := (BS.ext hu).lt
        repeat (first | go_big_quiet_skip | (go_big_quiet_want; go_big_quiet_op; go_big_quiet_on))
        refine wpQuiet_nil ?_
        rfl
      refine z_two 3 8 rfl rfl (by kernel_rfl) ?_ ?_
      · simp only [List.getElem_toArray, List.getElem_cons_succ, List.getElem_cons_zero]
        go_wp2_with (at_builtin; refine wpList_append_copy rfl _ _ 78 rfl vb2.heap.size 87 i0 (.agg #[.int .i64 0, .int .i64 0, .bool false, .int .i64 0, .int .i64 0, .int .i64 0]) 6 48 Tryd.underlying78 hi hz0 hz1 hz2 rfl (by decide) rfl _ n cap (flatL (payr f) n) rfl hnil hlen (flat_news (f := payr f) (sz := 6) (fun _ => rfl) (by decide) (B0.ext HC)) hone (by unfold maxLen; omega) (by omega) (by have := HC.size; omega) ?_; intro v1 w1 hown hgrow)
        have hx := (Ext.refl _).grown hgrow (fun k h => by cases h)
        replace HC := HC.trans hx
        try replace HQ := HQ.ext hx
        obtain ⟨F1, m1, rfl⟩ := own_sl hown
        clear hgrow hx
        refine onQ_in HC ?_
        refine z_one 8 rfl (by kernel_rfl) ?_
        simp only [List.getElem_toArray, List.getElem_cons_succ, List.getElem_cons_zero]
        go_wp2
        obtain ⟨bq, wb, hbq, hwb, HQ, HC', hx, _⟩ := ex_new2 HC 87 #[.int .i64 on.y, .int .i64 on.m, .bool on.s, .int .i64 on.d, .int .i64 Y.n, .int .i64 Y.d]
        rw [← hbq, ← hwb]
        replace HC := HC'
        try replace hown := own_ext hown hx
        clear hbq hwb hx HC'
        refine onQ_in HC ?_
        refine z_one 9 rfl (by kernel_rfl) ?_
        simp only [List.getElem_toArray, List.getElem_cons_succ, List.getElem_cons_zero]
        go_wp2_with (at_builtin; refine wpList_append_own_at _ rfl _ _ 78 rfl vb2.heap.size 87 i0 (.agg #[.int .i64 0, .int .i64 0, .bool false, .int .i64 0, .int .i64 0, .int .i64 0]) 6 48 Tryd.underlying78 hi hz0 hz1 hz2 rfl (by decide) _ _ _ rfl hown ⟨bq, 0, none⟩ 1 1 [.int .i64 on.y, .int .i64 on.m, .bool on.s, .int .i64 on.d, .int .i64 Y.n, .int .i64 Y.d] rfl rfl (held_newsL HQ) cellsP (by unfold maxLen; omega) (by omega) (by have := HC.size; omega) ?_; intro v2 w2 hown2 hgrow _ _)
        replace HC := HC.grown hgrow (fun q hq => (row_type hown q hq).1)
        clear hgrow hown HQ
        refine onQ_in HC ?_
        refine z_end 10 rfl (by kernel_rfl) ?_
        simp only [List.getElem_toArray, List.getElem_cons_succ, List.getElem_cons_zero]
        go_wp2
        refine onQ_last ?_
        refine z_done (by kernel_rfl) ?_
        exact cut3w_is F1 m1 bq v2 ⟨HC, hown2⟩ rfl
      · simp only [List.getElem_toArray, List.getElem_cons_succ, List.getElem_cons_zero]
        go_wp2
        obtain ⟨bq, wb, hbq, hwb, HQ, HC', hx, _⟩ := ex_new2 HC 87 #[.int .i64 on.y, .int .i64 on.m, .bool on.s, .int .i64 on.d, .int .i64 Y.n, .int .i64 Y.d]
        rw [← hbq, ← hwb]
        replace HC := HC'
        try replace hown := own_ext hown hx
        clear hbq hwb hx HC'
        refine onQ_in HC ?_
        refine z_one 3 rfl (by kernel_rfl) ?_
        simp only [List.getElem_toArray, List.getElem_cons_succ, List.getElem_cons_zero]
        go_wp2_with (at_builtin; refine wpList_append_copy rfl _ _ 78 rfl vb2.heap.size 87 i0 (.agg #[.int .i64 0, .int .i64 0, .bool false, .int .i64 0, .int .i64 0, .int .i64 0]) 6 48 Tryd.underlying78 hi hz0 hz1 hz2 rfl (by decide) rfl _ n cap (flatL (payr f) n) rfl hnil hlen (flat_news (f := payr f) (sz := 6) (fun _ => rfl) (by decide) (B0.ext HC)) hone (by unfold maxLen; omega) (by omega) (by have := HC.size; omega) ?_; intro v1 w1 hown hgrow)
        have hx := (Ext.refl _).grown hgrow (fun k h => by cases h)
        replace HC := HC.trans hx
        try replace HQ := HQ.ext hx
        obtain ⟨F1, m1, rfl⟩ := own_sl hown
        clear hgrow hx
        refine onQ_in HC ?_
        refine z_one 9 rfl (by kernel_rfl) ?_
        simp only [List.getElem_toArray, List.getElem_cons_succ, List.getElem_cons_zero]
        go_wp2_with (at_builtin; refine wpList_append_own_at _ rfl _ _ 78 rfl vb2.heap.size 87 i0 (.agg #[.int .i64 0, .int .i64 0, .bool false, .int .i64 0, .int .i64 0, .int .i64 0]) 6 48 Tryd.underlying78 hi hz0 hz1 hz2 rfl (by decide) _ _ _ rfl hown ⟨bq, 0, none⟩ 1 1 [.int .i64 on.y, .int .i64 on.m, .bool on.s, .int .i64 on.d, .int .i64 Y.n, .int .i64 Y.d] rfl rfl (held_newsL HQ) cellsP (by unfold maxLen; omega) (by omega) (by have := HC.size; omega) ?_; intro v2 w2 hown2 hgrow _ _)
        replace HC := HC.grown hgrow (fun q hq => (row_type hown q hq).1)
        clear hgrow hown HQ
        refine onQ_in HC ?_
        refine z_end 10 rfl (by kernel_rfl) ?_
        simp only [List.getElem_toArray, List.getElem_cons_succ, List.getElem_cons_zero]
        go_wp2
        refine onQ_last ?_
        refine z_done (by kernel_rfl) ?_
        exact cut3w_is F1 m1 bq v2 ⟨HC, hown2⟩ rfl
    rintro p1 pm bq' pv v10 ⟨hx, hown⟩
    rw [payr_add (x := ⟨on, Y⟩)] at hown
    obtain ⟨D, md, rfl, hD, hmd, _, _⟩ := flat_rows (f := payr (addPay f n ⟨on, Y⟩)) (fun _ => rfl) hown
    clear hown hi hz0 hz1 hz2 hlen hone cellsP B0 i0
    replace E := E.trans hx
    replace Z := Z.ext hx
    replace C := C.ext hx
    replace B := B.ext hx
    replace B1 := B1.ext hx
    replace B2 := B2.ext hx
    replace B3 := B3.ext hx
    replace BX := BX.ext hx
    replace BS := BS.ext hx
    clear hx
    obtain ⟨k0, k1⟩ := B1.c2
    have kl := B1.lt
    obtain ⟨p0, p1, p2, p3, p4, p5, p6, p7, p8, p9, p10, p11, p12⟩ := held_d13 B2
    have pl := B2.lt
    obtain ⟨q0, q1, q2, q3⟩ := B3.c4
    have ql := B3.lt
    obtain ⟨x0, x1, x2, x3, x4, x5⟩ := BX.c6
    have xl := BX.lt
    obtain ⟨y0, y1⟩ := BS.c2
    have yl := BS.lt
    have hg : Hid (∀ i, i < n + 1 → (addPay f n ⟨on, Y⟩ i).n.In) := fun i hi => by
      unfold addPay
      by_cases h : i < n
      · rw [if_pos h]; exact hin.out i h
      · rw [if_neg h]; exact hst.out
    have NQ := fun w hC hD o hZ => NP D md (addPay f n ⟨on, Y⟩) hg.out h64 w hC hD o hZ
    clear NP hg
    by_cases hs0 : Y.n = 0
    · have g1 : (Y.n == 0) = true := by rw [hs0]; rfl
      clear CL NQ NB hs0 hX hY hl
      go_wp2_with (first | (go_at_call 21; (with_reducible refine Calls.mono (works8_any _ Z) ?_); rintro e wk ⟨rfl, hk⟩))
      go_ret
      exact ⟨rfl, E.trans hk⟩
    have g1 : (Y.n == 0) = false := beq_eq_false_iff_ne.2 hs0
    by_cases hn1 : 64 < n + 1
    · have g2 : decide ((64 : Int) < (n : Int) + 1) = true := decide_eq_true (by omega)
      clear CL NQ NB hs0 hX hY hl hn1
      go_wp2_with (first | (go_at_call 21; (with_reducible refine Calls.mono (works8_any _ Z) ?_); rintro e wk ⟨rfl, hk⟩))
      go_ret
      exact ⟨rfl, E.trans hk⟩
    have g2 : decide ((64 : Int) < (n : Int) + 1) = false := decide_eq_false (by omega)
    obtain ⟨c1, c2⟩ := CL.out (by omega) hl.out (by rw [← hY.out]; exact hs0)
    rw [← hY.out, ← hX.out] at c1 c2
    simp only at c1 c2
    have c2 := Lib.hid c2
    have NQ1 := fun w hC hD hZ => NQ w hC hD on hZ
    rw [c1] at NQ1
    clear CL c1 hs0 hn1 hY hX
    go_upto_region 13 with (fail)
    clear k0 k1 kl p0 p1 p2 p3 p4 p5 p6 p7 p8 p9 p10 p11 p12 pl q0 q1 q2 q3 ql x0 x1 x2 x3 x4 x5 xl y0 y1 yl
    apply wp_cut1y (S := fun w' r => Ext v10 w' ∧ Held w' r 83 #[.int .i64 0, .int .i64 1, .int .i64 0, .int .i64 1, .int .i64 X.s.n, .int .i64 X.s.d])
    · refine wp_region_z 7 [6] (fun x => Ext v10 x) mixed rfl ?_
      intro vz hvz
      have HC := hvz
      refine z_stills (g := 5) [2, 3] [_, _] ⟨rfl, rfl, trivial⟩ (by kernel_rfl) (by kernel_rfl) HC ?_
      simp only [List.getElem_toArray, List.getElem_cons_succ, List.getElem_cons_zero]
      apply Exists.intro
      refine ⟨fun u hu => ?_, ?_⟩
      · obtain ⟨x0, x1, x2, x3, x4, x5⟩ := (BX.ext hu).c6
        have xl := (BX.ext hu).lt
        repeat (first | go_big_quiet_skip | (go_big_quiet_want; go_big_quiet_op; go_big_quiet_on))
        refine wpQuiet_nil ?_
        rfl
      refine z_two 0 5 rfl rfl (by kernel_rfl) ?_ ?_
      · simp only [List.getElem_toArray, List.getElem_cons_zero]
        go_wp2_with (go_at_call 35; (with_reducible refine Calls.mono (q_any _ _ _) ?_); rintro e wa ⟨rfl, hx⟩)
        replace HC := HC.trans hx
        try replace H5 := H5.ext hx
        clear hx
        refine onQ_in HC ?_
        refine z_two 1 5 rfl rfl (by kernel_rfl) ?_ ?_
        · simp only [List.getElem_toArray, List.getElem_cons_succ, List.getElem_cons_zero]
          go_wp2_with (go_at_call 35; (with_reducible refine Calls.mono (q_any _ _ _) ?_); rintro e wa ⟨rfl, hx⟩)
          replace HC := HC.trans hx
          try replace H5 := H5.ext hx
          clear hx
          refine onQ_in HC ?_
          refine z_stills (g := 2) [4] [_] ⟨rfl, trivial⟩ (by kernel_rfl) (by kernel_rfl) HC ?_
          simp only [List.getElem_toArray, List.getElem_cons_succ, List.getElem_cons_zero]
          apply Exists.intro
          refine ⟨fun u hu => ?_, ?_⟩
          · obtain ⟨x0, x1, x2, x3, x4, x5⟩ := (BX.ext hu).c6
            have xl := (BX.ext hu).lt
            repeat (first | go_big_quiet_skip | (go_big_quiet_want; go_big_quiet_op; go_big_quiet_on))
            refine wpQuiet_nil ?_
            rfl
          refine z_one 5 rfl (by kernel_rfl) ?_
          simp only [List.getElem_toArray, List.getElem_cons_succ, List.getElem_cons_zero]
          go_wp2
          obtain ⟨b9, wb, hbq, hwb, H5, HC', hx, g5⟩ := ex_new2 HC 83 #[.int .i64 0, .int .i64 0, .int .i64 0, .int .i64 0, .int .i64 0, .int .i64 0]
          rw [← hbq, ← hwb]
          replace HC := HC'
          clear hbq hwb hx HC'
          refine onQ_in HC ?_
          refine z_end 6 rfl (by kernel_rfl) ?_
          simp only [List.getElem_toArray, List.getElem_cons_succ, List.getElem_cons_zero]
          have z0 := H5.frozen 0
          have z1 := H5.frozen 1
          have z2 := H5.frozen 2
          have z3 := H5.frozen 3
          have z4 := H5.frozen 4
          have z5 := H5.frozen 5
          obtain ⟨u0, u1, u2, u3, u4, u5⟩ := H5.c6
          have lu := H5.lt
          go_wp2
          have H6 := held6_all H5 (.int .i64 0) (.int .i64 1) (.int .i64 0) (.int .i64 1) (.int .i64 X.s.n) (.int .i64 X.s.d)
          replace HC := ext6 HC g5 (.int .i64 0) (.int .i64 1) (.int .i64 0) (.int .i64 1) (.int .i64 X.s.n) (.int .i64 X.s.d)
          clear z0 u0 z1 u1 z2 u2 z3 u3 z4 u4 z5 u5 lu H5
          generalize World.setCell _ _ _ = wq at *
          refine onQ_last ?_
          refine z_done (by kernel_rfl) ?_
          exact cut1y_is b9 ⟨HC, H6⟩ rfl
        · simp only [List.getElem_toArray, List.getElem_cons_succ, List.getElem_cons_zero]
          go_wp2
          obtain ⟨b9, wb, hbq, hwb, H5, HC', hx, g5⟩ := ex_new2 HC 83 #[.int .i64 0, .int .i64 0, .int .i64 0, .int .i64 0, .int .i64 0, .int .i64 0]
          rw [← hbq, ← hwb]
          replace HC := HC'
          clear hbq hwb hx HC'
          refine onQ_in HC ?_
          refine z_one 1 rfl (by kernel_rfl) ?_
          simp only [List.getElem_toArray, List.getElem_cons_succ, List.getElem_cons_zero]
          go_wp2_with (go_at_call 35; (with_reducible refine Calls.mono (q_any _ _ _) ?_); rintro e wa ⟨rfl, hx⟩)
          replace HC := HC.trans hx
          try replace H5 := H5.ext hx
          clear hx
          refine onQ_in HC ?_
          refine z_stills (g := 1) [4] [_] ⟨rfl, trivial⟩ (by kernel_rfl) (by kernel_rfl) HC ?_
          simp only [List.getElem_toArray, List.getElem_cons_succ, List.getElem_cons_zero]
          apply Exists.intro
          refine ⟨fun u hu => ?_, ?_⟩
          · obtain ⟨x0, x1, x2, x3, x4, x5⟩ := (BX.ext hu).c6
            have xl := (BX.ext hu).lt
            repeat (first | go_big_quiet_skip | (go_big_quiet_want; go_big_quiet_op; go_big_quiet_on))
            refine wpQuiet_nil ?_
            rfl
          refine z_end 6 rfl (by kernel_rfl) ?_
          simp only [List.getElem_toArray, List.getElem_cons_succ, List.getElem_cons_zero]
          have z0 := H5.frozen 0
          have z1 := H5.frozen 1
          have z2 := H5.frozen 2
          have z3 := H5.frozen 3
          have z4 := H5.frozen 4
          have z5 := H5.frozen 5
          obtain ⟨u0, u1, u2, u3, u4, u5⟩ := H5.c6
          have lu := H5.lt
          go_wp2
          have H6 := held6_all H5 (.int .i64 0) (.int .i64 1) (.int .i64 0) (.int .i64 1) (.int .i64 X.s.n) (.int .i64 X.s.d)
          replace HC := ext6 HC g5 (.int .i64 0) (.int .i64 1) (.int .i64 0) (.int .i64 1) (.int .i64 X.s.n) (.int .i64 X.s.d)
          clear z0 u0 z1 u1 z2 u2 z3 u3 z4 u4 z5 u5 lu H5
          generalize World.setCell _ _ _ = wq at *
          refine onQ_last ?_
          refine z_done (by kernel_rfl) ?_
          exact cut1y_is b9 ⟨HC, H6⟩ rfl
      · simp only [List.getElem_toArray, List.getElem_cons_succ, List.getElem_cons_zero]
        go_wp2
        obtain ⟨b9, wb, hbq, hwb, H5, HC', hx, g5⟩ := ex_new2 HC 83 #[.int .i64 0, .int .i64 0, .int .i64 0, .int .i64 0, .int .i64 0, .int .i64 0]
        rw [← hbq, ← hwb]
        replace HC := HC'
        clear hbq hwb hx HC'
        refine onQ_in HC ?_
        refine z_one 0 rfl (by kernel_rfl) ?_
        simp only [List.getElem_toArray, List.getElem_cons_zero]
        go_wp2_with (go_at_call 35; (with_reducible refine Calls.mono (q_any _ _ _) ?_); rintro e wa ⟨rfl, hx⟩)
        replace HC := HC.trans hx
        try replace H5 := H5.ext hx
        clear hx
        refine onQ_in HC ?_
        refine z_one 1 rfl (by kernel_rfl) ?_
        simp only [List.getElem_toArray, List.getElem_cons_succ, List.getElem_cons_zero]
        go_wp2_with (go_at_call 35; (with_reducible refine Calls.mono (q_any _ _ _) ?_); rintro e wa ⟨rfl, hx⟩)
        replace HC := HC.trans hx
        try replace H5 := H5.ext hx
        clear hx
        refine onQ_in HC ?_
        refine z_stills (g := 1) [4] [_] ⟨rfl, trivial⟩ (by kernel_rfl) (by kernel_rfl) HC ?_
        simp only [List.getElem_toArray, List.getElem_cons_succ, List.getElem_cons_zero]
        apply Exists.intro
        refine ⟨fun u hu => ?_, ?_⟩
        · obtain ⟨x0, x1, x2, x3, x4, x5⟩ := (BX.ext hu).c6
          have xl := (BX.ext hu).lt
          repeat (first | go_big_quiet_skip | (go_big_quiet_want; go_big_quiet_op; go_big_quiet_on))
          refine wpQuiet_nil ?_
          rfl
        refine z_end 6 rfl (by kernel_rfl) ?_
        simp only [List.getElem_toArray, List.getElem_cons_succ, List.getElem_cons_zero]
        have z0 := H5.frozen 0
        have z1 := H5.frozen 1
        have z2 := H5.frozen 2
        have z3 := H5.frozen 3
        have z4 := H5.frozen 4
        have z5 := H5.frozen 5
        obtain ⟨u0, u1, u2, u3, u4, u5⟩ := H5.c6
        have lu := H5.lt
        go_wp2
        have H6 := held6_all H5 (.int .i64 0) (.int .i64 1) (.int .i64 0) (.int .i64 1) (.int .i64 X.s.n) (.int .i64 X.s.d)
        replace HC := ext6 HC g5 (.int .i64 0) (.int .i64 1) (.int .i64 0) (.int .i64 1) (.int .i64 X.s.n) (.int .i64 X.s.d)
        clear z0 u0 z1 u1 z2 u2 z3 u3 z4 u4 z5 u5 lu H5
        generalize World.setCell _ _ _ = wq at *
        refine onQ_last ?_
        refine z_done (by kernel_rfl) ?_
        exact cut1y_is b9 ⟨HC, H6⟩ rfl
    rintro bw v11 ⟨hx, BW⟩
    replace E := E.trans hx
    replace Z := Z.ext hx
    replace C := C.ext hx
    replace B := B.ext hx
    replace hD := hD.ext hx
    replace B1 := B1.ext hx
    replace B2 := B2.ext hx
    replace B3 := B3.ext hx
    replace BX := BX.ext hx
    replace BS := BS.ext hx
    clear hx
    obtain ⟨k0, k1⟩ := B1.c2
    have kl := B1.lt
    obtain ⟨p0, p1, p2, p3, p4, p5, p6, p7, p8, p9, p10, p11, p12⟩ := held_d13 B2
    have pl := B2.lt
    obtain ⟨q0, q1, q2, q3⟩ := B3.c4
    have ql := B3.lt
    obtain ⟨x0, x1, x2, x3, x4, x5⟩ := BX.c6
    have xl := BX.lt
    obtain ⟨y0, y1⟩ := BS.c2
    have yl := BS.lt
    obtain ⟨t0, t1, t2, t3, t4, t5⟩ := BW.c6
    have tl := BW.lt
    have NQ2 : ∀ w, CalAt w A ca A' cb c → RowsAt w D (n + 1) 6 (payr (addPay f n ⟨on, Y⟩)) → Zro w → Calls Tryd.prog 30 #[.agg #[.slice A c.nk ca, .slice A' c.ny cb], .agg #[.int .i64 l.p.n, .int .i64 l.p.d, .int .i64 l.r.n, .int .i64 l.r.d, .int .i64 l.f.y, .int .i64 l.f.m, .bool l.f.s, .int .i64 l.f.d], .slice D (n + 1) md, .agg #[.int .i64 on.y, .int .i64 on.m, .bool on.s, .int .i64 on.d]] w fun e w' => e = .returned (.tuple #[.agg #[.int .i64 0, .int .i64 1, .int .i64 0, .int .i64 1, .int .i64 X.s.n, .int .i64 X.s.d], .int .i64 0]) ∧ Ext w w' := NQ1
    clear NQ1
    go_upto_region 15 with (go_at_call 30; (with_reducible refine Calls.mono (NQ2 _ C hD Z) ?_); rintro e w14 ⟨rfl, hx⟩; replace E := E.trans hx; replace Z := Z.ext hx; replace C := C.ext hx; replace B := B.ext hx; replace hD := hD.ext hx; replace B1 := B1.ext hx; replace B2 := B2.ext hx; replace B3 := B3.ext hx; replace BX := BX.ext hx; replace BS := BS.ext hx; replace BW := BW.ext hx; clear hx; clear k0 k1 kl p0 p1 p2 p3 p4 p5 p6 p7 p8 p9 p10 p11 p12 pl q0 q1 q2 q3 ql x0 x1 x2 x3 x4 x5 xl y0 y1 yl t0 t1 t2 t3 t4 t5 tl; obtain ⟨k0, k1⟩ := B1.c2; have kl := B1.lt; obtain ⟨p0, p1, p2, p3, p4, p5, p6, p7, p8, p9, p10, p11, p12⟩ := held_d13 B2; have pl := B2.lt; obtain ⟨q0, q1, q2, q3⟩ := B3.c4; have ql := B3.lt; obtain ⟨x0, x1, x2, x3, x4, x5⟩ := BX.c6; have xl := BX.lt; obtain ⟨y0, y1⟩ := BS.c2; have yl := BS.lt; obtain ⟨t0, t1, t2, t3, t4, t5⟩ := BW.c6; have tl := BW.lt)
    obtain ⟨vb21, hv⟩ : ∃ x, x = (w14.alloc (.cells #[.int .i64 0, .int .i64 1, .int .i64 0, .int .i64 1, .int .i64 X.s.n, .int .i64 X.s.d] 83)) := ⟨_, rfl⟩
    rw [← hv]
    have hx : Ext w14 vb21 := by rw [hv]; exact (Ext.refl _).alloc _
    have BA : Held vb21 w14.heap.size 83 #[.int .i64 0, .int .i64 1, .int .i64 0, .int .i64 1, .int .i64 X.s.n, .int .i64 X.s.d] := by rw [hv]; exact Held.new _ _ _
    clear hv
    generalize w14.heap.size = bb21 at *
    clear k0 k1 kl p0 p1 p2 p3 p4 p5 p6 p7 p8 p9 p10 p11 p12 pl q0 q1 q2 q3 ql x0 x1 x2 x3 x4 x5 xl y0 y1 yl t0 t1 t2 t3 t4 t5 tl
    replace E := E.trans hx
    replace Z := Z.ext hx
    replace C := C.ext hx
    replace B := B.ext hx
    replace hD := hD.ext hx
    replace B1 := B1.ext hx
    replace B2 := B2.ext hx
    replace B3 := B3.ext hx
    replace BX := BX.ext hx
    replace BS := BS.ext hx
    replace BW := BW.ext hx
    clear hx
    obtain ⟨k0, k1⟩ := B1.c2
    have kl := B1.lt
    obtain ⟨p0, p1, p2, p3, p4, p5, p6, p7, p8, p9, p10, p11, p12⟩ := held_d13 B2
    have pl := B2.lt
    obtain ⟨q0, q1, q2, q3⟩ := B3.c4
    have ql := B3.lt
    obtain ⟨x0, x1, x2, x3, x4, x5⟩ := BX.c6
    have xl := BX.lt
    obtain ⟨y0, y1⟩ := BS.c2
    have yl := BS.lt
    obtain ⟨t0, t1, t2, t3, t4, t5⟩ := BW.c6
    have tl := BW.lt
    obtain ⟨s0, s1, s2, s3, s4, s5⟩ := BA.c6
    have sl := BA.lt
    clear NQ2
    have NBL := fun w hC => NB on later w hC
    obtain ⟨be, hbe⟩ : ∃ x, x = c.in2E on later := ⟨_, rfl⟩
    obtain ⟨bv, hbv⟩ : ∃ x, x = c.betV on later := ⟨_, rfl⟩
    simp only [← hbe, ← hbv] at NBL
    replace hbe := Lib.hid hbe
    replace hbv := Lib.hid hbv
    clear NB
    go_upto_region 18 with (go_at_call 34; (with_reducible refine Calls.mono (NBL _ C) ?_); rintro e w17 ⟨rfl, hx⟩; replace E := E.trans hx; replace Z := Z.ext hx; replace C := C.ext hx; replace B := B.ext hx; replace hD := hD.ext hx; replace B1 := B1.ext hx; replace B2 := B2.ext hx; replace B3 := B3.ext hx; replace BX := BX.ext hx; replace BS := BS.ext hx; replace BW := BW.ext hx; replace BA := BA.ext hx; clear hx; clear k0 k1 kl p0 p1 p2 p3 p4 p5 p6 p7 p8 p9 p10 p11 p12 pl q0 q1 q2 q3 ql x0 x1 x2 x3 x4 x5 xl y0 y1 yl t0 t1 t2 t3 t4 t5 tl s0 s1 s2 s3 s4 s5 sl; obtain ⟨k0, k1⟩ := B1.c2; have kl := B1.lt; obtain ⟨p0, p1, p2, p3, p4, p5, p6, p7, p8, p9, p10, p11, p12⟩ := held_d13 B2; have pl := B2.lt; obtain ⟨q0, q1, q2, q3⟩ := B3.c4; have ql := B3.lt; obtain ⟨x0, x1, x2, x3, x4, x5⟩ := BX.c6; have xl := BX.lt; obtain ⟨y0, y1⟩ := BS.c2; have yl := BS.lt; obtain ⟨t0, t1, t2, t3, t4, t5⟩ := BW.c6; have tl := BW.lt; obtain ⟨s0, s1, s2, s3, s4, s5⟩ := BA.c6; have sl := BA.lt)
    clear NBL
    by_cases hb0 : be = 0
    rotate_left
    · have g3 : (be == 0) = false := beq_eq_false_iff_ne.2 hb0
      have g3n : (be != 0) = true := by rw [bne, g3]; rfl
      clear NQ c2 hb0 hbe hbv
      go_wp2_with (first | (go_at_call 21; (with_reducible refine Calls.mono (works8_any _ Z) ?_); rintro e wk ⟨rfl, hk⟩))
      go_ret
      exact ⟨rfl, E.trans hk⟩
    subst hb0
    by_cases hb1 : bv < 0
    · have g4 : decide (bv < 0) = true := decide_eq_true hb1
      clear NQ c2 hb1 hbe hbv
      go_wp2_with (first | (go_at_call 21; (with_reducible refine Calls.mono (works8_any _ Z) ?_); rintro e wk ⟨rfl, hk⟩))
      go_ret
      exact ⟨rfl, E.trans hk⟩
    have g4 : decide (bv < 0) = false := decide_eq_false hb1
    obtain ⟨_, hl9⟩ := in2E_of hv.out hbe.out.symm
    have hb9 := (in2E_ok hv.out hon.out hl9).2
    have c3 := c2.out hl9 (by have h1 := hbv.out; rw [hb9] at h1; omega)
    have NQ1 := fun w hC hD hZ => NQ w hC hD later hZ
    rw [c3] at NQ1
    clear NQ c2 c3 hb1 hbe hbv hl9 hb9
    have NQ2 : ∀ w, CalAt w A ca A' cb c → RowsAt w D (n + 1) 6 (payr (addPay f n ⟨on, Y⟩)) → Zro w → Calls Tryd.prog 30 #[.agg #[.slice A c.nk ca, .slice A' c.ny cb], .agg #[.int .i64 l.p.n, .int .i64 l.p.d, .int .i64 l.r.n, .int .i64 l.r.d, .int .i64 l.f.y, .int .i64 l.f.m, .bool l.f.s, .int .i64 l.f.d], .slice D (n + 1) md, .agg #[.int .i64 later.y, .int .i64 later.m, .bool later.s, .int .i64 later.d]] w fun e w' => e = .returned (.tuple #[.agg #[.int .i64 0, .int .i64 1, .int .i64 0, .int .i64 1, .int .i64 X.s.n, .int .i64 X.s.d], .int .i64 0]) ∧ Ext w w' := NQ1
    clear NQ1
    go_upto_region 21 with (go_at_call 30; (with_reducible refine Calls.mono (NQ2 _ C hD Z) ?_); rintro e w20 ⟨rfl, hx⟩; replace E := E.trans hx; replace Z := Z.ext hx; replace C := C.ext hx; replace B := B.ext hx; replace hD := hD.ext hx; replace B1 := B1.ext hx; replace B2 := B2.ext hx; replace B3 := B3.ext hx; replace BX := BX.ext hx; replace BS := BS.ext hx; replace BW := BW.ext hx; replace BA := BA.ext hx; clear hx; clear k0 k1 kl p0 p1 p2 p3 p4 p5 p6 p7 p8 p9 p10 p11 p12 pl q0 q1 q2 q3 ql x0 x1 x2 x3 x4 x5 xl y0 y1 yl t0 t1 t2 t3 t4 t5 tl s0 s1 s2 s3 s4 s5 sl; obtain ⟨k0, k1⟩ := B1.c2; have kl := B1.lt; obtain ⟨p0, p1, p2, p3, p4, p5, p6, p7, p8, p9, p10, p11, p12⟩ := held_d13 B2; have pl := B2.lt; obtain ⟨q0, q1, q2, q3⟩ := B3.c4; have ql := B3.lt; obtain ⟨x0, x1, x2, x3, x4, x5⟩ := BX.c6; have xl := BX.lt; obtain ⟨y0, y1⟩ := BS.c2; have yl := BS.lt; obtain ⟨t0, t1, t2, t3, t4, t5⟩ := BW.c6; have tl := BW.lt; obtain ⟨s0, s1, s2, s3, s4, s5⟩ := BA.c6; have sl := BA.lt)
    obtain ⟨vb22, hv⟩ : ∃ x, x = (w20.alloc (.cells #[.int .i64 0, .int .i64 1, .int .i64 0, .int .i64 1, .int .i64 X.s.n, .int .i64 X.s.d] 83)) := ⟨_, rfl⟩
    rw [← hv]
    have hx : Ext w20 vb22 := by rw [hv]; exact (Ext.refl _).alloc _
    have BE : Held vb22 w20.heap.size 83 #[.int .i64 0, .int .i64 1, .int .i64 0, .int .i64 1, .int .i64 X.s.n, .int .i64 X.s.d] := by rw [hv]; exact Held.new _ _ _
    clear hv
    generalize w20.heap.size = bb22 at *
    clear k0 k1 kl p0 p1 p2 p3 p4 p5 p6 p7 p8 p9 p10 p11 p12 pl q0 q1 q2 q3 ql x0 x1 x2 x3 x4 x5 xl y0 y1 yl t0 t1 t2 t3 t4 t5 tl s0 s1 s2 s3 s4 s5 sl
    replace E := E.trans hx
    replace Z := Z.ext hx
    replace C := C.ext hx
    replace B := B.ext hx
    replace hD := hD.ext hx
    replace B1 := B1.ext hx
    replace B2 := B2.ext hx
    replace B3 := B3.ext hx
    replace BX := BX.ext hx
    replace BS := BS.ext hx
    replace BW := BW.ext hx
    replace BA := BA.ext hx
    clear hx
    obtain ⟨k0, k1⟩ := B1.c2
    have kl := B1.lt
    obtain ⟨p0, p1, p2, p3, p4, p5, p6, p7, p8, p9, p10, p11, p12⟩ := held_d13 B2
    have pl := B2.lt
    obtain ⟨q0, q1, q2, q3⟩ := B3.c4
    have ql := B3.lt
    obtain ⟨x0, x1, x2, x3, x4, x5⟩ := BX.c6
    have xl := BX.lt
    obtain ⟨y0, y1⟩ := BS.c2
    have yl := BS.lt
    obtain ⟨t0, t1, t2, t3, t4, t5⟩ := BW.c6
    have tl := BW.lt
    obtain ⟨s0, s1, s2, s3, s4, s5⟩ := BA.c6
    have sl := BA.lt
    obtain ⟨r0, r1, r2, r3, r4, r5⟩ := BE.c6
    have rl := BE.lt
    clear NQ2
    go_wp2_with (first | (go_at_call 21; (with_reducible refine Calls.mono (works8_any _ Z) ?_); rintro e wk ⟨rfl, hk⟩))
    go_ret
    exact ⟨rfl, E.trans hk⟩
  have gn : decide ((0 : Int) < (n : Int)) = true := decide_eq_true (by omega)
  have gn' : decide (0 < n) = true := decide_eq_true (by omega)
  obtain ⟨b, off, rfl, hb, hc⟩ := id (B (by omega))
  obtain ⟨bl, c0, c1, c2, c3, c4, c5⟩ := pay_get B (k := n - 1) (by omega)
  clear hb hc
  have hm : IntKind.i64.wrap ((n : Int) - 1) = ((n - 1 : Nat) : Int) := by rw [wrap64 (by omega) (by omega)]; omega
  have hlastn : c.numV (f (n - 1)).on ≠ 0 := by
    have h := (loan_sorted hv.out hlo n (Nat.le_refl _)).1
    have e : lastOn l f n = (f (n - 1)).on := by
      obtain ⟨m, rfl⟩ : ∃ m, n = m + 1 := ⟨n - 1, by omega⟩
      rfl
    rw [e] at h; omega
  obtain ⟨e1, e2⟩ := in2E_ok hv.out hlastn hon.out
  have NBL := fun w hC => NB (f (n - 1)).on on w hC
  rw [e1] at NBL
  obtain ⟨bv, hbv⟩ : ∃ x, x = c.betV (f (n - 1)).on on := ⟨_, rfl⟩
  simp only [← hbv] at NBL
  rw [← hbv] at e2
  clear hbv hlastn e1
  have hkn : Hid (n - 1 < n) := show n - 1 < n by omega
  go_upto_region 6 with (fail)
  obtain ⟨mi, hmi⟩ : ∃ m, m = n - 1 := ⟨_, rfl⟩
  rw [← hmi] at c0 c1 c2 c3 c4 c5 hm NBL e2
  have hkl : mi < n := by omega
  replace hmi := Lib.hid hmi
  replace e2 := Lib.hid e2
  refine wp_region_xw vb2 mixed (by kernel_rfl) (by repeat (first | exact Ext.refl _ | (refine Ext.alloc ?_ _) | (refine Ext.trans ?_ (by assumption)))) ?_
  intro hne hrx hry
  try simp only []
  try simp only [List.append_eq, List.cons_append, List.nil_append]
  skip
  repeat (first
    | go_big_quiet_skip
    | (go_big_quiet_want; go_big_quiet_op; go_big_quiet_on)
    | (go_big_quiet_want; go_big_quiet_op; apply Exists.intro; refine ⟨fun u => ?_, ?_⟩
       · first
           | (go_at_call 34; (with_reducible refine Calls.mono (NBL _ (C.ext u.e)) ?_); rintro e w' ⟨rfl, hb⟩; exact ⟨rfl, u.back hb⟩)
       go_big_quiet_on))
  clear hne hry hrx
  refine wpQuiet_nil ?_
  intro v6 hx
  obtain ⟨hcv6, hfv6, hzv6⟩ := Ext.rules hx
  try simp only [World.size_alloc] at hzv6
  obtain ⟨hcbv6, hfbv6, hzbv6⟩ := Ext.rules (show Ext vb2 v6 from (by repeat (first | exact Ext.refl _ | (refine Ext.alloc ?_ _) | (refine Ext.trans ?_ (by assumption)))))
  clear hcv6 hfv6
  clear NBL c0 c1 c2 c3 c4 c5 bl hkl
  replace E := E.trans hx
  replace Z := Z.ext hx
  replace C := C.ext hx
  replace B := B.ext hx
  replace B1 := B1.ext hx
  replace B2 := B2.ext hx
  replace B3 := B3.ext hx
  replace BX := BX.ext hx
  replace BS := BS.ext hx
  clear hx
  clear k0 k1 kl p0 p1 p2 p3 p4 p5 p6 p7 p8 p9 p10 p11 p12 pl q0 q1 q2 q3 ql x0 x1 x2 x3 x4 x5 xl y0 y1 yl
  obtain ⟨k0, k1⟩ := B1.c2
  have kl := B1.lt
  obtain ⟨p0, p1, p2, p3, p4, p5, p6, p7, p8, p9, p10, p11, p12⟩ := held_d13 B2
  have pl := B2.lt
  obtain ⟨q0, q1, q2, q3⟩ := B3.c4
  have ql := B3.lt
  obtain ⟨x0, x1, x2, x3, x4, x5⟩ := BX.c6
  have xl := BX.lt
  obtain ⟨y0, y1⟩ := BS.c2
  have yl := BS.lt
  by_cases hb1 : bv < 0
  · have g4 : decide (bv < 0) = true := decide_eq_true hb1
    clear NP NB hb1 CL hX hY e2
    go_wp2_with (first | (go_at_call 21; (with_reducible refine Calls.mono (works8_any _ Z) ?_); rintro e wk ⟨rfl, hk⟩))
    go_ret
    exact ⟨rfl, E.trans hk⟩
  have g4 : decide (bv < 0) = false := decide_eq_false hb1
  have hl : Hid (0 < n → c.numV (f (n - 1)).on ≤ c.numV on) := fun _ => by rw [← hmi.out]; have := e2.out; omega
  clear e2 hb1 hmi hkn
  go_upto_region 10 with (fail)
  skip
  clear k0 k1 kl p0 p1 p2 p3 p4 p5 p6 p7 p8 p9 p10 p11 p12 pl q0 q1 q2 q3 ql x0 x1 x2 x3 x4 x5 xl y0 y1 yl
  obtain ⟨i0, hi, hz0, hz1, hz2⟩ := info_parts info_pay
  have hlen := flatL_len (f := payr f) (sz := 6) (fun _ => rfl) n
  have hone : ∀ u ∈ flatL (payr f) n, u.oneCell' = true := flat_one (f := payr f) (n := n) (fun i u hu => by simp [payr] at hu; rcases hu with rfl | rfl | rfl | rfl | rfl | rfl <;> simp [Value.oneCell'])
  have cellsP : ∀ u ∈ [Value.int .i64 on.y, .int .i64 on.m, .bool on.s, .int .i64 on.d, Value.int .i64 Y.n, .int .i64 Y.d], u.oneCell' = true := by simp [Value.oneCell']
  have B0 := B
  apply wp_cut3w (S := fun w' p => Ext v6 w' ∧ w'.ownsRow v6.heap.size 87 6 p (n + 1) (flatL (payr f) n ++ [.int .i64 on.y, .int .i64 on.m, .bool on.s, .int .i64 on.d, .int .i64 Y.n, .int .i64 Y.d]))
  · refine wp_region_z 11 [10] (fun x => Ext v6 x) mixed rfl ?_
    intro vz hvz
    have HC := hvz
    refine z_stills (g := 4) [0, 1, 2, 4, 5, 6, 7] [_, _, _, _, _, _, _] ⟨rfl, rfl, rfl, rfl, rfl, rfl, rfl, trivial⟩ (by kernel_rfl) (by kernel_rfl) HC ?_
    simp only [List.getElem_toArray, List.getElem_cons_succ, List.getElem_cons_zero]
    apply Exists.intro
    refine ⟨fun u hu => ?_, ?_⟩
    · obtain ⟨p0, p1, p2, p3, p4, p5, p6, p7, p8, p9, p10, p11, p12⟩ := held_d13 (B2.ext hu)
      have pl := (B2.ext hu).lt
      obtain ⟨y0, y1⟩ := (BS.ext hu).c2
      have yl := (BS.ext hu).lt
      repeat (first | go_big_quiet_skip | (go_big_quiet_want; go_big_quiet_op; go_big_quiet_on))
      refine wpQuiet_nil ?_
      rfl
    refine z_two 3 8 rfl rfl (by kernel_rfl) ?_ ?_
    · simp only [List.getElem_toArray, List.getElem_cons_succ, List.getElem_cons_zero]
      go_wp2_with (at_builtin; refine wpList_append_copy rfl _ _ 78 rfl v6.heap.size 87 i0 (.agg #[.int .i64 0, .int .i64 0, .bool false, .int .i64 0, .int .i64 0, .int .i64 0]) 6 48 Tryd.underlying78 hi hz0 hz1 hz2 rfl (by decide) rfl _ n cap (flatL (payr f) n) rfl hnil hlen (flat_news (f := payr f) (sz := 6) (fun _ => rfl) (by decide) (B0.ext HC)) hone (by unfold maxLen; omega) (by omega) (by have := HC.size; omega) ?_; intro v1 w1 hown hgrow)
      have hx := (Ext.refl _).grown hgrow (fun k h => by cases h)
      replace HC := HC.trans hx
      try replace HQ := HQ.ext hx
      obtain ⟨F1, m1, rfl⟩ := own_sl hown
      clear hgrow hx
      refine onQ_in HC ?_
      refine z_one 8 rfl (by kernel_rfl) ?_
      simp only [List.getElem_toArray, List.getElem_cons_succ, List.getElem_cons_zero]
      go_wp2
      obtain ⟨bq, wb, hbq, hwb, HQ, HC', hx, _⟩ := ex_new2 HC 87 #[.int .i64 on.y, .int .i64 on.m, .bool on.s, .int .i64 on.d, .int .i64 Y.n, .int .i64 Y.d]
      rw [← hbq, ← hwb]
      replace HC := HC'
      try replace hown := own_ext hown hx
      clear hbq hwb hx HC'
      refine onQ_in HC ?_
      refine z_one 9 rfl (by kernel_rfl) ?_
      simp only [List.getElem_toArray, List.getElem_cons_succ, List.getElem_cons_zero]
      go_wp2_with (at_builtin; refine wpList_append_own_at _ rfl _ _ 78 rfl v6.heap.size 87 i0 (.agg #[.int .i64 0, .int .i64 0, .bool false, .int .i64 0, .int .i64 0, .int .i64 0]) 6 48 Tryd.underlying78 hi hz0 hz1 hz2 rfl (by decide) _ _ _ rfl hown ⟨bq, 0, none⟩ 1 1 [.int .i64 on.y, .int .i64 on.m, .bool on.s, .int .i64 on.d, .int .i64 Y.n, .int .i64 Y.d] rfl rfl (held_newsL HQ) cellsP (by unfold maxLen; omega) (by omega) (by have := HC.size; omega) ?_; intro v2 w2 hown2 hgrow _ _)
      replace HC := HC.grown hgrow (fun q hq => (row_type hown q hq).1)
      clear hgrow hown HQ
      refine onQ_in HC ?_
      refine z_end 10 rfl (by kernel_rfl) ?_
      simp only [List.getElem_toArray, List.getElem_cons_succ, List.getElem_cons_zero]
      go_wp2
      refine onQ_last ?_
      refine z_done (by kernel_rfl) ?_
      exact cut3w_is F1 m1 bq v2 ⟨HC, hown2⟩ rfl
    · simp only [List.getElem_toArray, List.getElem_cons_succ, List.getElem_cons_zero]
      go_wp2
      obtain ⟨bq, wb, hbq, hwb, HQ, HC', hx, _⟩ := ex_new2 HC 87 #[.int .i64 on.y, .int .i64 on.m, .bool on.s, .int .i64 on.d, .int .i64 Y.n, .int .i64 Y.d]
      rw [← hbq, ← hwb]
      replace HC := HC'
      try replace hown := own_ext hown hx
      clear hbq hwb hx HC'
      refine onQ_in HC ?_
      refine z_one 3 rfl (by kernel_rfl) ?_
      simp only [List.getElem_toArray, List.getElem_cons_succ, List.getElem_cons_zero]
      go_wp2_with (at_builtin; refine wpList_append_copy rfl _ _ 78 rfl v6.heap.size 87 i0 (.agg #[.int .i64 0, .int .i64 0, .bool false, .int .i64 0, .int .i64 0, .int .i64 0]) 6 48 Tryd.underlying78 hi hz0 hz1 hz2 rfl (by decide) rfl _ n cap (flatL (payr f) n) rfl hnil hlen (flat_news (f := payr f) (sz := 6) (fun _ => rfl) (by decide) (B0.ext HC)) hone (by unfold maxLen; omega) (by omega) (by have := HC.size; omega) ?_; intro v1 w1 hown hgrow)
      have hx := (Ext.refl _).grown hgrow (fun k h => by cases h)
      replace HC := HC.trans hx
      try replace HQ := HQ.ext hx
      obtain ⟨F1, m1, rfl⟩ := own_sl hown
      clear hgrow hx
      refine onQ_in HC ?_
      refine z_one 9 rfl (by kernel_rfl) ?_
      simp only [List.getElem_toArray, List.getElem_cons_succ, List.getElem_cons_zero]
      go_wp2_with (at_builtin; refine wpList_append_own_at _ rfl _ _ 78 rfl v6.heap.size 87 i0 (.agg #[.int .i64 0, .int .i64 0, .bool false, .int .i64 0, .int .i64 0, .int .i64 0]) 6 48 Tryd.underlying78 hi hz0 hz1 hz2 rfl (by decide) _ _ _ rfl hown ⟨bq, 0, none⟩ 1 1 [.int .i64 on.y, .int .i64 on.m, .bool on.s, .int .i64 on.d, .int .i64 Y.n, .int .i64 Y.d] rfl rfl (held_newsL HQ) cellsP (by unfold maxLen; omega) (by omega) (by have := HC.size; omega) ?_; intro v2 w2 hown2 hgrow _ _)
      replace HC := HC.grown hgrow (fun q hq => (row_type hown q hq).1)
      clear hgrow hown HQ
      refine onQ_in HC ?_
      refine z_end 10 rfl (by kernel_rfl) ?_
      simp only [List.getElem_toArray, List.getElem_cons_succ, List.getElem_cons_zero]
      go_wp2
      refine onQ_last ?_
      refine z_done (by kernel_rfl) ?_
      exact cut3w_is F1 m1 bq v2 ⟨HC, hown2⟩ rfl
  rintro p1 pm bq' pv v10 ⟨hx, hown⟩
  rw [payr_add (x := ⟨on, Y⟩)] at hown
  obtain ⟨D, md, rfl, hD, hmd, _, _⟩ := flat_rows (f := payr (addPay f n ⟨on, Y⟩)) (fun _ => rfl) hown
  clear hown hi hz0 hz1 hz2 hlen hone cellsP B0 i0
  replace E := E.trans hx
  replace Z := Z.ext hx
  replace C := C.ext hx
  replace B := B.ext hx
  replace B1 := B1.ext hx
  replace B2 := B2.ext hx
  replace B3 := B3.ext hx
  replace BX := BX.ext hx
  replace BS := BS.ext hx
  clear hx
  obtain ⟨k0, k1⟩ := B1.c2
  have kl := B1.lt
  obtain ⟨p0, p1, p2, p3, p4, p5, p6, p7, p8, p9, p10, p11, p12⟩ := held_d13 B2
  have pl := B2.lt
  obtain ⟨q0, q1, q2, q3⟩ := B3.c4
  have ql := B3.lt
  obtain ⟨x0, x1, x2, x3, x4, x5⟩ := BX.c6
  have xl := BX.lt
  obtain ⟨y0, y1⟩ := BS.c2
  have yl := BS.lt
  have hg : Hid (∀ i, i < n + 1 → (addPay f n ⟨on, Y⟩ i).n.In) := fun i hi => by
    unfold addPay
    by_cases h : i < n
    · rw [if_pos h]; exact hin.out i h
    · rw [if_neg h]; exact hst.out
  have NQ := fun w hC hD o hZ => NP D md (addPay f n ⟨on, Y⟩) hg.out h64 w hC hD o hZ
  clear NP hg
  by_cases hs0 : Y.n = 0
  · have g1 : (Y.n == 0) = true := by rw [hs0]; rfl
    clear CL NQ NB hs0 hX hY hl
    go_wp2_with (first | (go_at_call 21; (with_reducible refine Calls.mono (works8_any _ Z) ?_); rintro e wk ⟨rfl, hk⟩))
    go_ret
    exact ⟨rfl, E.trans hk⟩
  have g1 : (Y.n == 0) = false := beq_eq_false_iff_ne.2 hs0
  by_cases hn1 : 64 < n + 1
  · have g2 : decide ((64 : Int) < (n : Int) + 1) = true := decide_eq_true (by omega)
    clear CL NQ NB hs0 hX hY hl hn1
    go_wp2_with (first | (go_at_call 21; (with_reducible refine Calls.mono (works8_any _ Z) ?_); rintro e wk ⟨rfl, hk⟩))
    go_ret
    exact ⟨rfl, E.trans hk⟩
  have g2 : decide ((64 : Int) < (n : Int) + 1) = false := decide_eq_false (by omega)
  obtain ⟨c1, c2⟩ := CL.out (by omega) hl.out (by rw [← hY.out]; exact hs0)
  rw [← hY.out, ← hX.out] at c1 c2
  simp only at c1 c2
  have c2 := Lib.hid c2
  have NQ1 := fun w hC hD hZ => NQ w hC hD on hZ
  rw [c1] at NQ1
  clear CL c1 hs0 hn1 hY hX
  go_upto_region 13 with (fail)
  clear k0 k1 kl p0 p1 p2 p3 p4 p5 p6 p7 p8 p9 p10 p11 p12 pl q0 q1 q2 q3 ql x0 x1 x2 x3 x4 x5 xl y0 y1 yl
  apply wp_cut1y (S := fun w' r => Ext v10 w' ∧ Held w' r 83 #[.int .i64 0, .int .i64 1, .int .i64 0, .int .i64 1, .int .i64 X.s.n, .int .i64 X.s.d])
  · refine wp_region_z 7 [6] (fun x => Ext v10 x) mixed rfl ?_
    intro vz hvz
    have HC := hvz
    refine z_stills (g := 5) [2, 3] [_, _] ⟨rfl, rfl, trivial⟩ (by kernel_rfl) (by kernel_rfl) HC ?_
    simp only [List.getElem_toArray, List.getElem_cons_succ, List.getElem_cons_zero]
    apply Exists.intro
    refine ⟨fun u hu => ?_, ?_⟩
    · obtain ⟨x0, x1, x2, x3, x4, x5⟩ := (BX.ext hu).c6
      have xl := (BX.ext hu).lt
      repeat (first | go_big_quiet_skip | (go_big_quiet_want; go_big_quiet_op; go_big_quiet_on))
      refine wpQuiet_nil ?_
      rfl
    refine z_two 0 5 rfl rfl (by kernel_rfl) ?_ ?_
    · simp only [List.getElem_toArray, List.getElem_cons_zero]
      go_wp2_with (go_at_call 35; (with_reducible refine Calls.mono (q_any _ _ _) ?_); rintro e wa ⟨rfl, hx⟩)
      replace HC := HC.trans hx
      try replace H5 := H5.ext hx
      clear hx
      refine onQ_in HC ?_
      refine z_two 1 5 rfl rfl (by kernel_rfl) ?_ ?_
      · simp only [List.getElem_toArray, List.getElem_cons_succ, List.getElem_cons_zero]
        go_wp2_with (go_at_call 35; (with_reducible refine Calls.mono (q_any _ _ _) ?_); rintro e wa ⟨rfl, hx⟩)
        replace HC := HC.trans hx
        try replace H5 := H5.ext hx
        clear hx
        refine onQ_in HC ?_
        refine z_stills (g := 2) [4] [_] ⟨rfl, trivial⟩ (by kernel_rfl) (by kernel_rfl) HC ?_
        simp only [List.getElem_toArray, List.getElem_cons_succ, List.getElem_cons_zero]
        apply Exists.intro
        refine ⟨fun u hu => ?_, ?_⟩
        · obtain ⟨x0, x1, x2, x3, x4, x5⟩ := (BX.ext hu).c6
          have xl := (BX.ext hu).lt
          repeat (first | go_big_quiet_skip | (go_big_quiet_want; go_big_quiet_op; go_big_quiet_on))
          refine wpQuiet_nil ?_
          rfl
        refine z_one 5 rfl (by kernel_rfl) ?_
        simp only [List.getElem_toArray, List.getElem_cons_succ, List.getElem_cons_zero]
        go_wp2
        obtain ⟨b9, wb, hbq, hwb, H5, HC', hx, g5⟩ := ex_new2 HC 83 #[.int .i64 0, .int .i64 0, .int .i64 0, .int .i64 0, .int .i64 0, .int .i64 0]
        rw [← hbq, ← hwb]
        replace HC := HC'
        clear hbq hwb hx HC'
        refine onQ_in HC ?_
        refine z_end 6 rfl (by kernel_rfl) ?_
        simp only [List.getElem_toArray, List.getElem_cons_succ, List.getElem_cons_zero]
        have z0 := H5.frozen 0
        have z1 := H5.frozen 1
        have z2 := H5.frozen 2
        have z3 := H5.frozen 3
        have z4 := H5.frozen 4
        have z5 := H5.frozen 5
        obtain ⟨u0, u1, u2, u3, u4, u5⟩ := H5.c6
        have lu := H5.lt
        go_wp2
        have H6 := held6_all H5 (.int .i64 0) (.int .i64 1) (.int .i64 0) (.int .i64 1) (.int .i64 X.s.n) (.int .i64 X.s.d)
        replace HC := ext6 HC g5 (.int .i64 0) (.int .i64 1) (.int .i64 0) (.int .i64 1) (.int .i64 X.s.n) (.int .i64 X.s.d)
        clear z0 u0 z1 u1 z2 u2 z3 u3 z4 u4 z5 u5 lu H5
        generalize World.setCell _ _ _ = wq at *
        refine onQ_last ?_
        refine z_done (by kernel_rfl) ?_
        exact cut1y_is b9 ⟨HC, H6⟩ rfl
      · simp only [List.getElem_toArray, List.getElem_cons_succ, List.getElem_cons_zero]
        go_wp2
        obtain ⟨b9, wb, hbq, hwb, H5, HC', hx, g5⟩ := ex_new2 HC 83 #[.int .i64 0, .int .i64 0, .int .i64 0, .int .i64 0, .int .i64 0, .int .i64 0]
        rw [← hbq, ← hwb]
        replace HC := HC'
        clear hbq hwb hx HC'
        refine onQ_in HC ?_
        refine z_one 1 rfl (by kernel_rfl) ?_
        simp only [List.getElem_toArray, List.getElem_cons_succ, List.getElem_cons_zero]
        go_wp2_with (go_at_call 35; (with_reducible refine Calls.mono (q_any _ _ _) ?_); rintro e wa ⟨rfl, hx⟩)
        replace HC := HC.trans hx
        try replace H5 := H5.ext hx
        clear hx
        refine onQ_in HC ?_
        refine z_stills (g := 1) [4] [_] ⟨rfl, trivial⟩ (by kernel_rfl) (by kernel_rfl) HC ?_
        simp only [List.getElem_toArray, List.getElem_cons_succ, List.getElem_cons_zero]
        apply Exists.intro
        refine ⟨fun u hu => ?_, ?_⟩
        · obtain ⟨x0, x1, x2, x3, x4, x5⟩ := (BX.ext hu).c6
          have xl := (BX.ext hu).lt
          repeat (first | go_big_quiet_skip | (go_big_quiet_want; go_big_quiet_op; go_big_quiet_on))
          refine wpQuiet_nil ?_
          rfl
        refine z_end 6 rfl (by kernel_rfl) ?_
        simp only [List.getElem_toArray, List.getElem_cons_succ, List.getElem_cons_zero]
        have z0 := H5.frozen 0
        have z1 := H5.frozen 1
        have z2 := H5.frozen 2
        have z3 := H5.frozen 3
        have z4 := H5.frozen 4
        have z5 := H5.frozen 5
        obtain ⟨u0, u1, u2, u3, u4, u5⟩ := H5.c6
        have lu := H5.lt
        go_wp2
        have H6 := held6_all H5 (.int .i64 0) (.int .i64 1) (.int .i64 0) (.int .i64 1) (.int .i64 X.s.n) (.int .i64 X.s.d)
        replace HC := ext6 HC g5 (.int .i64 0) (.int .i64 1) (.int .i64 0) (.int .i64 1) (.int .i64 X.s.n) (.int .i64 X.s.d)
        clear z0 u0 z1 u1 z2 u2 z3 u3 z4 u4 z5 u5 lu H5
        generalize World.setCell _ _ _ = wq at *
        refine onQ_last ?_
        refine z_done (by kernel_rfl) ?_
        exact cut1y_is b9 ⟨HC, H6⟩ rfl
    · simp only [List.getElem_toArray, List.getElem_cons_succ, List.getElem_cons_zero]
      go_wp2
      obtain ⟨b9, wb, hbq, hwb, H5, HC', hx, g5⟩ := ex_new2 HC 83 #[.int .i64 0, .int .i64 0, .int .i64 0, .int .i64 0, .int .i64 0, .int .i64 0]
      rw [← hbq, ← hwb]
      replace HC := HC'
      clear hbq hwb hx HC'
      refine onQ_in HC ?_
      refine z_one 0 rfl (by kernel_rfl) ?_
      simp only [List.getElem_toArray, List.getElem_cons_zero]
      go_wp2_with (go_at_call 35; (with_reducible refine Calls.mono (q_any _ _ _) ?_); rintro e wa ⟨rfl, hx⟩)
      replace HC := HC.trans hx
      try replace H5 := H5.ext hx
      clear hx
      refine onQ_in HC ?_
      refine z_one 1 rfl (by kernel_rfl) ?_
      simp only [List.getElem_toArray, List.getElem_cons_succ, List.getElem_cons_zero]
      go_wp2_with (go_at_call 35; (with_reducible refine Calls.mono (q_any _ _ _) ?_); rintro e wa ⟨rfl, hx⟩)
      replace HC := HC.trans hx
      try replace H5 := H5.ext hx
      clear hx
      refine onQ_in HC ?_
      refine z_stills (g := 1) [4] [_] ⟨rfl, trivial⟩ (by kernel_rfl) (by kernel_rfl) HC ?_
      simp only [List.getElem_toArray, List.getElem_cons_succ, List.getElem_cons_zero]
      apply Exists.intro
      refine ⟨fun u hu => ?_, ?_⟩
      · obtain ⟨x0, x1, x2, x3, x4, x5⟩ := (BX.ext hu).c6
        have xl := (BX.ext hu).lt
        repeat (first | go_big_quiet_skip | (go_big_quiet_want; go_big_quiet_op; go_big_quiet_on))
        refine wpQuiet_nil ?_
        rfl
      refine z_end 6 rfl (by kernel_rfl) ?_
      simp only [List.getElem_toArray, List.getElem_cons_succ, List.getElem_cons_zero]
      have z0 := H5.frozen 0
      have z1 := H5.frozen 1
      have z2 := H5.frozen 2
      have z3 := H5.frozen 3
      have z4 := H5.frozen 4
      have z5 := H5.frozen 5
      obtain ⟨u0, u1, u2, u3, u4, u5⟩ := H5.c6
      have lu := H5.lt
      go_wp2
      have H6 := held6_all H5 (.int .i64 0) (.int .i64 1) (.int .i64 0) (.int .i64 1) (.int .i64 X.s.n) (.int .i64 X.s.d)
      replace HC := ext6 HC g5 (.int .i64 0) (.int .i64 1) (.int .i64 0) (.int .i64 1) (.int .i64 X.s.n) (.int .i64 X.s.d)
      clear z0 u0 z1 u1 z2 u2 z3 u3 z4 u4 z5 u5 lu H5
      generalize World.setCell _ _ _ = wq at *
      refine onQ_last ?_
      refine z_done (by kernel_rfl) ?_
      exact cut1y_is b9 ⟨HC, H6⟩ rfl
  rintro bw v11 ⟨hx, BW⟩
  replace E := E.trans hx
  replace Z := Z.ext hx
  replace C := C.ext hx
  replace B := B.ext hx
  replace hD := hD.ext hx
  replace B1 := B1.ext hx
  replace B2 := B2.ext hx
  replace B3 := B3.ext hx
  replace BX := BX.ext hx
  replace BS := BS.ext hx
  clear hx
  obtain ⟨k0, k1⟩ := B1.c2
  have kl := B1.lt
  obtain ⟨p0, p1, p2, p3, p4, p5, p6, p7, p8, p9, p10, p11, p12⟩ := held_d13 B2
  have pl := B2.lt
  obtain ⟨q0, q1, q2, q3⟩ := B3.c4
  have ql := B3.lt
  obtain ⟨x0, x1, x2, x3, x4, x5⟩ := BX.c6
  have xl := BX.lt
  obtain ⟨y0, y1⟩ := BS.c2
  have yl := BS.lt
  obtain ⟨t0, t1, t2, t3, t4, t5⟩ := BW.c6
  have tl := BW.lt
  have NQ2 : ∀ w, CalAt w A ca A' cb c → RowsAt w D (n + 1) 6 (payr (addPay f n ⟨on, Y⟩)) → Zro w → Calls Tryd.prog 30 #[.agg #[.slice A c.nk ca, .slice A' c.ny cb], .agg #[.int .i64 l.p.n, .int .i64 l.p.d, .int .i64 l.r.n, .int .i64 l.r.d, .int .i64 l.f.y, .int .i64 l.f.m, .bool l.f.s, .int .i64 l.f.d], .slice D (n + 1) md, .agg #[.int .i64 on.y, .int .i64 on.m, .bool on.s, .int .i64 on.d]] w fun e w' => e = .returned (.tuple #[.agg #[.int .i64 0, .int .i64 1, .int .i64 0, .int .i64 1, .int .i64 X.s.n, .int .i64 X.s.d], .int .i64 0]) ∧ Ext w w' := NQ1
  clear NQ1
  go_upto_region 15 with (go_at_call 30; (with_reducible refine Calls.mono (NQ2 _ C hD Z) ?_); rintro e w14 ⟨rfl, hx⟩; replace E := E.trans hx; replace Z := Z.ext hx; replace C := C.ext hx; replace B := B.ext hx; replace hD := hD.ext hx; replace B1 := B1.ext hx; replace B2 := B2.ext hx; replace B3 := B3.ext hx; replace BX := BX.ext hx; replace BS := BS.ext hx; replace BW := BW.ext hx; clear hx; clear k0 k1 kl p0 p1 p2 p3 p4 p5 p6 p7 p8 p9 p10 p11 p12 pl q0 q1 q2 q3 ql x0 x1 x2 x3 x4 x5 xl y0 y1 yl t0 t1 t2 t3 t4 t5 tl; obtain ⟨k0, k1⟩ := B1.c2; have kl := B1.lt; obtain ⟨p0, p1, p2, p3, p4, p5, p6, p7, p8, p9, p10, p11, p12⟩ := held_d13 B2; have pl := B2.lt; obtain ⟨q0, q1, q2, q3⟩ := B3.c4; have ql := B3.lt; obtain ⟨x0, x1, x2, x3, x4, x5⟩ := BX.c6; have xl := BX.lt; obtain ⟨y0, y1⟩ := BS.c2; have yl := BS.lt; obtain ⟨t0, t1, t2, t3, t4, t5⟩ := BW.c6; have tl := BW.lt)
  obtain ⟨v61, hv⟩ : ∃ x, x = (w14.alloc (.cells #[.int .i64 0, .int .i64 1, .int .i64 0, .int .i64 1, .int .i64 X.s.n, .int .i64 X.s.d] 83)) := ⟨_, rfl⟩
  rw [← hv]
  have hx : Ext w14 v61 := by rw [hv]; exact (Ext.refl _).alloc _
  have BA : Held v61 w14.heap.size 83 #[.int .i64 0, .int .i64 1, .int .i64 0, .int .i64 1, .int .i64 X.s.n, .int .i64 X.s.d] := by rw [hv]; exact Held.new _ _ _
  clear hv
  generalize w14.heap.size = bb21 at *
  clear k0 k1 kl p0 p1 p2 p3 p4 p5 p6 p7 p8 p9 p10 p11 p12 pl q0 q1 q2 q3 ql x0 x1 x2 x3 x4 x5 xl y0 y1 yl t0 t1 t2 t3 t4 t5 tl
  replace E := E.trans hx
  replace Z := Z.ext hx
  replace C := C.ext hx
  replace B := B.ext hx
  replace hD := hD.ext hx
  replace B1 := B1.ext hx
  replace B2 := B2.ext hx
  replace B3 := B3.ext hx
  replace BX := BX.ext hx
  replace BS := BS.ext hx
  replace BW := BW.ext hx
  clear hx
  obtain ⟨k0, k1⟩ := B1.c2
  have kl := B1.lt
  obtain ⟨p0, p1, p2, p3, p4, p5, p6, p7, p8, p9, p10, p11, p12⟩ := held_d13 B2
  have pl := B2.lt
  obtain ⟨q0, q1, q2, q3⟩ := B3.c4
  have ql := B3.lt
  obtain ⟨x0, x1, x2, x3, x4, x5⟩ := BX.c6
  have xl := BX.lt
  obtain ⟨y0, y1⟩ := BS.c2
  have yl := BS.lt
  obtain ⟨t0, t1, t2, t3, t4, t5⟩ := BW.c6
  have tl := BW.lt
  obtain ⟨s0, s1, s2, s3, s4, s5⟩ := BA.c6
  have sl := BA.lt
  clear NQ2
  have NBL := fun w hC => NB on later w hC
  obtain ⟨be, hbe⟩ : ∃ x, x = c.in2E on later := ⟨_, rfl⟩
  obtain ⟨bv, hbv⟩ : ∃ x, x = c.betV on later := ⟨_, rfl⟩
  simp only [← hbe, ← hbv] at NBL
  replace hbe := Lib.hid hbe
  replace hbv := Lib.hid hbv
  clear NB
  go_upto_region 18 with (go_at_call 34; (with_reducible refine Calls.mono (NBL _ C) ?_); rintro e w17 ⟨rfl, hx⟩; replace E := E.trans hx; replace Z := Z.ext hx; replace C := C.ext hx; replace B := B.ext hx; replace hD := hD.ext hx; replace B1 := B1.ext hx; replace B2 := B2.ext hx; replace B3 := B3.ext hx; replace BX := BX.ext hx; replace BS := BS.ext hx; replace BW := BW.ext hx; replace BA := BA.ext hx; clear hx; clear k0 k1 kl p0 p1 p2 p3 p4 p5 p6 p7 p8 p9 p10 p11 p12 pl q0 q1 q2 q3 ql x0 x1 x2 x3 x4 x5 xl y0 y1 yl t0 t1 t2 t3 t4 t5 tl s0 s1 s2 s3 s4 s5 sl; obtain ⟨k0, k1⟩ := B1.c2; have kl := B1.lt; obtain ⟨p0, p1, p2, p3, p4, p5, p6, p7, p8, p9, p10, p11, p12⟩ := held_d13 B2; have pl := B2.lt; obtain ⟨q0, q1, q2, q3⟩ := B3.c4; have ql := B3.lt; obtain ⟨x0, x1, x2, x3, x4, x5⟩ := BX.c6; have xl := BX.lt; obtain ⟨y0, y1⟩ := BS.c2; have yl := BS.lt; obtain ⟨t0, t1, t2, t3, t4, t5⟩ := BW.c6; have tl := BW.lt; obtain ⟨s0, s1, s2, s3, s4, s5⟩ := BA.c6; have sl := BA.lt)
  clear NBL
  by_cases hb0 : be = 0
  rotate_left
  · have g3 : (be == 0) = false := beq_eq_false_iff_ne.2 hb0
    have g3n : (be != 0) = true := by rw [bne, g3]; rfl
    clear NQ c2 hb0 hbe hbv
    go_wp2_with (first | (go_at_call 21; (with_reducible refine Calls.mono (works8_any _ Z) ?_); rintro e wk ⟨rfl, hk⟩))
    go_ret
    exact ⟨rfl, E.trans hk⟩
  subst hb0
  by_cases hb1 : bv < 0
  · have g4 : decide (bv < 0) = true := decide_eq_true hb1
    clear NQ c2 hb1 hbe hbv
    go_wp2_with (first | (go_at_call 21; (with_reducible refine Calls.mono (works8_any _ Z) ?_); rintro e wk ⟨rfl, hk⟩))
    go_ret
    exact ⟨rfl, E.trans hk⟩
  have g4 : decide (bv < 0) = false := decide_eq_false hb1
  obtain ⟨_, hl9⟩ := in2E_of hv.out hbe.out.symm
  have hb9 := (in2E_ok hv.out hon.out hl9).2
  have c3 := c2.out hl9 (by have h1 := hbv.out; rw [hb9] at h1; omega)
  have NQ1 := fun w hC hD hZ => NQ w hC hD later hZ
  rw [c3] at NQ1
  clear NQ c2 c3 hb1 hbe hbv hl9 hb9
  have NQ2 : ∀ w, CalAt w A ca A' cb c → RowsAt w D (n + 1) 6 (payr (addPay f n ⟨on, Y⟩)) → Zro w → Calls Tryd.prog 30 #[.agg #[.slice A c.nk ca, .slice A' c.ny cb], .agg #[.int .i64 l.p.n, .int .i64 l.p.d, .int .i64 l.r.n, .int .i64 l.r.d, .int .i64 l.f.y, .int .i64 l.f.m, .bool l.f.s, .int .i64 l.f.d], .slice D (n + 1) md, .agg #[.int .i64 later.y, .int .i64 later.m, .bool later.s, .int .i64 later.d]] w fun e w' => e = .returned (.tuple #[.agg #[.int .i64 0, .int .i64 1, .int .i64 0, .int .i64 1, .int .i64 X.s.n, .int .i64 X.s.d], .int .i64 0]) ∧ Ext w w' := NQ1
  clear NQ1
  go_upto_region 21 with (go_at_call 30; (with_reducible refine Calls.mono (NQ2 _ C hD Z) ?_); rintro e w20 ⟨rfl, hx⟩; replace E := E.trans hx; replace Z := Z.ext hx; replace C := C.ext hx; replace B := B.ext hx; replace hD := hD.ext hx; replace B1 := B1.ext hx; replace B2 := B2.ext hx; replace B3 := B3.ext hx; replace BX := BX.ext hx; replace BS := BS.ext hx; replace BW := BW.ext hx; replace BA := BA.ext hx; clear hx; clear k0 k1 kl p0 p1 p2 p3 p4 p5 p6 p7 p8 p9 p10 p11 p12 pl q0 q1 q2 q3 ql x0 x1 x2 x3 x4 x5 xl y0 y1 yl t0 t1 t2 t3 t4 t5 tl s0 s1 s2 s3 s4 s5 sl; obtain ⟨k0, k1⟩ := B1.c2; have kl := B1.lt; obtain ⟨p0, p1, p2, p3, p4, p5, p6, p7, p8, p9, p10, p11, p12⟩ := held_d13 B2; have pl := B2.lt; obtain ⟨q0, q1, q2, q3⟩ := B3.c4; have ql := B3.lt; obtain ⟨x0, x1, x2, x3, x4, x5⟩ := BX.c6; have xl := BX.lt; obtain ⟨y0, y1⟩ := BS.c2; have yl := BS.lt; obtain ⟨t0, t1, t2, t3, t4, t5⟩ := BW.c6; have tl := BW.lt; obtain ⟨s0, s1, s2, s3, s4, s5⟩ := BA.c6; have sl := BA.lt)
  obtain ⟨v62, hv⟩ : ∃ x, x = (w20.alloc (.cells #[.int .i64 0, .int .i64 1, .int .i64 0, .int .i64 1, .int .i64 X.s.n, .int .i64 X.s.d] 83)) := ⟨_, rfl⟩
  rw [← hv]
  have hx : Ext w20 v62 := by rw [hv]; exact (Ext.refl _).alloc _
  have BE : Held v62 w20.heap.size 83 #[.int .i64 0, .int .i64 1, .int .i64 0, .int .i64 1, .int .i64 X.s.n, .int .i64 X.s.d] := by rw [hv]; exact Held.new _ _ _
  clear hv
  generalize w20.heap.size = bb22 at *
  clear k0 k1 kl p0 p1 p2 p3 p4 p5 p6 p7 p8 p9 p10 p11 p12 pl q0 q1 q2 q3 ql x0 x1 x2 x3 x4 x5 xl y0 y1 yl t0 t1 t2 t3 t4 t5 tl s0 s1 s2 s3 s4 s5 sl
  replace E := E.trans hx
  replace Z := Z.ext hx
  replace C := C.ext hx
  replace B := B.ext hx
  replace hD := hD.ext hx
  replace B1 := B1.ext hx
  replace B2 := B2.ext hx
  replace B3 := B3.ext hx
  replace BX := BX.ext hx
  replace BS := BS.ext hx
  replace BW := BW.ext hx
  replace BA := BA.ext hx
  clear hx
  obtain ⟨k0, k1⟩ := B1.c2
  have kl := B1.lt
  obtain ⟨p0, p1, p2, p3, p4, p5, p6, p7, p8, p9, p10, p11, p12⟩ := held_d13 B2
  have pl := B2.lt
  obtain ⟨q0, q1, q2, q3⟩ := B3.c4
  have ql := B3.lt
  obtain ⟨x0, x1, x2, x3, x4, x5⟩ := BX.c6
  have xl := BX.lt
  obtain ⟨y0, y1⟩ := BS.c2
  have yl := BS.lt
  obtain ⟨t0, t1, t2, t3, t4, t5⟩ := BW.c6
  have tl := BW.lt
  obtain ⟨s0, s1, s2, s3, s4, s5⟩ := BA.c6
  have sl := BA.lt
  obtain ⟨r0, r1, r2, r3, r4, r5⟩ := BE.c6
  have rl := BE.lt
  clear NQ2
  go_wp2_with (first | (go_at_call 21; (with_reducible refine Calls.mono (works8_any _ Z) ?_); rintro e wk ⟨rfl, hk⟩))
  go_ret
  exact ⟨rfl, E.trans hk⟩

end Go.Proofs.YtlnjeklmkjgidaaDoor
