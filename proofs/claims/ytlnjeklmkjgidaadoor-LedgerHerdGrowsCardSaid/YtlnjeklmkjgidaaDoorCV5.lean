/- The reference's Grow; the walk of LedgerHerdGrows. -/
import Derived.Test.YtlnjeklmkjgidaaDoorD12
namespace Go.Proofs.YtlnjeklmkjgidaaDoor
open Go Go.RowKit Go.Shelf
attribute [local go_sem] gv_yes
attribute [local go_sem high] neq_ratio neq_debt neq_herd eql_herd

theorem and3_no {a b c : Bool} (h : false = (a && b && c)) : a = false ∨ (a = true ∧ b = false) ∨ (a = true ∧ b = true ∧ c = false) := by
  revert h; cases a <;> cases b <;> cases c <;> decide
theorem and3_yes {a b c : Bool} (h : true = (a && b && c)) : a = true ∧ b = true ∧ c = true := by
  revert h; cases a <;> cases b <;> cases c <;> decide
theorem growV_go {h : Hrd} {b d : Rt} {y : Int} (h1 : h.ok = true) (h2 : b.shr = true) (h3 : d.shr = true) : growV h b d y = if y < 0 ∨ 40 < y then (hrd0, 8) else growR b d y.toNat h := by
  unfold growV
  rw [h1, h2, h3]; rfl
set_option maxRecDepth 100000 in
set_option maxHeartbeats 4000000 in
theorem herdR_any (n : Int) (w : World) :
    Calls Tryd.prog 59 #[.int .i64 n] w fun e w' => e = .returned (.bool (nOk n)) ∧ Ext w w' := by
  unfold nOk
  by_cases h : 0 ≤ n
  · have g1 : decide (0 ≤ n) = true := decide_eq_true h
    clear h
    go_enter Tryd.func59, Tryd.ntmps59
    go_wp2
    go_ret
    exact ⟨by rw [g1]; rfl, Ext.refl _⟩
  · have g1 : decide (0 ≤ n) = false := decide_eq_false h
    clear h
    go_enter Tryd.func59, Tryd.ntmps59
    go_wp2
    go_ret
    exact ⟨by rw [g1]; rfl, Ext.refl _⟩

set_option maxRecDepth 100000 in
set_option maxHeartbeats 4000000 in
theorem partR_any (n : Int) (r : Rt) (hr : r.shr = true) (h1 : 0 ≤ n) (h2 : n ≤ 1048576) (w : World) :
    Calls Tryd.prog 61 #[.int .i64 n, .agg #[.int .i64 r.n, .int .i64 r.d]] w fun e w' => e = .returned (.int .i64 (r.n * n / r.d)) ∧ Ext w w' := by
  have pb := part_bd hr h1 h2
  have hd := (shr_bd hr)
  have v1 : IntKind.i64.wrap (n * r.n) = r.n * n := by rw [Int.mul_comm]; exact wrap64 (by omega) (by omega)
  have v2 : IntKind.i64.wrap ((r.n * n).tdiv r.d) = r.n * n / r.d := by
    rw [Int.tdiv_eq_ediv_of_nonneg pb.1]; exact wrap64 (by omega) (by omega)
  have d0 : (r.d == 0) = false := beq_eq_false_iff_ne.2 (by omega)
  have d1 : r.d ≠ 0 := by omega
  clear pb hd h1 h2 hr
  go_enter Tryd.func61, Tryd.ntmps61
  go_upto_region 1 with (fail)
  obtain ⟨v, hv⟩ : ∃ v, v = (w.alloc (.cells #[.int .i64 r.n, .int .i64 r.d] 52)) := ⟨_, rfl⟩
  rw [← hv]
  have E : Ext w v := by rw [hv]; exact (Ext.refl _).alloc _
  have B1 : Held v w.heap.size 52 #[.int .i64 r.n, .int .i64 r.d] := by rw [hv]; exact (Held.new _ _ _)
  clear hv
  obtain ⟨b1, hb1⟩ : ∃ b, b = w.heap.size := ⟨_, rfl⟩
  rw [← hb1] at B1 ⊢
  have hbr : w.heap.size ≤ b1 := by omega
  clear hb1
  obtain ⟨k0, k1⟩ := B1.c2
  have lk := B1.lt
  go_wp2
  go_ret
  exact ⟨rfl, E⟩

set_option maxRecDepth 100000 in
set_option maxHeartbeats 4000000 in
theorem growR_any (h : Hrd) (b d : Rt) (y : Int) (hb : b.In) (hd : d.In) (hy1 : -9223372036854775808 ≤ y) (hy2 : y ≤ 9223372036854775807) (w : World) :
    Calls Tryd.prog 20 #[.agg #[.int .i64 h.e, .int .i64 h.r, .int .i64 h.l], .agg #[.int .i64 b.n, .int .i64 b.d], .agg #[.int .i64 d.n, .int .i64 d.d], .int .i64 y] w fun e w' => e = .returned (.tuple #[.agg #[.int .i64 (growV h b d y).1.e, .int .i64 (growV h b d y).1.r, .int .i64 (growV h b d y).1.l], .int .i64 (growV h b d y).2]) ∧ Ext w w' := by
  obtain ⟨V, hV0⟩ : ∃ V, V = growV h b d y := ⟨_, rfl⟩
  rw [← hV0]
  replace hV0 := Lib.hid hV0
  have NH := fun n w => herdR_any n w
  have NB := fun w => rate_any b hb w
  have ND := fun w => rate_any d hd w
  go_enter Tryd.func20, Tryd.ntmps20
  go_upto_region 1 with (fail)
  obtain ⟨v, hv⟩ : ∃ v, v = ((((w.alloc (.cells #[.int .i64 h.e, .int .i64 h.r, .int .i64 h.l] 50)).alloc (.cells #[.int .i64 b.n, .int .i64 b.d] 52)).alloc (.cells #[.int .i64 d.n, .int .i64 d.d] 52)).alloc (.cells #[.int .i64 0, .int .i64 0, .int .i64 0] 50)) := ⟨_, rfl⟩
  rw [← hv]
  have E : Ext w v := by rw [hv]; exact ((((Ext.refl _).alloc _).alloc _).alloc _).alloc _
  have Hh : Held v w.heap.size 50 #[.int .i64 h.e, .int .i64 h.r, .int .i64 h.l] := by rw [hv]; exact (((Held.new _ _ _).alloc _).alloc _).alloc _
  have Hb : Held v (w.heap.size + 1) 52 #[.int .i64 b.n, .int .i64 b.d] := by rw [hv]; exact ((Held.at _ _ _ _ (by simp)).alloc _).alloc _
  have Hd : Held v (w.heap.size + 1 + 1) 52 #[.int .i64 d.n, .int .i64 d.d] := by rw [hv]; exact (Held.at _ _ _ _ (by simp)).alloc _
  have Hr : Held v (w.heap.size + 1 + 1 + 1) 50 #[.int .i64 0, .int .i64 0, .int .i64 0] := by rw [hv]; exact Held.at _ _ _ _ (by simp)
  clear hv
  obtain ⟨b4, hb4⟩ : ∃ b, b = w.heap.size + 1 + 1 + 1 := ⟨_, rfl⟩
  rw [← hb4] at Hr ⊢
  obtain ⟨b3, hb3⟩ : ∃ b, b = w.heap.size + 1 + 1 := ⟨_, rfl⟩
  rw [← hb3] at Hd ⊢
  obtain ⟨b2, hb2⟩ : ∃ b, b = w.heap.size + 1 := ⟨_, rfl⟩
  rw [← hb2] at Hb ⊢
  obtain ⟨b1, hb1⟩ : ∃ b, b = w.heap.size := ⟨_, rfl⟩
  rw [← hb1] at Hh ⊢
  have hbr : w.heap.size ≤ b4 := by omega
  have hbr1 : w.heap.size ≤ b1 := by omega
  have hbr2 : w.heap.size ≤ b2 := by omega
  have hbr3 : w.heap.size ≤ b3 := by omega
  have hn21 : b2 ≠ b1 := by omega
  have hn31 : b3 ≠ b1 := by omega
  have hn32 : b3 ≠ b2 := by omega
  have hn41 : b4 ≠ b1 := by omega
  have hn42 : b4 ≠ b2 := by omega
  have hn43 : b4 ≠ b3 := by omega
  clear hb1 hb2 hb3 hb4
  have HE := E
  clear E
  obtain ⟨k0, k1, k2⟩ := Hh.c3
  have lk := Hh.lt
  obtain ⟨p0, p1⟩ := Hb.c2
  have lp := Hb.lt
  obtain ⟨q0, q1⟩ := Hd.c2
  have lq := Hd.lt
  have hok : Hid (h.ok = (nOk h.e && nOk h.r && nOk h.l)) := rfl
  have hbad : Hid (h.ok = false → V = (hrd0, 82)) := fun q => by rw [hV0.out]; unfold growV; rw [q]; rfl
  cases ho : h.ok
  · have hr := hbad.out ho
    rw [ho] at hok
    subst hr
    have h3 := and3_no hok.out
    clear hV0 hbad hok ho NB ND
    have NE := fun w => NH h.e w
    have NR := fun w => NH h.r w
    have NL := fun w => NH h.l w
    clear NH
    rcases h3 with h1 | ⟨h1, h2⟩ | ⟨h1, h2, h4⟩
    · simp only [h1] at NE
      clear h1 NR NL
      have f0 := Hr.frozen 0
      have f1 := Hr.frozen 1
      have f2 := Hr.frozen 2
      obtain ⟨x0, x1, x2⟩ := Hr.c3
      have lx := Hr.lt
      have H9 := held3_all Hr (.int .i64 0) (.int .i64 0) (.int .i64 0)
      have EF := ext3 HE hbr (.int .i64 0) (.int .i64 0) (.int .i64 0)
      obtain ⟨y0, y1, y2⟩ := H9.c3
      go_wp2_with (first | (go_at_call 59; (with_reducible refine Calls.mono (NE _) ?_); rintro e wa ⟨rfl, hx⟩; replace HE := HE.trans hx; replace Hh := Hh.ext hx; replace Hb := Hb.ext hx; replace Hd := Hd.ext hx; replace Hr := Hr.ext hx; clear hx; clear k0 k1 k2 lk p0 p1 lp q0 q1 lq; obtain ⟨k0, k1, k2⟩ := Hh.c3; have lk := Hh.lt; obtain ⟨p0, p1⟩ := Hb.c2; have lp := Hb.lt; obtain ⟨q0, q1⟩ := Hd.c2; have lq := Hd.lt; clear f0 f1 f2 x0 x1 x2 lx H9 EF y0 y1 y2; have f0 := Hr.frozen 0; have f1 := Hr.frozen 1; have f2 := Hr.frozen 2; obtain ⟨x0, x1, x2⟩ := Hr.c3; have lx := Hr.lt; have H9 := held3_all Hr (.int .i64 0) (.int .i64 0) (.int .i64 0); have EF := ext3 HE hbr (.int .i64 0) (.int .i64 0) (.int .i64 0); obtain ⟨y0, y1, y2⟩ := H9.c3))
      refine bodyPost_ret (v := .tuple #[.agg #[.int .i64 0, .int .i64 0, .int .i64 0], .int .i64 82]) (by simp [results, Tryd.results20, go_sem, y0, y1, y2]) rfl ⟨rfl, EF⟩
    · simp only [h1] at NE
      simp only [h2] at NR
      clear h1 h2 NL
      have f0 := Hr.frozen 0
      have f1 := Hr.frozen 1
      have f2 := Hr.frozen 2
      obtain ⟨x0, x1, x2⟩ := Hr.c3
      have lx := Hr.lt
      have H9 := held3_all Hr (.int .i64 0) (.int .i64 0) (.int .i64 0)
      have EF := ext3 HE hbr (.int .i64 0) (.int .i64 0) (.int .i64 0)
      obtain ⟨y0, y1, y2⟩ := H9.c3
      go_wp2_with (first | (go_at_call 59; (with_reducible refine Calls.mono (NE _) ?_); rintro e wa ⟨rfl, hx⟩; replace HE := HE.trans hx; replace Hh := Hh.ext hx; replace Hb := Hb.ext hx; replace Hd := Hd.ext hx; replace Hr := Hr.ext hx; clear hx; clear k0 k1 k2 lk p0 p1 lp q0 q1 lq; obtain ⟨k0, k1, k2⟩ := Hh.c3; have lk := Hh.lt; obtain ⟨p0, p1⟩ := Hb.c2; have lp := Hb.lt; obtain ⟨q0, q1⟩ := Hd.c2; have lq := Hd.lt; clear f0 f1 f2 x0 x1 x2 lx H9 EF y0 y1 y2; have f0 := Hr.frozen 0; have f1 := Hr.frozen 1; have f2 := Hr.frozen 2; obtain ⟨x0, x1, x2⟩ := Hr.c3; have lx := Hr.lt; have H9 := held3_all Hr (.int .i64 0) (.int .i64 0) (.int .i64 0); have EF := ext3 HE hbr (.int .i64 0) (.int .i64 0) (.int .i64 0); obtain ⟨y0, y1, y2⟩ := H9.c3) | (go_at_call 59; (with_reducible refine Calls.mono (NR _) ?_); rintro e wa ⟨rfl, hx⟩; replace HE := HE.trans hx; replace Hh := Hh.ext hx; replace Hb := Hb.ext hx; replace Hd := Hd.ext hx; replace Hr := Hr.ext hx; clear hx; clear k0 k1 k2 lk p0 p1 lp q0 q1 lq; obtain ⟨k0, k1, k2⟩ := Hh.c3; have lk := Hh.lt; obtain ⟨p0, p1⟩ := Hb.c2; have lp := Hb.lt; obtain ⟨q0, q1⟩ := Hd.c2; have lq := Hd.lt; clear f0 f1 f2 x0 x1 x2 lx H9 EF y0 y1 y2; have f0 := Hr.frozen 0; have f1 := Hr.frozen 1; have f2 := Hr.frozen 2; obtain ⟨x0, x1, x2⟩ := Hr.c3; have lx := Hr.lt; have H9 := held3_all Hr (.int .i64 0) (.int .i64 0) (.int .i64 0); have EF := ext3 HE hbr (.int .i64 0) (.int .i64 0) (.int .i64 0); obtain ⟨y0, y1, y2⟩ := H9.c3))
      refine bodyPost_ret (v := .tuple #[.agg #[.int .i64 0, .int .i64 0, .int .i64 0], .int .i64 82]) (by simp [results, Tryd.results20, go_sem, y0, y1, y2]) rfl ⟨rfl, EF⟩
    · simp only [h1] at NE
      simp only [h2] at NR
      simp only [h4] at NL
      clear h1 h2 h4
      have f0 := Hr.frozen 0
      have f1 := Hr.frozen 1
      have f2 := Hr.frozen 2
      obtain ⟨x0, x1, x2⟩ := Hr.c3
      have lx := Hr.lt
      have H9 := held3_all Hr (.int .i64 0) (.int .i64 0) (.int .i64 0)
      have EF := ext3 HE hbr (.int .i64 0) (.int .i64 0) (.int .i64 0)
      obtain ⟨y0, y1, y2⟩ := H9.c3
      go_wp2_with (first | (go_at_call 59; (with_reducible refine Calls.mono (NE _) ?_); rintro e wa ⟨rfl, hx⟩; replace HE := HE.trans hx; replace Hh := Hh.ext hx; replace Hb := Hb.ext hx; replace Hd := Hd.ext hx; replace Hr := Hr.ext hx; clear hx; clear k0 k1 k2 lk p0 p1 lp q0 q1 lq; obtain ⟨k0, k1, k2⟩ := Hh.c3; have lk := Hh.lt; obtain ⟨p0, p1⟩ := Hb.c2; have lp := Hb.lt; obtain ⟨q0, q1⟩ := Hd.c2; have lq := Hd.lt; clear f0 f1 f2 x0 x1 x2 lx H9 EF y0 y1 y2; have f0 := Hr.frozen 0; have f1 := Hr.frozen 1; have f2 := Hr.frozen 2; obtain ⟨x0, x1, x2⟩ := Hr.c3; have lx := Hr.lt; have H9 := held3_all Hr (.int .i64 0) (.int .i64 0) (.int .i64 0); have EF := ext3 HE hbr (.int .i64 0) (.int .i64 0) (.int .i64 0); obtain ⟨y0, y1, y2⟩ := H9.c3) | (go_at_call 59; (with_reducible refine Calls.mono (NR _) ?_); rintro e wa ⟨rfl, hx⟩; replace HE := HE.trans hx; replace Hh := Hh.ext hx; replace Hb := Hb.ext hx; replace Hd := Hd.ext hx; replace Hr := Hr.ext hx; clear hx; clear k0 k1 k2 lk p0 p1 lp q0 q1 lq; obtain ⟨k0, k1, k2⟩ := Hh.c3; have lk := Hh.lt; obtain ⟨p0, p1⟩ := Hb.c2; have lp := Hb.lt; obtain ⟨q0, q1⟩ := Hd.c2; have lq := Hd.lt; clear f0 f1 f2 x0 x1 x2 lx H9 EF y0 y1 y2; have f0 := Hr.frozen 0; have f1 := Hr.frozen 1; have f2 := Hr.frozen 2; obtain ⟨x0, x1, x2⟩ := Hr.c3; have lx := Hr.lt; have H9 := held3_all Hr (.int .i64 0) (.int .i64 0) (.int .i64 0); have EF := ext3 HE hbr (.int .i64 0) (.int .i64 0) (.int .i64 0); obtain ⟨y0, y1, y2⟩ := H9.c3) | (go_at_call 59; (with_reducible refine Calls.mono (NL _) ?_); rintro e wa ⟨rfl, hx⟩; replace HE := HE.trans hx; replace Hh := Hh.ext hx; replace Hb := Hb.ext hx; replace Hd := Hd.ext hx; replace Hr := Hr.ext hx; clear hx; clear k0 k1 k2 lk p0 p1 lp q0 q1 lq; obtain ⟨k0, k1, k2⟩ := Hh.c3; have lk := Hh.lt; obtain ⟨p0, p1⟩ := Hb.c2; have lp := Hb.lt; obtain ⟨q0, q1⟩ := Hd.c2; have lq := Hd.lt; clear f0 f1 f2 x0 x1 x2 lx H9 EF y0 y1 y2; have f0 := Hr.frozen 0; have f1 := Hr.frozen 1; have f2 := Hr.frozen 2; obtain ⟨x0, x1, x2⟩ := Hr.c3; have lx := Hr.lt; have H9 := held3_all Hr (.int .i64 0) (.int .i64 0) (.int .i64 0); have EF := ext3 HE hbr (.int .i64 0) (.int .i64 0) (.int .i64 0); obtain ⟨y0, y1, y2⟩ := H9.c3))
      refine bodyPost_ret (v := .tuple #[.agg #[.int .i64 0, .int .i64 0, .int .i64 0], .int .i64 82]) (by simp [results, Tryd.results20, go_sem, y0, y1, y2]) rfl ⟨rfl, EF⟩
  rw [ho] at hok
  have h3 := and3_yes hok.out
  have NE := fun w => NH h.e w
  have NR := fun w => NH h.r w
  have NL := fun w => NH h.l w
  simp only [h3.1] at NE
  simp only [h3.2.1] at NR
  simp only [h3.2.2] at NL
  clear hbad hok h3
  go_upto_region 3 with (first | (go_at_call 59; (with_reducible refine Calls.mono (NE _) ?_); rintro e wa ⟨rfl, hx⟩; replace HE := HE.trans hx; replace Hh := Hh.ext hx; replace Hb := Hb.ext hx; replace Hd := Hd.ext hx; replace Hr := Hr.ext hx; clear hx; clear k0 k1 k2 lk p0 p1 lp q0 q1 lq; obtain ⟨k0, k1, k2⟩ := Hh.c3; have lk := Hh.lt; obtain ⟨p0, p1⟩ := Hb.c2; have lp := Hb.lt; obtain ⟨q0, q1⟩ := Hd.c2; have lq := Hd.lt) | (go_at_call 59; (with_reducible refine Calls.mono (NR _) ?_); rintro e wa ⟨rfl, hx⟩; replace HE := HE.trans hx; replace Hh := Hh.ext hx; replace Hb := Hb.ext hx; replace Hd := Hd.ext hx; replace Hr := Hr.ext hx; clear hx; clear k0 k1 k2 lk p0 p1 lp q0 q1 lq; obtain ⟨k0, k1, k2⟩ := Hh.c3; have lk := Hh.lt; obtain ⟨p0, p1⟩ := Hb.c2; have lp := Hb.lt; obtain ⟨q0, q1⟩ := Hd.c2; have lq := Hd.lt) | (go_at_call 59; (with_reducible refine Calls.mono (NL _) ?_); rintro e wa ⟨rfl, hx⟩; replace HE := HE.trans hx; replace Hh := Hh.ext hx; replace Hb := Hb.ext hx; replace Hd := Hd.ext hx; replace Hr := Hr.ext hx; clear hx; clear k0 k1 k2 lk p0 p1 lp q0 q1 lq; obtain ⟨k0, k1, k2⟩ := Hh.c3; have lk := Hh.lt; obtain ⟨p0, p1⟩ := Hb.c2; have lp := Hb.lt; obtain ⟨q0, q1⟩ := Hd.c2; have lq := Hd.lt))
  clear NE NR NL
  cases hbs : b.shr
  · have hr : V = (hrd0, 2) := by rw [hV0.out]; unfold growV; rw [ho, hbs]; rfl
    subst hr
    simp only [hbs] at NB
    clear hV0 hbs ho ND NH
    have f0 := Hr.frozen 0
    have f1 := Hr.frozen 1
    have f2 := Hr.frozen 2
    obtain ⟨x0, x1, x2⟩ := Hr.c3
    have lx := Hr.lt
    have H9 := held3_all Hr (.int .i64 0) (.int .i64 0) (.int .i64 0)
    have EF := ext3 HE hbr (.int .i64 0) (.int .i64 0) (.int .i64 0)
    obtain ⟨y0, y1, y2⟩ := H9.c3
    go_wp2_with (first | (go_at_call 60; (with_reducible refine Calls.mono (NB _) ?_); rintro e wa ⟨rfl, hx⟩; replace HE := HE.trans hx; replace Hh := Hh.ext hx; replace Hb := Hb.ext hx; replace Hd := Hd.ext hx; replace Hr := Hr.ext hx; clear hx; clear k0 k1 k2 lk p0 p1 lp q0 q1 lq; obtain ⟨k0, k1, k2⟩ := Hh.c3; have lk := Hh.lt; obtain ⟨p0, p1⟩ := Hb.c2; have lp := Hb.lt; obtain ⟨q0, q1⟩ := Hd.c2; have lq := Hd.lt; clear f0 f1 f2 x0 x1 x2 lx H9 EF y0 y1 y2; have f0 := Hr.frozen 0; have f1 := Hr.frozen 1; have f2 := Hr.frozen 2; obtain ⟨x0, x1, x2⟩ := Hr.c3; have lx := Hr.lt; have H9 := held3_all Hr (.int .i64 0) (.int .i64 0) (.int .i64 0); have EF := ext3 HE hbr (.int .i64 0) (.int .i64 0) (.int .i64 0); obtain ⟨y0, y1, y2⟩ := H9.c3))
    refine bodyPost_ret (v := .tuple #[.agg #[.int .i64 0, .int .i64 0, .int .i64 0], .int .i64 2]) (by simp [results, Tryd.results20, go_sem, y0, y1, y2]) rfl ⟨rfl, EF⟩
  simp only [hbs] at NB
  cases hds : d.shr
  · have hr : V = (hrd0, 2) := by rw [hV0.out]; unfold growV; rw [ho, hbs, hds]; rfl
    subst hr
    simp only [hds] at ND
    clear hV0 hbs hds ho NH
    have f0 := Hr.frozen 0
    have f1 := Hr.frozen 1
    have f2 := Hr.frozen 2
    obtain ⟨x0, x1, x2⟩ := Hr.c3
    have lx := Hr.lt
    have H9 := held3_all Hr (.int .i64 0) (.int .i64 0) (.int .i64 0)
    have EF := ext3 HE hbr (.int .i64 0) (.int .i64 0) (.int .i64 0)
    obtain ⟨y0, y1, y2⟩ := H9.c3
    go_wp2_with (first | (go_at_call 60; (with_reducible refine Calls.mono (NB _) ?_); rintro e wa ⟨rfl, hx⟩; replace HE := HE.trans hx; replace Hh := Hh.ext hx; replace Hb := Hb.ext hx; replace Hd := Hd.ext hx; replace Hr := Hr.ext hx; clear hx; clear k0 k1 k2 lk p0 p1 lp q0 q1 lq; obtain ⟨k0, k1, k2⟩ := Hh.c3; have lk := Hh.lt; obtain ⟨p0, p1⟩ := Hb.c2; have lp := Hb.lt; obtain ⟨q0, q1⟩ := Hd.c2; have lq := Hd.lt; clear f0 f1 f2 x0 x1 x2 lx H9 EF y0 y1 y2; have f0 := Hr.frozen 0; have f1 := Hr.frozen 1; have f2 := Hr.frozen 2; obtain ⟨x0, x1, x2⟩ := Hr.c3; have lx := Hr.lt; have H9 := held3_all Hr (.int .i64 0) (.int .i64 0) (.int .i64 0); have EF := ext3 HE hbr (.int .i64 0) (.int .i64 0) (.int .i64 0); obtain ⟨y0, y1, y2⟩ := H9.c3) | (go_at_call 60; (with_reducible refine Calls.mono (ND _) ?_); rintro e wa ⟨rfl, hx⟩; replace HE := HE.trans hx; replace Hh := Hh.ext hx; replace Hb := Hb.ext hx; replace Hd := Hd.ext hx; replace Hr := Hr.ext hx; clear hx; clear k0 k1 k2 lk p0 p1 lp q0 q1 lq; obtain ⟨k0, k1, k2⟩ := Hh.c3; have lk := Hh.lt; obtain ⟨p0, p1⟩ := Hb.c2; have lp := Hb.lt; obtain ⟨q0, q1⟩ := Hd.c2; have lq := Hd.lt; clear f0 f1 f2 x0 x1 x2 lx H9 EF y0 y1 y2; have f0 := Hr.frozen 0; have f1 := Hr.frozen 1; have f2 := Hr.frozen 2; obtain ⟨x0, x1, x2⟩ := Hr.c3; have lx := Hr.lt; have H9 := held3_all Hr (.int .i64 0) (.int .i64 0) (.int .i64 0); have EF := ext3 HE hbr (.int .i64 0) (.int .i64 0) (.int .i64 0); obtain ⟨y0, y1, y2⟩ := H9.c3))
    refine bodyPost_ret (v := .tuple #[.agg #[.int .i64 0, .int .i64 0, .int .i64 0], .int .i64 2]) (by simp [results, Tryd.results20, go_sem, y0, y1, y2]) rfl ⟨rfl, EF⟩
  simp only [hds] at ND
  go_upto_region 5 with (first | (go_at_call 60; (with_reducible refine Calls.mono (NB _) ?_); rintro e wa ⟨rfl, hx⟩; replace HE := HE.trans hx; replace Hh := Hh.ext hx; replace Hb := Hb.ext hx; replace Hd := Hd.ext hx; replace Hr := Hr.ext hx; clear hx; clear k0 k1 k2 lk p0 p1 lp q0 q1 lq; obtain ⟨k0, k1, k2⟩ := Hh.c3; have lk := Hh.lt; obtain ⟨p0, p1⟩ := Hb.c2; have lp := Hb.lt; obtain ⟨q0, q1⟩ := Hd.c2; have lq := Hd.lt) | (go_at_call 60; (with_reducible refine Calls.mono (ND _) ?_); rintro e wa ⟨rfl, hx⟩; replace HE := HE.trans hx; replace Hh := Hh.ext hx; replace Hb := Hb.ext hx; replace Hd := Hd.ext hx; replace Hr := Hr.ext hx; clear hx; clear k0 k1 k2 lk p0 p1 lp q0 q1 lq; obtain ⟨k0, k1, k2⟩ := Hh.c3; have lk := Hh.lt; obtain ⟨p0, p1⟩ := Hb.c2; have lp := Hb.lt; obtain ⟨q0, q1⟩ := Hd.c2; have lq := Hd.lt))
  clear NB ND
  by_cases hy0 : y < 0
  · have hr : V = (hrd0, 8) := by rw [hV0.out, growV_go ho hbs hds, if_pos (.inl hy0)]
    have g1 : decide (y < 0) = true := decide_eq_true hy0
    subst hr
    clear hV0 hbs hds ho NH hy0
    have f0 := Hr.frozen 0
    have f1 := Hr.frozen 1
    have f2 := Hr.frozen 2
    obtain ⟨x0, x1, x2⟩ := Hr.c3
    have lx := Hr.lt
    have H9 := held3_all Hr (.int .i64 0) (.int .i64 0) (.int .i64 0)
    have EF := ext3 HE hbr (.int .i64 0) (.int .i64 0) (.int .i64 0)
    obtain ⟨y0, y1, y2⟩ := H9.c3
    go_wp2
    refine bodyPost_ret (v := .tuple #[.agg #[.int .i64 0, .int .i64 0, .int .i64 0], .int .i64 8]) (by simp [results, Tryd.results20, go_sem, y0, y1, y2]) rfl ⟨rfl, EF⟩
  have g1 : decide (y < 0) = false := decide_eq_false hy0
  by_cases hy4 : 40 < y
  · have hr : V = (hrd0, 8) := by rw [hV0.out, growV_go ho hbs hds, if_pos (.inr hy4)]
    have g2 : decide (40 < y) = true := decide_eq_true hy4
    subst hr
    clear hV0 hbs hds ho NH hy0 hy4
    have f0 := Hr.frozen 0
    have f1 := Hr.frozen 1
    have f2 := Hr.frozen 2
    obtain ⟨x0, x1, x2⟩ := Hr.c3
    have lx := Hr.lt
    have H9 := held3_all Hr (.int .i64 0) (.int .i64 0) (.int .i64 0)
    have EF := ext3 HE hbr (.int .i64 0) (.int .i64 0) (.int .i64 0)
    obtain ⟨y0, y1, y2⟩ := H9.c3
    go_wp2
    refine bodyPost_ret (v := .tuple #[.agg #[.int .i64 0, .int .i64 0, .int .i64 0], .int .i64 8]) (by simp [results, Tryd.results20, go_sem, y0, y1, y2]) rfl ⟨rfl, EF⟩
  have g2 : decide (40 < y) = false := decide_eq_false hy4
  obtain ⟨n, hn⟩ : ∃ n : Nat, y = (n : Int) := ⟨y.toNat, by omega⟩
  subst hn
  have hV2 : Hid (V = growR b d (n - 0) h) := by
    unfold Hid
    rw [hV0.out, growV_go ho hbs hds, if_neg (by omega)]
    rfl
  have hds := Lib.hid hds
  have hbs := Lib.hid hbs
  clear hV0 hy0
  go_upto_region 8 with (fail)
  clear k0 k1 k2 lk p0 p1 lp q0 q1 lq
  go_loopw [10] (fun iv wr => ∃ k : Nat, k ≤ n ∧ iv = .int .i64 (k : Int) ∧ ∃ g : Hrd, Hid (g.ok = true) ∧ Ext w wr ∧ Held wr b1 50 #[.int .i64 g.e, .int .i64 g.r, .int .i64 g.l] ∧ Held wr b2 52 #[.int .i64 b.n, .int .i64 b.d] ∧ Held wr b3 52 #[.int .i64 d.n, .int .i64 d.d] ∧ Held wr b4 50 #[.int .i64 0, .int .i64 0, .int .i64 0] ∧ Hid (V = growR b d (n - k) g)) (fun iv _ => n - (intOf iv).toNat)
  case atStart => exact ⟨0, Nat.zero_le _, rfl, h, ho, HE, Hh, Hb, Hd, Hr, hV2.out⟩
  case round =>
    clear HE Hh Hb Hd Hr hV2 ho
    obtain ⟨k, hk, rfl, g, hg, HE, Hh, Hb, Hd, Hr, hV⟩ := hrel
    obtain ⟨wo, rfl⟩ : ∃ wo : World, wo = wr := ⟨_, rfl⟩
    obtain ⟨k0, k1, k2⟩ := Hh.c3
    have lk := Hh.lt
    obtain ⟨p0, p1⟩ := Hb.c2
    have lp := Hb.lt
    obtain ⟨q0, q1⟩ := Hd.c2
    have lq := Hd.lt
    by_cases hlt : k < n
    · obtain ⟨m, hm⟩ : ∃ m, n - k = m + 1 := ⟨n - k - 1, by omega⟩
      have hm2 : n - (k + 1) = m := by omega
      have hV' : Hid (V = if (growStep b d g).ok then growR b d m (growStep b d g) else (hrd0, 6)) := by unfold Hid; rw [hV.out, hm]; rfl
      clear hV hm
      have hgo := hg.out
      simp only [Hrd.ok, Bool.and_eq_true] at hgo
      obtain ⟨g01, g02⟩ := nOk_iff.1 hgo.1.1
      obtain ⟨g11, g12⟩ := nOk_iff.1 hgo.1.2
      obtain ⟨g21, g22⟩ := nOk_iff.1 hgo.2
      clear hgo
      have hd1 := died_bd hds.out g01 g02
      have hd2 := died_bd hds.out g11 g12
      have hd3 := died_bd hds.out g21 g22
      have hp1 := part_bd hds.out g01 g02
      have hp2 := part_bd hds.out g11 g12
      have hp3 := part_bd hds.out g21 g22
      have hp4 := part_bd hbs.out hd1.1 hd1.2
      have v1 : IntKind.i64.wrap (g.e - d.n * g.e / d.d) = died g.e d := by unfold died; exact wrap64 (by omega) (by omega)
      have v2 : IntKind.i64.wrap (g.r - d.n * g.r / d.d) = died g.r d := by unfold died; exact wrap64 (by omega) (by omega)
      have v3 : IntKind.i64.wrap (g.l - d.n * g.l / d.d) = died g.l d := by unfold died; exact wrap64 (by omega) (by omega)
      have PE := fun w => partR_any g.e d hds.out g01 g02 w
      have PR := fun w => partR_any g.r d hds.out g11 g12 w
      have PL := fun w => partR_any g.l d hds.out g21 g22 w
      have PB := fun w => partR_any (died g.e d) b hbs.out hd1.1 hd1.2 w
      have hst : Hid (growStep b d g = ⟨died g.e d + (died g.l d + 1) / 2, died g.r d + died g.l d / 2, b.n * died g.e d / b.d⟩) := rfl
      clear hp1 hp2 hp3 g01 g02 g11 g12 g21 g22
      go_upto_region 10 with (fail)
      refine wp_region_xw wo mixed (by kernel_rfl) (by repeat (first | exact Ext.refl _ | (refine Ext.alloc ?_ _) | (refine Ext.trans ?_ (by assumption)))) ?_
      intro hne hrx hry
      try simp only []
      try simp only [List.append_eq, List.cons_append, List.nil_append]
      skip
      repeat (first
        | go_big_quiet_skip
        | (go_big_quiet_want; go_big_quiet_op; go_big_quiet_on)
        | (go_big_quiet_want; go_big_quiet_op; apply Exists.intro; refine ⟨fun u => ?_, ?_⟩
           · first
               | (go_at_call 61; (with_reducible refine Calls.mono (PE _) ?_); rintro e w' ⟨rfl, hb⟩; exact ⟨rfl, u.back hb⟩)
           go_big_quiet_on))
      clear hne hry hrx
      refine wpQuiet_nil ?_
      intro v5 hx
      obtain ⟨hcv5, hfv5, hzv5⟩ := Ext.rules hx
      try simp only [World.size_alloc] at hzv5
      obtain ⟨hcbv5, hfbv5, hzbv5⟩ := Ext.rules (show Ext wo v5 from (by repeat (first | exact Ext.refl _ | (refine Ext.alloc ?_ _) | (refine Ext.trans ?_ (by assumption)))))
      clear hcv5 hfv5
      replace HE := HE.trans hx
      replace Hh := Hh.ext hx
      replace Hb := Hb.ext hx
      replace Hd := Hd.ext hx
      replace Hr := Hr.ext hx
      clear hx
      clear k0 k1 k2 lk p0 p1 lp q0 q1 lq
      obtain ⟨k0, k1, k2⟩ := Hh.c3
      have lk := Hh.lt
      obtain ⟨p0, p1⟩ := Hb.c2
      have lp := Hb.lt
      obtain ⟨q0, q1⟩ := Hd.c2
      have lq := Hd.lt
      go_upto_region 11 with (fail)
      refine wp_region_xw v5 mixed (by kernel_rfl) (by repeat (first | exact Ext.refl _ | (refine Ext.alloc ?_ _) | (refine Ext.trans ?_ (by assumption)))) ?_
      intro hne hrx hry
      try simp only []
      try simp only [List.append_eq, List.cons_append, List.nil_append]
      skip
      repeat (first
        | go_big_quiet_skip
        | (go_big_quiet_want; go_big_quiet_op; go_big_quiet_on)
        | (go_big_quiet_want; go_big_quiet_op; apply Exists.intro; refine ⟨fun u => ?_, ?_⟩
           · first
               | (go_at_call 61; (with_reducible refine Calls.mono (PR _) ?_); rintro e w' ⟨rfl, hb⟩; exact ⟨rfl, u.back hb⟩)
           go_big_quiet_on))
      clear hne hry hrx
      refine wpQuiet_nil ?_
      intro v6 hx
      obtain ⟨hcv6, hfv6, hzv6⟩ := Ext.rules hx
      try simp only [World.size_alloc] at hzv6
      obtain ⟨hcbv6, hfbv6, hzbv6⟩ := Ext.rules (show Ext v5 v6 from (by repeat (first | exact Ext.refl _ | (refine Ext.alloc ?_ _) | (refine Ext.trans ?_ (by assumption)))))
      clear hcv6 hfv6
      replace HE := HE.trans hx
      replace Hh := Hh.ext hx
      replace Hb := Hb.ext hx
      replace Hd := Hd.ext hx
      replace Hr := Hr.ext hx
      clear hx
      clear k0 k1 k2 lk p0 p1 lp q0 q1 lq
      obtain ⟨k0, k1, k2⟩ := Hh.c3
      have lk := Hh.lt
      obtain ⟨p0, p1⟩ := Hb.c2
      have lp := Hb.lt
      obtain ⟨q0, q1⟩ := Hd.c2
      have lq := Hd.lt
      go_upto_region 12 with (fail)
      refine wp_region_xw v6 mixed (by kernel_rfl) (by repeat (first | exact Ext.refl _ | (refine Ext.alloc ?_ _) | (refine Ext.trans ?_ (by assumption)))) ?_
      intro hne hrx hry
      try simp only []
      try simp only [List.append_eq, List.cons_append, List.nil_append]
      skip
      repeat (first
        | go_big_quiet_skip
        | (go_big_quiet_want; go_big_quiet_op; go_big_quiet_on)
        | (go_big_quiet_want; go_big_quiet_op; apply Exists.intro; refine ⟨fun u => ?_, ?_⟩
           · first
               | (go_at_call 61; (with_reducible refine Calls.mono (PL _) ?_); rintro e w' ⟨rfl, hb⟩; exact ⟨rfl, u.back hb⟩)
           go_big_quiet_on))
      clear hne hry hrx
      refine wpQuiet_nil ?_
      intro v7 hx
      obtain ⟨hcv7, hfv7, hzv7⟩ := Ext.rules hx
      try simp only [World.size_alloc] at hzv7
      obtain ⟨hcbv7, hfbv7, hzbv7⟩ := Ext.rules (show Ext v6 v7 from (by repeat (first | exact Ext.refl _ | (refine Ext.alloc ?_ _) | (refine Ext.trans ?_ (by assumption)))))
      clear hcv7 hfv7
      replace HE := HE.trans hx
      replace Hh := Hh.ext hx
      replace Hb := Hb.ext hx
      replace Hd := Hd.ext hx
      replace Hr := Hr.ext hx
      clear hx
      clear k0 k1 k2 lk p0 p1 lp q0 q1 lq
      obtain ⟨k0, k1, k2⟩ := Hh.c3
      have lk := Hh.lt
      obtain ⟨p0, p1⟩ := Hb.c2
      have lp := Hb.lt
      obtain ⟨q0, q1⟩ := Hd.c2
      have lq := Hd.lt
      clear PE PR PL v1 v2 v3
      generalize died g.e d = de at *
      generalize died g.r d = dr at *
      generalize died g.l d = dl at *
      generalize b.n * de / b.d = nl at *
      have u1 : IntKind.i64.wrap (dl + 1) = dl + 1 := wrap64 (by omega) (by omega)
      have u2 : IntKind.i64.wrap ((dl + 1).tdiv 2) = (dl + 1) / 2 := by rw [Int.tdiv_eq_ediv_of_nonneg (by omega)]; exact wrap64 (by omega) (by omega)
      have u3 : IntKind.i64.wrap (de + (dl + 1) / 2) = de + (dl + 1) / 2 := wrap64 (by omega) (by omega)
      have u4 : IntKind.i64.wrap (dl.tdiv 2) = dl / 2 := by rw [Int.tdiv_eq_ediv_of_nonneg (by omega)]; exact wrap64 (by omega) (by omega)
      have u5 : IntKind.i64.wrap (dr + dl / 2) = dr + dl / 2 := wrap64 (by omega) (by omega)
      go_upto_region 14 with (go_at_call 61; (with_reducible refine Calls.mono (PB _) ?_); rintro e v8 ⟨rfl, hx⟩; replace HE := HE.trans hx; replace Hh := Hh.ext hx; replace Hb := Hb.ext hx; replace Hd := Hd.ext hx; replace Hr := Hr.ext hx; clear hx; clear k0 k1 k2 lk p0 p1 lp q0 q1 lq; obtain ⟨k0, k1, k2⟩ := Hh.c3; have lk := Hh.lt; obtain ⟨p0, p1⟩ := Hb.c2; have lp := Hb.lt; obtain ⟨q0, q1⟩ := Hd.c2; have lq := Hd.lt; have f0 := Hh.frozen 0; have f1 := Hh.frozen 1; have f2 := Hh.frozen 2)
      have Hh2 := held3_all Hh (.int .i64 (de + (dl + 1) / 2)) (.int .i64 (dr + dl / 2)) (.int .i64 nl)
      replace Hb := held_oth (held_oth (held_oth Hb hn21 0 (.int .i64 (de + (dl + 1) / 2))) hn21 1 (.int .i64 (dr + dl / 2))) hn21 2 (.int .i64 nl)
      replace Hd := held_oth (held_oth (held_oth Hd hn31 0 (.int .i64 (de + (dl + 1) / 2))) hn31 1 (.int .i64 (dr + dl / 2))) hn31 2 (.int .i64 nl)
      replace Hr := held_oth (held_oth (held_oth Hr hn41 0 (.int .i64 (de + (dl + 1) / 2))) hn41 1 (.int .i64 (dr + dl / 2))) hn41 2 (.int .i64 nl)
      replace HE := ext3 HE hbr1 (.int .i64 (de + (dl + 1) / 2)) (.int .i64 (dr + dl / 2)) (.int .i64 nl)
      clear Hh f0 f1 f2 k0 k1 k2 lk p0 p1 lp q0 q1 lq PB u1 u2 u3 u4 u5 hd1 hd2 hd3 hp4
      have Hh := Hh2
      clear Hh2
      generalize World.setCell _ _ _ = v9 at *
      generalize de + (dl + 1) / 2 = xa at *
      generalize dr + dl / 2 = xb at *
      obtain ⟨k0, k1, k2⟩ := Hh.c3
      have lk := Hh.lt
      obtain ⟨p0, p1⟩ := Hb.c2
      have lp := Hb.lt
      obtain ⟨q0, q1⟩ := Hd.c2
      have lq := Hd.lt
      have hsk : Hid ((growStep b d g).ok = (nOk xa && nOk xb && nOk nl)) := by unfold Hid; rw [hst.out]; rfl
      have hV6 : Hid ((growStep b d g).ok = false → V = (hrd0, 6)) := fun q => by rw [hV'.out, if_neg (by rw [q]; decide)]
      have hV7 : Hid ((growStep b d g).ok = true → V = growR b d m ⟨xa, xb, nl⟩) := fun q => by rw [hV'.out, if_pos q, hst.out]
      have hV8 : Hid ((growStep b d g).ok = true → Hrd.ok ⟨xa, xb, nl⟩ = true) := fun q => by rw [← q, hst.out]
      clear hV' hst
      have NE := fun w => NH xa w
      have NR := fun w => NH xb w
      have NL := fun w => NH nl w
      cases ho : (growStep b d g).ok
      · have hr := hV6.out ho
        rw [ho] at hsk
        subst hr
        have h3 := and3_no hsk.out
        clear hV6 hV7 hV8 hsk ho NH
        rcases h3 with h1 | ⟨h1, h2⟩ | ⟨h1, h2, h4⟩
        · simp only [h1] at NE
          clear h1 NR NL
          have f0 := Hr.frozen 0
          have f1 := Hr.frozen 1
          have f2 := Hr.frozen 2
          obtain ⟨x0, x1, x2⟩ := Hr.c3
          have lx := Hr.lt
          have H9 := held3_all Hr (.int .i64 0) (.int .i64 0) (.int .i64 0)
          have EF := ext3 HE hbr (.int .i64 0) (.int .i64 0) (.int .i64 0)
          obtain ⟨y0, y1, y2⟩ := H9.c3
          go_wp2_with (first | (go_at_call 59; (with_reducible refine Calls.mono (NE _) ?_); rintro e wa ⟨rfl, hx⟩; replace HE := HE.trans hx; replace Hh := Hh.ext hx; replace Hb := Hb.ext hx; replace Hd := Hd.ext hx; replace Hr := Hr.ext hx; clear hx; clear k0 k1 k2 lk p0 p1 lp q0 q1 lq; obtain ⟨k0, k1, k2⟩ := Hh.c3; have lk := Hh.lt; obtain ⟨p0, p1⟩ := Hb.c2; have lp := Hb.lt; obtain ⟨q0, q1⟩ := Hd.c2; have lq := Hd.lt; clear f0 f1 f2 x0 x1 x2 lx H9 EF y0 y1 y2; have f0 := Hr.frozen 0; have f1 := Hr.frozen 1; have f2 := Hr.frozen 2; obtain ⟨x0, x1, x2⟩ := Hr.c3; have lx := Hr.lt; have H9 := held3_all Hr (.int .i64 0) (.int .i64 0) (.int .i64 0); have EF := ext3 HE hbr (.int .i64 0) (.int .i64 0) (.int .i64 0); obtain ⟨y0, y1, y2⟩ := H9.c3))
          refine bodyPost_ret (v := .tuple #[.agg #[.int .i64 0, .int .i64 0, .int .i64 0], .int .i64 6]) (by simp [results, Tryd.results20, go_sem, y0, y1, y2]) rfl ⟨rfl, EF⟩
        · simp only [h1] at NE
          simp only [h2] at NR
          clear h1 h2 NL
          have f0 := Hr.frozen 0
          have f1 := Hr.frozen 1
          have f2 := Hr.frozen 2
          obtain ⟨x0, x1, x2⟩ := Hr.c3
          have lx := Hr.lt
          have H9 := held3_all Hr (.int .i64 0) (.int .i64 0) (.int .i64 0)
          have EF := ext3 HE hbr (.int .i64 0) (.int .i64 0) (.int .i64 0)
          obtain ⟨y0, y1, y2⟩ := H9.c3
          go_wp2_with (first | (go_at_call 59; (with_reducible refine Calls.mono (NE _) ?_); rintro e wa ⟨rfl, hx⟩; replace HE := HE.trans hx; replace Hh := Hh.ext hx; replace Hb := Hb.ext hx; replace Hd := Hd.ext hx; replace Hr := Hr.ext hx; clear hx; clear k0 k1 k2 lk p0 p1 lp q0 q1 lq; obtain ⟨k0, k1, k2⟩ := Hh.c3; have lk := Hh.lt; obtain ⟨p0, p1⟩ := Hb.c2; have lp := Hb.lt; obtain ⟨q0, q1⟩ := Hd.c2; have lq := Hd.lt; clear f0 f1 f2 x0 x1 x2 lx H9 EF y0 y1 y2; have f0 := Hr.frozen 0; have f1 := Hr.frozen 1; have f2 := Hr.frozen 2; obtain ⟨x0, x1, x2⟩ := Hr.c3; have lx := Hr.lt; have H9 := held3_all Hr (.int .i64 0) (.int .i64 0) (.int .i64 0); have EF := ext3 HE hbr (.int .i64 0) (.int .i64 0) (.int .i64 0); obtain ⟨y0, y1, y2⟩ := H9.c3) | (go_at_call 59; (with_reducible refine Calls.mono (NR _) ?_); rintro e wa ⟨rfl, hx⟩; replace HE := HE.trans hx; replace Hh := Hh.ext hx; replace Hb := Hb.ext hx; replace Hd := Hd.ext hx; replace Hr := Hr.ext hx; clear hx; clear k0 k1 k2 lk p0 p1 lp q0 q1 lq; obtain ⟨k0, k1, k2⟩ := Hh.c3; have lk := Hh.lt; obtain ⟨p0, p1⟩ := Hb.c2; have lp := Hb.lt; obtain ⟨q0, q1⟩ := Hd.c2; have lq := Hd.lt; clear f0 f1 f2 x0 x1 x2 lx H9 EF y0 y1 y2; have f0 := Hr.frozen 0; have f1 := Hr.frozen 1; have f2 := Hr.frozen 2; obtain ⟨x0, x1, x2⟩ := Hr.c3; have lx := Hr.lt; have H9 := held3_all Hr (.int .i64 0) (.int .i64 0) (.int .i64 0); have EF := ext3 HE hbr (.int .i64 0) (.int .i64 0) (.int .i64 0); obtain ⟨y0, y1, y2⟩ := H9.c3))
          refine bodyPost_ret (v := .tuple #[.agg #[.int .i64 0, .int .i64 0, .int .i64 0], .int .i64 6]) (by simp [results, Tryd.results20, go_sem, y0, y1, y2]) rfl ⟨rfl, EF⟩
        · simp only [h1] at NE
          simp only [h2] at NR
          simp only [h4] at NL
          clear h1 h2 h4
          have f0 := Hr.frozen 0
          have f1 := Hr.frozen 1
          have f2 := Hr.frozen 2
          obtain ⟨x0, x1, x2⟩ := Hr.c3
          have lx := Hr.lt
          have H9 := held3_all Hr (.int .i64 0) (.int .i64 0) (.int .i64 0)
          have EF := ext3 HE hbr (.int .i64 0) (.int .i64 0) (.int .i64 0)
          obtain ⟨y0, y1, y2⟩ := H9.c3
          go_wp2_with (first | (go_at_call 59; (with_reducible refine Calls.mono (NE _) ?_); rintro e wa ⟨rfl, hx⟩; replace HE := HE.trans hx; replace Hh := Hh.ext hx; replace Hb := Hb.ext hx; replace Hd := Hd.ext hx; replace Hr := Hr.ext hx; clear hx; clear k0 k1 k2 lk p0 p1 lp q0 q1 lq; obtain ⟨k0, k1, k2⟩ := Hh.c3; have lk := Hh.lt; obtain ⟨p0, p1⟩ := Hb.c2; have lp := Hb.lt; obtain ⟨q0, q1⟩ := Hd.c2; have lq := Hd.lt; clear f0 f1 f2 x0 x1 x2 lx H9 EF y0 y1 y2; have f0 := Hr.frozen 0; have f1 := Hr.frozen 1; have f2 := Hr.frozen 2; obtain ⟨x0, x1, x2⟩ := Hr.c3; have lx := Hr.lt; have H9 := held3_all Hr (.int .i64 0) (.int .i64 0) (.int .i64 0); have EF := ext3 HE hbr (.int .i64 0) (.int .i64 0) (.int .i64 0); obtain ⟨y0, y1, y2⟩ := H9.c3) | (go_at_call 59; (with_reducible refine Calls.mono (NR _) ?_); rintro e wa ⟨rfl, hx⟩; replace HE := HE.trans hx; replace Hh := Hh.ext hx; replace Hb := Hb.ext hx; replace Hd := Hd.ext hx; replace Hr := Hr.ext hx; clear hx; clear k0 k1 k2 lk p0 p1 lp q0 q1 lq; obtain ⟨k0, k1, k2⟩ := Hh.c3; have lk := Hh.lt; obtain ⟨p0, p1⟩ := Hb.c2; have lp := Hb.lt; obtain ⟨q0, q1⟩ := Hd.c2; have lq := Hd.lt; clear f0 f1 f2 x0 x1 x2 lx H9 EF y0 y1 y2; have f0 := Hr.frozen 0; have f1 := Hr.frozen 1; have f2 := Hr.frozen 2; obtain ⟨x0, x1, x2⟩ := Hr.c3; have lx := Hr.lt; have H9 := held3_all Hr (.int .i64 0) (.int .i64 0) (.int .i64 0); have EF := ext3 HE hbr (.int .i64 0) (.int .i64 0) (.int .i64 0); obtain ⟨y0, y1, y2⟩ := H9.c3) | (go_at_call 59; (with_reducible refine Calls.mono (NL _) ?_); rintro e wa ⟨rfl, hx⟩; replace HE := HE.trans hx; replace Hh := Hh.ext hx; replace Hb := Hb.ext hx; replace Hd := Hd.ext hx; replace Hr := Hr.ext hx; clear hx; clear k0 k1 k2 lk p0 p1 lp q0 q1 lq; obtain ⟨k0, k1, k2⟩ := Hh.c3; have lk := Hh.lt; obtain ⟨p0, p1⟩ := Hb.c2; have lp := Hb.lt; obtain ⟨q0, q1⟩ := Hd.c2; have lq := Hd.lt; clear f0 f1 f2 x0 x1 x2 lx H9 EF y0 y1 y2; have f0 := Hr.frozen 0; have f1 := Hr.frozen 1; have f2 := Hr.frozen 2; obtain ⟨x0, x1, x2⟩ := Hr.c3; have lx := Hr.lt; have H9 := held3_all Hr (.int .i64 0) (.int .i64 0) (.int .i64 0); have EF := ext3 HE hbr (.int .i64 0) (.int .i64 0) (.int .i64 0); obtain ⟨y0, y1, y2⟩ := H9.c3))
          refine bodyPost_ret (v := .tuple #[.agg #[.int .i64 0, .int .i64 0, .int .i64 0], .int .i64 6]) (by simp [results, Tryd.results20, go_sem, y0, y1, y2]) rfl ⟨rfl, EF⟩
      · have hr := Lib.hid (hV7.out ho)
        have hk8 := Lib.hid (hV8.out ho)
        rw [ho] at hsk
        have h3 := and3_yes hsk.out
        clear hV6 hV7 hV8 hsk ho
        simp only [h3.1] at NE
        simp only [h3.2.1] at NR
        simp only [h3.2.2] at NL
        clear h3
        go_wp2_with (first | (go_at_call 59; (with_reducible refine Calls.mono (NE _) ?_); rintro e wa ⟨rfl, hx⟩; replace HE := HE.trans hx; replace Hh := Hh.ext hx; replace Hb := Hb.ext hx; replace Hd := Hd.ext hx; replace Hr := Hr.ext hx; clear hx; clear k0 k1 k2 lk p0 p1 lp q0 q1 lq; obtain ⟨k0, k1, k2⟩ := Hh.c3; have lk := Hh.lt; obtain ⟨p0, p1⟩ := Hb.c2; have lp := Hb.lt; obtain ⟨q0, q1⟩ := Hd.c2; have lq := Hd.lt) | (go_at_call 59; (with_reducible refine Calls.mono (NR _) ?_); rintro e wa ⟨rfl, hx⟩; replace HE := HE.trans hx; replace Hh := Hh.ext hx; replace Hb := Hb.ext hx; replace Hd := Hd.ext hx; replace Hr := Hr.ext hx; clear hx; clear k0 k1 k2 lk p0 p1 lp q0 q1 lq; obtain ⟨k0, k1, k2⟩ := Hh.c3; have lk := Hh.lt; obtain ⟨p0, p1⟩ := Hb.c2; have lp := Hb.lt; obtain ⟨q0, q1⟩ := Hd.c2; have lq := Hd.lt) | (go_at_call 59; (with_reducible refine Calls.mono (NL _) ?_); rintro e wa ⟨rfl, hx⟩; replace HE := HE.trans hx; replace Hh := Hh.ext hx; replace Hb := Hb.ext hx; replace Hd := Hd.ext hx; replace Hr := Hr.ext hx; clear hx; clear k0 k1 k2 lk p0 p1 lp q0 q1 lq; obtain ⟨k0, k1, k2⟩ := Hh.c3; have lk := Hh.lt; obtain ⟨p0, p1⟩ := Hb.c2; have lp := Hb.lt; obtain ⟨q0, q1⟩ := Hd.c2; have lq := Hd.lt))
        exact ⟨⟨k + 1, by omega, by go_num, ⟨xa, xb, nl⟩, hk8, HE, Hh, Hb, Hd, Hr, by rw [hm2]; exact hr⟩, by simp [intOf]; omega⟩
    · obtain rfl : k = n := by omega
      have hr : V = (g, 0) := by rw [hV.out, Nat.sub_self]; rfl
      subst hr
      clear hV
      have f0 := Hr.frozen 0
      have f1 := Hr.frozen 1
      have f2 := Hr.frozen 2
      obtain ⟨x0, x1, x2⟩ := Hr.c3
      have lx := Hr.lt
      have H9 := held3_all Hr (.int .i64 g.e) (.int .i64 g.r) (.int .i64 g.l)
      have EF := ext3 HE hbr (.int .i64 g.e) (.int .i64 g.r) (.int .i64 g.l)
      obtain ⟨y0, y1, y2⟩ := H9.c3
      go_wp2
      refine bodyPost_ret (v := .tuple #[.agg #[.int .i64 g.e, .int .i64 g.r, .int .i64 g.l], .int .i64 0]) (by simp [results, Tryd.results20, go_sem, y0, y1, y2]) rfl ⟨rfl, EF⟩

set_option maxRecDepth 100000 in
set_option maxHeartbeats 4000000 in
theorem ledgerHerdGrows_walk (h : Hrd) (b d : Rt) (y : Int) (hb : b.In) (hd : d.In) (hy1 : -9223372036854775808 ≤ y) (hy2 : y ≤ 9223372036854775807) (w : World) (hZ : Zro w) :
    Calls Tryd.prog 4 #[.agg #[.int .i64 h.e, .int .i64 h.r, .int .i64 h.l], .agg #[.int .i64 b.n, .int .i64 b.d, .int .i64 d.n, .int .i64 d.d], .int .i64 y] w fun e w' => e = .returned (.bool true) ∧ Ext w w' := by
  have NG := fun w => grow_any h b d y hb hd hy1 hy2 w
  have NR := fun w => growR_any h b d y hb hd hy1 hy2 w
  generalize growV h b d y = V at *
  obtain ⟨⟨ve, vr, vl⟩, vc⟩ := V
  simp only at NG NR
  go_enter Tryd.func4, Tryd.ntmps4
  go_upto_region 1 with (fail)
  obtain ⟨v, hv⟩ : ∃ v, v = ((w.alloc (.cells #[.int .i64 h.e, .int .i64 h.r, .int .i64 h.l] 50)).alloc (.cells #[.int .i64 b.n, .int .i64 b.d, .int .i64 d.n, .int .i64 d.d] 53)) := ⟨_, rfl⟩
  rw [← hv]
  have E : Ext w v := by rw [hv]; exact ((Ext.refl _).alloc _).alloc _
  have B1 : Held v w.heap.size 50 #[.int .i64 h.e, .int .i64 h.r, .int .i64 h.l] := by rw [hv]; exact (Held.new _ _ _).alloc _
  have B2 : Held v (w.heap.size + 1) 53 #[.int .i64 b.n, .int .i64 b.d, .int .i64 d.n, .int .i64 d.d] := by rw [hv]; exact Held.at _ _ _ _ (by simp)
  clear hv
  obtain ⟨b2, hb2⟩ : ∃ b, b = w.heap.size + 1 := ⟨_, rfl⟩
  rw [← hb2] at B2 ⊢
  obtain ⟨b1, hb1⟩ : ∃ b, b = w.heap.size := ⟨_, rfl⟩
  rw [← hb1] at B1 ⊢
  have hbr : w.heap.size ≤ b2 := by omega
  have hbr1 : w.heap.size ≤ b1 := by omega
  have hn21 : b2 ≠ b1 := by omega
  clear hb1 hb2
  have Z := hZ.ext E
  obtain ⟨k0, k1, k2⟩ := B1.c3
  have kl := B1.lt
  obtain ⟨p0, p1, p2, p3⟩ := B2.c4
  have pl := B2.lt
  go_upto_region 2 with (go_at_call 19; (with_reducible refine Calls.mono (NG _) ?_); rintro e w1 ⟨rfl, hx⟩; replace E := E.trans hx; replace Z := Z.ext hx; replace B1 := B1.ext hx; replace B2 := B2.ext hx; clear hx; clear k0 k1 k2 kl p0 p1 p2 p3 pl; obtain ⟨k0, k1, k2⟩ := B1.c3; have kl := B1.lt; obtain ⟨p0, p1, p2, p3⟩ := B2.c4; have pl := B2.lt)
  obtain ⟨vb1, hv⟩ : ∃ x, x = (w1.alloc (.cells #[.int .i64 ve, .int .i64 vr, .int .i64 vl] 50)) := ⟨_, rfl⟩
  rw [← hv]
  have hx : Ext w1 vb1 := by rw [hv]; exact (Ext.refl _).alloc _
  have B3 : Held vb1 w1.heap.size 50 #[.int .i64 ve, .int .i64 vr, .int .i64 vl] := by rw [hv]; exact Held.new _ _ _
  clear hv
  generalize w1.heap.size = bb1 at *
  clear k0 k1 k2 kl p0 p1 p2 p3 pl
  replace E := E.trans hx
  replace Z := Z.ext hx
  replace B1 := B1.ext hx
  replace B2 := B2.ext hx
  clear hx
  obtain ⟨k0, k1, k2⟩ := B1.c3
  have kl := B1.lt
  obtain ⟨p0, p1, p2, p3⟩ := B2.c4
  have pl := B2.lt
  obtain ⟨q0, q1, q2⟩ := B3.c3
  have ql := B3.lt
  go_upto_region 3 with (go_at_call 20; (with_reducible refine Calls.mono (NR _) ?_); rintro e w2 ⟨rfl, hx⟩; replace E := E.trans hx; replace Z := Z.ext hx; replace B1 := B1.ext hx; replace B2 := B2.ext hx; replace B3 := B3.ext hx; clear hx; clear k0 k1 k2 kl p0 p1 p2 p3 pl q0 q1 q2 ql; obtain ⟨k0, k1, k2⟩ := B1.c3; have kl := B1.lt; obtain ⟨p0, p1, p2, p3⟩ := B2.c4; have pl := B2.lt; obtain ⟨q0, q1, q2⟩ := B3.c3; have ql := B3.lt)
  obtain ⟨vb2, hv⟩ : ∃ x, x = (w2.alloc (.cells #[.int .i64 ve, .int .i64 vr, .int .i64 vl] 50)) := ⟨_, rfl⟩
  rw [← hv]
  have hx : Ext w2 vb2 := by rw [hv]; exact (Ext.refl _).alloc _
  have B4 : Held vb2 w2.heap.size 50 #[.int .i64 ve, .int .i64 vr, .int .i64 vl] := by rw [hv]; exact Held.new _ _ _
  clear hv
  generalize w2.heap.size = bb2 at *
  clear k0 k1 k2 kl p0 p1 p2 p3 pl q0 q1 q2 ql
  replace E := E.trans hx
  replace Z := Z.ext hx
  replace B1 := B1.ext hx
  replace B2 := B2.ext hx
  replace B3 := B3.ext hx
  clear hx
  obtain ⟨k0, k1, k2⟩ := B1.c3
  have kl := B1.lt
  obtain ⟨p0, p1, p2, p3⟩ := B2.c4
  have pl := B2.lt
  obtain ⟨q0, q1, q2⟩ := B3.c3
  have ql := B3.lt
  obtain ⟨r0, r1, r2⟩ := B4.c3
  have rl := B4.lt
  go_wp2_with (go_at_call 21; (with_reducible refine Calls.mono (works8_any _ Z) ?_); rintro e wk ⟨rfl, hk⟩)
  go_ret
  exact ⟨rfl, E.trans hk⟩

end Go.Proofs.YtlnjeklmkjgidaaDoor
