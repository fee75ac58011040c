/- The walks of LedgerDoublesFirst, LedgerInterestLinear. -/
import Derived.Test.YtlnjeklmkjgidaaDoorB12
namespace Go.Proofs.YtlnjeklmkjgidaaDoor
open Go Go.RowKit Go.Shelf
attribute [local go_sem] gv_yes
attribute [local go_sem high] neq_ratio neq_debt neq_herd

section
variable {W : World} {b : Nat} {t : TypeId} {v0 v1 v2 v3 v4 v5 v6 v7 v8 v9 v10 v11 v12 : Value}
theorem held_c10 (h : Held W b t #[v0, v1, v2, v3, v4, v5, v6, v7, v8, v9]) : W.cell? ⟨b, 0, none⟩ = some v0 ∧ W.cell? ⟨b, 1, none⟩ = some v1 ∧ W.cell? ⟨b, 2, none⟩ = some v2 ∧ W.cell? ⟨b, 3, none⟩ = some v3 ∧ W.cell? ⟨b, 4, none⟩ = some v4 ∧ W.cell? ⟨b, 5, none⟩ = some v5 ∧ W.cell? ⟨b, 6, none⟩ = some v6 ∧ W.cell? ⟨b, 7, none⟩ = some v7 ∧ W.cell? ⟨b, 8, none⟩ = some v8 ∧ W.cell? ⟨b, 9, none⟩ = some v9 := ⟨h.cell 0, h.cell 1, h.cell 2, h.cell 3, h.cell 4, h.cell 5, h.cell 6, h.cell 7, h.cell 8, h.cell 9⟩
theorem held_c13 (h : Held W b t #[v0, v1, v2, v3, v4, v5, v6, v7, v8, v9, v10, v11, v12]) : W.cell? ⟨b, 0, none⟩ = some v0 ∧ W.cell? ⟨b, 1, none⟩ = some v1 ∧ W.cell? ⟨b, 2, none⟩ = some v2 ∧ W.cell? ⟨b, 3, none⟩ = some v3 ∧ W.cell? ⟨b, 4, none⟩ = some v4 ∧ W.cell? ⟨b, 5, none⟩ = some v5 ∧ W.cell? ⟨b, 6, none⟩ = some v6 ∧ W.cell? ⟨b, 7, none⟩ = some v7 ∧ W.cell? ⟨b, 8, none⟩ = some v8 ∧ W.cell? ⟨b, 9, none⟩ = some v9 ∧ W.cell? ⟨b, 10, none⟩ = some v10 ∧ W.cell? ⟨b, 11, none⟩ = some v11 ∧ W.cell? ⟨b, 12, none⟩ = some v12 := ⟨h.cell 0, h.cell 1, h.cell 2, h.cell 3, h.cell 4, h.cell 5, h.cell 6, h.cell 7, h.cell 8, h.cell 9, h.cell 10, h.cell 11, h.cell 12⟩
end

theorem dbl_no {r : Rt} (h : r.pos = false) : dblV r = (0, 2) := by unfold dblV; rw [h]; rfl
theorem dbl_yes {r : Rt} (h : r.pos = true) : dblV r = ((dblV r).1, 0) := by
  have h2 : (dblV r).2 = 0 := by unfold dblV; rw [if_pos h]
  rw [← h2]
set_option maxRecDepth 100000 in
set_option maxHeartbeats 4000000 in
theorem ledgerDoublesFirst_walk (p r : Rt) (hp : p.In) (hr : r.In) (w : World) (hZ : Zro w) :
    Calls Tryd.prog 6 #[.agg #[.int .i64 p.n, .int .i64 p.d], .agg #[.int .i64 r.n, .int .i64 r.d]] w fun e w' => e = .returned (.bool true) ∧ Ext w w' := by
  have ND := fun w => doubles_any r hr w
  go_enter Tryd.func6, Tryd.ntmps6
  go_upto_region 1 with (fail)
  obtain ⟨v, hv⟩ : ∃ v, v = ((w.alloc (.cells #[.int .i64 p.n, .int .i64 p.d] 52)).alloc (.cells #[.int .i64 r.n, .int .i64 r.d] 52)) := ⟨_, rfl⟩
  rw [← hv]
  have E : Ext w v := by rw [hv]; exact ((Ext.refl _).alloc _).alloc _
  have B1 : Held v w.heap.size 52 #[.int .i64 p.n, .int .i64 p.d] := by rw [hv]; exact (Held.new _ _ _).alloc _
  have B2 : Held v (w.heap.size + 1) 52 #[.int .i64 r.n, .int .i64 r.d] := by rw [hv]; exact Held.at _ _ _ _ (by simp)
  clear hv
  obtain ⟨b2, hb2⟩ : ∃ b, b = w.heap.size + 1 := ⟨_, rfl⟩
  rw [← hb2] at B2 ⊢
  obtain ⟨b1, hb1⟩ : ∃ b, b = w.heap.size := ⟨_, rfl⟩
  rw [← hb1] at B1 ⊢
  have hbr : w.heap.size ≤ b2 := by omega
  have hbr1 : w.heap.size ≤ b1 := by omega
  have hn21 : b2 ≠ b1 := by omega
  clear hb1 hb2
  have Z := hZ.ext E
  obtain ⟨k0, k1⟩ := B1.c2
  have kl := B1.lt
  obtain ⟨p0, p1⟩ := B2.c2
  have pl := B2.lt
  cases hpos : r.pos
  · simp only [dbl_no hpos] at ND
    go_wp2_with (first | (go_at_call 25; (with_reducible refine Calls.mono (ND _) ?_); rintro e w1 ⟨rfl, hx⟩; replace E := E.trans hx; replace Z := Z.ext hx; replace B1 := B1.ext hx; replace B2 := B2.ext hx; clear hx; clear k0 k1 kl p0 p1 pl; obtain ⟨k0, k1⟩ := B1.c2; have kl := B1.lt; obtain ⟨p0, p1⟩ := B2.c2; have pl := B2.lt) | (go_at_call 21; (with_reducible refine Calls.mono (works8_any _ Z) ?_); rintro e wk ⟨rfl, hk⟩))
    go_ret
    exact ⟨rfl, E.trans hk⟩
  obtain ⟨d1, d2, _, _⟩ := dbl_bd hpos
  have HL := Lib.hid fun ho hn h => doubles_least (p := p) hpos ho hn h
  have HN := Lib.hid fun ho hn h => doubles_not (p := p) hpos ho hn h
  rw [dbl_yes hpos] at ND
  clear hpos
  generalize (dblV r).1 = n at *
  simp only at ND
  have NA := fun w hz => interest_any p r n hp hr (by omega) (by omega) w hz
  have NB := fun w hz => interest_any p r (n - 1) hp hr (by omega) (by omega) w hz
  have NX := fun w => isRatio_any p.n p.d hp.1 hp.2.1 hp.2.2.1 hp.2.2.2 w
  have hw : IntKind.i64.wrap (n - 1) = n - 1 := wrap64 (by omega) (by omega)
  have hia := intV_in p r n
  have hib := intV_in p r (n - 1)
  generalize intV p r n = X at *
  generalize intV p r (n - 1) = Y at *
  obtain ⟨⟨xn, xd⟩, xe⟩ := X
  obtain ⟨⟨yn, yd⟩, ye⟩ := Y
  simp only at NA NB HL HN hia hib
  have NC := fun w => cmpF_any ⟨xn, xd⟩ p hia hp w
  have NE := fun w => cmpF_any ⟨yn, yd⟩ p hib hp w
  generalize cmpR ⟨xn, xd⟩ p = P at *
  generalize cmpR ⟨yn, yd⟩ p = Q at *
  obtain ⟨pc, pe⟩ := P
  obtain ⟨qc, qe⟩ := Q
  simp only [Prod.mk.injEq] at NC NE HL HN
  clear hia hib
  have hn1 : decide (n < 1) = false := decide_eq_false (by omega)
  have hn2 : decide (1 ≤ n) = true := decide_eq_true (by omega)
  go_upto_region 5 with (first | (go_at_call 25; (with_reducible refine Calls.mono (ND _) ?_); rintro e w1 ⟨rfl, hx⟩; replace E := E.trans hx; replace Z := Z.ext hx; replace B1 := B1.ext hx; replace B2 := B2.ext hx; clear hx; clear k0 k1 kl p0 p1 pl; obtain ⟨k0, k1⟩ := B1.c2; have kl := B1.lt; obtain ⟨p0, p1⟩ := B2.c2; have pl := B2.lt) | (go_at_call 22; (with_reducible refine Calls.mono (NA _ Z) ?_); rintro e w2 ⟨rfl, hx⟩; replace E := E.trans hx; replace Z := Z.ext hx; replace B1 := B1.ext hx; replace B2 := B2.ext hx; clear hx; clear k0 k1 kl p0 p1 pl; obtain ⟨k0, k1⟩ := B1.c2; have kl := B1.lt; obtain ⟨p0, p1⟩ := B2.c2; have pl := B2.lt))
  obtain ⟨vb1, hv⟩ : ∃ x, x = (w2.alloc (.cells #[.int .i64 xn, .int .i64 xd] 52)) := ⟨_, rfl⟩
  rw [← hv]
  have hx : Ext w2 vb1 := by rw [hv]; exact (Ext.refl _).alloc _
  have B3 : Held vb1 w2.heap.size 52 #[.int .i64 xn, .int .i64 xd] := by rw [hv]; exact Held.new _ _ _
  clear hv
  generalize w2.heap.size = bb1 at *
  clear k0 k1 kl p0 p1 pl
  replace E := E.trans hx
  replace Z := Z.ext hx
  replace B1 := B1.ext hx
  replace B2 := B2.ext hx
  clear hx
  obtain ⟨k0, k1⟩ := B1.c2
  have kl := B1.lt
  obtain ⟨p0, p1⟩ := B2.c2
  have pl := B2.lt
  obtain ⟨q0, q1⟩ := B3.c2
  have ql := B3.lt
  go_upto_region 6 with (go_at_call 22; (with_reducible refine Calls.mono (NB _ Z) ?_); rintro e w3 ⟨rfl, hx⟩; replace E := E.trans hx; replace Z := Z.ext hx; replace B1 := B1.ext hx; replace B2 := B2.ext hx; replace B3 := B3.ext hx; clear hx; clear k0 k1 kl p0 p1 pl q0 q1 ql; obtain ⟨k0, k1⟩ := B1.c2; have kl := B1.lt; obtain ⟨p0, p1⟩ := B2.c2; have pl := B2.lt; obtain ⟨q0, q1⟩ := B3.c2; have ql := B3.lt)
  obtain ⟨vb2, hv⟩ : ∃ x, x = (w3.alloc (.cells #[.int .i64 yn, .int .i64 yd] 52)) := ⟨_, rfl⟩
  rw [← hv]
  have hx : Ext w3 vb2 := by rw [hv]; exact (Ext.refl _).alloc _
  have B4 : Held vb2 w3.heap.size 52 #[.int .i64 yn, .int .i64 yd] := by rw [hv]; exact Held.new _ _ _
  clear hv
  generalize w3.heap.size = bb2 at *
  clear k0 k1 kl p0 p1 pl q0 q1 ql
  replace E := E.trans hx
  replace Z := Z.ext hx
  replace B1 := B1.ext hx
  replace B2 := B2.ext hx
  replace B3 := B3.ext hx
  clear hx
  obtain ⟨k0, k1⟩ := B1.c2
  have kl := B1.lt
  obtain ⟨p0, p1⟩ := B2.c2
  have pl := B2.lt
  obtain ⟨q0, q1⟩ := B3.c2
  have ql := B3.lt
  obtain ⟨r0, r1⟩ := B4.c2
  have rl := B4.lt
  clear NA NB ND
  have hok : Hid (p.ok = Rt.ok ⟨p.n, p.d⟩) := rfl
  generalize Rt.ok ⟨p.n, p.d⟩ = ok at *
  cases ok
  · clear HL HN
    go_wp2_with (first | (go_at_call 26; (with_reducible refine Calls.mono (NX _) ?_); rintro e w4 ⟨rfl, hx⟩; replace E := E.trans hx; replace Z := Z.ext hx; replace B1 := B1.ext hx; replace B2 := B2.ext hx; replace B3 := B3.ext hx; replace B4 := B4.ext hx; clear hx; clear k0 k1 kl p0 p1 pl q0 q1 ql r0 r1 rl; obtain ⟨k0, k1⟩ := B1.c2; have kl := B1.lt; obtain ⟨p0, p1⟩ := B2.c2; have pl := B2.lt; obtain ⟨q0, q1⟩ := B3.c2; have ql := B3.lt; obtain ⟨r0, r1⟩ := B4.c2; have rl := B4.lt) | (go_at_call 21; (with_reducible refine Calls.mono (works8_any _ Z) ?_); rintro e wk ⟨rfl, hk⟩))
    go_ret
    exact ⟨rfl, E.trans hk⟩
  by_cases hpn : p.n ≤ 0
  · have g1 : decide (p.n ≤ 0) = true := decide_eq_true hpn
    clear HL HN hpn
    go_wp2_with (first | (go_at_call 26; (with_reducible refine Calls.mono (NX _) ?_); rintro e w4 ⟨rfl, hx⟩; replace E := E.trans hx; replace Z := Z.ext hx; replace B1 := B1.ext hx; replace B2 := B2.ext hx; replace B3 := B3.ext hx; replace B4 := B4.ext hx; clear hx; clear k0 k1 kl p0 p1 pl q0 q1 ql r0 r1 rl; obtain ⟨k0, k1⟩ := B1.c2; have kl := B1.lt; obtain ⟨p0, p1⟩ := B2.c2; have pl := B2.lt; obtain ⟨q0, q1⟩ := B3.c2; have ql := B3.lt; obtain ⟨r0, r1⟩ := B4.c2; have rl := B4.lt) | (go_at_call 21; (with_reducible refine Calls.mono (works8_any _ Z) ?_); rintro e wk ⟨rfl, hk⟩))
    go_ret
    exact ⟨rfl, E.trans hk⟩
  have g1 : decide (p.n ≤ 0) = false := decide_eq_false hpn
  go_upto_region 8 with (go_at_call 26; (with_reducible refine Calls.mono (NX _) ?_); rintro e w4 ⟨rfl, hx⟩; replace E := E.trans hx; replace Z := Z.ext hx; replace B1 := B1.ext hx; replace B2 := B2.ext hx; replace B3 := B3.ext hx; replace B4 := B4.ext hx; clear hx; clear k0 k1 kl p0 p1 pl q0 q1 ql r0 r1 rl; obtain ⟨k0, k1⟩ := B1.c2; have kl := B1.lt; obtain ⟨p0, p1⟩ := B2.c2; have pl := B2.lt; obtain ⟨q0, q1⟩ := B3.c2; have ql := B3.lt; obtain ⟨r0, r1⟩ := B4.c2; have rl := B4.lt)
  have HL2 : Hid (xe = 0 → decide (pc < 0) = false ∧ pe = 0) := fun h => by
    obtain ⟨⟨h1, h2⟩, h3⟩ := HL.out hok.out (by omega) h
    exact ⟨decide_eq_false (by rw [h1]; omega), h2⟩
  have HN2 : Hid (ye = 0 → qc = -1 ∧ qe = 0) := fun h => HN.out hok.out (by omega) h
  clear HL HN hok NX hpn g1 hn1 hn2
  by_cases hx : xe = 0
  · obtain ⟨u1, u2⟩ := HL2.out hx
    subst hx u2
    clear HL2
    by_cases hy : ye = 0
    · obtain ⟨u3, u4⟩ := HN2.out hy
      subst hy u3 u4
      clear HN2
      go_wp2_with (first | (go_at_call 24; (with_reducible refine Calls.mono (NC _) ?_); rintro e w5 ⟨rfl, hx⟩; replace E := E.trans hx; replace Z := Z.ext hx; replace B1 := B1.ext hx; replace B2 := B2.ext hx; replace B3 := B3.ext hx; replace B4 := B4.ext hx; clear hx; clear k0 k1 kl p0 p1 pl q0 q1 ql r0 r1 rl; obtain ⟨k0, k1⟩ := B1.c2; have kl := B1.lt; obtain ⟨p0, p1⟩ := B2.c2; have pl := B2.lt; obtain ⟨q0, q1⟩ := B3.c2; have ql := B3.lt; obtain ⟨r0, r1⟩ := B4.c2; have rl := B4.lt) | (go_at_call 24; (with_reducible refine Calls.mono (NE _) ?_); rintro e w6 ⟨rfl, hx⟩; replace E := E.trans hx; replace Z := Z.ext hx; replace B1 := B1.ext hx; replace B2 := B2.ext hx; replace B3 := B3.ext hx; replace B4 := B4.ext hx; clear hx; clear k0 k1 kl p0 p1 pl q0 q1 ql r0 r1 rl; obtain ⟨k0, k1⟩ := B1.c2; have kl := B1.lt; obtain ⟨p0, p1⟩ := B2.c2; have pl := B2.lt; obtain ⟨q0, q1⟩ := B3.c2; have ql := B3.lt; obtain ⟨r0, r1⟩ := B4.c2; have rl := B4.lt) | (go_at_call 21; (with_reducible refine Calls.mono (works8_any _ Z) ?_); rintro e wk ⟨rfl, hk⟩))
      go_ret
      exact ⟨rfl, E.trans hk⟩
    · have g2 : (ye == 0) = false := beq_eq_false_iff_ne.2 hy
      clear HN2 hy
      go_wp2_with (first | (go_at_call 24; (with_reducible refine Calls.mono (NC _) ?_); rintro e w5 ⟨rfl, hx⟩; replace E := E.trans hx; replace Z := Z.ext hx; replace B1 := B1.ext hx; replace B2 := B2.ext hx; replace B3 := B3.ext hx; replace B4 := B4.ext hx; clear hx; clear k0 k1 kl p0 p1 pl q0 q1 ql r0 r1 rl; obtain ⟨k0, k1⟩ := B1.c2; have kl := B1.lt; obtain ⟨p0, p1⟩ := B2.c2; have pl := B2.lt; obtain ⟨q0, q1⟩ := B3.c2; have ql := B3.lt; obtain ⟨r0, r1⟩ := B4.c2; have rl := B4.lt) | (go_at_call 21; (with_reducible refine Calls.mono (works8_any _ Z) ?_); rintro e wk ⟨rfl, hk⟩))
      go_ret
      exact ⟨rfl, E.trans hk⟩
  · have g3 : (xe == 0) = false := beq_eq_false_iff_ne.2 hx
    clear HL2 hx
    by_cases hy : ye = 0
    · obtain ⟨u3, u4⟩ := HN2.out hy
      subst hy u3 u4
      clear HN2
      go_wp2_with (first | (go_at_call 24; (with_reducible refine Calls.mono (NE _) ?_); rintro e w6 ⟨rfl, hx⟩; replace E := E.trans hx; replace Z := Z.ext hx; replace B1 := B1.ext hx; replace B2 := B2.ext hx; replace B3 := B3.ext hx; replace B4 := B4.ext hx; clear hx; clear k0 k1 kl p0 p1 pl q0 q1 ql r0 r1 rl; obtain ⟨k0, k1⟩ := B1.c2; have kl := B1.lt; obtain ⟨p0, p1⟩ := B2.c2; have pl := B2.lt; obtain ⟨q0, q1⟩ := B3.c2; have ql := B3.lt; obtain ⟨r0, r1⟩ := B4.c2; have rl := B4.lt) | (go_at_call 21; (with_reducible refine Calls.mono (works8_any _ Z) ?_); rintro e wk ⟨rfl, hk⟩))
      go_ret
      exact ⟨rfl, E.trans hk⟩
    · have g2 : (ye == 0) = false := beq_eq_false_iff_ne.2 hy
      clear HN2 hy
      go_wp2_with (go_at_call 21; (with_reducible refine Calls.mono (works8_any _ Z) ?_); rintro e wk ⟨rfl, hk⟩)
      go_ret
      exact ⟨rfl, E.trans hk⟩

theorem cmpS_bd (x y : Int) : -1 ≤ cmpS x y ∧ cmpS x y ≤ 1 := by unfold cmpS; split <;> (try split) <;> omega
theorem cmpR_bd (a b : Rt) : -1 ≤ (cmpR a b).1 ∧ (cmpR a b).1 ≤ 1 := by
  unfold cmpR
  split
  · exact cmpS_bd _ _
  · show (-1 : Int) ≤ 0 ∧ (0 : Int) ≤ 1; decide
theorem cmp_mul {c d : Int} (h1 : -1 ≤ c ∧ c ≤ 1) (h2 : -1 ≤ d ∧ d ≤ 1) : IntKind.i64.wrap (c * d) = c * d := by
  have h3 : c = -1 ∨ c = 0 ∨ c = 1 := by omega
  have h4 : d = -1 ∨ d = 0 ∨ d = 1 := by omega
  rcases h3 with rfl | rfl | rfl <;> rcases h4 with rfl | rfl | rfl <;> rfl

set_option maxRecDepth 100000 in
set_option maxHeartbeats 40000000 in
theorem ledgerInterestLinear_walk (p q r : Rt) (m n : Int) (hp : p.In) (hq : q.In) (hr : r.In) (hm1 : -2147483648 ≤ m) (hm2 : m ≤ 2147483647) (hn1 : -2147483648 ≤ n) (hn2 : n ≤ 2147483647) (w : World) (hZ : Zro w) :
    Calls Tryd.prog 5 #[.agg #[.int .i64 p.n, .int .i64 p.d, .int .i64 q.n, .int .i64 q.d], .agg #[.int .i64 r.n, .int .i64 r.d], .agg #[.int .i32 m, .int .i32 n]] w fun e w' => e = .returned (.bool true) ∧ Ext w w' := by
  have NA := fun w hz => interest_any p r m hp hr (by omega) (by omega) w hz
  have NB := fun w hz => interest_any p r n hp hr (by omega) (by omega) w hz
  have NC := fun w hz => interest_any p r (m + n) hp hr (by omega) (by omega) w hz
  have ND := fun w hz => interest_any q r m hq hr (by omega) (by omega) w hz
  have NS := fun w hz => addF_any (intV p r m).1 (intV p r n).1 (intV_in _ _ _) (intV_in _ _ _) w hz
  have NK1 := fun w => cmpF_any (intV p r m).1 (intV p r (m + n)).1 (intV_in _ _ _) (intV_in _ _ _) w
  have NK2 := fun w => cmpF_any p q hp hq w
  have NK3 := fun w => cmpF_any (intV p r m).1 (intV q r m).1 (intV_in _ _ _) (intV_in _ _ _) w
  have NP := fun w hz => addF_any p q hp hq w hz
  have NX := fun w hz => interest_any (addR p q).1 r m (addR_in _ _) hr (by omega) (by omega) w hz
  have NY := fun w hz => addF_any (intV p r m).1 (intV q r m).1 (intV_in _ _ _) (intV_in _ _ _) w hz
  have H1 := Lib.hid fun h1 h2 h3 h4 => lin_sum (p := p) (r := r) (m := m) (n := n) h1 h2 h3 h4
  have H2 := Lib.hid fun h1 h2 h3 => lin_more (p := p) (r := r) (m := m) (n := n) h1 h2 h3
  have H3 := Lib.hid fun h1 h2 => lin_order (p := p) (q := q) (r := r) (m := m) h1 h2
  have H4 := Lib.hid fun h1 h2 h3 h4 h5 => lin_both (p := p) (q := q) (r := r) (m := m) h1 h2 h3 h4 h5
  have b2 := cmpR_bd p q
  have b3 := cmpR_bd (intV p r m).1 (intV q r m).1
  generalize addR (intV p r m).1 (intV p r n).1 = S at *
  generalize cmpR (intV p r m).1 (intV p r (m + n)).1 = K1 at *
  generalize cmpR (intV p r m).1 (intV q r m).1 = K3 at *
  generalize addR (intV p r m).1 (intV q r m).1 = Y at *
  generalize cmpR p q = K2 at *
  generalize intV (addR p q).1 r m = X at *
  generalize addR p q = PP at *
  generalize intV p r m = A at *
  generalize intV p r n = B at *
  generalize intV p r (m + n) = C at *
  generalize intV q r m = D at *
  obtain ⟨⟨an, ad⟩, ae⟩ := A
  obtain ⟨⟨bn, bd⟩, be⟩ := B
  obtain ⟨⟨cn, cd⟩, ce⟩ := C
  obtain ⟨⟨dn, dd⟩, de⟩ := D
  obtain ⟨⟨sn, sd⟩, se⟩ := S
  obtain ⟨⟨xn, xd⟩, xe⟩ := X
  obtain ⟨⟨yn, yd⟩, ye⟩ := Y
  obtain ⟨⟨pn, pd⟩, pe⟩ := PP
  obtain ⟨k1, f1⟩ := K1
  obtain ⟨k2, f2⟩ := K2
  obtain ⟨k3, f3⟩ := K3
  simp only at NA NB NC ND NS NK1 NK2 NK3 NP NX NY H1 H2 H3 H4 b2 b3
  have hw3 := cmp_mul b2 b3
  have hw1 : IntKind.i64.wrap m = m := wrap64 (by omega) (by omega)
  have hw2 : IntKind.i64.wrap n = n := wrap64 (by omega) (by omega)
  have hw0 : IntKind.i64.wrap (m + n) = m + n := wrap64 (by omega) (by omega)
  clear b2 b3 hm1 hm2 hn1 hn2
  go_enter Tryd.func5, Tryd.ntmps5
  go_upto_region 1 with (fail)
  obtain ⟨v, hv⟩ : ∃ v, v = (((w.alloc (.cells #[.int .i64 p.n, .int .i64 p.d, .int .i64 q.n, .int .i64 q.d] 53)).alloc (.cells #[.int .i64 r.n, .int .i64 r.d] 52)).alloc (.cells #[.int .i32 m, .int .i32 n] 57)) := ⟨_, rfl⟩
  rw [← hv]
  have E : Ext w v := by rw [hv]; exact (((Ext.refl _).alloc _).alloc _).alloc _
  have B1 : Held v w.heap.size 53 #[.int .i64 p.n, .int .i64 p.d, .int .i64 q.n, .int .i64 q.d] := by rw [hv]; exact ((Held.new _ _ _).alloc _).alloc _
  have B2 : Held v (w.heap.size + 1) 52 #[.int .i64 r.n, .int .i64 r.d] := by rw [hv]; exact (Held.at _ _ _ _ (by simp)).alloc _
  have B3 : Held v (w.heap.size + 1 + 1) 57 #[.int .i32 m, .int .i32 n] := by rw [hv]; exact Held.at _ _ _ _ (by simp)
  clear hv
  obtain ⟨b3, hb3⟩ : ∃ b, b = w.heap.size + 1 + 1 := ⟨_, rfl⟩
  rw [← hb3] at B3 ⊢
  obtain ⟨b2, hb2⟩ : ∃ b, b = w.heap.size + 1 := ⟨_, rfl⟩
  rw [← hb2] at B2 ⊢
  obtain ⟨b1, hb1⟩ : ∃ b, b = w.heap.size := ⟨_, rfl⟩
  rw [← hb1] at B1 ⊢
  have hbr : w.heap.size ≤ b3 := by omega
  have hbr1 : w.heap.size ≤ b1 := by omega
  have hbr2 : w.heap.size ≤ b2 := by omega
  have hn21 : b2 ≠ b1 := by omega
  have hn31 : b3 ≠ b1 := by omega
  have hn32 : b3 ≠ b2 := by omega
  clear hb1 hb2 hb3
  have Z := hZ.ext E
  obtain ⟨j0, j1, j2, j3⟩ := B1.c4
  have jl := B1.lt
  obtain ⟨p0, p1⟩ := B2.c2
  have pl := B2.lt
  obtain ⟨q0, q1⟩ := B3.c2
  have ql := B3.lt
  refine wp_region_xw v mixed (by kernel_rfl) (by repeat (first | exact Ext.refl _ | (refine Ext.alloc ?_ _) | (refine Ext.trans ?_ (by assumption)))) ?_
  intro hne hrx hry
  try simp only []
  try simp only [List.append_eq, List.cons_append, List.nil_append]
  skip
  repeat (first
    | go_big_quiet_skip
    | (go_big_quiet_want; go_big_quiet_op; go_big_quiet_on))
  clear hne hry hrx
  refine wpQuiet_nil ?_
  intro v0 hx
  obtain ⟨hcv0, hfv0, hzv0⟩ := Ext.rules hx
  try simp only [World.size_alloc] at hzv0
  obtain ⟨hcbv0, hfbv0, hzbv0⟩ := Ext.rules (show Ext v v0 from (by repeat (first | exact Ext.refl _ | (refine Ext.alloc ?_ _) | (refine Ext.trans ?_ (by assumption)))))
  clear hcv0 hfv0
  clear j0 j1 j2 j3 jl p0 p1 pl q0 q1 ql
  replace E := E.trans hx
  replace Z := Z.ext hx
  replace B1 := B1.ext hx
  replace B2 := B2.ext hx
  replace B3 := B3.ext hx
  clear hx
  obtain ⟨j0, j1, j2, j3⟩ := B1.c4
  have jl := B1.lt
  obtain ⟨p0, p1⟩ := B2.c2
  have pl := B2.lt
  obtain ⟨q0, q1⟩ := B3.c2
  have ql := B3.lt
  clear B3 q0 q1 ql
  go_upto_region 3 with (go_at_call 22; (with_reducible refine Calls.mono (NA _ Z) ?_); rintro e w1 ⟨rfl, hx⟩; replace E := E.trans hx; replace Z := Z.ext hx; replace B1 := B1.ext hx; replace B2 := B2.ext hx; clear hx; clear j0 j1 j2 j3 jl p0 p1 pl; obtain ⟨j0, j1, j2, j3⟩ := B1.c4; have jl := B1.lt; obtain ⟨p0, p1⟩ := B2.c2; have pl := B2.lt)
  obtain ⟨vb1, hv⟩ : ∃ x, x = (w1.alloc (.cells #[.int .i64 an, .int .i64 ad] 52)) := ⟨_, rfl⟩
  rw [← hv]
  have hx : Ext w1 vb1 := by rw [hv]; exact (Ext.refl _).alloc _
  have BA : Held vb1 w1.heap.size 52 #[.int .i64 an, .int .i64 ad] := by rw [hv]; exact Held.new _ _ _
  clear hv
  generalize w1.heap.size = bb1 at *
  clear j0 j1 j2 j3 jl p0 p1 pl
  replace E := E.trans hx
  replace Z := Z.ext hx
  replace B1 := B1.ext hx
  replace B2 := B2.ext hx
  clear hx
  obtain ⟨j0, j1, j2, j3⟩ := B1.c4
  have jl := B1.lt
  obtain ⟨p0, p1⟩ := B2.c2
  have pl := B2.lt
  obtain ⟨xa0, xa1⟩ := BA.c2
  have xal := BA.lt
  go_upto_region 4 with (go_at_call 22; (with_reducible refine Calls.mono (NB _ Z) ?_); rintro e w2 ⟨rfl, hx⟩; replace E := E.trans hx; replace Z := Z.ext hx; replace B1 := B1.ext hx; replace B2 := B2.ext hx; replace BA := BA.ext hx; clear hx; clear j0 j1 j2 j3 jl p0 p1 pl xa0 xa1 xal; obtain ⟨j0, j1, j2, j3⟩ := B1.c4; have jl := B1.lt; obtain ⟨p0, p1⟩ := B2.c2; have pl := B2.lt; obtain ⟨xa0, xa1⟩ := BA.c2; have xal := BA.lt)
  obtain ⟨vb2, hv⟩ : ∃ x, x = (w2.alloc (.cells #[.int .i64 bn, .int .i64 bd] 52)) := ⟨_, rfl⟩
  rw [← hv]
  have hx : Ext w2 vb2 := by rw [hv]; exact (Ext.refl _).alloc _
  have BB : Held vb2 w2.heap.size 52 #[.int .i64 bn, .int .i64 bd] := by rw [hv]; exact Held.new _ _ _
  clear hv
  generalize w2.heap.size = bb2 at *
  clear j0 j1 j2 j3 jl p0 p1 pl xa0 xa1 xal
  replace E := E.trans hx
  replace Z := Z.ext hx
  replace B1 := B1.ext hx
  replace B2 := B2.ext hx
  replace BA := BA.ext hx
  clear hx
  obtain ⟨j0, j1, j2, j3⟩ := B1.c4
  have jl := B1.lt
  obtain ⟨p0, p1⟩ := B2.c2
  have pl := B2.lt
  obtain ⟨xa0, xa1⟩ := BA.c2
  have xal := BA.lt
  obtain ⟨xb0, xb1⟩ := BB.c2
  have xbl := BB.lt
  go_upto_region 5 with (go_at_call 22; (with_reducible refine Calls.mono (NC _ Z) ?_); rintro e w3 ⟨rfl, hx⟩; replace E := E.trans hx; replace Z := Z.ext hx; replace B1 := B1.ext hx; replace B2 := B2.ext hx; replace BA := BA.ext hx; replace BB := BB.ext hx; clear hx; clear j0 j1 j2 j3 jl p0 p1 pl xa0 xa1 xal xb0 xb1 xbl; obtain ⟨j0, j1, j2, j3⟩ := B1.c4; have jl := B1.lt; obtain ⟨p0, p1⟩ := B2.c2; have pl := B2.lt; obtain ⟨xa0, xa1⟩ := BA.c2; have xal := BA.lt; obtain ⟨xb0, xb1⟩ := BB.c2; have xbl := BB.lt)
  obtain ⟨vb3, hv⟩ : ∃ x, x = (w3.alloc (.cells #[.int .i64 cn, .int .i64 cd] 52)) := ⟨_, rfl⟩
  rw [← hv]
  have hx : Ext w3 vb3 := by rw [hv]; exact (Ext.refl _).alloc _
  have BC : Held vb3 w3.heap.size 52 #[.int .i64 cn, .int .i64 cd] := by rw [hv]; exact Held.new _ _ _
  clear hv
  generalize w3.heap.size = bb3 at *
  clear j0 j1 j2 j3 jl p0 p1 pl xa0 xa1 xal xb0 xb1 xbl
  replace E := E.trans hx
  replace Z := Z.ext hx
  replace B1 := B1.ext hx
  replace B2 := B2.ext hx
  replace BA := BA.ext hx
  replace BB := BB.ext hx
  clear hx
  obtain ⟨j0, j1, j2, j3⟩ := B1.c4
  have jl := B1.lt
  obtain ⟨p0, p1⟩ := B2.c2
  have pl := B2.lt
  obtain ⟨xa0, xa1⟩ := BA.c2
  have xal := BA.lt
  obtain ⟨xb0, xb1⟩ := BB.c2
  have xbl := BB.lt
  obtain ⟨xc0, xc1⟩ := BC.c2
  have xcl := BC.lt
  go_upto_region 6 with (go_at_call 22; (with_reducible refine Calls.mono (ND _ Z) ?_); rintro e w4 ⟨rfl, hx⟩; replace E := E.trans hx; replace Z := Z.ext hx; replace B1 := B1.ext hx; replace B2 := B2.ext hx; replace BA := BA.ext hx; replace BB := BB.ext hx; replace BC := BC.ext hx; clear hx; clear j0 j1 j2 j3 jl p0 p1 pl xa0 xa1 xal xb0 xb1 xbl xc0 xc1 xcl; obtain ⟨j0, j1, j2, j3⟩ := B1.c4; have jl := B1.lt; obtain ⟨p0, p1⟩ := B2.c2; have pl := B2.lt; obtain ⟨xa0, xa1⟩ := BA.c2; have xal := BA.lt; obtain ⟨xb0, xb1⟩ := BB.c2; have xbl := BB.lt; obtain ⟨xc0, xc1⟩ := BC.c2; have xcl := BC.lt)
  obtain ⟨vb4, hv⟩ : ∃ x, x = (w4.alloc (.cells #[.int .i64 dn, .int .i64 dd] 52)) := ⟨_, rfl⟩
  rw [← hv]
  have hx : Ext w4 vb4 := by rw [hv]; exact (Ext.refl _).alloc _
  have BD : Held vb4 w4.heap.size 52 #[.int .i64 dn, .int .i64 dd] := by rw [hv]; exact Held.new _ _ _
  clear hv
  generalize w4.heap.size = bb4 at *
  clear j0 j1 j2 j3 jl p0 p1 pl xa0 xa1 xal xb0 xb1 xbl xc0 xc1 xcl
  replace E := E.trans hx
  replace Z := Z.ext hx
  replace B1 := B1.ext hx
  replace B2 := B2.ext hx
  replace BA := BA.ext hx
  replace BB := BB.ext hx
  replace BC := BC.ext hx
  clear hx
  obtain ⟨j0, j1, j2, j3⟩ := B1.c4
  have jl := B1.lt
  obtain ⟨p0, p1⟩ := B2.c2
  have pl := B2.lt
  obtain ⟨xa0, xa1⟩ := BA.c2
  have xal := BA.lt
  obtain ⟨xb0, xb1⟩ := BB.c2
  have xbl := BB.lt
  obtain ⟨xc0, xc1⟩ := BC.c2
  have xcl := BC.lt
  obtain ⟨xd0, xd1⟩ := BD.c2
  have xdl := BD.lt
  clear NA NB NC ND hw0
  by_cases hae : ae = 0
  rotate_left
  · have ga : (ae == 0) = false := beq_eq_false_iff_ne.2 hae
    have gan : (ae != 0) = true := by rw [bne, ga]; rfl
    clear H1 H2 H3 H4 hae
    go_wp2_with (first | (go_at_call 21; (with_reducible refine Calls.mono (works8_any _ Z) ?_); rintro e wk ⟨rfl, hk⟩))
    go_ret
    exact ⟨rfl, E.trans hk⟩
  subst hae
  by_cases hbe : be = 0
  rotate_left
  · have gb : (be == 0) = false := beq_eq_false_iff_ne.2 hbe
    have gbn : (be != 0) = true := by rw [bne, gb]; rfl
    clear H1 H2 H3 H4 hbe
    go_wp2_with (first | (go_at_call 21; (with_reducible refine Calls.mono (works8_any _ Z) ?_); rintro e wk ⟨rfl, hk⟩))
    go_ret
    exact ⟨rfl, E.trans hk⟩
  subst hbe
  go_upto_region 9 with (go_at_call 23; (with_reducible refine Calls.mono (NS _ Z) ?_); rintro e w5 ⟨rfl, hx⟩; replace E := E.trans hx; replace Z := Z.ext hx; replace B1 := B1.ext hx; replace B2 := B2.ext hx; replace BA := BA.ext hx; replace BB := BB.ext hx; replace BC := BC.ext hx; replace BD := BD.ext hx; clear hx; clear j0 j1 j2 j3 jl p0 p1 pl xa0 xa1 xal xb0 xb1 xbl xc0 xc1 xcl xd0 xd1 xdl; obtain ⟨j0, j1, j2, j3⟩ := B1.c4; have jl := B1.lt; obtain ⟨p0, p1⟩ := B2.c2; have pl := B2.lt; obtain ⟨xa0, xa1⟩ := BA.c2; have xal := BA.lt; obtain ⟨xb0, xb1⟩ := BB.c2; have xbl := BB.lt; obtain ⟨xc0, xc1⟩ := BC.c2; have xcl := BC.lt; obtain ⟨xd0, xd1⟩ := BD.c2; have xdl := BD.lt)
  obtain ⟨vb5, hv⟩ : ∃ x, x = (w5.alloc (.cells #[.int .i64 sn, .int .i64 sd] 52)) := ⟨_, rfl⟩
  rw [← hv]
  have hx : Ext w5 vb5 := by rw [hv]; exact (Ext.refl _).alloc _
  have BS : Held vb5 w5.heap.size 52 #[.int .i64 sn, .int .i64 sd] := by rw [hv]; exact Held.new _ _ _
  clear hv
  generalize w5.heap.size = bb5 at *
  clear j0 j1 j2 j3 jl p0 p1 pl xa0 xa1 xal xb0 xb1 xbl xc0 xc1 xcl xd0 xd1 xdl
  replace E := E.trans hx
  replace Z := Z.ext hx
  replace B1 := B1.ext hx
  replace B2 := B2.ext hx
  replace BA := BA.ext hx
  replace BB := BB.ext hx
  replace BC := BC.ext hx
  replace BD := BD.ext hx
  clear hx
  obtain ⟨j0, j1, j2, j3⟩ := B1.c4
  have jl := B1.lt
  obtain ⟨p0, p1⟩ := B2.c2
  have pl := B2.lt
  obtain ⟨xa0, xa1⟩ := BA.c2
  have xal := BA.lt
  obtain ⟨xb0, xb1⟩ := BB.c2
  have xbl := BB.lt
  obtain ⟨xc0, xc1⟩ := BC.c2
  have xcl := BC.lt
  obtain ⟨xd0, xd1⟩ := BD.c2
  have xdl := BD.lt
  obtain ⟨xs0, xs1⟩ := BS.c2
  have xsl := BS.lt
  clear NS
  by_cases hce : ce = 0
  rotate_left
  · have gc : (ce == 0) = false := beq_eq_false_iff_ne.2 hce
    have gcn : (ce != 0) = true := by rw [bne, gc]; rfl
    clear H1 H2 hce NK1
    by_cases hde : de = 0
    rotate_left
    · have gd : (de == 0) = false := beq_eq_false_iff_ne.2 hde
      have gdn : (de != 0) = true := by rw [bne, gd]; rfl
      clear H3 H4 hde NK2 NK3 NP NX NY
      go_wp2_with (first | (go_at_call 21; (with_reducible refine Calls.mono (works8_any _ Z) ?_); rintro e wk ⟨rfl, hk⟩))
      go_ret
      exact ⟨rfl, E.trans hk⟩
    subst hde
    obtain ⟨u1, u2, u3, u4⟩ := H3.out (by trivial) (by trivial)
    subst u1 u2
    have g5 : decide (k2 * k3 < 0) = false := decide_eq_false (by omega)
    have H5 : Hid (k2 = 0 → k3 = 0) := u4
    clear H3 u3 u4
    have g6 : ((k2 == 0) && (k3 != 0)) = false := by
      by_cases h : k2 = 0
      · rw [H5.out h, h]; rfl
      · rw [beq_eq_false_iff_ne.2 h]; rfl
    by_cases hk2 : k2 = 0
    · have g7 := H5.out hk2
      subst hk2 g7
      clear H5 g6
      go_upto_region 21 with (first | (go_at_call 24; (with_reducible refine Calls.mono (NK2 _) ?_); rintro e w7 ⟨rfl, hx⟩; replace E := E.trans hx; replace Z := Z.ext hx; replace B1 := B1.ext hx; replace B2 := B2.ext hx; replace BA := BA.ext hx; replace BB := BB.ext hx; replace BC := BC.ext hx; replace BD := BD.ext hx; replace BS := BS.ext hx; clear hx; clear j0 j1 j2 j3 jl p0 p1 pl xa0 xa1 xal xb0 xb1 xbl xc0 xc1 xcl xd0 xd1 xdl xs0 xs1 xsl; obtain ⟨j0, j1, j2, j3⟩ := B1.c4; have jl := B1.lt; obtain ⟨p0, p1⟩ := B2.c2; have pl := B2.lt; obtain ⟨xa0, xa1⟩ := BA.c2; have xal := BA.lt; obtain ⟨xb0, xb1⟩ := BB.c2; have xbl := BB.lt; obtain ⟨xc0, xc1⟩ := BC.c2; have xcl := BC.lt; obtain ⟨xd0, xd1⟩ := BD.c2; have xdl := BD.lt; obtain ⟨xs0, xs1⟩ := BS.c2; have xsl := BS.lt) | (go_at_call 24; (with_reducible refine Calls.mono (NK3 _) ?_); rintro e w8 ⟨rfl, hx⟩; replace E := E.trans hx; replace Z := Z.ext hx; replace B1 := B1.ext hx; replace B2 := B2.ext hx; replace BA := BA.ext hx; replace BB := BB.ext hx; replace BC := BC.ext hx; replace BD := BD.ext hx; replace BS := BS.ext hx; clear hx; clear j0 j1 j2 j3 jl p0 p1 pl xa0 xa1 xal xb0 xb1 xbl xc0 xc1 xcl xd0 xd1 xdl xs0 xs1 xsl; obtain ⟨j0, j1, j2, j3⟩ := B1.c4; have jl := B1.lt; obtain ⟨p0, p1⟩ := B2.c2; have pl := B2.lt; obtain ⟨xa0, xa1⟩ := BA.c2; have xal := BA.lt; obtain ⟨xb0, xb1⟩ := BB.c2; have xbl := BB.lt; obtain ⟨xc0, xc1⟩ := BC.c2; have xcl := BC.lt; obtain ⟨xd0, xd1⟩ := BD.c2; have xdl := BD.lt; obtain ⟨xs0, xs1⟩ := BS.c2; have xsl := BS.lt) | (go_at_call 23; (with_reducible refine Calls.mono (NP _ Z) ?_); rintro e w9 ⟨rfl, hx⟩; replace E := E.trans hx; replace Z := Z.ext hx; replace B1 := B1.ext hx; replace B2 := B2.ext hx; replace BA := BA.ext hx; replace BB := BB.ext hx; replace BC := BC.ext hx; replace BD := BD.ext hx; replace BS := BS.ext hx; clear hx; clear j0 j1 j2 j3 jl p0 p1 pl xa0 xa1 xal xb0 xb1 xbl xc0 xc1 xcl xd0 xd1 xdl xs0 xs1 xsl; obtain ⟨j0, j1, j2, j3⟩ := B1.c4; have jl := B1.lt; obtain ⟨p0, p1⟩ := B2.c2; have pl := B2.lt; obtain ⟨xa0, xa1⟩ := BA.c2; have xal := BA.lt; obtain ⟨xb0, xb1⟩ := BB.c2; have xbl := BB.lt; obtain ⟨xc0, xc1⟩ := BC.c2; have xcl := BC.lt; obtain ⟨xd0, xd1⟩ := BD.c2; have xdl := BD.lt; obtain ⟨xs0, xs1⟩ := BS.c2; have xsl := BS.lt))
      obtain ⟨vb51, hv⟩ : ∃ x, x = (w9.alloc (.cells #[.int .i64 pn, .int .i64 pd] 52)) := ⟨_, rfl⟩
      rw [← hv]
      have hx : Ext w9 vb51 := by rw [hv]; exact (Ext.refl _).alloc _
      have BP : Held vb51 w9.heap.size 52 #[.int .i64 pn, .int .i64 pd] := by rw [hv]; exact Held.new _ _ _
      clear hv
      generalize w9.heap.size = bb51 at *
      clear j0 j1 j2 j3 jl p0 p1 pl xa0 xa1 xal xb0 xb1 xbl xc0 xc1 xcl xd0 xd1 xdl xs0 xs1 xsl
      replace E := E.trans hx
      replace Z := Z.ext hx
      replace B1 := B1.ext hx
      replace B2 := B2.ext hx
      replace BA := BA.ext hx
      replace BB := BB.ext hx
      replace BC := BC.ext hx
      replace BD := BD.ext hx
      replace BS := BS.ext hx
      clear hx
      obtain ⟨j0, j1, j2, j3⟩ := B1.c4
      have jl := B1.lt
      obtain ⟨p0, p1⟩ := B2.c2
      have pl := B2.lt
      obtain ⟨xa0, xa1⟩ := BA.c2
      have xal := BA.lt
      obtain ⟨xb0, xb1⟩ := BB.c2
      have xbl := BB.lt
      obtain ⟨xc0, xc1⟩ := BC.c2
      have xcl := BC.lt
      obtain ⟨xd0, xd1⟩ := BD.c2
      have xdl := BD.lt
      obtain ⟨xs0, xs1⟩ := BS.c2
      have xsl := BS.lt
      obtain ⟨xp0, xp1⟩ := BP.c2
      have xpl := BP.lt
      go_upto_region 22 with (go_at_call 22; (with_reducible refine Calls.mono (NX _ Z) ?_); rintro e w10 ⟨rfl, hx⟩; replace E := E.trans hx; replace Z := Z.ext hx; replace B1 := B1.ext hx; replace B2 := B2.ext hx; replace BA := BA.ext hx; replace BB := BB.ext hx; replace BC := BC.ext hx; replace BD := BD.ext hx; replace BS := BS.ext hx; replace BP := BP.ext hx; clear hx; clear j0 j1 j2 j3 jl p0 p1 pl xa0 xa1 xal xb0 xb1 xbl xc0 xc1 xcl xd0 xd1 xdl xs0 xs1 xsl xp0 xp1 xpl; obtain ⟨j0, j1, j2, j3⟩ := B1.c4; have jl := B1.lt; obtain ⟨p0, p1⟩ := B2.c2; have pl := B2.lt; obtain ⟨xa0, xa1⟩ := BA.c2; have xal := BA.lt; obtain ⟨xb0, xb1⟩ := BB.c2; have xbl := BB.lt; obtain ⟨xc0, xc1⟩ := BC.c2; have xcl := BC.lt; obtain ⟨xd0, xd1⟩ := BD.c2; have xdl := BD.lt; obtain ⟨xs0, xs1⟩ := BS.c2; have xsl := BS.lt; obtain ⟨xp0, xp1⟩ := BP.c2; have xpl := BP.lt)
      obtain ⟨vb52, hv⟩ : ∃ x, x = (w10.alloc (.cells #[.int .i64 xn, .int .i64 xd] 52)) := ⟨_, rfl⟩
      rw [← hv]
      have hx : Ext w10 vb52 := by rw [hv]; exact (Ext.refl _).alloc _
      have BX : Held vb52 w10.heap.size 52 #[.int .i64 xn, .int .i64 xd] := by rw [hv]; exact Held.new _ _ _
      clear hv
      generalize w10.heap.size = bb52 at *
      clear j0 j1 j2 j3 jl p0 p1 pl xa0 xa1 xal xb0 xb1 xbl xc0 xc1 xcl xd0 xd1 xdl xs0 xs1 xsl xp0 xp1 xpl
      replace E := E.trans hx
      replace Z := Z.ext hx
      replace B1 := B1.ext hx
      replace B2 := B2.ext hx
      replace BA := BA.ext hx
      replace BB := BB.ext hx
      replace BC := BC.ext hx
      replace BD := BD.ext hx
      replace BS := BS.ext hx
      replace BP := BP.ext hx
      clear hx
      obtain ⟨j0, j1, j2, j3⟩ := B1.c4
      have jl := B1.lt
      obtain ⟨p0, p1⟩ := B2.c2
      have pl := B2.lt
      obtain ⟨xa0, xa1⟩ := BA.c2
      have xal := BA.lt
      obtain ⟨xb0, xb1⟩ := BB.c2
      have xbl := BB.lt
      obtain ⟨xc0, xc1⟩ := BC.c2
      have xcl := BC.lt
      obtain ⟨xd0, xd1⟩ := BD.c2
      have xdl := BD.lt
      obtain ⟨xs0, xs1⟩ := BS.c2
      have xsl := BS.lt
      obtain ⟨xp0, xp1⟩ := BP.c2
      have xpl := BP.lt
      obtain ⟨xx0, xx1⟩ := BX.c2
      have xxl := BX.lt
      go_upto_region 23 with (go_at_call 23; (with_reducible refine Calls.mono (NY _ Z) ?_); rintro e w11 ⟨rfl, hx⟩; replace E := E.trans hx; replace Z := Z.ext hx; replace B1 := B1.ext hx; replace B2 := B2.ext hx; replace BA := BA.ext hx; replace BB := BB.ext hx; replace BC := BC.ext hx; replace BD := BD.ext hx; replace BS := BS.ext hx; replace BP := BP.ext hx; replace BX := BX.ext hx; clear hx; clear j0 j1 j2 j3 jl p0 p1 pl xa0 xa1 xal xb0 xb1 xbl xc0 xc1 xcl xd0 xd1 xdl xs0 xs1 xsl xp0 xp1 xpl xx0 xx1 xxl; obtain ⟨j0, j1, j2, j3⟩ := B1.c4; have jl := B1.lt; obtain ⟨p0, p1⟩ := B2.c2; have pl := B2.lt; obtain ⟨xa0, xa1⟩ := BA.c2; have xal := BA.lt; obtain ⟨xb0, xb1⟩ := BB.c2; have xbl := BB.lt; obtain ⟨xc0, xc1⟩ := BC.c2; have xcl := BC.lt; obtain ⟨xd0, xd1⟩ := BD.c2; have xdl := BD.lt; obtain ⟨xs0, xs1⟩ := BS.c2; have xsl := BS.lt; obtain ⟨xp0, xp1⟩ := BP.c2; have xpl := BP.lt; obtain ⟨xx0, xx1⟩ := BX.c2; have xxl := BX.lt)
      obtain ⟨vb53, hv⟩ : ∃ x, x = (w11.alloc (.cells #[.int .i64 yn, .int .i64 yd] 52)) := ⟨_, rfl⟩
      rw [← hv]
      have hx : Ext w11 vb53 := by rw [hv]; exact (Ext.refl _).alloc _
      have BY : Held vb53 w11.heap.size 52 #[.int .i64 yn, .int .i64 yd] := by rw [hv]; exact Held.new _ _ _
      clear hv
      generalize w11.heap.size = bb53 at *
      clear j0 j1 j2 j3 jl p0 p1 pl xa0 xa1 xal xb0 xb1 xbl xc0 xc1 xcl xd0 xd1 xdl xs0 xs1 xsl xp0 xp1 xpl xx0 xx1 xxl
      replace E := E.trans hx
      replace Z := Z.ext hx
      replace B1 := B1.ext hx
      replace B2 := B2.ext hx
      replace BA := BA.ext hx
      replace BB := BB.ext hx
      replace BC := BC.ext hx
      replace BD := BD.ext hx
      replace BS := BS.ext hx
      replace BP := BP.ext hx
      replace BX := BX.ext hx
      clear hx
      obtain ⟨j0, j1, j2, j3⟩ := B1.c4
      have jl := B1.lt
      obtain ⟨p0, p1⟩ := B2.c2
      have pl := B2.lt
      obtain ⟨xa0, xa1⟩ := BA.c2
      have xal := BA.lt
      obtain ⟨xb0, xb1⟩ := BB.c2
      have xbl := BB.lt
      obtain ⟨xc0, xc1⟩ := BC.c2
      have xcl := BC.lt
      obtain ⟨xd0, xd1⟩ := BD.c2
      have xdl := BD.lt
      obtain ⟨xs0, xs1⟩ := BS.c2
      have xsl := BS.lt
      obtain ⟨xp0, xp1⟩ := BP.c2
      have xpl := BP.lt
      obtain ⟨xx0, xx1⟩ := BX.c2
      have xxl := BX.lt
      obtain ⟨xy0, xy1⟩ := BY.c2
      have xyl := BY.lt
      by_cases hpe : pe = 0
      rotate_left
      · have gp : (pe == 0) = false := beq_eq_false_iff_ne.2 hpe
        clear H4 hpe
        go_wp2_with (go_at_call 21; (with_reducible refine Calls.mono (works8_any _ Z) ?_); rintro e wk ⟨rfl, hk⟩)
        go_ret
        exact ⟨rfl, E.trans hk⟩
      subst hpe
      by_cases hxe : xe = 0
      rotate_left
      · have gx : (xe == 0) = false := beq_eq_false_iff_ne.2 hxe
        clear H4 hxe
        go_wp2_with (go_at_call 21; (with_reducible refine Calls.mono (works8_any _ Z) ?_); rintro e wk ⟨rfl, hk⟩)
        go_ret
        exact ⟨rfl, E.trans hk⟩
      subst hxe
      by_cases hye : ye = 0
      rotate_left
      · have gy : (ye == 0) = false := beq_eq_false_iff_ne.2 hye
        clear H4 hye
        go_wp2_with (go_at_call 21; (with_reducible refine Calls.mono (works8_any _ Z) ?_); rintro e wk ⟨rfl, hk⟩)
        go_ret
        exact ⟨rfl, E.trans hk⟩
      subst hye
      have h9 := H4.out (by trivial) (by trivial) (by trivial) (by trivial) (by trivial)
      simp only [Rt.mk.injEq] at h9
      obtain ⟨rfl, rfl⟩ := h9
      clear H4
      go_wp2_with (go_at_call 21; (with_reducible refine Calls.mono (works8_any _ Z) ?_); rintro e wk ⟨rfl, hk⟩)
      go_ret
      exact ⟨rfl, E.trans hk⟩
    · have g7 : (k2 == 0) = false := beq_eq_false_iff_ne.2 hk2
      clear H5 g6 hk2
      go_upto_region 21 with (first | (go_at_call 24; (with_reducible refine Calls.mono (NK2 _) ?_); rintro e w7 ⟨rfl, hx⟩; replace E := E.trans hx; replace Z := Z.ext hx; replace B1 := B1.ext hx; replace B2 := B2.ext hx; replace BA := BA.ext hx; replace BB := BB.ext hx; replace BC := BC.ext hx; replace BD := BD.ext hx; replace BS := BS.ext hx; clear hx; clear j0 j1 j2 j3 jl p0 p1 pl xa0 xa1 xal xb0 xb1 xbl xc0 xc1 xcl xd0 xd1 xdl xs0 xs1 xsl; obtain ⟨j0, j1, j2, j3⟩ := B1.c4; have jl := B1.lt; obtain ⟨p0, p1⟩ := B2.c2; have pl := B2.lt; obtain ⟨xa0, xa1⟩ := BA.c2; have xal := BA.lt; obtain ⟨xb0, xb1⟩ := BB.c2; have xbl := BB.lt; obtain ⟨xc0, xc1⟩ := BC.c2; have xcl := BC.lt; obtain ⟨xd0, xd1⟩ := BD.c2; have xdl := BD.lt; obtain ⟨xs0, xs1⟩ := BS.c2; have xsl := BS.lt) | (go_at_call 24; (with_reducible refine Calls.mono (NK3 _) ?_); rintro e w8 ⟨rfl, hx⟩; replace E := E.trans hx; replace Z := Z.ext hx; replace B1 := B1.ext hx; replace B2 := B2.ext hx; replace BA := BA.ext hx; replace BB := BB.ext hx; replace BC := BC.ext hx; replace BD := BD.ext hx; replace BS := BS.ext hx; clear hx; clear j0 j1 j2 j3 jl p0 p1 pl xa0 xa1 xal xb0 xb1 xbl xc0 xc1 xcl xd0 xd1 xdl xs0 xs1 xsl; obtain ⟨j0, j1, j2, j3⟩ := B1.c4; have jl := B1.lt; obtain ⟨p0, p1⟩ := B2.c2; have pl := B2.lt; obtain ⟨xa0, xa1⟩ := BA.c2; have xal := BA.lt; obtain ⟨xb0, xb1⟩ := BB.c2; have xbl := BB.lt; obtain ⟨xc0, xc1⟩ := BC.c2; have xcl := BC.lt; obtain ⟨xd0, xd1⟩ := BD.c2; have xdl := BD.lt; obtain ⟨xs0, xs1⟩ := BS.c2; have xsl := BS.lt) | (go_at_call 23; (with_reducible refine Calls.mono (NP _ Z) ?_); rintro e w9 ⟨rfl, hx⟩; replace E := E.trans hx; replace Z := Z.ext hx; replace B1 := B1.ext hx; replace B2 := B2.ext hx; replace BA := BA.ext hx; replace BB := BB.ext hx; replace BC := BC.ext hx; replace BD := BD.ext hx; replace BS := BS.ext hx; clear hx; clear j0 j1 j2 j3 jl p0 p1 pl xa0 xa1 xal xb0 xb1 xbl xc0 xc1 xcl xd0 xd1 xdl xs0 xs1 xsl; obtain ⟨j0, j1, j2, j3⟩ := B1.c4; have jl := B1.lt; obtain ⟨p0, p1⟩ := B2.c2; have pl := B2.lt; obtain ⟨xa0, xa1⟩ := BA.c2; have xal := BA.lt; obtain ⟨xb0, xb1⟩ := BB.c2; have xbl := BB.lt; obtain ⟨xc0, xc1⟩ := BC.c2; have xcl := BC.lt; obtain ⟨xd0, xd1⟩ := BD.c2; have xdl := BD.lt; obtain ⟨xs0, xs1⟩ := BS.c2; have xsl := BS.lt))
      obtain ⟨vb51, hv⟩ : ∃ x, x = (w9.alloc (.cells #[.int .i64 pn, .int .i64 pd] 52)) := ⟨_, rfl⟩
      rw [← hv]
      have hx : Ext w9 vb51 := by rw [hv]; exact (Ext.refl _).alloc _
      have BP : Held vb51 w9.heap.size 52 #[.int .i64 pn, .int .i64 pd] := by rw [hv]; exact Held.new _ _ _
      clear hv
      generalize w9.heap.size = bb51 at *
      clear j0 j1 j2 j3 jl p0 p1 pl xa0 xa1 xal xb0 xb1 xbl xc0 xc1 xcl xd0 xd1 xdl xs0 xs1 xsl
      replace E := E.trans hx
      replace Z := Z.ext hx
      replace B1 := B1.ext hx
      replace B2 := B2.ext hx
      replace BA := BA.ext hx
      replace BB := BB.ext hx
      replace BC := BC.ext hx
      replace BD := BD.ext hx
      replace BS := BS.ext hx
      clear hx
      obtain ⟨j0, j1, j2, j3⟩ := B1.c4
      have jl := B1.lt
      obtain ⟨p0, p1⟩ := B2.c2
      have pl := B2.lt
      obtain ⟨xa0, xa1⟩ := BA.c2
      have xal := BA.lt
      obtain ⟨xb0, xb1⟩ := BB.c2
      have xbl := BB.lt
      obtain ⟨xc0, xc1⟩ := BC.c2
      have xcl := BC.lt
      obtain ⟨xd0, xd1⟩ := BD.c2
      have xdl := BD.lt
      obtain ⟨xs0, xs1⟩ := BS.c2
      have xsl := BS.lt
      obtain ⟨xp0, xp1⟩ := BP.c2
      have xpl := BP.lt
      go_upto_region 22 with (go_at_call 22; (with_reducible refine Calls.mono (NX _ Z) ?_); rintro e w10 ⟨rfl, hx⟩; replace E := E.trans hx; replace Z := Z.ext hx; replace B1 := B1.ext hx; replace B2 := B2.ext hx; replace BA := BA.ext hx; replace BB := BB.ext hx; replace BC := BC.ext hx; replace BD := BD.ext hx; replace BS := BS.ext hx; replace BP := BP.ext hx; clear hx; clear j0 j1 j2 j3 jl p0 p1 pl xa0 xa1 xal xb0 xb1 xbl xc0 xc1 xcl xd0 xd1 xdl xs0 xs1 xsl xp0 xp1 xpl; obtain ⟨j0, j1, j2, j3⟩ := B1.c4; have jl := B1.lt; obtain ⟨p0, p1⟩ := B2.c2; have pl := B2.lt; obtain ⟨xa0, xa1⟩ := BA.c2; have xal := BA.lt; obtain ⟨xb0, xb1⟩ := BB.c2; have xbl := BB.lt; obtain ⟨xc0, xc1⟩ := BC.c2; have xcl := BC.lt; obtain ⟨xd0, xd1⟩ := BD.c2; have xdl := BD.lt; obtain ⟨xs0, xs1⟩ := BS.c2; have xsl := BS.lt; obtain ⟨xp0, xp1⟩ := BP.c2; have xpl := BP.lt)
      obtain ⟨vb52, hv⟩ : ∃ x, x = (w10.alloc (.cells #[.int .i64 xn, .int .i64 xd] 52)) := ⟨_, rfl⟩
      rw [← hv]
      have hx : Ext w10 vb52 := by rw [hv]; exact (Ext.refl _).alloc _
      have BX : Held vb52 w10.heap.size 52 #[.int .i64 xn, .int .i64 xd] := by rw [hv]; exact Held.new _ _ _
      clear hv
      generalize w10.heap.size = bb52 at *
      clear j0 j1 j2 j3 jl p0 p1 pl xa0 xa1 xal xb0 xb1 xbl xc0 xc1 xcl xd0 xd1 xdl xs0 xs1 xsl xp0 xp1 xpl
      replace E := E.trans hx
      replace Z := Z.ext hx
      replace B1 := B1.ext hx
      replace B2 := B2.ext hx
      replace BA := BA.ext hx
      replace BB := BB.ext hx
      replace BC := BC.ext hx
      replace BD := BD.ext hx
      replace BS := BS.ext hx
      replace BP := BP.ext hx
      clear hx
      obtain ⟨j0, j1, j2, j3⟩ := B1.c4
      have jl := B1.lt
      obtain ⟨p0, p1⟩ := B2.c2
      have pl := B2.lt
      obtain ⟨xa0, xa1⟩ := BA.c2
      have xal := BA.lt
      obtain ⟨xb0, xb1⟩ := BB.c2
      have xbl := BB.lt
      obtain ⟨xc0, xc1⟩ := BC.c2
      have xcl := BC.lt
      obtain ⟨xd0, xd1⟩ := BD.c2
      have xdl := BD.lt
      obtain ⟨xs0, xs1⟩ := BS.c2
      have xsl := BS.lt
      obtain ⟨xp0, xp1⟩ := BP.c2
      have xpl := BP.lt
      obtain ⟨xx0, xx1⟩ := BX.c2
      have xxl := BX.lt
      go_upto_region 23 with (go_at_call 23; (with_reducible refine Calls.mono (NY _ Z) ?_); rintro e w11 ⟨rfl, hx⟩; replace E := E.trans hx; replace Z := Z.ext hx; replace B1 := B1.ext hx; replace B2 := B2.ext hx; replace BA := BA.ext hx; replace BB := BB.ext hx; replace BC := BC.ext hx; replace BD := BD.ext hx; replace BS := BS.ext hx; replace BP := BP.ext hx; replace BX := BX.ext hx; clear hx; clear j0 j1 j2 j3 jl p0 p1 pl xa0 xa1 xal xb0 xb1 xbl xc0 xc1 xcl xd0 xd1 xdl xs0 xs1 xsl xp0 xp1 xpl xx0 xx1 xxl; obtain ⟨j0, j1, j2, j3⟩ := B1.c4; have jl := B1.lt; obtain ⟨p0, p1⟩ := B2.c2; have pl := B2.lt; obtain ⟨xa0, xa1⟩ := BA.c2; have xal := BA.lt; obtain ⟨xb0, xb1⟩ := BB.c2; have xbl := BB.lt; obtain ⟨xc0, xc1⟩ := BC.c2; have xcl := BC.lt; obtain ⟨xd0, xd1⟩ := BD.c2; have xdl := BD.lt; obtain ⟨xs0, xs1⟩ := BS.c2; have xsl := BS.lt; obtain ⟨xp0, xp1⟩ := BP.c2; have xpl := BP.lt; obtain ⟨xx0, xx1⟩ := BX.c2; have xxl := BX.lt)
      obtain ⟨vb53, hv⟩ : ∃ x, x = (w11.alloc (.cells #[.int .i64 yn, .int .i64 yd] 52)) := ⟨_, rfl⟩
      rw [← hv]
      have hx : Ext w11 vb53 := by rw [hv]; exact (Ext.refl _).alloc _
      have BY : Held vb53 w11.heap.size 52 #[.int .i64 yn, .int .i64 yd] := by rw [hv]; exact Held.new _ _ _
      clear hv
      generalize w11.heap.size = bb53 at *
      clear j0 j1 j2 j3 jl p0 p1 pl xa0 xa1 xal xb0 xb1 xbl xc0 xc1 xcl xd0 xd1 xdl xs0 xs1 xsl xp0 xp1 xpl xx0 xx1 xxl
      replace E := E.trans hx
      replace Z := Z.ext hx
      replace B1 := B1.ext hx
      replace B2 := B2.ext hx
      replace BA := BA.ext hx
      replace BB := BB.ext hx
      replace BC := BC.ext hx
      replace BD := BD.ext hx
      replace BS := BS.ext hx
      replace BP := BP.ext hx
      replace BX := BX.ext hx
      clear hx
      obtain ⟨j0, j1, j2, j3⟩ := B1.c4
      have jl := B1.lt
      obtain ⟨p0, p1⟩ := B2.c2
      have pl := B2.lt
      obtain ⟨xa0, xa1⟩ := BA.c2
      have xal := BA.lt
      obtain ⟨xb0, xb1⟩ := BB.c2
      have xbl := BB.lt
      obtain ⟨xc0, xc1⟩ := BC.c2
      have xcl := BC.lt
      obtain ⟨xd0, xd1⟩ := BD.c2
      have xdl := BD.lt
      obtain ⟨xs0, xs1⟩ := BS.c2
      have xsl := BS.lt
      obtain ⟨xp0, xp1⟩ := BP.c2
      have xpl := BP.lt
      obtain ⟨xx0, xx1⟩ := BX.c2
      have xxl := BX.lt
      obtain ⟨xy0, xy1⟩ := BY.c2
      have xyl := BY.lt
      by_cases hpe : pe = 0
      rotate_left
      · have gp : (pe == 0) = false := beq_eq_false_iff_ne.2 hpe
        clear H4 hpe
        go_wp2_with (go_at_call 21; (with_reducible refine Calls.mono (works8_any _ Z) ?_); rintro e wk ⟨rfl, hk⟩)
        go_ret
        exact ⟨rfl, E.trans hk⟩
      subst hpe
      by_cases hxe : xe = 0
      rotate_left
      · have gx : (xe == 0) = false := beq_eq_false_iff_ne.2 hxe
        clear H4 hxe
        go_wp2_with (go_at_call 21; (with_reducible refine Calls.mono (works8_any _ Z) ?_); rintro e wk ⟨rfl, hk⟩)
        go_ret
        exact ⟨rfl, E.trans hk⟩
      subst hxe
      by_cases hye : ye = 0
      rotate_left
      · have gy : (ye == 0) = false := beq_eq_false_iff_ne.2 hye
        clear H4 hye
        go_wp2_with (go_at_call 21; (with_reducible refine Calls.mono (works8_any _ Z) ?_); rintro e wk ⟨rfl, hk⟩)
        go_ret
        exact ⟨rfl, E.trans hk⟩
      subst hye
      have h9 := H4.out (by trivial) (by trivial) (by trivial) (by trivial) (by trivial)
      simp only [Rt.mk.injEq] at h9
      obtain ⟨rfl, rfl⟩ := h9
      clear H4
      go_wp2_with (go_at_call 21; (with_reducible refine Calls.mono (works8_any _ Z) ?_); rintro e wk ⟨rfl, hk⟩)
      go_ret
      exact ⟨rfl, E.trans hk⟩
  subst hce
  obtain ⟨rfl, u0⟩ := H2.out (by trivial) (by trivial) (by trivial)
  have g0 : decide (0 < k1) = false := decide_eq_false (by omega)
  clear H2 u0
  by_cases hse : se = 0
  rotate_left
  · have gs : (se == 0) = false := beq_eq_false_iff_ne.2 hse
    have gsn : (se != 0) = true := by rw [bne, gs]; rfl
    clear H1 hse
    by_cases hde : de = 0
    rotate_left
    · have gd : (de == 0) = false := beq_eq_false_iff_ne.2 hde
      have gdn : (de != 0) = true := by rw [bne, gd]; rfl
      clear H3 H4 hde NK2 NK3 NP NX NY
      go_wp2_with (first | (go_at_call 24; (with_reducible refine Calls.mono (NK1 _) ?_); rintro e w6 ⟨rfl, hx⟩; replace E := E.trans hx; replace Z := Z.ext hx; replace B1 := B1.ext hx; replace B2 := B2.ext hx; replace BA := BA.ext hx; replace BB := BB.ext hx; replace BC := BC.ext hx; replace BD := BD.ext hx; replace BS := BS.ext hx; clear hx; clear j0 j1 j2 j3 jl p0 p1 pl xa0 xa1 xal xb0 xb1 xbl xc0 xc1 xcl xd0 xd1 xdl xs0 xs1 xsl; obtain ⟨j0, j1, j2, j3⟩ := B1.c4; have jl := B1.lt; obtain ⟨p0, p1⟩ := B2.c2; have pl := B2.lt; obtain ⟨xa0, xa1⟩ := BA.c2; have xal := BA.lt; obtain ⟨xb0, xb1⟩ := BB.c2; have xbl := BB.lt; obtain ⟨xc0, xc1⟩ := BC.c2; have xcl := BC.lt; obtain ⟨xd0, xd1⟩ := BD.c2; have xdl := BD.lt; obtain ⟨xs0, xs1⟩ := BS.c2; have xsl := BS.lt) | (go_at_call 21; (with_reducible refine Calls.mono (works8_any _ Z) ?_); rintro e wk ⟨rfl, hk⟩))
      go_ret
      exact ⟨rfl, E.trans hk⟩
    subst hde
    obtain ⟨u1, u2, u3, u4⟩ := H3.out (by trivial) (by trivial)
    subst u1 u2
    have g5 : decide (k2 * k3 < 0) = false := decide_eq_false (by omega)
    have H5 : Hid (k2 = 0 → k3 = 0) := u4
    clear H3 u3 u4
    have g6 : ((k2 == 0) && (k3 != 0)) = false := by
      by_cases h : k2 = 0
      · rw [H5.out h, h]; rfl
      · rw [beq_eq_false_iff_ne.2 h]; rfl
    by_cases hk2 : k2 = 0
    · have g7 := H5.out hk2
      subst hk2 g7
      clear H5 g6
      go_upto_region 21 with (first | (go_at_call 24; (with_reducible refine Calls.mono (NK1 _) ?_); rintro e w6 ⟨rfl, hx⟩; replace E := E.trans hx; replace Z := Z.ext hx; replace B1 := B1.ext hx; replace B2 := B2.ext hx; replace BA := BA.ext hx; replace BB := BB.ext hx; replace BC := BC.ext hx; replace BD := BD.ext hx; replace BS := BS.ext hx; clear hx; clear j0 j1 j2 j3 jl p0 p1 pl xa0 xa1 xal xb0 xb1 xbl xc0 xc1 xcl xd0 xd1 xdl xs0 xs1 xsl; obtain ⟨j0, j1, j2, j3⟩ := B1.c4; have jl := B1.lt; obtain ⟨p0, p1⟩ := B2.c2; have pl := B2.lt; obtain ⟨xa0, xa1⟩ := BA.c2; have xal := BA.lt; obtain ⟨xb0, xb1⟩ := BB.c2; have xbl := BB.lt; obtain ⟨xc0, xc1⟩ := BC.c2; have xcl := BC.lt; obtain ⟨xd0, xd1⟩ := BD.c2; have xdl := BD.lt; obtain ⟨xs0, xs1⟩ := BS.c2; have xsl := BS.lt) | (go_at_call 24; (with_reducible refine Calls.mono (NK2 _) ?_); rintro e w7 ⟨rfl, hx⟩; replace E := E.trans hx; replace Z := Z.ext hx; replace B1 := B1.ext hx; replace B2 := B2.ext hx; replace BA := BA.ext hx; replace BB := BB.ext hx; replace BC := BC.ext hx; replace BD := BD.ext hx; replace BS := BS.ext hx; clear hx; clear j0 j1 j2 j3 jl p0 p1 pl xa0 xa1 xal xb0 xb1 xbl xc0 xc1 xcl xd0 xd1 xdl xs0 xs1 xsl; obtain ⟨j0, j1, j2, j3⟩ := B1.c4; have jl := B1.lt; obtain ⟨p0, p1⟩ := B2.c2; have pl := B2.lt; obtain ⟨xa0, xa1⟩ := BA.c2; have xal := BA.lt; obtain ⟨xb0, xb1⟩ := BB.c2; have xbl := BB.lt; obtain ⟨xc0, xc1⟩ := BC.c2; have xcl := BC.lt; obtain ⟨xd0, xd1⟩ := BD.c2; have xdl := BD.lt; obtain ⟨xs0, xs1⟩ := BS.c2; have xsl := BS.lt) | (go_at_call 24; (with_reducible refine Calls.mono (NK3 _) ?_); rintro e w8 ⟨rfl, hx⟩; replace E := E.trans hx; replace Z := Z.ext hx; replace B1 := B1.ext hx; replace B2 := B2.ext hx; replace BA := BA.ext hx; replace BB := BB.ext hx; replace BC := BC.ext hx; replace BD := BD.ext hx; replace BS := BS.ext hx; clear hx; clear j0 j1 j2 j3 jl p0 p1 pl xa0 xa1 xal xb0 xb1 xbl xc0 xc1 xcl xd0 xd1 xdl xs0 xs1 xsl; obtain ⟨j0, j1, j2, j3⟩ := B1.c4; have jl := B1.lt; obtain ⟨p0, p1⟩ := B2.c2; have pl := B2.lt; obtain ⟨xa0, xa1⟩ := BA.c2; have xal := BA.lt; obtain ⟨xb0, xb1⟩ := BB.c2; have xbl := BB.lt; obtain ⟨xc0, xc1⟩ := BC.c2; have xcl := BC.lt; obtain ⟨xd0, xd1⟩ := BD.c2; have xdl := BD.lt; obtain ⟨xs0, xs1⟩ := BS.c2; have xsl := BS.lt) | (go_at_call 23; (with_reducible refine Calls.mono (NP _ Z) ?_); rintro e w9 ⟨rfl, hx⟩; replace E := E.trans hx; replace Z := Z.ext hx; replace B1 := B1.ext hx; replace B2 := B2.ext hx; replace BA := BA.ext hx; replace BB := BB.ext hx; replace BC := BC.ext hx; replace BD := BD.ext hx; replace BS := BS.ext hx; clear hx; clear j0 j1 j2 j3 jl p0 p1 pl xa0 xa1 xal xb0 xb1 xbl xc0 xc1 xcl xd0 xd1 xdl xs0 xs1 xsl; obtain ⟨j0, j1, j2, j3⟩ := B1.c4; have jl := B1.lt; obtain ⟨p0, p1⟩ := B2.c2; have pl := B2.lt; obtain ⟨xa0, xa1⟩ := BA.c2; have xal := BA.lt; obtain ⟨xb0, xb1⟩ := BB.c2; have xbl := BB.lt; obtain ⟨xc0, xc1⟩ := BC.c2; have xcl := BC.lt; obtain ⟨xd0, xd1⟩ := BD.c2; have xdl := BD.lt; obtain ⟨xs0, xs1⟩ := BS.c2; have xsl := BS.lt))
      obtain ⟨vb51, hv⟩ : ∃ x, x = (w9.alloc (.cells #[.int .i64 pn, .int .i64 pd] 52)) := ⟨_, rfl⟩
      rw [← hv]
      have hx : Ext w9 vb51 := by rw [hv]; exact (Ext.refl _).alloc _
      have BP : Held vb51 w9.heap.size 52 #[.int .i64 pn, .int .i64 pd] := by rw [hv]; exact Held.new _ _ _
      clear hv
      generalize w9.heap.size = bb51 at *
      clear j0 j1 j2 j3 jl p0 p1 pl xa0 xa1 xal xb0 xb1 xbl xc0 xc1 xcl xd0 xd1 xdl xs0 xs1 xsl
      replace E := E.trans hx
      replace Z := Z.ext hx
      replace B1 := B1.ext hx
      replace B2 := B2.ext hx
      replace BA := BA.ext hx
      replace BB := BB.ext hx
      replace BC := BC.ext hx
      replace BD := BD.ext hx
      replace BS := BS.ext hx
      clear hx
      obtain ⟨j0, j1, j2, j3⟩ := B1.c4
      have jl := B1.lt
      obtain ⟨p0, p1⟩ := B2.c2
      have pl := B2.lt
      obtain ⟨xa0, xa1⟩ := BA.c2
      have xal := BA.lt
      obtain ⟨xb0, xb1⟩ := BB.c2
      have xbl := BB.lt
      obtain ⟨xc0, xc1⟩ := BC.c2
      have xcl := BC.lt
      obtain ⟨xd0, xd1⟩ := BD.c2
      have xdl := BD.lt
      obtain ⟨xs0, xs1⟩ := BS.c2
      have xsl := BS.lt
      obtain ⟨xp0, xp1⟩ := BP.c2
      have xpl := BP.lt
      go_upto_region 22 with (go_at_call 22; (with_reducible refine Calls.mono (NX _ Z) ?_); rintro e w10 ⟨rfl, hx⟩; replace E := E.trans hx; replace Z := Z.ext hx; replace B1 := B1.ext hx; replace B2 := B2.ext hx; replace BA := BA.ext hx; replace BB := BB.ext hx; replace BC := BC.ext hx; replace BD := BD.ext hx; replace BS := BS.ext hx; replace BP := BP.ext hx; clear hx; clear j0 j1 j2 j3 jl p0 p1 pl xa0 xa1 xal xb0 xb1 xbl xc0 xc1 xcl xd0 xd1 xdl xs0 xs1 xsl xp0 xp1 xpl; obtain ⟨j0, j1, j2, j3⟩ := B1.c4; have jl := B1.lt; obtain ⟨p0, p1⟩ := B2.c2; have pl := B2.lt; obtain ⟨xa0, xa1⟩ := BA.c2; have xal := BA.lt; obtain ⟨xb0, xb1⟩ := BB.c2; have xbl := BB.lt; obtain ⟨xc0, xc1⟩ := BC.c2; have xcl := BC.lt; obtain ⟨xd0, xd1⟩ := BD.c2; have xdl := BD.lt; obtain ⟨xs0, xs1⟩ := BS.c2; have xsl := BS.lt; obtain ⟨xp0, xp1⟩ := BP.c2; have xpl := BP.lt)
      obtain ⟨vb52, hv⟩ : ∃ x, x = (w10.alloc (.cells #[.int .i64 xn, .int .i64 xd] 52)) := ⟨_, rfl⟩
      rw [← hv]
      have hx : Ext w10 vb52 := by rw [hv]; exact (Ext.refl _).alloc _
      have BX : Held vb52 w10.heap.size 52 #[.int .i64 xn, .int .i64 xd] := by rw [hv]; exact Held.new _ _ _
      clear hv
      generalize w10.heap.size = bb52 at *
      clear j0 j1 j2 j3 jl p0 p1 pl xa0 xa1 xal xb0 xb1 xbl xc0 xc1 xcl xd0 xd1 xdl xs0 xs1 xsl xp0 xp1 xpl
      replace E := E.trans hx
      replace Z := Z.ext hx
      replace B1 := B1.ext hx
      replace B2 := B2.ext hx
      replace BA := BA.ext hx
      replace BB := BB.ext hx
      replace BC := BC.ext hx
      replace BD := BD.ext hx
      replace BS := BS.ext hx
      replace BP := BP.ext hx
      clear hx
      obtain ⟨j0, j1, j2, j3⟩ := B1.c4
      have jl := B1.lt
      obtain ⟨p0, p1⟩ := B2.c2
      have pl := B2.lt
      obtain ⟨xa0, xa1⟩ := BA.c2
      have xal := BA.lt
      obtain ⟨xb0, xb1⟩ := BB.c2
      have xbl := BB.lt
      obtain ⟨xc0, xc1⟩ := BC.c2
      have xcl := BC.lt
      obtain ⟨xd0, xd1⟩ := BD.c2
      have xdl := BD.lt
      obtain ⟨xs0, xs1⟩ := BS.c2
      have xsl := BS.lt
      obtain ⟨xp0, xp1⟩ := BP.c2
      have xpl := BP.lt
      obtain ⟨xx0, xx1⟩ := BX.c2
      have xxl := BX.lt
      go_upto_region 23 with (go_at_call 23; (with_reducible refine Calls.mono (NY _ Z) ?_); rintro e w11 ⟨rfl, hx⟩; replace E := E.trans hx; replace Z := Z.ext hx; replace B1 := B1.ext hx; replace B2 := B2.ext hx; replace BA := BA.ext hx; replace BB := BB.ext hx; replace BC := BC.ext hx; replace BD := BD.ext hx; replace BS := BS.ext hx; replace BP := BP.ext hx; replace BX := BX.ext hx; clear hx; clear j0 j1 j2 j3 jl p0 p1 pl xa0 xa1 xal xb0 xb1 xbl xc0 xc1 xcl xd0 xd1 xdl xs0 xs1 xsl xp0 xp1 xpl xx0 xx1 xxl; obtain ⟨j0, j1, j2, j3⟩ := B1.c4; have jl := B1.lt; obtain ⟨p0, p1⟩ := B2.c2; have pl := B2.lt; obtain ⟨xa0, xa1⟩ := BA.c2; have xal := BA.lt; obtain ⟨xb0, xb1⟩ := BB.c2; have xbl := BB.lt; obtain ⟨xc0, xc1⟩ := BC.c2; have xcl := BC.lt; obtain ⟨xd0, xd1⟩ := BD.c2; have xdl := BD.lt; obtain ⟨xs0, xs1⟩ := BS.c2; have xsl := BS.lt; obtain ⟨xp0, xp1⟩ := BP.c2; have xpl := BP.lt; obtain ⟨xx0, xx1⟩ := BX.c2; have xxl := BX.lt)
      obtain ⟨vb53, hv⟩ : ∃ x, x = (w11.alloc (.cells #[.int .i64 yn, .int .i64 yd] 52)) := ⟨_, rfl⟩
      rw [← hv]
      have hx : Ext w11 vb53 := by rw [hv]; exact (Ext.refl _).alloc _
      have BY : Held vb53 w11.heap.size 52 #[.int .i64 yn, .int .i64 yd] := by rw [hv]; exact Held.new _ _ _
      clear hv
      generalize w11.heap.size = bb53 at *
      clear j0 j1 j2 j3 jl p0 p1 pl xa0 xa1 xal xb0 xb1 xbl xc0 xc1 xcl xd0 xd1 xdl xs0 xs1 xsl xp0 xp1 xpl xx0 xx1 xxl
      replace E := E.trans hx
      replace Z := Z.ext hx
      replace B1 := B1.ext hx
      replace B2 := B2.ext hx
      replace BA := BA.ext hx
      replace BB := BB.ext hx
      replace BC := BC.ext hx
      replace BD := BD.ext hx
      replace BS := BS.ext hx
      replace BP := BP.ext hx
      replace BX := BX.ext hx
      clear hx
      obtain ⟨j0, j1, j2, j3⟩ := B1.c4
      have jl := B1.lt
      obtain ⟨p0, p1⟩ := B2.c2
      have pl := B2.lt
      obtain ⟨xa0, xa1⟩ := BA.c2
      have xal := BA.lt
      obtain ⟨xb0, xb1⟩ := BB.c2
      have xbl := BB.lt
      obtain ⟨xc0, xc1⟩ := BC.c2
      have xcl := BC.lt
      obtain ⟨xd0, xd1⟩ := BD.c2
      have xdl := BD.lt
      obtain ⟨xs0, xs1⟩ := BS.c2
      have xsl := BS.lt
      obtain ⟨xp0, xp1⟩ := BP.c2
      have xpl := BP.lt
      obtain ⟨xx0, xx1⟩ := BX.c2
      have xxl := BX.lt
      obtain ⟨xy0, xy1⟩ := BY.c2
      have xyl := BY.lt
      by_cases hpe : pe = 0
      rotate_left
      · have gp : (pe == 0) = false := beq_eq_false_iff_ne.2 hpe
        clear H4 hpe
        go_wp2_with (go_at_call 21; (with_reducible refine Calls.mono (works8_any _ Z) ?_); rintro e wk ⟨rfl, hk⟩)
        go_ret
        exact ⟨rfl, E.trans hk⟩
      subst hpe
      by_cases hxe : xe = 0
      rotate_left
      · have gx : (xe == 0) = false := beq_eq_false_iff_ne.2 hxe
        clear H4 hxe
        go_wp2_with (go_at_call 21; (with_reducible refine Calls.mono (works8_any _ Z) ?_); rintro e wk ⟨rfl, hk⟩)
        go_ret
        exact ⟨rfl, E.trans hk⟩
      subst hxe
      by_cases hye : ye = 0
      rotate_left
      · have gy : (ye == 0) = false := beq_eq_false_iff_ne.2 hye
        clear H4 hye
        go_wp2_with (go_at_call 21; (with_reducible refine Calls.mono (works8_any _ Z) ?_); rintro e wk ⟨rfl, hk⟩)
        go_ret
        exact ⟨rfl, E.trans hk⟩
      subst hye
      have h9 := H4.out (by trivial) (by trivial) (by trivial) (by trivial) (by trivial)
      simp only [Rt.mk.injEq] at h9
      obtain ⟨rfl, rfl⟩ := h9
      clear H4
      go_wp2_with (go_at_call 21; (with_reducible refine Calls.mono (works8_any _ Z) ?_); rintro e wk ⟨rfl, hk⟩)
      go_ret
      exact ⟨rfl, E.trans hk⟩
    · have g7 : (k2 == 0) = false := beq_eq_false_iff_ne.2 hk2
      clear H5 g6 hk2
      go_upto_region 21 with (first | (go_at_call 24; (with_reducible refine Calls.mono (NK1 _) ?_); rintro e w6 ⟨rfl, hx⟩; replace E := E.trans hx; replace Z := Z.ext hx; replace B1 := B1.ext hx; replace B2 := B2.ext hx; replace BA := BA.ext hx; replace BB := BB.ext hx; replace BC := BC.ext hx; replace BD := BD.ext hx; replace BS := BS.ext hx; clear hx; clear j0 j1 j2 j3 jl p0 p1 pl xa0 xa1 xal xb0 xb1 xbl xc0 xc1 xcl xd0 xd1 xdl xs0 xs1 xsl; obtain ⟨j0, j1, j2, j3⟩ := B1.c4; have jl := B1.lt; obtain ⟨p0, p1⟩ := B2.c2; have pl := B2.lt; obtain ⟨xa0, xa1⟩ := BA.c2; have xal := BA.lt; obtain ⟨xb0, xb1⟩ := BB.c2; have xbl := BB.lt; obtain ⟨xc0, xc1⟩ := BC.c2; have xcl := BC.lt; obtain ⟨xd0, xd1⟩ := BD.c2; have xdl := BD.lt; obtain ⟨xs0, xs1⟩ := BS.c2; have xsl := BS.lt) | (go_at_call 24; (with_reducible refine Calls.mono (NK2 _) ?_); rintro e w7 ⟨rfl, hx⟩; replace E := E.trans hx; replace Z := Z.ext hx; replace B1 := B1.ext hx; replace B2 := B2.ext hx; replace BA := BA.ext hx; replace BB := BB.ext hx; replace BC := BC.ext hx; replace BD := BD.ext hx; replace BS := BS.ext hx; clear hx; clear j0 j1 j2 j3 jl p0 p1 pl xa0 xa1 xal xb0 xb1 xbl xc0 xc1 xcl xd0 xd1 xdl xs0 xs1 xsl; obtain ⟨j0, j1, j2, j3⟩ := B1.c4; have jl := B1.lt; obtain ⟨p0, p1⟩ := B2.c2; have pl := B2.lt; obtain ⟨xa0, xa1⟩ := BA.c2; have xal := BA.lt; obtain ⟨xb0, xb1⟩ := BB.c2; have xbl := BB.lt; obtain ⟨xc0, xc1⟩ := BC.c2; have xcl := BC.lt; obtain ⟨xd0, xd1⟩ := BD.c2; have xdl := BD.lt; obtain ⟨xs0, xs1⟩ := BS.c2; have xsl := BS.lt) | (go_at_call 24; (with_reducible refine Calls.mono (NK3 _) ?_); rintro e w8 ⟨rfl, hx⟩; replace E := E.trans hx; replace Z := Z.ext hx; replace B1 := B1.ext hx; replace B2 := B2.ext hx; replace BA := BA.ext hx; replace BB := BB.ext hx; replace BC := BC.ext hx; replace BD := BD.ext hx; replace BS := BS.ext hx; clear hx; clear j0 j1 j2 j3 jl p0 p1 pl xa0 xa1 xal xb0 xb1 xbl xc0 xc1 xcl xd0 xd1 xdl xs0 xs1 xsl; obtain ⟨j0, j1, j2, j3⟩ := B1.c4; have jl := B1.lt; obtain ⟨p0, p1⟩ := B2.c2; have pl := B2.lt; obtain ⟨xa0, xa1⟩ := BA.c2; have xal := BA.lt; obtain ⟨xb0, xb1⟩ := BB.c2; have xbl := BB.lt; obtain ⟨xc0, xc1⟩ := BC.c2; have xcl := BC.lt; obtain ⟨xd0, xd1⟩ := BD.c2; have xdl := BD.lt; obtain ⟨xs0, xs1⟩ := BS.c2; have xsl := BS.lt) | (go_at_call 23; (with_reducible refine Calls.mono (NP _ Z) ?_); rintro e w9 ⟨rfl, hx⟩; replace E := E.trans hx; replace Z := Z.ext hx; replace B1 := B1.ext hx; replace B2 := B2.ext hx; replace BA := BA.ext hx; replace BB := BB.ext hx; replace BC := BC.ext hx; replace BD := BD.ext hx; replace BS := BS.ext hx; clear hx; clear j0 j1 j2 j3 jl p0 p1 pl xa0 xa1 xal xb0 xb1 xbl xc0 xc1 xcl xd0 xd1 xdl xs0 xs1 xsl; obtain ⟨j0, j1, j2, j3⟩ := B1.c4; have jl := B1.lt; obtain ⟨p0, p1⟩ := B2.c2; have pl := B2.lt; obtain ⟨xa0, xa1⟩ := BA.c2; have xal := BA.lt; obtain ⟨xb0, xb1⟩ := BB.c2; have xbl := BB.lt; obtain ⟨xc0, xc1⟩ := BC.c2; have xcl := BC.lt; obtain ⟨xd0, xd1⟩ := BD.c2; have xdl := BD.lt; obtain ⟨xs0, xs1⟩ := BS.c2; have xsl := BS.lt))
      obtain ⟨vb51, hv⟩ : ∃ x, x = (w9.alloc (.cells #[.int .i64 pn, .int .i64 pd] 52)) := ⟨_, rfl⟩
      rw [← hv]
      have hx : Ext w9 vb51 := by rw [hv]; exact (Ext.refl _).alloc _
      have BP : Held vb51 w9.heap.size 52 #[.int .i64 pn, .int .i64 pd] := by rw [hv]; exact Held.new _ _ _
      clear hv
      generalize w9.heap.size = bb51 at *
      clear j0 j1 j2 j3 jl p0 p1 pl xa0 xa1 xal xb0 xb1 xbl xc0 xc1 xcl xd0 xd1 xdl xs0 xs1 xsl
      replace E := E.trans hx
      replace Z := Z.ext hx
      replace B1 := B1.ext hx
      replace B2 := B2.ext hx
      replace BA := BA.ext hx
      replace BB := BB.ext hx
      replace BC := BC.ext hx
      replace BD := BD.ext hx
      replace BS := BS.ext hx
      clear hx
      obtain ⟨j0, j1, j2, j3⟩ := B1.c4
      have jl := B1.lt
      obtain ⟨p0, p1⟩ := B2.c2
      have pl := B2.lt
      obtain ⟨xa0, xa1⟩ := BA.c2
      have xal := BA.lt
      obtain ⟨xb0, xb1⟩ := BB.c2
      have xbl := BB.lt
      obtain ⟨xc0, xc1⟩ := BC.c2
      have xcl := BC.lt
      obtain ⟨xd0, xd1⟩ := BD.c2
      have xdl := BD.lt
      obtain ⟨xs0, xs1⟩ := BS.c2
      have xsl := BS.lt
      obtain ⟨xp0, xp1⟩ := BP.c2
      have xpl := BP.lt
      go_upto_region 22 with (go_at_call 22; (with_reducible refine Calls.mono (NX _ Z) ?_); rintro e w10 ⟨rfl, hx⟩; replace E := E.trans hx; replace Z := Z.ext hx; replace B1 := B1.ext hx; replace B2 := B2.ext hx; replace BA := BA.ext hx; replace BB := BB.ext hx; replace BC := BC.ext hx; replace BD := BD.ext hx; replace BS := BS.ext hx; replace BP := BP.ext hx; clear hx; clear j0 j1 j2 j3 jl p0 p1 pl xa0 xa1 xal xb0 xb1 xbl xc0 xc1 xcl xd0 xd1 xdl xs0 xs1 xsl xp0 xp1 xpl; obtain ⟨j0, j1, j2, j3⟩ := B1.c4; have jl := B1.lt; obtain ⟨p0, p1⟩ := B2.c2; have pl := B2.lt; obtain ⟨xa0, xa1⟩ := BA.c2; have xal := BA.lt; obtain ⟨xb0, xb1⟩ := BB.c2; have xbl := BB.lt; obtain ⟨xc0, xc1⟩ := BC.c2; have xcl := BC.lt; obtain ⟨xd0, xd1⟩ := BD.c2; have xdl := BD.lt; obtain ⟨xs0, xs1⟩ := BS.c2; have xsl := BS.lt; obtain ⟨xp0, xp1⟩ := BP.c2; have xpl := BP.lt)
      obtain ⟨vb52, hv⟩ : ∃ x, x = (w10.alloc (.cells #[.int .i64 xn, .int .i64 xd] 52)) := ⟨_, rfl⟩
      rw [← hv]
      have hx : Ext w10 vb52 := by rw [hv]; exact (Ext.refl _).alloc _
      have BX : Held vb52 w10.heap.size 52 #[.int .i64 xn, .int .i64 xd] := by rw [hv]; exact Held.new _ _ _
      clear hv
      generalize w10.heap.size = bb52 at *
      clear j0 j1 j2 j3 jl p0 p1 pl xa0 xa1 xal xb0 xb1 xbl xc0 xc1 xcl xd0 xd1 xdl xs0 xs1 xsl xp0 xp1 xpl
      replace E := E.trans hx
      replace Z := Z.ext hx
      replace B1 := B1.ext hx
      replace B2 := B2.ext hx
      replace BA := BA.ext hx
      replace BB := BB.ext hx
      replace BC := BC.ext hx
      replace BD := BD.ext hx
      replace BS := BS.ext hx
      replace BP := BP.ext hx
      clear hx
      obtain ⟨j0, j1, j2, j3⟩ := B1.c4
      have jl := B1.lt
      obtain ⟨p0, p1⟩ := B2.c2
      have pl := B2.lt
      obtain ⟨xa0, xa1⟩ := BA.c2
      have xal := BA.lt
      obtain ⟨xb0, xb1⟩ := BB.c2
      have xbl := BB.lt
      obtain ⟨xc0, xc1⟩ := BC.c2
      have xcl := BC.lt
      obtain ⟨xd0, xd1⟩ := BD.c2
      have xdl := BD.lt
      obtain ⟨xs0, xs1⟩ := BS.c2
      have xsl := BS.lt
      obtain ⟨xp0, xp1⟩ := BP.c2
      have xpl := BP.lt
      obtain ⟨xx0, xx1⟩ := BX.c2
      have xxl := BX.lt
      go_upto_region 23 with (go_at_call 23; (with_reducible refine Calls.mono (NY _ Z) ?_); rintro e w11 ⟨rfl, hx⟩; replace E := E.trans hx; replace Z := Z.ext hx; replace B1 := B1.ext hx; replace B2 := B2.ext hx; replace BA := BA.ext hx; replace BB := BB.ext hx; replace BC := BC.ext hx; replace BD := BD.ext hx; replace BS := BS.ext hx; replace BP := BP.ext hx; replace BX := BX.ext hx; clear hx; clear j0 j1 j2 j3 jl p0 p1 pl xa0 xa1 xal xb0 xb1 xbl xc0 xc1 xcl xd0 xd1 xdl xs0 xs1 xsl xp0 xp1 xpl xx0 xx1 xxl; obtain ⟨j0, j1, j2, j3⟩ := B1.c4; have jl := B1.lt; obtain ⟨p0, p1⟩ := B2.c2; have pl := B2.lt; obtain ⟨xa0, xa1⟩ := BA.c2; have xal := BA.lt; obtain ⟨xb0, xb1⟩ := BB.c2; have xbl := BB.lt; obtain ⟨xc0, xc1⟩ := BC.c2; have xcl := BC.lt; obtain ⟨xd0, xd1⟩ := BD.c2; have xdl := BD.lt; obtain ⟨xs0, xs1⟩ := BS.c2; have xsl := BS.lt; obtain ⟨xp0, xp1⟩ := BP.c2; have xpl := BP.lt; obtain ⟨xx0, xx1⟩ := BX.c2; have xxl := BX.lt)
      obtain ⟨vb53, hv⟩ : ∃ x, x = (w11.alloc (.cells #[.int .i64 yn, .int .i64 yd] 52)) := ⟨_, rfl⟩
      rw [← hv]
      have hx : Ext w11 vb53 := by rw [hv]; exact (Ext.refl _).alloc _
      have BY : Held vb53 w11.heap.size 52 #[.int .i64 yn, .int .i64 yd] := by rw [hv]; exact Held.new _ _ _
      clear hv
      generalize w11.heap.size = bb53 at *
      clear j0 j1 j2 j3 jl p0 p1 pl xa0 xa1 xal xb0 xb1 xbl xc0 xc1 xcl xd0 xd1 xdl xs0 xs1 xsl xp0 xp1 xpl xx0 xx1 xxl
      replace E := E.trans hx
      replace Z := Z.ext hx
      replace B1 := B1.ext hx
      replace B2 := B2.ext hx
      replace BA := BA.ext hx
      replace BB := BB.ext hx
      replace BC := BC.ext hx
      replace BD := BD.ext hx
      replace BS := BS.ext hx
      replace BP := BP.ext hx
      replace BX := BX.ext hx
      clear hx
      obtain ⟨j0, j1, j2, j3⟩ := B1.c4
      have jl := B1.lt
      obtain ⟨p0, p1⟩ := B2.c2
      have pl := B2.lt
      obtain ⟨xa0, xa1⟩ := BA.c2
      have xal := BA.lt
      obtain ⟨xb0, xb1⟩ := BB.c2
      have xbl := BB.lt
      obtain ⟨xc0, xc1⟩ := BC.c2
      have xcl := BC.lt
      obtain ⟨xd0, xd1⟩ := BD.c2
      have xdl := BD.lt
      obtain ⟨xs0, xs1⟩ := BS.c2
      have xsl := BS.lt
      obtain ⟨xp0, xp1⟩ := BP.c2
      have xpl := BP.lt
      obtain ⟨xx0, xx1⟩ := BX.c2
      have xxl := BX.lt
      obtain ⟨xy0, xy1⟩ := BY.c2
      have xyl := BY.lt
      by_cases hpe : pe = 0
      rotate_left
      · have gp : (pe == 0) = false := beq_eq_false_iff_ne.2 hpe
        clear H4 hpe
        go_wp2_with (go_at_call 21; (with_reducible refine Calls.mono (works8_any _ Z) ?_); rintro e wk ⟨rfl, hk⟩)
        go_ret
        exact ⟨rfl, E.trans hk⟩
      subst hpe
      by_cases hxe : xe = 0
      rotate_left
      · have gx : (xe == 0) = false := beq_eq_false_iff_ne.2 hxe
        clear H4 hxe
        go_wp2_with (go_at_call 21; (with_reducible refine Calls.mono (works8_any _ Z) ?_); rintro e wk ⟨rfl, hk⟩)
        go_ret
        exact ⟨rfl, E.trans hk⟩
      subst hxe
      by_cases hye : ye = 0
      rotate_left
      · have gy : (ye == 0) = false := beq_eq_false_iff_ne.2 hye
        clear H4 hye
        go_wp2_with (go_at_call 21; (with_reducible refine Calls.mono (works8_any _ Z) ?_); rintro e wk ⟨rfl, hk⟩)
        go_ret
        exact ⟨rfl, E.trans hk⟩
      subst hye
      have h9 := H4.out (by trivial) (by trivial) (by trivial) (by trivial) (by trivial)
      simp only [Rt.mk.injEq] at h9
      obtain ⟨rfl, rfl⟩ := h9
      clear H4
      go_wp2_with (go_at_call 21; (with_reducible refine Calls.mono (works8_any _ Z) ?_); rintro e wk ⟨rfl, hk⟩)
      go_ret
      exact ⟨rfl, E.trans hk⟩
  subst hse
  have h8 := H1.out (by trivial) (by trivial) (by trivial) (by trivial)
  simp only [Rt.mk.injEq] at h8
  obtain ⟨rfl, rfl⟩ := h8
  clear H1
  by_cases hde : de = 0
  rotate_left
  · have gd : (de == 0) = false := beq_eq_false_iff_ne.2 hde
    have gdn : (de != 0) = true := by rw [bne, gd]; rfl
    clear H3 H4 hde NK2 NK3 NP NX NY
    go_wp2_with (first | (go_at_call 24; (with_reducible refine Calls.mono (NK1 _) ?_); rintro e w6 ⟨rfl, hx⟩; replace E := E.trans hx; replace Z := Z.ext hx; replace B1 := B1.ext hx; replace B2 := B2.ext hx; replace BA := BA.ext hx; replace BB := BB.ext hx; replace BC := BC.ext hx; replace BD := BD.ext hx; replace BS := BS.ext hx; clear hx; clear j0 j1 j2 j3 jl p0 p1 pl xa0 xa1 xal xb0 xb1 xbl xc0 xc1 xcl xd0 xd1 xdl xs0 xs1 xsl; obtain ⟨j0, j1, j2, j3⟩ := B1.c4; have jl := B1.lt; obtain ⟨p0, p1⟩ := B2.c2; have pl := B2.lt; obtain ⟨xa0, xa1⟩ := BA.c2; have xal := BA.lt; obtain ⟨xb0, xb1⟩ := BB.c2; have xbl := BB.lt; obtain ⟨xc0, xc1⟩ := BC.c2; have xcl := BC.lt; obtain ⟨xd0, xd1⟩ := BD.c2; have xdl := BD.lt; obtain ⟨xs0, xs1⟩ := BS.c2; have xsl := BS.lt) | (go_at_call 21; (with_reducible refine Calls.mono (works8_any _ Z) ?_); rintro e wk ⟨rfl, hk⟩))
    go_ret
    exact ⟨rfl, E.trans hk⟩
  subst hde
  obtain ⟨u1, u2, u3, u4⟩ := H3.out (by trivial) (by trivial)
  subst u1 u2
  have g5 : decide (k2 * k3 < 0) = false := decide_eq_false (by omega)
  have H5 : Hid (k2 = 0 → k3 = 0) := u4
  clear H3 u3 u4
  have g6 : ((k2 == 0) && (k3 != 0)) = false := by
    by_cases h : k2 = 0
    · rw [H5.out h, h]; rfl
    · rw [beq_eq_false_iff_ne.2 h]; rfl
  by_cases hk2 : k2 = 0
  · have g7 := H5.out hk2
    subst hk2 g7
    clear H5 g6
    go_upto_region 21 with (first | (go_at_call 24; (with_reducible refine Calls.mono (NK1 _) ?_); rintro e w6 ⟨rfl, hx⟩; replace E := E.trans hx; replace Z := Z.ext hx; replace B1 := B1.ext hx; replace B2 := B2.ext hx; replace BA := BA.ext hx; replace BB := BB.ext hx; replace BC := BC.ext hx; replace BD := BD.ext hx; replace BS := BS.ext hx; clear hx; clear j0 j1 j2 j3 jl p0 p1 pl xa0 xa1 xal xb0 xb1 xbl xc0 xc1 xcl xd0 xd1 xdl xs0 xs1 xsl; obtain ⟨j0, j1, j2, j3⟩ := B1.c4; have jl := B1.lt; obtain ⟨p0, p1⟩ := B2.c2; have pl := B2.lt; obtain ⟨xa0, xa1⟩ := BA.c2; have xal := BA.lt; obtain ⟨xb0, xb1⟩ := BB.c2; have xbl := BB.lt; obtain ⟨xc0, xc1⟩ := BC.c2; have xcl := BC.lt; obtain ⟨xd0, xd1⟩ := BD.c2; have xdl := BD.lt; obtain ⟨xs0, xs1⟩ := BS.c2; have xsl := BS.lt) | (go_at_call 24; (with_reducible refine Calls.mono (NK2 _) ?_); rintro e w7 ⟨rfl, hx⟩; replace E := E.trans hx; replace Z := Z.ext hx; replace B1 := B1.ext hx; replace B2 := B2.ext hx; replace BA := BA.ext hx; replace BB := BB.ext hx; replace BC := BC.ext hx; replace BD := BD.ext hx; replace BS := BS.ext hx; clear hx; clear j0 j1 j2 j3 jl p0 p1 pl xa0 xa1 xal xb0 xb1 xbl xc0 xc1 xcl xd0 xd1 xdl xs0 xs1 xsl; obtain ⟨j0, j1, j2, j3⟩ := B1.c4; have jl := B1.lt; obtain ⟨p0, p1⟩ := B2.c2; have pl := B2.lt; obtain ⟨xa0, xa1⟩ := BA.c2; have xal := BA.lt; obtain ⟨xb0, xb1⟩ := BB.c2; have xbl := BB.lt; obtain ⟨xc0, xc1⟩ := BC.c2; have xcl := BC.lt; obtain ⟨xd0, xd1⟩ := BD.c2; have xdl := BD.lt; obtain ⟨xs0, xs1⟩ := BS.c2; have xsl := BS.lt) | (go_at_call 24; (with_reducible refine Calls.mono (NK3 _) ?_); rintro e w8 ⟨rfl, hx⟩; replace E := E.trans hx; replace Z := Z.ext hx; replace B1 := B1.ext hx; replace B2 := B2.ext hx; replace BA := BA.ext hx; replace BB := BB.ext hx; replace BC := BC.ext hx; replace BD := BD.ext hx; replace BS := BS.ext hx; clear hx; clear j0 j1 j2 j3 jl p0 p1 pl xa0 xa1 xal xb0 xb1 xbl xc0 xc1 xcl xd0 xd1 xdl xs0 xs1 xsl; obtain ⟨j0, j1, j2, j3⟩ := B1.c4; have jl := B1.lt; obtain ⟨p0, p1⟩ := B2.c2; have pl := B2.lt; obtain ⟨xa0, xa1⟩ := BA.c2; have xal := BA.lt; obtain ⟨xb0, xb1⟩ := BB.c2; have xbl := BB.lt; obtain ⟨xc0, xc1⟩ := BC.c2; have xcl := BC.lt; obtain ⟨xd0, xd1⟩ := BD.c2; have xdl := BD.lt; obtain ⟨xs0, xs1⟩ := BS.c2; have xsl := BS.lt) | (go_at_call 23; (with_reducible refine Calls.mono (NP _ Z) ?_); rintro e w9 ⟨rfl, hx⟩; replace E := E.trans hx; replace Z := Z.ext hx; replace B1 := B1.ext hx; replace B2 := B2.ext hx; replace BA := BA.ext hx; replace BB := BB.ext hx; replace BC := BC.ext hx; replace BD := BD.ext hx; replace BS := BS.ext hx; clear hx; clear j0 j1 j2 j3 jl p0 p1 pl xa0 xa1 xal xb0 xb1 xbl xc0 xc1 xcl xd0 xd1 xdl xs0 xs1 xsl; obtain ⟨j0, j1, j2, j3⟩ := B1.c4; have jl := B1.lt; obtain ⟨p0, p1⟩ := B2.c2; have pl := B2.lt; obtain ⟨xa0, xa1⟩ := BA.c2; have xal := BA.lt; obtain ⟨xb0, xb1⟩ := BB.c2; have xbl := BB.lt; obtain ⟨xc0, xc1⟩ := BC.c2; have xcl := BC.lt; obtain ⟨xd0, xd1⟩ := BD.c2; have xdl := BD.lt; obtain ⟨xs0, xs1⟩ := BS.c2; have xsl := BS.lt))
    obtain ⟨vb51, hv⟩ : ∃ x, x = (w9.alloc (.cells #[.int .i64 pn, .int .i64 pd] 52)) := ⟨_, rfl⟩
    rw [← hv]
    have hx : Ext w9 vb51 := by rw [hv]; exact (Ext.refl _).alloc _
    have BP : Held vb51 w9.heap.size 52 #[.int .i64 pn, .int .i64 pd] := by rw [hv]; exact Held.new _ _ _
    clear hv
    generalize w9.heap.size = bb51 at *
    clear j0 j1 j2 j3 jl p0 p1 pl xa0 xa1 xal xb0 xb1 xbl xc0 xc1 xcl xd0 xd1 xdl xs0 xs1 xsl
    replace E := E.trans hx
    replace Z := Z.ext hx
    replace B1 := B1.ext hx
    replace B2 := B2.ext hx
    replace BA := BA.ext hx
    replace BB := BB.ext hx
    replace BC := BC.ext hx
    replace BD := BD.ext hx
    replace BS := BS.ext hx
    clear hx
    obtain ⟨j0, j1, j2, j3⟩ := B1.c4
    have jl := B1.lt
    obtain ⟨p0, p1⟩ := B2.c2
    have pl := B2.lt
    obtain ⟨xa0, xa1⟩ := BA.c2
    have xal := BA.lt
    obtain ⟨xb0, xb1⟩ := BB.c2
    have xbl := BB.lt
    obtain ⟨xc0, xc1⟩ := BC.c2
    have xcl := BC.lt
    obtain ⟨xd0, xd1⟩ := BD.c2
    have xdl := BD.lt
    obtain ⟨xs0, xs1⟩ := BS.c2
    have xsl := BS.lt
    obtain ⟨xp0, xp1⟩ := BP.c2
    have xpl := BP.lt
    go_upto_region 22 with (go_at_call 22; (with_reducible refine Calls.mono (NX _ Z) ?_); rintro e w10 ⟨rfl, hx⟩; replace E := E.trans hx; replace Z := Z.ext hx; replace B1 := B1.ext hx; replace B2 := B2.ext hx; replace BA := BA.ext hx; replace BB := BB.ext hx; replace BC := BC.ext hx; replace BD := BD.ext hx; replace BS := BS.ext hx; replace BP := BP.ext hx; clear hx; clear j0 j1 j2 j3 jl p0 p1 pl xa0 xa1 xal xb0 xb1 xbl xc0 xc1 xcl xd0 xd1 xdl xs0 xs1 xsl xp0 xp1 xpl; obtain ⟨j0, j1, j2, j3⟩ := B1.c4; have jl := B1.lt; obtain ⟨p0, p1⟩ := B2.c2; have pl := B2.lt; obtain ⟨xa0, xa1⟩ := BA.c2; have xal := BA.lt; obtain ⟨xb0, xb1⟩ := BB.c2; have xbl := BB.lt; obtain ⟨xc0, xc1⟩ := BC.c2; have xcl := BC.lt; obtain ⟨xd0, xd1⟩ := BD.c2; have xdl := BD.lt; obtain ⟨xs0, xs1⟩ := BS.c2; have xsl := BS.lt; obtain ⟨xp0, xp1⟩ := BP.c2; have xpl := BP.lt)
    obtain ⟨vb52, hv⟩ : ∃ x, x = (w10.alloc (.cells #[.int .i64 xn, .int .i64 xd] 52)) := ⟨_, rfl⟩
    rw [← hv]
    have hx : Ext w10 vb52 := by rw [hv]; exact (Ext.refl _).alloc _
    have BX : Held vb52 w10.heap.size 52 #[.int .i64 xn, .int .i64 xd] := by rw [hv]; exact Held.new _ _ _
    clear hv
    generalize w10.heap.size = bb52 at *
    clear j0 j1 j2 j3 jl p0 p1 pl xa0 xa1 xal xb0 xb1 xbl xc0 xc1 xcl xd0 xd1 xdl xs0 xs1 xsl xp0 xp1 xpl
    replace E := E.trans hx
    replace Z := Z.ext hx
    replace B1 := B1.ext hx
    replace B2 := B2.ext hx
    replace BA := BA.ext hx
    replace BB := BB.ext hx
    replace BC := BC.ext hx
    replace BD := BD.ext hx
    replace BS := BS.ext hx
    replace BP := BP.ext hx
    clear hx
    obtain ⟨j0, j1, j2, j3⟩ := B1.c4
    have jl := B1.lt
    obtain ⟨p0, p1⟩ := B2.c2
    have pl := B2.lt
    obtain ⟨xa0, xa1⟩ := BA.c2
    have xal := BA.lt
    obtain ⟨xb0, xb1⟩ := BB.c2
    have xbl := BB.lt
    obtain ⟨xc0, xc1⟩ := BC.c2
    have xcl := BC.lt
    obtain ⟨xd0, xd1⟩ := BD.c2
    have xdl := BD.lt
    obtain ⟨xs0, xs1⟩ := BS.c2
    have xsl := BS.lt
    obtain ⟨xp0, xp1⟩ := BP.c2
    have xpl := BP.lt
    obtain ⟨xx0, xx1⟩ := BX.c2
    have xxl := BX.lt
    go_upto_region 23 with (go_at_call 23; (with_reducible refine Calls.mono (NY _ Z) ?_); rintro e w11 ⟨rfl, hx⟩; replace E := E.trans hx; replace Z := Z.ext hx; replace B1 := B1.ext hx; replace B2 := B2.ext hx; replace BA := BA.ext hx; replace BB := BB.ext hx; replace BC := BC.ext hx; replace BD := BD.ext hx; replace BS := BS.ext hx; replace BP := BP.ext hx; replace BX := BX.ext hx; clear hx; clear j0 j1 j2 j3 jl p0 p1 pl xa0 xa1 xal xb0 xb1 xbl xc0 xc1 xcl xd0 xd1 xdl xs0 xs1 xsl xp0 xp1 xpl xx0 xx1 xxl; obtain ⟨j0, j1, j2, j3⟩ := B1.c4; have jl := B1.lt; obtain ⟨p0, p1⟩ := B2.c2; have pl := B2.lt; obtain ⟨xa0, xa1⟩ := BA.c2; have xal := BA.lt; obtain ⟨xb0, xb1⟩ := BB.c2; have xbl := BB.lt; obtain ⟨xc0, xc1⟩ := BC.c2; have xcl := BC.lt; obtain ⟨xd0, xd1⟩ := BD.c2; have xdl := BD.lt; obtain ⟨xs0, xs1⟩ := BS.c2; have xsl := BS.lt; obtain ⟨xp0, xp1⟩ := BP.c2; have xpl := BP.lt; obtain ⟨xx0, xx1⟩ := BX.c2; have xxl := BX.lt)
    obtain ⟨vb53, hv⟩ : ∃ x, x = (w11.alloc (.cells #[.int .i64 yn, .int .i64 yd] 52)) := ⟨_, rfl⟩
    rw [← hv]
    have hx : Ext w11 vb53 := by rw [hv]; exact (Ext.refl _).alloc _
    have BY : Held vb53 w11.heap.size 52 #[.int .i64 yn, .int .i64 yd] := by rw [hv]; exact Held.new _ _ _
    clear hv
    generalize w11.heap.size = bb53 at *
    clear j0 j1 j2 j3 jl p0 p1 pl xa0 xa1 xal xb0 xb1 xbl xc0 xc1 xcl xd0 xd1 xdl xs0 xs1 xsl xp0 xp1 xpl xx0 xx1 xxl
    replace E := E.trans hx
    replace Z := Z.ext hx
    replace B1 := B1.ext hx
    replace B2 := B2.ext hx
    replace BA := BA.ext hx
    replace BB := BB.ext hx
    replace BC := BC.ext hx
    replace BD := BD.ext hx
    replace BS := BS.ext hx
    replace BP := BP.ext hx
    replace BX := BX.ext hx
    clear hx
    obtain ⟨j0, j1, j2, j3⟩ := B1.c4
    have jl := B1.lt
    obtain ⟨p0, p1⟩ := B2.c2
    have pl := B2.lt
    obtain ⟨xa0, xa1⟩ := BA.c2
    have xal := BA.lt
    obtain ⟨xb0, xb1⟩ := BB.c2
    have xbl := BB.lt
    obtain ⟨xc0, xc1⟩ := BC.c2
    have xcl := BC.lt
    obtain ⟨xd0, xd1⟩ := BD.c2
    have xdl := BD.lt
    obtain ⟨xs0, xs1⟩ := BS.c2
    have xsl := BS.lt
    obtain ⟨xp0, xp1⟩ := BP.c2
    have xpl := BP.lt
    obtain ⟨xx0, xx1⟩ := BX.c2
    have xxl := BX.lt
    obtain ⟨xy0, xy1⟩ := BY.c2
    have xyl := BY.lt
    by_cases hpe : pe = 0
    rotate_left
    · have gp : (pe == 0) = false := beq_eq_false_iff_ne.2 hpe
      clear H4 hpe
      go_wp2_with (go_at_call 21; (with_reducible refine Calls.mono (works8_any _ Z) ?_); rintro e wk ⟨rfl, hk⟩)
      go_ret
      exact ⟨rfl, E.trans hk⟩
    subst hpe
    by_cases hxe : xe = 0
    rotate_left
    · have gx : (xe == 0) = false := beq_eq_false_iff_ne.2 hxe
      clear H4 hxe
      go_wp2_with (go_at_call 21; (with_reducible refine Calls.mono (works8_any _ Z) ?_); rintro e wk ⟨rfl, hk⟩)
      go_ret
      exact ⟨rfl, E.trans hk⟩
    subst hxe
    by_cases hye : ye = 0
    rotate_left
    · have gy : (ye == 0) = false := beq_eq_false_iff_ne.2 hye
      clear H4 hye
      go_wp2_with (go_at_call 21; (with_reducible refine Calls.mono (works8_any _ Z) ?_); rintro e wk ⟨rfl, hk⟩)
      go_ret
      exact ⟨rfl, E.trans hk⟩
    subst hye
    have h9 := H4.out (by trivial) (by trivial) (by trivial) (by trivial) (by trivial)
    simp only [Rt.mk.injEq] at h9
    obtain ⟨rfl, rfl⟩ := h9
    clear H4
    go_wp2_with (go_at_call 21; (with_reducible refine Calls.mono (works8_any _ Z) ?_); rintro e wk ⟨rfl, hk⟩)
    go_ret
    exact ⟨rfl, E.trans hk⟩
  · have g7 : (k2 == 0) = false := beq_eq_false_iff_ne.2 hk2
    clear H5 g6 hk2
    go_upto_region 21 with (first | (go_at_call 24; (with_reducible refine Calls.mono (NK1 _) ?_); rintro e w6 ⟨rfl, hx⟩; replace E := E.trans hx; replace Z := Z.ext hx; replace B1 := B1.ext hx; replace B2 := B2.ext hx; replace BA := BA.ext hx; replace BB := BB.ext hx; replace BC := BC.ext hx; replace BD := BD.ext hx; replace BS := BS.ext hx; clear hx; clear j0 j1 j2 j3 jl p0 p1 pl xa0 xa1 xal xb0 xb1 xbl xc0 xc1 xcl xd0 xd1 xdl xs0 xs1 xsl; obtain ⟨j0, j1, j2, j3⟩ := B1.c4; have jl := B1.lt; obtain ⟨p0, p1⟩ := B2.c2; have pl := B2.lt; obtain ⟨xa0, xa1⟩ := BA.c2; have xal := BA.lt; obtain ⟨xb0, xb1⟩ := BB.c2; have xbl := BB.lt; obtain ⟨xc0, xc1⟩ := BC.c2; have xcl := BC.lt; obtain ⟨xd0, xd1⟩ := BD.c2; have xdl := BD.lt; obtain ⟨xs0, xs1⟩ := BS.c2; have xsl := BS.lt) | (go_at_call 24; (with_reducible refine Calls.mono (NK2 _) ?_); rintro e w7 ⟨rfl, hx⟩; replace E := E.trans hx; replace Z := Z.ext hx; replace B1 := B1.ext hx; replace B2 := B2.ext hx; replace BA := BA.ext hx; replace BB := BB.ext hx; replace BC := BC.ext hx; replace BD := BD.ext hx; replace BS := BS.ext hx; clear hx; clear j0 j1 j2 j3 jl p0 p1 pl xa0 xa1 xal xb0 xb1 xbl xc0 xc1 xcl xd0 xd1 xdl xs0 xs1 xsl; obtain ⟨j0, j1, j2, j3⟩ := B1.c4; have jl := B1.lt; obtain ⟨p0, p1⟩ := B2.c2; have pl := B2.lt; obtain ⟨xa0, xa1⟩ := BA.c2; have xal := BA.lt; obtain ⟨xb0, xb1⟩ := BB.c2; have xbl := BB.lt; obtain ⟨xc0, xc1⟩ := BC.c2; have xcl := BC.lt; obtain ⟨xd0, xd1⟩ := BD.c2; have xdl := BD.lt; obtain ⟨xs0, xs1⟩ := BS.c2; have xsl := BS.lt) | (go_at_call 24; (with_reducible refine Calls.mono (NK3 _) ?_); rintro e w8 ⟨rfl, hx⟩; replace E := E.trans hx; replace Z := Z.ext hx; replace B1 := B1.ext hx; replace B2 := B2.ext hx; replace BA := BA.ext hx; replace BB := BB.ext hx; replace BC := BC.ext hx; replace BD := BD.ext hx; replace BS := BS.ext hx; clear hx; clear j0 j1 j2 j3 jl p0 p1 pl xa0 xa1 xal xb0 xb1 xbl xc0 xc1 xcl xd0 xd1 xdl xs0 xs1 xsl; obtain ⟨j0, j1, j2, j3⟩ := B1.c4; have jl := B1.lt; obtain ⟨p0, p1⟩ := B2.c2; have pl := B2.lt; obtain ⟨xa0, xa1⟩ := BA.c2; have xal := BA.lt; obtain ⟨xb0, xb1⟩ := BB.c2; have xbl := BB.lt; obtain ⟨xc0, xc1⟩ := BC.c2; have xcl := BC.lt; obtain ⟨xd0, xd1⟩ := BD.c2; have xdl := BD.lt; obtain ⟨xs0, xs1⟩ := BS.c2; have xsl := BS.lt) | (go_at_call 23; (with_reducible refine Calls.mono (NP _ Z) ?_); rintro e w9 ⟨rfl, hx⟩; replace E := E.trans hx; replace Z := Z.ext hx; replace B1 := B1.ext hx; replace B2 := B2.ext hx; replace BA := BA.ext hx; replace BB := BB.ext hx; replace BC := BC.ext hx; replace BD := BD.ext hx; replace BS := BS.ext hx; clear hx; clear j0 j1 j2 j3 jl p0 p1 pl xa0 xa1 xal xb0 xb1 xbl xc0 xc1 xcl xd0 xd1 xdl xs0 xs1 xsl; obtain ⟨j0, j1, j2, j3⟩ := B1.c4; have jl := B1.lt; obtain ⟨p0, p1⟩ := B2.c2; have pl := B2.lt; obtain ⟨xa0, xa1⟩ := BA.c2; have xal := BA.lt; obtain ⟨xb0, xb1⟩ := BB.c2; have xbl := BB.lt; obtain ⟨xc0, xc1⟩ := BC.c2; have xcl := BC.lt; obtain ⟨xd0, xd1⟩ := BD.c2; have xdl := BD.lt; obtain ⟨xs0, xs1⟩ := BS.c2; have xsl := BS.lt))
    obtain ⟨vb51, hv⟩ : ∃ x, x = (w9.alloc (.cells #[.int .i64 pn, .int .i64 pd] 52)) := ⟨_, rfl⟩
    rw [← hv]
    have hx : Ext w9 vb51 := by rw [hv]; exact (Ext.refl _).alloc _
    have BP : Held vb51 w9.heap.size 52 #[.int .i64 pn, .int .i64 pd] := by rw [hv]; exact Held.new _ _ _
    clear hv
    generalize w9.heap.size = bb51 at *
    clear j0 j1 j2 j3 jl p0 p1 pl xa0 xa1 xal xb0 xb1 xbl xc0 xc1 xcl xd0 xd1 xdl xs0 xs1 xsl
    replace E := E.trans hx
    replace Z := Z.ext hx
    replace B1 := B1.ext hx
    replace B2 := B2.ext hx
    replace BA := BA.ext hx
    replace BB := BB.ext hx
    replace BC := BC.ext hx
    replace BD := BD.ext hx
    replace BS := BS.ext hx
    clear hx
    obtain ⟨j0, j1, j2, j3⟩ := B1.c4
    have jl := B1.lt
    obtain ⟨p0, p1⟩ := B2.c2
    have pl := B2.lt
    obtain ⟨xa0, xa1⟩ := BA.c2
    have xal := BA.lt
    obtain ⟨xb0, xb1⟩ := BB.c2
    have xbl := BB.lt
    obtain ⟨xc0, xc1⟩ := BC.c2
    have xcl := BC.lt
    obtain ⟨xd0, xd1⟩ := BD.c2
    have xdl := BD.lt
    obtain ⟨xs0, xs1⟩ := BS.c2
    have xsl := BS.lt
    obtain ⟨xp0, xp1⟩ := BP.c2
    have xpl := BP.lt
    go_upto_region 22 with (go_at_call 22; (with_reducible refine Calls.mono (NX _ Z) ?_); rintro e w10 ⟨rfl, hx⟩; replace E := E.trans hx; replace Z := Z.ext hx; replace B1 := B1.ext hx; replace B2 := B2.ext hx; replace BA := BA.ext hx; replace BB := BB.ext hx; replace BC := BC.ext hx; replace BD := BD.ext hx; replace BS := BS.ext hx; replace BP := BP.ext hx; clear hx; clear j0 j1 j2 j3 jl p0 p1 pl xa0 xa1 xal xb0 xb1 xbl xc0 xc1 xcl xd0 xd1 xdl xs0 xs1 xsl xp0 xp1 xpl; obtain ⟨j0, j1, j2, j3⟩ := B1.c4; have jl := B1.lt; obtain ⟨p0, p1⟩ := B2.c2; have pl := B2.lt; obtain ⟨xa0, xa1⟩ := BA.c2; have xal := BA.lt; obtain ⟨xb0, xb1⟩ := BB.c2; have xbl := BB.lt; obtain ⟨xc0, xc1⟩ := BC.c2; have xcl := BC.lt; obtain ⟨xd0, xd1⟩ := BD.c2; have xdl := BD.lt; obtain ⟨xs0, xs1⟩ := BS.c2; have xsl := BS.lt; obtain ⟨xp0, xp1⟩ := BP.c2; have xpl := BP.lt)
    obtain ⟨vb52, hv⟩ : ∃ x, x = (w10.alloc (.cells #[.int .i64 xn, .int .i64 xd] 52)) := ⟨_, rfl⟩
    rw [← hv]
    have hx : Ext w10 vb52 := by rw [hv]; exact (Ext.refl _).alloc _
    have BX : Held vb52 w10.heap.size 52 #[.int .i64 xn, .int .i64 xd] := by rw [hv]; exact Held.new _ _ _
    clear hv
    generalize w10.heap.size = bb52 at *
    clear j0 j1 j2 j3 jl p0 p1 pl xa0 xa1 xal xb0 xb1 xbl xc0 xc1 xcl xd0 xd1 xdl xs0 xs1 xsl xp0 xp1 xpl
    replace E := E.trans hx
    replace Z := Z.ext hx
    replace B1 := B1.ext hx
    replace B2 := B2.ext hx
    replace BA := BA.ext hx
    replace BB := BB.ext hx
    replace BC := BC.ext hx
    replace BD := BD.ext hx
    replace BS := BS.ext hx
    replace BP := BP.ext hx
    clear hx
    obtain ⟨j0, j1, j2, j3⟩ := B1.c4
    have jl := B1.lt
    obtain ⟨p0, p1⟩ := B2.c2
    have pl := B2.lt
    obtain ⟨xa0, xa1⟩ := BA.c2
    have xal := BA.lt
    obtain ⟨xb0, xb1⟩ := BB.c2
    have xbl := BB.lt
    obtain ⟨xc0, xc1⟩ := BC.c2
    have xcl := BC.lt
    obtain ⟨xd0, xd1⟩ := BD.c2
    have xdl := BD.lt
    obtain ⟨xs0, xs1⟩ := BS.c2
    have xsl := BS.lt
    obtain ⟨xp0, xp1⟩ := BP.c2
    have xpl := BP.lt
    obtain ⟨xx0, xx1⟩ := BX.c2
    have xxl := BX.lt
    go_upto_region 23 with (go_at_call 23; (with_reducible refine Calls.mono (NY _ Z) ?_); rintro e w11 ⟨rfl, hx⟩; replace E := E.trans hx; replace Z := Z.ext hx; replace B1 := B1.ext hx; replace B2 := B2.ext hx; replace BA := BA.ext hx; replace BB := BB.ext hx; replace BC := BC.ext hx; replace BD := BD.ext hx; replace BS := BS.ext hx; replace BP := BP.ext hx; replace BX := BX.ext hx; clear hx; clear j0 j1 j2 j3 jl p0 p1 pl xa0 xa1 xal xb0 xb1 xbl xc0 xc1 xcl xd0 xd1 xdl xs0 xs1 xsl xp0 xp1 xpl xx0 xx1 xxl; obtain ⟨j0, j1, j2, j3⟩ := B1.c4; have jl := B1.lt; obtain ⟨p0, p1⟩ := B2.c2; have pl := B2.lt; obtain ⟨xa0, xa1⟩ := BA.c2; have xal := BA.lt; obtain ⟨xb0, xb1⟩ := BB.c2; have xbl := BB.lt; obtain ⟨xc0, xc1⟩ := BC.c2; have xcl := BC.lt; obtain ⟨xd0, xd1⟩ := BD.c2; have xdl := BD.lt; obtain ⟨xs0, xs1⟩ := BS.c2; have xsl := BS.lt; obtain ⟨xp0, xp1⟩ := BP.c2; have xpl := BP.lt; obtain ⟨xx0, xx1⟩ := BX.c2; have xxl := BX.lt)
    obtain ⟨vb53, hv⟩ : ∃ x, x = (w11.alloc (.cells #[.int .i64 yn, .int .i64 yd] 52)) := ⟨_, rfl⟩
    rw [← hv]
    have hx : Ext w11 vb53 := by rw [hv]; exact (Ext.refl _).alloc _
    have BY : Held vb53 w11.heap.size 52 #[.int .i64 yn, .int .i64 yd] := by rw [hv]; exact Held.new _ _ _
    clear hv
    generalize w11.heap.size = bb53 at *
    clear j0 j1 j2 j3 jl p0 p1 pl xa0 xa1 xal xb0 xb1 xbl xc0 xc1 xcl xd0 xd1 xdl xs0 xs1 xsl xp0 xp1 xpl xx0 xx1 xxl
    replace E := E.trans hx
    replace Z := Z.ext hx
    replace B1 := B1.ext hx
    replace B2 := B2.ext hx
    replace BA := BA.ext hx
    replace BB := BB.ext hx
    replace BC := BC.ext hx
    replace BD := BD.ext hx
    replace BS := BS.ext hx
    replace BP := BP.ext hx
    replace BX := BX.ext hx
    clear hx
    obtain ⟨j0, j1, j2, j3⟩ := B1.c4
    have jl := B1.lt
    obtain ⟨p0, p1⟩ := B2.c2
    have pl := B2.lt
    obtain ⟨xa0, xa1⟩ := BA.c2
    have xal := BA.lt
    obtain ⟨xb0, xb1⟩ := BB.c2
    have xbl := BB.lt
    obtain ⟨xc0, xc1⟩ := BC.c2
    have xcl := BC.lt
    obtain ⟨xd0, xd1⟩ := BD.c2
    have xdl := BD.lt
    obtain ⟨xs0, xs1⟩ := BS.c2
    have xsl := BS.lt
    obtain ⟨xp0, xp1⟩ := BP.c2
    have xpl := BP.lt
    obtain ⟨xx0, xx1⟩ := BX.c2
    have xxl := BX.lt
    obtain ⟨xy0, xy1⟩ := BY.c2
    have xyl := BY.lt
    by_cases hpe : pe = 0
    rotate_left
    · have gp : (pe == 0) = false := beq_eq_false_iff_ne.2 hpe
      clear H4 hpe
      go_wp2_with (go_at_call 21; (with_reducible refine Calls.mono (works8_any _ Z) ?_); rintro e wk ⟨rfl, hk⟩)
      go_ret
      exact ⟨rfl, E.trans hk⟩
    subst hpe
    by_cases hxe : xe = 0
    rotate_left
    · have gx : (xe == 0) = false := beq_eq_false_iff_ne.2 hxe
      clear H4 hxe
      go_wp2_with (go_at_call 21; (with_reducible refine Calls.mono (works8_any _ Z) ?_); rintro e wk ⟨rfl, hk⟩)
      go_ret
      exact ⟨rfl, E.trans hk⟩
    subst hxe
    by_cases hye : ye = 0
    rotate_left
    · have gy : (ye == 0) = false := beq_eq_false_iff_ne.2 hye
      clear H4 hye
      go_wp2_with (go_at_call 21; (with_reducible refine Calls.mono (works8_any _ Z) ?_); rintro e wk ⟨rfl, hk⟩)
      go_ret
      exact ⟨rfl, E.trans hk⟩
    subst hye
    have h9 := H4.out (by trivial) (by trivial) (by trivial) (by trivial) (by trivial)
    simp only [Rt.mk.injEq] at h9
    obtain ⟨rfl, rfl⟩ := h9
    clear H4
    go_wp2_with (go_at_call 21; (with_reducible refine Calls.mono (works8_any _ Z) ?_); rintro e wk ⟨rfl, hk⟩)
    go_ret
    exact ⟨rfl, E.trans hk⟩

end Go.Proofs.YtlnjeklmkjgidaaDoor
