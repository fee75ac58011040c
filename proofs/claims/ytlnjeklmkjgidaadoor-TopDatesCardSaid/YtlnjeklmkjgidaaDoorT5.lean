/- Walks of the program's functions and plain facts, packed; proved: the lemmas below; no conditions but those that each states. -/
import Derived.Test.YtlnjeklmkjgidaaDoorT4
import Derived.Test.YtlnjeklmkjgidaaDoorT3
import Derived.Deep.OwnRows
import Derived.Laws.MakeOwn
import Derived.Laws.EntriesVeiled
import Derived.Sort.Walk0
import Derived.Laws.StructEq
import Derived.Test.YtlnjeklmkjgidaaDoorShelf
import Derived.Lib.ConvBytes
import Derived.Laws.BytesArg
namespace Go.Proofs.YtlnjeklmkjgidaaDoor

/-! ### Days and schematic days -/
theorem numV_zero {c : Cal} {d : Dt} (hv : c.valid = true) : c.numV d = 0 ↔ c.has d = false := by
  unfold Cal.numV Cal.inE
  rw [if_pos hv]
  cases h : c.has d
  · simp
  · have := (num_in h).1
    simp; omega
theorem numV_has {c : Cal} {d : Dt} (hv : c.valid = true) (h : c.numV d ≠ 0) : c.has d = true ∧ c.numV d = (c.num d).1 ∧ 1 ≤ c.numV d := by
  have hh : c.has d = true := by
    cases e : c.has d
    · exact absurd ((numV_zero hv).2 e) h
    · rfl
  have e : c.numV d = (c.num d).1 := by unfold Cal.numV Cal.inE; rw [if_pos hv, hh]; rfl
  exact ⟨hh, e, by rw [e]; exact (num_in hh).1⟩
theorem sch_of {c : Cal} {a b : Dt} (hv : c.valid = true) (ha : c.has a = true) (hb : c.has b = true) : c.schV a b = 30 * ((c.num b).2 - (c.num a).2) + b.d - a.d := by
  unfold Cal.schV Cal.in2E; rw [if_pos hv, ha, hb]; rfl
theorem sch_self {c : Cal} {a : Dt} (hv : c.valid = true) (ha : c.numV a ≠ 0) : c.schV a a = 0 := by
  obtain ⟨ka, _, _⟩ := numV_has hv ha
  rw [sch_of hv ka ka]; omega

/-! ### Ratios that exist are what comes out -/
theorem ratV_repr {n d : Int} {x : Rt} (hd : 1 ≤ d) (hx : x.ok = true) (h : isV x n d) : ratV n d = (x, 0) := by
  obtain ⟨x1, x2, x3, x4, x5⟩ := ok_bd hx
  unfold isV at h
  unfold ratV
  rw [if_neg (by omega)]
  have e : x.n.natAbs * d.natAbs = n.natAbs * x.d.natAbs := by rw [← Int.natAbs_mul, ← Int.natAbs_mul, h]
  rw [quo_low (p := x.n.natAbs) (q := x.d.natAbs) (by omega) (by omega) x5 e, if_pos (by omega)]
  have hs : (n < 0) = (x.n < 0) := by
    refine propext ⟨fun hn => ?_, fun hn => ?_⟩
    · have : n * x.d < 0 := Int.mul_neg_of_neg_of_pos hn (by omega)
      rcases Int.lt_or_le x.n 0 with h0 | h0
      · exact h0
      · have := Int.mul_nonneg h0 (show 0 ≤ d by omega)
        omega
    · have : x.n * d < 0 := Int.mul_neg_of_neg_of_pos hn (by omega)
      rcases Int.lt_or_le n 0 with h0 | h0
      · exact h0
      · have := Int.mul_nonneg h0 (show 0 ≤ x.d by omega)
        omega
  rw [decide_eq_false (show ¬ d < 0 by omega)]
  simp only [hs, Bool.bne_false]
  by_cases h0 : x.n < 0
  · rw [decide_eq_true h0]
    simp only [if_true]
    rw [show -((x.n.natAbs : Nat) : Int) = x.n by omega, show ((x.d.natAbs : Nat) : Int) = x.d by omega]
  · rw [decide_eq_false h0]
    simp only [Bool.false_eq_true, if_false]
    rw [show ((x.n.natAbs : Nat) : Int) = x.n by omega, show ((x.d.natAbs : Nat) : Int) = x.d by omega]
theorem isV_of_val {x : Rt} {N D : Int} (hx : 1 ≤ x.d) (hD : 1 ≤ D) (h : x.val = (N : Rat) / (D : Rat)) : isV x N D := by
  have h1 := rat_pos hx
  have h2 := rat_pos hD
  unfold Rt.val at h
  have a1 : (x.d : Rat) ≠ 0 := by grind
  have a2 : (D : Rat) ≠ 0 := by grind
  have h3 : (x.n : Rat) * (D : Rat) = (N : Rat) * (x.d : Rat) := by grind
  unfold isV
  exact_mod_cast h3
theorem addR_repr {a b x : Rt} (ha : a.ok = true) (hb : b.ok = true) (hx : x.ok = true) (h : x.val = a.val + b.val) : addR a b = (x, 0) := by
  have hd := (ok_mul ha hb).2.2.1
  unfold addR
  rw [ha, hb]
  refine ratV_repr hd hx (isV_of_val (ok_bd hx).1 hd ?_)
  have h1 := rat_pos (ok_bd ha).1
  have h2 := rat_pos (ok_bd hb).1
  have a1 : (a.d : Rat) ≠ 0 := by grind
  have a2 : (b.d : Rat) ≠ 0 := by grind
  rw [h, Rat.intCast_add, Rat.intCast_mul, Rat.intCast_mul, Rat.intCast_mul]
  unfold Rt.val
  grind
theorem nn_val {r : Rt} (h : r.ok = true) : 0 ≤ r.n ↔ (0 : Rat) ≤ r.val := by
  have h1 := rat_pos (ok_bd h).1
  have e : r.val < 0 ↔ r.n < 0 := by
    unfold Rt.val
    rw [Rat.div_lt_iff h1, Rat.zero_mul]
    constructor
    · intro h; exact_mod_cast h
    · intro h; exact_mod_cast h
  rw [← Rat.not_lt, e]
  omega
theorem zero_ok : (ratW 0).ok = true := whole_ok (by decide) (by decide)
theorem zero_val : (ratW 0).val = 0 := by rw [ratW_val]; rfl
/-- No interest is borne by nothing, or in no days. -/
theorem intV_zero {p r : Rt} {k : Int} (hp : p.nn = true) (hr : r.nn = true) (h1 : 0 ≤ k) (h2 : k ≤ 1099511627776) (h : p.n = 0 ∨ k = 0) : intV p r k = (ratW 0, 0) := by
  obtain ⟨p1, p2⟩ := nn_parts hp
  obtain ⟨r1, r2⟩ := nn_parts hr
  have pd := (ok_bd p1).1
  have rd := (ok_bd r1).1
  unfold intV mulsV
  rw [hp, hr]
  simp only [Bool.and_self, if_true]
  rw [if_neg (by omega)]
  have hz : upTo (fun i => (fact4 p r k i).n.natAbs) 4 = 0 := by
    refine (upTo_zero_iff 4).2 ?_
    rcases h with h | h
    · exact ⟨0, by decide, by show p.n.natAbs = 0; omega⟩
    · exact ⟨2, by decide, by show k.natAbs = 0; omega⟩
  have hq : 1 ≤ upTo (fun i => (fact4 p r k i).d.natAbs) 4 := by
    refine upTo_pos 4 fun i hi => ?_
    have h3 : i = 0 ∨ i = 1 ∨ i = 2 ∨ i = 3 := by omega
    rcases h3 with rfl | rfl | rfl | rfl
    · show 1 ≤ p.d.natAbs; omega
    · show 1 ≤ r.d.natAbs; omega
    · exact Nat.le_refl _
    · show 1 ≤ (360 : Int).natAbs; decide
  rw [hz]
  exact quo_zero hq
theorem intV_nn {p r : Rt} {k : Int} (h : (intV p r k).2 = 0) : (intV p r k).1.nn = true := by
  obtain ⟨h1, h2, h3, _, h5, h6⟩ := intV_ok h
  have hD := intV_d (nn_parts h1).1 (nn_parts h2).1
  have hn : 0 ≤ p.n * r.n * k := Int.mul_nonneg (Int.mul_nonneg (nn_parts h1).2 (nn_parts h2).2) h3
  unfold Rt.nn
  rw [h5]
  simp only [Bool.true_and, decide_eq_true_eq]
  unfold isV at h6
  rcases Int.lt_or_le (intV p r k).1.n 0 with h0 | h0
  · have := Int.mul_neg_of_neg_of_pos h0 hD
    have := Int.mul_nonneg hn (show 0 ≤ (intV p r k).1.d by have := (ok_bd h5).1; omega)
    omega
  · exact h0
theorem nn_mk {r : Rt} (h : r.ok = true) (h2 : (0 : Rat) ≤ r.val) : r.nn = true := by
  unfold Rt.nn; rw [h]; simpa using (nn_val h).2 h2
theorem nn_ge {r : Rt} (h : r.nn = true) : (0 : Rat) ≤ r.val := (nn_val (nn_parts h).1).1 (nn_parts h).2
theorem addR_nn {a b : Rt} (h : (addR a b).2 = 0) (ha : a.nn = true) (hb : b.nn = true) : (addR a b).1.nn = true := by
  have h1 := nn_ge ha
  have h2 := nn_ge hb
  exact nn_mk (addR_ok h).2.2.1 (by rw [addR_val h]; grind)
structure Db.Nn (x : Db) : Prop where
  p : x.p.nn = true
  i : x.i.nn = true
  s : x.s.nn = true
/-- What a payment does. -/
theorem payV_ok {x n : Rt} (hx : x.nn = true) (hn : n.nn = true) (h : (payV x n).2 = 0) :
    (payV x n).1.1.nn = true ∧ (payV x n).1.2.nn = true ∧ (payV x n).1.1.val - (payV x n).1.2.val = x.val - n.val ∧ ((payV x n).1.1 = ratW 0 ∨ (payV x n).1.2 = ratW 0) ∧ (n = ratW 0 → (payV x n).1.1 = x) := by
  have x1 := (nn_parts hx).1
  have n1 := (nn_parts hn).1
  have gx := nn_ge hx
  have gn := nn_ge hn
  have hc := cmp_lt n1 x1
  unfold payV at h ⊢
  by_cases hl : (cmpR n x).1 < 0
  · rw [if_pos hl] at h ⊢
    simp only at h ⊢
    have hv := subR_val h
    have hlt := hc.1 hl
    refine ⟨nn_mk (subR_ok h).2.2.1 (by rw [hv]; grind), nn_mk zero_ok (by rw [zero_val]; exact Rat.le_refl), by rw [hv, zero_val]; grind, .inr trivial, fun e => ?_⟩
    refine val_inj (subR_ok h).2.2.1 x1 ?_
    rw [hv, e, zero_val]; grind
  · rw [if_neg hl] at h ⊢
    simp only at h ⊢
    have hv := subR_val h
    have hle : x.val ≤ n.val := Rat.not_lt.1 (fun hh => hl (hc.2 hh))
    refine ⟨nn_mk zero_ok (by rw [zero_val]; exact Rat.le_refl), nn_mk (subR_ok h).2.2.1 (by rw [hv]; grind), by rw [hv, zero_val]; grind, .inl trivial, fun e => ?_⟩
    refine (val_inj x1 zero_ok ?_).symm
    rw [e, zero_val] at hle
    rw [zero_val]
    grind
theorem accV_ok {c : Cal} {r : Rt} {x : Db} {a b : Dt} (h : (accV c r x a b).2 = 0) (hx : x.Nn) : (accV c r x a b).1.Nn ∧ (accV c r x a b).1.p = x.p ∧ (accV c r x a b).1.s = x.s := by
  unfold accV at *
  by_cases h1 : (intV x.p r (c.schV a b)).2 ≠ 0
  · rw [if_pos h1] at h; exact absurd h h1
  · rw [if_neg h1] at h ⊢
    by_cases h2 : (addR x.i (intV x.p r (c.schV a b)).1).2 ≠ 0
    · rw [if_pos h2] at h; exact absurd h h2
    · rw [if_neg h2] at h ⊢
      exact ⟨⟨hx.p, addR_nn (Decidable.not_not.1 h2) hx.i (intV_nn (Decidable.not_not.1 h1)), hx.s⟩, rfl, rfl⟩
theorem paidV_ok {x : Db} {n : Rt} (h : (paidV x n).2 = 0) (hx : x.Nn) (hn : n.nn = true) :
    (paidV x n).1.Nn ∧ (x.p.val + x.i.val - x.s.val) - ((paidV x n).1.p.val + (paidV x n).1.i.val - (paidV x n).1.s.val) = n.val ∧
      ((paidV x n).1.i ≠ ratW 0 → (paidV x n).1.p = x.p) ∧ ((paidV x n).1.s ≠ x.s → (paidV x n).1.p = ratW 0 ∧ (paidV x n).1.i = ratW 0) := by
  unfold paidV at *
  by_cases h1 : (payV x.i n).2 ≠ 0
  · rw [if_pos h1] at h; exact absurd h h1
  · rw [if_neg h1] at h ⊢
    by_cases h2 : (payV x.p (payV x.i n).1.2).2 ≠ 0
    · rw [if_pos h2] at h; exact absurd h h2
    · rw [if_neg h2] at h ⊢
      by_cases h3 : (addR x.s (payV x.p (payV x.i n).1.2).1.2).2 ≠ 0
      · rw [if_pos h3] at h; exact absurd h h3
      · rw [if_neg h3] at h ⊢
        replace h1 := Decidable.not_not.1 h1
        replace h2 := Decidable.not_not.1 h2
        replace h3 := Decidable.not_not.1 h3
        obtain ⟨a1, a2, a3, a4, a5⟩ := payV_ok hx.i hn h1
        generalize (payV x.i n).1.1 = i' at *
        generalize (payV x.i n).1.2 = m1 at *
        obtain ⟨b1, b2, b3, b4, b5⟩ := payV_ok hx.p a2 h2
        generalize (payV x.p m1).1.1 = p' at *
        generalize (payV x.p m1).1.2 = m2 at *
        have s1 := addR_nn h3 hx.s b2
        have s2 := addR_val h3
        refine ⟨⟨b1, a1, s1⟩, ?_, fun hi => ?_, fun hs => ?_⟩
        · simp only; rw [s2]; grind
        · simp only at hi ⊢
          rcases a4 with e | e
          · exact absurd e hi
          · exact b5 e
        · simp only at hs ⊢
          have hm2 : m2 ≠ ratW 0 := fun e => hs (val_inj (addR_ok h3).2.2.1 (nn_parts hx.s).1 (by rw [s2, e, zero_val]; grind))
          have hp : p' = ratW 0 := by
            rcases b4 with e | e
            · exact e
            · exact absurd e hm2
          refine ⟨hp, ?_⟩
          rcases a4 with e | e
          · exact e
          · exfalso
            have gp := nn_ge hx.p
            have g2 := nn_ge b2
            rw [hp, e, zero_val] at b3
            refine hm2 (val_inj (nn_parts b2).1 zero_ok ?_)
            rw [zero_val]
            grind

/-! ### The payments, one after the other -/
def afterN (c : Cal) (l : Ln) (f : Nat → Pay) : Nat → Db × Int
  | 0 => (start l, 0)
  | k + 1 => if (afterN c l f k).2 ≠ 0 then afterN c l f k
    else if (accV c l.r (afterN c l f k).1 (lastOn l f k) (f k).on).2 ≠ 0 then accV c l.r (afterN c l f k).1 (lastOn l f k) (f k).on
    else paidV (accV c l.r (afterN c l f k).1 (lastOn l f k) (f k).on).1 (f k).n
theorem run_split (c : Cal) (l : Ln) (f : Nat → Pay) (on : Dt) (n : Nat) (h : ∀ j, j < n → c.numV (f j).on ≤ c.numV on) :
    ∀ m k, k + m = n → (afterN c l f k).2 = 0 → owedRun c l.r f on k m (afterN c l f k).1 (lastOn l f k) = if (afterN c l f n).2 ≠ 0 then afterN c l f n else accV c l.r (afterN c l f n).1 (lastOn l f n) on := by
  have hstay : ∀ m k, (afterN c l f k).2 ≠ 0 → afterN c l f (k + m) = afterN c l f k := by
    intro m
    induction m with
    | zero => intro k _; rfl
    | succ m ih =>
      intro k hk
      rw [← Nat.add_assoc, afterN, if_pos (by rw [ih k hk]; exact hk), ih k hk]
  intro m
  induction m with
  | zero =>
    intro k hk h0
    obtain rfl : k = n := by omega
    rw [if_neg (by rw [h0]; decide)]; rfl
  | succ m ih =>
    intro k hk h0
    have hd := h k (by omega)
    rw [owedRun, if_neg (by omega)]
    have hs : afterN c l f (k + 1) = if (accV c l.r (afterN c l f k).1 (lastOn l f k) (f k).on).2 ≠ 0 then accV c l.r (afterN c l f k).1 (lastOn l f k) (f k).on
        else paidV (accV c l.r (afterN c l f k).1 (lastOn l f k) (f k).on).1 (f k).n := by rw [afterN, if_neg (by rw [h0]; decide)]
    by_cases h1 : (accV c l.r (afterN c l f k).1 (lastOn l f k) (f k).on).2 ≠ 0
    · rw [if_pos h1] at hs ⊢
      have e := hstay m (k + 1) (by rw [hs]; exact h1)
      rw [show k + 1 + m = n by omega] at e
      rw [e, hs, if_pos h1]
    · rw [if_neg h1] at hs ⊢
      rw [← hs]
      by_cases h2 : (afterN c l f (k + 1)).2 ≠ 0
      · rw [if_pos h2]
        have e := hstay m (k + 1) h2
        rw [show k + 1 + m = n by omega] at e
        rw [e, if_pos h2]
      · rw [if_neg h2]
        exact ih (k + 1) (by omega) (Decidable.not_not.1 h2)
theorem run_all {c : Cal} {l : Ln} {f : Nat → Pay} {on : Dt} {n : Nat} (h : ∀ j, j < n → c.numV (f j).on ≤ c.numV on) :
    owedRun c l.r f on 0 n (start l) l.f = if (afterN c l f n).2 ≠ 0 then afterN c l f n else accV c l.r (afterN c l f n).1 (lastOn l f n) on :=
  run_split c l f on n h n 0 (by omega) rfl
theorem loanOk_parts {c : Cal} {l : Ln} {f : Nat → Pay} {n : Nat} (h : c.loanOk l f n = true) : l.p.pos = true ∧ l.r.shr = true ∧ c.numV l.f ≠ 0 ∧ ∀ i, i < n → (f i).n.pos = true ∧ c.numV (lastOn l f i) ≤ c.numV (f i).on := by
  simp only [Cal.loanOk, Bool.and_eq_true, decide_eq_true_eq, List.all_eq_true, List.mem_range] at h
  exact ⟨h.1.1.1, h.1.1.2, h.1.2, fun i hi => h.2 i hi⟩
theorem pos_nn {r : Rt} (h : r.pos = true) : r.nn = true := by
  simp only [Rt.pos, Rt.nn, Bool.and_eq_true, decide_eq_true_eq] at *
  exact ⟨h.1, by omega⟩
theorem shr_nn {r : Rt} (h : r.shr = true) : r.nn = true := by
  simp only [Rt.shr, Rt.nn, Bool.and_eq_true, decide_eq_true_eq] at *
  exact ⟨h.1.1, h.1.2⟩
theorem loan_sorted {c : Cal} {l : Ln} {f : Nat → Pay} {n : Nat} (hv : c.valid = true) (h : c.loanOk l f n = true) : ∀ i, i ≤ n → (1 ≤ c.numV (lastOn l f i) ∧ c.numV l.f ≤ c.numV (lastOn l f i) ∧ ∀ j, j < i → c.numV (f j).on ≤ c.numV (lastOn l f i)) := by
  obtain ⟨_, _, h3, h4⟩ := loanOk_parts h
  intro i
  induction i with
  | zero => intro _; exact ⟨(numV_has hv h3).2.2, Int.le_refl _, fun j hj => absurd hj (by omega)⟩
  | succ i ih =>
    intro hi
    obtain ⟨k1, k2, k3⟩ := ih (by omega)
    have h5 := (h4 i (by omega)).2
    show 1 ≤ c.numV (f i).on ∧ c.numV l.f ≤ c.numV (f i).on ∧ _
    refine ⟨by omega, by omega, fun j hj => ?_⟩
    show c.numV (f j).on ≤ c.numV (f i).on
    by_cases e : j = i
    · rw [e]; exact Int.le_refl _
    · have := k3 j (by omega); omega
theorem after_nn {c : Cal} {l : Ln} {f : Nat → Pay} {n : Nat} (h : c.loanOk l f n = true) : ∀ i, i ≤ n → (afterN c l f i).2 = 0 → (afterN c l f i).1.Nn := by
  obtain ⟨h1, _, _, h4⟩ := loanOk_parts h
  have hz := nn_mk zero_ok (by rw [zero_val]; exact Rat.le_refl)
  intro i
  induction i with
  | zero => intro _ _; exact ⟨pos_nn h1, hz, hz⟩
  | succ i ih =>
    intro hi h0
    rw [afterN] at h0 ⊢
    by_cases a0 : (afterN c l f i).2 ≠ 0
    · rw [if_pos a0] at h0; exact absurd h0 a0
    · rw [if_neg a0] at h0 ⊢
      have k := ih (by omega) (Decidable.not_not.1 a0)
      by_cases a1 : (accV c l.r (afterN c l f i).1 (lastOn l f i) (f i).on).2 ≠ 0
      · rw [if_pos a1] at h0; exact absurd h0 a1
      · rw [if_neg a1] at h0 ⊢
        exact (paidV_ok h0 (accV_ok (Decidable.not_not.1 a1) k).1 (pos_nn (h4 i (by omega)).1)).1
theorem accV_still {c : Cal} {r : Rt} {x : Db} {a b : Dt} (hx : x.Nn) (hr : r.nn = true) (h1 : 0 ≤ c.schV a b) (h2 : c.schV a b ≤ 1099511627776) (h : x.p.n = 0 ∨ c.schV a b = 0) : accV c r x a b = (x, 0) := by
  unfold accV
  rw [intV_zero hx.p hr h1 h2 h, if_neg (by decide), addR_repr (x := x.i) (nn_parts hx.i).1 zero_ok (nn_parts hx.i).1 (by rw [zero_val]; grind), if_neg (by simp)]

/-! ### What the laws say -/
theorem owed_all {c : Cal} {l : Ln} {f : Nat → Pay} {n : Nat} {on : Dt} (hd : ∀ j, j < n → c.numV (f j).on ≤ c.numV on) (h : (c.owedV l f n on).2 = 0) :
    (afterN c l f n).2 = 0 ∧ (accV c l.r (afterN c l f n).1 (lastOn l f n) on).2 = 0 ∧ (c.owedV l f n on).1 = (accV c l.r (afterN c l f n).1 (lastOn l f n) on).1 ∧ c.loanE l f n = 0 ∧ c.numV on ≠ 0 ∧ c.numV l.f ≤ c.numV on := by
  unfold Cal.owedV at *
  by_cases h1 : c.loanE l f n ≠ 0
  · rw [if_pos h1] at h; exact absurd h h1
  · rw [if_neg h1] at h ⊢
    by_cases h2 : c.numV on = 0
    · rw [if_pos h2] at h; exact absurd h (by decide)
    · rw [if_neg h2] at h ⊢
      by_cases h3 : c.numV on < c.numV l.f
      · rw [if_pos h3] at h; exact absurd h (by decide)
      · rw [if_neg h3] at h ⊢
        rw [run_all hd] at h ⊢
        by_cases h4 : (afterN c l f n).2 ≠ 0
        · rw [if_pos h4, if_pos h4] at h; exact absurd h h4
        · rw [if_neg h4] at h ⊢
          by_cases h5 : (accV c l.r (afterN c l f n).1 (lastOn l f n) on).2 ≠ 0
          · rw [if_pos h5] at h; exact absurd h h5
          · rw [if_neg h5]
            exact ⟨Decidable.not_not.1 h4, Decidable.not_not.1 h5, rfl, Decidable.not_not.1 h1, h2, by omega⟩
theorem loanE_ok {c : Cal} {l : Ln} {f : Nat → Pay} {n : Nat} (h : c.loanE l f n = 0) : c.valid = true ∧ n ≤ 64 ∧ c.loanOk l f n = true := by
  unfold Cal.loanE at h
  cases hv : c.valid
  · rw [hv, if_neg (by decide)] at h; exact absurd h (by decide)
  · rw [hv, if_pos rfl] at h
    by_cases hn : 64 < n
    · rw [if_pos hn] at h; exact absurd h (by decide)
    · rw [if_neg hn] at h
      cases hl : c.loanOk l f n
      · rw [hl] at h; exact absurd h (by decide)
      · exact ⟨rfl, by omega, rfl⟩
/-- Principal plus interest minus surplus. -/
def totD (x : Db) : Rt × Bool := if (addR x.p x.i).2 ≠ 0 then (rat0, false) else ((subR (addR x.p x.i).1 x.s).1, decide ((subR (addR x.p x.i).1 x.s).2 = 0))
theorem totD_val {x : Db} (h : (totD x).2 = true) : (totD x).1.val = x.p.val + x.i.val - x.s.val ∧ (totD x).1.ok = true := by
  unfold totD at *
  by_cases h1 : (addR x.p x.i).2 ≠ 0
  · rw [if_pos h1] at h; exact absurd h (by decide)
  · rw [if_neg h1] at h ⊢
    have h2 := of_decide_eq_true h
    exact ⟨by rw [subR_val h2, addR_val (Decidable.not_not.1 h1)], (subR_ok h2).2.2.1⟩
theorem kept {c : Cal} {l : Ln} {f : Nat → Pay} {n i : Nat} (hE : c.loanE l f n = 0) (hi : i < n) (h1 : (c.owedV l f i (f i).on).2 = 0) (h2 : (c.owedV l f (i + 1) (f i).on).2 = 0) :
    (c.owedV l f i (f i).on).1.Nn ∧ (c.owedV l f (i + 1) (f i).on).1.Nn ∧
    ((totD (c.owedV l f i (f i).on).1).2 = true → (totD (c.owedV l f (i + 1) (f i).on).1).2 = true → (subR (totD (c.owedV l f i (f i).on).1).1 (totD (c.owedV l f (i + 1) (f i).on).1).1).2 = 0 → (subR (totD (c.owedV l f i (f i).on).1).1 (totD (c.owedV l f (i + 1) (f i).on).1).1).1 = (f i).n) ∧
    (0 < (c.owedV l f (i + 1) (f i).on).1.i.n → (c.owedV l f (i + 1) (f i).on).1.p = (c.owedV l f i (f i).on).1.p) ∧
    ((c.owedV l f (i + 1) (f i).on).1.s ≠ (c.owedV l f i (f i).on).1.s → ¬ 0 < (c.owedV l f (i + 1) (f i).on).1.p.n ∧ ¬ 0 < (c.owedV l f (i + 1) (f i).on).1.i.n) := by
  obtain ⟨hv, _, hl⟩ := loanE_ok hE
  have hs := loan_sorted hv hl
  obtain ⟨_, hr, _, h4⟩ := loanOk_parts hl
  have ho : c.numV (f i).on ≠ 0 := by have := (hs (i + 1) (by omega)).1; show c.numV (lastOn l f (i + 1)) ≠ 0; omega
  have hd1 : ∀ j, j < i → c.numV (f j).on ≤ c.numV (f i).on := fun j hj => (hs (i + 1) (by omega)).2.2 j (by omega)
  have hd2 : ∀ j, j < i + 1 → c.numV (f j).on ≤ c.numV (f i).on := fun j hj => (hs (i + 1) (by omega)).2.2 j hj
  obtain ⟨a1, a2, a3, _⟩ := owed_all hd1 h1
  obtain ⟨b1, b2, b3, _⟩ := owed_all hd2 h2
  have k := after_nn hl i (by omega) a1
  have k1 := accV_ok a2 k
  have hb : afterN c l f (i + 1) = paidV (accV c l.r (afterN c l f i).1 (lastOn l f i) (f i).on).1 (f i).n := by
    rw [afterN, if_neg (by rw [a1]; decide), if_neg (by rw [a2]; decide)]
  rw [a3, b3]
  rw [hb] at b1 b2 ⊢
  have hp := pos_nn (h4 i hi).1
  obtain ⟨p1, p2, p3, p4⟩ := paidV_ok b1 k1.1 hp
  generalize (accV c l.r (afterN c l f i).1 (lastOn l f i) (f i).on).1 = X at *
  generalize (paidV X (f i).n).1 = Y at *
  have hz := sch_self hv ho
  have hst : accV c l.r Y (lastOn l f (i + 1)) (f i).on = (Y, 0) := accV_still p1 (shr_nn hr) (by show 0 ≤ c.schV (f i).on (f i).on; omega) (by show c.schV (f i).on (f i).on ≤ _; omega) (.inr hz)
  rw [hst]
  simp only
  refine ⟨k1.1, p1, fun t1 t2 t3 => ?_, fun hi0 => p3 (fun e => by rw [e] at hi0; exact absurd hi0 (by decide)), fun hs0 => ?_⟩
  · obtain ⟨v1, _⟩ := totD_val t1
    obtain ⟨v2, _⟩ := totD_val t2
    refine val_inj (subR_ok t3).2.2.1 (nn_parts hp).1 ?_
    rw [subR_val t3, v1, v2, p2]
  · obtain ⟨e1, e2⟩ := p4 hs0
    rw [e1, e2]
    exact ⟨by decide, by decide⟩
end Go.Proofs.YtlnjeklmkjgidaaDoor

namespace Go.Proofs.YtlnjeklmkjgidaaDoor
open Go Go.RowKit Go.Shelf
attribute [local go_sem] gv_yes

section
variable {W : World} {b : Nat} {t : TypeId} {v0 v1 v2 v3 v4 v5 v6 v7 v8 v9 v10 : Value}
theorem Held.c11 (h : Held W b t #[v0, v1, v2, v3, v4, v5, v6, v7, v8, v9, v10]) : W.cell? ⟨b, 0, none⟩ = some v0 ∧ W.cell? ⟨b, 1, none⟩ = some v1 ∧ W.cell? ⟨b, 2, none⟩ = some v2 ∧ W.cell? ⟨b, 3, none⟩ = some v3 ∧ W.cell? ⟨b, 4, none⟩ = some v4 ∧ W.cell? ⟨b, 5, none⟩ = some v5 ∧ W.cell? ⟨b, 6, none⟩ = some v6 ∧ W.cell? ⟨b, 7, none⟩ = some v7 ∧ W.cell? ⟨b, 8, none⟩ = some v8 ∧ W.cell? ⟨b, 9, none⟩ = some v9 ∧ W.cell? ⟨b, 10, none⟩ = some v10 := ⟨h.cell 0, h.cell 1, h.cell 2, h.cell 3, h.cell 4, h.cell 5, h.cell 6, h.cell 7, h.cell 8, h.cell 9, h.cell 10⟩
end
end Go.Proofs.YtlnjeklmkjgidaaDoor

namespace Go.Proofs.YtlnjeklmkjgidaaDoor
open Go Go.RowKit Go.Shelf
attribute [local go_sem] gv_yes

end Go.Proofs.YtlnjeklmkjgidaaDoor

namespace Go.Proofs.YtlnjeklmkjgidaaDoor

structure Hrd where
  e : Int
  r : Int
  l : Int
  deriving DecidableEq
def nOk (n : Int) : Bool := decide (0 ≤ n) && decide (n ≤ 1048576)
def Hrd.ok (h : Hrd) : Bool := nOk h.e && nOk h.r && nOk h.l
end Go.Proofs.YtlnjeklmkjgidaaDoor

namespace Go.Proofs.YtlnjeklmkjgidaaDoor
open Go Go.RowKit Go.Shelf
attribute [local go_sem] gv_yes

section
variable {W w : World} {b : Nat} {t : TypeId} {v0 v1 v2 : Value}
end
end Go.Proofs.YtlnjeklmkjgidaaDoor

namespace Go.Proofs.YtlnjeklmkjgidaaDoor

/-- The day n is in the calendar and fits. -/
def Cal.Fit (c : Cal) (t : Tr) (n : Int) : Prop := ∃ d, c.at? n = some d ∧ c.fits t d = true
/-- l is what fits of the days before e. -/
structure Good (F : Int → Prop) (l : List Sp) (e : Int) : Prop where
  ok : ∀ s, s ∈ l → 1 ≤ s.a ∧ s.a ≤ s.b ∧ s.b < e
  pw : l.Pairwise (fun s s' => s.b + 2 ≤ s'.a)
  cover : ∀ n, 1 ≤ n → n < e → (F n ↔ ∃ s, s ∈ l ∧ s.a ≤ n ∧ n ≤ s.b)
namespace Good
variable {F : Int → Prop} {l : List Sp} {e : Int}
theorem nil (F : Int → Prop) : Good F [] 1 := ⟨fun _ h => (by cases h), List.Pairwise.nil, fun n h1 h2 => by omega⟩
theorem skip (h : Good F l e) (hF : ¬ F e) : Good F l (e + 1) := by
  refine ⟨fun s hs => ?_, h.pw, fun n h1 h2 => ?_⟩
  · have := h.ok s hs; omega
  · by_cases hn : n = e
    · subst hn
      refine ⟨fun hf => absurd hf hF, fun ⟨s, hs, h3, h4⟩ => ?_⟩
      have := h.ok s hs; omega
    · exact h.cover n h1 (by omega)
theorem add (h : Good F l e) (h1 : 1 ≤ e) (hF : F e) : Good F (addDay l e) (e + 1) := by
  unfold addDay
  cases hl : l.getLast? with
  | none =>
    have : l = [] := List.getLast?_eq_none_iff.1 hl
    subst this
    refine ⟨fun s hs => ?_, List.pairwise_singleton _ _, fun n h2 h3 => ?_⟩
    · rw [List.mem_singleton] at hs; subst hs; simp only; omega
    · by_cases hn : n = e
      · subst hn; exact ⟨fun _ => ⟨_, List.mem_singleton.2 rfl, Int.le_refl _, Int.le_refl _⟩, fun _ => hF⟩
      · rw [h.cover n h2 (by omega)]
        refine ⟨fun ⟨s, hs, _⟩ => (by cases hs), fun ⟨s, hs, h4, h5⟩ => ?_⟩
        rw [List.mem_singleton] at hs; subst hs; simp only at h4 h5; omega
  | some z =>
    have hz : l = l.dropLast ++ [z] := by
      have hne : l ≠ [] := fun h0 => by subst h0; cases hl
      rw [List.getLast?_eq_some_getLast hne] at hl
      rw [← Option.some.inj hl]; exact (List.dropLast_concat_getLast hne).symm
    have hzl : z ∈ l := by rw [hz]; simp
    have hok := h.ok z hzl
    have hpw := h.pw
    simp only
    split
    · rename_i hb
      rw [hz, List.pairwise_append] at hpw
      refine ⟨fun s hs => ?_, ?_, fun n h2 h3 => ?_⟩
      · rcases List.mem_append.1 hs with hs | hs
        · have := h.ok s (List.dropLast_subset _ hs); omega
        · rw [List.mem_singleton] at hs; subst hs; simp only; omega
      · rw [List.pairwise_append]
        exact ⟨hpw.1, List.pairwise_singleton _ _, fun s hs s' hs' => by
          rw [List.mem_singleton] at hs'; subst hs'
          exact hpw.2.2 s hs z (by simp)⟩
      · by_cases hn : n = e
        · subst hn; exact ⟨fun _ => ⟨⟨z.a, n⟩, by simp, by simp only; omega, Int.le_refl _⟩, fun _ => hF⟩
        · rw [h.cover n h2 (by omega)]
          constructor
          · rintro ⟨s, hs, h4, h5⟩
            rw [hz] at hs
            rcases List.mem_append.1 hs with hs | hs
            · exact ⟨s, List.mem_append_left _ hs, h4, h5⟩
            · rw [List.mem_singleton] at hs; subst hs
              exact ⟨⟨s.a, e⟩, by simp, h4, by simp only; omega⟩
          · rintro ⟨s, hs, h4, h5⟩
            rcases List.mem_append.1 hs with hs | hs
            · exact ⟨s, List.dropLast_subset _ hs, h4, h5⟩
            · rw [List.mem_singleton] at hs; subst hs
              simp only at h4 h5
              exact ⟨z, hzl, h4, by omega⟩
    · rename_i hb
      refine ⟨fun s hs => ?_, ?_, fun n h2 h3 => ?_⟩
      · rcases List.mem_append.1 hs with hs | hs
        · have := h.ok s hs; omega
        · rw [List.mem_singleton] at hs; subst hs; simp only; omega
      · rw [List.pairwise_append]
        refine ⟨hpw, List.pairwise_singleton _ _, fun s hs s' hs' => ?_⟩
        rw [List.mem_singleton] at hs'; subst hs'
        simp only
        rw [hz] at hs
        rcases List.mem_append.1 hs with hs | hs
        · rw [hz, List.pairwise_append] at hpw
          have := hpw.2.2 s hs z (by simp)
          omega
        · rw [List.mem_singleton] at hs; subst hs; omega
      · by_cases hn : n = e
        · subst hn; exact ⟨fun _ => ⟨⟨n, n⟩, by simp, Int.le_refl _, Int.le_refl _⟩, fun _ => hF⟩
        · rw [h.cover n h2 (by omega)]
          constructor
          · rintro ⟨s, hs, h4, h5⟩; exact ⟨s, List.mem_append_left _ hs, h4, h5⟩
          · rintro ⟨s, hs, h4, h5⟩
            rcases List.mem_append.1 hs with hs | hs
            · exact ⟨s, hs, h4, h5⟩
            · rw [List.mem_singleton] at hs; subst hs
              simp only at h4 h5; omega
end Good
theorem at_item {c : Cal} {x : It} (hx : x ∈ c.items) {k : Int} (h0 : 0 ≤ k) (hk : k < x.len c) : c.at? (x.first + k) = some ⟨x.y, x.n, x.s, k + 1⟩ := by
  obtain ⟨i, hi⟩ := List.mem_iff_getElem?.1 hx
  unfold Cal.at?
  rw [atFrom_ix hi (by omega) (by omega) (fun j y hj hy hc => ?_)]
  · rw [show x.first + k - x.first + 1 = k + 1 by omega]
  · have := (items_lt hy hi hj).1
    omega
theorem fit_item {c : Cal} {t : Tr} {x : It} (hx : x ∈ c.items) {k : Int} (h0 : 0 ≤ k) (hk : k < x.len c) : c.Fit t (x.first + k) ↔ (c.inMonth t x.y x.n x.s = true ∧ t.onDay (k + 1) = true) := by
  unfold Cal.Fit
  rw [at_item hx h0 hk]
  constructor
  · rintro ⟨d, hd, hf⟩
    obtain rfl := Option.some.inj hd
    simpa only [Cal.fits, Bool.and_eq_true] using hf
  · intro h
    exact ⟨_, rfl, by simpa only [Cal.fits, Bool.and_eq_true] using h⟩
theorem good_days {c : Cal} {t : Tr} {x : It} (hx : x ∈ c.items) (hm : c.inMonth t x.y x.n x.s = true) {o : List Sp} (ho : Good (c.Fit t) o x.first) : ∀ k : Nat, (k : Int) ≤ x.len c → Good (c.Fit t) (t.dayFold x.first o k) (x.first + k)
  | 0, _ => by simpa [Tr.dayFold] using ho
  | k + 1, hk => by
    have ih := good_days hx hm ho k (by omega)
    have hf := fit_item (t := t) hx (k := k) (by omega) (by omega)
    have h1 := (items_end hx).1
    rw [Tr.dayFold, show x.first + ((k + 1 : Nat) : Int) = x.first + k + 1 by omega]
    split
    · rename_i h; exact ih.add (by omega) (hf.2 ⟨hm, h⟩)
    · rename_i h; exact ih.skip (fun hF => h (hf.1 hF).2)
theorem good_none {c : Cal} {t : Tr} {x : It} (hx : x ∈ c.items) (hm : c.inMonth t x.y x.n x.s = false) {o : List Sp} (ho : Good (c.Fit t) o x.first) : ∀ k : Nat, (k : Int) ≤ x.len c → Good (c.Fit t) o (x.first + k)
  | 0, _ => by simpa using ho
  | k + 1, hk => by
    have ih := good_none hx hm ho k (by omega)
    have hf := fit_item (t := t) hx (k := k) (by omega) (by omega)
    rw [show x.first + ((k + 1 : Nat) : Int) = x.first + k + 1 by omega]
    exact ih.skip (fun hF => by have := (hf.1 hF).1; rw [hm] at this; cases this)
theorem good_it {c : Cal} {t : Tr} {x : It} (hx : x ∈ c.items) {o : List Sp} (ho : Good (c.Fit t) o x.first) : Good (c.Fit t) (c.itFold t o x) (x.first + x.len c) := by
  have hl := len_29 (c.yr x.y) x.n x.s
  change 29 ≤ x.len c ∧ x.len c ≤ 30 at hl
  have e : ((x.len c).toNat : Int) = x.len c := by omega
  unfold Cal.itFold
  cases hm : c.inMonth t x.y x.n x.s
  · rw [if_neg (by simp)]
    have := good_none hx hm ho (x.len c).toNat (by omega)
    rwa [e] at this
  · rw [if_pos rfl]
    have := good_days hx hm ho (x.len c).toNat (by omega)
    rwa [e] at this
theorem good_runs {c : Cal} {t : Tr} {i : Nat} : ∀ (l : List (Int × Bool)) (d : Int) (o : List Sp), (∀ x, x ∈ runs i (c.yr i) d l → x ∈ c.items) → Good (c.Fit t) o d → Good (c.Fit t) ((runs i (c.yr i) d l).foldl (c.itFold t) o) (d + (c.yr i).lens l)
  | [], d, o, _, h => by simpa [runs, Yr.lens] using h
  | p :: l, d, o, hi, h => by
    rw [runs] at hi ⊢
    rw [List.foldl_cons, Yr.lens]
    have h1 := good_it (t := t) (hi _ (List.mem_cons_self ..)) h
    have h2 := good_runs l (d + (c.yr i).len p.1 p.2) _ (fun x hx => hi x (List.mem_cons_of_mem _ hx)) h1
    rwa [Int.add_assoc] at h2
theorem good_to {c : Cal} {t : Tr} : ∀ k : Nat, k ≤ c.ny → Good (c.Fit t) ((c.itemsTo k).foldl (c.itFold t) []) (c.dayAt k)
  | 0, _ => Good.nil _
  | k + 1, hk => by
    rw [Cal.itemsTo, List.foldl_append, Cal.dayAt]
    refine good_runs _ _ _ (fun x hx => ?_) (good_to k (by omega))
    exact itemsTo_of c hx c.ny hk
theorem spans_good (c : Cal) (t : Tr) : Good (c.Fit t) (c.spans t) (c.dayAt c.ny) := good_to c.ny (Nat.le_refl _)
theorem Cal.Fit.in {c : Cal} {t : Tr} {n : Int} (h : c.Fit t n) : 1 ≤ n ∧ n < c.dayAt c.ny := by
  obtain ⟨d, hd, _⟩ := h
  rcases Decidable.em (n < 1 ∨ c.dayAt c.ny ≤ n) with h2 | h2
  · rw [at_out h2] at hd; cases hd
  · omega
theorem fit_iff {c : Cal} {t : Tr} {n : Int} : c.Fit t n ↔ ∃ s, s ∈ c.spans t ∧ s.a ≤ n ∧ n ≤ s.b := by
  constructor
  · intro h
    exact ((spans_good c t).cover n h.in.1 h.in.2).1 h
  · rintro ⟨s, hs, h1, h2⟩
    have := (spans_good c t).ok s hs
    exact ((spans_good c t).cover n (by omega) (by omega)).2 ⟨s, hs, h1, h2⟩
end Go.Proofs.YtlnjeklmkjgidaaDoor

namespace Go.Proofs.YtlnjeklmkjgidaaDoor
open Go Go.RowKit Go.Shelf
attribute [local go_sem] gv_yes Dt.val

theorem four_set {W : World} {b : Nat} {t : TypeId} {v0 v1 v2 v3 : Value} (h : Held W b t #[v0, v1, v2, v3]) (u0 u1 u2 u3 : Value) :
    ((((((W.setCell ⟨b, 0, none⟩ u0).setCell ⟨b, 1, none⟩ u1).setCell ⟨b, 2, none⟩ u2).setCell ⟨b, 3, none⟩ u3).cell? ⟨b, 0, none⟩ = some u0) ∧ (((((W.setCell ⟨b, 0, none⟩ u0).setCell ⟨b, 1, none⟩ u1).setCell ⟨b, 2, none⟩ u2).setCell ⟨b, 3, none⟩ u3).cell? ⟨b, 1, none⟩ = some u1) ∧
      (((((W.setCell ⟨b, 0, none⟩ u0).setCell ⟨b, 1, none⟩ u1).setCell ⟨b, 2, none⟩ u2).setCell ⟨b, 3, none⟩ u3).cell? ⟨b, 2, none⟩ = some u2) ∧ (((((W.setCell ⟨b, 0, none⟩ u0).setCell ⟨b, 1, none⟩ u1).setCell ⟨b, 2, none⟩ u2).setCell ⟨b, 3, none⟩ u3).cell? ⟨b, 3, none⟩ = some u3)) ∧
    ∀ wd, Ext wd W → wd.heap.size ≤ b → Ext wd ((((W.setCell ⟨b, 0, none⟩ u0).setCell ⟨b, 1, none⟩ u1).setCell ⟨b, 2, none⟩ u2).setCell ⟨b, 3, none⟩ u3) :=
  ⟨(held_set4 h u0 u1 u2 u3).c4, fun _ e h1 => (((e.setCell h1 _).setCell h1 _).setCell h1 _).setCell h1 _⟩
set_option maxRecDepth 100000 in
set_option maxHeartbeats 1000000 in
theorem atX_any (A A' : Option Addr) (ca cb : Nat) (c : Cal) (n : Int) (w : World) (hC : CalAt w A ca A' cb c) (hn1 : -9223372036854775808 ≤ n) (hn2 : n ≤ 9223372036854775807) :
    Calls Tryd.prog 11 #[.agg #[.slice A c.nk ca, .slice A' c.ny cb], .int .i64 n] w fun e w' => e = .returned (.tuple #[(c.atV n).val, .int .i64 (c.atE n)]) ∧ Ext w w' := by
  cases hv : c.valid
  · have HE := Lib.hid (chk_no hv)
    have HV : Hid (c.atV n = zeroDt) := by unfold Hid Cal.atV; rw [hv]; rfl
    have HR : Hid (c.atE n = 70) := by unfold Hid Cal.atE; rw [hv]; rfl
    clear hv
    go_enter Tryd.func11, Tryd.ntmps11
    go_wp2_with (go_at_call 48; refine (checks_any _ _ _ _ c none 0 0 (fun _ => ⟨0, 0, false, 0⟩) _ (hC.ext (by repeat (first | exact Ext.refl _ | (refine Ext.alloc ?_ _) | (refine Ext.trans ?_ (by assumption))))) (rows_none _ _ _) (by omega)).mono ?_; rw [checks_none, HE.out]; rintro e wq ⟨rfl, hq⟩; have hrb := (Held.ext (b := w.heap.size + 1) (t := 29) (cs := #[.int .i64 0, .int .i64 0, .bool false, .int .i64 0]) (by repeat (first | (refine Held.at _ _ _ _ ?_; (simp; done)) | refine Held.alloc ?_ _)) hq); obtain ⟨r0, r1, r2, r3⟩ := hrb.c4; have f0 := hrb.frozen 0; have f1 := hrb.frozen 1; have f2 := hrb.frozen 2; have f3 := hrb.frozen 3)
    obtain ⟨⟨c0, c1, c2, c3⟩, gE⟩ := four_set hrb (.int .i64 0) (.int .i64 0) (.bool false) (.int .i64 0)
    refine bodyPost_ret (v := .tuple #[.agg #[.int .i64 0, .int .i64 0, .bool false, .int .i64 0], .int .i64 70]) (by simp [results, Tryd.results11, go_sem, c0, c1, c2, c3]) rfl ⟨by rw [HV.out, HR.out]; rfl, gE w (by repeat (first | exact Ext.refl _ | (refine Ext.alloc ?_ _) | (refine Ext.trans ?_ (by assumption)))) (by omega)⟩
  · have HE := Lib.hid (chk_yes hv)
    have HL := Lib.hid (valid_lg hv)
    have HY := Lib.hid (valid_ny hv)
    have HV : Hid (c.atV n = (c.at? n).getD zeroDt) := by unfold Hid Cal.atV; rw [hv]; rfl
    have HR : Hid (c.atE n = atOk (c.at? n)) := by unfold Hid Cal.atE; rw [hv]; rfl
    clear hv
    go_enter Tryd.func11, Tryd.ntmps11
    go_wp2_with (go_at_call 48; refine (checks_any _ _ _ _ c none 0 0 (fun _ => ⟨0, 0, false, 0⟩) _ (hC.ext (by repeat (first | exact Ext.refl _ | (refine Ext.alloc ?_ _) | (refine Ext.trans ?_ (by assumption))))) (rows_none _ _ _) (by omega)).mono ?_; rw [checks_none, HE.out]; rintro e wq ⟨rfl, hq⟩; obtain ⟨k0, k1⟩ := (Held.ext (b := w.heap.size) (t := 25) (cs := #[.slice A c.nk ca, .slice A' c.ny cb]) (by repeat (first | (refine Held.at _ _ _ _ ?_; (simp; done)) | refine Held.alloc ?_ _)) hq).c2; have hrb := (Held.ext (b := w.heap.size + 1) (t := 29) (cs := #[.int .i64 0, .int .i64 0, .bool false, .int .i64 0]) (by repeat (first | (refine Held.at _ _ _ _ ?_; (simp; done)) | refine Held.alloc ?_ _)) hq); obtain ⟨r0, r1, r2, r3⟩ := hrb.c4; have f0 := hrb.frozen 0; have f1 := hrb.frozen 1; have f2 := hrb.frozen 2; have f3 := hrb.frozen 3)
    refine (at_any _ _ _ _ c n _ (hC.ext (by repeat (first | exact Ext.refl _ | (refine Ext.alloc ?_ _) | (refine Ext.trans ?_ (by assumption))))) HL.out HY.out hn1 hn2).mono ?_
    rintro e wn ⟨rfl, hn⟩
    clear r0 r1 r2 r3 f0 f1 f2 f3
    have hrb := hrb.ext hn
    obtain ⟨r0, r1, r2, r3⟩ := hrb.c4
    have f0 := hrb.frozen 0
    have f1 := hrb.frozen 1
    have f2 := hrb.frozen 2
    have f3 := hrb.frozen 3
    generalize (c.at? n).getD zeroDt = dd at *
    generalize atOk (c.at? n) = ee at *
    go_wp2
    obtain ⟨⟨c0, c1, c2, c3⟩, gE⟩ := four_set hrb (.int .i64 dd.y) (.int .i64 dd.m) (.bool dd.s) (.int .i64 dd.d)
    refine bodyPost_ret (v := .tuple #[.agg #[.int .i64 dd.y, .int .i64 dd.m, .bool dd.s, .int .i64 dd.d], .int .i64 ee]) (by simp [results, Tryd.results11, go_sem, c0, c1, c2, c3]) rfl ⟨by rw [HV.out, HR.out]; rfl, gE w (by repeat (first | exact Ext.refl _ | (refine Ext.alloc ?_ _) | (refine Ext.trans ?_ (by assumption)))) (by omega)⟩
end Go.Proofs.YtlnjeklmkjgidaaDoor

namespace Go.Proofs.YtlnjeklmkjgidaaDoor
open Go Go.RowKit Go.Shelf
attribute [local go_sem] gv_yes

theorem Held.c7 {W : World} {b : Nat} {t : TypeId} {v0 v1 v2 v3 v4 v5 v6 : Value} (h : Held W b t #[v0, v1, v2, v3, v4, v5, v6]) : W.cell? ⟨b, 0, none⟩ = some v0 ∧ W.cell? ⟨b, 1, none⟩ = some v1 ∧ W.cell? ⟨b, 2, none⟩ = some v2 ∧ W.cell? ⟨b, 3, none⟩ = some v3 ∧ W.cell? ⟨b, 4, none⟩ = some v4 ∧ W.cell? ⟨b, 5, none⟩ = some v5 ∧ W.cell? ⟨b, 6, none⟩ = some v6 :=
  ⟨h.cell 0, h.cell 1, h.cell 2, h.cell 3, h.cell 4, h.cell 5, h.cell 6⟩
theorem ok_af {t : Tr} (h : t.ok = true) : 0 ≤ t.af ∧ t.af ≤ 3 := by
  simp only [Tr.ok, Bool.and_eq_true, decide_eq_true_eq] at h
  omega
theorem spansAt_nil (w : World) : SpansAt w (.slice none 0 0) [] := ⟨none, 0, rfl, fun h => absurd h (by simp), Nat.le_refl _, by decide⟩
end Go.Proofs.YtlnjeklmkjgidaaDoor

namespace Go.Proofs.YtlnjeklmkjgidaaDoor
open Go Go.RowKit Go.Shelf
attribute [local go_sem] gv_yes

/-! ### The earliest and the latest days -/
def firstFrom : List Sp → Int → Int
  | [], _ => 0
  | s :: l, e => if e ≤ s.b then max s.a e else firstFrom l e
def lastTo (e : Int) (l : List Sp) : Int := l.foldl (fun acc s => if s.a ≤ e then min s.b e else acc) 0
def early (sp : Nat → List Sp) : Nat → Int
  | 0 => 1
  | k + 1 => firstFrom (sp k) (early sp k)
def lateD (sp : Nat → List Sp) (n : Nat) : Nat → Int
  | 0 => 156000
  | j + 1 => lastTo (lateD sp n j) (sp (n - 1 - j))
def late (sp : Nat → List Sp) (n i : Nat) : Int := lateD sp n (n - i)
def serFail (sp : Nat → List Sp) (n : Nat) : Bool := (List.range n).any fun k => decide (early sp (k + 1) = 0)
def serOk (f : Nat → Tr) (n : Nat) : Bool := (List.range n).all fun k => (f k).ok
def Cal.serE (c : Cal) (f : Nat → Tr) (n : Nat) : Int :=
  if c.valid then (if 64 < n then 3 else if serOk f n then (if serFail (fun i => c.spans (f i)) n then 73 else 0) else 72) else 70
def serL (sp : Nat → List Sp) (n : Nat) : List Sp := (List.range n).map fun i => ⟨early sp (i + 1), late sp n i⟩
def Cal.serV (c : Cal) (f : Nat → Tr) (n : Nat) : List Sp := if c.serE f n = 0 then serL (fun i => c.spans (f i)) n else []

theorem run_make_cells {P : Program} (t e : TypeId) (i : TypeInfo) (z : Value) (ht : P.underlying t = some (.slice e)) (hi : P.info? e = some i) (hz : i.zero = some z)
    (kl kc : IntKind) (n : Nat) (hbytes : i.bytes * n ≤ 281474976710656) (h63 : n ≤ 9223372036854775807) (w : World) :
    (Instr.makeSlice t (.int kl (n : Int)) (.int kc (n : Int))).run P w = .ok (.slice (some ⟨w.heap.size, 0, none⟩) n n) (w.alloc (.cells (madeCells z.cells (n * i.size)) e)) := by
  have h : ((i.bytes * n : Nat) : Int) ≤ 281474976710656 := by omega
  rw [Int.natCast_mul] at h
  have hr := run_make (P := P) w t e i z ht hi hz kl kc n n (by omega) (Int.le_refl _) h (by omega)
  simpa only [Int.toNat_natCast] using hr
theorem info_spans : (Tryd.prog.info? 41).map (fun i => (i.zero, i.size, i.bytes)) = some (some (.slice none 0 0), 1, 24) := by kernel_rfl
theorem Tr.row {w : World} {B : Option Addr} {n : Nat} {f : Nat → Tr} (h : RowsAt w B n 7 (fun i => (f i).cells)) {k : Nat} (hk : k < n) :
    ∃ b off, B = some ⟨b, off, none⟩ ∧ b < w.heap.size ∧ w.cell? ⟨b, off + k * 7, none⟩ = some (.int .i64 (f k).d) ∧ w.cell? ⟨b, off + k * 7 + 1, none⟩ = some (.bool (f k).more) ∧ w.cell? ⟨b, off + k * 7 + 2, none⟩ = some (.int .i64 (f k).m) ∧ w.cell? ⟨b, off + k * 7 + 3, none⟩ = some (.bool (f k).s) ∧
      w.cell? ⟨b, off + k * 7 + 4, none⟩ = some (.string (f k).nm) ∧ w.cell? ⟨b, off + k * 7 + 5, none⟩ = some (.int .i64 (f k).af) ∧ w.cell? ⟨b, off + k * 7 + 6, none⟩ = some (.string (f k).kg) := by
  obtain ⟨b, off, hB, hb, hc⟩ := h (by omega)
  exact ⟨b, off, hB, hb, by simpa using hc k 0 _ hk rfl, hc k 1 _ hk rfl, hc k 2 _ hk rfl, hc k 3 _ hk rfl, hc k 4 _ hk rfl, hc k 5 _ hk rfl, hc k 6 _ hk rfl⟩
def OksTo (f : Nat → Tr) (k : Nat) : Prop := ∀ i, i < k → (f i).ok = true
theorem serOk_no {f : Nat → Tr} {n k : Nat} (hk : k < n) (h : (f k).ok = false) : serOk f n = false := by
  rw [serOk, List.all_eq_false]; exact ⟨k, by simpa using hk, by simp [h]⟩
theorem serOk_yes {f : Nat → Tr} {n : Nat} (h : OksTo f n) : serOk f n = true := by
  rw [serOk, List.all_eq_true]; intro i hi; exact h i (by simpa using hi)
theorem ownsRow_ext {w w' : World} {base size n : Nat} {e : TypeId} {v : Value} {xs : List Value} (h : w.ownsRow base e size v n xs) (x : Ext w w') : w'.ownsRow base e size v n xs := h.kept (grown_of_ext x) (by
  rcases h.2 with ⟨rfl, _⟩ | ⟨g, cap, cur, rfl, _⟩
  · exact .inl rfl
  · exact .inr (by simp [Value.ownBlock]))
/-- The cells of n spans. -/
def outF (F L : Nat → Int) (j : Nat) : Value := if j % 2 = 0 then .int .i64 (F (j / 2)) else .int .i64 (L (j / 2))
theorem rowIs_madeSpan (w : World) (n : Nat) : (w.alloc (.cells (madeCells #[.int .i64 0, .int .i64 0] (n * 2)) 47)).rowIs w.heap.size 47 (n * 2) (outF (fun _ => 0) (fun _ => 0)) := by
  have h := World.rowIs_alloc w (madeCells #[.int .i64 0, .int .i64 0] (n * 2)) 47 (outF (fun _ => 0) (fun _ => 0)) (fun i hi => by
    rw [size_madeCells] at hi
    have h2 : i % 2 = 0 ∨ i % 2 = 1 := by omega
    rcases h2 with h2 | h2 <;> simp [madeCells, hi, outF, h2])
  rwa [size_madeCells] at h
theorem outF_first (F L : Nat → Int) (i : Nat) : outF F L (i * 2) = .int .i64 (F i) := by
  unfold outF; rw [if_pos (by omega), show i * 2 / 2 = i by omega]
theorem outF_last (F L : Nat → Int) (i : Nat) : outF F L (i * 2 + 1) = .int .i64 (L i) := by
  unfold outF; rw [if_neg (by omega), show (i * 2 + 1) / 2 = i by omega]
theorem rowIs_first {w : World} {b : Nat} {t : TypeId} {n : Nat} {F L : Nat → Int} (h : w.rowIs b t (n * 2) (outF F L)) (i : Nat) (v : Int) : (w.setCell ⟨b, i * 2, none⟩ (.int .i64 v)).rowIs b t (n * 2) (outF (fun j => if j = i then v else F j) L) :=
  (h.set (i * 2) (.int .i64 v)).congr fun j _ => by
    unfold outF
    by_cases e : j = i * 2
    · subst e; rw [if_pos rfl, if_pos (by omega)]; dsimp only; rw [if_pos (by omega)]
    · rw [if_neg e]
      by_cases h2 : j % 2 = 0
      · rw [if_pos h2, if_pos h2]; dsimp only; rw [if_neg (by omega)]
      · rw [if_neg h2, if_neg h2]
theorem rowIs_last {w : World} {b : Nat} {t : TypeId} {n : Nat} {F L : Nat → Int} (h : w.rowIs b t (n * 2) (outF F L)) (i : Nat) (v : Int) : (w.setCell ⟨b, i * 2 + 1, none⟩ (.int .i64 v)).rowIs b t (n * 2) (outF F (fun j => if j = i then v else L j)) :=
  (h.set (i * 2 + 1) (.int .i64 v)).congr fun j _ => by
    unfold outF
    by_cases e : j = i * 2 + 1
    · subst e; rw [if_pos rfl, if_neg (by omega)]; dsimp only; rw [if_pos (by omega)]
    · rw [if_neg e]
      by_cases h2 : j % 2 = 0
      · rw [if_pos h2, if_pos h2]
      · rw [if_neg h2, if_neg h2]; dsimp only; rw [if_neg (by omega)]
def NoFail (sp : Nat → List Sp) (k : Nat) : Prop := ∀ j, j < k → early sp (j + 1) ≠ 0
def Before (l : List Sp) (e : Int) (m : Nat) : Prop := ∀ j, j < m → (l.getD j ⟨0, 0⟩).b < e
theorem before_snoc {l : List Sp} {e : Int} {m : Nat} (h : Before l e m) (hm : (l.getD m ⟨0, 0⟩).b < e) : Before l e (m + 1) := fun j hj => by
  rcases Nat.lt_or_ge j m with h' | h'
  · exact h j h'
  · rw [show j = m from by omega]; exact hm
theorem firstFrom_none {e : Int} : ∀ {l : List Sp}, Before l e l.length → firstFrom l e = 0
  | [], _ => rfl
  | s :: l, h => by
    have h0 := h 0 (by simp)
    simp only [List.getD_cons_zero] at h0
    rw [firstFrom, if_neg (by omega)]
    exact firstFrom_none (fun j hj => by have := h (j + 1) (by simp; omega); simpa using this)
theorem firstFrom_here {e : Int} : ∀ {l : List Sp} {m : Nat}, m < l.length → Before l e m → e ≤ (l.getD m ⟨0, 0⟩).b → firstFrom l e = max (l.getD m ⟨0, 0⟩).a e
  | s :: l, 0, _, _, he => by
    simp only [List.getD_cons_zero] at he ⊢
    rw [firstFrom, if_pos he]
  | s :: l, m + 1, hm, hB, he => by
    have h0 := hB 0 (by omega)
    simp only [List.getD_cons_zero] at h0
    rw [firstFrom, if_neg (by omega)]
    simp only [List.getD_cons_succ] at he ⊢
    exact firstFrom_here (by simpa using hm) (fun j hj => by have := hB (j + 1) (by omega); simpa using this) he
theorem spans_cell {w : World} {A : Option Addr} {cap m : Nat} {l : List Sp} (h : SpansAt w (.slice A l.length cap) l) (hm : m < l.length) :
    ∃ b off, A = some ⟨b, off, none⟩ ∧ b < w.heap.size ∧ w.cell? ⟨b, off + m * 2, none⟩ = some (.int .i64 (l.getD m ⟨0, 0⟩).a) ∧ w.cell? ⟨b, off + m * 2 + 1, none⟩ = some (.int .i64 (l.getD m ⟨0, 0⟩).b) := by
  obtain ⟨A', cap', e, hr, _, _⟩ := h
  injection e with e1 e2 e3
  subst e1
  obtain ⟨b, off, hA, hb, hc⟩ := hr (by omega)
  exact ⟨b, off, hA, hb, by simpa using hc m 0 _ hm rfl, hc m 1 _ hm rfl⟩
theorem noFail_snoc {sp : Nat → List Sp} {k : Nat} (h : NoFail sp k) (hk : early sp (k + 1) ≠ 0) : NoFail sp (k + 1) := fun j hj => by
  rcases Nat.lt_or_ge j k with h' | h'
  · exact h j h'
  · rw [show j = k from by omega]; exact hk
theorem serFail_yes {sp : Nat → List Sp} {n k : Nat} (hk : k < n) (h : early sp (k + 1) = 0) : serFail sp n = true := by
  rw [serFail, List.any_eq_true]; exact ⟨k, by simpa using hk, by simp [h]⟩
theorem serFail_no {sp : Nat → List Sp} {n : Nat} (h : NoFail sp n) : serFail sp n = false := by
  rw [serFail, List.any_eq_false]; intro k hk; simpa using h k (by simpa using hk)
theorem late_top (sp : Nat → List Sp) (n : Nat) : late sp n n = 156000 := by unfold late; rw [Nat.sub_self]; rfl
theorem late_step {sp : Nat → List Sp} {n j : Nat} (hj : j < n) : late sp n j = lastTo (late sp n (j + 1)) (sp j) := by
  unfold late
  rw [show n - j = (n - (j + 1)) + 1 by omega, lateD, show n - 1 - (n - (j + 1)) = j by omega]
/-- The latest days from j on. -/
def lateF (sp : Nat → List Sp) (n j i : Nat) : Int := if j ≤ i ∧ i < n then late sp n i else 0
theorem lateF_top (sp : Nat → List Sp) (n : Nat) : lateF sp n n = fun _ => 0 := by funext i; unfold lateF; rw [if_neg (by omega)]
theorem lastTo_step (e : Int) (l : List Sp) (m : Nat) (hm : m < l.length) : lastTo e (l.take (m + 1)) = if (l.getD m ⟨0, 0⟩).a ≤ e then min (l.getD m ⟨0, 0⟩).b e else lastTo e (l.take m) := by
  have h : l.getD m ⟨0, 0⟩ = l[m] := by rw [List.getD_eq_getElem?_getD, List.getElem?_eq_getElem hm]; rfl
  rw [h, List.take_succ_eq_append_getElem hm, lastTo, List.foldl_append]; rfl
def inL (sp : Nat → List Sp) (n j m i : Nat) : Int := if i = j then lastTo (late sp n (j + 1)) ((sp j).take m) else lateF sp n (j + 1) i
theorem inL_zero (sp : Nat → List Sp) (n j : Nat) : inL sp n j 0 = lateF sp n (j + 1) := by
  funext i
  unfold inL
  by_cases e : i = j
  · subst e; rw [if_pos rfl]; unfold lateF; rw [if_neg (by omega)]; rfl
  · rw [if_neg e]
theorem inL_full {sp : Nat → List Sp} {n j : Nat} (hj : j < n) : inL sp n j (sp j).length = lateF sp n j := by
  funext i
  unfold inL
  rw [List.take_length, ← late_step hj]
  unfold lateF
  by_cases e : i = j
  · subst e; rw [if_pos rfl, if_pos ⟨by omega, hj⟩]
  · rw [if_neg e]
    by_cases h : j + 1 ≤ i ∧ i < n
    · rw [if_pos h, if_pos (by omega)]
    · rw [if_neg h, if_neg (by omega)]
theorem inL_set {sp : Nat → List Sp} {n j m : Nat} {v : Int} (h : lastTo (late sp n (j + 1)) ((sp j).take (m + 1)) = v) : (fun i => if i = j then v else inL sp n j m i) = inL sp n j (m + 1) := by
  funext i
  unfold inL
  by_cases e : i = j
  · rw [if_pos e, if_pos e, h]
  · rw [if_neg e, if_neg e, if_neg e]
theorem inL_same {sp : Nat → List Sp} {n j m : Nat} (h : lastTo (late sp n (j + 1)) ((sp j).take (m + 1)) = lastTo (late sp n (j + 1)) ((sp j).take m)) : inL sp n j m = inL sp n j (m + 1) := by
  funext i
  unfold inL
  rw [h]
theorem lateF_at {sp : Nat → List Sp} {n j : Nat} (h : j < n) : lateF sp n j j = late sp n j := by unfold lateF; rw [if_pos ⟨Nat.le_refl _, h⟩]
theorem serL_at {w : World} {O n : Nat} {sp : Nat → List Sp} (h : w.rowIs O 47 (n * 2) (outF (fun j => if j < n then early sp (j + 1) else 0) (lateF sp n 0))) (hn : n ≤ maxLen) : SpansAt w (.slice (some ⟨O, 0, none⟩) n n) (serL sp n) := by
  have hl : (serL sp n).length = n := by simp [serL]
  refine ⟨_, n, by rw [hl], fun _ => ⟨O, 0, rfl, h.lt, fun i j v hi hv => ?_⟩, by rw [hl]; exact Nat.le_refl _, hn⟩
  rw [hl] at hi
  have hg : (serL sp n).getD i ⟨0, 0⟩ = ⟨early sp (i + 1), late sp n i⟩ := by simp [serL, List.getD_eq_getElem?_getD, List.getElem?_map, List.getElem?_range hi]
  simp only [hg] at hv
  have hj : j < 2 := (List.getElem?_eq_some_iff.1 hv).1
  rw [show 0 + i * 2 + j = i * 2 + j by omega, h.cell (by omega)]
  match j, hj, hv with
  | 0, _, hv => rw [Nat.add_zero, outF_first, if_pos hi]; exact hv
  | 1, _, hv => rw [outF_last]; unfold lateF; rw [if_pos ⟨by omega, hi⟩]; exact hv
structure SerR (wo wr : World) (O n k : Nat) (sp : Nat → List Sp) (F L : Nat → Int) (vs : Nat → Value) : Prop where
  e : Ext wo wr
  z : O + 1 + 1 ≤ wr.heap.size
  o : wr.rowIs O 47 (n * 2) (outF F L)
  d : wr.rowIs (O + 1) 41 n (fun j => if j < k then vs j else .slice none 0 0)
  r : ∀ j, j < k → wr.ownsRow (O + 1 + 1) 47 2 (vs j) (sp j).length (spc (sp j))
namespace SerR
variable {wo wr w' : World} {O n k : Nat} {sp : Nat → List Sp} {F L : Nat → Int} {vs : Nat → Value}
theorem ext (h : SerR wo wr O n k sp F L vs) (e : Ext wr w') : SerR wo w' O n k sp F L vs :=
  ⟨h.e.trans e, Nat.le_trans h.z e.size, h.o.of_block (e.block h.o.lt), h.d.of_block (e.block h.d.lt), fun j hj => ownsRow_ext (h.r j hj) e⟩
theorem first (h : SerR wo wr O n k sp F L vs) (hO : wo.heap.size ≤ O) (i : Nat) (v : Int) : SerR wo (wr.setCell ⟨O, i * 2, none⟩ (.int .i64 v)) O n k sp (fun j => if j = i then v else F j) L vs :=
  ⟨h.e.setCell (p := ⟨O, i * 2, none⟩) hO _, by simpa [World.setCell] using h.z, rowIs_first h.o i v, h.d.setOther (a := ⟨O, i * 2, none⟩) (by show O + 1 ≠ O; omega) _, fun j hj => ownsRow_setCell_below (h.r j hj) (a := ⟨O, i * 2, none⟩) (by show O < O + 1 + 1; omega) _⟩
theorem last (h : SerR wo wr O n k sp F L vs) (hO : wo.heap.size ≤ O) (i : Nat) (v : Int) : SerR wo (wr.setCell ⟨O, i * 2 + 1, none⟩ (.int .i64 v)) O n k sp F (fun j => if j = i then v else L j) vs :=
  ⟨h.e.setCell (p := ⟨O, i * 2 + 1, none⟩) hO _, by simpa [World.setCell] using h.z, rowIs_last h.o i v, h.d.setOther (a := ⟨O, i * 2 + 1, none⟩) (by show O + 1 ≠ O; omega) _, fun j hj => ownsRow_setCell_below (h.r j hj) (a := ⟨O, i * 2 + 1, none⟩) (by show O < O + 1 + 1; omega) _⟩
theorem days (h : SerR wo wr O n k sp F L vs) (hO : wo.heap.size ≤ O) {v : Value} (hr : wr.ownsRow (O + 1 + 1) 47 2 v (sp k).length (spc (sp k))) :
    SerR wo (wr.setCell ⟨O + 1, k, none⟩ v) O n (k + 1) sp F L (fun j => if j = k then v else vs j) := by
  refine ⟨h.e.setCell (p := ⟨O + 1, k, none⟩) (show wo.heap.size ≤ O + 1 by omega) _, by simpa [World.setCell] using h.z, h.o.setOther (a := ⟨O + 1, k, none⟩) (by show O ≠ O + 1; omega) _, (h.d.set k v).congr fun j _ => ?_, fun j hj => ?_⟩
  · by_cases e : j = k
    · subst e; rw [if_pos rfl, if_pos (by omega), if_pos rfl]
    · rw [if_neg e]
      by_cases h2 : j < k
      · rw [if_pos h2, if_pos (by omega), if_neg e]
      · rw [if_neg h2, if_neg (by omega)]
  · by_cases e : j = k
    · subst e; rw [if_pos rfl]; exact ownsRow_setCell_below hr (a := ⟨O + 1, j, none⟩) (by show O + 1 < O + 1 + 1; omega) _
    · rw [if_neg e]; exact ownsRow_setCell_below (h.r j (by omega)) (a := ⟨O + 1, k, none⟩) (by show O + 1 < O + 1 + 1; omega) _
theorem upF {F' : Nat → Int} (h : SerR wo wr O n k sp F L vs) (e : F = F') : SerR wo wr O n k sp F' L vs := e ▸ h
theorem upL {L' : Nat → Int} (h : SerR wo wr O n k sp F L vs) (e : L = L') : SerR wo wr O n k sp F L' vs := e ▸ h
end SerR
theorem serF_step {sp : Nat → List Sp} {k : Nat} {v : Int} (h : early sp (k + 1) = v) : (fun j => if j = k then v else if j < k then early sp (j + 1) else 0) = fun j => if j < k + 1 then early sp (j + 1) else 0 := by
  funext j
  by_cases e : j = k
  · subst e; rw [if_pos rfl, if_pos (by omega), h]
  · rw [if_neg e]
    by_cases h2 : j < k
    · rw [if_pos h2, if_pos (by omega)]
    · rw [if_neg h2, if_neg (by omega)]
set_option maxRecDepth 100000 in
set_option maxHeartbeats 8000000 in
theorem seriesX_any (A A' : Option Addr) (ca cb : Nat) (c : Cal) (B : Option Addr) (n cap : Nat) (f : Nat → Tr) (w : World) (hC : CalAt w A ca A' cb c) (hT : RowsAt w B n 7 (fun i => (f i).cells)) (hn : n ≤ 9223372036854775807) :
    Calls Tryd.prog 16 #[.agg #[.slice A c.nk ca, .slice A' c.ny cb], .slice B n cap] w fun e w' => ∃ v, e = .returned (.tuple #[v, .int .i64 (c.serE f n)]) ∧ Ext w w' ∧ SpansAt w' v (c.serV f n) := by
  cases hv : c.valid
  · have HE := Lib.hid (chk_no hv)
    have HR : Hid (c.serE f n = 70) := by unfold Hid Cal.serE; rw [hv]; rfl
    have HV : Hid (c.serV f n = []) := by unfold Hid Cal.serV; rw [HR.out]; rfl
    clear hv
    go_enter Tryd.func16, Tryd.ntmps16
    go_wp2_with (go_at_call 48; refine (checks_any _ _ _ _ c none 0 0 (fun _ => ⟨0, 0, false, 0⟩) _ (hC.ext (by repeat (first | exact Ext.refl _ | (refine Ext.alloc ?_ _) | (refine Ext.trans ?_ (by assumption))))) (rows_none _ _ _) (by omega)).mono ?_; rw [checks_none, HE.out]; rintro e wq ⟨rfl, hq⟩)
    go_ret2
    exact ⟨_, by rw [HR.out]; rfl, (by repeat (first | exact Ext.refl _ | (refine Ext.alloc ?_ _) | (refine Ext.trans ?_ (by assumption)))), by rw [HV.out]; exact spansAt_nil _⟩
  · have HE := Lib.hid (chk_yes hv)
    by_cases h64 : 64 < n
    · have HR : Hid (c.serE f n = 3) := by unfold Hid Cal.serE; rw [hv, if_pos h64]; rfl
      have HV : Hid (c.serV f n = []) := by unfold Hid Cal.serV; rw [HR.out]; rfl
      clear hv
      have hb : decide (64 < (n : Int)) = true := decide_eq_true (by omega)
      go_enter Tryd.func16, Tryd.ntmps16
      go_wp2_with (go_at_call 48; refine (checks_any _ _ _ _ c none 0 0 (fun _ => ⟨0, 0, false, 0⟩) _ (hC.ext (by repeat (first | exact Ext.refl _ | (refine Ext.alloc ?_ _) | (refine Ext.trans ?_ (by assumption))))) (rows_none _ _ _) (by omega)).mono ?_; rw [checks_none, HE.out]; rintro e wq ⟨rfl, hq⟩)
      go_ret2
      exact ⟨_, by rw [HR.out]; rfl, (by repeat (first | exact Ext.refl _ | (refine Ext.alloc ?_ _) | (refine Ext.trans ?_ (by assumption)))), by rw [HV.out]; exact spansAt_nil _⟩
    · have h64' : n ≤ 64 := by omega
      have hb : decide (64 < (n : Int)) = false := decide_eq_false (by omega)
      have HL := Lib.hid (valid_lg hv)
      have HY := Lib.hid (valid_ny hv)
      have HK := Lib.hid (valid_kg hv)
      have HR : Hid (c.serE f n = if serOk f n then (if serFail (fun i => c.spans (f i)) n then 73 else 0) else 72) := by unfold Hid Cal.serE; rw [hv, if_neg h64]; rfl
      clear hv h64
      obtain ⟨i0, hi, hz0, hz1, hz2⟩ := info_parts info_span
      obtain ⟨j0, hj, hy0, hy1, hy2⟩ := info_parts info_spans
      have hmk1 := fun W => run_make_cells (P := Tryd.prog) 41 47 i0 _ Tryd.underlying41 hi hz0 .i64 .i64 n (by rw [hz2]; omega) (by omega) W
      have hmk2 := fun W => run_make_cells (P := Tryd.prog) 119 41 j0 _ Tryd.underlying119 hj hy0 .i64 .i64 n (by rw [hy2]; omega) (by omega) W
      rw [hz1] at hmk1
      rw [hy1] at hmk2
      clear hi hz0 hz1 hz2 hj hy0 hy1 hy2
      go_enter Tryd.func16, Tryd.ntmps16
      go_wp2_with (go_at_call 48; refine (checks_any _ _ _ _ c none 0 0 (fun _ => ⟨0, 0, false, 0⟩) _ (hC.ext (by repeat (first | exact Ext.refl _ | (refine Ext.alloc ?_ _) | (refine Ext.trans ?_ (by assumption))))) (rows_none _ _ _) (by omega)).mono ?_; rw [checks_none, HE.out]; rintro e wq ⟨rfl, hq⟩; have hcb := (Held.ext (b := w.heap.size) (t := 25) (cs := #[.slice A c.nk ca, .slice A' c.ny cb]) (by repeat (first | (refine Held.at _ _ _ _ ?_; (simp; done)) | refine Held.alloc ?_ _)) hq))
      have hEq : Ext w wq := (by repeat (first | exact Ext.refl _ | (refine Ext.alloc ?_ _) | (refine Ext.trans ?_ (by assumption))))
      generalize hs : w.heap.size = s at *
      go_loopw [31] (fun i wr => ∃ k : Nat, k ≤ n ∧ i = .int .i64 k ∧ OksTo f k ∧ Ext wq wr) (fun i _ => n - (intOf i).toNat)
      case atStart => exact ⟨0, Nat.zero_le _, rfl, (fun i h => absurd h (by omega)), Ext.refl _⟩
      case round =>
        obtain ⟨k, hk, rfl, hO, hB⟩ := hrel
        obtain ⟨wo, rfl⟩ : ∃ wo : World, wo = wr := ⟨_, rfl⟩
        by_cases hlt : k < n
        · obtain ⟨b, off, rfl, hbl, c0, c1, c2, c3, c4, c5, c6⟩ := Tr.row (hT.ext (hEq.trans hB)) hlt
          cases hok : (f k).ok
          · have HO := Lib.hid hok
            go_wp2_with (go_at_call 50; refine (validTrace_any (f k) _).mono ?_; rw [HO.out]; rintro e wn ⟨rfl, hn'⟩)
            go_ret2
            have HR2 : c.serE f n = 72 := by rw [HR.out, serOk_no hlt HO.out]; rfl
            exact ⟨_, by rw [HR2]; rfl, (by repeat (first | exact Ext.refl _ | (refine Ext.alloc ?_ _) | (refine Ext.trans ?_ (by assumption)))), by unfold Cal.serV; rw [HR2]; exact spansAt_nil _⟩
          · have HO := Lib.hid hok
            go_wp2_with (go_at_call 50; refine (validTrace_any (f k) _).mono ?_; rw [HO.out]; rintro e wn ⟨rfl, hn'⟩)
            exact ⟨⟨k + 1, by omega, by go_num, to_snoc hO HO.out, (by repeat (first | exact Ext.refl _ | (refine Ext.alloc ?_ _) | (refine Ext.trans ?_ (by assumption))))⟩, by simp [intOf]; omega⟩
        · have hOn : Hid (OksTo f n) := fun i hi => hO i (by omega)
          have hE1 : Ext w wo := hEq.trans hB
          have hge : n ≤ k := by omega
          clear hO hEq hlt
          have hcb := hcb.ext hB
          clear hB
          go_wp2
          rw [show decide (k < n) = false from decide_eq_false (by omega)]
          clear hge hk hmk1 hmk2
          generalize hW2 : World.alloc _ _ = W2
          have hs2 : W2.heap.size = wo.heap.size + 1 + 1 := by rw [← hW2]; simp
          have hE2 : Ext wo W2 := by rw [← hW2]; exact (by repeat (first | exact Ext.refl _ | (refine Ext.alloc ?_ _) | (refine Ext.trans ?_ (by assumption))))
          have hO0 : W2.rowIs wo.heap.size 47 (n * 2) (outF (fun _ => 0) (fun _ => 0)) := by
            rw [← hW2]; exact (rowIs_madeSpan wo n).alloc _
          have hD0 : W2.rowIs (wo.heap.size + 1) 41 n (fun _ => .slice none 0 0) := by
            rw [← hW2]
            have := World.rowIs_made (wo.alloc (.cells (madeCells #[.int .i64 0, .int .i64 0] (n * 2)) 47)) (.slice none 0 0) n 41
            rwa [World.size_alloc] at this
          clear hW2
          have hz2 := Nat.le_of_eq hs2.symm
          clear hs2
          generalize hOb : wo.heap.size = O at *
          have hO1 := Nat.le_of_eq hOb
          have hO2 := Nat.le_of_eq hOb.symm
          have hsO : s < O := by have := hcb.lt; omega
          have hCo : CalAt wo A ca A' cb c := hC.ext hE1
          have hTo := hT.ext hE1
          clear hC hT hOb
          generalize hsp : (fun i => c.spans (f i)) = sp at *
          have HSP : Hid (∀ i, c.spans (f i) = sp i) := fun i => congrFun hsp i
          clear hsp
          have hS0 : SerR wo W2 O n 0 sp (fun _ => 0) (fun _ => 0) (fun _ => .slice none 0 0) := ⟨hE2, by omega, hO0, hD0.congr (fun _ _ => rfl), fun j h => absurd h (by omega)⟩
          clear hO0 hD0 hE2
          go_loopw [11, 47] (fun e i wr => ∃ k : Nat, k ≤ n ∧ i = .int .i64 k ∧ e = .int .i64 (early sp k) ∧ 1 ≤ early sp k ∧ NoFail sp k ∧ ∃ vs, SerR wo wr O n k sp (fun j => if j < k then early sp (j + 1) else 0) (fun _ => 0) vs) (fun _ i _ => n - (intOf i).toNat)
          case atStart => exact ⟨0, Nat.zero_le _, rfl, rfl, Int.le_refl _, (fun j h => absurd h (by omega)), _, hS0⟩
          case round =>
            clear hS0
            obtain ⟨k, hk, rfl, rfl, he1, hNF, vs, hS⟩ := hrel
            obtain ⟨w1, rfl⟩ : ∃ w1 : World, w1 = wr := ⟨_, rfl⟩
            by_cases hlt : k < n
            · obtain ⟨b, off, rfl, hbl, c0, c1, c2, c3, c4, c5, c6⟩ := Tr.row (hTo.ext hS.e) hlt
              obtain ⟨k0, k1⟩ := (hcb.ext hS.e).c2
              have hka := ok_af (hOn.out k hlt)
              have hsw := (hcb.ext hS.e).lt
              go_wp2_with (fail)
              refine (spans_own _ _ _ _ c (f k) _ (hCo.ext (hS.e.alloc _)) HL.out HY.out HK.out hka.1 hka.2).mono ?_
              rintro e w4 ⟨v, rfl, h4, hr4⟩
              rw [HSP.out] at hr4
              have hS4 := (hS.ext ((Ext.refl w1).alloc _)).ext h4
              have hr5 := World.ownsRow.mono (base' := O + 1 + 1) hr4 (by have := hS.z; simp; omega)
              have hd4 := hS4.d.cell hlt
              rw [if_neg (by omega)] at hd4
              have hf4 := hS4.d.frozen k
              have hS5 := hS4.days hO1 hr5
              clear hS hr4 h4 c0 c1 c2 c3 c4 c5 c6 k0 k1
              obtain ⟨A2, cap2, rfl, -, -, -⟩ := spansAt_own hr5
              clear hr5 hS4
              go_upto_region 19 with (fail)
              generalize World.setCell w4 _ _ = w5 at *
              clear hd4 hf4
              have hd5 := hS5.d.cell hlt
              rw [if_pos (by omega), if_pos rfl] at hd5
              generalize hvs : (fun j => if j = k then Value.slice A2 (sp k).length cap2 else vs j) = vs' at *
              have hvk : vs' k = .slice A2 (sp k).length cap2 := by rw [← hvs]; exact if_pos rfl
              have HVK := Lib.hid hvk
              clear hvs hvk
              have hlk : (sp k).length ≤ 9223372036854775807 := by
                obtain ⟨A4, cap4, e4, -, h5, h6⟩ := spansAt_own (hS5.r k (by omega))
                unfold maxLen at h6; omega
              go_wp2
              go_loopw [14, 63] (fun d i wr => ∃ m : Nat, m ≤ (sp k).length ∧ i = .int .i64 m ∧ d = .int .i64 0 ∧ Before (sp k) (early sp k) m ∧ SerR wo wr O n (k + 1) sp (fun j => if j < k then early sp (j + 1) else 0) (fun _ => 0) vs') (fun _ i _ => (sp k).length - (intOf i).toNat)
              case atStart => exact ⟨0, Nat.zero_le _, rfl, rfl, (fun j h => absurd h (by omega)), hS5⟩
              case round =>
                clear hS5 hd5
                obtain ⟨m, hm, rfl, rfl, hBf, hS⟩ := hrel
                obtain ⟨w6, rfl⟩ : ∃ w6 : World, w6 = wr := ⟨_, rfl⟩
                by_cases hml : m < (sp k).length
                · have hsa := spansAt_own (hS.r k (by omega))
                  rw [HVK.out] at hsa
                  obtain ⟨b3, off3, rfl, hb3, a0, a1⟩ := spans_cell hsa hml
                  clear hsa
                  generalize hx : (sp k).getD m ⟨0, 0⟩ = x at *
                  by_cases hxe : early sp k ≤ x.b
                  · have hxd : decide (early sp k ≤ x.b) = true := decide_eq_true hxe
                    have hfx : Hid (early sp (k + 1) = max x.a (early sp k)) := firstFrom_here hml hBf (by rw [hx]; exact hxe) |>.trans (by rw [hx])
                    have hSa := hS.ext (w' := w6.alloc (.cells #[.int .i64 x.a, .int .i64 x.b] 47)) (by repeat (first | exact Ext.refl _ | (refine Ext.alloc ?_ _) | (refine Ext.trans ?_ (by assumption))))
                    have ho := hSa.o.cell (i := k * 2) (by omega)
                    rw [outF_first] at ho
                    have hfo := hSa.o.frozen (k * 2)
                    have hOl := hS.o.lt
                    by_cases hab : x.a < early sp k
                    · have hmx : Hid (early sp (k + 1) = early sp k) := hfx.out.trans (by omega)
                      have hbz : (early sp k == 0) = false := beq_eq_false_iff_ne.2 (by omega)
                      have hS7 := ((hS.first hO1 k (early sp k)).upF (serF_step hmx.out)).ext ((Ext.refl _).alloc (.cells #[.int .i64 x.a, .int .i64 x.b] 47))
                      clear hfx hx
                      have hmm : max x.a (early sp k) = early sp k := by omega
                      go_wp2
                      exact ⟨⟨k + 1, by omega, by go_num, by rw [hmx.out], by rw [hmx.out]; exact he1, noFail_snoc hNF (by rw [hmx.out]; omega), _, hS7⟩, by simp [intOf]; omega⟩
                    · have hab' : early sp k ≤ x.a := by omega
                      have hmx : Hid (early sp (k + 1) = x.a) := hfx.out.trans (by omega)
                      have hbz : (x.a == 0) = false := beq_eq_false_iff_ne.2 (by omega)
                      have hS7 := ((hS.first hO1 k x.a).upF (serF_step hmx.out)).ext ((Ext.refl _).alloc (.cells #[.int .i64 x.a, .int .i64 x.b] 47))
                      clear hfx hx hab
                      have hmm : max x.a (early sp k) = x.a := by omega
                      go_wp2
                      exact ⟨⟨k + 1, by omega, by go_num, by rw [hmx.out], by rw [hmx.out]; omega, noFail_snoc hNF (by rw [hmx.out]; omega), _, hS7⟩, by simp [intOf]; omega⟩
                  · have hxd : decide (early sp k ≤ x.b) = false := decide_eq_false hxe
                    have HXE := Lib.hid hxe
                    have HX := Lib.hid hx
                    clear hxe hx
                    go_wp2
                    exact ⟨⟨m + 1, by omega, by go_num, rfl, before_snoc hBf (by rw [HX.out]; have := HXE.out; omega), hS.ext (by repeat (first | exact Ext.refl _ | (refine Ext.alloc ?_ _) | (refine Ext.trans ?_ (by assumption))))⟩, by simp [intOf]; omega⟩
                · have hfl : Hid (early sp (k + 1) = 0) := firstFrom_none (e := early sp k) (fun j hj => hBf j (by omega))
                  go_wp2
                  go_ret2
                  have HR2 : c.serE f n = 73 := by rw [HR.out, serOk_yes hOn.out, serFail_yes hlt hfl.out]; rfl
                  exact ⟨_, by rw [HR2]; rfl, hE1.trans hS.e, by unfold Cal.serV; rw [HR2]; exact spansAt_nil _⟩
            · obtain rfl : k = n := by omega
              have HR2 : Hid (c.serE f k = 0) := by unfold Hid; rw [HR.out, serOk_yes hOn.out, serFail_no hNF]; rfl
              have HV2 : Hid (c.serV f k = serL sp k) := by
                unfold Hid Cal.serV
                rw [HR2.out, if_pos rfl]
                congr 1
                exact funext HSP.out
              clear hNF hlt hk
              go_wp2
              go_loopw [17, 18] (fun e i wr => ∃ j : Nat, j ≤ k ∧ i = .int .i64 ((j : Int) - 1) ∧ e = .int .i64 (late sp k j) ∧ SerR wo wr O k k sp (fun j => if j < k then early sp (j + 1) else 0) (lateF sp k j) vs) (fun _ i _ => (intOf i + 1).toNat)
              case atStart => exact ⟨k, Nat.le_refl _, rfl, by rw [late_top], hS.upL (lateF_top sp k).symm⟩
              case round =>
                clear hS
                obtain ⟨j, hj, rfl, rfl, hS⟩ := hrel
                obtain ⟨w1, rfl⟩ : ∃ w1 : World, w1 = wr := ⟨_, rfl⟩
                cases j with
                | zero =>
                  go_wp2
                  go_ret2
                  refine ⟨_, by rw [HR2.out]; rfl, hE1.trans hS.e, ?_⟩
                  rw [HV2.out]
                  exact serL_at hS.o (by unfold maxLen; omega)
                | succ j =>
                  rw [show ((j + 1 : Nat) : Int) - 1 = j by omega]
                  have hd5 := hS.d.cell (i := j) (by omega)
                  rw [if_pos (by omega)] at hd5
                  have hsa := spansAt_own (hS.r j (by omega))
                  obtain ⟨A2, cap2, hvj, -, hle2, hmx2⟩ := hsa
                  rw [hvj] at hd5
                  have HVJ := Lib.hid hvj
                  have hlk : (sp j).length ≤ 9223372036854775807 := by unfold maxLen at hmx2; omega
                  clear hvj hmx2 hle2
                  go_wp2
                  go_loopw [97] (fun i wr => ∃ m : Nat, m ≤ (sp j).length ∧ i = .int .i64 m ∧ SerR wo wr O k k sp (fun j => if j < k then early sp (j + 1) else 0) (inL sp k j m) vs) (fun i _ => (sp j).length - (intOf i).toNat)
                  case atStart => exact ⟨0, Nat.zero_le _, rfl, hS.upL (inL_zero sp k j).symm⟩
                  case round =>
                    clear hS hd5
                    obtain ⟨m, hm, rfl, hS⟩ := hrel
                    obtain ⟨w6, rfl⟩ : ∃ w6 : World, w6 = wr := ⟨_, rfl⟩
                    by_cases hml : m < (sp j).length
                    · have hsa := spansAt_own (hS.r j (by omega))
                      rw [HVJ.out] at hsa
                      obtain ⟨b3, off3, rfl, hb3, a0, a1⟩ := spans_cell hsa hml
                      clear hsa
                      have hst := lastTo_step (late sp k (j + 1)) (sp j) m hml
                      generalize hx : (sp j).getD m ⟨0, 0⟩ = x at *
                      have HX := Lib.hid hx
                      clear hx
                      have ho := hS.o.cell (i := j * 2 + 1) (by omega)
                      rw [outF_last] at ho
                      have hfo := hS.o.frozen (j * 2 + 1)
                      have hOl := hS.o.lt
                      by_cases hxe : x.a ≤ late sp k (j + 1)
                      · have hxd : decide (x.a ≤ late sp k (j + 1)) = true := decide_eq_true hxe
                        rw [if_pos hxe] at hst
                        by_cases hab : x.b ≤ late sp k (j + 1)
                        · have hmx : Hid (lastTo (late sp k (j + 1)) ((sp j).take (m + 1)) = x.b) := hst.trans (by omega)
                          clear hst
                          have hS7 := ((hS.last hO1 j x.b).upL (inL_set hmx.out)).ext ((Ext.refl _).alloc (.cells #[.int .i64 x.a, .int .i64 x.b] 47))
                          have hmm : min x.b (late sp k (j + 1)) = x.b := by omega
                          go_wp2
                          exact ⟨⟨m + 1, by omega, by go_num, hS7⟩, by simp [intOf]; omega⟩
                        · have hab' : late sp k (j + 1) < x.b := by omega
                          have hmx : Hid (lastTo (late sp k (j + 1)) ((sp j).take (m + 1)) = late sp k (j + 1)) := hst.trans (by omega)
                          clear hst hab
                          have hS7 := ((hS.last hO1 j (late sp k (j + 1))).upL (inL_set hmx.out)).ext ((Ext.refl _).alloc (.cells #[.int .i64 x.a, .int .i64 x.b] 47))
                          have hmm : min x.b (late sp k (j + 1)) = late sp k (j + 1) := by omega
                          go_wp2
                          exact ⟨⟨m + 1, by omega, by go_num, hS7⟩, by simp [intOf]; omega⟩
                      · have hxd : decide (x.a ≤ late sp k (j + 1)) = false := decide_eq_false hxe
                        rw [if_neg hxe] at hst
                        have HST := Lib.hid hst
                        clear hst hxe
                        have hS7 := (hS.upL (inL_same HST.out)).ext ((Ext.refl _).alloc (.cells #[.int .i64 x.a, .int .i64 x.b] 47))
                        go_wp2
                        exact ⟨⟨m + 1, by omega, by go_num, hS7⟩, by simp [intOf]; omega⟩
                    · obtain rfl : m = (sp j).length := by omega
                      have hS7 := hS.upL (inL_full (show j < k by omega))
                      have ho := hS7.o.cell (i := j * 2 + 1) (by omega)
                      rw [outF_last, lateF_at (show j < k by omega)] at ho
                      clear hS
                      go_wp2
                      exact ⟨⟨j, by omega, by go_num, rfl, hS7⟩, by first | (simp [intOf]; done) | (simp [intOf]; omega)⟩
end Go.Proofs.YtlnjeklmkjgidaaDoor

namespace Go.Proofs.YtlnjeklmkjgidaaDoor

structure SpOk (l : List Sp) : Prop where
  ok : ∀ s, s ∈ l → 1 ≤ s.a ∧ s.a ≤ s.b ∧ s.b ≤ 156000
  pw : l.Pairwise (fun s s' => s.b + 2 ≤ s'.a)
def inS (l : List Sp) (n : Int) : Prop := ∃ s, s ∈ l ∧ s.a ≤ n ∧ n ≤ s.b
theorem SpOk.tail {s : Sp} {l : List Sp} (h : SpOk (s :: l)) : SpOk l := ⟨fun x hx => h.ok x (List.mem_cons_of_mem _ hx), (List.pairwise_cons.1 h.pw).2⟩
theorem SpOk.two {l : List Sp} (h : SpOk l) {s s' : Sp} (hs : s ∈ l) (hs' : s' ∈ l) : s = s' ∨ s.b + 2 ≤ s'.a ∨ s'.b + 2 ≤ s.a := by
  obtain ⟨i, hi, rfl⟩ := List.mem_iff_getElem.1 hs
  obtain ⟨j, hj, rfl⟩ := List.mem_iff_getElem.1 hs'
  have hp := List.pairwise_iff_getElem.1 h.pw
  rcases Nat.lt_trichotomy i j with h1 | h1 | h1
  · exact .inr (.inl (hp i j hi hj h1))
  · subst h1; exact .inl rfl
  · exact .inr (.inr (hp j i hj hi h1))
theorem SpOk.in {l : List Sp} (h : SpOk l) {n : Int} (hn : inS l n) : 1 ≤ n ∧ n ≤ 156000 := by
  obtain ⟨s, hs, h1, h2⟩ := hn
  have := h.ok s hs
  omega
theorem firstFrom_le : ∀ {l : List Sp} {e n : Int}, SpOk l → 1 ≤ e → e ≤ n → inS l n → firstFrom l e ≤ n ∧ 1 ≤ firstFrom l e
  | [], _, _, _, _, _, h => by obtain ⟨s, hs, _⟩ := h; cases hs
  | s :: l, e, n, h, h1, h2, hn => by
    have h0 := h.ok s (List.mem_cons_self ..)
    obtain ⟨z, hz, h3, h4⟩ := hn
    rw [firstFrom]
    split
    · refine ⟨?_, by omega⟩
      rcases List.mem_cons.1 hz with rfl | hz
      · omega
      · have := (List.pairwise_cons.1 h.pw).1 z hz
        omega
    · rcases List.mem_cons.1 hz with rfl | hz
      · omega
      · exact firstFrom_le h.tail h1 h2 ⟨z, hz, h3, h4⟩
theorem lastTo_go (e : Int) : ∀ (l : List Sp) (acc : Int), SpOk l → (l.foldl (fun acc s => if s.a ≤ e then min s.b e else acc) acc = acc ∧ ∀ s, s ∈ l → e < s.a) ∨
    ∃ s, s ∈ l ∧ s.a ≤ e ∧ l.foldl (fun acc s => if s.a ≤ e then min s.b e else acc) acc = min s.b e ∧ ∀ s', s' ∈ l → s'.a ≤ e → s'.a ≤ s.a
  | [], _, _ => .inl ⟨rfl, fun _ h => by cases h⟩
  | s :: l, acc, h => by
    have h0 := h.ok s (List.mem_cons_self ..)
    rw [List.foldl_cons]
    rcases lastTo_go e l (if s.a ≤ e then min s.b e else acc) h.tail with ⟨h1, h2⟩ | ⟨z, hz, h1, h2, h3⟩
    · by_cases hs : s.a ≤ e
      · rw [if_pos hs] at h1 ⊢
        refine .inr ⟨s, List.mem_cons_self .., hs, h1, fun s' hs' he => ?_⟩
        rcases List.mem_cons.1 hs' with rfl | hs'
        · exact Int.le_refl _
        · have := h2 s' hs'; omega
      · rw [if_neg hs] at h1 ⊢
        refine .inl ⟨h1, fun s' hs' => ?_⟩
        rcases List.mem_cons.1 hs' with rfl | hs'
        · omega
        · exact h2 s' hs'
    · refine .inr ⟨z, List.mem_cons_of_mem _ hz, h1, h2, fun s' hs' he => ?_⟩
      rcases List.mem_cons.1 hs' with rfl | hs'
      · have := (List.pairwise_cons.1 h.pw).1 z hz; omega
      · exact h3 s' hs' he
theorem lastTo_at {l : List Sp} {e n : Int} (h : SpOk l) (hn : n ≤ e) (hi : inS l n) : n ≤ lastTo e l ∧ lastTo e l ≤ e ∧ inS l (lastTo e l) := by
  obtain ⟨s, hs, h1, h2⟩ := hi
  unfold lastTo
  rcases lastTo_go e l 0 h with ⟨_, h3⟩ | ⟨z, hz, h3, h4, h5⟩
  · have := h3 s hs; omega
  · rw [h4]
    have hz0 := h.ok z hz
    refine ⟨?_, by omega, z, hz, by omega, by omega⟩
    have h6 := h5 s hs (by omega)
    have hs0 := h.ok s hs
    rcases h.two hs hz with rfl | h7 | h7
    · omega
    · omega
    · omega

/-- Days that fit one after the other. -/
def Asg (sp : Nat → List Sp) (n : Nat) (D : Nat → Int) : Prop := (∀ i, i < n → inS (sp i) (D i)) ∧ ∀ i, i + 1 < n → D i ≤ D (i + 1)
section
variable {sp : Nat → List Sp} {n : Nat} {D : Nat → Int}
theorem early_le (hS : ∀ i, SpOk (sp i)) (hA : Asg sp n D) : ∀ i, i < n → early sp (i + 1) ≤ D i ∧ 1 ≤ early sp (i + 1)
  | 0, hi => by
    have h1 := (hS 0).in (hA.1 0 hi)
    exact firstFrom_le (hS 0) (Int.le_refl 1) h1.1 (hA.1 0 hi)
  | i + 1, hi => by
    have ih := early_le hS hA i (by omega)
    have h1 := hA.2 i hi
    exact firstFrom_le (hS (i + 1)) ih.2 (by omega) (hA.1 (i + 1) hi)
theorem late_ge (hS : ∀ i, SpOk (sp i)) (hA : Asg sp n D) : ∀ k i, i + k + 1 = n → D i ≤ late sp n i ∧ late sp n i ≤ late sp n (i + 1) ∧ inS (sp i) (late sp n i)
  | 0, i, hi => by
    have h0 := hA.1 i (by omega)
    rw [late_step (show i < n by omega)]
    refine lastTo_at (hS i) ?_ h0
    rw [show i + 1 = n by omega, late_top]
    exact ((hS i).in h0).2
  | k + 1, i, hi => by
    have h0 := hA.1 i (by omega)
    have ih := late_ge hS hA k (i + 1) (by omega)
    rw [late_step (show i < n by omega)]
    refine lastTo_at (hS i) ?_ h0
    have := hA.2 i (by omega)
    omega
theorem asg_fail (hS : ∀ i, SpOk (sp i)) (hA : Asg sp n D) : serFail sp n = false := serFail_no (fun j hj => by have := (early_le hS hA j hj).2; omega)
end
theorem spans_ok {c : Cal} (hv : c.ny ≤ 400) (t : Tr) : SpOk (c.spans t) := by
  have hg := spans_good c t
  have hb := dayAt_bd c c.ny
  exact ⟨fun s hs => by have := hg.ok s hs; omega, hg.pw⟩
end Go.Proofs.YtlnjeklmkjgidaaDoor

namespace Go.Proofs.YtlnjeklmkjgidaaDoor

def bringI (n m : Int) : Int := if m < 1 then 0 else (if n.tmod m < 0 then n.tmod m + m else n.tmod m)
theorem bringI_bd {n m : Int} (h : 0 < m) : 0 ≤ bringI n m ∧ bringI n m < m := by
  have h1 := Int.tmod_lt_of_pos n h
  have h2 := Int.lt_tmod_of_pos n h
  unfold bringI
  rw [if_neg (by omega)]
  split <;> omega
theorem ok_iff {t : Tr} : t.ok = true ↔ (0 ≤ t.d ∧ t.d ≤ 30 ∧ (t.more = true → 0 < t.d) ∧ 0 ≤ t.m ∧ t.m ≤ 12 ∧ (t.s = true → 0 < t.m) ∧ (emptyB t.nm = true ∨ isName t.nm = true) ∧ 0 ≤ t.af ∧ t.af ≤ 3 ∧ (emptyB t.nm = true → t.af = 0) ∧ (emptyB t.kg = true ∨ isName t.kg = true)) := by
  simp only [Tr.ok, Bool.and_eq_true, decide_eq_true_eq, Bool.or_eq_true, Bool.not_eq_true', and_assoc]
  cases t.more <;> cases t.s <;> cases emptyB t.nm <;> simp
end Go.Proofs.YtlnjeklmkjgidaaDoor

namespace Go.Proofs.YtlnjeklmkjgidaaDoor
open Go Go.RowKit Go.Shelf
attribute [local go_sem] gv_yes

end Go.Proofs.YtlnjeklmkjgidaaDoor

namespace Go.Proofs.YtlnjeklmkjgidaaDoor

end Go.Proofs.YtlnjeklmkjgidaaDoor

namespace Go.Proofs.YtlnjeklmkjgidaaDoor
open Go Go.RowKit Go.Shelf
attribute [local go_sem] gv_yes

section
variable {W w : World} {b : Nat} {t : TypeId} {v0 v1 v2 v3 v4 v5 : Value}
end
structure HeldS (W : World) (b : Nat) (t : TypeId) (cs : Array Value) : Prop where
  out : Held W b t cs
end Go.Proofs.YtlnjeklmkjgidaaDoor

namespace Go.Proofs.YtlnjeklmkjgidaaDoor
open Go Go.RowKit Go.Shelf
attribute [local go_sem] gv_yes

end Go.Proofs.YtlnjeklmkjgidaaDoor

namespace Go.Proofs.YtlnjeklmkjgidaaDoor

structure Lt where
  g : ByteArray
  n : Int
  deriving DecidableEq
end Go.Proofs.YtlnjeklmkjgidaaDoor

namespace Go.Proofs.YtlnjeklmkjgidaaDoor

end Go.Proofs.YtlnjeklmkjgidaaDoor

namespace Go.Proofs.YtlnjeklmkjgidaaDoor
open Go Go.RowKit Go.Shelf
attribute [local go_sem] gv_yes

end Go.Proofs.YtlnjeklmkjgidaaDoor

namespace Go.Proofs.YtlnjeklmkjgidaaDoor
open Go Go.RowKit

set_option maxRecDepth 100000 in
theorem eqIn_ratio (w : World) (x0 y0 : Int) (x1 y1 : Int) : (Op.equalIn 10000 52 (.agg #[.int .i64 x0, .int .i64 x1]) (.agg #[.int .i64 y0, .int .i64 y1])).run Tryd.prog w = .ok ((x0 == y0) && (x1 == y1)) w := by
  go_simp
  by_cases h0 : x0 = y0
  rotate_left
  · simp [h0]
  by_cases h1 : x1 = y1
  rotate_left
  · simp [h1]
  simp [h0, h1]
theorem eql_ratio (w : World) (x0 y0 : Int) (x1 y1 : Int) : (binOp .eql 52 (.agg #[.int .i64 x0, .int .i64 x1]) (.agg #[.int .i64 y0, .int .i64 y1])).run Tryd.prog w = .ok (.bool ((x0 == y0) && (x1 == y1))) w := by rw [run_eql_struct, eqIn_ratio]; rfl
end Go.Proofs.YtlnjeklmkjgidaaDoor

namespace Go.Proofs.YtlnjeklmkjgidaaDoor
open Go Go.RowKit Go.Shelf
attribute [local go_sem] gv_yes
attribute [local go_sem high] eql_ratio

theorem bringT_any (n m : Int) (w : World) (hm : 1 ≤ m) (hm2 : m ≤ 9223372036854775807) : Calls Tryd.prog 13 #[.int .i64 n, .int .i64 m] w fun e w' => e = .returned (.int .i64 (bringI n m)) ∧ Ext w w' := by
  have h1 := Int.tmod_lt_of_pos n (show 0 < m by omega)
  have h2 := Int.lt_tmod_of_pos n (show 0 < m by omega)
  have HR : Hid (bringI n m = if n.tmod m < 0 then n.tmod m + m else n.tmod m) := by unfold Hid bringI; rw [if_neg (by omega)]
  by_cases hn : n.tmod m < 0
  · go_enter Tryd.func13, Tryd.ntmps13
    go_wp2
    go_ret
    exact ⟨ret_int (by rw [HR.out, if_pos hn]), Ext.refl _⟩
  · go_enter Tryd.func13, Tryd.ntmps13
    go_wp2
    go_ret
    exact ⟨ret_int (by rw [HR.out, if_neg (by omega)]), Ext.refl _⟩
def yrT : Nat → Yr
  | 0 => ⟨0, ⟨#[97]⟩, 4095, 0⟩
  | _ => ⟨0, ⟨#[98]⟩, 4095, 0⟩
def calT : Cal := ⟨1, fun _ => ⟨#[117, 114]⟩, 2, yrT⟩
theorem eT_sch : calT.schV ⟨0, 1, false, 1⟩ ⟨0, 7, false, 1⟩ = 180 := by kernel_rfl
theorem eT_err : calT.in2E ⟨0, 1, false, 1⟩ ⟨0, 7, false, 1⟩ = 0 := by kernel_rfl
theorem eT_int : intV ⟨60, 1⟩ ⟨1, 5⟩ 180 = (⟨6, 1⟩, 0) := by kernel_rfl
theorem wT_sch {A A' : Option Addr} {ca cb : Nat} {w : World} (hC : CalAt w A ca A' cb calT) : Calls Tryd.prog 56 #[.agg #[.slice A 1 ca, .slice A' 2 cb], .agg #[.int .i64 0, .int .i64 1, .bool false, .int .i64 1], .agg #[.int .i64 0, .int .i64 7, .bool false, .int .i64 1]] w fun e w' => e = .returned (.tuple #[.int .i64 180, .int .i64 0]) ∧ Ext w w' := by
  have := schemeX_any A A' ca cb calT ⟨0, 1, false, 1⟩ ⟨0, 7, false, 1⟩ w hC
  rw [eT_sch, eT_err] at this
  exact this
theorem rows_heldT {w : World} {b : Nat} {t : TypeId} {cs : Array Value} {n sz : Nat} {f : Nat → List Value} (h : Held w b t cs) (hf : ∀ i j v, i < n → (f i)[j]? = some v → cs[i * sz + j]? = some v) : RowsAt w (some ⟨b, 0, none⟩) n sz f :=
  fun _ => ⟨b, 0, rfl, h.lt, fun i j v hi hv => by rw [Nat.zero_add, h.cell]; exact hf i j v hi hv⟩
theorem calT_at {w : World} {b1 b2 : Nat} (h1 : Held w b1 9 #[.string ⟨#[117, 114]⟩]) (h2 : Held w b2 110 #[.int .i64 0, .string ⟨#[97]⟩, .int .i64 4095, .int .i64 0, .int .i64 0, .string ⟨#[98]⟩, .int .i64 4095, .int .i64 0]) : CalAt w (some ⟨b1, 0, none⟩) 1 (some ⟨b2, 0, none⟩) 2 calT := by
  refine ⟨rows_heldT h1 ?_, rows_heldT h2 ?_, by decide, by decide, by decide, by decide⟩
  · intro i j v hi hv
    have hi : i < 1 := hi
    have hj : j < 1 := (List.getElem?_eq_some_iff.1 hv).1
    rw [← hv]
    obtain rfl : i = 0 := by omega
    obtain rfl : j = 0 := by omega
    rfl
  · intro i j v hi hv
    have hi : i < 2 := hi
    have hj : j < 4 := (List.getElem?_eq_some_iff.1 hv).1
    rw [← hv]
    have h1 : i = 0 ∨ i = 1 := by omega
    have h2 : j = 0 ∨ j = 1 ∨ j = 2 ∨ j = 3 := by omega
    rcases h1 with rfl | rfl <;> rcases h2 with rfl | rfl | rfl | rfl <;> rfl
set_option maxRecDepth 100000 in
set_option maxHeartbeats 4000000 in
theorem lent_any (w : World) (hZ : Zro w) : Calls Tryd.prog 18 #[] w fun e w' => e = .returned (.bool true) ∧ Ext w w' := by
  go_enter Tryd.func18, Tryd.ntmps18
  go_upto_region 2 with (fail)
  obtain ⟨v, hv⟩ : ∃ x, x = (((w.alloc (.cells #[.string ⟨#[117, 114]⟩] 9)).alloc (.cells #[.int .i64 0, .string ⟨#[97]⟩, .int .i64 4095, .int .i64 0, .int .i64 0, .string ⟨#[98]⟩, .int .i64 4095, .int .i64 0] 110)).alloc (.cells #[.slice (some ⟨w.heap.size, 0, none⟩) 1 1, .slice (some ⟨w.heap.size + 1, 0, none⟩) 2 2] 25)) := ⟨_, rfl⟩
  rw [← hv]
  have E : Ext w v := by rw [hv]; exact (((Ext.refl _).alloc _).alloc _).alloc _
  have K1 : Held v w.heap.size 9 #[.string ⟨#[117, 114]⟩] := by rw [hv]; exact ((Held.new _ _ _).alloc _).alloc _
  have K2 : Held v (w.heap.size + 1) 110 #[.int .i64 0, .string ⟨#[97]⟩, .int .i64 4095, .int .i64 0, .int .i64 0, .string ⟨#[98]⟩, .int .i64 4095, .int .i64 0] := by rw [hv]; exact (Held.at _ _ _ _ (by simp)).alloc _
  have B1 : Held v (w.heap.size + 1 + 1) 25 #[.slice (some ⟨w.heap.size, 0, none⟩) 1 1, .slice (some ⟨w.heap.size + 1, 0, none⟩) 2 2] := by rw [hv]; exact Held.at _ _ _ _ (by simp)
  clear hv
  have C := calT_at K1 K2
  have Z := hZ.ext E
  clear K1 K2
  obtain ⟨k0, k1⟩ := B1.c2
  have kl := B1.lt
  have NI := fun w hz => interest_any ⟨60, 1⟩ ⟨1, 5⟩ 180 (by unfold Rt.In; decide) (by unfold Rt.In; decide) (by decide) (by decide) w hz
  simp only [eT_int] at NI
  go_upto_region 4 with (first | (go_at_call 56; (with_reducible refine Calls.mono (wT_sch C) ?_); rintro e w2 ⟨rfl, h2⟩) | (go_at_call 22; (with_reducible refine Calls.mono (NI _ (Z.ext h2)) ?_); rintro e w3 ⟨rfl, h3⟩))
  obtain ⟨v4, hv⟩ : ∃ x, x = (w3.alloc (.cells #[.int .i64 6, .int .i64 1] 52)) := ⟨_, rfl⟩
  rw [← hv]
  have h4 : Ext w3 v4 := by rw [hv]; exact (Ext.refl _).alloc _
  have B4 : Held v4 w3.heap.size 52 #[.int .i64 6, .int .i64 1] := by rw [hv]; exact Held.new _ _ _
  clear hv
  obtain ⟨x0, x1⟩ := B4.c2
  have lx := B4.lt
  go_wp2
  go_ret
  exact ⟨rfl, ((E.trans h2).trans h3).trans h4⟩
end Go.Proofs.YtlnjeklmkjgidaaDoor

namespace Go.Proofs.YtlnjeklmkjgidaaDoor
open Go Go.RowKit Go.Shelf
attribute [local go_sem] gv_yes

/-- A number in decimal; some plus signs. -/
def dg (n : Nat) : ByteArray := ⟨(Lib.decDigits n).toArray⟩
def rp (n : Nat) : ByteArray := ⟨(Lib.repeatL [43] n).toArray⟩
theorem dg_size {n : Nat} (h : n ≤ 30) : (dg n).size ≤ 2 := by
  show (Lib.decDigits n).length ≤ 2
  rw [Lib.decDigits]
  split
  · simp
  · rw [Lib.decDigits, dif_pos (by omega)]; simp
theorem rp_size (n : Nat) : (rp n).size = n := by
  show (Lib.repeatL [43] n).length = n
  rw [Lib.repeatL_length]; simp
theorem itoa_any (n : Nat) (w : World) (hn : n ≤ 30) : Calls Tryd.prog 126 #[.int .i64 n] w fun e w' => e = .returned (.string (dg n)) ∧ w = w' :=
  (Tryd.strconv_Itoa_small n (by omega) w).mono fun _ _ ⟨h1, h2⟩ => ⟨h1, h2.symm⟩
theorem rep_any (n : Nat) (w : World) (hn : n ≤ 3) : Calls Tryd.prog 99 #[.string ⟨#[43]⟩, .int .i64 n] w fun e w' => e = .returned (.string (rp n)) ∧ Ext w w' :=
  (Tryd.strings_Repeat ⟨#[43]⟩ n w (by omega) (by show 1 * n ≤ _; omega)).mono fun _ _ ⟨h1, h2⟩ => ⟨h1, h2⟩
def partS (n : Nat) (mark : ByteArray) (b : Bool) : ByteArray := if n = 0 then ⟨#[45]⟩ else dg n ++ (if b then mark else ⟨#[]⟩)
theorem partS_size {n : Nat} {mark : ByteArray} {b : Bool} (hn : n ≤ 30) (hm : mark.size ≤ 1) : (partS n mark b).size ≤ 3 := by
  have := dg_size hn
  unfold partS
  split
  · show 1 ≤ 3; omega
  · rw [ByteArray.size_append]
    have h0 : (⟨#[]⟩ : ByteArray).size = 0 := rfl
    split
    · omega
    · omega
theorem part_any (n : Nat) (mark : ByteArray) (b : Bool) (w : World) (hn : n ≤ 30) (hm : mark.size ≤ 1) :
    Calls Tryd.prog 100 #[.int .i64 n, .string mark, .bool b] w fun e w' => e = .returned (.string (partS n mark b)) ∧ w = w' := by
  by_cases h0 : n = 0
  · subst h0
    go_enter Tryd.func100, Tryd.ntmps100
    go_wp2
    go_ret
    exact ⟨rfl, rfl⟩
  · have hb : ((n : Int) == 0) = false := beq_eq_false_iff_ne.2 (by omega)
    have hd := dg_size hn
    have HP : Hid (partS n mark b = dg n ++ (if b then mark else ⟨#[]⟩)) := if_neg h0
    clear h0
    cases b
    all_goals
      go_enter Tryd.func100, Tryd.ntmps100
      go_wp2_with (go_at_call 126; refine (itoa_any n _ hn).mono ?_; rintro e w' ⟨rfl, rfl⟩)
      go_ret
      exact ⟨by rw [HP.out]; rfl, rfl⟩
def yearS (t : Tr) : ByteArray := if emptyB t.nm then ⟨#[45]⟩ else rp t.af.toNat ++ t.nm
def kingS (t : Tr) (y : ByteArray) : ByteArray := if emptyB t.kg then y else y ++ (⟨#[64]⟩ ++ t.kg)
def textS (t : Tr) : ByteArray := partS t.d.toNat ⟨#[43]⟩ t.more ++ ⟨#[47]⟩ ++ partS t.m.toNat ⟨#[98]⟩ t.s ++ ⟨#[47]⟩ ++ kingS t (yearS t)
theorem ok_name {s : ByteArray} (h : isName s = true) : s.size ≤ 16 := by
  simp only [isName, Bool.and_eq_true, decide_eq_true_eq] at h
  exact h.1.1.2
theorem empty_size {s : ByteArray} (h : emptyB s = true) : s.size = 0 := by
  simp [emptyB] at h
  show s.data.size = 0
  rw [h]; rfl
structure OkB (t : Tr) : Prop where
  d0 : 0 ≤ t.d
  d1 : t.d ≤ 30
  m0 : 0 ≤ t.m
  m1 : t.m ≤ 12
  a0 : 0 ≤ t.af
  a1 : t.af ≤ 3
  nm : t.nm.size ≤ 16
  kg : t.kg.size ≤ 16
theorem ok_bds {t : Tr} (h : t.ok = true) : OkB t := by
  simp only [Tr.ok, Bool.and_eq_true, Bool.or_eq_true, decide_eq_true_eq] at h
  obtain ⟨⟨⟨⟨⟨⟨⟨⟨⟨⟨h1, h2⟩, h3⟩, h4⟩, h5⟩, h6⟩, h7⟩, h8⟩, h9⟩, h10⟩, h11⟩ := h
  refine ⟨h1, h2, h4, h5, h8, h9, ?_, ?_⟩
  · rcases h7 with h | h
    · have := empty_size h; omega
    · exact ok_name h
  · rcases h11 with h | h
    · have := empty_size h; omega
    · exact ok_name h
set_option maxRecDepth 100000 in
set_option maxHeartbeats 1000000 in
theorem text_11 {d m af : Int} {more s : Bool} {nm kg p q r R : ByteArray} (w : World) (hnm : nm.size ≤ 16) (hkg : kg.size ≤ 16) (hp1 : p.size ≤ 3) (hp2 : q.size ≤ 3) (hrp : r.size ≤ 3)
    (cp : ∀ w, Calls Tryd.prog 100 #[.int .i64 d, .string ⟨#[43]⟩, .bool more] w fun e w' => e = .returned (.string p) ∧ w = w')
    (cq : ∀ w, Calls Tryd.prog 100 #[.int .i64 m, .string ⟨#[98]⟩, .bool s] w fun e w' => e = .returned (.string q) ∧ w = w')
    (cr : ∀ w, Calls Tryd.prog 99 #[.string ⟨#[43]⟩, .int .i64 af] w fun e w' => e = .returned (.string r) ∧ Ext w w')
    (HN : Hid (nm.toList.isEmpty = false)) (HK : Hid (kg.toList.isEmpty = false)) (HT : Hid (R = p ++ ⟨#[47]⟩ ++ q ++ ⟨#[47]⟩ ++ (r ++ nm ++ (⟨#[64]⟩ ++ kg)))) :
    Calls Tryd.prog 51 #[.agg #[.int .i64 d, .bool more, .int .i64 m, .bool s, .string nm, .int .i64 af, .string kg]] w fun e w' => e = .returned (.string R) ∧ Ext w w' := by
  have hne := HN.out
  have hke := HK.out
  go_enter Tryd.func51, Tryd.ntmps51
  go_upto_region 3 with (fail)
  refine wp_region_xw w mixed (by kernel_rfl) (by repeat (first | exact Ext.refl _ | (refine Ext.alloc ?_ _) | (refine Ext.trans ?_ (by assumption)))) ?_
  intro hne hrx hry
  try simp only []
  try simp only [List.append_eq, List.cons_append, List.nil_append]
  have hrx0 := fun u o => hrx u (w.heap.size) o (by first | omega | (simp; done) | (simp; omega))
  skip
  repeat (first
    | go_big_quiet_skip
    | (go_big_quiet_want; go_big_quiet_op; go_big_quiet_on)
    | (go_big_quiet_want; go_big_quiet_op; apply Exists.intro; refine ⟨fun u => ?_, ?_⟩
       · first
           | (go_at_call 99; (with_reducible refine Calls.mono (cr _) ?_); rintro e w' ⟨rfl, hb⟩; exact ⟨rfl, u.back hb⟩)
       go_big_quiet_on))
  clear hne hry hrx hrx0
  refine wpQuiet_nil ?_
  intro wq hq
  obtain ⟨hcwq, hfwq, hzwq⟩ := Ext.rules hq
  try simp only [World.size_alloc] at hzwq
  have hk0wq := fun o => hcwq (w.heap.size) o (by first | omega | (simp; done) | (simp; omega))
  have hj0wq := fun o => hfwq (w.heap.size) o (by first | omega | (simp; done) | (simp; omega))
  have hl0wq : w.heap.size < wq.heap.size := (by first | omega | (simp; done) | (simp; omega))
  obtain ⟨hcbwq, hfbwq, hzbwq⟩ := Ext.rules (show Ext w wq from (by repeat (first | exact Ext.refl _ | (refine Ext.alloc ?_ _) | (refine Ext.trans ?_ (by assumption)))))
  clear hcwq hfwq
  go_upto_region 6 with (fail)
  refine wp_region_xw w mixed (by kernel_rfl) (by repeat (first | exact Ext.refl _ | (refine Ext.alloc ?_ _) | (refine Ext.trans ?_ (by assumption)))) ?_
  intro hne hrx hry
  try simp only []
  try simp only [List.append_eq, List.cons_append, List.nil_append]
  have hrx0 := fun u o => hrx u (w.heap.size) o (by first | omega | (simp; done) | (simp; omega))
  skip
  repeat (first
    | go_big_quiet_skip
    | (go_big_quiet_want; go_big_quiet_op; go_big_quiet_on)
    | (go_big_quiet_want; go_big_quiet_op; apply Exists.intro; refine ⟨fun u => ?_, ?_⟩
       · first
           | (go_at_call 100; (with_reducible refine Calls.mono (cp _) ?_); rintro e w' ⟨rfl, rfl⟩; exact ⟨rfl, u, rfl⟩)
           | (go_at_call 100; (with_reducible refine Calls.mono (cq _) ?_); rintro e w' ⟨rfl, rfl⟩; exact ⟨rfl, u, rfl⟩)
       go_big_quiet_on))
  clear hne hry hrx hrx0
  refine wpQuiet_nil ?_
  intro wz hz
  obtain ⟨hcwz, hfwz, hzwz⟩ := Ext.rules hz
  try simp only [World.size_alloc] at hzwz
  have hk0wz := fun o => hcwz (w.heap.size) o (by first | omega | (simp; done) | (simp; omega))
  have hj0wz := fun o => hfwz (w.heap.size) o (by first | omega | (simp; done) | (simp; omega))
  have hl0wz : w.heap.size < wz.heap.size := (by first | omega | (simp; done) | (simp; omega))
  obtain ⟨hcbwz, hfbwz, hzbwz⟩ := Ext.rules (show Ext w wz from (by repeat (first | exact Ext.refl _ | (refine Ext.alloc ?_ _) | (refine Ext.trans ?_ (by assumption)))))
  clear hcwz hfwz
  go_wp2
  go_ret
  exact ⟨by rw [HT.out]; rfl, (by repeat (first | exact Ext.refl _ | (refine Ext.alloc ?_ _) | (refine Ext.trans ?_ (by assumption))))⟩
set_option maxRecDepth 100000 in
set_option maxHeartbeats 1000000 in
theorem text_10 {d m af : Int} {more s : Bool} {nm kg p q r R : ByteArray} (w : World) (hnm : nm.size ≤ 16) (_hkg : kg.size ≤ 16) (hp1 : p.size ≤ 3) (hp2 : q.size ≤ 3) (hrp : r.size ≤ 3)
    (cp : ∀ w, Calls Tryd.prog 100 #[.int .i64 d, .string ⟨#[43]⟩, .bool more] w fun e w' => e = .returned (.string p) ∧ w = w')
    (cq : ∀ w, Calls Tryd.prog 100 #[.int .i64 m, .string ⟨#[98]⟩, .bool s] w fun e w' => e = .returned (.string q) ∧ w = w')
    (cr : ∀ w, Calls Tryd.prog 99 #[.string ⟨#[43]⟩, .int .i64 af] w fun e w' => e = .returned (.string r) ∧ Ext w w')
    (HN : Hid (nm.toList.isEmpty = false)) (HK : Hid (kg.toList.isEmpty = true)) (HT : Hid (R = p ++ ⟨#[47]⟩ ++ q ++ ⟨#[47]⟩ ++ (r ++ nm))) :
    Calls Tryd.prog 51 #[.agg #[.int .i64 d, .bool more, .int .i64 m, .bool s, .string nm, .int .i64 af, .string kg]] w fun e w' => e = .returned (.string R) ∧ Ext w w' := by
  have hne := HN.out
  have hke := HK.out
  go_enter Tryd.func51, Tryd.ntmps51
  go_upto_region 3 with (fail)
  refine wp_region_xw w mixed (by kernel_rfl) (by repeat (first | exact Ext.refl _ | (refine Ext.alloc ?_ _) | (refine Ext.trans ?_ (by assumption)))) ?_
  intro hne hrx hry
  try simp only []
  try simp only [List.append_eq, List.cons_append, List.nil_append]
  have hrx0 := fun u o => hrx u (w.heap.size) o (by first | omega | (simp; done) | (simp; omega))
  skip
  repeat (first
    | go_big_quiet_skip
    | (go_big_quiet_want; go_big_quiet_op; go_big_quiet_on)
    | (go_big_quiet_want; go_big_quiet_op; apply Exists.intro; refine ⟨fun u => ?_, ?_⟩
       · first
           | (go_at_call 99; (with_reducible refine Calls.mono (cr _) ?_); rintro e w' ⟨rfl, hb⟩; exact ⟨rfl, u.back hb⟩)
       go_big_quiet_on))
  clear hne hry hrx hrx0
  refine wpQuiet_nil ?_
  intro wq hq
  obtain ⟨hcwq, hfwq, hzwq⟩ := Ext.rules hq
  try simp only [World.size_alloc] at hzwq
  have hk0wq := fun o => hcwq (w.heap.size) o (by first | omega | (simp; done) | (simp; omega))
  have hj0wq := fun o => hfwq (w.heap.size) o (by first | omega | (simp; done) | (simp; omega))
  have hl0wq : w.heap.size < wq.heap.size := (by first | omega | (simp; done) | (simp; omega))
  obtain ⟨hcbwq, hfbwq, hzbwq⟩ := Ext.rules (show Ext w wq from (by repeat (first | exact Ext.refl _ | (refine Ext.alloc ?_ _) | (refine Ext.trans ?_ (by assumption)))))
  clear hcwq hfwq
  go_upto_region 6 with (fail)
  refine wp_region_xw w mixed (by kernel_rfl) (by repeat (first | exact Ext.refl _ | (refine Ext.alloc ?_ _) | (refine Ext.trans ?_ (by assumption)))) ?_
  intro hne hrx hry
  try simp only []
  try simp only [List.append_eq, List.cons_append, List.nil_append]
  have hrx0 := fun u o => hrx u (w.heap.size) o (by first | omega | (simp; done) | (simp; omega))
  skip
  repeat (first
    | go_big_quiet_skip
    | (go_big_quiet_want; go_big_quiet_op; go_big_quiet_on)
    | (go_big_quiet_want; go_big_quiet_op; apply Exists.intro; refine ⟨fun u => ?_, ?_⟩
       · first
           | (go_at_call 100; (with_reducible refine Calls.mono (cp _) ?_); rintro e w' ⟨rfl, rfl⟩; exact ⟨rfl, u, rfl⟩)
           | (go_at_call 100; (with_reducible refine Calls.mono (cq _) ?_); rintro e w' ⟨rfl, rfl⟩; exact ⟨rfl, u, rfl⟩)
       go_big_quiet_on))
  clear hne hry hrx hrx0
  refine wpQuiet_nil ?_
  intro wz hz
  obtain ⟨hcwz, hfwz, hzwz⟩ := Ext.rules hz
  try simp only [World.size_alloc] at hzwz
  have hk0wz := fun o => hcwz (w.heap.size) o (by first | omega | (simp; done) | (simp; omega))
  have hj0wz := fun o => hfwz (w.heap.size) o (by first | omega | (simp; done) | (simp; omega))
  have hl0wz : w.heap.size < wz.heap.size := (by first | omega | (simp; done) | (simp; omega))
  obtain ⟨hcbwz, hfbwz, hzbwz⟩ := Ext.rules (show Ext w wz from (by repeat (first | exact Ext.refl _ | (refine Ext.alloc ?_ _) | (refine Ext.trans ?_ (by assumption)))))
  clear hcwz hfwz
  go_wp2
  go_ret
  exact ⟨by rw [HT.out]; rfl, (by repeat (first | exact Ext.refl _ | (refine Ext.alloc ?_ _) | (refine Ext.trans ?_ (by assumption))))⟩
set_option maxRecDepth 100000 in
set_option maxHeartbeats 1000000 in
theorem text_01 {d m af : Int} {more s : Bool} {nm kg p q r R : ByteArray} (w : World) (_hnm : nm.size ≤ 16) (hkg : kg.size ≤ 16) (hp1 : p.size ≤ 3) (hp2 : q.size ≤ 3) (_hrp : r.size ≤ 3)
    (cp : ∀ w, Calls Tryd.prog 100 #[.int .i64 d, .string ⟨#[43]⟩, .bool more] w fun e w' => e = .returned (.string p) ∧ w = w')
    (cq : ∀ w, Calls Tryd.prog 100 #[.int .i64 m, .string ⟨#[98]⟩, .bool s] w fun e w' => e = .returned (.string q) ∧ w = w')
    (HN : Hid (nm.toList.isEmpty = true)) (HK : Hid (kg.toList.isEmpty = false)) (HT : Hid (R = p ++ ⟨#[47]⟩ ++ q ++ ⟨#[47]⟩ ++ (⟨#[45]⟩ ++ (⟨#[64]⟩ ++ kg)))) :
    Calls Tryd.prog 51 #[.agg #[.int .i64 d, .bool more, .int .i64 m, .bool s, .string nm, .int .i64 af, .string kg]] w fun e w' => e = .returned (.string R) ∧ Ext w w' := by
  have hne := HN.out
  have hke := HK.out
  go_enter Tryd.func51, Tryd.ntmps51
  go_upto_region 6 with (fail)
  refine wp_region_xw w mixed (by kernel_rfl) (by repeat (first | exact Ext.refl _ | (refine Ext.alloc ?_ _) | (refine Ext.trans ?_ (by assumption)))) ?_
  intro hne hrx hry
  try simp only []
  try simp only [List.append_eq, List.cons_append, List.nil_append]
  have hrx0 := fun u o => hrx u (w.heap.size) o (by first | omega | (simp; done) | (simp; omega))
  skip
  repeat (first
    | go_big_quiet_skip
    | (go_big_quiet_want; go_big_quiet_op; go_big_quiet_on)
    | (go_big_quiet_want; go_big_quiet_op; apply Exists.intro; refine ⟨fun u => ?_, ?_⟩
       · first
           | (go_at_call 100; (with_reducible refine Calls.mono (cp _) ?_); rintro e w' ⟨rfl, rfl⟩; exact ⟨rfl, u, rfl⟩)
           | (go_at_call 100; (with_reducible refine Calls.mono (cq _) ?_); rintro e w' ⟨rfl, rfl⟩; exact ⟨rfl, u, rfl⟩)
       go_big_quiet_on))
  clear hne hry hrx hrx0
  refine wpQuiet_nil ?_
  intro wz hz
  obtain ⟨hcwz, hfwz, hzwz⟩ := Ext.rules hz
  try simp only [World.size_alloc] at hzwz
  have hk0wz := fun o => hcwz (w.heap.size) o (by first | omega | (simp; done) | (simp; omega))
  have hj0wz := fun o => hfwz (w.heap.size) o (by first | omega | (simp; done) | (simp; omega))
  have hl0wz : w.heap.size < wz.heap.size := (by first | omega | (simp; done) | (simp; omega))
  obtain ⟨hcbwz, hfbwz, hzbwz⟩ := Ext.rules (show Ext w wz from (by repeat (first | exact Ext.refl _ | (refine Ext.alloc ?_ _) | (refine Ext.trans ?_ (by assumption)))))
  clear hcwz hfwz
  go_wp2
  go_ret
  exact ⟨by rw [HT.out]; rfl, (by repeat (first | exact Ext.refl _ | (refine Ext.alloc ?_ _) | (refine Ext.trans ?_ (by assumption))))⟩
set_option maxRecDepth 100000 in
set_option maxHeartbeats 1000000 in
theorem text_00 {d m af : Int} {more s : Bool} {nm kg p q r R : ByteArray} (w : World) (_hnm : nm.size ≤ 16) (_hkg : kg.size ≤ 16) (hp1 : p.size ≤ 3) (hp2 : q.size ≤ 3) (_hrp : r.size ≤ 3)
    (cp : ∀ w, Calls Tryd.prog 100 #[.int .i64 d, .string ⟨#[43]⟩, .bool more] w fun e w' => e = .returned (.string p) ∧ w = w')
    (cq : ∀ w, Calls Tryd.prog 100 #[.int .i64 m, .string ⟨#[98]⟩, .bool s] w fun e w' => e = .returned (.string q) ∧ w = w')
    (HN : Hid (nm.toList.isEmpty = true)) (HK : Hid (kg.toList.isEmpty = true)) (HT : Hid (R = p ++ ⟨#[47]⟩ ++ q ++ ⟨#[47]⟩ ++ (⟨#[45]⟩))) :
    Calls Tryd.prog 51 #[.agg #[.int .i64 d, .bool more, .int .i64 m, .bool s, .string nm, .int .i64 af, .string kg]] w fun e w' => e = .returned (.string R) ∧ Ext w w' := by
  have hne := HN.out
  have hke := HK.out
  go_enter Tryd.func51, Tryd.ntmps51
  go_upto_region 6 with (fail)
  refine wp_region_xw w mixed (by kernel_rfl) (by repeat (first | exact Ext.refl _ | (refine Ext.alloc ?_ _) | (refine Ext.trans ?_ (by assumption)))) ?_
  intro hne hrx hry
  try simp only []
  try simp only [List.append_eq, List.cons_append, List.nil_append]
  have hrx0 := fun u o => hrx u (w.heap.size) o (by first | omega | (simp; done) | (simp; omega))
  skip
  repeat (first
    | go_big_quiet_skip
    | (go_big_quiet_want; go_big_quiet_op; go_big_quiet_on)
    | (go_big_quiet_want; go_big_quiet_op; apply Exists.intro; refine ⟨fun u => ?_, ?_⟩
       · first
           | (go_at_call 100; (with_reducible refine Calls.mono (cp _) ?_); rintro e w' ⟨rfl, rfl⟩; exact ⟨rfl, u, rfl⟩)
           | (go_at_call 100; (with_reducible refine Calls.mono (cq _) ?_); rintro e w' ⟨rfl, rfl⟩; exact ⟨rfl, u, rfl⟩)
       go_big_quiet_on))
  clear hne hry hrx hrx0
  refine wpQuiet_nil ?_
  intro wz hz
  obtain ⟨hcwz, hfwz, hzwz⟩ := Ext.rules hz
  try simp only [World.size_alloc] at hzwz
  have hk0wz := fun o => hcwz (w.heap.size) o (by first | omega | (simp; done) | (simp; omega))
  have hj0wz := fun o => hfwz (w.heap.size) o (by first | omega | (simp; done) | (simp; omega))
  have hl0wz : w.heap.size < wz.heap.size := (by first | omega | (simp; done) | (simp; omega))
  obtain ⟨hcbwz, hfbwz, hzbwz⟩ := Ext.rules (show Ext w wz from (by repeat (first | exact Ext.refl _ | (refine Ext.alloc ?_ _) | (refine Ext.trans ?_ (by assumption)))))
  clear hcwz hfwz
  go_wp2
  go_ret
  exact ⟨by rw [HT.out]; rfl, (by repeat (first | exact Ext.refl _ | (refine Ext.alloc ?_ _) | (refine Ext.trans ?_ (by assumption))))⟩
theorem text_any (t : Tr) (w : World) (hk : OkB t) :
    Calls Tryd.prog 51 #[.agg #[.int .i64 t.d, .bool t.more, .int .i64 t.m, .bool t.s, .string t.nm, .int .i64 t.af, .string t.kg]] w fun e w' => e = .returned (.string (textS t)) ∧ Ext w w' := by
  obtain ⟨d0, d1, m0, m1, a0, a1, hnm, hkg⟩ := hk
  obtain ⟨d, more, m, s, nm, af, kg⟩ := t
  simp only at d0 d1 m0 m1 a0 a1 hnm hkg ⊢
  obtain ⟨d, rfl⟩ := Int.eq_ofNat_of_zero_le d0
  obtain ⟨m, rfl⟩ := Int.eq_ofNat_of_zero_le m0
  obtain ⟨af, rfl⟩ := Int.eq_ofNat_of_zero_le a0
  have d1' : d ≤ 30 := by omega
  have m1' : m ≤ 30 := by omega
  have a1' : af ≤ 3 := by omega
  have hp1 := partS_size (mark := ⟨#[43]⟩) (b := more) d1' (Nat.le_refl _)
  have hp2 := partS_size (mark := ⟨#[98]⟩) (b := s) m1' (Nat.le_refl _)
  have hrp := Nat.le_trans (Nat.le_of_eq (rp_size af)) a1'
  have cp := fun w => part_any d ⟨#[43]⟩ more w d1' (Nat.le_refl _)
  have cq := fun w => part_any m ⟨#[98]⟩ s w m1' (Nat.le_refl _)
  have cr := fun w => rep_any af w a1'
  cases hne : nm.toList.isEmpty <;> cases hke : kg.toList.isEmpty
  · exact text_11 w hnm hkg hp1 hp2 hrp cp cq cr hne hke (by unfold Hid textS kingS yearS; simp only [emptyB_eq, Int.toNat_natCast, hne, hke]; rfl)
  · exact text_10 w hnm hkg hp1 hp2 hrp cp cq cr hne hke (by unfold Hid textS kingS yearS; simp only [emptyB_eq, Int.toNat_natCast, hne, hke]; rfl)
  · exact text_01 w hnm hkg hp1 hp2 hrp cp cq hne hke (by unfold Hid textS kingS yearS; simp only [emptyB_eq, Int.toNat_natCast, hne, hke]; rfl)
  · exact text_00 w hnm hkg hp1 hp2 hrp cp cq hne hke (by unfold Hid textS kingS yearS; simp only [emptyB_eq, Int.toNat_natCast, hne, hke]; rfl)

theorem textX_any (t : Tr) (w : World) :
    Calls Tryd.prog 14 #[.agg #[.int .i64 t.d, .bool t.more, .int .i64 t.m, .bool t.s, .string t.nm, .int .i64 t.af, .string t.kg]] w fun e w' => e = .returned (.tuple #[.string (if t.ok then textS t else ⟨#[]⟩), .int .i64 (if t.ok then 0 else 72)]) ∧ Ext w w' := by
  cases hv : t.ok
  · have HV := Lib.hid hv
    have hc := fun w => (validTrace_any t w)
    rw [hv] at hc
    go_enter Tryd.func14, Tryd.ntmps14
    go_wp2_with (go_at_call 50; (with_reducible refine Calls.mono (hc _) ?_); rintro e wq ⟨rfl, hq⟩)
    go_ret2
    exact ⟨rfl, (by repeat (first | exact Ext.refl _ | (refine Ext.alloc ?_ _) | (refine Ext.trans ?_ (by assumption))))⟩
  · have HV := Lib.hid hv
    have hc := fun w => (validTrace_any t w)
    rw [hv] at hc
    have ht := fun w => (text_any t w (ok_bds hv))
    go_enter Tryd.func14, Tryd.ntmps14
    go_upto_region 3 with (go_at_call 50; (with_reducible refine Calls.mono (hc _) ?_); rintro e wq ⟨rfl, hq⟩)
    obtain ⟨hcwq, hfwq, hzwq⟩ := Ext.rules hq
    try simp only [World.size_alloc] at hzwq
    have hk0wq := fun o => hcwq (w.heap.size) o (by first | omega | (simp; done) | (simp; omega))
    have hj0wq := fun o => hfwq (w.heap.size) o (by first | omega | (simp; done) | (simp; omega))
    have hl0wq : w.heap.size < wq.heap.size := (by first | omega | (simp; done) | (simp; omega))
    obtain ⟨hcbwq, hfbwq, hzbwq⟩ := Ext.rules (show Ext w wq from (by repeat (first | exact Ext.refl _ | (refine Ext.alloc ?_ _) | (refine Ext.trans ?_ (by assumption)))))
    clear hcwq hfwq
    go_wp2_with ((go_at_call 51; (with_reducible refine Calls.mono (ht _) ?_); rintro e wz ⟨rfl, hz⟩))
    go_ret2
    exact ⟨rfl, (by repeat (first | exact Ext.refl _ | (refine Ext.alloc ?_ _) | (refine Ext.trans ?_ (by assumption))))⟩
end Go.Proofs.YtlnjeklmkjgidaaDoor

namespace Go.Proofs.YtlnjeklmkjgidaaDoor
open Go Go.RowKit
attribute [local go_sem] gv_yes

/-- The bytes of a slice. -/
def BsAt (w : World) (A : Option Addr) (l : List UInt8) : Prop :=
  match A with
  | none => l = []
  | some a => ∃ b o, a = ⟨b, o, none⟩ ∧ b < w.heap.size ∧ ∀ i, i < l.length → w.cell? ⟨b, o + i, none⟩ = some (.int .u8 ((l.getD i 0).toNat : Int))
theorem BsAt.ext {w w' : World} {A : Option Addr} {l : List UInt8} (h : BsAt w A l) (he : Ext w w') : BsAt w' A l := by
  cases A with
  | none => exact h
  | some a =>
    obtain ⟨b, o, rfl, hb, hc⟩ := h
    exact ⟨b, o, rfl, Nat.lt_of_lt_of_le hb (Ext.rules he).2.2, fun i hi => by rw [he.cell (p := ⟨b, o + i, none⟩) hb]; exact hc i hi⟩
theorem BsAt.take {w : World} {A : Option Addr} {l : List UInt8} (h : BsAt w A l) (k : Nat) : BsAt w A (l.take k) := by
  cases A with
  | none => cases h; simp [BsAt]
  | some a =>
    obtain ⟨b, o, rfl, hb, hc⟩ := h
    refine ⟨b, o, rfl, hb, fun i hi => ?_⟩
    rw [List.length_take] at hi
    rw [hc i (by omega)]
    simp only [List.getD_eq_getElem?_getD, List.getElem?_take]
    rw [if_pos (by omega)]
theorem BsAt.drop {w : World} {b o : Nat} {l : List UInt8} (h : BsAt w (some ⟨b, o, none⟩) l) (k : Nat) : BsAt w (some ⟨b, o + k, none⟩) (l.drop k) := by
  obtain ⟨b', o', e, hb, hc⟩ := h
  cases e
  refine ⟨b, o + k, rfl, hb, fun i hi => ?_⟩
  rw [List.length_drop] at hi
  rw [Nat.add_assoc, hc (k + i) (by omega)]
  simp only [List.getD_eq_getElem?_getD, List.getElem?_drop]
def cutL : List UInt8 → UInt8 → List UInt8 × List UInt8 × Bool
  | [], _ => ([], [], false)
  | x :: l, c => if x = c then ([], l, true) else (x :: (cutL l c).1, (cutL l c).2.1, (cutL l c).2.2)
theorem cutL_at : ∀ {l : List UInt8} {c : UInt8} {k : Nat}, k < l.length → (∀ i, i < k → l.getD i 0 ≠ c) → l.getD k 0 = c → cutL l c = (l.take k, l.drop (k + 1), true)
  | [], _, _, hk, _, _ => by simp at hk
  | x :: l, c, 0, _, _, h1 => by
    have : x = c := by simpa using h1
    simp [cutL, this]
  | x :: l, c, k + 1, hk, h0, h1 => by
    have hx : x ≠ c := by simpa using h0 0 (by omega)
    have := @cutL_at l c k (by simpa using hk) (fun i hi => by simpa using h0 (i + 1) (by omega)) (by simpa using h1)
    simp [cutL, hx, this]
theorem cutL_none : ∀ {l : List UInt8} {c : UInt8}, (∀ i, i < l.length → l.getD i 0 ≠ c) → cutL l c = (l, [], false)
  | [], _, _ => rfl
  | x :: l, c, h0 => by
    have hx : x ≠ c := by simpa using h0 0 (by simp)
    have := @cutL_none l c (fun i hi => by simpa using h0 (i + 1) (by simpa using hi))
    simp [cutL, hx, this]
theorem cut_any (l : List UInt8) (c : UInt8) (A : Option Addr) (cap : Nat) (w W : World) (hA : BsAt w A l) (hW : BsAt W A l) (hc : l.length ≤ cap) (h63 : cap ≤ maxLen) :
    Calls Tryd.prog 52 #[.slice A l.length cap, .int .u8 (c.toNat : Int)] w fun e w' =>
      ∃ B C m n, e = .returned (.tuple #[.slice B (cutL l c).1.length m, .slice C (cutL l c).2.1.length n, .bool (cutL l c).2.2]) ∧ BsAt W B (cutL l c).1 ∧ BsAt W C (cutL l c).2.1 ∧ (cutL l c).1.length ≤ m ∧ m ≤ maxLen ∧ (cutL l c).2.1.length ≤ n ∧ n ≤ maxLen ∧ Ext w w' := by
  have hA' : Hid (BsAt W A l) := hW
  clear hW
  have h63' := h63
  unfold maxLen at h63'
  go_enter Tryd.func52, Tryd.ntmps52
  go_upto_region 2 with (fail)
  go_loop [11] (fun i => ∃ k : Nat, k ≤ l.length ∧ i = .int .i64 k ∧ ∀ i, i < k → l.getD i 0 ≠ c) (fun i => l.length - (intOf i).toNat)
  case atStart => exact ⟨0, Nat.zero_le _, rfl, (fun i hi => absurd hi (by omega))⟩
  case round =>
    obtain ⟨k, hk, rfl, hp⟩ := hrel
    by_cases hlt : k < l.length
    · cases A with
      | none => cases hA; exact absurd hlt (by simp)
      | some a =>
        obtain ⟨b, o, rfl, hb, hcell⟩ := hA
        obtain ⟨x, hxl⟩ : ∃ x, x = l.getD k 0 := ⟨_, rfl⟩
        have hck : w.cell? ⟨b, o + k, none⟩ = some (.int .u8 (x.toNat : Int)) := by rw [hxl]; exact hcell k hlt
        clear hcell
        by_cases hx : x = c
        · subst hx
          have hcut := Lib.hid (cutL_at hlt hp hxl.symm)
          clear hp hxl
          go_upto_region 5 with (fail)
          refine wp_region_xw w mixed (by kernel_rfl) (by repeat (first | exact Ext.refl _ | (refine Ext.alloc ?_ _) | (refine Ext.trans ?_ (by assumption)))) ?_
          intro hne hrx hry
          try simp only []
          try simp only [List.append_eq, List.cons_append, List.nil_append]
          skip
          repeat (first
            | go_big_quiet_skip
            | (go_big_quiet_want; go_big_quiet_op; go_big_quiet_on))
          clear hne hry hrx
          refine wpQuiet_nil ?_
          intro wq hq
          obtain ⟨hcwq, hfwq, hzwq⟩ := Ext.rules hq
          try simp only [World.size_alloc] at hzwq
          obtain ⟨hcbwq, hfbwq, hzbwq⟩ := Ext.rules (show Ext w wq from (by repeat (first | exact Ext.refl _ | (refine Ext.alloc ?_ _) | (refine Ext.trans ?_ (by assumption)))))
          clear hcwq hfwq
          go_wp2
          · rename_i hl0
            refine bodyPost_ret (results_tmp3 (t := 4) (u := 5) (v := 6) rfl _ _ _) rfl ?_
            rw [hcut.out]
            have hz : l.drop (k + 1) = [] := List.drop_eq_nil_of_le (by omega)
            have h1 : (l.take k).length = k := by rw [List.length_take]; omega
            refine ⟨some ⟨b, o, none⟩, some ⟨b, o, none⟩, k, 0, ?_, hA'.out.take k, ?_, ?_, ?_, ?_, ?_, hq⟩
            · simp only [h1, hz]; rfl
            · rw [hz]; simpa using hA'.out.take 0
            · simp only [h1]; omega
            · unfold maxLen; omega
            · simp only [hz]; exact Nat.le_refl _
            · unfold maxLen; omega
          · refine bodyPost_ret (results_tmp3 (t := 4) (u := 5) (v := 6) rfl _ _ _) rfl ?_
            rw [hcut.out]
            have h1 : (l.take k).length = k := by rw [List.length_take]; omega
            have h2 : (l.drop (k + 1)).length = l.length - (k + 1) := by rw [List.length_drop]
            refine ⟨some ⟨b, o, none⟩, some ⟨b, o + (k + 1), none⟩, k, l.length - (k + 1), ?_, hA'.out.take k, hA'.out.drop (k + 1), ?_, ?_, ?_, ?_, hq⟩
            · simp only [h1, h2]; rfl
            · simp only [h1]; omega
            · unfold maxLen; omega
            · simp only [h2]; omega
            · unfold maxLen; omega
        · have hxc : x.toNat ≠ c.toNat := fun h => hx (UInt8.toNat_inj.1 h)
          have hp' : ∀ i, i < k + 1 → l.getD i 0 ≠ c := fun i hi => by
            by_cases h : i = k
            · subst h; rw [← hxl]; exact hx
            · exact hp i (by omega)
          clear hxl hx
          have hne : ((x.toNat : Int) == (c.toNat : Int)) = false := beq_eq_false_iff_ne.2 (by omega)
          go_wp2
          exact ⟨⟨k + 1, by omega, by go_num, hp'⟩, by simp [intOf]; omega⟩
    · have hcut := Lib.hid (cutL_none (l := l) (c := c) (fun i hi => hp i (by omega)))
      go_wp2
      refine bodyPost_ret (results_tmp3 (t := 4) (u := 5) (v := 6) rfl _ _ _) rfl ?_
      rw [hcut.out]
      exact ⟨A, none, cap, 0, rfl, hA'.out, rfl, hc, h63, Nat.le_refl _, Nat.zero_le _, Ext.refl _⟩
end Go.Proofs.YtlnjeklmkjgidaaDoor

