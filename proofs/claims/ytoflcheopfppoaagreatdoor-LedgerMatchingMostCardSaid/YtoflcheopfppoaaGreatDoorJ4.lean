/- Walks of the program's functions and plain facts, packed; proved: the lemmas below; no conditions but those that each states. -/
import Derived.Test.YtoflcheopfppoaaGreatDoorJ3
import Derived.Test.YtoflcheopfppoaaGreatDoorJ2
import Derived.Test.YtoflcheopfppoaaGreatDoorJ1
set_option maxRecDepth 100000
set_option maxHeartbeats 4000000
namespace Go.Proofs.YtoflcheopfppoaaGreatDoor
section
open Go Go.RowKit Go.Shelf
attribute [local go_sem] Zq
def Rt.In (r : Rt) : Prop := -9223372036854775808 ≤ r.n ∧ r.n ≤ 9223372036854775807 ∧ -9223372036854775808 ≤ r.d ∧ r.d ≤ 9223372036854775807
theorem Bj {r : Rt} (h : r.ok = true) : r.In := by have := Zo h; unfold Rt.In; omega
theorem V5 {w : World} {b n sz : Nat} {t : TypeId} {f : Nat → List Value} (hf : ∀ i, (f i).length = sz) (h : Qb w b t (Zv f n).toArray) : Qo w (some ⟨b, 0, none⟩) n sz f := fun _ => by
 refine ⟨b, 0, rfl, h.lt, fun i j v hi hv => ?_⟩
 have hj : j < sz := by have := (List.getElem?_eq_some_iff.1 hv).1; rwa [hf] at this
 rw [show (0 : Nat) + i * sz + j = i * sz + j by omega, h.cell, List.getElem?_toArray, Vu hf hi hj, hv]
theorem Nq (A : Option Addr) (n ca : Nat) (f : Nat → Rt) (w : World) (hA : Qo w A n 2 (Yz f)) (hn : n ≤ 9223372036854775807) (hin : ∀ i, i < n → (f i).In) :
  Calls Tryz.prog 70 #[.slice A n ca] w fun e w' => e = .returned (.bool ((List.range n).all fun i => (f i).nn)) ∧ Qa w w' := by
 obtain ⟨R, hR0⟩ := Qg ((List.range n).all fun i => (f i).nn)
 rw [← hR0]
 have HR := Lib.hid hR0
 clear hR0
 go_enter Tryz.func70, Tryz.ntmps70
 go_upto_region 2 with (fail)
 go_loopw [7] (fun i wr => ∃ k : Nat, k ≤ n ∧ i = .int .i64 k ∧ Hid (∀ j, j < k → (f j).nn = true) ∧ Qa w wr) (fun i _ => n - (intOf i).toNat)
 case atStart => exact ⟨0, Nat.zero_le _, rfl, (fun j h => absurd h (by omega)), Qa.refl _⟩
 case round =>
  obtain ⟨k, hk, rfl, hall, hE⟩ := hrel
  obtain ⟨wo, rfl⟩ := Qg wr
  by_cases hlt : k < n
  ·obtain ⟨b, off, rfl, hb, hc⟩ := (hA.ext hE) (by omega)
   have c0 : wo.cell? ⟨b, off + k * 2, none⟩ = some (.int .i64 (f k).n) := by simpa [Yz] using hc k 0 _ hlt rfl
   have c1 : wo.cell? ⟨b, off + k * 2 + 1, none⟩ = some (.int .i64 (f k).d) := by simpa [Yz] using hc k 1 _ hlt rfl
   obtain ⟨h1, h2, h3, h4⟩ := hin k hlt
   have NR := fun w => W8 (f k).n (f k).d h1 h2 h3 h4 w
   have hno : Hid ((f k).nn = false → R = false) := fun h => by
    rw [HR.out]
    exact List.all_eq_false.2 ⟨k, by simpa using hlt, by simp [h]⟩
   have hyes : Hid ((f k).nn = true → ∀ j, j < k + 1 → (f j).nn = true) := fun h j hj => by
    by_cases e : j = k
    ·subst e; exact h
    ·exact hall.out j (by omega)
   have hnn : Hid ((f k).nn = (Rt.ok ⟨(f k).n, (f k).d⟩ && decide (0 ≤ (f k).n))) := rfl
   clear hc hin hA h1 h2 h3 h4 hall HR
   go_upto_region 4 with (fail)
   obtain ⟨v3, hv⟩ := Qg (wo.alloc (.cells #[.int .i64 (f k).n, .int .i64 (f k).d] 65))
   rw [← hv]
   have E3 : Qa wo v3 := by rw [hv]; exact (Qa.refl _).alloc _
   have H3 : Qb v3 wo.heap.size 65 #[.int .i64 (f k).n, .int .i64 (f k).d] := by rw [hv]; exact Qb.new _ _ _
   clear hv c0 c1
   replace hE := hE.trans E3
   generalize wo.heap.size = b3 at *
   clear E3
   obtain ⟨q0, q1⟩ := H3.c2
   have lq := H3.lt
   generalize Rt.ok ⟨(f k).n, (f k).d⟩ = ok at *
   cases ok
   ·go_wp2_with (go_at_call 121; (with_reducible refine Calls.mono (NR _) ?_); rintro e w2 ⟨rfl, h⟩)
    go_ret
    exact ⟨by rw [hno.out (by rw [hnn.out]; rfl)]; rfl, hE.trans h⟩
   ·by_cases h0 : (f k).n < 0
    ·have g1 : decide ((f k).n < 0) = true := decide_eq_true h0
     have g2 : decide (0 ≤ (f k).n) = false := decide_eq_false (by omega)
     have hx := hno.out (by rw [hnn.out, g2]; rfl)
     clear h0 g2
     go_wp2_with (go_at_call 121; (with_reducible refine Calls.mono (NR _) ?_); rintro e w2 ⟨rfl, h⟩; clear q0 q1 lq; obtain ⟨q0, q1⟩ := (H3.ext h).c2; have lq := (H3.ext h).lt)
     go_ret
     exact ⟨by rw [hx]; rfl, hE.trans h⟩
    ·have g1 : decide ((f k).n < 0) = false := decide_eq_false h0
     have g2 : decide (0 ≤ (f k).n) = true := decide_eq_true (by omega)
     have hx := Lib.hid (hyes.out (by rw [hnn.out, g2]; rfl))
     clear h0 g2
     go_wp2_with (go_at_call 121; (with_reducible refine Calls.mono (NR _) ?_); rintro e w2 ⟨rfl, h⟩; clear q0 q1 lq; obtain ⟨q0, q1⟩ := (H3.ext h).c2; have lq := (H3.ext h).lt)
     exact ⟨⟨k + 1, by omega, by go_num, hx, hE.trans h⟩, by simp [intOf]; omega⟩
  ·obtain rfl : k = n := by omega
   have hx : R = true := by
    rw [HR.out]
    exact List.all_eq_true.2 fun j hj => hall.out j (by simpa using hj)
   clear HR hall hin hA
   go_wp2
   go_ret
   exact ⟨by rw [hx]; rfl, hE⟩
theorem Ci (A : Option Addr) (n ca : Nat) (f : Nat → Rt) (w : World) (hA : Qo w A n 2 (Yz f)) (hn0 : n ≤ 9223372036854775807) (hin : ∀ i, i < n → (f i).In) (hZ : Zu w) :
  Calls Tryz.prog 71 #[.slice A n ca] w fun e w' => e = .returned (.tuple #[.agg #[.int .i64 (Yi f n).1.n, .int .i64 (Yi f n).1.d], .int .i64 (Yi f n).2]) ∧ Qa w w' := by
 obtain ⟨R, hR0⟩ := Qg (Yi f n)
 rw [← hR0]
 have HR := Lib.hid hR0
 clear hR0
 go_enter Tryz.func71, Tryz.ntmps71
 go_upto_region 1 with (fail)
 obtain ⟨v, hv⟩ := Qg (w.alloc (.cells #[.int .i64 0, .int .i64 0] 65))
 rw [← hv]
 have E : Qa w v := by rw [hv]; exact (Qa.refl _).alloc _
 have B1 : Qb v w.heap.size 65 #[.int .i64 0, .int .i64 0] := by rw [hv]; exact (Qb.new _ _ _)
 clear hv
 obtain ⟨b1, hb1⟩ := Qg (w.heap.size)
 rw [← hb1] at B1 ⊢
 have hbr : w.heap.size ≤ b1 := by omega
 clear hb1
 have RA := hA.ext E
 have Z0 := hZ.ext E
 clear hA hZ
 by_cases h64 : 64 < n
 ·have g1 : decide ((64 : Int) < (n : Int)) = true := decide_eq_true (by omega)
  have hr := HR.out
  rw [show Yi f n = (Zd, 3) by unfold Yi; rw [if_pos h64]] at hr
  subst hr
  clear HR
  clear h64
  have f0 := B1.frozen 0
  have f1 := B1.frozen 1
  obtain ⟨x0, x1⟩ := B1.c2
  have lx := B1.lt
  have H4 := Qn B1 (.int .i64 0) (.int .i64 0)
  have EF := (E.setCell (p := ⟨b1, 0, none⟩) hbr (.int .i64 0)).setCell (p := ⟨b1, 1, none⟩) hbr (.int .i64 0)
  obtain ⟨y0, y1⟩ := H4.c2
  go_wp2
  refine bodyPost_ret (v := .tuple #[.agg #[.int .i64 0, .int .i64 0], .int .i64 3]) (by simp [results, Tryz.results71, go_sem, y0, y1]) rfl ⟨rfl, EF⟩
 ·have g1 : decide ((64 : Int) < (n : Int)) = false := decide_eq_false (by omega)
  have hn : n ≤ 1000 := by omega
  go_upto_region 4 with (fail)
  go_loopw [12] (fun i wr => ∃ k : Nat, k ≤ n ∧ i = .int .i64 k ∧ Hid (∀ j, j < k → (f j).ok = true) ∧ Qa v wr) (fun i _ => n - (intOf i).toNat)
  case atStart => exact ⟨0, Nat.zero_le _, rfl, (fun j h => absurd h (by omega)), Qa.refl _⟩
  case round =>
   obtain ⟨k, hk, rfl, hall, hE⟩ := hrel
   obtain ⟨wo, rfl⟩ := Qg wr
   replace B1 := B1.ext hE
   by_cases hlt : k < n
   ·obtain ⟨b, off, rfl, hb, hc⟩ := (RA.ext hE) (by omega)
    have c0 : wo.cell? ⟨b, off + k * 2, none⟩ = some (.int .i64 (f k).n) := by simpa [Yz] using hc k 0 _ hlt rfl
    have c1 : wo.cell? ⟨b, off + k * 2 + 1, none⟩ = some (.int .i64 (f k).d) := by simpa [Yz] using hc k 1 _ hlt rfl
    obtain ⟨h1, h2, h3, h4⟩ := hin k hlt
    have NR := fun w => W8 (f k).n (f k).d h1 h2 h3 h4 w
    have hno : Hid ((f k).ok = false → R = (Zd, 2)) := fun h => by
     rw [HR.out]; unfold Yi
     rw [if_neg h64, if_neg (by rw [Bool.not_eq_true]; exact List.all_eq_false.2 ⟨k, by simpa using hlt, by simp [h]⟩)]
    have hyes : Hid ((f k).ok = true → ∀ j, j < k + 1 → (f j).ok = true) := fun h j hj => by
     by_cases e : j = k
     ·subst e; exact h
     ·exact hall.out j (by omega)
    have hnn : Hid ((f k).ok = Rt.ok ⟨(f k).n, (f k).d⟩) := rfl
    clear hc hin RA h1 h2 h3 h4 hall HR h64
    go_upto_region 6 with (fail)
    obtain ⟨v3, hv⟩ := Qg (wo.alloc (.cells #[.int .i64 (f k).n, .int .i64 (f k).d] 65))
    rw [← hv]
    have E3 : Qa wo v3 := by rw [hv]; exact (Qa.refl _).alloc _
    have H3 : Qb v3 wo.heap.size 65 #[.int .i64 (f k).n, .int .i64 (f k).d] := by rw [hv]; exact Qb.new _ _ _
    clear hv c0 c1
    replace hE := hE.trans E3
    replace B1 := B1.ext E3
    generalize wo.heap.size = b3 at *
    clear E3
    obtain ⟨q0, q1⟩ := H3.c2
    have lq := H3.lt
    generalize Rt.ok ⟨(f k).n, (f k).d⟩ = ok at *
    cases ok
    ·have hr := hno.out hnn.out
     subst hr
     clear hno hyes hnn
     go_upto_region 7 with (go_at_call 121; (with_reducible refine Calls.mono (NR _) ?_); rintro e w2 ⟨rfl, h⟩)
     replace E := (E.trans hE).trans h
     replace B1 := B1.ext h
     have f0 := B1.frozen 0
     have f1 := B1.frozen 1
     obtain ⟨x0, x1⟩ := B1.c2
     have lx := B1.lt
     have H4 := Qn B1 (.int .i64 0) (.int .i64 0)
     have EF := (E.setCell (p := ⟨b1, 0, none⟩) hbr (.int .i64 0)).setCell (p := ⟨b1, 1, none⟩) hbr (.int .i64 0)
     obtain ⟨y0, y1⟩ := H4.c2
     go_wp2
     refine bodyPost_ret (v := .tuple #[.agg #[.int .i64 0, .int .i64 0], .int .i64 2]) (by simp [results, Tryz.results71, go_sem, y0, y1]) rfl ⟨rfl, EF⟩
    ·have hx := Lib.hid (hyes.out hnn.out)
     clear hno hyes hnn
     go_wp2_with (go_at_call 121; (with_reducible refine Calls.mono (NR _) ?_); rintro e w2 ⟨rfl, h⟩)
     exact ⟨⟨k + 1, by omega, by go_num, hx, hE.trans h⟩, by simp [intOf]; omega⟩
   ·obtain rfl : k = n := by omega
    have NM := fun w h z => Qd2 A k ca f w h hn (fun i hi => hall.out i hi) z
    rw [show Xt f k = R from by rw [HR.out]; unfold Yi; rw [if_neg h64, if_pos (List.all_eq_true.2 fun j hj => hall.out j (by simpa using hj))]] at NM
    clear HR hall hin h64
    have RB := RA.ext hE
    have Z1 := Z0.ext hE
    clear RA Z0
    replace E := E.trans hE
    clear hE
    obtain ⟨⟨Rn, Rd⟩, Re⟩ := R
    go_wp2_with (first | (go_at_call 122; (with_reducible refine Calls.mono (NM _ RB Z1) ?_); rintro e wt ⟨rfl, ht⟩; replace E := E.trans ht; replace B1 := B1.ext ht; have f0 := B1.frozen 0; have f1 := B1.frozen 1; obtain ⟨x0, x1⟩ := B1.c2; have lx := B1.lt))
    have H4 := Qn B1 (.int .i64 Rn) (.int .i64 Rd)
    have EF := (E.setCell (p := ⟨b1, 0, none⟩) hbr (.int .i64 Rn)).setCell (p := ⟨b1, 1, none⟩) hbr (.int .i64 Rd)
    obtain ⟨y0, y1⟩ := H4.c2
    go_wp2
    refine bodyPost_ret (v := .tuple #[.agg #[.int .i64 Rn, .int .i64 Rd], .int .i64 Re]) (by simp [results, Tryz.results71, go_sem, y0, y1]) rfl ⟨rfl, EF⟩
end
section
theorem rt_eq {a b : Rt} (ha : a.ok = true) (hb : b.ok = true) (h : a.n * b.d = b.n * a.d) : a = b := by
 obtain ⟨a1, a2, a3, a4, a5⟩ := Zo ha
 obtain ⟨b1, b2, b3, b4, b5⟩ := Zo hb
 have e0 : a.n.natAbs * b.d.natAbs = b.n.natAbs * a.d.natAbs := by rw [← Int.natAbs_mul, ← Int.natAbs_mul, h]
 obtain ⟨u1, u2⟩ := Di (P := b.n.natAbs) (Q := b.d.natAbs) (p := a.n.natAbs) (q := a.d.natAbs) (by omega) (by omega) a5 e0
 rw [b5, Nat.div_one] at u1
 rw [b5, Nat.div_one] at u2
 have hd : a.d = b.d := by omega
 have hn : a.n = b.n := by
  rw [hd] at h
  exact Int.eq_of_mul_eq_mul_right (by omega) h
 cases a; cases b
 simp_all
/-- x is N divided by D. -/
def Xs (x : Rt) (N D : Int) : Prop := x.n * D = N * x.d
theorem Cm {n d : Int} (hd : 1 ≤ d) (h : (Jq n d).2 = 0) : (Jq n d).1.ok = true ∧ Xs (Jq n d).1 n d := by
 unfold Jq at *
 rw [if_neg (by omega)] at *
 have h2 := Oe (by omega) h
 refine ⟨h2.1, ?_⟩
 unfold Xs
 have e := h2.2
 rw [show ((d.natAbs : Nat) : Int) = d by omega, show decide (d < 0) = false from decide_eq_false (by omega)] at e
 rw [show decide (d < 0) = false from decide_eq_false (by omega)]
 by_cases h0 : n < 0
 ·rw [decide_eq_true h0] at *
  rw [e, if_pos (by decide), show -((n.natAbs : Nat) : Int) = n by omega]
 ·rw [decide_eq_false h0] at *
  rw [e, if_neg (by decide), show ((n.natAbs : Nat) : Int) = n by omega]
theorem Hq {a b : Rt} (h : (Q4 a b).2 = 0) : a.ok = true ∧ b.ok = true ∧ (Q4 a b).1.ok = true ∧ Xs (Q4 a b).1 (a.n * b.d + b.n * a.d) (a.d * b.d) := by
 unfold Q4 at *
 by_cases hh : a.ok && b.ok
 ·rw [if_pos hh] at *
  obtain ⟨h1, h2⟩ := Bool.and_eq_true_iff.1 hh
  have := Cm (Xu h1 h2).2.2.1 h
  exact ⟨h1, h2, this.1, this.2⟩
 ·rw [if_neg hh] at h; exact absurd h (by decide)
theorem K4 {a b : Rt} (h : (Zs a b).2 = 0) : a.ok = true ∧ b.ok = true ∧ (Zs a b).1.ok = true ∧ Xs (Zs a b).1 (a.n * b.d - b.n * a.d) (a.d * b.d) := by
 unfold Zs at *
 by_cases hh : a.ok && b.ok
 ·rw [if_pos hh] at *
  obtain ⟨h1, h2⟩ := Bool.and_eq_true_iff.1 hh
  have := Cm (Xu h1 h2).2.2.1 h
  exact ⟨h1, h2, this.1, this.2⟩
 ·rw [if_neg hh] at h; exact absurd h (by decide)
theorem Lz {a : Int} (h : 0 ≤ a) : ((a.natAbs : Nat) : Int) = a := by omega
theorem J4 {r : Rt} (h : r.nn = true) : r.ok = true ∧ 0 ≤ r.n := by
 simpa [Rt.nn] using h
theorem Qcr {p r : Rt} {k : Int} (h : (Z5 p r k).2 = 0) :
  p.nn = true ∧ r.nn = true ∧ 0 ≤ k ∧ k ≤ 1099511627776 ∧ (Z5 p r k).1.ok = true ∧ Xs (Z5 p r k).1 (p.n * r.n * k) (p.d * r.d * 360) := by
 unfold Z5 at *
 by_cases hh : p.nn && r.nn
 ·rw [if_pos hh] at *
  obtain ⟨h1, h2⟩ := Bool.and_eq_true_iff.1 hh
  by_cases hk : k < 0 ∨ 1099511627776 < k
  ·rw [if_pos hk] at h; exact absurd h (by decide)
  ·rw [if_neg hk] at *
   obtain ⟨p1, p2⟩ := J4 h1
   obtain ⟨r1, r2⟩ := J4 h2
   have pd := (Zo p1).1
   have rd := (Zo r1).1
   have hneg : Vz (Y6 p r k) 4 = false := by
    simp only [Vz, Y6, Zy, decide_eq_false (show ¬ p.n < 0 by omega), decide_eq_false (show ¬ r.n < 0 by omega), decide_eq_false (show ¬ k < 0 by omega)]
    rfl
   have hup : ((upTo (fun i => (Y6 p r k i).n.natAbs) 4 : Nat) : Int) = p.n * r.n * k := by
    simp only [upTo, Y6, Zy, Nat.one_mul, Int.natCast_mul, Lz p2, Lz r2, Lz (show 0 ≤ k by omega)]
    simp
   have hdn : ((upTo (fun i => (Y6 p r k i).d.natAbs) 4 : Nat) : Int) = p.d * r.d * 360 := by
    simp only [upTo, Y6, Zy, Nat.one_mul, Int.natCast_mul, Lz (show 0 ≤ p.d by omega), Lz (show 0 ≤ r.d by omega)]
    simp
   have hpos : 0 < p.d * r.d * 360 := Int.mul_pos (Int.mul_pos (by omega) (by omega)) (by decide)
   unfold Xt at *
   rw [hneg] at h ⊢
   obtain ⟨o1, o2⟩ := Oe (by omega) h
   refine ⟨h1, h2, by omega, by omega, o1, ?_⟩
   unfold Xs
   rw [hdn] at o2
   rw [o2, if_neg (by decide), hup]
 ·rw [if_neg hh] at h; exact absurd h (by decide)
theorem Qax {a b : Rt} (ha : a.ok = true) (hb : b.ok = true) : Xb a b = (U4 (a.n * b.d) (b.n * a.d), 0) := by
 unfold Xb; rw [ha, hb]; rfl
/-! ### LedgerDoublesFirst -/
theorem dbl_bd {r : Rt} (h : r.pos = true) : 1 ≤ (X3 r).1 ∧ (X3 r).1 ≤ 377487360 ∧ 360 * r.d ≤ (X3 r).1 * r.n ∧ ((X3 r).1 - 1) * r.n < 360 * r.d := by
 unfold X3
 rw [if_pos h]
 simp only
 obtain ⟨h1, h2⟩ : r.ok = true ∧ 0 < r.n := by simpa [Rt.pos] using h
 obtain ⟨d1, d2, _⟩ := Zo h1
 have e := Int.mul_ediv_add_emod (360 * r.d + r.n - 1) r.n
 have e2 := Int.emod_lt_of_pos (360 * r.d + r.n - 1) h2
 have e3 := Int.emod_nonneg (360 * r.d + r.n - 1) (show r.n ≠ 0 by omega)
 have e4 : (360 * r.d + r.n - 1) / r.n ≤ (360 * r.d + r.n - 1) / 1 := by
  rw [Int.ediv_one]
  refine Int.ediv_le_of_le_mul h2 ?_
  have : (360 * r.d + r.n - 1) * 1 ≤ (360 * r.d + r.n - 1) * r.n := Int.mul_le_mul_of_nonneg_left (by omega) (by omega)
  omega
 generalize (360 * r.d + r.n - 1) / r.n = q at *
 generalize (360 * r.d + r.n - 1) % r.n = s at *
 have e5 : (q - 1) * r.n = r.n * q - r.n := by rw [Int.sub_mul, Int.one_mul, Int.mul_comm]
 have e6 : q * r.n = r.n * q := Int.mul_comm _ _
 have e7 : q ≤ 360 * r.d := by
  rcases Int.lt_or_le (360 * r.d) q with h0 | h0
  ·have : (360 * r.d + 1) * r.n ≤ q * r.n := Int.mul_le_mul_of_nonneg_right (by omega) (by omega)
   have h8 : (360 * r.d) * 1 ≤ (360 * r.d) * r.n := Int.mul_le_mul_of_nonneg_left (by omega) (by omega)
   rw [Int.add_mul] at this
   omega
  ·exact h0
 refine ⟨?_, by omega, by omega, by omega⟩
 rcases Int.lt_or_le 0 q with h0 | h0
 ·omega
 ·have : r.n * q ≤ r.n * 0 := Int.mul_le_mul_of_nonneg_left h0 (by omega)
  omega
/-! ### LedgerInterestLinear -/
theorem intV_d {p r : Rt} (hp : p.ok = true) (hr : r.ok = true) : 0 < p.d * r.d * 360 := by
 have pd := (Zo hp).1
 have rd := (Zo hr).1
 exact Int.mul_pos (Int.mul_pos (by omega) (by omega)) (by decide)
end
section
open Go Go.RowKit Go.Shelf
attribute [local go_sem] Zq
def Kw (p r : Rt) : Nat → Rt
 | 0 => p
 | _ => r
theorem Fx {r : Rt} : ((List.range 1).all fun _ => r.nn) = r.nn := by simp [List.range_succ]
theorem nn_two {p r : Rt} : ((List.range 2).all fun i => (Kw p r i).nn) = (p.nn && r.nn) := by simp [List.range_succ, Kw]
theorem Qff (r : Rt) : r.pos = (r.nn && decide (0 < r.n)) := by
 unfold Rt.pos Rt.nn
 by_cases h : 0 < r.n
 ·rw [decide_eq_true h, decide_eq_true (show 0 ≤ r.n by omega)]; simp
 ·rw [decide_eq_false h]; simp
theorem Uw {w : World} {b : Nat} {t : TypeId} {r : Rt} (h : Qb w b t #[.int .i64 r.n, .int .i64 r.d]) : Qo w (some ⟨b, 0, none⟩) 1 2 (Yz fun _ => r) := V5 (f := Yz fun _ => r) (n := 1) (fun _ => rfl) h
theorem Cy {w : World} {b : Nat} {t : TypeId} {p r : Rt} (h : Qb w b t #[.int .i64 p.n, .int .i64 p.d, .int .i64 r.n, .int .i64 r.d]) : Qo w (some ⟨b, 0, none⟩) 2 2 (Yz (Kw p r)) := V5 (f := Yz (Kw p r)) (n := 2) (fun _ => rfl) h
theorem rows4 {w : World} {b : Nat} {t : TypeId} {p r : Rt} {k : Int} (h : Qb w b t #[.int .i64 p.n, .int .i64 p.d, .int .i64 r.n, .int .i64 r.d, .int .i64 k, .int .i64 1, .int .i64 1, .int .i64 360]) : Qo w (some ⟨b, 0, none⟩) 4 2 (Yz (Y6 p r k)) := V5 (f := Yz (Y6 p r k)) (n := 4) (fun _ => rfl) h
theorem Pg {p r : Rt} {k : Int} (hp : p.ok = true) (hr : r.ok = true) (h1 : 0 ≤ k) (h2 : k ≤ 1099511627776) : ∀ i, i < 4 → (Y6 p r k i).ok = true := fun i hi => by
 have h3 : i = 0 ∨ i = 1 ∨ i = 2 ∨ i = 3 := by omega
 rcases h3 with rfl | rfl | rfl | rfl
 ·exact hp
 ·exact hr
 ·exact Ef (by omega) h2
 ·exact (by decide : (Rt.mk 1 360).ok = true)
theorem Qfj {f : Nat → Rt} {n : Nat} (hn : ¬ 64 < n) (h : ∀ i, i < n → (f i).ok = true) : Yi f n = Xt f n := by
 unfold Yi; rw [if_neg hn, if_pos (List.all_eq_true.2 fun i hi => h i (by simpa using hi))]
theorem Qct (p r : Rt) (k : Int) : Hid (((p.nn && r.nn) = false → Z5 p r k = (Zd, 2)) ∧ ((p.nn && r.nn) = true → ((k < 0 ∨ 1099511627776 < k) → Z5 p r k = (Zd, 8)) ∧ (¬ k < 0 → ¬ 1099511627776 < k → Z5 p r k = Xt (Y6 p r k) 4))) := by
 refine Lib.hid ⟨fun h => ?_, fun h => ⟨fun h2 => ?_, fun h2 h3 => ?_⟩⟩
 ·unfold Z5; rw [h]; rfl
 ·unfold Z5; rw [h, if_pos rfl, if_pos h2]
 ·unfold Z5; rw [h, if_pos rfl, if_neg (by omega)]
theorem Xm (n : Int) (w : World) : Calls Tryz.prog 72 #[.int .i64 n] w fun e w' => e = .returned (.agg #[.int .i64 n, .int .i64 1]) ∧ Qa w w' := by
 go_enter Tryz.func72, Tryz.ntmps72
 go_wp2
 refine bodyPost_ret (v := .agg #[.int .i64 n, .int .i64 1]) (by simp [results, Tryz.results72, go_sem]) rfl ⟨rfl, (by repeat (first | exact Qa.refl _ | (refine Qa.alloc ?_ _) | (refine Qa.trans ?_ (by assumption))))⟩
theorem Oa (r : Rt) (hr : r.In) (w : World) :
  Calls Tryz.prog 67 #[.agg #[.int .i64 r.n, .int .i64 r.d]] w fun e w' => e = .returned (.bool r.pos) ∧ Qa w w' := by
 have NN := fun w b h => Nq (some ⟨b, 0, none⟩) 1 1 (fun _ => r) w h (by decide) (fun i hi => hr)
 rw [Fx] at NN
 have HR : Hid (r.pos = (r.nn && decide (0 < r.n))) := Qff r
 generalize r.pos = R at *
 generalize r.nn = nn at *
 go_enter Tryz.func67, Tryz.ntmps67
 go_upto_region 1 with (fail)
 obtain ⟨v, hv⟩ := Qg (w.alloc (.cells #[.int .i64 r.n, .int .i64 r.d] 65))
 rw [← hv]
 have E : Qa w v := by rw [hv]; exact (Qa.refl _).alloc _
 have B1 : Qb v w.heap.size 65 #[.int .i64 r.n, .int .i64 r.d] := by rw [hv]; exact (Qb.new _ _ _)
 clear hv
 obtain ⟨b1, hb1⟩ := Qg (w.heap.size)
 rw [← hb1] at B1 ⊢
 have hbr : w.heap.size ≤ b1 := by omega
 clear hb1
 obtain ⟨k0, k1⟩ := B1.c2
 have lk := B1.lt
 cases nn
 ·go_wp2_with (go_at_call 70; (with_reducible refine Calls.mono (NN _ _ (Uw (Qb.new _ _ _))) ?_); rintro e w2 ⟨rfl, h⟩)
  go_ret
  exact ⟨by rw [HR.out]; rfl, (E.alloc _).trans h⟩
 ·by_cases h0 : 0 < r.n
  ·have g1 : decide (0 < r.n) = true := decide_eq_true h0
   clear h0
   go_wp2_with (go_at_call 70; (with_reducible refine Calls.mono (NN _ _ (Uw (Qb.new _ _ _))) ?_); rintro e w2 ⟨rfl, h⟩; replace B1 := (B1.alloc _).ext h; clear k0 k1 lk; obtain ⟨k0, k1⟩ := B1.c2; have lk := B1.lt)
   go_ret
   exact ⟨by rw [HR.out, g1]; rfl, (E.alloc _).trans h⟩
  ·have g1 : decide (0 < r.n) = false := decide_eq_false h0
   clear h0
   go_wp2_with (go_at_call 70; (with_reducible refine Calls.mono (NN _ _ (Uw (Qb.new _ _ _))) ?_); rintro e w2 ⟨rfl, h⟩; replace B1 := (B1.alloc _).ext h; clear k0 k1 lk; obtain ⟨k0, k1⟩ := B1.c2; have lk := B1.lt)
   go_ret
   exact ⟨by rw [HR.out, g1]; rfl, (E.alloc _).trans h⟩
theorem Mi (r : Rt) (hr : r.In) (w : World) :
  Calls Tryz.prog 90 #[.agg #[.int .i64 r.n, .int .i64 r.d]] w fun e w' => e = .returned (.bool r.shr) ∧ Qa w w' := by
 have NN := fun w b h => Nq (some ⟨b, 0, none⟩) 1 1 (fun _ => r) w h (by decide) (fun i hi => hr)
 rw [Fx] at NN
 have HR : Hid (r.shr = (r.nn && decide (r.n ≤ r.d))) := rfl
 generalize r.shr = R at *
 generalize r.nn = nn at *
 go_enter Tryz.func90, Tryz.ntmps90
 go_upto_region 1 with (fail)
 obtain ⟨v, hv⟩ := Qg (w.alloc (.cells #[.int .i64 r.n, .int .i64 r.d] 65))
 rw [← hv]
 have E : Qa w v := by rw [hv]; exact (Qa.refl _).alloc _
 have B1 : Qb v w.heap.size 65 #[.int .i64 r.n, .int .i64 r.d] := by rw [hv]; exact (Qb.new _ _ _)
 clear hv
 obtain ⟨b1, hb1⟩ := Qg (w.heap.size)
 rw [← hb1] at B1 ⊢
 have hbr : w.heap.size ≤ b1 := by omega
 clear hb1
 obtain ⟨k0, k1⟩ := B1.c2
 have lk := B1.lt
 cases nn
 ·go_wp2_with (go_at_call 70; (with_reducible refine Calls.mono (NN _ _ (Uw (Qb.new _ _ _))) ?_); rintro e w2 ⟨rfl, h⟩)
  go_ret
  exact ⟨by rw [HR.out]; rfl, (E.alloc _).trans h⟩
 ·by_cases h0 : r.n ≤ r.d
  ·have g1 : decide (r.n ≤ r.d) = true := decide_eq_true h0
   clear h0
   go_wp2_with (go_at_call 70; (with_reducible refine Calls.mono (NN _ _ (Uw (Qb.new _ _ _))) ?_); rintro e w2 ⟨rfl, h⟩; replace B1 := (B1.alloc _).ext h; clear k0 k1 lk; obtain ⟨k0, k1⟩ := B1.c2; have lk := B1.lt)
   go_ret
   exact ⟨by rw [HR.out, g1]; rfl, (E.alloc _).trans h⟩
  ·have g1 : decide (r.n ≤ r.d) = false := decide_eq_false h0
   clear h0
   go_wp2_with (go_at_call 70; (with_reducible refine Calls.mono (NN _ _ (Uw (Qb.new _ _ _))) ?_); rintro e w2 ⟨rfl, h⟩; replace B1 := (B1.alloc _).ext h; clear k0 k1 lk; obtain ⟨k0, k1⟩ := B1.c2; have lk := B1.lt)
   go_ret
   exact ⟨by rw [HR.out, g1]; rfl, (E.alloc _).trans h⟩
theorem Qbf (r : Rt) (hr : r.In) (w : World) :
  Calls Tryz.prog 26 #[.agg #[.int .i64 r.n, .int .i64 r.d]] w fun e w' => e = .returned (.tuple #[.int .i64 (X3 r).1, .int .i64 (X3 r).2]) ∧ Qa w w' := by
 have NP := fun w => Oa r hr w
 cases hp : r.pos
 ·have HR : X3 r = (0, 2) := by unfold X3; rw [hp]; rfl
  rw [HR]
  simp only [hp] at NP
  clear hp HR
  go_enter Tryz.func26, Tryz.ntmps26
  go_upto_region 1 with (fail)
  obtain ⟨v, hv⟩ := Qg (w.alloc (.cells #[.int .i64 r.n, .int .i64 r.d] 65))
  rw [← hv]
  have E : Qa w v := by rw [hv]; exact (Qa.refl _).alloc _
  have B1 : Qb v w.heap.size 65 #[.int .i64 r.n, .int .i64 r.d] := by rw [hv]; exact (Qb.new _ _ _)
  clear hv
  obtain ⟨b1, hb1⟩ := Qg (w.heap.size)
  rw [← hb1] at B1 ⊢
  have hbr : w.heap.size ≤ b1 := by omega
  clear hb1
  obtain ⟨k0, k1⟩ := B1.c2
  have lk := B1.lt
  go_wp2_with (go_at_call 67; (with_reducible refine Calls.mono (NP _) ?_); rintro e w2 ⟨rfl, h⟩)
  go_ret2
  exact ⟨rfl, E.trans h⟩
 ·have HR : X3 r = ((360 * r.d + r.n - 1) / r.n, 0) := by unfold X3; rw [hp]; rfl
  have HB := Lib.hid (dbl_bd hp)
  rw [HR] at HB ⊢
  simp only [hp] at NP
  obtain ⟨ho, hn⟩ : r.ok = true ∧ 0 < r.n := by simpa [Rt.pos] using hp
  obtain ⟨d1, d2, n1, n2, _⟩ := Zo ho
  have w1 : IntKind.i64.wrap (360 * r.d) = 360 * r.d := Zr (by omega) (by omega)
  have w2 : IntKind.i64.wrap (360 * r.d + r.n) = 360 * r.d + r.n := Zr (by omega) (by omega)
  have w3 : IntKind.i64.wrap (360 * r.d + r.n - 1) = 360 * r.d + r.n - 1 := Zr (by omega) (by omega)
  have w4 : IntKind.i64.wrap ((360 * r.d + r.n - 1).tdiv r.n) = (360 * r.d + r.n - 1) / r.n := by
   rw [Int.tdiv_eq_ediv_of_nonneg (by omega)]
   have := HB.out
   exact Zr (by omega) (by omega)
  have w5 : (r.n == 0) = false := beq_eq_false_iff_ne.2 (by omega)
  have w6 : r.n ≠ 0 := by omega
  clear hp HR HB ho hn d1 d2 n1 n2
  go_enter Tryz.func26, Tryz.ntmps26
  go_upto_region 1 with (fail)
  obtain ⟨v, hv⟩ := Qg (w.alloc (.cells #[.int .i64 r.n, .int .i64 r.d] 65))
  rw [← hv]
  have E : Qa w v := by rw [hv]; exact (Qa.refl _).alloc _
  have B1 : Qb v w.heap.size 65 #[.int .i64 r.n, .int .i64 r.d] := by rw [hv]; exact (Qb.new _ _ _)
  clear hv
  obtain ⟨b1, hb1⟩ := Qg (w.heap.size)
  rw [← hb1] at B1 ⊢
  have hbr : w.heap.size ≤ b1 := by omega
  clear hb1
  obtain ⟨k0, k1⟩ := B1.c2
  have lk := B1.lt
  go_wp2_with (go_at_call 67; (with_reducible refine Calls.mono (NP _) ?_); rintro e w2 ⟨rfl, h⟩; replace B1 := B1.ext h; clear k0 k1 lk; obtain ⟨k0, k1⟩ := B1.c2; have lk := B1.lt)
  go_ret2
  exact ⟨rfl, E.trans h⟩
theorem Py (p r : Rt) (k : Int) (hp : p.In) (hr : r.In) (hk1 : -9223372036854775808 ≤ k) (hk2 : k ≤ 9223372036854775807) (w : World) (hZ : Zu w) :
  Calls Tryz.prog 28 #[.agg #[.int .i64 p.n, .int .i64 p.d], .agg #[.int .i64 r.n, .int .i64 r.d], .int .i64 k] w fun e w' => e = .returned (.tuple #[.agg #[.int .i64 (Z5 p r k).1.n, .int .i64 (Z5 p r k).1.d], .int .i64 (Z5 p r k).2]) ∧ Qa w w' := by
 have NN := fun w b h => Nq (some ⟨b, 0, none⟩) 2 2 (Kw p r) w h (by decide) (fun i hi => by unfold Kw; split; exact hp; exact hr)
 rw [nn_two] at NN
 have HI := Qct p r k
 obtain ⟨R, hR0⟩ := Qg (Z5 p r k)
 rw [← hR0]
 have HR := Lib.hid hR0
 clear hR0
 rw [show Z5 p r k = R from HR.out.symm] at HI
 clear HR
 go_enter Tryz.func28, Tryz.ntmps28
 go_upto_region 1 with (fail)
 obtain ⟨v, hv⟩ := Qg (((w.alloc (.cells #[.int .i64 p.n, .int .i64 p.d] 65)).alloc (.cells #[.int .i64 r.n, .int .i64 r.d] 65)).alloc (.cells #[.int .i64 0, .int .i64 0] 65))
 rw [← hv]
 have E : Qa w v := by rw [hv]; exact (((Qa.refl _).alloc _).alloc _).alloc _
 have B1 : Qb v w.heap.size 65 #[.int .i64 p.n, .int .i64 p.d] := by rw [hv]; exact ((Qb.new _ _ _).alloc _).alloc _
 have B2 : Qb v (w.heap.size + 1) 65 #[.int .i64 r.n, .int .i64 r.d] := by rw [hv]; exact (Qb.at _ _ _ _ (by simp)).alloc _
 have B3 : Qb v (w.heap.size + 1 + 1) 65 #[.int .i64 0, .int .i64 0] := by rw [hv]; exact Qb.at _ _ _ _ (by simp)
 clear hv
 obtain ⟨b3, hb3⟩ := Qg (w.heap.size + 1 + 1)
 rw [← hb3] at B3 ⊢
 obtain ⟨b2, hb2⟩ := Qg (w.heap.size + 1)
 rw [← hb2] at B2 ⊢
 obtain ⟨b1, hb1⟩ := Qg (w.heap.size)
 rw [← hb1] at B1 ⊢
 have hbr : w.heap.size ≤ b3 := by omega
 have hbr1 : w.heap.size ≤ b1 := by omega
 have hbr2 : w.heap.size ≤ b2 := by omega
 have hn21 : b2 ≠ b1 := by omega
 have hn31 : b3 ≠ b1 := by omega
 have hn32 : b3 ≠ b2 := by omega
 clear hb1 hb2 hb3
 have Z0 := hZ.ext E
 clear hZ
 obtain ⟨k0, k1⟩ := B1.c2
 have lk := B1.lt
 obtain ⟨p0, p1⟩ := B2.c2
 have lp := B2.lt
 cases hnn : (p.nn && r.nn)
 ·rw [hnn] at NN HI
  have hr := HI.out.1 rfl
  subst hr
  clear HI hnn
  go_upto_region 2 with (go_at_call 70; (with_reducible refine Calls.mono (NN _ _ (Cy (Qb.new _ _ _))) ?_); rintro e w2 ⟨rfl, h⟩)
  replace E := (E.alloc _).trans h
  replace B3 := (B3.alloc _).ext h
  have f0 := B3.frozen 0
  have f1 := B3.frozen 1
  obtain ⟨x0, x1⟩ := B3.c2
  have lx := B3.lt
  have H4 := Qn B3 (.int .i64 0) (.int .i64 0)
  have EF := (E.setCell (p := ⟨b3, 0, none⟩) hbr (.int .i64 0)).setCell (p := ⟨b3, 1, none⟩) hbr (.int .i64 0)
  obtain ⟨y0, y1⟩ := H4.c2
  go_wp2
  refine bodyPost_ret (v := .tuple #[.agg #[.int .i64 0, .int .i64 0], .int .i64 2]) (by simp [results, Tryz.results28, go_sem, y0, y1]) rfl ⟨rfl, EF⟩
 ·rw [hnn] at NN HI
  have hI := Lib.hid (HI.out.2 rfl)
  clear HI
  go_upto_region 3 with (go_at_call 70; (with_reducible refine Calls.mono (NN _ _ (Cy (Qb.new _ _ _))) ?_); rintro e w2 ⟨rfl, h⟩)
  replace E := (E.alloc _).trans h
  replace Z0 := (Z0.ext ((Qa.refl _).alloc _)).ext h
  replace B1 := (B1.alloc _).ext h
  replace B2 := (B2.alloc _).ext h
  replace B3 := (B3.alloc _).ext h
  clear h k0 k1 lk p0 p1 lp
  by_cases c1 : k < 0
  ·have g1 : decide (k < 0) = true := decide_eq_true c1
   have hr := hI.out.1 (.inl c1)
   subst hr
   clear hI hnn c1
   have f0 := B3.frozen 0
   have f1 := B3.frozen 1
   obtain ⟨x0, x1⟩ := B3.c2
   have lx := B3.lt
   have H4 := Qn B3 (.int .i64 0) (.int .i64 0)
   have EF := (E.setCell (p := ⟨b3, 0, none⟩) hbr (.int .i64 0)).setCell (p := ⟨b3, 1, none⟩) hbr (.int .i64 0)
   obtain ⟨y0, y1⟩ := H4.c2
   go_wp2
   refine bodyPost_ret (v := .tuple #[.agg #[.int .i64 0, .int .i64 0], .int .i64 8]) (by simp [results, Tryz.results28, go_sem, y0, y1]) rfl ⟨rfl, EF⟩
  ·have g1 : decide (k < 0) = false := decide_eq_false c1
   by_cases c2 : 1099511627776 < k
   ·have g2 : decide (1099511627776 < k) = true := decide_eq_true c2
    have hr := hI.out.1 (.inr c2)
    subst hr
    clear hI hnn c1 c2
    have f0 := B3.frozen 0
    have f1 := B3.frozen 1
    obtain ⟨x0, x1⟩ := B3.c2
    have lx := B3.lt
    have H4 := Qn B3 (.int .i64 0) (.int .i64 0)
    have EF := (E.setCell (p := ⟨b3, 0, none⟩) hbr (.int .i64 0)).setCell (p := ⟨b3, 1, none⟩) hbr (.int .i64 0)
    obtain ⟨y0, y1⟩ := H4.c2
    go_wp2
    refine bodyPost_ret (v := .tuple #[.agg #[.int .i64 0, .int .i64 0], .int .i64 8]) (by simp [results, Tryz.results28, go_sem, y0, y1]) rfl ⟨rfl, EF⟩
   ·have g2 : decide (1099511627776 < k) = false := decide_eq_false c2
    obtain ⟨np, nr⟩ := Bool.and_eq_true_iff.1 hnn
    have hok : ∀ i, i < 4 → (Y6 p r k i).ok = true := Pg (J4 np).1 (J4 nr).1 (by omega) (by omega)
    have NP := fun w b h z => Ci (some ⟨b, 0, none⟩) 4 4 (Y6 p r k) w h (by decide) (fun i hi => Bj (hok i hi)) z
    rw [Qfj (by decide) hok, show Xt (Y6 p r k) 4 = R from (hI.out.2 (by omega) (by omega)).symm] at NP
    clear hI hnn np nr hok c1 c2
    obtain ⟨⟨Rn, Rd⟩, Re⟩ := R
    go_upto_region 5 with (fail)
    refine Q1 11 [9, 10] (fun x => Qa w2 x) Qq rfl ?_
    intro vz hvz
    have HC := hvz
    refine Qr (g := 7) [0, 1, 2, 4] [_, _, _, _] ⟨rfl, rfl, rfl, rfl, trivial⟩ (by kernel_rfl) (by kernel_rfl) HC ?_
    simp only [Qc, Qd, Qe]
    apply Exists.intro
    refine ⟨fun u hu => ?_, ?_⟩
    ·obtain ⟨k0, k1⟩ := (B1.ext hu).c2
     obtain ⟨p0, p1⟩ := (B2.ext hu).c2
     have lk := (B1.ext hu).lt
     have lp := (B2.ext hu).lt
     repeat (first | go_big_quiet_skip | (go_big_quiet_want; go_big_quiet_op; go_big_quiet_on))
     refine wpQuiet_nil ?_
     rfl
    refine Qk 3 rfl (by kernel_rfl) ?_
    simp only [Qc, Qd, Qe]
    go_wp2_with (go_at_call 72; (with_reducible refine Calls.mono (Xm _ _) ?_); rintro e va ⟨rfl, h4⟩)
    replace HC := HC.trans h4
    clear h4 hvz
    refine Qh HC ?_
    refine Qk 5 rfl (by kernel_rfl) ?_
    simp only [Qc, Qd, Qe]
    go_wp2
    have B5 := rows4 (p := p) (r := r) (k := k) (Qb.new va 65 #[.int .i64 p.n, .int .i64 p.d, .int .i64 r.n, .int .i64 r.d, .int .i64 k, .int .i64 1, .int .i64 1, .int .i64 360])
    replace HC : Qa w2 (va.alloc _) := HC.alloc (.cells #[.int .i64 p.n, .int .i64 p.d, .int .i64 r.n, .int .i64 r.d, .int .i64 k, .int .i64 1, .int .i64 1, .int .i64 360] 65)
    generalize va.heap.size = b5 at *
    generalize World.alloc va _ = vd at *
    clear va
    refine Qh HC ?_
    refine Qk 6 rfl (by kernel_rfl) ?_
    simp only [Qc, Qd, Qe]
    go_wp2_with (go_at_call 71; (with_reducible refine Calls.mono (NP _ _ B5 (Z0.ext HC)) ?_); rintro e vb ⟨rfl, h4⟩)
    replace HC := HC.trans h4
    clear h4 B5 NP
    refine Qh HC ?_
    refine Qr (g := 2) [7, 8] [_, _] ⟨rfl, rfl, trivial⟩ (by kernel_rfl) (by kernel_rfl) HC ?_
    simp only [Qc, Qd, Qe]
    apply Exists.intro
    refine ⟨fun u hu => ?_, ?_⟩
    ·skip
     repeat (first | go_big_quiet_skip | (go_big_quiet_want; go_big_quiet_op; go_big_quiet_on))
     refine wpQuiet_nil ?_
     rfl
    replace B3 := B3.ext HC
    replace E := E.trans HC
    refine Qm 9 rfl (by kernel_rfl) ?_
    simp only [Qc, Qd, Qe]
    have f0 := B3.frozen 0
    have f1 := B3.frozen 1
    obtain ⟨x0, x1⟩ := B3.c2
    have lx := B3.lt
    have H4 := Qn B3 (.int .i64 Rn) (.int .i64 Rd)
    have EF := (E.setCell (p := ⟨b3, 0, none⟩) hbr (.int .i64 Rn)).setCell (p := ⟨b3, 1, none⟩) hbr (.int .i64 Rd)
    obtain ⟨y0, y1⟩ := H4.c2
    go_wp2
    refine Ql ?_
    refine Qm 10 rfl (by kernel_rfl) ?_
    simp only [Qc, Qd, Qe]
    go_wp2
    refine Ql ?_
    refine Qs (by kernel_rfl) ?_
    go_wp2
    refine bodyPost_ret (v := .tuple #[.agg #[.int .i64 Rn, .int .i64 Rd], .int .i64 Re]) (by simp [results, Tryz.results28, go_sem, y0, y1]) rfl ⟨rfl, EF⟩
theorem Az (n : Nat) : upTo (fun _ => n) 1 = n := by show 1 * n = n; omega
theorem A3 {w : World} {b : Nat} {t : TypeId} {n : Nat} (h : Qb w b t #[.int .u64 (n : Int)]) : Qo w (some ⟨b, 0, none⟩) 1 1 (Q7 fun _ => n) := V5 (f := Q7 fun _ => n) (n := 1) (fun _ => rfl) h
theorem Cn (n d : Int) (hn1 : -9223372036854775808 ≤ n) (hn2 : n ≤ 9223372036854775807) (hd1 : -9223372036854775808 ≤ d) (hd2 : d ≤ 9223372036854775807) (w : World) (hZ : Zu w) :
  Calls Tryz.prog 134 #[.int .i64 n, .int .i64 d] w fun e w' => e = .returned (.tuple #[.agg #[.int .i64 (Jq n d).1.n, .int .i64 (Jq n d).1.d], .int .i64 (Jq n d).2]) ∧ Qa w w' := by
 obtain ⟨R, hR0⟩ := Qg (Jq n d)
 rw [← hR0]
 have HR := Lib.hid hR0
 clear hR0
 go_enter Tryz.func134, Tryz.ntmps134
 go_upto_region 1 with (fail)
 obtain ⟨v, hv⟩ := Qg (w.alloc (.cells #[.int .i64 0, .int .i64 0] 65))
 rw [← hv]
 have E : Qa w v := by rw [hv]; exact (Qa.refl _).alloc _
 have B1 : Qb v w.heap.size 65 #[.int .i64 0, .int .i64 0] := by rw [hv]; exact (Qb.new _ _ _)
 clear hv
 obtain ⟨b1, hb1⟩ := Qg (w.heap.size)
 rw [← hb1] at B1 ⊢
 have hbr : w.heap.size ≤ b1 := by omega
 clear hb1
 have Z0 := hZ.ext E
 clear hZ
 by_cases hd0 : d = 0
 ·have g0 : (d == 0) = true := by rw [hd0]; rfl
  have hr : R = (Zd, 9) := by rw [HR.out]; unfold Jq; rw [if_pos hd0]
  subst hr
  clear HR hd0
  have f0 := B1.frozen 0
  have f1 := B1.frozen 1
  obtain ⟨x0, x1⟩ := B1.c2
  have lx := B1.lt
  have H4 := Qn B1 (.int .i64 0) (.int .i64 0)
  have EF := (E.setCell (p := ⟨b1, 0, none⟩) hbr (.int .i64 0)).setCell (p := ⟨b1, 1, none⟩) hbr (.int .i64 0)
  obtain ⟨y0, y1⟩ := H4.c2
  go_wp2
  refine bodyPost_ret (v := .tuple #[.agg #[.int .i64 0, .int .i64 0], .int .i64 9]) (by simp [results, Tryz.results134, go_sem, y0, y1]) rfl ⟨rfl, EF⟩
 ·have g0 : (d == 0) = false := beq_eq_false_iff_ne.2 hd0
  by_cases hn0 : n = 0
  ·have g1 : (n == 0) = true := by rw [hn0]; rfl
   have hr : R = (⟨0, 1⟩, 0) := by rw [HR.out]; unfold Jq; rw [if_neg hd0, hn0]; exact Og (by omega)
   subst hr
   clear HR hd0 hn0
   obtain ⟨z0, z1, lz⟩ := Z0
   have f0 := B1.frozen 0
   have f1 := B1.frozen 1
   obtain ⟨x0, x1⟩ := B1.c2
   have lx := B1.lt
   have H4 := Qn B1 (.int .i64 0) (.int .i64 1)
   have EF := (E.setCell (p := ⟨b1, 0, none⟩) hbr (.int .i64 0)).setCell (p := ⟨b1, 1, none⟩) hbr (.int .i64 1)
   obtain ⟨y0, y1⟩ := H4.c2
   go_wp2
   refine bodyPost_ret (v := .tuple #[.agg #[.int .i64 0, .int .i64 1], .int .i64 0]) (by simp [results, Tryz.results134, go_sem, y0, y1]) rfl ⟨rfl, EF⟩
  ·have g1 : (n == 0) = false := beq_eq_false_iff_ne.2 hn0
   have NN := fun w => Ud n hn1 hn2 w
   have ND := fun w => Ud d hd1 hd2 w
   have NR := fun w b b' neg (hneg : neg = (decide (n < 0) != decide (d < 0))) h h' => Rl (some ⟨b, 0, none⟩) (some ⟨b', 0, none⟩) 1 1 1 1 (fun _ => n.natAbs) (fun _ => d.natAbs) neg w h h' (fun h => by cases h) (fun h => by cases h) (by decide) (by decide) (fun i hi => by omega) (fun i hi => by omega) (fun i hi => by omega) (fun i hi => by omega)
   have hq : ∀ neg, neg = (decide (n < 0) != decide (d < 0)) → Jk neg n.natAbs d.natAbs = R := fun neg e => by rw [e, HR.out]; unfold Jq; rw [if_neg hd0]
   have NR : ∀ (w : World) (b b' : Nat), Qo w (some ⟨b, 0, none⟩) 1 1 (Q7 fun _ => n.natAbs) → Qo w (some ⟨b', 0, none⟩) 1 1 (Q7 fun _ => d.natAbs) → Calls Tryz.prog 163 #[.agg #[.slice (some ⟨b, 0, none⟩) 1 1, .slice (some ⟨b', 0, none⟩) 1 1], .bool (!(decide (n < 0) == decide (d < 0)))] w fun e w' => e = .returned (.tuple #[.agg #[.int .i64 R.1.n, .int .i64 R.1.d], .int .i64 R.2]) ∧ Qa w w' := fun w b b' h h' => by
    have := NR w b b' _ rfl h h'
    rw [Az, Az, hq _ rfl] at this
    exact this
   clear hq
   generalize n.natAbs = an at *
   generalize d.natAbs = ad at *
   clear HR hn0 hd0
   obtain ⟨⟨Rn, Rd⟩, Re⟩ := R
   go_wp2_with (first
    | (go_at_call 162; (with_reducible refine Calls.mono (NN _) ?_); rintro e w1 ⟨rfl, h1⟩; have U1 := A3 (Qb.new w1 245 #[.int .u64 (an : Int)]); have h2 : Qa w1 (w1.alloc (.cells #[.int .u64 (an : Int)] 245)) := (Qa.refl _).alloc _)
    | (go_at_call 162; (with_reducible refine Calls.mono (ND _) ?_); rintro e w3 ⟨rfl, h3⟩; have U2 := A3 (Qb.new w3 245 #[.int .u64 (ad : Int)]); have h4 : Qa w3 (w3.alloc (.cells #[.int .u64 (ad : Int)] 245)) := (Qa.refl _).alloc _)
    | (go_at_call 163; (with_reducible refine Calls.mono (NR _ _ _ (U1.ext (h3.trans h4)) U2) ?_); rintro e wt ⟨rfl, ht⟩; replace E := ((((E.trans h1).trans h2).trans h3).trans h4).trans ht; replace B1 := ((((B1.ext h1).ext h2).ext h3).ext h4).ext ht; have f0 := B1.frozen 0; have f1 := B1.frozen 1; obtain ⟨x0, x1⟩ := B1.c2; have lx := B1.lt))
   have H4 := Qn B1 (.int .i64 Rn) (.int .i64 Rd)
   have EF := (E.setCell (p := ⟨b1, 0, none⟩) hbr (.int .i64 Rn)).setCell (p := ⟨b1, 1, none⟩) hbr (.int .i64 Rd)
   obtain ⟨y0, y1⟩ := H4.c2
   go_wp2
   refine bodyPost_ret (v := .tuple #[.agg #[.int .i64 Rn, .int .i64 Rd], .int .i64 Re]) (by simp [results, Tryz.results134, go_sem, y0, y1]) rfl ⟨rfl, EF⟩
theorem Eu (a b : Rt) (ha : a.ok = true) (hb : b.ok = true) (ba bb : Nat) (w : World) (hA : Qb w ba 65 #[.int .i64 a.n, .int .i64 a.d]) (hB : Qb w bb 65 #[.int .i64 b.n, .int .i64 b.d]) (hZ : Zu w) :
  Calls Tryz.prog 133 #[.pointer (some ⟨ba, 0, none⟩), .pointer (some ⟨bb, 0, none⟩)] w fun e w' => e = .returned (.tuple #[.agg #[.int .i64 (Jq (a.n * b.d + b.n * a.d) (a.d * b.d)).1.n, .int .i64 (Jq (a.n * b.d + b.n * a.d) (a.d * b.d)).1.d], .int .i64 (Jq (a.n * b.d + b.n * a.d) (a.d * b.d)).2]) ∧ Qa w w' := by
 obtain ⟨m1, m2, m3, m4⟩ := Xu ha hb
 obtain ⟨m5, m6, _, _⟩ := Xu hb ha
 have w1 : IntKind.i64.wrap (a.n * b.d) = a.n * b.d := Zr (by omega) (by omega)
 have w2 : IntKind.i64.wrap (b.n * a.d) = b.n * a.d := Zr (by omega) (by omega)
 have w3 : IntKind.i64.wrap (a.n * b.d + b.n * a.d) = a.n * b.d + b.n * a.d := Zr (by omega) (by omega)
 have w4 : IntKind.i64.wrap (a.d * b.d) = a.d * b.d := Zr (by omega) (by omega)
 have NR := fun w z => Cn (a.n * b.d + b.n * a.d) (a.d * b.d) (by omega) (by omega) (by omega) (by omega) w z
 obtain ⟨R, hR0⟩ := Qg (Jq (a.n * b.d + b.n * a.d) (a.d * b.d))
 rw [← hR0] at NR ⊢
 clear hR0 m1 m2 m3 m4 m5 m6 ha hb
 go_enter Tryz.func133, Tryz.ntmps133
 go_upto_region 1 with (fail)
 obtain ⟨v, hv⟩ := Qg (w.alloc (.cells #[.int .i64 0, .int .i64 0] 65))
 rw [← hv]
 have E : Qa w v := by rw [hv]; exact (Qa.refl _).alloc _
 have B1 : Qb v w.heap.size 65 #[.int .i64 0, .int .i64 0] := by rw [hv]; exact (Qb.new _ _ _)
 clear hv
 obtain ⟨b1, hb1⟩ := Qg (w.heap.size)
 rw [← hb1] at B1 ⊢
 have hbr : w.heap.size ≤ b1 := by omega
 clear hb1
 have Z0 := hZ.ext E
 replace hA := hA.ext E
 replace hB := hB.ext E
 obtain ⟨k0, k1⟩ := hA.c2
 have lk := hA.lt
 obtain ⟨p0, p1⟩ := hB.c2
 have lp := hB.lt
 obtain ⟨⟨Rn, Rd⟩, Re⟩ := R
 go_wp2_with (first | (go_at_call 134; (with_reducible refine Calls.mono (NR _ Z0) ?_); rintro e wt ⟨rfl, ht⟩; replace E := E.trans ht; replace B1 := B1.ext ht; have f0 := B1.frozen 0; have f1 := B1.frozen 1; obtain ⟨x0, x1⟩ := B1.c2; have lx := B1.lt))
 have H4 := Qn B1 (.int .i64 Rn) (.int .i64 Rd)
 have EF := (E.setCell (p := ⟨b1, 0, none⟩) hbr (.int .i64 Rn)).setCell (p := ⟨b1, 1, none⟩) hbr (.int .i64 Rd)
 obtain ⟨y0, y1⟩ := H4.c2
 go_wp2
 refine bodyPost_ret (v := .tuple #[.agg #[.int .i64 Rn, .int .i64 Rd], .int .i64 Re]) (by simp [results, Tryz.results133, go_sem, y0, y1]) rfl ⟨rfl, EF⟩
theorem Qf3 (a b : Rt) (ha : a.ok = true) (hb : b.ok = true) (ba bb : Nat) (w : World) (hA : Qb w ba 65 #[.int .i64 a.n, .int .i64 a.d]) (hB : Qb w bb 65 #[.int .i64 b.n, .int .i64 b.d]) (hZ : Zu w) :
  Calls Tryz.prog 139 #[.pointer (some ⟨ba, 0, none⟩), .pointer (some ⟨bb, 0, none⟩)] w fun e w' => e = .returned (.tuple #[.agg #[.int .i64 (Jq (a.n * b.d - b.n * a.d) (a.d * b.d)).1.n, .int .i64 (Jq (a.n * b.d - b.n * a.d) (a.d * b.d)).1.d], .int .i64 (Jq (a.n * b.d - b.n * a.d) (a.d * b.d)).2]) ∧ Qa w w' := by
 obtain ⟨m1, m2, m3, m4⟩ := Xu ha hb
 obtain ⟨m5, m6, _, _⟩ := Xu hb ha
 have w1 : IntKind.i64.wrap (a.n * b.d) = a.n * b.d := Zr (by omega) (by omega)
 have w2 : IntKind.i64.wrap (b.n * a.d) = b.n * a.d := Zr (by omega) (by omega)
 have w3 : IntKind.i64.wrap (a.n * b.d - b.n * a.d) = a.n * b.d - b.n * a.d := Zr (by omega) (by omega)
 have w4 : IntKind.i64.wrap (a.d * b.d) = a.d * b.d := Zr (by omega) (by omega)
 have NR := fun w z => Cn (a.n * b.d - b.n * a.d) (a.d * b.d) (by omega) (by omega) (by omega) (by omega) w z
 obtain ⟨R, hR0⟩ := Qg (Jq (a.n * b.d - b.n * a.d) (a.d * b.d))
 rw [← hR0] at NR ⊢
 clear hR0 m1 m2 m3 m4 m5 m6 ha hb
 go_enter Tryz.func139, Tryz.ntmps139
 go_upto_region 1 with (fail)
 obtain ⟨v, hv⟩ := Qg (w.alloc (.cells #[.int .i64 0, .int .i64 0] 65))
 rw [← hv]
 have E : Qa w v := by rw [hv]; exact (Qa.refl _).alloc _
 have B1 : Qb v w.heap.size 65 #[.int .i64 0, .int .i64 0] := by rw [hv]; exact (Qb.new _ _ _)
 clear hv
 obtain ⟨b1, hb1⟩ := Qg (w.heap.size)
 rw [← hb1] at B1 ⊢
 have hbr : w.heap.size ≤ b1 := by omega
 clear hb1
 have Z0 := hZ.ext E
 replace hA := hA.ext E
 replace hB := hB.ext E
 obtain ⟨k0, k1⟩ := hA.c2
 have lk := hA.lt
 obtain ⟨p0, p1⟩ := hB.c2
 have lp := hB.lt
 obtain ⟨⟨Rn, Rd⟩, Re⟩ := R
 go_wp2_with (first | (go_at_call 134; (with_reducible refine Calls.mono (NR _ Z0) ?_); rintro e wt ⟨rfl, ht⟩; replace E := E.trans ht; replace B1 := B1.ext ht; have f0 := B1.frozen 0; have f1 := B1.frozen 1; obtain ⟨x0, x1⟩ := B1.c2; have lx := B1.lt))
 have H4 := Qn B1 (.int .i64 Rn) (.int .i64 Rd)
 have EF := (E.setCell (p := ⟨b1, 0, none⟩) hbr (.int .i64 Rn)).setCell (p := ⟨b1, 1, none⟩) hbr (.int .i64 Rd)
 obtain ⟨y0, y1⟩ := H4.c2
 go_wp2
 refine bodyPost_ret (v := .tuple #[.agg #[.int .i64 Rn, .int .i64 Rd], .int .i64 Re]) (by simp [results, Tryz.results139, go_sem, y0, y1]) rfl ⟨rfl, EF⟩
theorem Qaa (a b : Rt) (hia : a.In) (hib : b.In) (ba bb : Nat) (w : World) (hA : Qb w ba 65 #[.int .i64 a.n, .int .i64 a.d]) (hB : Qb w bb 65 #[.int .i64 b.n, .int .i64 b.d]) (hZ : Zu w) :
  Calls Tryz.prog 132 #[.agg #[.int .i64 a.n, .int .i64 a.d], .agg #[.int .i64 b.n, .int .i64 b.d], .func (.func 133) #[] #[.pointer (some ⟨ba, 0, none⟩), .pointer (some ⟨bb, 0, none⟩)]] w fun e w' => e = .returned (.tuple #[.agg #[.int .i64 (Q4 a b).1.n, .int .i64 (Q4 a b).1.d], .int .i64 (Q4 a b).2]) ∧ Qa w w' := by
 have NA := fun w => W8 a.n a.d hia.1 hia.2.1 hia.2.2.1 hia.2.2.2 w
 have NB := fun w => W8 b.n b.d hib.1 hib.2.1 hib.2.2.1 hib.2.2.2 w
 rw [show Rt.ok ⟨a.n, a.d⟩ = a.ok from rfl] at NA
 rw [show Rt.ok ⟨b.n, b.d⟩ = b.ok from rfl] at NB
 have NC := fun ha hb w h1 h2 z => Eu a b ha hb ba bb w h1 h2 z
 have HV : Hid (Q4 a b = if a.ok && b.ok then Jq (a.n * b.d + b.n * a.d) (a.d * b.d) else (Zd, 2)) := rfl
 obtain ⟨R, hR0⟩ := Qg (Q4 a b)
 rw [← hR0]
 have HR := Lib.hid hR0
 clear hR0
 rw [show Q4 a b = R from HR.out.symm] at HV
 clear HR
 go_enter Tryz.func132, Tryz.ntmps132
 go_upto_region 1 with (fail)
 obtain ⟨v, hv⟩ := Qg (((w.alloc (.cells #[.int .i64 a.n, .int .i64 a.d] 65)).alloc (.cells #[.int .i64 b.n, .int .i64 b.d] 65)).alloc (.cells #[.int .i64 0, .int .i64 0] 65))
 rw [← hv]
 have E : Qa w v := by rw [hv]; exact (((Qa.refl _).alloc _).alloc _).alloc _
 have B1 : Qb v w.heap.size 65 #[.int .i64 a.n, .int .i64 a.d] := by rw [hv]; exact ((Qb.new _ _ _).alloc _).alloc _
 have B2 : Qb v (w.heap.size + 1) 65 #[.int .i64 b.n, .int .i64 b.d] := by rw [hv]; exact (Qb.at _ _ _ _ (by simp)).alloc _
 have B3 : Qb v (w.heap.size + 1 + 1) 65 #[.int .i64 0, .int .i64 0] := by rw [hv]; exact Qb.at _ _ _ _ (by simp)
 clear hv
 obtain ⟨b3, hb3⟩ := Qg (w.heap.size + 1 + 1)
 rw [← hb3] at B3 ⊢
 obtain ⟨b2, hb2⟩ := Qg (w.heap.size + 1)
 rw [← hb2] at B2 ⊢
 obtain ⟨b1, hb1⟩ := Qg (w.heap.size)
 rw [← hb1] at B1 ⊢
 have hbr : w.heap.size ≤ b3 := by omega
 have hbr1 : w.heap.size ≤ b1 := by omega
 have hbr2 : w.heap.size ≤ b2 := by omega
 have hn21 : b2 ≠ b1 := by omega
 have hn31 : b3 ≠ b1 := by omega
 have hn32 : b3 ≠ b2 := by omega
 clear hb1 hb2 hb3
 obtain ⟨k0, k1⟩ := B1.c2
 have lk := B1.lt
 obtain ⟨p0, p1⟩ := B2.c2
 have lp := B2.lt
 cases ha : a.ok
 ·simp only [ha] at NA
  have hr := HV.out
  rw [ha, Bool.false_and, if_neg (by decide)] at hr
  subst hr
  clear HV NC NB
  go_upto_region 2 with (go_at_call 121; (with_reducible refine Calls.mono (NA _) ?_); rintro e w2 ⟨rfl, h⟩)
  replace E := E.trans h
  replace B3 := B3.ext h
  have f0 := B3.frozen 0
  have f1 := B3.frozen 1
  obtain ⟨x0, x1⟩ := B3.c2
  have lx := B3.lt
  have H4 := Qn B3 (.int .i64 0) (.int .i64 0)
  have EF := (E.setCell (p := ⟨b3, 0, none⟩) hbr (.int .i64 0)).setCell (p := ⟨b3, 1, none⟩) hbr (.int .i64 0)
  obtain ⟨y0, y1⟩ := H4.c2
  go_wp2
  refine bodyPost_ret (v := .tuple #[.agg #[.int .i64 0, .int .i64 0], .int .i64 2]) (by simp [results, Tryz.results132, go_sem, y0, y1]) rfl ⟨rfl, EF⟩
 ·simp only [ha] at NA
  cases hb : b.ok
  ·simp only [hb] at NB
   have hr := HV.out
   rw [hb, Bool.and_false, if_neg (by decide)] at hr
   subst hr
   clear HV NC
   go_upto_region 2 with (first | (go_at_call 121; (with_reducible refine Calls.mono (NA _) ?_); rintro e w1 ⟨rfl, h1⟩; clear p0 p1 lp; obtain ⟨p0, p1⟩ := (B2.ext h1).c2; have lp := (B2.ext h1).lt) | (go_at_call 121; (with_reducible refine Calls.mono (NB _) ?_); rintro e w2 ⟨rfl, h⟩))
   replace E := (E.trans h1).trans h
   replace B3 := (B3.ext h1).ext h
   have f0 := B3.frozen 0
   have f1 := B3.frozen 1
   obtain ⟨x0, x1⟩ := B3.c2
   have lx := B3.lt
   have H4 := Qn B3 (.int .i64 0) (.int .i64 0)
   have EF := (E.setCell (p := ⟨b3, 0, none⟩) hbr (.int .i64 0)).setCell (p := ⟨b3, 1, none⟩) hbr (.int .i64 0)
   obtain ⟨y0, y1⟩ := H4.c2
   go_wp2
   refine bodyPost_ret (v := .tuple #[.agg #[.int .i64 0, .int .i64 0], .int .i64 2]) (by simp [results, Tryz.results132, go_sem, y0, y1]) rfl ⟨rfl, EF⟩
  ·simp only [hb] at NB
   replace NC := NC ha hb
   have hr := HV.out
   rw [ha, hb, Bool.and_true, if_pos rfl] at hr
   rw [← hr] at NC
   clear HV hr ha hb
   obtain ⟨⟨Rn, Rd⟩, Re⟩ := R
   go_upto_region 3 with (first | (go_at_call 121; (with_reducible refine Calls.mono (NA _) ?_); rintro e w1 ⟨rfl, h1⟩; clear p0 p1 lp; obtain ⟨p0, p1⟩ := (B2.ext h1).c2; have lp := (B2.ext h1).lt) | (go_at_call 121; (with_reducible refine Calls.mono (NB _) ?_); rintro e w2 ⟨rfl, h⟩))
   have e2 := (E.trans h1).trans h
   replace B3 := (B3.ext h1).ext h
   replace NC := NC w2 (hA.ext e2) (hB.ext e2) (hZ.ext e2)
   replace E := e2
   go_wp2_with (first | (go_at_call 133; (with_reducible refine Calls.mono (NC) ?_); rintro e wt ⟨rfl, ht⟩; replace E := E.trans ht; replace B3 := B3.ext ht; have f0 := B3.frozen 0; have f1 := B3.frozen 1; obtain ⟨x0, x1⟩ := B3.c2; have lx := B3.lt) | (go_at_fn 133; (with_reducible refine Calls.mono (NC) ?_); rintro e wt ⟨rfl, ht⟩; replace E := E.trans ht; replace B3 := B3.ext ht; have f0 := B3.frozen 0; have f1 := B3.frozen 1; obtain ⟨x0, x1⟩ := B3.c2; have lx := B3.lt))
   have H4 := Qn B3 (.int .i64 Rn) (.int .i64 Rd)
   have EF := (E.setCell (p := ⟨b3, 0, none⟩) hbr (.int .i64 Rn)).setCell (p := ⟨b3, 1, none⟩) hbr (.int .i64 Rd)
   obtain ⟨y0, y1⟩ := H4.c2
   go_wp2
   refine bodyPost_ret (v := .tuple #[.agg #[.int .i64 Rn, .int .i64 Rd], .int .i64 Re]) (by simp [results, Tryz.results132, go_sem, y0, y1]) rfl ⟨rfl, EF⟩
theorem Lf (a b : Rt) (hia : a.In) (hib : b.In) (w : World) (hZ : Zu w) :
  Calls Tryz.prog 86 #[.agg #[.int .i64 a.n, .int .i64 a.d], .agg #[.int .i64 b.n, .int .i64 b.d]] w fun e w' => e = .returned (.tuple #[.agg #[.int .i64 (Q4 a b).1.n, .int .i64 (Q4 a b).1.d], .int .i64 (Q4 a b).2]) ∧ Qa w w' := by
 have NC := fun ba bb w h1 h2 z => Qaa a b hia hib ba bb w h1 h2 z
 obtain ⟨R, hR0⟩ := Qg (Q4 a b)
 rw [← hR0]
 have HR := Lib.hid hR0
 clear hR0
 rw [show Q4 a b = R from HR.out.symm] at NC
 clear HR
 go_enter Tryz.func86, Tryz.ntmps86
 go_upto_region 1 with (fail)
 obtain ⟨v, hv⟩ := Qg (((w.alloc (.cells #[.int .i64 a.n, .int .i64 a.d] 65)).alloc (.cells #[.int .i64 b.n, .int .i64 b.d] 65)).alloc (.cells #[.int .i64 0, .int .i64 0] 65))
 rw [← hv]
 have E : Qa w v := by rw [hv]; exact (((Qa.refl _).alloc _).alloc _).alloc _
 have B1 : Qb v w.heap.size 65 #[.int .i64 a.n, .int .i64 a.d] := by rw [hv]; exact ((Qb.new _ _ _).alloc _).alloc _
 have B2 : Qb v (w.heap.size + 1) 65 #[.int .i64 b.n, .int .i64 b.d] := by rw [hv]; exact (Qb.at _ _ _ _ (by simp)).alloc _
 have B3 : Qb v (w.heap.size + 1 + 1) 65 #[.int .i64 0, .int .i64 0] := by rw [hv]; exact Qb.at _ _ _ _ (by simp)
 clear hv
 obtain ⟨b3, hb3⟩ := Qg (w.heap.size + 1 + 1)
 rw [← hb3] at B3 ⊢
 obtain ⟨b2, hb2⟩ := Qg (w.heap.size + 1)
 rw [← hb2] at B2 ⊢
 obtain ⟨b1, hb1⟩ := Qg (w.heap.size)
 rw [← hb1] at B1 ⊢
 have hbr : w.heap.size ≤ b3 := by omega
 have hbr1 : w.heap.size ≤ b1 := by omega
 have hbr2 : w.heap.size ≤ b2 := by omega
 have hn21 : b2 ≠ b1 := by omega
 have hn31 : b3 ≠ b1 := by omega
 have hn32 : b3 ≠ b2 := by omega
 clear hb1 hb2 hb3
 have Z0 := hZ.ext E
 obtain ⟨k0, k1⟩ := B1.c2
 have lk := B1.lt
 obtain ⟨p0, p1⟩ := B2.c2
 have lp := B2.lt
 obtain ⟨⟨Rn, Rd⟩, Re⟩ := R
 go_wp2_with (first | (go_at_call 132; (with_reducible refine Calls.mono (NC _ _ _ B1 B2 Z0) ?_); rintro e wt ⟨rfl, ht⟩; replace E := E.trans ht; replace B3 := B3.ext ht; have f0 := B3.frozen 0; have f1 := B3.frozen 1; obtain ⟨x0, x1⟩ := B3.c2; have lx := B3.lt))
 have H4 := Qn B3 (.int .i64 Rn) (.int .i64 Rd)
 have EF := (E.setCell (p := ⟨b3, 0, none⟩) hbr (.int .i64 Rn)).setCell (p := ⟨b3, 1, none⟩) hbr (.int .i64 Rd)
 obtain ⟨y0, y1⟩ := H4.c2
 go_wp2
 refine bodyPost_ret (v := .tuple #[.agg #[.int .i64 Rn, .int .i64 Rd], .int .i64 Re]) (by simp [results, Tryz.results86, go_sem, y0, y1]) rfl ⟨rfl, EF⟩
theorem Qac (a b : Rt) (hia : a.In) (hib : b.In) (ba bb : Nat) (w : World) (hA : Qb w ba 65 #[.int .i64 a.n, .int .i64 a.d]) (hB : Qb w bb 65 #[.int .i64 b.n, .int .i64 b.d]) (hZ : Zu w) :
  Calls Tryz.prog 132 #[.agg #[.int .i64 a.n, .int .i64 a.d], .agg #[.int .i64 b.n, .int .i64 b.d], .func (.func 139) #[] #[.pointer (some ⟨ba, 0, none⟩), .pointer (some ⟨bb, 0, none⟩)]] w fun e w' => e = .returned (.tuple #[.agg #[.int .i64 (Zs a b).1.n, .int .i64 (Zs a b).1.d], .int .i64 (Zs a b).2]) ∧ Qa w w' := by
 have NA := fun w => W8 a.n a.d hia.1 hia.2.1 hia.2.2.1 hia.2.2.2 w
 have NB := fun w => W8 b.n b.d hib.1 hib.2.1 hib.2.2.1 hib.2.2.2 w
 rw [show Rt.ok ⟨a.n, a.d⟩ = a.ok from rfl] at NA
 rw [show Rt.ok ⟨b.n, b.d⟩ = b.ok from rfl] at NB
 have NC := fun ha hb w h1 h2 z => Qf3 a b ha hb ba bb w h1 h2 z
 have HV : Hid (Zs a b = if a.ok && b.ok then Jq (a.n * b.d - b.n * a.d) (a.d * b.d) else (Zd, 2)) := rfl
 obtain ⟨R, hR0⟩ := Qg (Zs a b)
 rw [← hR0]
 have HR := Lib.hid hR0
 clear hR0
 rw [show Zs a b = R from HR.out.symm] at HV
 clear HR
 go_enter Tryz.func132, Tryz.ntmps132
 go_upto_region 1 with (fail)
 obtain ⟨v, hv⟩ := Qg (((w.alloc (.cells #[.int .i64 a.n, .int .i64 a.d] 65)).alloc (.cells #[.int .i64 b.n, .int .i64 b.d] 65)).alloc (.cells #[.int .i64 0, .int .i64 0] 65))
 rw [← hv]
 have E : Qa w v := by rw [hv]; exact (((Qa.refl _).alloc _).alloc _).alloc _
 have B1 : Qb v w.heap.size 65 #[.int .i64 a.n, .int .i64 a.d] := by rw [hv]; exact ((Qb.new _ _ _).alloc _).alloc _
 have B2 : Qb v (w.heap.size + 1) 65 #[.int .i64 b.n, .int .i64 b.d] := by rw [hv]; exact (Qb.at _ _ _ _ (by simp)).alloc _
 have B3 : Qb v (w.heap.size + 1 + 1) 65 #[.int .i64 0, .int .i64 0] := by rw [hv]; exact Qb.at _ _ _ _ (by simp)
 clear hv
 obtain ⟨b3, hb3⟩ := Qg (w.heap.size + 1 + 1)
 rw [← hb3] at B3 ⊢
 obtain ⟨b2, hb2⟩ := Qg (w.heap.size + 1)
 rw [← hb2] at B2 ⊢
 obtain ⟨b1, hb1⟩ := Qg (w.heap.size)
 rw [← hb1] at B1 ⊢
 have hbr : w.heap.size ≤ b3 := by omega
 have hbr1 : w.heap.size ≤ b1 := by omega
 have hbr2 : w.heap.size ≤ b2 := by omega
 have hn21 : b2 ≠ b1 := by omega
 have hn31 : b3 ≠ b1 := by omega
 have hn32 : b3 ≠ b2 := by omega
 clear hb1 hb2 hb3
 obtain ⟨k0, k1⟩ := B1.c2
 have lk := B1.lt
 obtain ⟨p0, p1⟩ := B2.c2
 have lp := B2.lt
 cases ha : a.ok
 ·simp only [ha] at NA
  have hr := HV.out
  rw [ha, Bool.false_and, if_neg (by decide)] at hr
  subst hr
  clear HV NC NB
  go_upto_region 2 with (go_at_call 121; (with_reducible refine Calls.mono (NA _) ?_); rintro e w2 ⟨rfl, h⟩)
  replace E := E.trans h
  replace B3 := B3.ext h
  have f0 := B3.frozen 0
  have f1 := B3.frozen 1
  obtain ⟨x0, x1⟩ := B3.c2
  have lx := B3.lt
  have H4 := Qn B3 (.int .i64 0) (.int .i64 0)
  have EF := (E.setCell (p := ⟨b3, 0, none⟩) hbr (.int .i64 0)).setCell (p := ⟨b3, 1, none⟩) hbr (.int .i64 0)
  obtain ⟨y0, y1⟩ := H4.c2
  go_wp2
  refine bodyPost_ret (v := .tuple #[.agg #[.int .i64 0, .int .i64 0], .int .i64 2]) (by simp [results, Tryz.results132, go_sem, y0, y1]) rfl ⟨rfl, EF⟩
 ·simp only [ha] at NA
  cases hb : b.ok
  ·simp only [hb] at NB
   have hr := HV.out
   rw [hb, Bool.and_false, if_neg (by decide)] at hr
   subst hr
   clear HV NC
   go_upto_region 2 with (first | (go_at_call 121; (with_reducible refine Calls.mono (NA _) ?_); rintro e w1 ⟨rfl, h1⟩; clear p0 p1 lp; obtain ⟨p0, p1⟩ := (B2.ext h1).c2; have lp := (B2.ext h1).lt) | (go_at_call 121; (with_reducible refine Calls.mono (NB _) ?_); rintro e w2 ⟨rfl, h⟩))
   replace E := (E.trans h1).trans h
   replace B3 := (B3.ext h1).ext h
   have f0 := B3.frozen 0
   have f1 := B3.frozen 1
   obtain ⟨x0, x1⟩ := B3.c2
   have lx := B3.lt
   have H4 := Qn B3 (.int .i64 0) (.int .i64 0)
   have EF := (E.setCell (p := ⟨b3, 0, none⟩) hbr (.int .i64 0)).setCell (p := ⟨b3, 1, none⟩) hbr (.int .i64 0)
   obtain ⟨y0, y1⟩ := H4.c2
   go_wp2
   refine bodyPost_ret (v := .tuple #[.agg #[.int .i64 0, .int .i64 0], .int .i64 2]) (by simp [results, Tryz.results132, go_sem, y0, y1]) rfl ⟨rfl, EF⟩
  ·simp only [hb] at NB
   replace NC := NC ha hb
   have hr := HV.out
   rw [ha, hb, Bool.and_true, if_pos rfl] at hr
   rw [← hr] at NC
   clear HV hr ha hb
   obtain ⟨⟨Rn, Rd⟩, Re⟩ := R
   go_upto_region 3 with (first | (go_at_call 121; (with_reducible refine Calls.mono (NA _) ?_); rintro e w1 ⟨rfl, h1⟩; clear p0 p1 lp; obtain ⟨p0, p1⟩ := (B2.ext h1).c2; have lp := (B2.ext h1).lt) | (go_at_call 121; (with_reducible refine Calls.mono (NB _) ?_); rintro e w2 ⟨rfl, h⟩))
   have e2 := (E.trans h1).trans h
   replace B3 := (B3.ext h1).ext h
   replace NC := NC w2 (hA.ext e2) (hB.ext e2) (hZ.ext e2)
   replace E := e2
   go_wp2_with (first | (go_at_call 139; (with_reducible refine Calls.mono (NC) ?_); rintro e wt ⟨rfl, ht⟩; replace E := E.trans ht; replace B3 := B3.ext ht; have f0 := B3.frozen 0; have f1 := B3.frozen 1; obtain ⟨x0, x1⟩ := B3.c2; have lx := B3.lt) | (go_at_fn 139; (with_reducible refine Calls.mono (NC) ?_); rintro e wt ⟨rfl, ht⟩; replace E := E.trans ht; replace B3 := B3.ext ht; have f0 := B3.frozen 0; have f1 := B3.frozen 1; obtain ⟨x0, x1⟩ := B3.c2; have lx := B3.lt))
   have H4 := Qn B3 (.int .i64 Rn) (.int .i64 Rd)
   have EF := (E.setCell (p := ⟨b3, 0, none⟩) hbr (.int .i64 Rn)).setCell (p := ⟨b3, 1, none⟩) hbr (.int .i64 Rd)
   obtain ⟨y0, y1⟩ := H4.c2
   go_wp2
   refine bodyPost_ret (v := .tuple #[.agg #[.int .i64 Rn, .int .i64 Rd], .int .i64 Re]) (by simp [results, Tryz.results132, go_sem, y0, y1]) rfl ⟨rfl, EF⟩
theorem Mj (a b : Rt) (hia : a.In) (hib : b.In) (w : World) (hZ : Zu w) :
  Calls Tryz.prog 89 #[.agg #[.int .i64 a.n, .int .i64 a.d], .agg #[.int .i64 b.n, .int .i64 b.d]] w fun e w' => e = .returned (.tuple #[.agg #[.int .i64 (Zs a b).1.n, .int .i64 (Zs a b).1.d], .int .i64 (Zs a b).2]) ∧ Qa w w' := by
 have NC := fun ba bb w h1 h2 z => Qac a b hia hib ba bb w h1 h2 z
 obtain ⟨R, hR0⟩ := Qg (Zs a b)
 rw [← hR0]
 have HR := Lib.hid hR0
 clear hR0
 rw [show Zs a b = R from HR.out.symm] at NC
 clear HR
 go_enter Tryz.func89, Tryz.ntmps89
 go_upto_region 1 with (fail)
 obtain ⟨v, hv⟩ := Qg (((w.alloc (.cells #[.int .i64 a.n, .int .i64 a.d] 65)).alloc (.cells #[.int .i64 b.n, .int .i64 b.d] 65)).alloc (.cells #[.int .i64 0, .int .i64 0] 65))
 rw [← hv]
 have E : Qa w v := by rw [hv]; exact (((Qa.refl _).alloc _).alloc _).alloc _
 have B1 : Qb v w.heap.size 65 #[.int .i64 a.n, .int .i64 a.d] := by rw [hv]; exact ((Qb.new _ _ _).alloc _).alloc _
 have B2 : Qb v (w.heap.size + 1) 65 #[.int .i64 b.n, .int .i64 b.d] := by rw [hv]; exact (Qb.at _ _ _ _ (by simp)).alloc _
 have B3 : Qb v (w.heap.size + 1 + 1) 65 #[.int .i64 0, .int .i64 0] := by rw [hv]; exact Qb.at _ _ _ _ (by simp)
 clear hv
 obtain ⟨b3, hb3⟩ := Qg (w.heap.size + 1 + 1)
 rw [← hb3] at B3 ⊢
 obtain ⟨b2, hb2⟩ := Qg (w.heap.size + 1)
 rw [← hb2] at B2 ⊢
 obtain ⟨b1, hb1⟩ := Qg (w.heap.size)
 rw [← hb1] at B1 ⊢
 have hbr : w.heap.size ≤ b3 := by omega
 have hbr1 : w.heap.size ≤ b1 := by omega
 have hbr2 : w.heap.size ≤ b2 := by omega
 have hn21 : b2 ≠ b1 := by omega
 have hn31 : b3 ≠ b1 := by omega
 have hn32 : b3 ≠ b2 := by omega
 clear hb1 hb2 hb3
 have Z0 := hZ.ext E
 obtain ⟨k0, k1⟩ := B1.c2
 have lk := B1.lt
 obtain ⟨p0, p1⟩ := B2.c2
 have lp := B2.lt
 obtain ⟨⟨Rn, Rd⟩, Re⟩ := R
 go_wp2_with (first | (go_at_call 132; (with_reducible refine Calls.mono (NC _ _ _ B1 B2 Z0) ?_); rintro e wt ⟨rfl, ht⟩; replace E := E.trans ht; replace B3 := B3.ext ht; have f0 := B3.frozen 0; have f1 := B3.frozen 1; obtain ⟨x0, x1⟩ := B3.c2; have lx := B3.lt))
 have H4 := Qn B3 (.int .i64 Rn) (.int .i64 Rd)
 have EF := (E.setCell (p := ⟨b3, 0, none⟩) hbr (.int .i64 Rn)).setCell (p := ⟨b3, 1, none⟩) hbr (.int .i64 Rd)
 obtain ⟨y0, y1⟩ := H4.c2
 go_wp2
 refine bodyPost_ret (v := .tuple #[.agg #[.int .i64 Rn, .int .i64 Rd], .int .i64 Re]) (by simp [results, Tryz.results89, go_sem, y0, y1]) rfl ⟨rfl, EF⟩
theorem Qaw (a b : Rt) (hia : a.In) (hib : b.In) (w : World) :
  Calls Tryz.prog 185 #[.agg #[.int .i64 a.n, .int .i64 a.d], .agg #[.int .i64 b.n, .int .i64 b.d]] w fun e w' => e = .returned (.tuple #[.int .i64 (Xb a b).1, .int .i64 (Xb a b).2]) ∧ Qa w w' := by
 have NA := fun w => W8 a.n a.d hia.1 hia.2.1 hia.2.2.1 hia.2.2.2 w
 have NB := fun w => W8 b.n b.d hib.1 hib.2.1 hib.2.2.1 hib.2.2.2 w
 rw [show Rt.ok ⟨a.n, a.d⟩ = a.ok from rfl] at NA
 rw [show Rt.ok ⟨b.n, b.d⟩ = b.ok from rfl] at NB
 have HV : Hid (Xb a b = if a.ok && b.ok then (U4 (a.n * b.d) (b.n * a.d), 0) else (0, 2)) := rfl
 obtain ⟨R, hR0⟩ := Qg (Xb a b)
 rw [← hR0] at HV ⊢
 clear hR0
 cases ha : a.ok
 ·simp only [ha] at NA
  have hr := HV.out
  rw [ha, Bool.false_and, if_neg (by decide)] at hr
  subst hr
  clear HV NB
  go_enter Tryz.func185, Tryz.ntmps185
  go_upto_region 1 with (fail)
  obtain ⟨v, hv⟩ := Qg ((w.alloc (.cells #[.int .i64 a.n, .int .i64 a.d] 65)).alloc (.cells #[.int .i64 b.n, .int .i64 b.d] 65))
  rw [← hv]
  have E : Qa w v := by rw [hv]; exact ((Qa.refl _).alloc _).alloc _
  have B1 : Qb v w.heap.size 65 #[.int .i64 a.n, .int .i64 a.d] := by rw [hv]; exact (Qb.new _ _ _).alloc _
  have B2 : Qb v (w.heap.size + 1) 65 #[.int .i64 b.n, .int .i64 b.d] := by rw [hv]; exact Qb.at _ _ _ _ (by simp)
  clear hv
  obtain ⟨b2, hb2⟩ := Qg (w.heap.size + 1)
  rw [← hb2] at B2 ⊢
  obtain ⟨b1, hb1⟩ := Qg (w.heap.size)
  rw [← hb1] at B1 ⊢
  have hbr : w.heap.size ≤ b2 := by omega
  have hbr1 : w.heap.size ≤ b1 := by omega
  have hn21 : b2 ≠ b1 := by omega
  clear hb1 hb2
  obtain ⟨k0, k1⟩ := B1.c2
  have lk := B1.lt
  obtain ⟨p0, p1⟩ := B2.c2
  have lp := B2.lt
  go_wp2_with (go_at_call 121; (with_reducible refine Calls.mono (NA _) ?_); rintro e w2 ⟨rfl, h⟩)
  go_ret2
  exact ⟨rfl, E.trans h⟩
 ·simp only [ha] at NA
  cases hb : b.ok
  ·simp only [hb] at NB
   have hr := HV.out
   rw [hb, Bool.and_false, if_neg (by decide)] at hr
   subst hr
   clear HV
   go_enter Tryz.func185, Tryz.ntmps185
   go_upto_region 1 with (fail)
   obtain ⟨v, hv⟩ := Qg ((w.alloc (.cells #[.int .i64 a.n, .int .i64 a.d] 65)).alloc (.cells #[.int .i64 b.n, .int .i64 b.d] 65))
   rw [← hv]
   have E : Qa w v := by rw [hv]; exact ((Qa.refl _).alloc _).alloc _
   have B1 : Qb v w.heap.size 65 #[.int .i64 a.n, .int .i64 a.d] := by rw [hv]; exact (Qb.new _ _ _).alloc _
   have B2 : Qb v (w.heap.size + 1) 65 #[.int .i64 b.n, .int .i64 b.d] := by rw [hv]; exact Qb.at _ _ _ _ (by simp)
   clear hv
   obtain ⟨b2, hb2⟩ := Qg (w.heap.size + 1)
   rw [← hb2] at B2 ⊢
   obtain ⟨b1, hb1⟩ := Qg (w.heap.size)
   rw [← hb1] at B1 ⊢
   have hbr : w.heap.size ≤ b2 := by omega
   have hbr1 : w.heap.size ≤ b1 := by omega
   have hn21 : b2 ≠ b1 := by omega
   clear hb1 hb2
   obtain ⟨k0, k1⟩ := B1.c2
   have lk := B1.lt
   obtain ⟨p0, p1⟩ := B2.c2
   have lp := B2.lt
   go_wp2_with (first | (go_at_call 121; (with_reducible refine Calls.mono (NA _) ?_); rintro e w1 ⟨rfl, h1⟩; clear p0 p1 lp; obtain ⟨p0, p1⟩ := (B2.ext h1).c2; have lp := (B2.ext h1).lt) | (go_at_call 121; (with_reducible refine Calls.mono (NB _) ?_); rintro e w2 ⟨rfl, h⟩))
   go_ret2
   exact ⟨rfl, (E.trans h1).trans h⟩
  ·simp only [hb] at NB
   have hr := HV.out
   rw [ha, hb, Bool.and_true, if_pos rfl] at hr
   obtain ⟨m1, m2, _, _⟩ := Xu ha hb
   obtain ⟨m5, m6, _, _⟩ := Xu hb ha
   have v1 : IntKind.i64.wrap (a.n * b.d) = a.n * b.d := Zr (by omega) (by omega)
   have v2 : IntKind.i64.wrap (b.n * a.d) = b.n * a.d := Zr (by omega) (by omega)
   have hc : Hid (R.1 = U4 (a.n * b.d) (b.n * a.d) ∧ R.2 = 0) := ⟨by rw [hr], by rw [hr]⟩
   clear HV hr ha hb hia hib
   generalize hx : a.n * b.d = x at *
   generalize hy : b.n * a.d = y at *
   replace hx := Lib.hid hx
   replace hy := Lib.hid hy
   go_enter Tryz.func185, Tryz.ntmps185
   go_upto_region 1 with (fail)
   obtain ⟨v, hv⟩ := Qg ((w.alloc (.cells #[.int .i64 a.n, .int .i64 a.d] 65)).alloc (.cells #[.int .i64 b.n, .int .i64 b.d] 65))
   rw [← hv]
   have E : Qa w v := by rw [hv]; exact ((Qa.refl _).alloc _).alloc _
   have B1 : Qb v w.heap.size 65 #[.int .i64 a.n, .int .i64 a.d] := by rw [hv]; exact (Qb.new _ _ _).alloc _
   have B2 : Qb v (w.heap.size + 1) 65 #[.int .i64 b.n, .int .i64 b.d] := by rw [hv]; exact Qb.at _ _ _ _ (by simp)
   clear hv
   obtain ⟨b2, hb2⟩ := Qg (w.heap.size + 1)
   rw [← hb2] at B2 ⊢
   obtain ⟨b1, hb1⟩ := Qg (w.heap.size)
   rw [← hb1] at B1 ⊢
   have hbr : w.heap.size ≤ b2 := by omega
   have hbr1 : w.heap.size ≤ b1 := by omega
   have hn21 : b2 ≠ b1 := by omega
   clear hb1 hb2
   obtain ⟨k0, k1⟩ := B1.c2
   have lk := B1.lt
   obtain ⟨p0, p1⟩ := B2.c2
   have lp := B2.lt
   go_upto_region 3 with (first | (go_at_call 121; (with_reducible refine Calls.mono (NA _) ?_); rintro e w1 ⟨rfl, h1⟩; clear p0 p1 lp; obtain ⟨p0, p1⟩ := (B2.ext h1).c2; have lp := (B2.ext h1).lt) | (go_at_call 121; (with_reducible refine Calls.mono (NB _) ?_); rintro e w2 ⟨rfl, h⟩))
   replace E := (E.trans h1).trans h
   replace B1 := (B1.ext h1).ext h
   replace B2 := (B2.ext h1).ext h
   clear k0 k1 lk p0 p1 lp h h1
   obtain ⟨k0, k1⟩ := B1.c2
   have lk := B1.lt
   obtain ⟨p0, p1⟩ := B2.c2
   have lp := B2.lt
   have x1 := hx.out
   have y1 := hy.out
   refine Zb w2 Qq (by kernel_rfl) (by repeat (first | exact Qa.refl _ | (refine Qa.alloc ?_ _) | (refine Qa.trans ?_ (by assumption)))) ?_
   intro hne hrx hry
   try simp only []
   try simp only [List.append_eq, List.cons_append, List.nil_append]
   skip
   repeat (first
    | go_big_quiet_skip
    | (go_big_quiet_want; go_big_quiet_op; go_big_quiet_on))
   clear hne hry hrx
   refine wpQuiet_nil ?_
   intro w3 h3
   obtain ⟨hcw3, hfw3, hzw3⟩ := Qa.rules h3
   try simp only [World.size_alloc] at hzw3
   obtain ⟨hcbw3, hfbw3, hzbw3⟩ := Qa.rules (show Qa w2 w3 from (by repeat (first | exact Qa.refl _ | (refine Qa.alloc ?_ _) | (refine Qa.trans ?_ (by assumption)))))
   clear hcw3 hfw3
   clear x1 y1
   by_cases c1 : x < y
   ·have g1 : decide (x < y) = true := decide_eq_true c1
    have hR : R = (-1, 0) := Prod.ext (by rw [hc.out.1, U4, if_pos c1]) hc.out.2
    subst hR
    clear c1 hc
    go_wp2
    go_ret2
    exact ⟨rfl, E.trans h3⟩
   ·have g1 : decide (x < y) = false := decide_eq_false c1
    by_cases c2 : y < x
    ·have g2 : decide (y < x) = true := decide_eq_true c2
     have hR : R = (1, 0) := Prod.ext (by rw [hc.out.1, U4, if_neg c1, if_pos c2]) hc.out.2
     subst hR
     clear c1 c2 hc
     go_wp2
     go_ret2
     exact ⟨rfl, E.trans h3⟩
    ·have g2 : decide (y < x) = false := decide_eq_false c2
     have hR : R = (0, 0) := Prod.ext (by rw [hc.out.1, U4, if_neg c1, if_neg c2]) hc.out.2
     subst hR
     clear c1 c2 hc
     go_wp2
     go_ret2
     exact ⟨rfl, E.trans h3⟩
theorem De (a b : Rt) (hia : a.In) (hib : b.In) (w : World) :
  Calls Tryz.prog 160 #[.agg #[.int .i64 a.n, .int .i64 a.d], .agg #[.int .i64 b.n, .int .i64 b.d]] w fun e w' => e = .returned (.bool (decide ((Xb a b).1 < 0))) ∧ Qa w w' := by
 have NC := fun w => Qaw a b hia hib w
 generalize Xb a b = R at *
 obtain ⟨R1, R2⟩ := R
 go_enter Tryz.func160, Tryz.ntmps160
 go_upto_region 1 with (fail)
 obtain ⟨v, hv⟩ := Qg ((w.alloc (.cells #[.int .i64 a.n, .int .i64 a.d] 65)).alloc (.cells #[.int .i64 b.n, .int .i64 b.d] 65))
 rw [← hv]
 have E : Qa w v := by rw [hv]; exact ((Qa.refl _).alloc _).alloc _
 have B1 : Qb v w.heap.size 65 #[.int .i64 a.n, .int .i64 a.d] := by rw [hv]; exact (Qb.new _ _ _).alloc _
 have B2 : Qb v (w.heap.size + 1) 65 #[.int .i64 b.n, .int .i64 b.d] := by rw [hv]; exact Qb.at _ _ _ _ (by simp)
 clear hv
 obtain ⟨b2, hb2⟩ := Qg (w.heap.size + 1)
 rw [← hb2] at B2 ⊢
 obtain ⟨b1, hb1⟩ := Qg (w.heap.size)
 rw [← hb1] at B1 ⊢
 have hbr : w.heap.size ≤ b2 := by omega
 have hbr1 : w.heap.size ≤ b1 := by omega
 have hn21 : b2 ≠ b1 := by omega
 clear hb1 hb2
 obtain ⟨k0, k1⟩ := B1.c2
 have lk := B1.lt
 obtain ⟨p0, p1⟩ := B2.c2
 have lp := B2.lt
 go_wp2_with (go_at_call 185; (with_reducible refine Calls.mono (NC _) ?_); rintro e w2 ⟨rfl, h⟩)
 go_ret
 exact ⟨rfl, E.trans h⟩
end
section
structure Db where
 p : Rt
 i : Rt
 s : Rt
 deriving DecidableEq
structure Z8 where
 on : Dt
 n : Rt
structure Ln where
 p : Rt
 r : Rt
 f : Dt
def Jz : Db := ⟨Zd, Zd, Zd⟩
def Zh (c : Qf) (r : Rt) (x : Db) (a b : Dt) : Db × Int :=
 if (Z5 x.p r (c.schV a b)).2 ≠ 0 then (x, (Z5 x.p r (c.schV a b)).2)
 else if (Q4 x.i (Z5 x.p r (c.schV a b)).1).2 ≠ 0 then (x, (Q4 x.i (Z5 x.p r (c.schV a b)).1).2)
 else (⟨x.p, (Q4 x.i (Z5 x.p r (c.schV a b)).1).1, x.s⟩, 0)
/-- What a payment leaves of a debt, and what is left of it. -/
def Qz (x n : Rt) : (Rt × Rt) × Int := if (Xb n x).1 < 0 then (((Zs x n).1, Zy 0), (Zs x n).2) else ((Zy 0, (Zs n x).1), (Zs n x).2)
def Yb (x : Db) (n : Rt) : Db × Int :=
 if (Qz x.i n).2 ≠ 0 then (x, (Qz x.i n).2)
 else if (Qz x.p (Qz x.i n).1.2).2 ≠ 0 then (x, (Qz x.p (Qz x.i n).1.2).2)
 else if (Q4 x.s (Qz x.p (Qz x.i n).1.2).1.2).2 ≠ 0 then (x, (Q4 x.s (Qz x.p (Qz x.i n).1.2).1.2).2)
 else (⟨(Qz x.p (Qz x.i n).1.2).1.1, (Qz x.i n).1.1, (Q4 x.s (Qz x.p (Qz x.i n).1.2).1.2).1⟩, 0)
def Xl (c : Qf) (r : Rt) (f : Nat → Z8) (on : Dt) : Nat → Nat → Db → Dt → Db × Int
 | _, 0, x, a => Zh c r x a on
 | i, k + 1, x, a =>
  if c.numV on < c.numV (f i).on then Zh c r x a on
  else if (Zh c r x a (f i).on).2 ≠ 0 then Zh c r x a (f i).on
  else if (Yb (Zh c r x a (f i).on).1 (f i).n).2 ≠ 0 then Yb (Zh c r x a (f i).on).1 (f i).n
  else Xl c r f on (i + 1) k (Yb (Zh c r x a (f i).on).1 (f i).n).1 (f i).on
def Jf (l : Ln) (f : Nat → Z8) : Nat → Dt
 | 0 => l.f
 | i + 1 => (f i).on
def Qf.loanOk (c : Qf) (l : Ln) (f : Nat → Z8) (n : Nat) : Bool := l.p.pos && l.r.shr && decide (c.numV l.f ≠ 0) && (List.range n).all fun i => (f i).n.pos && decide (c.numV (Jf l f i) ≤ c.numV (f i).on)
def Qf.loanE (c : Qf) (l : Ln) (f : Nat → Z8) (n : Nat) : Int := if c.valid then (if 64 < n then 3 else if c.loanOk l f n then 0 else 80) else 70
def start (l : Ln) : Db := ⟨l.p, Zy 0, Zy 0⟩
def Qf.owedV (c : Qf) (l : Ln) (f : Nat → Z8) (n : Nat) (on : Dt) : Db × Int :=
 if c.loanE l f n ≠ 0 then (Jz, c.loanE l f n) else if c.numV on = 0 then (Jz, 71) else if c.numV on < c.numV l.f then (Jz, 8)
 else if (Xl c l.r f on 0 n (start l) l.f).2 ≠ 0 then (Jz, (Xl c l.r f on 0 n (start l) l.f).2) else ((Xl c l.r f on 0 n (start l) l.f).1, 0)
def Qf.settleV (c : Qf) (l : Ln) (f : Nat → Z8) (n : Nat) (on : Dt) : Rt × Int :=
 if (c.owedV l f n on).2 ≠ 0 then (Zd, (c.owedV l f n on).2) else Q4 (c.owedV l f n on).1.p (c.owedV l f n on).1.i
/-! ### Values -/
def Rt.val (r : Rt) : Rat := (r.n : Rat) / (r.d : Rat)
theorem Xd {d : Int} (h : 1 ≤ d) : (0 : Rat) < (d : Rat) := by
 have : (0 : Rat) < ((d : Int) : Rat) := by exact_mod_cast (show (0 : Int) < d by omega)
 exact this
theorem A9 {x : Rt} {N D : Int} (hx : 1 ≤ x.d) (hD : 1 ≤ D) (h : Xs x N D) : x.val = (N : Rat) / (D : Rat) := by
 unfold Xs at h
 have h1 := Xd hx
 have h2 := Xd hD
 have h3 : (x.n : Rat) * (D : Rat) = (N : Rat) * (x.d : Rat) := by exact_mod_cast h
 unfold Rt.val
 have a1 : (x.d : Rat) ≠ 0 := by grind
 have a2 : (D : Rat) ≠ 0 := by grind
 grind
theorem Ml {x y : Rt} (hx : x.ok = true) (hy : y.ok = true) (h : x.val = y.val) : x = y := by
 refine rt_eq hx hy ?_
 have h1 := Xd (Zo hx).1
 have h2 := Xd (Zo hy).1
 unfold Rt.val at h
 have a1 : (x.d : Rat) ≠ 0 := by grind
 have a2 : (y.d : Rat) ≠ 0 := by grind
 have h3 : (x.n : Rat) * (y.d : Rat) = (y.n : Rat) * (x.d : Rat) := by grind
 exact_mod_cast h3
theorem Hu {a b : Rt} (h : (Q4 a b).2 = 0) : (Q4 a b).1.val = a.val + b.val := by
 obtain ⟨ha, hb, ho, hv⟩ := Hq h
 have hd := (Xu ha hb).2.2.1
 rw [A9 (Zo ho).1 hd hv]
 have h1 := Xd (Zo ha).1
 have h2 := Xd (Zo hb).1
 unfold Rt.val
 have a1 : (a.d : Rat) ≠ 0 := by grind
 have a2 : (b.d : Rat) ≠ 0 := by grind
 rw [Rat.intCast_add, Rat.intCast_mul, Rat.intCast_mul, Rat.intCast_mul]
 grind
theorem Oy {a b : Rt} (h : (Zs a b).2 = 0) : (Zs a b).1.val = a.val - b.val := by
 obtain ⟨ha, hb, ho, hv⟩ := K4 h
 have hd := (Xu ha hb).2.2.1
 rw [A9 (Zo ho).1 hd hv]
 have h1 := Xd (Zo ha).1
 have h2 := Xd (Zo hb).1
 unfold Rt.val
 have a1 : (a.d : Rat) ≠ 0 := by grind
 have a2 : (b.d : Rat) ≠ 0 := by grind
 rw [Rat.intCast_sub, Rat.intCast_mul, Rat.intCast_mul, Rat.intCast_mul]
 grind
theorem Qfm (n : Int) : (Zy n).val = (n : Rat) := by
 unfold Rt.val Zy
 show (n : Rat) / ((1 : Int) : Rat) = n
 rw [Rat.intCast_one]
 grind
theorem cmp_lt {a b : Rt} (ha : a.ok = true) (hb : b.ok = true) : (Xb a b).1 < 0 ↔ a.val < b.val := by
 rw [Qax ha hb]
 have h1 := Xd (Zo ha).1
 have h2 := Xd (Zo hb).1
 have e : (a.val < b.val) ↔ a.n * b.d < b.n * a.d := by
  unfold Rt.val
  rw [Rat.div_lt_iff h1, ← Rat.mul_lt_mul_right h2]
  have a2 : (b.d : Rat) ≠ 0 := by grind
  have : (b.n : Rat) / (b.d : Rat) * (a.d : Rat) * (b.d : Rat) = (b.n : Rat) * (a.d : Rat) := by grind
  rw [this]
  constructor
  ·intro h; exact_mod_cast h
  ·intro h; exact_mod_cast h
 rw [e]
 unfold U4
 simp only
 split
 ·simp_all
 ·split <;> simp_all
end
section
open Go Go.RowKit Go.Shelf
attribute [local go_sem] Zq
section
variable {W : World} {b : Nat} {t : TypeId} {v0 v1 v2 v3 v4 v5 v6 v7 : Value}
theorem Qb.c6 (h : Qb W b t #[v0, v1, v2, v3, v4, v5]) : W.cell? ⟨b, 0, none⟩ = some v0 ∧ W.cell? ⟨b, 1, none⟩ = some v1 ∧ W.cell? ⟨b, 2, none⟩ = some v2 ∧ W.cell? ⟨b, 3, none⟩ = some v3 ∧ W.cell? ⟨b, 4, none⟩ = some v4 ∧ W.cell? ⟨b, 5, none⟩ = some v5 := ⟨h.cell 0, h.cell 1, h.cell 2, h.cell 3, h.cell 4, h.cell 5⟩
theorem Qb.c8 (h : Qb W b t #[v0, v1, v2, v3, v4, v5, v6, v7]) : W.cell? ⟨b, 0, none⟩ = some v0 ∧ W.cell? ⟨b, 1, none⟩ = some v1 ∧ W.cell? ⟨b, 2, none⟩ = some v2 ∧ W.cell? ⟨b, 3, none⟩ = some v3 ∧ W.cell? ⟨b, 4, none⟩ = some v4 ∧ W.cell? ⟨b, 5, none⟩ = some v5 ∧ W.cell? ⟨b, 6, none⟩ = some v6 ∧ W.cell? ⟨b, 7, none⟩ = some v7 := ⟨h.cell 0, h.cell 1, h.cell 2, h.cell 3, h.cell 4, h.cell 5, h.cell 6, h.cell 7⟩
end
def Ye (f : Nat → Z8) (i : Nat) : List Value := [.int .i64 (f i).on.y, .int .i64 (f i).on.m, .bool (f i).on.s, .int .i64 (f i).on.d, .int .i64 (f i).n.n, .int .i64 (f i).n.d]
theorem L9 (A A' : Option Addr) (ca cb : Nat) (c : Qf) (w : World) (hC : Zg w A ca A' cb c) :
  Calls Tryz.prog 64 #[.agg #[.slice A c.nk ca, .slice A' c.ny cb]] w fun e w' => e = .returned (.tuple #[.agg #[.slice A c.nk ca, .slice A' c.ny cb], .int .i64 c.chk]) ∧ Qa w w' := by
 go_enter Tryz.func64, Tryz.ntmps64
 go_upto_region 1 with (fail)
 obtain ⟨v, hv⟩ := Qg ((w.alloc (.cells #[.slice A c.nk ca, .slice A' c.ny cb] 25)).alloc (.cells #[.slice none 0 0, .slice none 0 0] 130))
 rw [← hv]
 have E : Qa w v := by rw [hv]; exact ((Qa.refl _).alloc _).alloc _
 have B1 : Qb v w.heap.size 25 #[.slice A c.nk ca, .slice A' c.ny cb] := by rw [hv]; exact (Qb.new _ _ _).alloc _
 have B2 : Qb v (w.heap.size + 1) 130 #[.slice none 0 0, .slice none 0 0] := by rw [hv]; exact Qb.at _ _ _ _ (by simp)
 clear hv
 obtain ⟨b2, hb2⟩ := Qg (w.heap.size + 1)
 rw [← hb2] at B2 ⊢
 obtain ⟨b1, hb1⟩ := Qg (w.heap.size)
 rw [← hb1] at B1 ⊢
 have hbr : w.heap.size ≤ b2 := by omega
 have hbr1 : w.heap.size ≤ b1 := by omega
 have hn21 : b2 ≠ b1 := by omega
 clear hb1 hb2
 have C := hC.ext E
 refine Q1 6 [4, 5] (fun x => Qa v x) Qq rfl ?_
 intro vz hvz
 have HC := hvz
 refine Qr (g := 3) [0, 1, 2] [_, _, _] ⟨rfl, rfl, rfl, trivial⟩ (by kernel_rfl) (by kernel_rfl) HC ?_
 simp only [Qc, Qd, Qe]
 apply Exists.intro
 refine ⟨fun u hu => ?_, ?_⟩
 ·obtain ⟨k0, k1⟩ := (B1.ext hu).c2
  have lk := (B1.ext hu).lt
  repeat (first | go_big_quiet_skip | (go_big_quiet_want; go_big_quiet_op; go_big_quiet_on))
  refine wpQuiet_nil ?_
  rfl
 refine Qk 3 rfl (by kernel_rfl) ?_
 simp only [Qc, Qd, Qe]
 go_wp2_with (go_at_call 115; (with_reducible refine Calls.mono (Qan A A' ca cb c _ (C.ext HC)) ?_); rintro e va ⟨rfl, h4⟩)
 replace HC := HC.trans h4
 clear h4
 refine Qh HC ?_
 refine Qm 4 rfl (by kernel_rfl) ?_
 simp only [Qc, Qd, Qe]
 replace B2 := B2.ext HC
 replace E := E.trans HC
 have f0 := B2.frozen 0
 have f1 := B2.frozen 1
 obtain ⟨x0, x1⟩ := B2.c2
 have lx := B2.lt
 have H4 := Qn B2 (.slice A c.nk ca) (.slice A' c.ny cb)
 have EF := (E.setCell (p := ⟨b2, 0, none⟩) hbr (.slice A c.nk ca)).setCell (p := ⟨b2, 1, none⟩) hbr (.slice A' c.ny cb)
 obtain ⟨y0, y1⟩ := H4.c2
 go_wp2
 refine Ql ?_
 refine Qm 5 rfl (by kernel_rfl) ?_
 simp only [Qc, Qd, Qe]
 go_wp2
 refine Ql ?_
 refine Qs (by kernel_rfl) ?_
 go_wp2
 refine bodyPost_ret (v := .tuple #[.agg #[.slice A c.nk ca, .slice A' c.ny cb], .int .i64 c.chk]) (by simp [results, Tryz.results64, go_sem, y0, y1]) rfl ⟨rfl, EF⟩
theorem Wi (A A' : Option Addr) (ca cb : Nat) (c : Qf) (d : Dt) (w : World) (hC : Zg w A ca A' cb c) :
  Calls Tryz.prog 48 #[.agg #[.slice A c.nk ca, .slice A' c.ny cb], .agg #[.int .i64 d.y, .int .i64 d.m, .bool d.s, .int .i64 d.d]] w fun e w' => e = .returned (.int .i64 (c.numV d)) ∧ Qa w w' := by
 have NN := fun w h => Qet A A' ca cb c d w h
 go_enter Tryz.func48, Tryz.ntmps48
 go_upto_region 1 with (fail)
 obtain ⟨v, hv⟩ := Qg ((w.alloc (.cells #[.slice A c.nk ca, .slice A' c.ny cb] 130)).alloc (.cells #[.int .i64 d.y, .int .i64 d.m, .bool d.s, .int .i64 d.d] 51))
 rw [← hv]
 have E : Qa w v := by rw [hv]; exact ((Qa.refl _).alloc _).alloc _
 have B1 : Qb v w.heap.size 130 #[.slice A c.nk ca, .slice A' c.ny cb] := by rw [hv]; exact (Qb.new _ _ _).alloc _
 have B2 : Qb v (w.heap.size + 1) 51 #[.int .i64 d.y, .int .i64 d.m, .bool d.s, .int .i64 d.d] := by rw [hv]; exact Qb.at _ _ _ _ (by simp)
 clear hv
 obtain ⟨b2, hb2⟩ := Qg (w.heap.size + 1)
 rw [← hb2] at B2 ⊢
 obtain ⟨b1, hb1⟩ := Qg (w.heap.size)
 rw [← hb1] at B1 ⊢
 have hbr : w.heap.size ≤ b2 := by omega
 have hbr1 : w.heap.size ≤ b1 := by omega
 have hn21 : b2 ≠ b1 := by omega
 clear hb1 hb2
 have C := hC.ext E
 obtain ⟨k0, k1⟩ := B1.c2
 have lk := B1.lt
 obtain ⟨p0, p1, p2, p3⟩ := B2.c4
 have lp := B2.lt
 go_wp2_with (go_at_call 100; (with_reducible refine Calls.mono (NN _ C) ?_); rintro e w2 ⟨rfl, h⟩)
 go_ret
 exact ⟨rfl, E.trans h⟩
theorem Mu (A A' : Option Addr) (ca cb : Nat) (c : Qf) (a b : Dt) (w : World) (hC : Zg w A ca A' cb c) :
  Calls Tryz.prog 92 #[.agg #[.slice A c.nk ca, .slice A' c.ny cb], .agg #[.int .i64 a.y, .int .i64 a.m, .bool a.s, .int .i64 a.d], .agg #[.int .i64 b.y, .int .i64 b.m, .bool b.s, .int .i64 b.d]] w fun e w' => e = .returned (.int .i64 (c.schV a b)) ∧ Qa w w' := by
 have NN := fun w h => Qfy A A' ca cb c a b w h
 go_enter Tryz.func92, Tryz.ntmps92
 go_upto_region 1 with (fail)
 obtain ⟨v, hv⟩ := Qg (((w.alloc (.cells #[.slice A c.nk ca, .slice A' c.ny cb] 130)).alloc (.cells #[.int .i64 a.y, .int .i64 a.m, .bool a.s, .int .i64 a.d] 51)).alloc (.cells #[.int .i64 b.y, .int .i64 b.m, .bool b.s, .int .i64 b.d] 51))
 rw [← hv]
 have E : Qa w v := by rw [hv]; exact (((Qa.refl _).alloc _).alloc _).alloc _
 have B1 : Qb v w.heap.size 130 #[.slice A c.nk ca, .slice A' c.ny cb] := by rw [hv]; exact ((Qb.new _ _ _).alloc _).alloc _
 have B2 : Qb v (w.heap.size + 1) 51 #[.int .i64 a.y, .int .i64 a.m, .bool a.s, .int .i64 a.d] := by rw [hv]; exact (Qb.at _ _ _ _ (by simp)).alloc _
 have B3 : Qb v (w.heap.size + 1 + 1) 51 #[.int .i64 b.y, .int .i64 b.m, .bool b.s, .int .i64 b.d] := by rw [hv]; exact Qb.at _ _ _ _ (by simp)
 clear hv
 obtain ⟨b3, hb3⟩ := Qg (w.heap.size + 1 + 1)
 rw [← hb3] at B3 ⊢
 obtain ⟨b2, hb2⟩ := Qg (w.heap.size + 1)
 rw [← hb2] at B2 ⊢
 obtain ⟨b1, hb1⟩ := Qg (w.heap.size)
 rw [← hb1] at B1 ⊢
 have hbr : w.heap.size ≤ b3 := by omega
 have hbr1 : w.heap.size ≤ b1 := by omega
 have hbr2 : w.heap.size ≤ b2 := by omega
 have hn21 : b2 ≠ b1 := by omega
 have hn31 : b3 ≠ b1 := by omega
 have hn32 : b3 ≠ b2 := by omega
 clear hb1 hb2 hb3
 have C := hC.ext E
 obtain ⟨k0, k1⟩ := B1.c2
 have lk := B1.lt
 obtain ⟨p0, p1, p2, p3⟩ := B2.c4
 have lp := B2.lt
 obtain ⟨q0, q1, q2, q3⟩ := B3.c4
 have lq := B3.lt
 go_wp2_with (go_at_call 140; (with_reducible refine Calls.mono (NN _ C) ?_); rintro e w2 ⟨rfl, h⟩)
 go_ret
 exact ⟨rfl, E.trans h⟩
theorem Rx (A A' : Option Addr) (ca cb : Nat) (c : Qf) (a b : Dt) (w : World) (hC : Zg w A ca A' cb c) :
  Calls Tryz.prog 91 #[.agg #[.slice A c.nk ca, .slice A' c.ny cb], .agg #[.int .i64 a.y, .int .i64 a.m, .bool a.s, .int .i64 a.d], .agg #[.int .i64 b.y, .int .i64 b.m, .bool b.s, .int .i64 b.d]] w fun e w' => e = .returned (.bool (decide (0 < c.numV a) && decide (c.numV a ≤ c.numV b))) ∧ Qa w w' := by
 have N1 := fun w h => Wi A A' ca cb c a w h
 have N2 := fun w h => Wi A A' ca cb c b w h
 generalize c.numV a = x at *
 generalize c.numV b = y at *
 by_cases h0 : 0 < x
 ·have g0 : decide (0 < x) = true := decide_eq_true h0
  go_enter Tryz.func91, Tryz.ntmps91
  go_upto_region 1 with (fail)
  obtain ⟨v, hv⟩ := Qg (((w.alloc (.cells #[.slice A c.nk ca, .slice A' c.ny cb] 130)).alloc (.cells #[.int .i64 a.y, .int .i64 a.m, .bool a.s, .int .i64 a.d] 51)).alloc (.cells #[.int .i64 b.y, .int .i64 b.m, .bool b.s, .int .i64 b.d] 51))
  rw [← hv]
  have E : Qa w v := by rw [hv]; exact (((Qa.refl _).alloc _).alloc _).alloc _
  have B1 : Qb v w.heap.size 130 #[.slice A c.nk ca, .slice A' c.ny cb] := by rw [hv]; exact ((Qb.new _ _ _).alloc _).alloc _
  have B2 : Qb v (w.heap.size + 1) 51 #[.int .i64 a.y, .int .i64 a.m, .bool a.s, .int .i64 a.d] := by rw [hv]; exact (Qb.at _ _ _ _ (by simp)).alloc _
  have B3 : Qb v (w.heap.size + 1 + 1) 51 #[.int .i64 b.y, .int .i64 b.m, .bool b.s, .int .i64 b.d] := by rw [hv]; exact Qb.at _ _ _ _ (by simp)
  clear hv
  obtain ⟨b3, hb3⟩ := Qg (w.heap.size + 1 + 1)
  rw [← hb3] at B3 ⊢
  obtain ⟨b2, hb2⟩ := Qg (w.heap.size + 1)
  rw [← hb2] at B2 ⊢
  obtain ⟨b1, hb1⟩ := Qg (w.heap.size)
  rw [← hb1] at B1 ⊢
  have hbr : w.heap.size ≤ b3 := by omega
  have hbr1 : w.heap.size ≤ b1 := by omega
  have hbr2 : w.heap.size ≤ b2 := by omega
  have hn21 : b2 ≠ b1 := by omega
  have hn31 : b3 ≠ b1 := by omega
  have hn32 : b3 ≠ b2 := by omega
  clear hb1 hb2 hb3
  have C := hC.ext E
  obtain ⟨k0, k1⟩ := B1.c2
  have lk := B1.lt
  obtain ⟨p0, p1, p2, p3⟩ := B2.c4
  have lp := B2.lt
  obtain ⟨q0, q1, q2, q3⟩ := B3.c4
  have lq := B3.lt
  go_wp2_with (first | (go_at_call 48; (with_reducible refine Calls.mono (N1 _ C) ?_); rintro e w1 ⟨rfl, h1⟩; clear k0 k1 lk p0 p1 p2 p3 lp q0 q1 q2 q3 lq; obtain ⟨k0, k1⟩ := (B1.ext h1).c2; have lk := (B1.ext h1).lt; obtain ⟨q0, q1, q2, q3⟩ := (B3.ext h1).c4; have lq := (B3.ext h1).lt) | (go_at_call 48; (with_reducible refine Calls.mono (N2 _ (C.ext h1)) ?_); rintro e w2 ⟨rfl, h2⟩))
  go_ret
  exact ⟨by rw [g0]; rfl, (E.trans h1).trans h2⟩
 ·have g0 : decide (0 < x) = false := decide_eq_false h0
  go_enter Tryz.func91, Tryz.ntmps91
  go_upto_region 1 with (fail)
  obtain ⟨v, hv⟩ := Qg (((w.alloc (.cells #[.slice A c.nk ca, .slice A' c.ny cb] 130)).alloc (.cells #[.int .i64 a.y, .int .i64 a.m, .bool a.s, .int .i64 a.d] 51)).alloc (.cells #[.int .i64 b.y, .int .i64 b.m, .bool b.s, .int .i64 b.d] 51))
  rw [← hv]
  have E : Qa w v := by rw [hv]; exact (((Qa.refl _).alloc _).alloc _).alloc _
  have B1 : Qb v w.heap.size 130 #[.slice A c.nk ca, .slice A' c.ny cb] := by rw [hv]; exact ((Qb.new _ _ _).alloc _).alloc _
  have B2 : Qb v (w.heap.size + 1) 51 #[.int .i64 a.y, .int .i64 a.m, .bool a.s, .int .i64 a.d] := by rw [hv]; exact (Qb.at _ _ _ _ (by simp)).alloc _
  have B3 : Qb v (w.heap.size + 1 + 1) 51 #[.int .i64 b.y, .int .i64 b.m, .bool b.s, .int .i64 b.d] := by rw [hv]; exact Qb.at _ _ _ _ (by simp)
  clear hv
  obtain ⟨b3, hb3⟩ := Qg (w.heap.size + 1 + 1)
  rw [← hb3] at B3 ⊢
  obtain ⟨b2, hb2⟩ := Qg (w.heap.size + 1)
  rw [← hb2] at B2 ⊢
  obtain ⟨b1, hb1⟩ := Qg (w.heap.size)
  rw [← hb1] at B1 ⊢
  have hbr : w.heap.size ≤ b3 := by omega
  have hbr1 : w.heap.size ≤ b1 := by omega
  have hbr2 : w.heap.size ≤ b2 := by omega
  have hn21 : b2 ≠ b1 := by omega
  have hn31 : b3 ≠ b1 := by omega
  have hn32 : b3 ≠ b2 := by omega
  clear hb1 hb2 hb3
  have C := hC.ext E
  obtain ⟨k0, k1⟩ := B1.c2
  have lk := B1.lt
  obtain ⟨p0, p1, p2, p3⟩ := B2.c4
  have lp := B2.lt
  obtain ⟨q0, q1, q2, q3⟩ := B3.c4
  have lq := B3.lt
  go_wp2_with (first | (go_at_call 48; (with_reducible refine Calls.mono (N1 _ C) ?_); rintro e w1 ⟨rfl, h1⟩; clear k0 k1 lk p0 p1 p2 p3 lp q0 q1 q2 q3 lq; obtain ⟨k0, k1⟩ := (B1.ext h1).c2; have lk := (B1.ext h1).lt; obtain ⟨q0, q1, q2, q3⟩ := (B3.ext h1).c4; have lq := (B3.ext h1).lt))
  go_ret
  exact ⟨by rw [g0]; rfl, E.trans h1⟩
theorem Qc6 (A A' : Option Addr) (ca cb : Nat) (c : Qf) (B : Option Addr) (n cap : Nat) (l : Ln) (f : Nat → Z8) (hp : l.p.In) (hr : l.r.In) (hin : ∀ i, i < n → (f i).n.In) (w : World) (hC : Zg w A ca A' cb c) (hB : Qo w B n 6 (Ye f)) (hn : n ≤ 9223372036854775807) :
  Calls Tryz.prog 116 #[.agg #[.slice A c.nk ca, .slice A' c.ny cb], .agg #[.int .i64 l.p.n, .int .i64 l.p.d, .int .i64 l.r.n, .int .i64 l.r.d, .int .i64 l.f.y, .int .i64 l.f.m, .bool l.f.s, .int .i64 l.f.d], .slice B n cap] w fun e w' => e = .returned (.bool (c.loanOk l f n)) ∧ Qa w w' := by
 have N0 := fun w h => Wi A A' ca cb c l.f w h
 have NP := fun w => Oa l.p hp w
 have NS := fun w => Mi l.r hr w
 obtain ⟨R, hR0⟩ := Qg (c.loanOk l f n)
 rw [← hR0]
 have HR := Lib.hid hR0
 clear hR0
 go_enter Tryz.func116, Tryz.ntmps116
 go_upto_region 1 with (fail)
 obtain ⟨v, hv⟩ := Qg ((w.alloc (.cells #[.slice A c.nk ca, .slice A' c.ny cb] 130)).alloc (.cells #[.int .i64 l.p.n, .int .i64 l.p.d, .int .i64 l.r.n, .int .i64 l.r.d, .int .i64 l.f.y, .int .i64 l.f.m, .bool l.f.s, .int .i64 l.f.d] 67))
 rw [← hv]
 have E : Qa w v := by rw [hv]; exact ((Qa.refl _).alloc _).alloc _
 have B1 : Qb v w.heap.size 130 #[.slice A c.nk ca, .slice A' c.ny cb] := by rw [hv]; exact (Qb.new _ _ _).alloc _
 have B2 : Qb v (w.heap.size + 1) 67 #[.int .i64 l.p.n, .int .i64 l.p.d, .int .i64 l.r.n, .int .i64 l.r.d, .int .i64 l.f.y, .int .i64 l.f.m, .bool l.f.s, .int .i64 l.f.d] := by rw [hv]; exact Qb.at _ _ _ _ (by simp)
 clear hv
 obtain ⟨b2, hb2⟩ := Qg (w.heap.size + 1)
 rw [← hb2] at B2 ⊢
 obtain ⟨b1, hb1⟩ := Qg (w.heap.size)
 rw [← hb1] at B1 ⊢
 have hbr : w.heap.size ≤ b2 := by omega
 have hbr1 : w.heap.size ≤ b1 := by omega
 have hn21 : b2 ≠ b1 := by omega
 clear hb1 hb2
 have C := hC.ext E
 have RB := hB.ext E
 clear hC hB
 obtain ⟨k0, k1⟩ := B1.c2
 have lk := B1.lt
 obtain ⟨p0, p1, p2, p3, p4, p5, p6, p7⟩ := B2.c8
 have lp := B2.lt
 go_upto_region 2 with (go_at_call 48; (with_reducible refine Calls.mono (N0 _ C) ?_); rintro e w1 ⟨rfl, h⟩)
 replace E := E.trans h
 replace C := C.ext h
 replace RB := RB.ext h
 replace B1 := B1.ext h
 replace B2 := B2.ext h
 clear h k0 k1 lk p0 p1 p2 p3 p4 p5 p6 p7 lp
 obtain ⟨k0, k1⟩ := B1.c2
 have lk := B1.lt
 obtain ⟨p0, p1, p2, p3, p4, p5, p6, p7⟩ := B2.c8
 have lp := B2.lt
 cases g1 : l.p.pos
 ·have hr : R = false := by rw [HR.out]; unfold Qf.loanOk; rw [g1]; rfl
  simp only [g1] at NP
  subst hr
  clear HR g1
  go_wp2_with (go_at_call 67; (with_reducible refine Calls.mono (NP _) ?_); rintro e w2 ⟨rfl, h2⟩; clear p0 p1 p2 p3 p4 p5 p6 p7 lp; obtain ⟨p0, p1, p2, p3, p4, p5, p6, p7⟩ := (B2.ext h2).c8; have lp := (B2.ext h2).lt)
  go_ret
  exact ⟨rfl, E.trans h2⟩
 ·simp only [g1] at NP
  cases g2 : l.r.shr
  ·have hr : R = false := by rw [HR.out]; unfold Qf.loanOk; rw [g2, Bool.and_false]; rfl
   simp only [g2] at NS
   subst hr
   clear HR g1 g2
   go_wp2_with (first | (go_at_call 67; (with_reducible refine Calls.mono (NP _) ?_); rintro e w2 ⟨rfl, h2⟩; clear p0 p1 p2 p3 p4 p5 p6 p7 lp; obtain ⟨p0, p1, p2, p3, p4, p5, p6, p7⟩ := (B2.ext h2).c8; have lp := (B2.ext h2).lt) | (go_at_call 90; (with_reducible refine Calls.mono (NS _) ?_); rintro e w3 ⟨rfl, h3⟩))
   go_ret
   exact ⟨rfl, (E.trans h2).trans h3⟩
  ·simp only [g2] at NS
   by_cases g3 : c.numV l.f = 0
   ·have hr : R = false := by rw [HR.out]; unfold Qf.loanOk; rw [decide_eq_false (fun h => h g3), Bool.and_false]; rfl
    have g4 : (c.numV l.f == 0) = true := by rw [g3]; rfl
    subst hr
    clear HR g1 g2 g3
    generalize c.numV l.f = L0 at *
    go_wp2_with (first | (go_at_call 67; (with_reducible refine Calls.mono (NP _) ?_); rintro e w2 ⟨rfl, h2⟩; clear p0 p1 p2 p3 p4 p5 p6 p7 lp; obtain ⟨p0, p1, p2, p3, p4, p5, p6, p7⟩ := (B2.ext h2).c8; have lp := (B2.ext h2).lt) | (go_at_call 90; (with_reducible refine Calls.mono (NS _) ?_); rintro e w3 ⟨rfl, h3⟩))
    go_ret
    exact ⟨rfl, (E.trans h2).trans h3⟩
   ·have g4 : (c.numV l.f == 0) = false := beq_eq_false_iff_ne.2 g3
    have HR2 : Hid (R = (List.range n).all fun i => (f i).n.pos && decide (c.numV (Jf l f i) ≤ c.numV (f i).on)) := by
     unfold Hid; rw [HR.out]; unfold Qf.loanOk; rw [g1, g2, decide_eq_true g3]; rfl
    clear HR g1 g2 g3
    go_upto_region 5 with (first | (go_at_call 67; (with_reducible refine Calls.mono (NP _) ?_); rintro e w2 ⟨rfl, h2⟩; clear p0 p1 p2 p3 p4 p5 p6 p7 lp; obtain ⟨p0, p1, p2, p3, p4, p5, p6, p7⟩ := (B2.ext h2).c8; have lp := (B2.ext h2).lt) | (go_at_call 90; (with_reducible refine Calls.mono (NS _) ?_); rintro e w3 ⟨rfl, h3⟩))
    replace E := (E.trans h2).trans h3
    replace C := (C.ext h2).ext h3
    replace RB := (RB.ext h2).ext h3
    replace B1 := (B1.ext h2).ext h3
    clear h2 h3 k0 k1 lk p0 p1 p2 p3 p4 p5 p6 p7 lp B2 NP NS N0 g4
    obtain ⟨vl, rfl⟩ := Qg w3
    go_loopw [7, 31] (fun lv iv wr => ∃ k : Nat, k ≤ n ∧ iv = .int .i64 k ∧ lv = .int .i64 (c.numV (Jf l f k)) ∧ Hid (∀ j, j < k → ((f j).n.pos && decide (c.numV (Jf l f j) ≤ c.numV (f j).on)) = true) ∧ Qa vl wr) (fun _ i _ => n - (intOf i).toNat)
    case atStart => exact ⟨0, Nat.zero_le _, rfl, rfl, (fun j h => absurd h (by omega)), Qa.refl _⟩
    case round =>
     obtain ⟨k, hk, rfl, rfl, hall, hE⟩ := hrel
     obtain ⟨wo, rfl⟩ := Qg wr
     by_cases hlt : k < n
     ·obtain ⟨b, off, rfl, hb, hc⟩ := (RB.ext hE) (by omega)
      have c0 : wo.cell? ⟨b, off + k * 6, none⟩ = some (.int .i64 (f k).on.y) := by simpa [Ye] using hc k 0 _ hlt rfl
      have c1 : wo.cell? ⟨b, off + k * 6 + 1, none⟩ = some (.int .i64 (f k).on.m) := by simpa [Ye] using hc k 1 _ hlt rfl
      have c2 : wo.cell? ⟨b, off + k * 6 + 2, none⟩ = some (.bool (f k).on.s) := by simpa [Ye] using hc k 2 _ hlt rfl
      have c3 : wo.cell? ⟨b, off + k * 6 + 3, none⟩ = some (.int .i64 (f k).on.d) := by simpa [Ye] using hc k 3 _ hlt rfl
      have c4 : wo.cell? ⟨b, off + k * 6 + 4, none⟩ = some (.int .i64 (f k).n.n) := by simpa [Ye] using hc k 4 _ hlt rfl
      have c5 : wo.cell? ⟨b, off + k * 6 + 5, none⟩ = some (.int .i64 (f k).n.d) := by simpa [Ye] using hc k 5 _ hlt rfl
      have N1 := fun w h => Wi A A' ca cb c (f k).on w h
      have N2 := fun w => Oa (f k).n (hin k hlt) w
      have hno : Hid (((f k).n.pos && decide (c.numV (Jf l f k) ≤ c.numV (f k).on)) = false → R = false) := fun h => by
       rw [HR2.out]
       exact List.all_eq_false.2 ⟨k, by simpa using hlt, by rw [h]; decide⟩
      have hyes : Hid (((f k).n.pos && decide (c.numV (Jf l f k) ≤ c.numV (f k).on)) = true → ∀ j, j < k + 1 → ((f j).n.pos && decide (c.numV (Jf l f j) ≤ c.numV (f j).on)) = true) := fun h j hj => by
       by_cases e : j = k
       ·subst e; exact h
       ·exact hall.out j (by omega)
      have hlo : Hid (c.numV (Jf l f (k + 1)) = c.numV (f k).on) := rfl
      clear hc hin hall HR2
      generalize c.numV (Jf l f k) = L0 at *
      generalize c.numV (f k).on = L1 at *
      generalize (f k).n.pos = pp at *
      go_upto_region 7 with (fail)
      obtain ⟨v3, hv⟩ := Qg (wo.alloc (.cells #[.int .i64 (f k).on.y, .int .i64 (f k).on.m, .bool (f k).on.s, .int .i64 (f k).on.d, .int .i64 (f k).n.n, .int .i64 (f k).n.d] 78))
      rw [← hv]
      have E3 : Qa wo v3 := by rw [hv]; exact (Qa.refl _).alloc _
      have H3 : Qb v3 wo.heap.size 78 #[.int .i64 (f k).on.y, .int .i64 (f k).on.m, .bool (f k).on.s, .int .i64 (f k).on.d, .int .i64 (f k).n.n, .int .i64 (f k).n.d] := by rw [hv]; exact Qb.new _ _ _
      clear hv c0 c1 c2 c3 c4 c5
      replace hE := hE.trans E3
      clear E3
      generalize wo.heap.size = b3 at *
      obtain ⟨q0, q1, q2, q3, q4, q5⟩ := H3.c6
      have lq := H3.lt
      have B1e := B1.ext hE
      obtain ⟨k0, k1⟩ := B1e.c2
      have lk := B1e.lt
      go_upto_region 8 with (go_at_call 48; (with_reducible refine Calls.mono (N1 _ (C.ext hE)) ?_); rintro e w4 ⟨rfl, h4⟩)
      replace hE := hE.trans h4
      replace H3 := H3.ext h4
      clear h4 q0 q1 q2 q3 q4 q5 lq k0 k1 lk B1e N1
      obtain ⟨q0, q1, q2, q3, q4, q5⟩ := H3.c6
      have lq := H3.lt
      cases pp
      ·have hr := hno.out rfl
       subst hr
       clear hno hyes hlo
       go_wp2_with (go_at_call 67; (with_reducible refine Calls.mono (N2 _) ?_); rintro e w5 ⟨rfl, h5⟩)
       go_ret
       exact ⟨rfl, (E.trans hE).trans h5⟩
      ·by_cases hlt2 : L1 < L0
       ·have g1 : decide (L1 < L0) = true := decide_eq_true hlt2
        have hr := hno.out (by rw [decide_eq_false (by omega)]; rfl)
        subst hr
        clear hno hyes hlo hlt2
        go_wp2_with (go_at_call 67; (with_reducible refine Calls.mono (N2 _) ?_); rintro e w5 ⟨rfl, h5⟩)
        go_ret
        exact ⟨rfl, (E.trans hE).trans h5⟩
       ·have g1 : decide (L1 < L0) = false := decide_eq_false hlt2
        have hx := Lib.hid (hyes.out (by rw [decide_eq_true (by omega)]; rfl))
        clear hno hyes hlt2
        go_wp2_with (go_at_call 67; (with_reducible refine Calls.mono (N2 _) ?_); rintro e w5 ⟨rfl, h5⟩)
        exact ⟨⟨k + 1, by omega, by go_num, by rw [hlo.out], hx, hE.trans h5⟩, by simp [intOf]; omega⟩
     ·obtain rfl : k = n := by omega
      have hr : R = true := by
       rw [HR2.out]
       exact List.all_eq_true.2 fun j hj => hall.out j (by simpa using hj)
      clear HR2 hall hin
      subst hr
      go_wp2
      go_ret
      exact ⟨rfl, E.trans hE⟩
theorem Qal (A A' : Option Addr) (ca cb : Nat) (c : Qf) (B : Option Addr) (n cap : Nat) (l : Ln) (f : Nat → Z8) (hp : l.p.In) (hr : l.r.In) (hin : ∀ i, i < n → (f i).n.In) (w : World) (hC : Zg w A ca A' cb c) (hB : Qo w B n 6 (Ye f)) (hn : n ≤ 9223372036854775807) (hv : c.valid = true) :
  Calls Tryz.prog 65 #[.agg #[.slice A c.nk ca, .slice A' c.ny cb], .agg #[.int .i64 l.p.n, .int .i64 l.p.d, .int .i64 l.r.n, .int .i64 l.r.d, .int .i64 l.f.y, .int .i64 l.f.m, .bool l.f.s, .int .i64 l.f.d], .slice B n cap] w fun e w' => e = .returned (.int .i64 (c.loanE l f n)) ∧ Qa w w' := by
 have NL := fun w h1 h2 => Qc6 A A' ca cb c B n cap l f hp hr hin w h1 h2 hn
 by_cases h64 : 64 < n
 ·have hr : c.loanE l f n = 3 := by unfold Qf.loanE; rw [if_pos hv, if_pos h64]
  have g1 : decide ((64 : Int) < (n : Int)) = true := decide_eq_true (by omega)
  rw [hr]
  clear hr
  go_enter Tryz.func65, Tryz.ntmps65
  go_wp2
  go_ret
  exact ⟨rfl, (by repeat (first | exact Qa.refl _ | (refine Qa.alloc ?_ _) | (refine Qa.trans ?_ (by assumption))))⟩
 ·have hr : c.loanE l f n = if c.loanOk l f n then 0 else 80 := by unfold Qf.loanE; rw [if_pos hv, if_neg h64]
  have g1 : decide ((64 : Int) < (n : Int)) = false := decide_eq_false (by omega)
  rw [hr]
  clear hr
  cases hk : c.loanOk l f n
  ·simp only [hk] at NL
   clear hk
   go_enter Tryz.func65, Tryz.ntmps65
   go_upto_region 1 with (fail)
   obtain ⟨v, hv⟩ := Qg ((w.alloc (.cells #[.slice A c.nk ca, .slice A' c.ny cb] 130)).alloc (.cells #[.int .i64 l.p.n, .int .i64 l.p.d, .int .i64 l.r.n, .int .i64 l.r.d, .int .i64 l.f.y, .int .i64 l.f.m, .bool l.f.s, .int .i64 l.f.d] 67))
   rw [← hv]
   have E : Qa w v := by rw [hv]; exact ((Qa.refl _).alloc _).alloc _
   have B1 : Qb v w.heap.size 130 #[.slice A c.nk ca, .slice A' c.ny cb] := by rw [hv]; exact (Qb.new _ _ _).alloc _
   have B2 : Qb v (w.heap.size + 1) 67 #[.int .i64 l.p.n, .int .i64 l.p.d, .int .i64 l.r.n, .int .i64 l.r.d, .int .i64 l.f.y, .int .i64 l.f.m, .bool l.f.s, .int .i64 l.f.d] := by rw [hv]; exact Qb.at _ _ _ _ (by simp)
   clear hv
   obtain ⟨b2, hb2⟩ := Qg (w.heap.size + 1)
   rw [← hb2] at B2 ⊢
   obtain ⟨b1, hb1⟩ := Qg (w.heap.size)
   rw [← hb1] at B1 ⊢
   have hbr : w.heap.size ≤ b2 := by omega
   have hbr1 : w.heap.size ≤ b1 := by omega
   have hn21 : b2 ≠ b1 := by omega
   clear hb1 hb2
   obtain ⟨k0, k1⟩ := B1.c2
   have lk := B1.lt
   obtain ⟨p0, p1, p2, p3, p4, p5, p6, p7⟩ := B2.c8
   have lp := B2.lt
   go_wp2_with (go_at_call 116; (with_reducible refine Calls.mono (NL _ (hC.ext E) (hB.ext E)) ?_); rintro e w2 ⟨rfl, h9⟩)
   go_ret
   exact ⟨rfl, E.trans h9⟩
  ·simp only [hk] at NL
   clear hk
   go_enter Tryz.func65, Tryz.ntmps65
   go_upto_region 1 with (fail)
   obtain ⟨v, hv⟩ := Qg ((w.alloc (.cells #[.slice A c.nk ca, .slice A' c.ny cb] 130)).alloc (.cells #[.int .i64 l.p.n, .int .i64 l.p.d, .int .i64 l.r.n, .int .i64 l.r.d, .int .i64 l.f.y, .int .i64 l.f.m, .bool l.f.s, .int .i64 l.f.d] 67))
   rw [← hv]
   have E : Qa w v := by rw [hv]; exact ((Qa.refl _).alloc _).alloc _
   have B1 : Qb v w.heap.size 130 #[.slice A c.nk ca, .slice A' c.ny cb] := by rw [hv]; exact (Qb.new _ _ _).alloc _
   have B2 : Qb v (w.heap.size + 1) 67 #[.int .i64 l.p.n, .int .i64 l.p.d, .int .i64 l.r.n, .int .i64 l.r.d, .int .i64 l.f.y, .int .i64 l.f.m, .bool l.f.s, .int .i64 l.f.d] := by rw [hv]; exact Qb.at _ _ _ _ (by simp)
   clear hv
   obtain ⟨b2, hb2⟩ := Qg (w.heap.size + 1)
   rw [← hb2] at B2 ⊢
   obtain ⟨b1, hb1⟩ := Qg (w.heap.size)
   rw [← hb1] at B1 ⊢
   have hbr : w.heap.size ≤ b2 := by omega
   have hbr1 : w.heap.size ≤ b1 := by omega
   have hn21 : b2 ≠ b1 := by omega
   clear hb1 hb2
   obtain ⟨k0, k1⟩ := B1.c2
   have lk := B1.lt
   obtain ⟨p0, p1, p2, p3, p4, p5, p6, p7⟩ := B2.c8
   have lp := B2.lt
   go_wp2_with (go_at_call 116; (with_reducible refine Calls.mono (NL _ (hC.ext E) (hB.ext E)) ?_); rintro e w2 ⟨rfl, h9⟩)
   go_ret
   exact ⟨rfl, E.trans h9⟩
end
end Go.Proofs.YtoflcheopfppoaaGreatDoor
