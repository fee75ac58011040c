/- Walks of the program's functions and plain facts, packed; proved: the lemmas below; no conditions but those that each states. -/
import Derived.Test.YtneiofnlmblglaaGreatDoorR4
import Derived.Test.YtneiofnlmblglaaGreatDoorR1
import Derived.Test.YtneiofnlmblglaaGreatDoorR3
set_option maxRecDepth 100000
set_option maxHeartbeats 4000000
namespace Go.Proofs.YtneiofnlmblglaaGreatDoor
section
open Go Go.RowKit Go.Shelf
attribute [local go_sem] Zs
theorem Pz (n : Nat) : upTo (fun _ => n) 1 = n := by show 1 * n = n; omega
theorem P0 {w : World} {b : Nat} {t : TypeId} {n : Nat} (h : Qb w b t #[.int .u64 (n : Int)]) : Qn w (some ⟨b, 0, none⟩) 1 1 (Q7 fun _ => n) := Ud (f := Q7 fun _ => n) (n := 1) (fun _ => rfl) h
theorem Sy (n d : Int) (hn1 : -9223372036854775808 ≤ n) (hn2 : n ≤ 9223372036854775807) (hd1 : -9223372036854775808 ≤ d) (hd2 : d ≤ 9223372036854775807) (w : World) (hZ : Zv w) :
  Calls Tryz.prog 110 #[.int .i64 n, .int .i64 d] w fun e w' => e = .returned (.tuple #[.agg #[.int .i64 (Je n d).1.n, .int .i64 (Je n d).1.d], .int .i64 (Je n d).2]) ∧ Qa w w' := by
 obtain ⟨R, hR0⟩ := Qg (Je n d)
 rw [← hR0]
 have HR := Lib.hid hR0
 clear hR0
 go_enter Tryz.func110, Tryz.ntmps110
 go_upto_region 1 with (fail)
 obtain ⟨v, hv⟩ := Qg (w.alloc (.cells #[.int .i64 0, .int .i64 0] 73))
 rw [← hv]
 have E : Qa w v := by rw [hv]; exact (Qa.refl _).alloc _
 have B1 : Qb v w.heap.size 73 #[.int .i64 0, .int .i64 0] := by rw [hv]; exact (Qb.new _ _ _)
 clear hv
 obtain ⟨b1, hb1⟩ := Qg (w.heap.size)
 rw [← hb1] at B1 ⊢
 have hbr : w.heap.size ≤ b1 := by omega
 clear hb1
 have Z0 := hZ.ext E
 clear hZ
 by_cases hd0 : d = 0
 ·have g0 : (d == 0) = true := by rw [hd0]; rfl
  have hr : R = (Zb, 9) := by rw [HR.out]; unfold Je; rw [if_pos hd0]
  subst hr
  clear HR hd0
  have f0 := B1.frozen 0
  have f1 := B1.frozen 1
  obtain ⟨x0, x1⟩ := B1.c2
  have lx := B1.lt
  have H4 := Qk B1 (.int .i64 0) (.int .i64 0)
  have EF := (E.setCell (p := ⟨b1, 0, none⟩) hbr (.int .i64 0)).setCell (p := ⟨b1, 1, none⟩) hbr (.int .i64 0)
  obtain ⟨y0, y1⟩ := H4.c2
  go_wp2
  refine bodyPost_ret (v := .tuple #[.agg #[.int .i64 0, .int .i64 0], .int .i64 9]) (by simp [results, Tryz.results110, go_sem, y0, y1]) rfl ⟨rfl, EF⟩
 ·have g0 : (d == 0) = false := beq_eq_false_iff_ne.2 hd0
  by_cases hn0 : n = 0
  ·have g1 : (n == 0) = true := by rw [hn0]; rfl
   have hr : R = (⟨0, 1⟩, 0) := by rw [HR.out]; unfold Je; rw [if_neg hd0, hn0]; exact Mb (by omega)
   subst hr
   clear HR hd0 hn0
   obtain ⟨z0, z1, lz⟩ := Z0
   have f0 := B1.frozen 0
   have f1 := B1.frozen 1
   obtain ⟨x0, x1⟩ := B1.c2
   have lx := B1.lt
   have H4 := Qk B1 (.int .i64 0) (.int .i64 1)
   have EF := (E.setCell (p := ⟨b1, 0, none⟩) hbr (.int .i64 0)).setCell (p := ⟨b1, 1, none⟩) hbr (.int .i64 1)
   obtain ⟨y0, y1⟩ := H4.c2
   go_wp2
   refine bodyPost_ret (v := .tuple #[.agg #[.int .i64 0, .int .i64 1], .int .i64 0]) (by simp [results, Tryz.results110, go_sem, y0, y1]) rfl ⟨rfl, EF⟩
  ·have g1 : (n == 0) = false := beq_eq_false_iff_ne.2 hn0
   have NN := fun w => We n hn1 hn2 w
   have ND := fun w => We d hd1 hd2 w
   have NR := fun w b b' neg (hneg : neg = (decide (n < 0) != decide (d < 0))) h h' => Ov (some ⟨b, 0, none⟩) (some ⟨b', 0, none⟩) 1 1 1 1 (fun _ => n.natAbs) (fun _ => d.natAbs) neg w h h' (fun h => by cases h) (fun h => by cases h) (by decide) (by decide) (fun i hi => by omega) (fun i hi => by omega) (fun i hi => by omega) (fun i hi => by omega)
   have hq : ∀ neg, neg = (decide (n < 0) != decide (d < 0)) → Ja neg n.natAbs d.natAbs = R := fun neg e => by rw [e, HR.out]; unfold Je; rw [if_neg hd0]
   have NR : ∀ (w : World) (b b' : Nat), Qn w (some ⟨b, 0, none⟩) 1 1 (Q7 fun _ => n.natAbs) → Qn w (some ⟨b', 0, none⟩) 1 1 (Q7 fun _ => d.natAbs) → Calls Tryz.prog 135 #[.agg #[.slice (some ⟨b, 0, none⟩) 1 1, .slice (some ⟨b', 0, none⟩) 1 1], .bool (!(decide (n < 0) == decide (d < 0)))] w fun e w' => e = .returned (.tuple #[.agg #[.int .i64 R.1.n, .int .i64 R.1.d], .int .i64 R.2]) ∧ Qa w w' := fun w b b' h h' => by
    have := NR w b b' _ rfl h h'
    rw [Pz, Pz, hq _ rfl] at this
    exact this
   clear hq
   generalize n.natAbs = an at *
   generalize d.natAbs = ad at *
   clear HR hn0 hd0
   obtain ⟨⟨Rn, Rd⟩, Re⟩ := R
   go_wp2_with (first
    | (go_at_call 134; (with_reducible refine Calls.mono (NN _) ?_); rintro e w1 ⟨rfl, h1⟩; have U1 := P0 (Qb.new w1 183 #[.int .u64 (an : Int)]); have h2 : Qa w1 (w1.alloc (.cells #[.int .u64 (an : Int)] 183)) := (Qa.refl _).alloc _)
    | (go_at_call 134; (with_reducible refine Calls.mono (ND _) ?_); rintro e w3 ⟨rfl, h3⟩; have U2 := P0 (Qb.new w3 183 #[.int .u64 (ad : Int)]); have h4 : Qa w3 (w3.alloc (.cells #[.int .u64 (ad : Int)] 183)) := (Qa.refl _).alloc _)
    | (go_at_call 135; (with_reducible refine Calls.mono (NR _ _ _ (U1.ext (h3.trans h4)) U2) ?_); rintro e wt ⟨rfl, ht⟩; replace E := ((((E.trans h1).trans h2).trans h3).trans h4).trans ht; replace B1 := ((((B1.ext h1).ext h2).ext h3).ext h4).ext ht; have f0 := B1.frozen 0; have f1 := B1.frozen 1; obtain ⟨x0, x1⟩ := B1.c2; have lx := B1.lt))
   have H4 := Qk B1 (.int .i64 Rn) (.int .i64 Rd)
   have EF := (E.setCell (p := ⟨b1, 0, none⟩) hbr (.int .i64 Rn)).setCell (p := ⟨b1, 1, none⟩) hbr (.int .i64 Rd)
   obtain ⟨y0, y1⟩ := H4.c2
   go_wp2
   refine bodyPost_ret (v := .tuple #[.agg #[.int .i64 Rn, .int .i64 Rd], .int .i64 Re]) (by simp [results, Tryz.results110, go_sem, y0, y1]) rfl ⟨rfl, EF⟩
theorem Df (a b : Rt) (ha : a.ok = true) (hb : b.ok = true) (ba bb : Nat) (w : World) (hA : Qb w ba 73 #[.int .i64 a.n, .int .i64 a.d]) (hB : Qb w bb 73 #[.int .i64 b.n, .int .i64 b.d]) (hZ : Zv w) :
  Calls Tryz.prog 109 #[.pointer (some ⟨ba, 0, none⟩), .pointer (some ⟨bb, 0, none⟩)] w fun e w' => e = .returned (.tuple #[.agg #[.int .i64 (Je (a.n * b.d + b.n * a.d) (a.d * b.d)).1.n, .int .i64 (Je (a.n * b.d + b.n * a.d) (a.d * b.d)).1.d], .int .i64 (Je (a.n * b.d + b.n * a.d) (a.d * b.d)).2]) ∧ Qa w w' := by
 obtain ⟨m1, m2, m3, m4⟩ := Xe ha hb
 obtain ⟨m5, m6, _, _⟩ := Xe hb ha
 have w1 : IntKind.i64.wrap (a.n * b.d) = a.n * b.d := Zq (by omega) (by omega)
 have w2 : IntKind.i64.wrap (b.n * a.d) = b.n * a.d := Zq (by omega) (by omega)
 have w3 : IntKind.i64.wrap (a.n * b.d + b.n * a.d) = a.n * b.d + b.n * a.d := Zq (by omega) (by omega)
 have w4 : IntKind.i64.wrap (a.d * b.d) = a.d * b.d := Zq (by omega) (by omega)
 have NR := fun w z => Sy (a.n * b.d + b.n * a.d) (a.d * b.d) (by omega) (by omega) (by omega) (by omega) w z
 obtain ⟨R, hR0⟩ := Qg (Je (a.n * b.d + b.n * a.d) (a.d * b.d))
 rw [← hR0] at NR ⊢
 clear hR0 m1 m2 m3 m4 m5 m6 ha hb
 go_enter Tryz.func109, Tryz.ntmps109
 go_upto_region 1 with (fail)
 obtain ⟨v, hv⟩ := Qg (w.alloc (.cells #[.int .i64 0, .int .i64 0] 73))
 rw [← hv]
 have E : Qa w v := by rw [hv]; exact (Qa.refl _).alloc _
 have B1 : Qb v w.heap.size 73 #[.int .i64 0, .int .i64 0] := by rw [hv]; exact (Qb.new _ _ _)
 clear hv
 obtain ⟨b1, hb1⟩ := Qg (w.heap.size)
 rw [← hb1] at B1 ⊢
 have hbr : w.heap.size ≤ b1 := by omega
 clear hb1
 have Z0 := hZ.ext E
 replace hA := hA.ext E
 replace hB := hB.ext E
 obtain ⟨k0, k1⟩ := hA.c2
 have lk := hA.lt
 obtain ⟨p0, p1⟩ := hB.c2
 have lp := hB.lt
 obtain ⟨⟨Rn, Rd⟩, Re⟩ := R
 go_wp2_with (first | (go_at_call 110; (with_reducible refine Calls.mono (NR _ Z0) ?_); rintro e wt ⟨rfl, ht⟩; replace E := E.trans ht; replace B1 := B1.ext ht; have f0 := B1.frozen 0; have f1 := B1.frozen 1; obtain ⟨x0, x1⟩ := B1.c2; have lx := B1.lt))
 have H4 := Qk B1 (.int .i64 Rn) (.int .i64 Rd)
 have EF := (E.setCell (p := ⟨b1, 0, none⟩) hbr (.int .i64 Rn)).setCell (p := ⟨b1, 1, none⟩) hbr (.int .i64 Rd)
 obtain ⟨y0, y1⟩ := H4.c2
 go_wp2
 refine bodyPost_ret (v := .tuple #[.agg #[.int .i64 Rn, .int .i64 Rd], .int .i64 Re]) (by simp [results, Tryz.results109, go_sem, y0, y1]) rfl ⟨rfl, EF⟩
theorem Qcb (a b : Rt) (ha : a.ok = true) (hb : b.ok = true) (ba bb : Nat) (w : World) (hA : Qb w ba 73 #[.int .i64 a.n, .int .i64 a.d]) (hB : Qb w bb 73 #[.int .i64 b.n, .int .i64 b.d]) (hZ : Zv w) :
  Calls Tryz.prog 115 #[.pointer (some ⟨ba, 0, none⟩), .pointer (some ⟨bb, 0, none⟩)] w fun e w' => e = .returned (.tuple #[.agg #[.int .i64 (Je (a.n * b.d - b.n * a.d) (a.d * b.d)).1.n, .int .i64 (Je (a.n * b.d - b.n * a.d) (a.d * b.d)).1.d], .int .i64 (Je (a.n * b.d - b.n * a.d) (a.d * b.d)).2]) ∧ Qa w w' := by
 obtain ⟨m1, m2, m3, m4⟩ := Xe ha hb
 obtain ⟨m5, m6, _, _⟩ := Xe hb ha
 have w1 : IntKind.i64.wrap (a.n * b.d) = a.n * b.d := Zq (by omega) (by omega)
 have w2 : IntKind.i64.wrap (b.n * a.d) = b.n * a.d := Zq (by omega) (by omega)
 have w3 : IntKind.i64.wrap (a.n * b.d - b.n * a.d) = a.n * b.d - b.n * a.d := Zq (by omega) (by omega)
 have w4 : IntKind.i64.wrap (a.d * b.d) = a.d * b.d := Zq (by omega) (by omega)
 have NR := fun w z => Sy (a.n * b.d - b.n * a.d) (a.d * b.d) (by omega) (by omega) (by omega) (by omega) w z
 obtain ⟨R, hR0⟩ := Qg (Je (a.n * b.d - b.n * a.d) (a.d * b.d))
 rw [← hR0] at NR ⊢
 clear hR0 m1 m2 m3 m4 m5 m6 ha hb
 go_enter Tryz.func115, Tryz.ntmps115
 go_upto_region 1 with (fail)
 obtain ⟨v, hv⟩ := Qg (w.alloc (.cells #[.int .i64 0, .int .i64 0] 73))
 rw [← hv]
 have E : Qa w v := by rw [hv]; exact (Qa.refl _).alloc _
 have B1 : Qb v w.heap.size 73 #[.int .i64 0, .int .i64 0] := by rw [hv]; exact (Qb.new _ _ _)
 clear hv
 obtain ⟨b1, hb1⟩ := Qg (w.heap.size)
 rw [← hb1] at B1 ⊢
 have hbr : w.heap.size ≤ b1 := by omega
 clear hb1
 have Z0 := hZ.ext E
 replace hA := hA.ext E
 replace hB := hB.ext E
 obtain ⟨k0, k1⟩ := hA.c2
 have lk := hA.lt
 obtain ⟨p0, p1⟩ := hB.c2
 have lp := hB.lt
 obtain ⟨⟨Rn, Rd⟩, Re⟩ := R
 go_wp2_with (first | (go_at_call 110; (with_reducible refine Calls.mono (NR _ Z0) ?_); rintro e wt ⟨rfl, ht⟩; replace E := E.trans ht; replace B1 := B1.ext ht; have f0 := B1.frozen 0; have f1 := B1.frozen 1; obtain ⟨x0, x1⟩ := B1.c2; have lx := B1.lt))
 have H4 := Qk B1 (.int .i64 Rn) (.int .i64 Rd)
 have EF := (E.setCell (p := ⟨b1, 0, none⟩) hbr (.int .i64 Rn)).setCell (p := ⟨b1, 1, none⟩) hbr (.int .i64 Rd)
 obtain ⟨y0, y1⟩ := H4.c2
 go_wp2
 refine bodyPost_ret (v := .tuple #[.agg #[.int .i64 Rn, .int .i64 Rd], .int .i64 Re]) (by simp [results, Tryz.results115, go_sem, y0, y1]) rfl ⟨rfl, EF⟩
theorem Bh (a b : Rt) (hia : a.In) (hib : b.In) (ba bb : Nat) (w : World) (hA : Qb w ba 73 #[.int .i64 a.n, .int .i64 a.d]) (hB : Qb w bb 73 #[.int .i64 b.n, .int .i64 b.d]) (hZ : Zv w) :
  Calls Tryz.prog 108 #[.agg #[.int .i64 a.n, .int .i64 a.d], .agg #[.int .i64 b.n, .int .i64 b.d], .func (.func 109) #[] #[.pointer (some ⟨ba, 0, none⟩), .pointer (some ⟨bb, 0, none⟩)]] w fun e w' => e = .returned (.tuple #[.agg #[.int .i64 (Q3 a b).1.n, .int .i64 (Q3 a b).1.d], .int .i64 (Q3 a b).2]) ∧ Qa w w' := by
 have NA := fun w => Wa a.n a.d hia.1 hia.2.1 hia.2.2.1 hia.2.2.2 w
 have NB := fun w => Wa b.n b.d hib.1 hib.2.1 hib.2.2.1 hib.2.2.2 w
 rw [show Rt.ok ⟨a.n, a.d⟩ = a.ok from rfl] at NA
 rw [show Rt.ok ⟨b.n, b.d⟩ = b.ok from rfl] at NB
 have NC := fun ha hb w h1 h2 z => Df a b ha hb ba bb w h1 h2 z
 have HV : Hid (Q3 a b = if a.ok && b.ok then Je (a.n * b.d + b.n * a.d) (a.d * b.d) else (Zb, 2)) := rfl
 obtain ⟨R, hR0⟩ := Qg (Q3 a b)
 rw [← hR0]
 have HR := Lib.hid hR0
 clear hR0
 rw [show Q3 a b = R from HR.out.symm] at HV
 clear HR
 go_enter Tryz.func108, Tryz.ntmps108
 go_upto_region 1 with (fail)
 obtain ⟨v, hv⟩ := Qg (((w.alloc (.cells #[.int .i64 a.n, .int .i64 a.d] 73)).alloc (.cells #[.int .i64 b.n, .int .i64 b.d] 73)).alloc (.cells #[.int .i64 0, .int .i64 0] 73))
 rw [← hv]
 have E : Qa w v := by rw [hv]; exact (((Qa.refl _).alloc _).alloc _).alloc _
 have B1 : Qb v w.heap.size 73 #[.int .i64 a.n, .int .i64 a.d] := by rw [hv]; exact ((Qb.new _ _ _).alloc _).alloc _
 have B2 : Qb v (w.heap.size + 1) 73 #[.int .i64 b.n, .int .i64 b.d] := by rw [hv]; exact (Qb.at _ _ _ _ (by simp)).alloc _
 have B3 : Qb v (w.heap.size + 1 + 1) 73 #[.int .i64 0, .int .i64 0] := by rw [hv]; exact Qb.at _ _ _ _ (by simp)
 clear hv
 obtain ⟨b3, hb3⟩ := Qg (w.heap.size + 1 + 1)
 rw [← hb3] at B3 ⊢
 obtain ⟨b2, hb2⟩ := Qg (w.heap.size + 1)
 rw [← hb2] at B2 ⊢
 obtain ⟨b1, hb1⟩ := Qg (w.heap.size)
 rw [← hb1] at B1 ⊢
 have hbr : w.heap.size ≤ b3 := by omega
 have hbr1 : w.heap.size ≤ b1 := by omega
 have hbr2 : w.heap.size ≤ b2 := by omega
 have hn21 : b2 ≠ b1 := by omega
 have hn31 : b3 ≠ b1 := by omega
 have hn32 : b3 ≠ b2 := by omega
 clear hb1 hb2 hb3
 obtain ⟨k0, k1⟩ := B1.c2
 have lk := B1.lt
 obtain ⟨p0, p1⟩ := B2.c2
 have lp := B2.lt
 cases ha : a.ok
 ·simp only [ha] at NA
  have hr := HV.out
  rw [ha, Bool.false_and, if_neg (by decide)] at hr
  subst hr
  clear HV NC NB
  go_upto_region 2 with (go_at_call 102; (with_reducible refine Calls.mono (NA _) ?_); rintro e w2 ⟨rfl, h⟩)
  replace E := E.trans h
  replace B3 := B3.ext h
  have f0 := B3.frozen 0
  have f1 := B3.frozen 1
  obtain ⟨x0, x1⟩ := B3.c2
  have lx := B3.lt
  have H4 := Qk B3 (.int .i64 0) (.int .i64 0)
  have EF := (E.setCell (p := ⟨b3, 0, none⟩) hbr (.int .i64 0)).setCell (p := ⟨b3, 1, none⟩) hbr (.int .i64 0)
  obtain ⟨y0, y1⟩ := H4.c2
  go_wp2
  refine bodyPost_ret (v := .tuple #[.agg #[.int .i64 0, .int .i64 0], .int .i64 2]) (by simp [results, Tryz.results108, go_sem, y0, y1]) rfl ⟨rfl, EF⟩
 ·simp only [ha] at NA
  cases hb : b.ok
  ·simp only [hb] at NB
   have hr := HV.out
   rw [hb, Bool.and_false, if_neg (by decide)] at hr
   subst hr
   clear HV NC
   go_upto_region 2 with (first | (go_at_call 102; (with_reducible refine Calls.mono (NA _) ?_); rintro e w1 ⟨rfl, h1⟩; clear p0 p1 lp; obtain ⟨p0, p1⟩ := (B2.ext h1).c2; have lp := (B2.ext h1).lt) | (go_at_call 102; (with_reducible refine Calls.mono (NB _) ?_); rintro e w2 ⟨rfl, h⟩))
   replace E := (E.trans h1).trans h
   replace B3 := (B3.ext h1).ext h
   have f0 := B3.frozen 0
   have f1 := B3.frozen 1
   obtain ⟨x0, x1⟩ := B3.c2
   have lx := B3.lt
   have H4 := Qk B3 (.int .i64 0) (.int .i64 0)
   have EF := (E.setCell (p := ⟨b3, 0, none⟩) hbr (.int .i64 0)).setCell (p := ⟨b3, 1, none⟩) hbr (.int .i64 0)
   obtain ⟨y0, y1⟩ := H4.c2
   go_wp2
   refine bodyPost_ret (v := .tuple #[.agg #[.int .i64 0, .int .i64 0], .int .i64 2]) (by simp [results, Tryz.results108, go_sem, y0, y1]) rfl ⟨rfl, EF⟩
  ·simp only [hb] at NB
   replace NC := NC ha hb
   have hr := HV.out
   rw [ha, hb, Bool.and_true, if_pos rfl] at hr
   rw [← hr] at NC
   clear HV hr ha hb
   obtain ⟨⟨Rn, Rd⟩, Re⟩ := R
   go_upto_region 3 with (first | (go_at_call 102; (with_reducible refine Calls.mono (NA _) ?_); rintro e w1 ⟨rfl, h1⟩; clear p0 p1 lp; obtain ⟨p0, p1⟩ := (B2.ext h1).c2; have lp := (B2.ext h1).lt) | (go_at_call 102; (with_reducible refine Calls.mono (NB _) ?_); rintro e w2 ⟨rfl, h⟩))
   have e2 := (E.trans h1).trans h
   replace B3 := (B3.ext h1).ext h
   replace NC := NC w2 (hA.ext e2) (hB.ext e2) (hZ.ext e2)
   replace E := e2
   go_wp2_with (first | (go_at_call 109; (with_reducible refine Calls.mono (NC) ?_); rintro e wt ⟨rfl, ht⟩; replace E := E.trans ht; replace B3 := B3.ext ht; have f0 := B3.frozen 0; have f1 := B3.frozen 1; obtain ⟨x0, x1⟩ := B3.c2; have lx := B3.lt) | (go_at_fn 109; (with_reducible refine Calls.mono (NC) ?_); rintro e wt ⟨rfl, ht⟩; replace E := E.trans ht; replace B3 := B3.ext ht; have f0 := B3.frozen 0; have f1 := B3.frozen 1; obtain ⟨x0, x1⟩ := B3.c2; have lx := B3.lt))
   have H4 := Qk B3 (.int .i64 Rn) (.int .i64 Rd)
   have EF := (E.setCell (p := ⟨b3, 0, none⟩) hbr (.int .i64 Rn)).setCell (p := ⟨b3, 1, none⟩) hbr (.int .i64 Rd)
   obtain ⟨y0, y1⟩ := H4.c2
   go_wp2
   refine bodyPost_ret (v := .tuple #[.agg #[.int .i64 Rn, .int .i64 Rd], .int .i64 Re]) (by simp [results, Tryz.results108, go_sem, y0, y1]) rfl ⟨rfl, EF⟩
theorem Vy (a b : Rt) (hia : a.In) (hib : b.In) (w : World) (hZ : Zv w) :
  Calls Tryz.prog 78 #[.agg #[.int .i64 a.n, .int .i64 a.d], .agg #[.int .i64 b.n, .int .i64 b.d]] w fun e w' => e = .returned (.tuple #[.agg #[.int .i64 (Q3 a b).1.n, .int .i64 (Q3 a b).1.d], .int .i64 (Q3 a b).2]) ∧ Qa w w' := by
 have NC := fun ba bb w h1 h2 z => Bh a b hia hib ba bb w h1 h2 z
 obtain ⟨R, hR0⟩ := Qg (Q3 a b)
 rw [← hR0]
 have HR := Lib.hid hR0
 clear hR0
 rw [show Q3 a b = R from HR.out.symm] at NC
 clear HR
 go_enter Tryz.func78, Tryz.ntmps78
 go_upto_region 1 with (fail)
 obtain ⟨v, hv⟩ := Qg (((w.alloc (.cells #[.int .i64 a.n, .int .i64 a.d] 73)).alloc (.cells #[.int .i64 b.n, .int .i64 b.d] 73)).alloc (.cells #[.int .i64 0, .int .i64 0] 73))
 rw [← hv]
 have E : Qa w v := by rw [hv]; exact (((Qa.refl _).alloc _).alloc _).alloc _
 have B1 : Qb v w.heap.size 73 #[.int .i64 a.n, .int .i64 a.d] := by rw [hv]; exact ((Qb.new _ _ _).alloc _).alloc _
 have B2 : Qb v (w.heap.size + 1) 73 #[.int .i64 b.n, .int .i64 b.d] := by rw [hv]; exact (Qb.at _ _ _ _ (by simp)).alloc _
 have B3 : Qb v (w.heap.size + 1 + 1) 73 #[.int .i64 0, .int .i64 0] := by rw [hv]; exact Qb.at _ _ _ _ (by simp)
 clear hv
 obtain ⟨b3, hb3⟩ := Qg (w.heap.size + 1 + 1)
 rw [← hb3] at B3 ⊢
 obtain ⟨b2, hb2⟩ := Qg (w.heap.size + 1)
 rw [← hb2] at B2 ⊢
 obtain ⟨b1, hb1⟩ := Qg (w.heap.size)
 rw [← hb1] at B1 ⊢
 have hbr : w.heap.size ≤ b3 := by omega
 have hbr1 : w.heap.size ≤ b1 := by omega
 have hbr2 : w.heap.size ≤ b2 := by omega
 have hn21 : b2 ≠ b1 := by omega
 have hn31 : b3 ≠ b1 := by omega
 have hn32 : b3 ≠ b2 := by omega
 clear hb1 hb2 hb3
 have Z0 := hZ.ext E
 obtain ⟨k0, k1⟩ := B1.c2
 have lk := B1.lt
 obtain ⟨p0, p1⟩ := B2.c2
 have lp := B2.lt
 obtain ⟨⟨Rn, Rd⟩, Re⟩ := R
 go_wp2_with (first | (go_at_call 108; (with_reducible refine Calls.mono (NC _ _ _ B1 B2 Z0) ?_); rintro e wt ⟨rfl, ht⟩; replace E := E.trans ht; replace B3 := B3.ext ht; have f0 := B3.frozen 0; have f1 := B3.frozen 1; obtain ⟨x0, x1⟩ := B3.c2; have lx := B3.lt))
 have H4 := Qk B3 (.int .i64 Rn) (.int .i64 Rd)
 have EF := (E.setCell (p := ⟨b3, 0, none⟩) hbr (.int .i64 Rn)).setCell (p := ⟨b3, 1, none⟩) hbr (.int .i64 Rd)
 obtain ⟨y0, y1⟩ := H4.c2
 go_wp2
 refine bodyPost_ret (v := .tuple #[.agg #[.int .i64 Rn, .int .i64 Rd], .int .i64 Re]) (by simp [results, Tryz.results78, go_sem, y0, y1]) rfl ⟨rfl, EF⟩
theorem Bj (a b : Rt) (hia : a.In) (hib : b.In) (ba bb : Nat) (w : World) (hA : Qb w ba 73 #[.int .i64 a.n, .int .i64 a.d]) (hB : Qb w bb 73 #[.int .i64 b.n, .int .i64 b.d]) (hZ : Zv w) :
  Calls Tryz.prog 108 #[.agg #[.int .i64 a.n, .int .i64 a.d], .agg #[.int .i64 b.n, .int .i64 b.d], .func (.func 115) #[] #[.pointer (some ⟨ba, 0, none⟩), .pointer (some ⟨bb, 0, none⟩)]] w fun e w' => e = .returned (.tuple #[.agg #[.int .i64 (Zt a b).1.n, .int .i64 (Zt a b).1.d], .int .i64 (Zt a b).2]) ∧ Qa w w' := by
 have NA := fun w => Wa a.n a.d hia.1 hia.2.1 hia.2.2.1 hia.2.2.2 w
 have NB := fun w => Wa b.n b.d hib.1 hib.2.1 hib.2.2.1 hib.2.2.2 w
 rw [show Rt.ok ⟨a.n, a.d⟩ = a.ok from rfl] at NA
 rw [show Rt.ok ⟨b.n, b.d⟩ = b.ok from rfl] at NB
 have NC := fun ha hb w h1 h2 z => Qcb a b ha hb ba bb w h1 h2 z
 have HV : Hid (Zt a b = if a.ok && b.ok then Je (a.n * b.d - b.n * a.d) (a.d * b.d) else (Zb, 2)) := rfl
 obtain ⟨R, hR0⟩ := Qg (Zt a b)
 rw [← hR0]
 have HR := Lib.hid hR0
 clear hR0
 rw [show Zt a b = R from HR.out.symm] at HV
 clear HR
 go_enter Tryz.func108, Tryz.ntmps108
 go_upto_region 1 with (fail)
 obtain ⟨v, hv⟩ := Qg (((w.alloc (.cells #[.int .i64 a.n, .int .i64 a.d] 73)).alloc (.cells #[.int .i64 b.n, .int .i64 b.d] 73)).alloc (.cells #[.int .i64 0, .int .i64 0] 73))
 rw [← hv]
 have E : Qa w v := by rw [hv]; exact (((Qa.refl _).alloc _).alloc _).alloc _
 have B1 : Qb v w.heap.size 73 #[.int .i64 a.n, .int .i64 a.d] := by rw [hv]; exact ((Qb.new _ _ _).alloc _).alloc _
 have B2 : Qb v (w.heap.size + 1) 73 #[.int .i64 b.n, .int .i64 b.d] := by rw [hv]; exact (Qb.at _ _ _ _ (by simp)).alloc _
 have B3 : Qb v (w.heap.size + 1 + 1) 73 #[.int .i64 0, .int .i64 0] := by rw [hv]; exact Qb.at _ _ _ _ (by simp)
 clear hv
 obtain ⟨b3, hb3⟩ := Qg (w.heap.size + 1 + 1)
 rw [← hb3] at B3 ⊢
 obtain ⟨b2, hb2⟩ := Qg (w.heap.size + 1)
 rw [← hb2] at B2 ⊢
 obtain ⟨b1, hb1⟩ := Qg (w.heap.size)
 rw [← hb1] at B1 ⊢
 have hbr : w.heap.size ≤ b3 := by omega
 have hbr1 : w.heap.size ≤ b1 := by omega
 have hbr2 : w.heap.size ≤ b2 := by omega
 have hn21 : b2 ≠ b1 := by omega
 have hn31 : b3 ≠ b1 := by omega
 have hn32 : b3 ≠ b2 := by omega
 clear hb1 hb2 hb3
 obtain ⟨k0, k1⟩ := B1.c2
 have lk := B1.lt
 obtain ⟨p0, p1⟩ := B2.c2
 have lp := B2.lt
 cases ha : a.ok
 ·simp only [ha] at NA
  have hr := HV.out
  rw [ha, Bool.false_and, if_neg (by decide)] at hr
  subst hr
  clear HV NC NB
  go_upto_region 2 with (go_at_call 102; (with_reducible refine Calls.mono (NA _) ?_); rintro e w2 ⟨rfl, h⟩)
  replace E := E.trans h
  replace B3 := B3.ext h
  have f0 := B3.frozen 0
  have f1 := B3.frozen 1
  obtain ⟨x0, x1⟩ := B3.c2
  have lx := B3.lt
  have H4 := Qk B3 (.int .i64 0) (.int .i64 0)
  have EF := (E.setCell (p := ⟨b3, 0, none⟩) hbr (.int .i64 0)).setCell (p := ⟨b3, 1, none⟩) hbr (.int .i64 0)
  obtain ⟨y0, y1⟩ := H4.c2
  go_wp2
  refine bodyPost_ret (v := .tuple #[.agg #[.int .i64 0, .int .i64 0], .int .i64 2]) (by simp [results, Tryz.results108, go_sem, y0, y1]) rfl ⟨rfl, EF⟩
 ·simp only [ha] at NA
  cases hb : b.ok
  ·simp only [hb] at NB
   have hr := HV.out
   rw [hb, Bool.and_false, if_neg (by decide)] at hr
   subst hr
   clear HV NC
   go_upto_region 2 with (first | (go_at_call 102; (with_reducible refine Calls.mono (NA _) ?_); rintro e w1 ⟨rfl, h1⟩; clear p0 p1 lp; obtain ⟨p0, p1⟩ := (B2.ext h1).c2; have lp := (B2.ext h1).lt) | (go_at_call 102; (with_reducible refine Calls.mono (NB _) ?_); rintro e w2 ⟨rfl, h⟩))
   replace E := (E.trans h1).trans h
   replace B3 := (B3.ext h1).ext h
   have f0 := B3.frozen 0
   have f1 := B3.frozen 1
   obtain ⟨x0, x1⟩ := B3.c2
   have lx := B3.lt
   have H4 := Qk B3 (.int .i64 0) (.int .i64 0)
   have EF := (E.setCell (p := ⟨b3, 0, none⟩) hbr (.int .i64 0)).setCell (p := ⟨b3, 1, none⟩) hbr (.int .i64 0)
   obtain ⟨y0, y1⟩ := H4.c2
   go_wp2
   refine bodyPost_ret (v := .tuple #[.agg #[.int .i64 0, .int .i64 0], .int .i64 2]) (by simp [results, Tryz.results108, go_sem, y0, y1]) rfl ⟨rfl, EF⟩
  ·simp only [hb] at NB
   replace NC := NC ha hb
   have hr := HV.out
   rw [ha, hb, Bool.and_true, if_pos rfl] at hr
   rw [← hr] at NC
   clear HV hr ha hb
   obtain ⟨⟨Rn, Rd⟩, Re⟩ := R
   go_upto_region 3 with (first | (go_at_call 102; (with_reducible refine Calls.mono (NA _) ?_); rintro e w1 ⟨rfl, h1⟩; clear p0 p1 lp; obtain ⟨p0, p1⟩ := (B2.ext h1).c2; have lp := (B2.ext h1).lt) | (go_at_call 102; (with_reducible refine Calls.mono (NB _) ?_); rintro e w2 ⟨rfl, h⟩))
   have e2 := (E.trans h1).trans h
   replace B3 := (B3.ext h1).ext h
   replace NC := NC w2 (hA.ext e2) (hB.ext e2) (hZ.ext e2)
   replace E := e2
   go_wp2_with (first | (go_at_call 115; (with_reducible refine Calls.mono (NC) ?_); rintro e wt ⟨rfl, ht⟩; replace E := E.trans ht; replace B3 := B3.ext ht; have f0 := B3.frozen 0; have f1 := B3.frozen 1; obtain ⟨x0, x1⟩ := B3.c2; have lx := B3.lt) | (go_at_fn 115; (with_reducible refine Calls.mono (NC) ?_); rintro e wt ⟨rfl, ht⟩; replace E := E.trans ht; replace B3 := B3.ext ht; have f0 := B3.frozen 0; have f1 := B3.frozen 1; obtain ⟨x0, x1⟩ := B3.c2; have lx := B3.lt))
   have H4 := Qk B3 (.int .i64 Rn) (.int .i64 Rd)
   have EF := (E.setCell (p := ⟨b3, 0, none⟩) hbr (.int .i64 Rn)).setCell (p := ⟨b3, 1, none⟩) hbr (.int .i64 Rd)
   obtain ⟨y0, y1⟩ := H4.c2
   go_wp2
   refine bodyPost_ret (v := .tuple #[.agg #[.int .i64 Rn, .int .i64 Rd], .int .i64 Re]) (by simp [results, Tryz.results108, go_sem, y0, y1]) rfl ⟨rfl, EF⟩
theorem Kp (a b : Rt) (hia : a.In) (hib : b.In) (w : World) (hZ : Zv w) :
  Calls Tryz.prog 81 #[.agg #[.int .i64 a.n, .int .i64 a.d], .agg #[.int .i64 b.n, .int .i64 b.d]] w fun e w' => e = .returned (.tuple #[.agg #[.int .i64 (Zt a b).1.n, .int .i64 (Zt a b).1.d], .int .i64 (Zt a b).2]) ∧ Qa w w' := by
 have NC := fun ba bb w h1 h2 z => Bj a b hia hib ba bb w h1 h2 z
 obtain ⟨R, hR0⟩ := Qg (Zt a b)
 rw [← hR0]
 have HR := Lib.hid hR0
 clear hR0
 rw [show Zt a b = R from HR.out.symm] at NC
 clear HR
 go_enter Tryz.func81, Tryz.ntmps81
 go_upto_region 1 with (fail)
 obtain ⟨v, hv⟩ := Qg (((w.alloc (.cells #[.int .i64 a.n, .int .i64 a.d] 73)).alloc (.cells #[.int .i64 b.n, .int .i64 b.d] 73)).alloc (.cells #[.int .i64 0, .int .i64 0] 73))
 rw [← hv]
 have E : Qa w v := by rw [hv]; exact (((Qa.refl _).alloc _).alloc _).alloc _
 have B1 : Qb v w.heap.size 73 #[.int .i64 a.n, .int .i64 a.d] := by rw [hv]; exact ((Qb.new _ _ _).alloc _).alloc _
 have B2 : Qb v (w.heap.size + 1) 73 #[.int .i64 b.n, .int .i64 b.d] := by rw [hv]; exact (Qb.at _ _ _ _ (by simp)).alloc _
 have B3 : Qb v (w.heap.size + 1 + 1) 73 #[.int .i64 0, .int .i64 0] := by rw [hv]; exact Qb.at _ _ _ _ (by simp)
 clear hv
 obtain ⟨b3, hb3⟩ := Qg (w.heap.size + 1 + 1)
 rw [← hb3] at B3 ⊢
 obtain ⟨b2, hb2⟩ := Qg (w.heap.size + 1)
 rw [← hb2] at B2 ⊢
 obtain ⟨b1, hb1⟩ := Qg (w.heap.size)
 rw [← hb1] at B1 ⊢
 have hbr : w.heap.size ≤ b3 := by omega
 have hbr1 : w.heap.size ≤ b1 := by omega
 have hbr2 : w.heap.size ≤ b2 := by omega
 have hn21 : b2 ≠ b1 := by omega
 have hn31 : b3 ≠ b1 := by omega
 have hn32 : b3 ≠ b2 := by omega
 clear hb1 hb2 hb3
 have Z0 := hZ.ext E
 obtain ⟨k0, k1⟩ := B1.c2
 have lk := B1.lt
 obtain ⟨p0, p1⟩ := B2.c2
 have lp := B2.lt
 obtain ⟨⟨Rn, Rd⟩, Re⟩ := R
 go_wp2_with (first | (go_at_call 108; (with_reducible refine Calls.mono (NC _ _ _ B1 B2 Z0) ?_); rintro e wt ⟨rfl, ht⟩; replace E := E.trans ht; replace B3 := B3.ext ht; have f0 := B3.frozen 0; have f1 := B3.frozen 1; obtain ⟨x0, x1⟩ := B3.c2; have lx := B3.lt))
 have H4 := Qk B3 (.int .i64 Rn) (.int .i64 Rd)
 have EF := (E.setCell (p := ⟨b3, 0, none⟩) hbr (.int .i64 Rn)).setCell (p := ⟨b3, 1, none⟩) hbr (.int .i64 Rd)
 obtain ⟨y0, y1⟩ := H4.c2
 go_wp2
 refine bodyPost_ret (v := .tuple #[.agg #[.int .i64 Rn, .int .i64 Rd], .int .i64 Re]) (by simp [results, Tryz.results81, go_sem, y0, y1]) rfl ⟨rfl, EF⟩
theorem Ca (a b : Rt) (hia : a.In) (hib : b.In) (w : World) :
  Calls Tryz.prog 146 #[.agg #[.int .i64 a.n, .int .i64 a.d], .agg #[.int .i64 b.n, .int .i64 b.d]] w fun e w' => e = .returned (.tuple #[.int .i64 (Yx a b).1, .int .i64 (Yx a b).2]) ∧ Qa w w' := by
 have NA := fun w => Wa a.n a.d hia.1 hia.2.1 hia.2.2.1 hia.2.2.2 w
 have NB := fun w => Wa b.n b.d hib.1 hib.2.1 hib.2.2.1 hib.2.2.2 w
 rw [show Rt.ok ⟨a.n, a.d⟩ = a.ok from rfl] at NA
 rw [show Rt.ok ⟨b.n, b.d⟩ = b.ok from rfl] at NB
 have HV : Hid (Yx a b = if a.ok && b.ok then (Wy (a.n * b.d) (b.n * a.d), 0) else (0, 2)) := rfl
 obtain ⟨R, hR0⟩ := Qg (Yx a b)
 rw [← hR0] at HV ⊢
 clear hR0
 cases ha : a.ok
 ·simp only [ha] at NA
  have hr := HV.out
  rw [ha, Bool.false_and, if_neg (by decide)] at hr
  subst hr
  clear HV NB
  go_enter Tryz.func146, Tryz.ntmps146
  go_upto_region 1 with (fail)
  obtain ⟨v, hv⟩ := Qg ((w.alloc (.cells #[.int .i64 a.n, .int .i64 a.d] 73)).alloc (.cells #[.int .i64 b.n, .int .i64 b.d] 73))
  rw [← hv]
  have E : Qa w v := by rw [hv]; exact ((Qa.refl _).alloc _).alloc _
  have B1 : Qb v w.heap.size 73 #[.int .i64 a.n, .int .i64 a.d] := by rw [hv]; exact (Qb.new _ _ _).alloc _
  have B2 : Qb v (w.heap.size + 1) 73 #[.int .i64 b.n, .int .i64 b.d] := by rw [hv]; exact Qb.at _ _ _ _ (by simp)
  clear hv
  obtain ⟨b2, hb2⟩ := Qg (w.heap.size + 1)
  rw [← hb2] at B2 ⊢
  obtain ⟨b1, hb1⟩ := Qg (w.heap.size)
  rw [← hb1] at B1 ⊢
  have hbr : w.heap.size ≤ b2 := by omega
  have hbr1 : w.heap.size ≤ b1 := by omega
  have hn21 : b2 ≠ b1 := by omega
  clear hb1 hb2
  obtain ⟨k0, k1⟩ := B1.c2
  have lk := B1.lt
  obtain ⟨p0, p1⟩ := B2.c2
  have lp := B2.lt
  go_wp2_with (go_at_call 102; (with_reducible refine Calls.mono (NA _) ?_); rintro e w2 ⟨rfl, h⟩)
  go_ret2
  exact ⟨rfl, E.trans h⟩
 ·simp only [ha] at NA
  cases hb : b.ok
  ·simp only [hb] at NB
   have hr := HV.out
   rw [hb, Bool.and_false, if_neg (by decide)] at hr
   subst hr
   clear HV
   go_enter Tryz.func146, Tryz.ntmps146
   go_upto_region 1 with (fail)
   obtain ⟨v, hv⟩ := Qg ((w.alloc (.cells #[.int .i64 a.n, .int .i64 a.d] 73)).alloc (.cells #[.int .i64 b.n, .int .i64 b.d] 73))
   rw [← hv]
   have E : Qa w v := by rw [hv]; exact ((Qa.refl _).alloc _).alloc _
   have B1 : Qb v w.heap.size 73 #[.int .i64 a.n, .int .i64 a.d] := by rw [hv]; exact (Qb.new _ _ _).alloc _
   have B2 : Qb v (w.heap.size + 1) 73 #[.int .i64 b.n, .int .i64 b.d] := by rw [hv]; exact Qb.at _ _ _ _ (by simp)
   clear hv
   obtain ⟨b2, hb2⟩ := Qg (w.heap.size + 1)
   rw [← hb2] at B2 ⊢
   obtain ⟨b1, hb1⟩ := Qg (w.heap.size)
   rw [← hb1] at B1 ⊢
   have hbr : w.heap.size ≤ b2 := by omega
   have hbr1 : w.heap.size ≤ b1 := by omega
   have hn21 : b2 ≠ b1 := by omega
   clear hb1 hb2
   obtain ⟨k0, k1⟩ := B1.c2
   have lk := B1.lt
   obtain ⟨p0, p1⟩ := B2.c2
   have lp := B2.lt
   go_wp2_with (first | (go_at_call 102; (with_reducible refine Calls.mono (NA _) ?_); rintro e w1 ⟨rfl, h1⟩; clear p0 p1 lp; obtain ⟨p0, p1⟩ := (B2.ext h1).c2; have lp := (B2.ext h1).lt) | (go_at_call 102; (with_reducible refine Calls.mono (NB _) ?_); rintro e w2 ⟨rfl, h⟩))
   go_ret2
   exact ⟨rfl, (E.trans h1).trans h⟩
  ·simp only [hb] at NB
   have hr := HV.out
   rw [ha, hb, Bool.and_true, if_pos rfl] at hr
   obtain ⟨m1, m2, _, _⟩ := Xe ha hb
   obtain ⟨m5, m6, _, _⟩ := Xe hb ha
   have v1 : IntKind.i64.wrap (a.n * b.d) = a.n * b.d := Zq (by omega) (by omega)
   have v2 : IntKind.i64.wrap (b.n * a.d) = b.n * a.d := Zq (by omega) (by omega)
   have hc : Hid (R.1 = Wy (a.n * b.d) (b.n * a.d) ∧ R.2 = 0) := ⟨by rw [hr], by rw [hr]⟩
   clear HV hr ha hb hia hib
   generalize hx : a.n * b.d = x at *
   generalize hy : b.n * a.d = y at *
   replace hx := Lib.hid hx
   replace hy := Lib.hid hy
   go_enter Tryz.func146, Tryz.ntmps146
   go_upto_region 1 with (fail)
   obtain ⟨v, hv⟩ := Qg ((w.alloc (.cells #[.int .i64 a.n, .int .i64 a.d] 73)).alloc (.cells #[.int .i64 b.n, .int .i64 b.d] 73))
   rw [← hv]
   have E : Qa w v := by rw [hv]; exact ((Qa.refl _).alloc _).alloc _
   have B1 : Qb v w.heap.size 73 #[.int .i64 a.n, .int .i64 a.d] := by rw [hv]; exact (Qb.new _ _ _).alloc _
   have B2 : Qb v (w.heap.size + 1) 73 #[.int .i64 b.n, .int .i64 b.d] := by rw [hv]; exact Qb.at _ _ _ _ (by simp)
   clear hv
   obtain ⟨b2, hb2⟩ := Qg (w.heap.size + 1)
   rw [← hb2] at B2 ⊢
   obtain ⟨b1, hb1⟩ := Qg (w.heap.size)
   rw [← hb1] at B1 ⊢
   have hbr : w.heap.size ≤ b2 := by omega
   have hbr1 : w.heap.size ≤ b1 := by omega
   have hn21 : b2 ≠ b1 := by omega
   clear hb1 hb2
   obtain ⟨k0, k1⟩ := B1.c2
   have lk := B1.lt
   obtain ⟨p0, p1⟩ := B2.c2
   have lp := B2.lt
   go_upto_region 3 with (first | (go_at_call 102; (with_reducible refine Calls.mono (NA _) ?_); rintro e w1 ⟨rfl, h1⟩; clear p0 p1 lp; obtain ⟨p0, p1⟩ := (B2.ext h1).c2; have lp := (B2.ext h1).lt) | (go_at_call 102; (with_reducible refine Calls.mono (NB _) ?_); rintro e w2 ⟨rfl, h⟩))
   replace E := (E.trans h1).trans h
   replace B1 := (B1.ext h1).ext h
   replace B2 := (B2.ext h1).ext h
   clear k0 k1 lk p0 p1 lp h h1
   obtain ⟨k0, k1⟩ := B1.c2
   have lk := B1.lt
   obtain ⟨p0, p1⟩ := B2.c2
   have lp := B2.lt
   have x1 := hx.out
   have y1 := hy.out
   refine Zd w2 Qo (by kernel_rfl) (by repeat (first | exact Qa.refl _ | (refine Qa.alloc ?_ _) | (refine Qa.trans ?_ (by assumption)))) ?_
   intro hne hrx hry
   try simp only []
   try simp only [List.append_eq, List.cons_append, List.nil_append]
   skip
   repeat (first
    | go_big_quiet_skip
    | (go_big_quiet_want; go_big_quiet_op; go_big_quiet_on))
   clear hne hry hrx
   refine wpQuiet_nil ?_
   intro w3 h3
   obtain ⟨hcw3, hfw3, hzw3⟩ := Qa.rules h3
   try simp only [World.size_alloc] at hzw3
   obtain ⟨hcbw3, hfbw3, hzbw3⟩ := Qa.rules (show Qa w2 w3 from (by repeat (first | exact Qa.refl _ | (refine Qa.alloc ?_ _) | (refine Qa.trans ?_ (by assumption)))))
   clear hcw3 hfw3
   clear x1 y1
   by_cases c1 : x < y
   ·have g1 : decide (x < y) = true := decide_eq_true c1
    have hR : R = (-1, 0) := Prod.ext (by rw [hc.out.1, Wy, if_pos c1]) hc.out.2
    subst hR
    clear c1 hc
    go_wp2
    go_ret2
    exact ⟨rfl, E.trans h3⟩
   ·have g1 : decide (x < y) = false := decide_eq_false c1
    by_cases c2 : y < x
    ·have g2 : decide (y < x) = true := decide_eq_true c2
     have hR : R = (1, 0) := Prod.ext (by rw [hc.out.1, Wy, if_neg c1, if_pos c2]) hc.out.2
     subst hR
     clear c1 c2 hc
     go_wp2
     go_ret2
     exact ⟨rfl, E.trans h3⟩
    ·have g2 : decide (y < x) = false := decide_eq_false c2
     have hR : R = (0, 0) := Prod.ext (by rw [hc.out.1, Wy, if_neg c1, if_neg c2]) hc.out.2
     subst hR
     clear c1 c2 hc
     go_wp2
     go_ret2
     exact ⟨rfl, E.trans h3⟩
theorem Rb (a b : Rt) (hia : a.In) (hib : b.In) (w : World) :
  Calls Tryz.prog 136 #[.agg #[.int .i64 a.n, .int .i64 a.d], .agg #[.int .i64 b.n, .int .i64 b.d]] w fun e w' => e = .returned (.bool (decide ((Yx a b).1 < 0))) ∧ Qa w w' := by
 have NC := fun w => Ca a b hia hib w
 generalize Yx a b = R at *
 obtain ⟨R1, R2⟩ := R
 go_enter Tryz.func136, Tryz.ntmps136
 go_upto_region 1 with (fail)
 obtain ⟨v, hv⟩ := Qg ((w.alloc (.cells #[.int .i64 a.n, .int .i64 a.d] 73)).alloc (.cells #[.int .i64 b.n, .int .i64 b.d] 73))
 rw [← hv]
 have E : Qa w v := by rw [hv]; exact ((Qa.refl _).alloc _).alloc _
 have B1 : Qb v w.heap.size 73 #[.int .i64 a.n, .int .i64 a.d] := by rw [hv]; exact (Qb.new _ _ _).alloc _
 have B2 : Qb v (w.heap.size + 1) 73 #[.int .i64 b.n, .int .i64 b.d] := by rw [hv]; exact Qb.at _ _ _ _ (by simp)
 clear hv
 obtain ⟨b2, hb2⟩ := Qg (w.heap.size + 1)
 rw [← hb2] at B2 ⊢
 obtain ⟨b1, hb1⟩ := Qg (w.heap.size)
 rw [← hb1] at B1 ⊢
 have hbr : w.heap.size ≤ b2 := by omega
 have hbr1 : w.heap.size ≤ b1 := by omega
 have hn21 : b2 ≠ b1 := by omega
 clear hb1 hb2
 obtain ⟨k0, k1⟩ := B1.c2
 have lk := B1.lt
 obtain ⟨p0, p1⟩ := B2.c2
 have lp := B2.lt
 go_wp2_with (go_at_call 146; (with_reducible refine Calls.mono (NC _) ?_); rintro e w2 ⟨rfl, h⟩)
 go_ret
 exact ⟨rfl, E.trans h⟩
end
section
structure Db where
 p : Rt
 i : Rt
 s : Rt
 deriving DecidableEq
structure Zy where
 on : Dt
 n : Rt
structure Ln where
 p : Rt
 r : Rt
 f : Dt
def Jl : Db := ⟨Zb, Zb, Zb⟩
def Zc (c : Qf) (r : Rt) (x : Db) (a b : Dt) : Db × Int :=
 if (Zx x.p r (c.schV a b)).2 ≠ 0 then (x, (Zx x.p r (c.schV a b)).2)
 else if (Q3 x.i (Zx x.p r (c.schV a b)).1).2 ≠ 0 then (x, (Q3 x.i (Zx x.p r (c.schV a b)).1).2)
 else (⟨x.p, (Q3 x.i (Zx x.p r (c.schV a b)).1).1, x.s⟩, 0)
/-- What a payment leaves of a debt, and what is left of it. -/
def Qw (x n : Rt) : (Rt × Rt) × Int := if (Yx n x).1 < 0 then (((Zt x n).1, Zu 0), (Zt x n).2) else ((Zu 0, (Zt n x).1), (Zt n x).2)
def Ju (x : Db) (n : Rt) : Db × Int :=
 if (Qw x.i n).2 ≠ 0 then (x, (Qw x.i n).2)
 else if (Qw x.p (Qw x.i n).1.2).2 ≠ 0 then (x, (Qw x.p (Qw x.i n).1.2).2)
 else if (Q3 x.s (Qw x.p (Qw x.i n).1.2).1.2).2 ≠ 0 then (x, (Q3 x.s (Qw x.p (Qw x.i n).1.2).1.2).2)
 else (⟨(Qw x.p (Qw x.i n).1.2).1.1, (Qw x.i n).1.1, (Q3 x.s (Qw x.p (Qw x.i n).1.2).1.2).1⟩, 0)
def Y7 (c : Qf) (r : Rt) (f : Nat → Zy) (on : Dt) : Nat → Nat → Db → Dt → Db × Int
 | _, 0, x, a => Zc c r x a on
 | i, k + 1, x, a =>
  if c.numV on < c.numV (f i).on then Zc c r x a on
  else if (Zc c r x a (f i).on).2 ≠ 0 then Zc c r x a (f i).on
  else if (Ju (Zc c r x a (f i).on).1 (f i).n).2 ≠ 0 then Ju (Zc c r x a (f i).on).1 (f i).n
  else Y7 c r f on (i + 1) k (Ju (Zc c r x a (f i).on).1 (f i).n).1 (f i).on
def Z5 (l : Ln) (f : Nat → Zy) : Nat → Dt
 | 0 => l.f
 | i + 1 => (f i).on
def Qf.loanOk (c : Qf) (l : Ln) (f : Nat → Zy) (n : Nat) : Bool := l.p.pos && l.r.shr && decide (c.numV l.f ≠ 0) && (List.range n).all fun i => (f i).n.pos && decide (c.numV (Z5 l f i) ≤ c.numV (f i).on)
def Qf.loanE (c : Qf) (l : Ln) (f : Nat → Zy) (n : Nat) : Int := if c.valid then (if 64 < n then 3 else if c.loanOk l f n then 0 else 80) else 70
def start (l : Ln) : Db := ⟨l.p, Zu 0, Zu 0⟩
def Qf.owedV (c : Qf) (l : Ln) (f : Nat → Zy) (n : Nat) (on : Dt) : Db × Int :=
 if c.loanE l f n ≠ 0 then (Jl, c.loanE l f n) else if c.numV on = 0 then (Jl, 71) else if c.numV on < c.numV l.f then (Jl, 8)
 else if (Y7 c l.r f on 0 n (start l) l.f).2 ≠ 0 then (Jl, (Y7 c l.r f on 0 n (start l) l.f).2) else ((Y7 c l.r f on 0 n (start l) l.f).1, 0)
def Qf.settleV (c : Qf) (l : Ln) (f : Nat → Zy) (n : Nat) (on : Dt) : Rt × Int :=
 if (c.owedV l f n on).2 ≠ 0 then (Zb, (c.owedV l f n on).2) else Q3 (c.owedV l f n on).1.p (c.owedV l f n on).1.i
/-! ### Values -/
def Rt.val (r : Rt) : Rat := (r.n : Rat) / (r.d : Rat)
theorem Yz {d : Int} (h : 1 ≤ d) : (0 : Rat) < (d : Rat) := by
 have : (0 : Rat) < ((d : Int) : Rat) := by exact_mod_cast (show (0 : Int) < d by omega)
 exact this
theorem P2 {x : Rt} {N D : Int} (hx : 1 ≤ x.d) (hD : 1 ≤ D) (h : Xb x N D) : x.val = (N : Rat) / (D : Rat) := by
 unfold Xb at h
 have h1 := Yz hx
 have h2 := Yz hD
 have h3 : (x.n : Rat) * (D : Rat) = (N : Rat) * (x.d : Rat) := by exact_mod_cast h
 unfold Rt.val
 have a1 : (x.d : Rat) ≠ 0 := by grind
 have a2 : (D : Rat) ≠ 0 := by grind
 grind
theorem Kr {x y : Rt} (hx : x.ok = true) (hy : y.ok = true) (h : x.val = y.val) : x = y := by
 refine rt_eq hx hy ?_
 have h1 := Yz (Zo hx).1
 have h2 := Yz (Zo hy).1
 unfold Rt.val at h
 have a1 : (x.d : Rat) ≠ 0 := by grind
 have a2 : (y.d : Rat) ≠ 0 := by grind
 have h3 : (x.n : Rat) * (y.d : Rat) = (y.n : Rat) * (x.d : Rat) := by grind
 exact_mod_cast h3
theorem M8 {a b : Rt} (h : (Q3 a b).2 = 0) : (Q3 a b).1.val = a.val + b.val := by
 obtain ⟨ha, hb, ho, hv⟩ := M7 h
 have hd := (Xe ha hb).2.2.1
 rw [P2 (Zo ho).1 hd hv]
 have h1 := Yz (Zo ha).1
 have h2 := Yz (Zo hb).1
 unfold Rt.val
 have a1 : (a.d : Rat) ≠ 0 := by grind
 have a2 : (b.d : Rat) ≠ 0 := by grind
 rw [Rat.intCast_add, Rat.intCast_mul, Rat.intCast_mul, Rat.intCast_mul]
 grind
theorem Ms {a b : Rt} (h : (Zt a b).2 = 0) : (Zt a b).1.val = a.val - b.val := by
 obtain ⟨ha, hb, ho, hv⟩ := Vp h
 have hd := (Xe ha hb).2.2.1
 rw [P2 (Zo ho).1 hd hv]
 have h1 := Yz (Zo ha).1
 have h2 := Yz (Zo hb).1
 unfold Rt.val
 have a1 : (a.d : Rat) ≠ 0 := by grind
 have a2 : (b.d : Rat) ≠ 0 := by grind
 rw [Rat.intCast_sub, Rat.intCast_mul, Rat.intCast_mul, Rat.intCast_mul]
 grind
theorem Qbw (n : Int) : (Zu n).val = (n : Rat) := by
 unfold Rt.val Zu
 show (n : Rat) / ((1 : Int) : Rat) = n
 rw [Rat.intCast_one]
 grind
theorem cmp_lt {a b : Rt} (ha : a.ok = true) (hb : b.ok = true) : (Yx a b).1 < 0 ↔ a.val < b.val := by
 rw [Cb ha hb]
 have h1 := Yz (Zo ha).1
 have h2 := Yz (Zo hb).1
 have e : (a.val < b.val) ↔ a.n * b.d < b.n * a.d := by
  unfold Rt.val
  rw [Rat.div_lt_iff h1, ← Rat.mul_lt_mul_right h2]
  have a2 : (b.d : Rat) ≠ 0 := by grind
  have : (b.n : Rat) / (b.d : Rat) * (a.d : Rat) * (b.d : Rat) = (b.n : Rat) * (a.d : Rat) := by grind
  rw [this]
  constructor
  ·intro h; exact_mod_cast h
  ·intro h; exact_mod_cast h
 rw [e]
 unfold Wy
 simp only
 split
 ·simp_all
 ·split <;> simp_all
end
section
open Go Go.RowKit Go.Shelf
attribute [local go_sem] Zs
section
variable {W : World} {b : Nat} {t : TypeId} {v0 v1 v2 v3 v4 v5 v6 v7 : Value}
theorem Qb.c6 (h : Qb W b t #[v0, v1, v2, v3, v4, v5]) : W.cell? ⟨b, 0, none⟩ = some v0 ∧ W.cell? ⟨b, 1, none⟩ = some v1 ∧ W.cell? ⟨b, 2, none⟩ = some v2 ∧ W.cell? ⟨b, 3, none⟩ = some v3 ∧ W.cell? ⟨b, 4, none⟩ = some v4 ∧ W.cell? ⟨b, 5, none⟩ = some v5 := ⟨h.cell 0, h.cell 1, h.cell 2, h.cell 3, h.cell 4, h.cell 5⟩
theorem Qb.c8 (h : Qb W b t #[v0, v1, v2, v3, v4, v5, v6, v7]) : W.cell? ⟨b, 0, none⟩ = some v0 ∧ W.cell? ⟨b, 1, none⟩ = some v1 ∧ W.cell? ⟨b, 2, none⟩ = some v2 ∧ W.cell? ⟨b, 3, none⟩ = some v3 ∧ W.cell? ⟨b, 4, none⟩ = some v4 ∧ W.cell? ⟨b, 5, none⟩ = some v5 ∧ W.cell? ⟨b, 6, none⟩ = some v6 ∧ W.cell? ⟨b, 7, none⟩ = some v7 := ⟨h.cell 0, h.cell 1, h.cell 2, h.cell 3, h.cell 4, h.cell 5, h.cell 6, h.cell 7⟩
end
def Jy (f : Nat → Zy) (i : Nat) : List Value := [.int .i64 (f i).on.y, .int .i64 (f i).on.m, .bool (f i).on.s, .int .i64 (f i).on.d, .int .i64 (f i).n.n, .int .i64 (f i).n.d]
theorem Ls (A A' : Option Addr) (ca cb : Nat) (c : Qf) (w : World) (hC : Q0 w A ca A' cb c) :
  Calls Tryz.prog 65 #[.agg #[.slice A c.nk ca, .slice A' c.ny cb]] w fun e w' => e = .returned (.tuple #[.agg #[.slice A c.nk ca, .slice A' c.ny cb], .int .i64 c.chk]) ∧ Qa w w' := by
 go_enter Tryz.func65, Tryz.ntmps65
 go_upto_region 1 with (fail)
 obtain ⟨v, hv⟩ := Qg ((w.alloc (.cells #[.slice A c.nk ca, .slice A' c.ny cb] 25)).alloc (.cells #[.slice none 0 0, .slice none 0 0] 61))
 rw [← hv]
 have E : Qa w v := by rw [hv]; exact ((Qa.refl _).alloc _).alloc _
 have B1 : Qb v w.heap.size 25 #[.slice A c.nk ca, .slice A' c.ny cb] := by rw [hv]; exact (Qb.new _ _ _).alloc _
 have B2 : Qb v (w.heap.size + 1) 61 #[.slice none 0 0, .slice none 0 0] := by rw [hv]; exact Qb.at _ _ _ _ (by simp)
 clear hv
 obtain ⟨b2, hb2⟩ := Qg (w.heap.size + 1)
 rw [← hb2] at B2 ⊢
 obtain ⟨b1, hb1⟩ := Qg (w.heap.size)
 rw [← hb1] at B1 ⊢
 have hbr : w.heap.size ≤ b2 := by omega
 have hbr1 : w.heap.size ≤ b1 := by omega
 have hn21 : b2 ≠ b1 := by omega
 clear hb1 hb2
 have C := hC.ext E
 refine Zk 6 [4, 5] (fun x => Qa v x) Qo rfl ?_
 intro vz hvz
 have HC := hvz
 refine Qp (g := 3) [0, 1, 2] [_, _, _] ⟨rfl, rfl, rfl, trivial⟩ (by kernel_rfl) (by kernel_rfl) HC ?_
 simp only [Qc, Qd, Qe]
 apply Exists.intro
 refine ⟨fun u hu => ?_, ?_⟩
 ·obtain ⟨k0, k1⟩ := (B1.ext hu).c2
  have lk := (B1.ext hu).lt
  repeat (first | go_big_quiet_skip | (go_big_quiet_want; go_big_quiet_op; go_big_quiet_on))
  refine wpQuiet_nil ?_
  rfl
 refine Qj 3 rfl (by kernel_rfl) ?_
 simp only [Qc, Qd, Qe]
 go_wp2_with (go_at_call 100; (with_reducible refine Calls.mono (Br A A' ca cb c _ (C.ext HC)) ?_); rintro e va ⟨rfl, h4⟩)
 replace HC := HC.trans h4
 clear h4
 refine Qi HC ?_
 refine Qm 4 rfl (by kernel_rfl) ?_
 simp only [Qc, Qd, Qe]
 replace B2 := B2.ext HC
 replace E := E.trans HC
 have f0 := B2.frozen 0
 have f1 := B2.frozen 1
 obtain ⟨x0, x1⟩ := B2.c2
 have lx := B2.lt
 have H4 := Qk B2 (.slice A c.nk ca) (.slice A' c.ny cb)
 have EF := (E.setCell (p := ⟨b2, 0, none⟩) hbr (.slice A c.nk ca)).setCell (p := ⟨b2, 1, none⟩) hbr (.slice A' c.ny cb)
 obtain ⟨y0, y1⟩ := H4.c2
 go_wp2
 refine Ql ?_
 refine Qm 5 rfl (by kernel_rfl) ?_
 simp only [Qc, Qd, Qe]
 go_wp2
 refine Ql ?_
 refine Qt (by kernel_rfl) ?_
 go_wp2
 refine bodyPost_ret (v := .tuple #[.agg #[.slice A c.nk ca, .slice A' c.ny cb], .int .i64 c.chk]) (by simp [results, Tryz.results65, go_sem, y0, y1]) rfl ⟨rfl, EF⟩
theorem Xk (A A' : Option Addr) (ca cb : Nat) (c : Qf) (d : Dt) (w : World) (hC : Q0 w A ca A' cb c) :
  Calls Tryz.prog 58 #[.agg #[.slice A c.nk ca, .slice A' c.ny cb], .agg #[.int .i64 d.y, .int .i64 d.m, .bool d.s, .int .i64 d.d]] w fun e w' => e = .returned (.int .i64 (c.numV d)) ∧ Qa w w' := by
 have NN := fun w h => Qa5 A A' ca cb c d w h
 go_enter Tryz.func58, Tryz.ntmps58
 go_upto_region 1 with (fail)
 obtain ⟨v, hv⟩ := Qg ((w.alloc (.cells #[.slice A c.nk ca, .slice A' c.ny cb] 61)).alloc (.cells #[.int .i64 d.y, .int .i64 d.m, .bool d.s, .int .i64 d.d] 27))
 rw [← hv]
 have E : Qa w v := by rw [hv]; exact ((Qa.refl _).alloc _).alloc _
 have B1 : Qb v w.heap.size 61 #[.slice A c.nk ca, .slice A' c.ny cb] := by rw [hv]; exact (Qb.new _ _ _).alloc _
 have B2 : Qb v (w.heap.size + 1) 27 #[.int .i64 d.y, .int .i64 d.m, .bool d.s, .int .i64 d.d] := by rw [hv]; exact Qb.at _ _ _ _ (by simp)
 clear hv
 obtain ⟨b2, hb2⟩ := Qg (w.heap.size + 1)
 rw [← hb2] at B2 ⊢
 obtain ⟨b1, hb1⟩ := Qg (w.heap.size)
 rw [← hb1] at B1 ⊢
 have hbr : w.heap.size ≤ b2 := by omega
 have hbr1 : w.heap.size ≤ b1 := by omega
 have hn21 : b2 ≠ b1 := by omega
 clear hb1 hb2
 have C := hC.ext E
 obtain ⟨k0, k1⟩ := B1.c2
 have lk := B1.lt
 obtain ⟨p0, p1, p2, p3⟩ := B2.c4
 have lp := B2.lt
 go_wp2_with (go_at_call 90; (with_reducible refine Calls.mono (NN _ C) ?_); rintro e w2 ⟨rfl, h⟩)
 go_ret
 exact ⟨rfl, E.trans h⟩
theorem Kv (A A' : Option Addr) (ca cb : Nat) (c : Qf) (a b : Dt) (w : World) (hC : Q0 w A ca A' cb c) :
  Calls Tryz.prog 84 #[.agg #[.slice A c.nk ca, .slice A' c.ny cb], .agg #[.int .i64 a.y, .int .i64 a.m, .bool a.s, .int .i64 a.d], .agg #[.int .i64 b.y, .int .i64 b.m, .bool b.s, .int .i64 b.d]] w fun e w' => e = .returned (.int .i64 (c.schV a b)) ∧ Qa w w' := by
 have NN := fun w h => Qb8 A A' ca cb c a b w h
 go_enter Tryz.func84, Tryz.ntmps84
 go_upto_region 1 with (fail)
 obtain ⟨v, hv⟩ := Qg (((w.alloc (.cells #[.slice A c.nk ca, .slice A' c.ny cb] 61)).alloc (.cells #[.int .i64 a.y, .int .i64 a.m, .bool a.s, .int .i64 a.d] 27)).alloc (.cells #[.int .i64 b.y, .int .i64 b.m, .bool b.s, .int .i64 b.d] 27))
 rw [← hv]
 have E : Qa w v := by rw [hv]; exact (((Qa.refl _).alloc _).alloc _).alloc _
 have B1 : Qb v w.heap.size 61 #[.slice A c.nk ca, .slice A' c.ny cb] := by rw [hv]; exact ((Qb.new _ _ _).alloc _).alloc _
 have B2 : Qb v (w.heap.size + 1) 27 #[.int .i64 a.y, .int .i64 a.m, .bool a.s, .int .i64 a.d] := by rw [hv]; exact (Qb.at _ _ _ _ (by simp)).alloc _
 have B3 : Qb v (w.heap.size + 1 + 1) 27 #[.int .i64 b.y, .int .i64 b.m, .bool b.s, .int .i64 b.d] := by rw [hv]; exact Qb.at _ _ _ _ (by simp)
 clear hv
 obtain ⟨b3, hb3⟩ := Qg (w.heap.size + 1 + 1)
 rw [← hb3] at B3 ⊢
 obtain ⟨b2, hb2⟩ := Qg (w.heap.size + 1)
 rw [← hb2] at B2 ⊢
 obtain ⟨b1, hb1⟩ := Qg (w.heap.size)
 rw [← hb1] at B1 ⊢
 have hbr : w.heap.size ≤ b3 := by omega
 have hbr1 : w.heap.size ≤ b1 := by omega
 have hbr2 : w.heap.size ≤ b2 := by omega
 have hn21 : b2 ≠ b1 := by omega
 have hn31 : b3 ≠ b1 := by omega
 have hn32 : b3 ≠ b2 := by omega
 clear hb1 hb2 hb3
 have C := hC.ext E
 obtain ⟨k0, k1⟩ := B1.c2
 have lk := B1.lt
 obtain ⟨p0, p1, p2, p3⟩ := B2.c4
 have lp := B2.lt
 obtain ⟨q0, q1, q2, q3⟩ := B3.c4
 have lq := B3.lt
 go_wp2_with (go_at_call 116; (with_reducible refine Calls.mono (NN _ C) ?_); rintro e w2 ⟨rfl, h⟩)
 go_ret
 exact ⟨rfl, E.trans h⟩
theorem O5 (A A' : Option Addr) (ca cb : Nat) (c : Qf) (a b : Dt) (w : World) (hC : Q0 w A ca A' cb c) :
  Calls Tryz.prog 83 #[.agg #[.slice A c.nk ca, .slice A' c.ny cb], .agg #[.int .i64 a.y, .int .i64 a.m, .bool a.s, .int .i64 a.d], .agg #[.int .i64 b.y, .int .i64 b.m, .bool b.s, .int .i64 b.d]] w fun e w' => e = .returned (.bool (decide (0 < c.numV a) && decide (c.numV a ≤ c.numV b))) ∧ Qa w w' := by
 have N1 := fun w h => Xk A A' ca cb c a w h
 have N2 := fun w h => Xk A A' ca cb c b w h
 generalize c.numV a = x at *
 generalize c.numV b = y at *
 by_cases h0 : 0 < x
 ·have g0 : decide (0 < x) = true := decide_eq_true h0
  go_enter Tryz.func83, Tryz.ntmps83
  go_upto_region 1 with (fail)
  obtain ⟨v, hv⟩ := Qg (((w.alloc (.cells #[.slice A c.nk ca, .slice A' c.ny cb] 61)).alloc (.cells #[.int .i64 a.y, .int .i64 a.m, .bool a.s, .int .i64 a.d] 27)).alloc (.cells #[.int .i64 b.y, .int .i64 b.m, .bool b.s, .int .i64 b.d] 27))
  rw [← hv]
  have E : Qa w v := by rw [hv]; exact (((Qa.refl _).alloc _).alloc _).alloc _
  have B1 : Qb v w.heap.size 61 #[.slice A c.nk ca, .slice A' c.ny cb] := by rw [hv]; exact ((Qb.new _ _ _).alloc _).alloc _
  have B2 : Qb v (w.heap.size + 1) 27 #[.int .i64 a.y, .int .i64 a.m, .bool a.s, .int .i64 a.d] := by rw [hv]; exact (Qb.at _ _ _ _ (by simp)).alloc _
  have B3 : Qb v (w.heap.size + 1 + 1) 27 #[.int .i64 b.y, .int .i64 b.m, .bool b.s, .int .i64 b.d] := by rw [hv]; exact Qb.at _ _ _ _ (by simp)
  clear hv
  obtain ⟨b3, hb3⟩ := Qg (w.heap.size + 1 + 1)
  rw [← hb3] at B3 ⊢
  obtain ⟨b2, hb2⟩ := Qg (w.heap.size + 1)
  rw [← hb2] at B2 ⊢
  obtain ⟨b1, hb1⟩ := Qg (w.heap.size)
  rw [← hb1] at B1 ⊢
  have hbr : w.heap.size ≤ b3 := by omega
  have hbr1 : w.heap.size ≤ b1 := by omega
  have hbr2 : w.heap.size ≤ b2 := by omega
  have hn21 : b2 ≠ b1 := by omega
  have hn31 : b3 ≠ b1 := by omega
  have hn32 : b3 ≠ b2 := by omega
  clear hb1 hb2 hb3
  have C := hC.ext E
  obtain ⟨k0, k1⟩ := B1.c2
  have lk := B1.lt
  obtain ⟨p0, p1, p2, p3⟩ := B2.c4
  have lp := B2.lt
  obtain ⟨q0, q1, q2, q3⟩ := B3.c4
  have lq := B3.lt
  go_wp2_with (first | (go_at_call 58; (with_reducible refine Calls.mono (N1 _ C) ?_); rintro e w1 ⟨rfl, h1⟩; clear k0 k1 lk p0 p1 p2 p3 lp q0 q1 q2 q3 lq; obtain ⟨k0, k1⟩ := (B1.ext h1).c2; have lk := (B1.ext h1).lt; obtain ⟨q0, q1, q2, q3⟩ := (B3.ext h1).c4; have lq := (B3.ext h1).lt) | (go_at_call 58; (with_reducible refine Calls.mono (N2 _ (C.ext h1)) ?_); rintro e w2 ⟨rfl, h2⟩))
  go_ret
  exact ⟨by rw [g0]; rfl, (E.trans h1).trans h2⟩
 ·have g0 : decide (0 < x) = false := decide_eq_false h0
  go_enter Tryz.func83, Tryz.ntmps83
  go_upto_region 1 with (fail)
  obtain ⟨v, hv⟩ := Qg (((w.alloc (.cells #[.slice A c.nk ca, .slice A' c.ny cb] 61)).alloc (.cells #[.int .i64 a.y, .int .i64 a.m, .bool a.s, .int .i64 a.d] 27)).alloc (.cells #[.int .i64 b.y, .int .i64 b.m, .bool b.s, .int .i64 b.d] 27))
  rw [← hv]
  have E : Qa w v := by rw [hv]; exact (((Qa.refl _).alloc _).alloc _).alloc _
  have B1 : Qb v w.heap.size 61 #[.slice A c.nk ca, .slice A' c.ny cb] := by rw [hv]; exact ((Qb.new _ _ _).alloc _).alloc _
  have B2 : Qb v (w.heap.size + 1) 27 #[.int .i64 a.y, .int .i64 a.m, .bool a.s, .int .i64 a.d] := by rw [hv]; exact (Qb.at _ _ _ _ (by simp)).alloc _
  have B3 : Qb v (w.heap.size + 1 + 1) 27 #[.int .i64 b.y, .int .i64 b.m, .bool b.s, .int .i64 b.d] := by rw [hv]; exact Qb.at _ _ _ _ (by simp)
  clear hv
  obtain ⟨b3, hb3⟩ := Qg (w.heap.size + 1 + 1)
  rw [← hb3] at B3 ⊢
  obtain ⟨b2, hb2⟩ := Qg (w.heap.size + 1)
  rw [← hb2] at B2 ⊢
  obtain ⟨b1, hb1⟩ := Qg (w.heap.size)
  rw [← hb1] at B1 ⊢
  have hbr : w.heap.size ≤ b3 := by omega
  have hbr1 : w.heap.size ≤ b1 := by omega
  have hbr2 : w.heap.size ≤ b2 := by omega
  have hn21 : b2 ≠ b1 := by omega
  have hn31 : b3 ≠ b1 := by omega
  have hn32 : b3 ≠ b2 := by omega
  clear hb1 hb2 hb3
  have C := hC.ext E
  obtain ⟨k0, k1⟩ := B1.c2
  have lk := B1.lt
  obtain ⟨p0, p1, p2, p3⟩ := B2.c4
  have lp := B2.lt
  obtain ⟨q0, q1, q2, q3⟩ := B3.c4
  have lq := B3.lt
  go_wp2_with (first | (go_at_call 58; (with_reducible refine Calls.mono (N1 _ C) ?_); rintro e w1 ⟨rfl, h1⟩; clear k0 k1 lk p0 p1 p2 p3 lp q0 q1 q2 q3 lq; obtain ⟨k0, k1⟩ := (B1.ext h1).c2; have lk := (B1.ext h1).lt; obtain ⟨q0, q1, q2, q3⟩ := (B3.ext h1).c4; have lq := (B3.ext h1).lt))
  go_ret
  exact ⟨by rw [g0]; rfl, E.trans h1⟩
theorem I2 (A A' : Option Addr) (ca cb : Nat) (c : Qf) (B : Option Addr) (n cap : Nat) (l : Ln) (f : Nat → Zy) (hp : l.p.In) (hr : l.r.In) (hin : ∀ i, i < n → (f i).n.In) (w : World) (hC : Q0 w A ca A' cb c) (hB : Qn w B n 6 (Jy f)) (hn : n ≤ 9223372036854775807) :
  Calls Tryz.prog 104 #[.agg #[.slice A c.nk ca, .slice A' c.ny cb], .agg #[.int .i64 l.p.n, .int .i64 l.p.d, .int .i64 l.r.n, .int .i64 l.r.d, .int .i64 l.f.y, .int .i64 l.f.m, .bool l.f.s, .int .i64 l.f.d], .slice B n cap] w fun e w' => e = .returned (.bool (c.loanOk l f n)) ∧ Qa w w' := by
 have N0 := fun w h => Xk A A' ca cb c l.f w h
 have NP := fun w => L4 l.p hp w
 have NS := fun w => Ko l.r hr w
 obtain ⟨R, hR0⟩ := Qg (c.loanOk l f n)
 rw [← hR0]
 have HR := Lib.hid hR0
 clear hR0
 go_enter Tryz.func104, Tryz.ntmps104
 go_upto_region 1 with (fail)
 obtain ⟨v, hv⟩ := Qg ((w.alloc (.cells #[.slice A c.nk ca, .slice A' c.ny cb] 61)).alloc (.cells #[.int .i64 l.p.n, .int .i64 l.p.d, .int .i64 l.r.n, .int .i64 l.r.d, .int .i64 l.f.y, .int .i64 l.f.m, .bool l.f.s, .int .i64 l.f.d] 80))
 rw [← hv]
 have E : Qa w v := by rw [hv]; exact ((Qa.refl _).alloc _).alloc _
 have B1 : Qb v w.heap.size 61 #[.slice A c.nk ca, .slice A' c.ny cb] := by rw [hv]; exact (Qb.new _ _ _).alloc _
 have B2 : Qb v (w.heap.size + 1) 80 #[.int .i64 l.p.n, .int .i64 l.p.d, .int .i64 l.r.n, .int .i64 l.r.d, .int .i64 l.f.y, .int .i64 l.f.m, .bool l.f.s, .int .i64 l.f.d] := by rw [hv]; exact Qb.at _ _ _ _ (by simp)
 clear hv
 obtain ⟨b2, hb2⟩ := Qg (w.heap.size + 1)
 rw [← hb2] at B2 ⊢
 obtain ⟨b1, hb1⟩ := Qg (w.heap.size)
 rw [← hb1] at B1 ⊢
 have hbr : w.heap.size ≤ b2 := by omega
 have hbr1 : w.heap.size ≤ b1 := by omega
 have hn21 : b2 ≠ b1 := by omega
 clear hb1 hb2
 have C := hC.ext E
 have RB := hB.ext E
 clear hC hB
 obtain ⟨k0, k1⟩ := B1.c2
 have lk := B1.lt
 obtain ⟨p0, p1, p2, p3, p4, p5, p6, p7⟩ := B2.c8
 have lp := B2.lt
 go_upto_region 2 with (go_at_call 58; (with_reducible refine Calls.mono (N0 _ C) ?_); rintro e w1 ⟨rfl, h⟩)
 replace E := E.trans h
 replace C := C.ext h
 replace RB := RB.ext h
 replace B1 := B1.ext h
 replace B2 := B2.ext h
 clear h k0 k1 lk p0 p1 p2 p3 p4 p5 p6 p7 lp
 obtain ⟨k0, k1⟩ := B1.c2
 have lk := B1.lt
 obtain ⟨p0, p1, p2, p3, p4, p5, p6, p7⟩ := B2.c8
 have lp := B2.lt
 cases g1 : l.p.pos
 ·have hr : R = false := by rw [HR.out]; unfold Qf.loanOk; rw [g1]; rfl
  simp only [g1] at NP
  subst hr
  clear HR g1
  go_wp2_with (go_at_call 75; (with_reducible refine Calls.mono (NP _) ?_); rintro e w2 ⟨rfl, h2⟩; clear p0 p1 p2 p3 p4 p5 p6 p7 lp; obtain ⟨p0, p1, p2, p3, p4, p5, p6, p7⟩ := (B2.ext h2).c8; have lp := (B2.ext h2).lt)
  go_ret
  exact ⟨rfl, E.trans h2⟩
 ·simp only [g1] at NP
  cases g2 : l.r.shr
  ·have hr : R = false := by rw [HR.out]; unfold Qf.loanOk; rw [g2, Bool.and_false]; rfl
   simp only [g2] at NS
   subst hr
   clear HR g1 g2
   go_wp2_with (first | (go_at_call 75; (with_reducible refine Calls.mono (NP _) ?_); rintro e w2 ⟨rfl, h2⟩; clear p0 p1 p2 p3 p4 p5 p6 p7 lp; obtain ⟨p0, p1, p2, p3, p4, p5, p6, p7⟩ := (B2.ext h2).c8; have lp := (B2.ext h2).lt) | (go_at_call 82; (with_reducible refine Calls.mono (NS _) ?_); rintro e w3 ⟨rfl, h3⟩))
   go_ret
   exact ⟨rfl, (E.trans h2).trans h3⟩
  ·simp only [g2] at NS
   by_cases g3 : c.numV l.f = 0
   ·have hr : R = false := by rw [HR.out]; unfold Qf.loanOk; rw [decide_eq_false (fun h => h g3), Bool.and_false]; rfl
    have g4 : (c.numV l.f == 0) = true := by rw [g3]; rfl
    subst hr
    clear HR g1 g2 g3
    generalize c.numV l.f = L0 at *
    go_wp2_with (first | (go_at_call 75; (with_reducible refine Calls.mono (NP _) ?_); rintro e w2 ⟨rfl, h2⟩; clear p0 p1 p2 p3 p4 p5 p6 p7 lp; obtain ⟨p0, p1, p2, p3, p4, p5, p6, p7⟩ := (B2.ext h2).c8; have lp := (B2.ext h2).lt) | (go_at_call 82; (with_reducible refine Calls.mono (NS _) ?_); rintro e w3 ⟨rfl, h3⟩))
    go_ret
    exact ⟨rfl, (E.trans h2).trans h3⟩
   ·have g4 : (c.numV l.f == 0) = false := beq_eq_false_iff_ne.2 g3
    have HR2 : Hid (R = (List.range n).all fun i => (f i).n.pos && decide (c.numV (Z5 l f i) ≤ c.numV (f i).on)) := by
     unfold Hid; rw [HR.out]; unfold Qf.loanOk; rw [g1, g2, decide_eq_true g3]; rfl
    clear HR g1 g2 g3
    go_upto_region 5 with (first | (go_at_call 75; (with_reducible refine Calls.mono (NP _) ?_); rintro e w2 ⟨rfl, h2⟩; clear p0 p1 p2 p3 p4 p5 p6 p7 lp; obtain ⟨p0, p1, p2, p3, p4, p5, p6, p7⟩ := (B2.ext h2).c8; have lp := (B2.ext h2).lt) | (go_at_call 82; (with_reducible refine Calls.mono (NS _) ?_); rintro e w3 ⟨rfl, h3⟩))
    replace E := (E.trans h2).trans h3
    replace C := (C.ext h2).ext h3
    replace RB := (RB.ext h2).ext h3
    replace B1 := (B1.ext h2).ext h3
    clear h2 h3 k0 k1 lk p0 p1 p2 p3 p4 p5 p6 p7 lp B2 NP NS N0 g4
    obtain ⟨vl, rfl⟩ := Qg w3
    go_loopw [7, 31] (fun lv iv wr => ∃ k : Nat, k ≤ n ∧ iv = .int .i64 k ∧ lv = .int .i64 (c.numV (Z5 l f k)) ∧ Hid (∀ j, j < k → ((f j).n.pos && decide (c.numV (Z5 l f j) ≤ c.numV (f j).on)) = true) ∧ Qa vl wr) (fun _ i _ => n - (intOf i).toNat)
    case atStart => exact ⟨0, Nat.zero_le _, rfl, rfl, (fun j h => absurd h (by omega)), Qa.refl _⟩
    case round =>
     obtain ⟨k, hk, rfl, rfl, hall, hE⟩ := hrel
     obtain ⟨wo, rfl⟩ := Qg wr
     by_cases hlt : k < n
     ·obtain ⟨b, off, rfl, hb, hc⟩ := (RB.ext hE) (by omega)
      have c0 : wo.cell? ⟨b, off + k * 6, none⟩ = some (.int .i64 (f k).on.y) := by simpa [Jy] using hc k 0 _ hlt rfl
      have c1 : wo.cell? ⟨b, off + k * 6 + 1, none⟩ = some (.int .i64 (f k).on.m) := by simpa [Jy] using hc k 1 _ hlt rfl
      have c2 : wo.cell? ⟨b, off + k * 6 + 2, none⟩ = some (.bool (f k).on.s) := by simpa [Jy] using hc k 2 _ hlt rfl
      have c3 : wo.cell? ⟨b, off + k * 6 + 3, none⟩ = some (.int .i64 (f k).on.d) := by simpa [Jy] using hc k 3 _ hlt rfl
      have c4 : wo.cell? ⟨b, off + k * 6 + 4, none⟩ = some (.int .i64 (f k).n.n) := by simpa [Jy] using hc k 4 _ hlt rfl
      have c5 : wo.cell? ⟨b, off + k * 6 + 5, none⟩ = some (.int .i64 (f k).n.d) := by simpa [Jy] using hc k 5 _ hlt rfl
      have N1 := fun w h => Xk A A' ca cb c (f k).on w h
      have N2 := fun w => L4 (f k).n (hin k hlt) w
      have hno : Hid (((f k).n.pos && decide (c.numV (Z5 l f k) ≤ c.numV (f k).on)) = false → R = false) := fun h => by
       rw [HR2.out]
       exact List.all_eq_false.2 ⟨k, by simpa using hlt, by rw [h]; decide⟩
      have hyes : Hid (((f k).n.pos && decide (c.numV (Z5 l f k) ≤ c.numV (f k).on)) = true → ∀ j, j < k + 1 → ((f j).n.pos && decide (c.numV (Z5 l f j) ≤ c.numV (f j).on)) = true) := fun h j hj => by
       by_cases e : j = k
       ·subst e; exact h
       ·exact hall.out j (by omega)
      have hlo : Hid (c.numV (Z5 l f (k + 1)) = c.numV (f k).on) := rfl
      clear hc hin hall HR2
      generalize c.numV (Z5 l f k) = L0 at *
      generalize c.numV (f k).on = L1 at *
      generalize (f k).n.pos = pp at *
      go_upto_region 7 with (fail)
      obtain ⟨v3, hv⟩ := Qg (wo.alloc (.cells #[.int .i64 (f k).on.y, .int .i64 (f k).on.m, .bool (f k).on.s, .int .i64 (f k).on.d, .int .i64 (f k).n.n, .int .i64 (f k).n.d] 127))
      rw [← hv]
      have E3 : Qa wo v3 := by rw [hv]; exact (Qa.refl _).alloc _
      have H3 : Qb v3 wo.heap.size 127 #[.int .i64 (f k).on.y, .int .i64 (f k).on.m, .bool (f k).on.s, .int .i64 (f k).on.d, .int .i64 (f k).n.n, .int .i64 (f k).n.d] := by rw [hv]; exact Qb.new _ _ _
      clear hv c0 c1 c2 c3 c4 c5
      replace hE := hE.trans E3
      clear E3
      generalize wo.heap.size = b3 at *
      obtain ⟨q0, q1, q2, q3, q4, q5⟩ := H3.c6
      have lq := H3.lt
      have B1e := B1.ext hE
      obtain ⟨k0, k1⟩ := B1e.c2
      have lk := B1e.lt
      go_upto_region 8 with (go_at_call 58; (with_reducible refine Calls.mono (N1 _ (C.ext hE)) ?_); rintro e w4 ⟨rfl, h4⟩)
      replace hE := hE.trans h4
      replace H3 := H3.ext h4
      clear h4 q0 q1 q2 q3 q4 q5 lq k0 k1 lk B1e N1
      obtain ⟨q0, q1, q2, q3, q4, q5⟩ := H3.c6
      have lq := H3.lt
      cases pp
      ·have hr := hno.out rfl
       subst hr
       clear hno hyes hlo
       go_wp2_with (go_at_call 75; (with_reducible refine Calls.mono (N2 _) ?_); rintro e w5 ⟨rfl, h5⟩)
       go_ret
       exact ⟨rfl, (E.trans hE).trans h5⟩
      ·by_cases hlt2 : L1 < L0
       ·have g1 : decide (L1 < L0) = true := decide_eq_true hlt2
        have hr := hno.out (by rw [decide_eq_false (by omega)]; rfl)
        subst hr
        clear hno hyes hlo hlt2
        go_wp2_with (go_at_call 75; (with_reducible refine Calls.mono (N2 _) ?_); rintro e w5 ⟨rfl, h5⟩)
        go_ret
        exact ⟨rfl, (E.trans hE).trans h5⟩
       ·have g1 : decide (L1 < L0) = false := decide_eq_false hlt2
        have hx := Lib.hid (hyes.out (by rw [decide_eq_true (by omega)]; rfl))
        clear hno hyes hlt2
        go_wp2_with (go_at_call 75; (with_reducible refine Calls.mono (N2 _) ?_); rintro e w5 ⟨rfl, h5⟩)
        exact ⟨⟨k + 1, by omega, by go_num, by rw [hlo.out], hx, hE.trans h5⟩, by simp [intOf]; omega⟩
     ·obtain rfl : k = n := by omega
      have hr : R = true := by
       rw [HR2.out]
       exact List.all_eq_true.2 fun j hj => hall.out j (by simpa using hj)
      clear HR2 hall hin
      subst hr
      go_wp2
      go_ret
      exact ⟨rfl, E.trans hE⟩
theorem Bn (A A' : Option Addr) (ca cb : Nat) (c : Qf) (B : Option Addr) (n cap : Nat) (l : Ln) (f : Nat → Zy) (hp : l.p.In) (hr : l.r.In) (hin : ∀ i, i < n → (f i).n.In) (w : World) (hC : Q0 w A ca A' cb c) (hB : Qn w B n 6 (Jy f)) (hn : n ≤ 9223372036854775807) (hv : c.valid = true) :
  Calls Tryz.prog 76 #[.agg #[.slice A c.nk ca, .slice A' c.ny cb], .agg #[.int .i64 l.p.n, .int .i64 l.p.d, .int .i64 l.r.n, .int .i64 l.r.d, .int .i64 l.f.y, .int .i64 l.f.m, .bool l.f.s, .int .i64 l.f.d], .slice B n cap] w fun e w' => e = .returned (.int .i64 (c.loanE l f n)) ∧ Qa w w' := by
 have NL := fun w h1 h2 => I2 A A' ca cb c B n cap l f hp hr hin w h1 h2 hn
 by_cases h64 : 64 < n
 ·have hr : c.loanE l f n = 3 := by unfold Qf.loanE; rw [if_pos hv, if_pos h64]
  have g1 : decide ((64 : Int) < (n : Int)) = true := decide_eq_true (by omega)
  rw [hr]
  clear hr
  go_enter Tryz.func76, Tryz.ntmps76
  go_wp2
  go_ret
  exact ⟨rfl, (by repeat (first | exact Qa.refl _ | (refine Qa.alloc ?_ _) | (refine Qa.trans ?_ (by assumption))))⟩
 ·have hr : c.loanE l f n = if c.loanOk l f n then 0 else 80 := by unfold Qf.loanE; rw [if_pos hv, if_neg h64]
  have g1 : decide ((64 : Int) < (n : Int)) = false := decide_eq_false (by omega)
  rw [hr]
  clear hr
  cases hk : c.loanOk l f n
  ·simp only [hk] at NL
   clear hk
   go_enter Tryz.func76, Tryz.ntmps76
   go_upto_region 1 with (fail)
   obtain ⟨v, hv⟩ := Qg ((w.alloc (.cells #[.slice A c.nk ca, .slice A' c.ny cb] 61)).alloc (.cells #[.int .i64 l.p.n, .int .i64 l.p.d, .int .i64 l.r.n, .int .i64 l.r.d, .int .i64 l.f.y, .int .i64 l.f.m, .bool l.f.s, .int .i64 l.f.d] 80))
   rw [← hv]
   have E : Qa w v := by rw [hv]; exact ((Qa.refl _).alloc _).alloc _
   have B1 : Qb v w.heap.size 61 #[.slice A c.nk ca, .slice A' c.ny cb] := by rw [hv]; exact (Qb.new _ _ _).alloc _
   have B2 : Qb v (w.heap.size + 1) 80 #[.int .i64 l.p.n, .int .i64 l.p.d, .int .i64 l.r.n, .int .i64 l.r.d, .int .i64 l.f.y, .int .i64 l.f.m, .bool l.f.s, .int .i64 l.f.d] := by rw [hv]; exact Qb.at _ _ _ _ (by simp)
   clear hv
   obtain ⟨b2, hb2⟩ := Qg (w.heap.size + 1)
   rw [← hb2] at B2 ⊢
   obtain ⟨b1, hb1⟩ := Qg (w.heap.size)
   rw [← hb1] at B1 ⊢
   have hbr : w.heap.size ≤ b2 := by omega
   have hbr1 : w.heap.size ≤ b1 := by omega
   have hn21 : b2 ≠ b1 := by omega
   clear hb1 hb2
   obtain ⟨k0, k1⟩ := B1.c2
   have lk := B1.lt
   obtain ⟨p0, p1, p2, p3, p4, p5, p6, p7⟩ := B2.c8
   have lp := B2.lt
   go_wp2_with (go_at_call 104; (with_reducible refine Calls.mono (NL _ (hC.ext E) (hB.ext E)) ?_); rintro e w2 ⟨rfl, h9⟩)
   go_ret
   exact ⟨rfl, E.trans h9⟩
  ·simp only [hk] at NL
   clear hk
   go_enter Tryz.func76, Tryz.ntmps76
   go_upto_region 1 with (fail)
   obtain ⟨v, hv⟩ := Qg ((w.alloc (.cells #[.slice A c.nk ca, .slice A' c.ny cb] 61)).alloc (.cells #[.int .i64 l.p.n, .int .i64 l.p.d, .int .i64 l.r.n, .int .i64 l.r.d, .int .i64 l.f.y, .int .i64 l.f.m, .bool l.f.s, .int .i64 l.f.d] 80))
   rw [← hv]
   have E : Qa w v := by rw [hv]; exact ((Qa.refl _).alloc _).alloc _
   have B1 : Qb v w.heap.size 61 #[.slice A c.nk ca, .slice A' c.ny cb] := by rw [hv]; exact (Qb.new _ _ _).alloc _
   have B2 : Qb v (w.heap.size + 1) 80 #[.int .i64 l.p.n, .int .i64 l.p.d, .int .i64 l.r.n, .int .i64 l.r.d, .int .i64 l.f.y, .int .i64 l.f.m, .bool l.f.s, .int .i64 l.f.d] := by rw [hv]; exact Qb.at _ _ _ _ (by simp)
   clear hv
   obtain ⟨b2, hb2⟩ := Qg (w.heap.size + 1)
   rw [← hb2] at B2 ⊢
   obtain ⟨b1, hb1⟩ := Qg (w.heap.size)
   rw [← hb1] at B1 ⊢
   have hbr : w.heap.size ≤ b2 := by omega
   have hbr1 : w.heap.size ≤ b1 := by omega
   have hn21 : b2 ≠ b1 := by omega
   clear hb1 hb2
   obtain ⟨k0, k1⟩ := B1.c2
   have lk := B1.lt
   obtain ⟨p0, p1, p2, p3, p4, p5, p6, p7⟩ := B2.c8
   have lp := B2.lt
   go_wp2_with (go_at_call 104; (with_reducible refine Calls.mono (NL _ (hC.ext E) (hB.ext E)) ?_); rintro e w2 ⟨rfl, h9⟩)
   go_ret
   exact ⟨rfl, E.trans h9⟩
end
end Go.Proofs.YtneiofnlmblglaaGreatDoor
