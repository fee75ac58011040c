/- SameLots and slices.Equal on any two lists of lots; behind of the program and of the reference. -/
import Derived.Test.YtneiofnlmblglaaGreatDoorQ13
import Derived.Test.YtneiofnlmblglaaGreatDoorCQZm
set_option maxRecDepth 100000
set_option maxHeartbeats 4000000
namespace Go.Proofs.YtneiofnlmblglaaGreatDoor
open Go Go.RowKit Go.Shelf
attribute [local go_sem] Zt
attribute [local go_sem high] Pc
theorem lots_ne_at {l1 l2 : List Lt} {k : Nat} (h : Za l1 k ≠ Za l2 k) : l1 ≠ l2 := fun e => h (by rw [e])
theorem lots_eq_all {l1 l2 : List Lt} (hl : l1.length = l2.length) (h : ∀ k, k < l1.length → Za l1 k = Za l2 k) : l1 = l2 := by
 refine List.ext_getElem hl fun i h1 h2 => ?_
 have := h i h1
 rwa [Lr h1, Lr h2] at this
theorem lt_ext {x y : Lt} (h1 : x.g = y.g) (h2 : x.n = y.n) : x = y := by cases x; cases y; simp_all
theorem num_small {c : Qf} (hv : c.valid = true) (d : Dt) : 0 ≤ c.numV d ∧ c.numV d ≤ 1000000000 := by
 refine ⟨numV_nonneg hv, ?_⟩
 by_cases h : c.numV d = 0
 ·omega
 ·obtain ⟨h1, h2, _⟩ := Ni hv h
  have h3 := (Ru h1).2
  have h4 := (Ua c c.ny).2
  have h5 := ny_400 hv
  omega
theorem sameLotsD_any (v1 v2 : Value) (l1 l2 : List Lt) (w : World) (h1 : Zp w v1 l1) (h2 : Zp w v2 l2) :
  Calls Tryz.prog 13 #[v1, v2] w fun e w' => e = .returned (.bool (decide (l1 = l2))) ∧ Qa w w' := by
 obtain ⟨A, ca, rfl, hA, hca, hca', _⟩ := h1
 obtain ⟨B, cb, rfl, hB, hcb, hcb', _⟩ := h2
 have hn1 : l1.length ≤ 9223372036854775807 := Nat.le_trans hca (Nat.le_trans hca' (by decide))
 have hn2 : l2.length ≤ 9223372036854775807 := Nat.le_trans hcb (Nat.le_trans hcb' (by decide))
 clear hca hca' hcb hcb'
 by_cases hl : l1.length = l2.length
 rotate_left
 ·have hr : decide (l1 = l2) = false := decide_eq_false fun e => hl (by rw [e])
  rw [hr]
  have g1 : ((l1.length : Int) == (l2.length : Int)) = false := beq_eq_false_iff_ne.2 (by omega)
  have g2 : (l1.length == l2.length) = false := beq_eq_false_iff_ne.2 hl
  clear hr hA hB
  generalize l1.length = n1 at *
  generalize l2.length = n2 at *
  go_enter Tryz.func13, Tryz.ntmps13
  go_wp2
  go_ret
  exact ⟨rfl, Qa.refl _⟩
 obtain ⟨R, hR⟩ := Qg (decide (l1 = l2))
 have hno : Hid (∀ k, k < l1.length → Za l1 k ≠ Za l2 k → R = false) := fun _ _ h => by rw [hR]; exact decide_eq_false (lots_ne_at h)
 have hyes : Hid ((∀ k, k < l1.length → Za l1 k = Za l2 k) → R = true) := fun h => by rw [hR]; exact decide_eq_true (lots_eq_all hl h)
 rw [← hR]
 clear hR
 rw [← hl] at hB ⊢
 clear hl hn2
 generalize l1.length = n at *
 generalize Za l1 = f at *
 generalize Za l2 = g at *
 go_enter Tryz.func13, Tryz.ntmps13
 go_upto_region 4 with (fail)
 go_loopw [5] (fun i wr => ∃ k : Nat, k ≤ n ∧ i = .int .i64 k ∧ Hid (∀ j, j < k → f j = g j) ∧ Qa w wr) (fun i _ => n - (intOf i).toNat)
 case atStart => exact ⟨0, Nat.zero_le _, rfl, fun j h => absurd h (by omega), Qa.refl _⟩
 case round =>
  obtain ⟨k, hk, rfl, heq, hE⟩ := hrel
  obtain ⟨wo, rfl⟩ := Qg wr
  by_cases hlt : k < n
  ·obtain ⟨b, off, rfl, hb, hc⟩ := (hA.ext hE) (by omega)
   have c0 : wo.cell? ⟨b, off + k * 2, none⟩ = some (.string (f k).g) := by simpa [Qz] using hc k 0 _ hlt rfl
   have c1 : wo.cell? ⟨b, off + k * 2 + 1, none⟩ = some (.int .i64 (f k).n) := by simpa [Qz] using hc k 1 _ hlt rfl
   clear hc
   obtain ⟨b2, off2, rfl, hb2, hc⟩ := (hB.ext hE) (by omega)
   have d0 : wo.cell? ⟨b2, off2 + k * 2, none⟩ = some (.string (g k).g) := by simpa [Qz] using hc k 0 _ hlt rfl
   have d1 : wo.cell? ⟨b2, off2 + k * 2 + 1, none⟩ = some (.int .i64 (g k).n) := by simpa [Qz] using hc k 1 _ hlt rfl
   clear hc hA hB
   by_cases e : f k = g k
   ·have hall : Hid (∀ j, j < k + 1 → f j = g j) := fun j hj => by
     by_cases e2 : j = k
     ·subst e2; exact e
     ·exact heq.out j (by omega)
    rw [← e] at d0 d1
    clear heq hno hyes e
    generalize (f k).g = s at *
    generalize (f k).n = z at *
    go_upto_region 6 with (fail)
    refine Q8 wo Qm (by kernel_rfl) (by repeat (first | exact Qa.refl _ | (refine Qa.alloc ?_ _) | (refine Qa.trans ?_ (by assumption)))) ?_
    intro hne hrx hry
    try simp only []
    try simp only [List.append_eq, List.cons_append, List.nil_append]
    skip
    repeat (first
     | go_big_quiet_skip
     | (go_big_quiet_want; go_big_quiet_op; go_big_quiet_on))
    clear hne hry hrx
    refine wpQuiet_nil ?_
    intro w2 h2
    obtain ⟨hcw2, hfw2, hzw2⟩ := Qa.rules h2
    try simp only [World.size_alloc] at hzw2
    obtain ⟨hcbw2, hfbw2, hzbw2⟩ := Qa.rules (show Qa wo w2 from (by repeat (first | exact Qa.refl _ | (refine Qa.alloc ?_ _) | (refine Qa.trans ?_ (by assumption)))))
    clear hcw2 hfw2
    go_wp2
    exact ⟨⟨k + 1, by omega, by go_num, hall, hE.trans h2⟩, by simp [intOf]; omega⟩
   ·obtain rfl := hno.out k hlt e
    have hq : (((f k).g.toList == (g k).g.toList) && ((f k).n == (g k).n)) = false := by
     rw [Bool.and_eq_false_iff]
     by_cases e1 : (f k).g = (g k).g
     ·exact .inr (beq_eq_false_iff_ne.2 fun e2 => e (lt_ext e1 e2))
     ·exact .inl (beq_eq_false_iff_ne.2 fun e2 => e1 (Lx e2))
    clear heq hno hyes e
    generalize (f k).g = s at *
    generalize (f k).n = z at *
    generalize (g k).g = s' at *
    generalize (g k).n = z' at *
    generalize hq1 : (s.toList == s'.toList) = q1 at *
    generalize hq2 : (z == z') = q2 at *
    have hq' : (q1 = true → q2 = false) := by cases q1 <;> simp_all
    go_upto_region 6 with (fail)
    refine Q8 wo Qm (by kernel_rfl) (by repeat (first | exact Qa.refl _ | (refine Qa.alloc ?_ _) | (refine Qa.trans ?_ (by assumption)))) ?_
    intro hne hrx hry
    try simp only []
    try simp only [List.append_eq, List.cons_append, List.nil_append]
    skip
    repeat (first
     | go_big_quiet_skip
     | (go_big_quiet_want; go_big_quiet_op; go_big_quiet_on))
    clear hne hry hrx
    refine wpQuiet_nil ?_
    intro w2 h2
    obtain ⟨hcw2, hfw2, hzw2⟩ := Qa.rules h2
    try simp only [World.size_alloc] at hzw2
    obtain ⟨hcbw2, hfbw2, hzbw2⟩ := Qa.rules (show Qa wo w2 from (by repeat (first | exact Qa.refl _ | (refine Qa.alloc ?_ _) | (refine Qa.trans ?_ (by assumption)))))
    clear hcw2 hfw2
    cases q1 <;> cases q2 <;> first | (exact absurd (hq' rfl) (by decide)) | (go_wp2; go_ret; exact ⟨rfl, hE.trans h2⟩)
  ·obtain rfl : k = n := by omega
   obtain rfl := hyes.out heq.out
   go_wp2
   go_ret
   exact ⟨rfl, hE⟩
theorem equalLots_any (v1 v2 : Value) (l1 l2 : List Lt) (w : World) (h1 : Zp w v1 l1) (h2 : Zp w v2 l2) :
  Calls Tryz.prog 63 #[v1, v2] w fun e w' => e = .returned (.bool (decide (l1 = l2))) ∧ Qa w w' := by
 obtain ⟨A, ca, rfl, hA, hca, hca', _⟩ := h1
 obtain ⟨B, cb, rfl, hB, hcb, hcb', _⟩ := h2
 have hn1 : l1.length ≤ 9223372036854775807 := Nat.le_trans hca (Nat.le_trans hca' (by decide))
 have hn2 : l2.length ≤ 9223372036854775807 := Nat.le_trans hcb (Nat.le_trans hcb' (by decide))
 clear hca hca' hcb hcb'
 by_cases hl : l1.length = l2.length
 rotate_left
 ·have hr : decide (l1 = l2) = false := decide_eq_false fun e => hl (by rw [e])
  rw [hr]
  have g1 : ((l1.length : Int) == (l2.length : Int)) = false := beq_eq_false_iff_ne.2 (by omega)
  have g2 : (l1.length == l2.length) = false := beq_eq_false_iff_ne.2 hl
  clear hr hA hB
  generalize l1.length = n1 at *
  generalize l2.length = n2 at *
  go_enter Tryz.func63, Tryz.ntmps63
  go_wp2
  go_ret
  exact ⟨rfl, Qa.refl _⟩
 obtain ⟨R, hR⟩ := Qg (decide (l1 = l2))
 have hno : Hid (∀ k, k < l1.length → Za l1 k ≠ Za l2 k → R = false) := fun _ _ h => by rw [hR]; exact decide_eq_false (lots_ne_at h)
 have hyes : Hid ((∀ k, k < l1.length → Za l1 k = Za l2 k) → R = true) := fun h => by rw [hR]; exact decide_eq_true (lots_eq_all hl h)
 rw [← hR]
 clear hR
 rw [← hl] at hB ⊢
 clear hl hn2
 generalize l1.length = n at *
 generalize Za l1 = f at *
 generalize Za l2 = g at *
 go_enter Tryz.func63, Tryz.ntmps63
 go_upto_region 4 with (fail)
 go_loopw [13] (fun i wr => ∃ k : Nat, k ≤ n ∧ i = .int .i64 k ∧ Hid (∀ j, j < k → f j = g j) ∧ Qa w wr) (fun i _ => n - (intOf i).toNat)
 case atStart => exact ⟨0, Nat.zero_le _, rfl, fun j h => absurd h (by omega), Qa.refl _⟩
 case round =>
  obtain ⟨k, hk, rfl, heq, hE⟩ := hrel
  obtain ⟨wo, rfl⟩ := Qg wr
  by_cases hlt : k < n
  ·obtain ⟨b, off, rfl, hb, hc⟩ := (hA.ext hE) (by omega)
   have c0 : wo.cell? ⟨b, off + k * 2, none⟩ = some (.string (f k).g) := by simpa [Qz] using hc k 0 _ hlt rfl
   have c1 : wo.cell? ⟨b, off + k * 2 + 1, none⟩ = some (.int .i64 (f k).n) := by simpa [Qz] using hc k 1 _ hlt rfl
   clear hc
   obtain ⟨b2, off2, rfl, hb2, hc⟩ := (hB.ext hE) (by omega)
   have d0 : wo.cell? ⟨b2, off2 + k * 2, none⟩ = some (.string (g k).g) := by simpa [Qz] using hc k 0 _ hlt rfl
   have d1 : wo.cell? ⟨b2, off2 + k * 2 + 1, none⟩ = some (.int .i64 (g k).n) := by simpa [Qz] using hc k 1 _ hlt rfl
   clear hc hA hB
   by_cases e : f k = g k
   ·have hall : Hid (∀ j, j < k + 1 → f j = g j) := fun j hj => by
     by_cases e2 : j = k
     ·subst e2; exact e
     ·exact heq.out j (by omega)
    rw [← e] at d0 d1
    clear heq hno hyes e
    generalize (f k).g = s at *
    generalize (f k).n = z at *
    go_upto_region 6 with (fail)
    refine Q8 wo Qm (by kernel_rfl) (by repeat (first | exact Qa.refl _ | (refine Qa.alloc ?_ _) | (refine Qa.trans ?_ (by assumption)))) ?_
    intro hne hrx hry
    try simp only []
    try simp only [List.append_eq, List.cons_append, List.nil_append]
    skip
    repeat (first
     | go_big_quiet_skip
     | (go_big_quiet_want; go_big_quiet_op; go_big_quiet_on))
    clear hne hry hrx
    refine wpQuiet_nil ?_
    intro w2 h2
    obtain ⟨hcw2, hfw2, hzw2⟩ := Qa.rules h2
    try simp only [World.size_alloc] at hzw2
    obtain ⟨hcbw2, hfbw2, hzbw2⟩ := Qa.rules (show Qa wo w2 from (by repeat (first | exact Qa.refl _ | (refine Qa.alloc ?_ _) | (refine Qa.trans ?_ (by assumption)))))
    clear hcw2 hfw2
    go_wp2
    exact ⟨⟨k + 1, by omega, by go_num, hall, hE.trans h2⟩, by simp [intOf]; omega⟩
   ·obtain rfl := hno.out k hlt e
    have hq : (((f k).g.toList == (g k).g.toList) && ((f k).n == (g k).n)) = false := by
     rw [Bool.and_eq_false_iff]
     by_cases e1 : (f k).g = (g k).g
     ·exact .inr (beq_eq_false_iff_ne.2 fun e2 => e (lt_ext e1 e2))
     ·exact .inl (beq_eq_false_iff_ne.2 fun e2 => e1 (Lx e2))
    clear heq hno hyes e
    generalize (f k).g = s at *
    generalize (f k).n = z at *
    generalize (g k).g = s' at *
    generalize (g k).n = z' at *
    generalize hq1 : (s.toList == s'.toList) = q1 at *
    generalize hq2 : (z == z') = q2 at *
    have hq' : (q1 = true → q2 = false) := by cases q1 <;> simp_all
    go_upto_region 6 with (fail)
    refine Q8 wo Qm (by kernel_rfl) (by repeat (first | exact Qa.refl _ | (refine Qa.alloc ?_ _) | (refine Qa.trans ?_ (by assumption)))) ?_
    intro hne hrx hry
    try simp only []
    try simp only [List.append_eq, List.cons_append, List.nil_append]
    skip
    repeat (first
     | go_big_quiet_skip
     | (go_big_quiet_want; go_big_quiet_op; go_big_quiet_on))
    clear hne hry hrx
    refine wpQuiet_nil ?_
    intro w2 h2
    obtain ⟨hcw2, hfw2, hzw2⟩ := Qa.rules h2
    try simp only [World.size_alloc] at hzw2
    obtain ⟨hcbw2, hfbw2, hzbw2⟩ := Qa.rules (show Qa wo w2 from (by repeat (first | exact Qa.refl _ | (refine Qa.alloc ?_ _) | (refine Qa.trans ?_ (by assumption)))))
    clear hcw2 hfw2
    cases q1 <;> cases q2 <;> first | (exact absurd (hq' rfl) (by decide)) | (go_wp2; go_ret; exact ⟨rfl, hE.trans h2⟩)
  ·obtain rfl : k = n := by omega
   obtain rfl := hyes.out heq.out
   go_wp2
   go_ret
   exact ⟨rfl, hE⟩
theorem behind_any (A A' : Option Addr) (ca cb : Nat) (c : Qf) (x y : Pd) (xo xd xc yo yd yc : Value) (w : World) (hC : Qv w A ca A' cb c) (hv : c.valid = true) (hX : Jj w x xo xd xc) (hY : Jj w y yo yd yc) :
  Calls Tryz.prog 48 #[.agg #[.slice A c.nk ca, .slice A' c.ny cb], .agg #[.string x.h, .int .i64 x.a.y, .int .i64 x.a.m, .bool x.a.s, .int .i64 x.a.d, .int .i64 x.b.y, .int .i64 x.b.m, .bool x.b.s, .int .i64 x.b.d, xo, xd, xc], .agg #[.string y.h, .int .i64 y.a.y, .int .i64 y.a.m, .bool y.a.s, .int .i64 y.a.d, .int .i64 y.b.y, .int .i64 y.b.m, .bool y.b.s, .int .i64 y.b.d, yo, yd, yc]] w fun e w' => e = .returned (.bool (c.behV x y)) ∧ Qa w w' := by
 obtain ⟨o1, p1, e1, _⟩ := id hX.o
 subst e1
 obtain ⟨d1, q1, _, e2, _⟩ := id hX.d
 subst e2
 obtain ⟨c1, r1, e3, _⟩ := id hX.c
 subst e3
 obtain ⟨o2, p2, e1, _⟩ := id hY.o
 subst e1
 obtain ⟨d2, q2, _, e2, _⟩ := id hY.d
 subst e2
 obtain ⟨c2, r2, e3, _⟩ := id hY.c
 subst e3
 obtain ⟨R, hR⟩ := Qg (c.behV x y)
 rw [← hR]
 unfold Qf.behV at hR
 replace hR := Lib.hid hR
 have NX := fun w h => Wc A A' ca cb c x.b w h
 have NY := fun w h => Wc A A' ca cb c y.a w h
 have bx := num_small hv x.b
 clear hv hX hY
 go_enter Tryz.func48, Tryz.ntmps48
 go_upto_region 1 with (fail)
 obtain ⟨v, hv⟩ := Qg (((w.alloc (.cells #[.slice A c.nk ca, .slice A' c.ny cb] 61)).alloc (.cells #[.string x.h, .int .i64 x.a.y, .int .i64 x.a.m, .bool x.a.s, .int .i64 x.a.d, .int .i64 x.b.y, .int .i64 x.b.m, .bool x.b.s, .int .i64 x.b.d, .slice o1 x.o.length p1, .slice d1 x.d.length q1, .slice c1 x.c.length r1] 31)).alloc (.cells #[.string y.h, .int .i64 y.a.y, .int .i64 y.a.m, .bool y.a.s, .int .i64 y.a.d, .int .i64 y.b.y, .int .i64 y.b.m, .bool y.b.s, .int .i64 y.b.d, .slice o2 y.o.length p2, .slice d2 y.d.length q2, .slice c2 y.c.length r2] 31))
 rw [← hv]
 have E : Qa w v := by rw [hv]; exact (((Qa.refl _).alloc _).alloc _).alloc _
 have B1 : Qb v w.heap.size 61 #[.slice A c.nk ca, .slice A' c.ny cb] := by rw [hv]; exact ((Qb.new _ _ _).alloc _).alloc _
 have B2 : Qb v (w.heap.size + 1) 31 #[.string x.h, .int .i64 x.a.y, .int .i64 x.a.m, .bool x.a.s, .int .i64 x.a.d, .int .i64 x.b.y, .int .i64 x.b.m, .bool x.b.s, .int .i64 x.b.d, .slice o1 x.o.length p1, .slice d1 x.d.length q1, .slice c1 x.c.length r1] := by rw [hv]; exact (Qb.at _ _ _ _ (by simp)).alloc _
 have B3 : Qb v (w.heap.size + 1 + 1) 31 #[.string y.h, .int .i64 y.a.y, .int .i64 y.a.m, .bool y.a.s, .int .i64 y.a.d, .int .i64 y.b.y, .int .i64 y.b.m, .bool y.b.s, .int .i64 y.b.d, .slice o2 y.o.length p2, .slice d2 y.d.length q2, .slice c2 y.c.length r2] := by rw [hv]; exact Qb.at _ _ _ _ (by simp)
 clear hv
 obtain ⟨b3, hb3⟩ := Qg (w.heap.size + 1 + 1)
 rw [← hb3] at B3 ⊢
 obtain ⟨b2, hb2⟩ := Qg (w.heap.size + 1)
 rw [← hb2] at B2 ⊢
 obtain ⟨b1, hb1⟩ := Qg (w.heap.size)
 rw [← hb1] at B1 ⊢
 have hbr : w.heap.size ≤ b3 := by omega
 have hbr1 : w.heap.size ≤ b1 := by omega
 have hbr2 : w.heap.size ≤ b2 := by omega
 have hn21 : b2 ≠ b1 := by omega
 have hn31 : b3 ≠ b1 := by omega
 have hn32 : b3 ≠ b2 := by omega
 clear hb1 hb2 hb3
 have C := hC.ext E
 clear hC
 obtain ⟨k0, k1⟩ := B1.c2
 have kl := B1.lt
 obtain ⟨x0, x1, x2, x3, x4, x5, x6, x7, x8, x9, x10, x11⟩ := B2.c12
 have xl := B2.lt
 obtain ⟨y0, y1, y2, y3, y4, y5, y6, y7, y8, y9, y10, y11⟩ := B3.c12
 have yl := B3.lt
 generalize c.numV x.b = nx at *
 generalize c.numV y.a = ny at *
 have hd : Hid (decide (ny = nx + 1) = (ny == nx + 1)) := (by unfold Hid; cases h : (ny == nx + 1) <;> simp_all)
 by_cases hh : x.h = y.h
 ·have gh : (x.h.toList == y.h.toList) = true := by rw [hh]; exact beq_self_eq_true _
  have hr : Hid (R = (ny == nx + 1)) := by unfold Hid; rw [hR.out, decide_eq_true hh, Bool.true_and]; exact hd.out
  clear hh hd hR
  refine Q8 v Qm (by kernel_rfl) (by repeat (first | exact Qa.refl _ | (refine Qa.alloc ?_ _) | (refine Qa.trans ?_ (by assumption)))) ?_
  intro hne hrx hry
  try simp only []
  try simp only [List.append_eq, List.cons_append, List.nil_append]
  skip
  repeat (first
   | go_big_quiet_skip
   | (go_big_quiet_want; go_big_quiet_op; go_big_quiet_on)
   | (go_big_quiet_want; go_big_quiet_op; apply Exists.intro; refine ⟨fun u => ?_, ?_⟩
      ·first
        | (go_at_call 58; (with_reducible refine Calls.mono (NX _ (C.ext u.e)) ?_); rintro e w' ⟨rfl, hb⟩; exact ⟨rfl, u.back hb⟩)
        | (go_at_call 58; (with_reducible refine Calls.mono (NY _ (C.ext u.e)) ?_); rintro e w' ⟨rfl, hb⟩; exact ⟨rfl, u.back hb⟩)
      go_big_quiet_on))
  clear hne hry hrx
  refine wpQuiet_nil ?_
  intro w2 h2
  obtain ⟨hcw2, hfw2, hzw2⟩ := Qa.rules h2
  try simp only [World.size_alloc] at hzw2
  obtain ⟨hcbw2, hfbw2, hzbw2⟩ := Qa.rules (show Qa v w2 from (by repeat (first | exact Qa.refl _ | (refine Qa.alloc ?_ _) | (refine Qa.trans ?_ (by assumption)))))
  clear hcw2 hfw2
  go_wp2
  go_ret
  exact ⟨by rw [hr.out]; rfl, E.trans h2⟩
 ·have gh : (x.h.toList == y.h.toList) = false := beq_eq_false_iff_ne.2 fun h => hh (Lx h)
  have hr : Hid (R = false) := by unfold Hid; rw [hR.out, decide_eq_false hh]; rfl
  clear hh hd hR
  refine Q8 v Qm (by kernel_rfl) (by repeat (first | exact Qa.refl _ | (refine Qa.alloc ?_ _) | (refine Qa.trans ?_ (by assumption)))) ?_
  intro hne hrx hry
  try simp only []
  try simp only [List.append_eq, List.cons_append, List.nil_append]
  skip
  repeat (first
   | go_big_quiet_skip
   | (go_big_quiet_want; go_big_quiet_op; go_big_quiet_on)
   | (go_big_quiet_want; go_big_quiet_op; apply Exists.intro; refine ⟨fun u => ?_, ?_⟩
      ·first
        | (go_at_call 58; (with_reducible refine Calls.mono (NX _ (C.ext u.e)) ?_); rintro e w' ⟨rfl, hb⟩; exact ⟨rfl, u.back hb⟩)
        | (go_at_call 58; (with_reducible refine Calls.mono (NY _ (C.ext u.e)) ?_); rintro e w' ⟨rfl, hb⟩; exact ⟨rfl, u.back hb⟩)
      go_big_quiet_on))
  clear hne hry hrx
  refine wpQuiet_nil ?_
  intro w2 h2
  obtain ⟨hcw2, hfw2, hzw2⟩ := Qa.rules h2
  try simp only [World.size_alloc] at hzw2
  obtain ⟨hcbw2, hfbw2, hzbw2⟩ := Qa.rules (show Qa v w2 from (by repeat (first | exact Qa.refl _ | (refine Qa.alloc ?_ _) | (refine Qa.trans ?_ (by assumption)))))
  clear hcw2 hfw2
  go_wp2
  go_ret
  exact ⟨by rw [hr.out]; rfl, E.trans h2⟩
theorem behindR_any (A A' : Option Addr) (ca cb : Nat) (c : Qf) (x y : Pd) (xo xd xc yo yd yc : Value) (w : World) (hC : Qv w A ca A' cb c) (hv : c.valid = true) (hX : Jj w x xo xd xc) (hY : Jj w y yo yd yc) :
  Calls Tryz.prog 51 #[.agg #[.slice A c.nk ca, .slice A' c.ny cb], .agg #[.string x.h, .int .i64 x.a.y, .int .i64 x.a.m, .bool x.a.s, .int .i64 x.a.d, .int .i64 x.b.y, .int .i64 x.b.m, .bool x.b.s, .int .i64 x.b.d, xo, xd, xc], .agg #[.string y.h, .int .i64 y.a.y, .int .i64 y.a.m, .bool y.a.s, .int .i64 y.a.d, .int .i64 y.b.y, .int .i64 y.b.m, .bool y.b.s, .int .i64 y.b.d, yo, yd, yc]] w fun e w' => e = .returned (.bool (c.behV x y)) ∧ Qa w w' := by
 obtain ⟨o1, p1, e1, _⟩ := id hX.o
 subst e1
 obtain ⟨d1, q1, _, e2, _⟩ := id hX.d
 subst e2
 obtain ⟨c1, r1, e3, _⟩ := id hX.c
 subst e3
 obtain ⟨o2, p2, e1, _⟩ := id hY.o
 subst e1
 obtain ⟨d2, q2, _, e2, _⟩ := id hY.d
 subst e2
 obtain ⟨c2, r2, e3, _⟩ := id hY.c
 subst e3
 obtain ⟨R, hR⟩ := Qg (c.behV x y)
 rw [← hR]
 unfold Qf.behV at hR
 replace hR := Lib.hid hR
 have NX := fun w h => Gm A A' ca cb c x.b w h hv
 have NY := fun w h => Gm A A' ca cb c y.a w h hv
 have bx := num_small hv x.b
 clear hv hX hY
 go_enter Tryz.func51, Tryz.ntmps51
 go_upto_region 1 with (fail)
 obtain ⟨v, hv⟩ := Qg (((w.alloc (.cells #[.slice A c.nk ca, .slice A' c.ny cb] 25)).alloc (.cells #[.string x.h, .int .i64 x.a.y, .int .i64 x.a.m, .bool x.a.s, .int .i64 x.a.d, .int .i64 x.b.y, .int .i64 x.b.m, .bool x.b.s, .int .i64 x.b.d, .slice o1 x.o.length p1, .slice d1 x.d.length q1, .slice c1 x.c.length r1] 31)).alloc (.cells #[.string y.h, .int .i64 y.a.y, .int .i64 y.a.m, .bool y.a.s, .int .i64 y.a.d, .int .i64 y.b.y, .int .i64 y.b.m, .bool y.b.s, .int .i64 y.b.d, .slice o2 y.o.length p2, .slice d2 y.d.length q2, .slice c2 y.c.length r2] 31))
 rw [← hv]
 have E : Qa w v := by rw [hv]; exact (((Qa.refl _).alloc _).alloc _).alloc _
 have B1 : Qb v w.heap.size 25 #[.slice A c.nk ca, .slice A' c.ny cb] := by rw [hv]; exact ((Qb.new _ _ _).alloc _).alloc _
 have B2 : Qb v (w.heap.size + 1) 31 #[.string x.h, .int .i64 x.a.y, .int .i64 x.a.m, .bool x.a.s, .int .i64 x.a.d, .int .i64 x.b.y, .int .i64 x.b.m, .bool x.b.s, .int .i64 x.b.d, .slice o1 x.o.length p1, .slice d1 x.d.length q1, .slice c1 x.c.length r1] := by rw [hv]; exact (Qb.at _ _ _ _ (by simp)).alloc _
 have B3 : Qb v (w.heap.size + 1 + 1) 31 #[.string y.h, .int .i64 y.a.y, .int .i64 y.a.m, .bool y.a.s, .int .i64 y.a.d, .int .i64 y.b.y, .int .i64 y.b.m, .bool y.b.s, .int .i64 y.b.d, .slice o2 y.o.length p2, .slice d2 y.d.length q2, .slice c2 y.c.length r2] := by rw [hv]; exact Qb.at _ _ _ _ (by simp)
 clear hv
 obtain ⟨b3, hb3⟩ := Qg (w.heap.size + 1 + 1)
 rw [← hb3] at B3 ⊢
 obtain ⟨b2, hb2⟩ := Qg (w.heap.size + 1)
 rw [← hb2] at B2 ⊢
 obtain ⟨b1, hb1⟩ := Qg (w.heap.size)
 rw [← hb1] at B1 ⊢
 have hbr : w.heap.size ≤ b3 := by omega
 have hbr1 : w.heap.size ≤ b1 := by omega
 have hbr2 : w.heap.size ≤ b2 := by omega
 have hn21 : b2 ≠ b1 := by omega
 have hn31 : b3 ≠ b1 := by omega
 have hn32 : b3 ≠ b2 := by omega
 clear hb1 hb2 hb3
 have C := hC.ext E
 clear hC
 obtain ⟨k0, k1⟩ := B1.c2
 have kl := B1.lt
 obtain ⟨x0, x1, x2, x3, x4, x5, x6, x7, x8, x9, x10, x11⟩ := B2.c12
 have xl := B2.lt
 obtain ⟨y0, y1, y2, y3, y4, y5, y6, y7, y8, y9, y10, y11⟩ := B3.c12
 have yl := B3.lt
 generalize c.numV x.b = nx at *
 generalize c.numV y.a = ny at *
 have hd : Hid (decide (ny = nx + 1) = (ny == nx + 1)) := (by unfold Hid; cases h : (ny == nx + 1) <;> simp_all)
 by_cases hh : x.h = y.h
 ·have gh : (x.h.toList == y.h.toList) = true := by rw [hh]; exact beq_self_eq_true _
  have hr : Hid (R = (ny == nx + 1)) := by unfold Hid; rw [hR.out, decide_eq_true hh, Bool.true_and]; exact hd.out
  clear hh hd hR
  refine Q8 v Qm (by kernel_rfl) (by repeat (first | exact Qa.refl _ | (refine Qa.alloc ?_ _) | (refine Qa.trans ?_ (by assumption)))) ?_
  intro hne hrx hry
  try simp only []
  try simp only [List.append_eq, List.cons_append, List.nil_append]
  skip
  repeat (first
   | go_big_quiet_skip
   | (go_big_quiet_want; go_big_quiet_op; go_big_quiet_on)
   | (go_big_quiet_want; go_big_quiet_op; apply Exists.intro; refine ⟨fun u => ?_, ?_⟩
      ·first
        | (go_at_call 60; (with_reducible refine Calls.mono (NX _ (C.ext u.e)) ?_); rintro e w' ⟨rfl, hb⟩; exact ⟨rfl, u.back hb⟩)
        | (go_at_call 60; (with_reducible refine Calls.mono (NY _ (C.ext u.e)) ?_); rintro e w' ⟨rfl, hb⟩; exact ⟨rfl, u.back hb⟩)
      go_big_quiet_on))
  clear hne hry hrx
  refine wpQuiet_nil ?_
  intro w2 h2
  obtain ⟨hcw2, hfw2, hzw2⟩ := Qa.rules h2
  try simp only [World.size_alloc] at hzw2
  obtain ⟨hcbw2, hfbw2, hzbw2⟩ := Qa.rules (show Qa v w2 from (by repeat (first | exact Qa.refl _ | (refine Qa.alloc ?_ _) | (refine Qa.trans ?_ (by assumption)))))
  clear hcw2 hfw2
  go_wp2
  go_ret
  exact ⟨by rw [hr.out]; rfl, E.trans h2⟩
 ·have gh : (x.h.toList == y.h.toList) = false := beq_eq_false_iff_ne.2 fun h => hh (Lx h)
  have hr : Hid (R = false) := by unfold Hid; rw [hR.out, decide_eq_false hh]; rfl
  clear hh hd hR
  refine Q8 v Qm (by kernel_rfl) (by repeat (first | exact Qa.refl _ | (refine Qa.alloc ?_ _) | (refine Qa.trans ?_ (by assumption)))) ?_
  intro hne hrx hry
  try simp only []
  try simp only [List.append_eq, List.cons_append, List.nil_append]
  skip
  repeat (first
   | go_big_quiet_skip
   | (go_big_quiet_want; go_big_quiet_op; go_big_quiet_on)
   | (go_big_quiet_want; go_big_quiet_op; apply Exists.intro; refine ⟨fun u => ?_, ?_⟩
      ·first
        | (go_at_call 60; (with_reducible refine Calls.mono (NX _ (C.ext u.e)) ?_); rintro e w' ⟨rfl, hb⟩; exact ⟨rfl, u.back hb⟩)
        | (go_at_call 60; (with_reducible refine Calls.mono (NY _ (C.ext u.e)) ?_); rintro e w' ⟨rfl, hb⟩; exact ⟨rfl, u.back hb⟩)
      go_big_quiet_on))
  clear hne hry hrx
  refine wpQuiet_nil ?_
  intro w2 h2
  obtain ⟨hcw2, hfw2, hzw2⟩ := Qa.rules h2
  try simp only [World.size_alloc] at hzw2
  obtain ⟨hcbw2, hfbw2, hzbw2⟩ := Qa.rules (show Qa v w2 from (by repeat (first | exact Qa.refl _ | (refine Qa.alloc ?_ _) | (refine Qa.trans ?_ (by assumption)))))
  clear hcw2 hfw2
  go_wp2
  go_ret
  exact ⟨by rw [hr.out]; rfl, E.trans h2⟩
end Go.Proofs.YtneiofnlmblglaaGreatDoor