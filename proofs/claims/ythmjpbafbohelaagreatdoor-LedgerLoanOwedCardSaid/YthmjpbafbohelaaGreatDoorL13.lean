/- Walks of the program's functions and plain facts, packed; proved: the lemmas below; no conditions but those that each states. -/
import Derived.Test.YthmjpbafbohelaaGreatDoorL12
import Derived.Test.YthmjpbafbohelaaGreatDoorL8
import Derived.Sort.Walk0
import Derived.Laws.StructEq
import Derived.Test.YthmjpbafbohelaaGreatDoorL3
import Derived.Test.YthmjpbafbohelaaGreatDoorL1
set_option maxRecDepth 100000
set_option maxHeartbeats 4000000
namespace Go.Proofs.YthmjpbafbohelaaGreatDoor
open Go Go.RowKit Go.Shelf
attribute [local go_sem] gv_yes
theorem db0_in : db0.In := ⟨rat0_in, rat0_in, rat0_in⟩
theorem accI_in (x : Db) (r : Rt) (k : Int) : (accI x r k).1.In := by
 unfold accI
 split
 ·exact rat0_in
 ·exact addR_in _ _
theorem paidX_in (x : Db) (n : Rt) : (paidX x n).1.In := by
 unfold paidX
 split
 ·exact db0_in
 ·split
  ·exact db0_in
  ·exact ⟨(pay_in _ _).1, (pay_in _ _).1, addR_in _ _⟩
theorem run_last {c : Cal} {r : Rt} {f : Nat → Pay} {on : Dt} {k n : Nat} {x : Db} {a : Dt} (h : k = n ∨ k < n ∧ c.numV on < c.numV (f k).on) :
  runK c r f on k (n - k) x a = if (accI x r (c.schV a on)).2 ≠ 0 then (db0, (accI x r (c.schV a on)).2) else (⟨x.p, (accI x r (c.schV a on)).1, x.s⟩, 0) := by
 rw [← nrm_acc]
 rcases h with rfl | ⟨h1, h2⟩
 ·rw [Nat.sub_self]; exact runK_zero _ _ _ _ _ _ _
 ·obtain ⟨m, hm⟩ : ∃ m, n - k = m + 1 := ⟨n - k - 1, by omega⟩
  rw [hm]; exact runK_stop h2
theorem run_pay {c : Cal} {r : Rt} {f : Nat → Pay} {on : Dt} {k n : Nat} {x : Db} {a : Dt} (h1 : k < n) (h2 : ¬ c.numV on < c.numV (f k).on) :
  runK c r f on k (n - k) x a = if (accI x r (c.schV a (f k).on)).2 ≠ 0 then (db0, (accI x r (c.schV a (f k).on)).2) else
   if (paidX ⟨x.p, (accI x r (c.schV a (f k).on)).1, x.s⟩ (f k).n).2 ≠ 0 then (db0, (paidX ⟨x.p, (accI x r (c.schV a (f k).on)).1, x.s⟩ (f k).n).2)
   else runK c r f on (k + 1) (n - (k + 1)) (paidX ⟨x.p, (accI x r (c.schV a (f k).on)).1, x.s⟩ (f k).n).1 (f k).on := by
 obtain ⟨m, hm⟩ : ∃ m, n - k = m + 1 := ⟨n - k - 1, by omega⟩
 have hm2 : n - (k + 1) = m := by omega
 rw [hm, hm2]
 by_cases h : (accV c r x a (f k).on).2 ≠ 0
 ·rw [runK_err h2 h, acc_err, if_pos (by rw [← acc_err]; exact h)]
 ·have h0 : (accV c r x a (f k).on).2 = 0 := Decidable.not_not.1 h
  have h1' : ¬ (accI x r (c.schV a (f k).on)).2 ≠ 0 := by rw [← acc_err]; exact h
  rw [runK_go h2 h0, acc_val h0, rest0_paid, if_neg h1']
theorem owedR_any (A A' : Option Addr) (ca cb : Nat) (c : Cal) (B : Option Addr) (n cap : Nat) (l : Ln) (f : Nat → Pay) (hp : l.p.In) (hr : l.r.In) (hin : ∀ i, i < n → (f i).n.In) (w : World) (hC : CalAt w A ca A' cb c) (hB : RowsAt w B n 6 (payr f)) (hn : n ≤ 9223372036854775807) (on : Dt) :
  Calls Tryz.prog 27 #[.agg #[.slice A c.nk ca, .slice A' c.ny cb], .agg #[.int .i64 l.p.n, .int .i64 l.p.d, .int .i64 l.r.n, .int .i64 l.r.d, .int .i64 l.f.y, .int .i64 l.f.m, .bool l.f.s, .int .i64 l.f.d], .slice B n cap, .agg #[.int .i64 on.y, .int .i64 on.m, .bool on.s, .int .i64 on.d]] w fun e w' => e = .returned (.tuple #[.agg #[.int .i64 (c.owedV l f n on).1.p.n, .int .i64 (c.owedV l f n on).1.p.d, .int .i64 (c.owedV l f n on).1.i.n, .int .i64 (c.owedV l f n on).1.i.d, .int .i64 (c.owedV l f n on).1.s.n, .int .i64 (c.owedV l f n on).1.s.d], .int .i64 (c.owedV l f n on).2]) ∧ Ext w w' := by
 have NC := fun v h1 h2 => checkLoanR_any A A' ca cb c B n cap l f hp hr hin v h1 h2 hn
 have NDo := fun v (h : CalAt v A ca A' cb c) (hv : c.valid = true) => dayR_any A A' ca cb c on v h hv
 have NIo := fun v (h : CalAt v A ca A' cb c) (hv : c.valid = true) => inOrderR_any A A' ca cb c l.f on v h hv
 obtain ⟨R, hR0⟩ := zgE (c.owedV l f n on)
 rw [← hR0]
 have HR := Lib.hid hR0
 clear hR0
 go_enter Tryz.func27, Tryz.ntmps27
 go_upto_region 1 with (fail)
 obtain ⟨v, hv⟩ := zgE ((((w.alloc (.cells #[.slice A c.nk ca, .slice A' c.ny cb] 34)).alloc (.cells #[.int .i64 l.p.n, .int .i64 l.p.d, .int .i64 l.r.n, .int .i64 l.r.d, .int .i64 l.f.y, .int .i64 l.f.m, .bool l.f.s, .int .i64 l.f.d] 54)).alloc (.cells #[.int .i64 on.y, .int .i64 on.m, .bool on.s, .int .i64 on.d] 37)).alloc (.cells #[.int .i64 0, .int .i64 0, .int .i64 0, .int .i64 0, .int .i64 0, .int .i64 0] 60))
 rw [← hv]
 have E : Ext w v := by rw [hv]; exact ((((Ext.refl _).alloc _).alloc _).alloc _).alloc _
 have B1 : Held v w.heap.size 34 #[.slice A c.nk ca, .slice A' c.ny cb] := by rw [hv]; exact (((Held.new _ _ _).alloc _).alloc _).alloc _
 have B2 : Held v (w.heap.size + 1) 54 #[.int .i64 l.p.n, .int .i64 l.p.d, .int .i64 l.r.n, .int .i64 l.r.d, .int .i64 l.f.y, .int .i64 l.f.m, .bool l.f.s, .int .i64 l.f.d] := by rw [hv]; exact ((Held.at _ _ _ _ (by simp)).alloc _).alloc _
 have B3 : Held v (w.heap.size + 1 + 1) 37 #[.int .i64 on.y, .int .i64 on.m, .bool on.s, .int .i64 on.d] := by rw [hv]; exact (Held.at _ _ _ _ (by simp)).alloc _
 have B4 : Held v (w.heap.size + 1 + 1 + 1) 60 #[.int .i64 0, .int .i64 0, .int .i64 0, .int .i64 0, .int .i64 0, .int .i64 0] := by rw [hv]; exact Held.at _ _ _ _ (by simp)
 clear hv
 obtain ⟨b4, hb4⟩ := zgE (w.heap.size + 1 + 1 + 1)
 rw [← hb4] at B4 ⊢
 obtain ⟨b3, hb3⟩ := zgE (w.heap.size + 1 + 1)
 rw [← hb3] at B3 ⊢
 obtain ⟨b2, hb2⟩ := zgE (w.heap.size + 1)
 rw [← hb2] at B2 ⊢
 obtain ⟨b1, hb1⟩ := zgE (w.heap.size)
 rw [← hb1] at B1 ⊢
 have hbr : w.heap.size ≤ b4 := by omega
 have hbr1 : w.heap.size ≤ b1 := by omega
 have hbr2 : w.heap.size ≤ b2 := by omega
 have hbr3 : w.heap.size ≤ b3 := by omega
 have hn21 : b2 ≠ b1 := by omega
 have hn31 : b3 ≠ b1 := by omega
 have hn32 : b3 ≠ b2 := by omega
 have hn41 : b4 ≠ b1 := by omega
 have hn42 : b4 ≠ b2 := by omega
 have hn43 : b4 ≠ b3 := by omega
 clear hb1 hb2 hb3 hb4
 have C := hC.ext E
 have RB := hB.ext E
 clear hC hB
 obtain ⟨k0, k1⟩ := B1.c2
 have kl := B1.lt
 obtain ⟨p0, p1, p2, p3, p4, p5, p6, p7⟩ := B2.c8
 have pl := B2.lt
 obtain ⟨q0, q1, q2, q3⟩ := B3.c4
 have ql := B3.lt
 by_cases hle : c.loanE l f n = 0
 rotate_left
 ·have hr : R = (db0, c.loanE l f n) := by rw [HR.out]; unfold Cal.owedV; rw [if_pos hle]
  subst hr
  have gle : (c.loanE l f n == 0) = false := beq_eq_false_iff_ne.2 hle
  have glen : (c.loanE l f n != 0) = true := by rw [bne, gle]; rfl
  clear HR hle NDo NIo
  go_upto_region 2 with (go_at_call 29; (with_reducible refine Calls.mono (NC _ C RB) ?_); rintro e w1 ⟨rfl, hx⟩; replace E := E.trans hx; replace C := C.ext hx; replace RB := RB.ext hx; replace B4 := B4.ext hx; replace B1 := B1.ext hx; replace B2 := B2.ext hx; replace B3 := B3.ext hx; clear hx; clear k0 k1 kl p0 p1 p2 p3 p4 p5 p6 p7 pl q0 q1 q2 q3 ql; obtain ⟨k0, k1⟩ := B1.c2; have kl := B1.lt; obtain ⟨p0, p1, p2, p3, p4, p5, p6, p7⟩ := B2.c8; have pl := B2.lt; obtain ⟨q0, q1, q2, q3⟩ := B3.c4; have ql := B3.lt)
  obtain ⟨x0', x1', x2', x3', x4', x5'⟩ := B4.c6
  have lx' := B4.lt
  have f0' := B4.frozen 0
  have f1' := B4.frozen 1
  have f2' := B4.frozen 2
  have f3' := B4.frozen 3
  have f4' := B4.frozen 4
  have f5' := B4.frozen 5
  have H9 := held6_all B4 (.int .i64 0) (.int .i64 0) (.int .i64 0) (.int .i64 0) (.int .i64 0) (.int .i64 0)
  have EF := ext6 E hbr (.int .i64 0) (.int .i64 0) (.int .i64 0) (.int .i64 0) (.int .i64 0) (.int .i64 0)
  obtain ⟨y0, y1, y2, y3, y4, y5⟩ := H9.c6
  go_wp2
  refine bodyPost_ret (v := .tuple #[.agg #[.int .i64 0, .int .i64 0, .int .i64 0, .int .i64 0, .int .i64 0, .int .i64 0], .int .i64 (c.loanE l f n)]) (by simp [results, Tryz.results27, go_sem, y0, y1, y2, y3, y4, y5]) rfl ⟨rfl, EF⟩
 rw [hle] at NC
 obtain ⟨hv, _, hlok⟩ := loanE_ok hle
 have hsrt := loan_sorted hv hlok
 have hlf := (hsrt 0 (Nat.zero_le _)).1
 have hlf' : 1 ≤ c.numV l.f := hlf
 have ND := fun v h => NDo v h hv
 have NI := fun v h => NIo v h hv
 clear NDo NIo
 by_cases hon : c.numV on = 0
 ·have hr : R = (db0, 71) := by rw [HR.out]; unfold Cal.owedV; rw [if_neg (by simp [hle]), if_pos hon]
  subst hr
  rw [hon] at ND
  clear HR NI
  go_upto_region 5 with (first | (go_at_call 29; (with_reducible refine Calls.mono (NC _ C RB) ?_); rintro e w1 ⟨rfl, hx⟩; replace E := E.trans hx; replace C := C.ext hx; replace RB := RB.ext hx; replace B4 := B4.ext hx; replace B1 := B1.ext hx; replace B2 := B2.ext hx; replace B3 := B3.ext hx; clear hx; clear k0 k1 kl p0 p1 p2 p3 p4 p5 p6 p7 pl q0 q1 q2 q3 ql; obtain ⟨k0, k1⟩ := B1.c2; have kl := B1.lt; obtain ⟨p0, p1, p2, p3, p4, p5, p6, p7⟩ := B2.c8; have pl := B2.lt; obtain ⟨q0, q1, q2, q3⟩ := B3.c4; have ql := B3.lt) | (go_at_call 80; (with_reducible refine Calls.mono (ND _ C) ?_); rintro e w2 ⟨rfl, hx⟩; replace E := E.trans hx; replace C := C.ext hx; replace RB := RB.ext hx; replace B4 := B4.ext hx; replace B1 := B1.ext hx; replace B2 := B2.ext hx; replace B3 := B3.ext hx; clear hx; clear k0 k1 kl p0 p1 p2 p3 p4 p5 p6 p7 pl q0 q1 q2 q3 ql; obtain ⟨k0, k1⟩ := B1.c2; have kl := B1.lt; obtain ⟨p0, p1, p2, p3, p4, p5, p6, p7⟩ := B2.c8; have pl := B2.lt; obtain ⟨q0, q1, q2, q3⟩ := B3.c4; have ql := B3.lt))
  obtain ⟨x0', x1', x2', x3', x4', x5'⟩ := B4.c6
  have lx' := B4.lt
  have f0' := B4.frozen 0
  have f1' := B4.frozen 1
  have f2' := B4.frozen 2
  have f3' := B4.frozen 3
  have f4' := B4.frozen 4
  have f5' := B4.frozen 5
  have H9 := held6_all B4 (.int .i64 0) (.int .i64 0) (.int .i64 0) (.int .i64 0) (.int .i64 0) (.int .i64 0)
  have EF := ext6 E hbr (.int .i64 0) (.int .i64 0) (.int .i64 0) (.int .i64 0) (.int .i64 0) (.int .i64 0)
  obtain ⟨y0, y1, y2, y3, y4, y5⟩ := H9.c6
  go_wp2
  refine bodyPost_ret (v := .tuple #[.agg #[.int .i64 0, .int .i64 0, .int .i64 0, .int .i64 0, .int .i64 0, .int .i64 0], .int .i64 71]) (by simp [results, Tryz.results27, go_sem, y0, y1, y2, y3, y4, y5]) rfl ⟨rfl, EF⟩
 have gon : (c.numV on == 0) = false := beq_eq_false_iff_ne.2 hon
 rw [decide_eq_true (show 0 < c.numV l.f by omega), Bool.true_and] at NI
 by_cases hlt : c.numV on < c.numV l.f
 ·have hr : R = (db0, 8) := by rw [HR.out]; unfold Cal.owedV; rw [if_neg (by simp [hle]), if_neg hon, if_pos hlt]
  subst hr
  rw [decide_eq_false (show ¬ c.numV l.f ≤ c.numV on by omega)] at NI
  clear HR
  go_upto_region 7 with (first | (go_at_call 29; (with_reducible refine Calls.mono (NC _ C RB) ?_); rintro e w1 ⟨rfl, hx⟩; replace E := E.trans hx; replace C := C.ext hx; replace RB := RB.ext hx; replace B4 := B4.ext hx; replace B1 := B1.ext hx; replace B2 := B2.ext hx; replace B3 := B3.ext hx; clear hx; clear k0 k1 kl p0 p1 p2 p3 p4 p5 p6 p7 pl q0 q1 q2 q3 ql; obtain ⟨k0, k1⟩ := B1.c2; have kl := B1.lt; obtain ⟨p0, p1, p2, p3, p4, p5, p6, p7⟩ := B2.c8; have pl := B2.lt; obtain ⟨q0, q1, q2, q3⟩ := B3.c4; have ql := B3.lt) | (go_at_call 80; (with_reducible refine Calls.mono (ND _ C) ?_); rintro e w2 ⟨rfl, hx⟩; replace E := E.trans hx; replace C := C.ext hx; replace RB := RB.ext hx; replace B4 := B4.ext hx; replace B1 := B1.ext hx; replace B2 := B2.ext hx; replace B3 := B3.ext hx; clear hx; clear k0 k1 kl p0 p1 p2 p3 p4 p5 p6 p7 pl q0 q1 q2 q3 ql; obtain ⟨k0, k1⟩ := B1.c2; have kl := B1.lt; obtain ⟨p0, p1, p2, p3, p4, p5, p6, p7⟩ := B2.c8; have pl := B2.lt; obtain ⟨q0, q1, q2, q3⟩ := B3.c4; have ql := B3.lt) | (go_at_call 68; (with_reducible refine Calls.mono (NI _ C) ?_); rintro e w3 ⟨rfl, hx⟩; replace E := E.trans hx; replace C := C.ext hx; replace RB := RB.ext hx; replace B4 := B4.ext hx; replace B1 := B1.ext hx; replace B2 := B2.ext hx; replace B3 := B3.ext hx; clear hx; clear k0 k1 kl p0 p1 p2 p3 p4 p5 p6 p7 pl q0 q1 q2 q3 ql; obtain ⟨k0, k1⟩ := B1.c2; have kl := B1.lt; obtain ⟨p0, p1, p2, p3, p4, p5, p6, p7⟩ := B2.c8; have pl := B2.lt; obtain ⟨q0, q1, q2, q3⟩ := B3.c4; have ql := B3.lt))
  obtain ⟨x0', x1', x2', x3', x4', x5'⟩ := B4.c6
  have lx' := B4.lt
  have f0' := B4.frozen 0
  have f1' := B4.frozen 1
  have f2' := B4.frozen 2
  have f3' := B4.frozen 3
  have f4' := B4.frozen 4
  have f5' := B4.frozen 5
  have H9 := held6_all B4 (.int .i64 0) (.int .i64 0) (.int .i64 0) (.int .i64 0) (.int .i64 0) (.int .i64 0)
  have EF := ext6 E hbr (.int .i64 0) (.int .i64 0) (.int .i64 0) (.int .i64 0) (.int .i64 0) (.int .i64 0)
  obtain ⟨y0, y1, y2, y3, y4, y5⟩ := H9.c6
  go_wp2
  refine bodyPost_ret (v := .tuple #[.agg #[.int .i64 0, .int .i64 0, .int .i64 0, .int .i64 0, .int .i64 0, .int .i64 0], .int .i64 8]) (by simp [results, Tryz.results27, go_sem, y0, y1, y2, y3, y4, y5]) rfl ⟨rfl, EF⟩
 rw [decide_eq_true (show c.numV l.f ≤ c.numV on by omega)] at NI
 have HT0 : Hid (R = runK c l.r f on 0 (n - 0) (start l) l.f) := by unfold Hid; rw [HR.out]; exact owedV_run hle hon hlt
 clear HR
 go_upto_region 8 with (first | (go_at_call 29; (with_reducible refine Calls.mono (NC _ C RB) ?_); rintro e w1 ⟨rfl, hx⟩; replace E := E.trans hx; replace C := C.ext hx; replace RB := RB.ext hx; replace B4 := B4.ext hx; replace B1 := B1.ext hx; replace B2 := B2.ext hx; replace B3 := B3.ext hx; clear hx; clear k0 k1 kl p0 p1 p2 p3 p4 p5 p6 p7 pl q0 q1 q2 q3 ql; obtain ⟨k0, k1⟩ := B1.c2; have kl := B1.lt; obtain ⟨p0, p1, p2, p3, p4, p5, p6, p7⟩ := B2.c8; have pl := B2.lt; obtain ⟨q0, q1, q2, q3⟩ := B3.c4; have ql := B3.lt) | (go_at_call 80; (with_reducible refine Calls.mono (ND _ C) ?_); rintro e w2 ⟨rfl, hx⟩; replace E := E.trans hx; replace C := C.ext hx; replace RB := RB.ext hx; replace B4 := B4.ext hx; replace B1 := B1.ext hx; replace B2 := B2.ext hx; replace B3 := B3.ext hx; clear hx; clear k0 k1 kl p0 p1 p2 p3 p4 p5 p6 p7 pl q0 q1 q2 q3 ql; obtain ⟨k0, k1⟩ := B1.c2; have kl := B1.lt; obtain ⟨p0, p1, p2, p3, p4, p5, p6, p7⟩ := B2.c8; have pl := B2.lt; obtain ⟨q0, q1, q2, q3⟩ := B3.c4; have ql := B3.lt) | (go_at_call 68; (with_reducible refine Calls.mono (NI _ C) ?_); rintro e w3 ⟨rfl, hx⟩; replace E := E.trans hx; replace C := C.ext hx; replace RB := RB.ext hx; replace B4 := B4.ext hx; replace B1 := B1.ext hx; replace B2 := B2.ext hx; replace B3 := B3.ext hx; clear hx; clear k0 k1 kl p0 p1 p2 p3 p4 p5 p6 p7 pl q0 q1 q2 q3 ql; obtain ⟨k0, k1⟩ := B1.c2; have kl := B1.lt; obtain ⟨p0, p1, p2, p3, p4, p5, p6, p7⟩ := B2.c8; have pl := B2.lt; obtain ⟨q0, q1, q2, q3⟩ := B3.c4; have ql := B3.lt))
 clear NC ND NI hlt hon gon hle hlf hlf' hlok
 apply wp_cut1y (S := fun w' b => Ext w3 w' ∧ w3.heap.size ≤ b ∧ Held w' b 60 #[.int .i64 l.p.n, .int .i64 l.p.d, .int .i64 0, .int .i64 1, .int .i64 0, .int .i64 1])
 ·refine wp_region_z 7 [6] (fun x => Ext w3 x) mixed rfl ?_
  intro vz hvz
  have HC := hvz
  refine z_stills (g := 5) [0, 1] [_, _] ⟨rfl, rfl, trivial⟩ (by kernel_rfl) (by kernel_rfl) HC ?_
  simp only [zgA, zgB, zgC]
  apply Exists.intro
  refine ⟨fun u hu => ?_, ?_⟩
  ·obtain ⟨p0, p1, p2, p3, p4, p5, p6, p7⟩ := (B2.ext hu).c8
   have pl := (B2.ext hu).lt
   repeat (first | go_big_quiet_skip | (go_big_quiet_want; go_big_quiet_op; go_big_quiet_on))
   refine wpQuiet_nil ?_
   rfl
  refine z_two 2 5 rfl rfl (by kernel_rfl) ?_ ?_
  ·simp only [zgA, zgB, zgC]
   go_wp2_with (go_at_call 53; (with_reducible refine Calls.mono (wholeR_any _ _) ?_); rintro e va ⟨rfl, h4⟩)
   replace HC := HC.trans h4
   try replace Q := Q.ext h4
   clear h4
   refine onQ_in HC ?_
   refine z_two 3 5 rfl rfl (by kernel_rfl) ?_ ?_
   ·simp only [zgA, zgB, zgC]
    go_wp2_with (go_at_call 53; (with_reducible refine Calls.mono (wholeR_any _ _) ?_); rintro e va ⟨rfl, h4⟩)
    replace HC := HC.trans h4
    try replace Q := Q.ext h4
    clear h4
    refine onQ_in HC ?_
    refine z_stills (g := 2) [4] [_] ⟨rfl, trivial⟩ (by kernel_rfl) (by kernel_rfl) HC ?_
    simp only [zgA, zgB, zgC]
    apply Exists.intro
    refine ⟨fun u hu => ?_, ?_⟩
    ·obtain ⟨p0, p1, p2, p3, p4, p5, p6, p7⟩ := (B2.ext hu).c8
     have pl := (B2.ext hu).lt
     repeat (first | go_big_quiet_skip | (go_big_quiet_want; go_big_quiet_op; go_big_quiet_on))
     refine wpQuiet_nil ?_
     rfl
    refine z_one 5 rfl (by kernel_rfl) ?_
    simp only [zgA, zgB, zgC]
    go_wp2
    obtain ⟨bq, hbq, Q, HC', hge⟩ := ex_new HC 60 #[.int .i64 0, .int .i64 0, .int .i64 0, .int .i64 0, .int .i64 0, .int .i64 0]
    rw [← hbq]
    clear hbq
    replace HC := HC'
    clear HC'
    generalize World.alloc _ (.cells #[.int .i64 0, .int .i64 0, .int .i64 0, .int .i64 0, .int .i64 0, .int .i64 0] 60) = va at *
    refine onQ_in HC ?_
    refine z_end 6 rfl (by kernel_rfl) ?_
    simp only [zgA, zgB, zgC]
    have f0 := Q.frozen 0
    have f1 := Q.frozen 1
    have f2 := Q.frozen 2
    have f3 := Q.frozen 3
    have f4 := Q.frozen 4
    have f5 := Q.frozen 5
    obtain ⟨z0, z1, z2, z3, z4, z5⟩ := Q.c6
    have lz := Q.lt
    have Q2 := held6_all Q (.int .i64 l.p.n) (.int .i64 l.p.d) (.int .i64 0) (.int .i64 1) (.int .i64 0) (.int .i64 1)
    have HE2 := ext6 HC hge (.int .i64 l.p.n) (.int .i64 l.p.d) (.int .i64 0) (.int .i64 1) (.int .i64 0) (.int .i64 1)
    go_wp2
    refine onQ_last ?_
    refine z_done (by kernel_rfl) ?_
    exact cut1y_is bq ⟨HE2, hge, Q2⟩ rfl
   ·simp only [zgA, zgB, zgC]
    go_wp2
    obtain ⟨bq, hbq, Q, HC', hge⟩ := ex_new HC 60 #[.int .i64 0, .int .i64 0, .int .i64 0, .int .i64 0, .int .i64 0, .int .i64 0]
    rw [← hbq]
    clear hbq
    replace HC := HC'
    clear HC'
    generalize World.alloc _ (.cells #[.int .i64 0, .int .i64 0, .int .i64 0, .int .i64 0, .int .i64 0, .int .i64 0] 60) = va at *
    refine onQ_in HC ?_
    refine z_one 3 rfl (by kernel_rfl) ?_
    simp only [zgA, zgB, zgC]
    go_wp2_with (go_at_call 53; (with_reducible refine Calls.mono (wholeR_any _ _) ?_); rintro e va ⟨rfl, h4⟩)
    replace HC := HC.trans h4
    try replace Q := Q.ext h4
    clear h4
    refine onQ_in HC ?_
    refine z_stills (g := 1) [4] [_] ⟨rfl, trivial⟩ (by kernel_rfl) (by kernel_rfl) HC ?_
    simp only [zgA, zgB, zgC]
    apply Exists.intro
    refine ⟨fun u hu => ?_, ?_⟩
    ·obtain ⟨p0, p1, p2, p3, p4, p5, p6, p7⟩ := (B2.ext hu).c8
     have pl := (B2.ext hu).lt
     repeat (first | go_big_quiet_skip | (go_big_quiet_want; go_big_quiet_op; go_big_quiet_on))
     refine wpQuiet_nil ?_
     rfl
    refine z_end 6 rfl (by kernel_rfl) ?_
    simp only [zgA, zgB, zgC]
    have f0 := Q.frozen 0
    have f1 := Q.frozen 1
    have f2 := Q.frozen 2
    have f3 := Q.frozen 3
    have f4 := Q.frozen 4
    have f5 := Q.frozen 5
    obtain ⟨z0, z1, z2, z3, z4, z5⟩ := Q.c6
    have lz := Q.lt
    have Q2 := held6_all Q (.int .i64 l.p.n) (.int .i64 l.p.d) (.int .i64 0) (.int .i64 1) (.int .i64 0) (.int .i64 1)
    have HE2 := ext6 HC hge (.int .i64 l.p.n) (.int .i64 l.p.d) (.int .i64 0) (.int .i64 1) (.int .i64 0) (.int .i64 1)
    go_wp2
    refine onQ_last ?_
    refine z_done (by kernel_rfl) ?_
    exact cut1y_is bq ⟨HE2, hge, Q2⟩ rfl
  ·simp only [zgA, zgB, zgC]
   go_wp2
   obtain ⟨bq, hbq, Q, HC', hge⟩ := ex_new HC 60 #[.int .i64 0, .int .i64 0, .int .i64 0, .int .i64 0, .int .i64 0, .int .i64 0]
   rw [← hbq]
   clear hbq
   replace HC := HC'
   clear HC'
   generalize World.alloc _ (.cells #[.int .i64 0, .int .i64 0, .int .i64 0, .int .i64 0, .int .i64 0, .int .i64 0] 60) = va at *
   refine onQ_in HC ?_
   refine z_one 2 rfl (by kernel_rfl) ?_
   simp only [zgA, zgB, zgC]
   go_wp2_with (go_at_call 53; (with_reducible refine Calls.mono (wholeR_any _ _) ?_); rintro e va ⟨rfl, h4⟩)
   replace HC := HC.trans h4
   try replace Q := Q.ext h4
   clear h4
   refine onQ_in HC ?_
   refine z_one 3 rfl (by kernel_rfl) ?_
   simp only [zgA, zgB, zgC]
   go_wp2_with (go_at_call 53; (with_reducible refine Calls.mono (wholeR_any _ _) ?_); rintro e va ⟨rfl, h4⟩)
   replace HC := HC.trans h4
   try replace Q := Q.ext h4
   clear h4
   refine onQ_in HC ?_
   refine z_stills (g := 1) [4] [_] ⟨rfl, trivial⟩ (by kernel_rfl) (by kernel_rfl) HC ?_
   simp only [zgA, zgB, zgC]
   apply Exists.intro
   refine ⟨fun u hu => ?_, ?_⟩
   ·obtain ⟨p0, p1, p2, p3, p4, p5, p6, p7⟩ := (B2.ext hu).c8
    have pl := (B2.ext hu).lt
    repeat (first | go_big_quiet_skip | (go_big_quiet_want; go_big_quiet_op; go_big_quiet_on))
    refine wpQuiet_nil ?_
    rfl
   refine z_end 6 rfl (by kernel_rfl) ?_
   simp only [zgA, zgB, zgC]
   have f0 := Q.frozen 0
   have f1 := Q.frozen 1
   have f2 := Q.frozen 2
   have f3 := Q.frozen 3
   have f4 := Q.frozen 4
   have f5 := Q.frozen 5
   obtain ⟨z0, z1, z2, z3, z4, z5⟩ := Q.c6
   have lz := Q.lt
   have Q2 := held6_all Q (.int .i64 l.p.n) (.int .i64 l.p.d) (.int .i64 0) (.int .i64 1) (.int .i64 0) (.int .i64 1)
   have HE2 := ext6 HC hge (.int .i64 l.p.n) (.int .i64 l.p.d) (.int .i64 0) (.int .i64 1) (.int .i64 0) (.int .i64 1)
   go_wp2
   refine onQ_last ?_
   refine z_done (by kernel_rfl) ?_
   exact cut1y_is bq ⟨HE2, hge, Q2⟩ rfl
 ·rintro bx w9 ⟨hE9, hbx, BX⟩
  have C0 := C
  have RB0 := RB
  have A1 := B1
  have A2 := B2
  have A3 := B3
  have A4 := B4
  have B2n := B2.ext hE9
  clear k0 k1 kl p0 p1 p2 p3 p4 p5 p6 p7 pl q0 q1 q2 q3 ql
  obtain ⟨p0, p1, p2, p3, p4, p5, p6, p7⟩ := B2n.c8
  have pl := B2n.lt
  have hlx : w9.heap.size ≠ bx := by have := BX.lt; omega
  have hbl := hE9.size
  go_upto_region 10 with (fail)
  obtain ⟨w10, hv⟩ := zgE (w9.alloc (.cells #[.int .i64 l.f.y, .int .i64 l.f.m, .bool l.f.s, .int .i64 l.f.d] 37))
  rw [← hv]
  have hx : Ext w9 w10 := by rw [hv]; exact (Ext.refl _).alloc _
  have BL : Held w10 w9.heap.size 37 #[.int .i64 l.f.y, .int .i64 l.f.m, .bool l.f.s, .int .i64 l.f.d] := by rw [hv]; exact Held.new _ _ _
  clear hv
  generalize w9.heap.size = bl at *
  have hE10 := hE9.trans hx
  have BX0 := BX.ext hx
  clear hE9 hx BX B2n p0 p1 p2 p3 p4 p5 p6 p7 pl C RB B1 B2 B3 B4
  go_upto_region 11 with (fail)
  go_loopw [13] (fun i wr => ∃ k : Nat, k ≤ n ∧ i = .int .i64 k ∧ ∃ (x : Db) (a : Dt), x.In ∧ Ext w3 wr ∧ Held wr bx 60 #[.int .i64 x.p.n, .int .i64 x.p.d, .int .i64 x.i.n, .int .i64 x.i.d, .int .i64 x.s.n, .int .i64 x.s.d] ∧ Held wr bl 37 #[.int .i64 a.y, .int .i64 a.m, .bool a.s, .int .i64 a.d] ∧ Hid (R = runK c l.r f on k (n - k) x a)) (fun i _ => n + 1 - (intOf i).toNat)
  case atStart => exact ⟨0, Nat.zero_le _, rfl, start l, l.f, ⟨hp, (show (ratW 0).In by unfold Rt.In ratW; decide), (show (ratW 0).In by unfold Rt.In ratW; decide)⟩, hE10, BX0, BL, HT0⟩
  case round =>
   clear hE10 BX0 BL HT0
   obtain ⟨k, hk, rfl, x, a, hx, hE, BX, BL, HT⟩ := hrel
   obtain ⟨wo, rfl⟩ := zgE wr
   have C := C0.ext hE
   have RB := RB0.ext hE
   have B1 := A1.ext hE
   have B2 := A2.ext hE
   have B3 := A3.ext hE
   have B4 := A4.ext hE
   have gk : decide (k ≤ n) = true := decide_eq_true hk
   obtain ⟨k0, k1⟩ := B1.c2
   have kl := B1.lt
   obtain ⟨p0, p1, p2, p3, p4, p5, p6, p7⟩ := B2.c8
   have pl := B2.lt
   obtain ⟨q0, q1, q2, q3⟩ := B3.c4
   have ql := B3.lt
   obtain ⟨x0, x1, x2, x3, x4, x5⟩ := BX.c6
   have xl := BX.lt
   obtain ⟨m0, m1, m2, m3⟩ := BL.c4
   have ml := BL.lt
   have hnx : wo.heap.size ≠ bx := by have := BX.lt; omega
   have hnl : wo.heap.size ≠ bl := by have := BL.lt; omega
   have hn0 := hE.size
   go_upto_region 14 with (fail)
   obtain ⟨wn, hv⟩ := zgE (wo.alloc (.cells #[.int .i64 on.y, .int .i64 on.m, .bool on.s, .int .i64 on.d] 37))
   rw [← hv]
   have hx : Ext wo wn := by rw [hv]; exact (Ext.refl _).alloc _
   have BN : Held wn wo.heap.size 37 #[.int .i64 on.y, .int .i64 on.m, .bool on.s, .int .i64 on.d] := by rw [hv]; exact Held.new _ _ _
   clear hv
   generalize wo.heap.size = bb1 at *
   clear k0 k1 kl p0 p1 p2 p3 p4 p5 p6 p7 pl q0 q1 q2 q3 ql x0 x1 x2 x3 x4 x5 xl m0 m1 m2 m3 ml
   replace hE := hE.trans hx
   replace C := C.ext hx
   replace RB := RB.ext hx
   replace B4 := B4.ext hx
   replace B1 := B1.ext hx
   replace B2 := B2.ext hx
   replace B3 := B3.ext hx
   replace BX := BX.ext hx
   replace BL := BL.ext hx
   clear hx
   obtain ⟨k0, k1⟩ := B1.c2
   have kl := B1.lt
   obtain ⟨p0, p1, p2, p3, p4, p5, p6, p7⟩ := B2.c8
   have pl := B2.lt
   obtain ⟨q0, q1, q2, q3⟩ := B3.c4
   have ql := B3.lt
   obtain ⟨x0, x1, x2, x3, x4, x5⟩ := BX.c6
   have xl := BX.lt
   obtain ⟨m0, m1, m2, m3⟩ := BL.c4
   have ml := BL.lt
   obtain ⟨n0, n1, n2, n3⟩ := BN.c4
   have nl := BN.lt
   by_cases hlt : k < n
   rotate_left
   ·have gl : decide (k < n) = false := decide_eq_false hlt
    have hV : Hid (R = if (accI x l.r (c.schV a on)).2 ≠ 0 then (db0, (accI x l.r (c.schV a on)).2) else (⟨x.p, (accI x l.r (c.schV a on)).1, x.s⟩, 0)) := by
     unfold Hid; rw [HT.out]; exact run_last (.inl (by omega))
    clear HT
    refine wp_region_xw wn mixed (by kernel_rfl) (by repeat (first | exact Ext.refl _ | (refine Ext.alloc ?_ _) | (refine Ext.trans ?_ (by assumption)))) ?_
    intro hne hrx hry
    try simp only []
    try simp only [List.append_eq, List.cons_append, List.nil_append]
    skip
    repeat (first
     | go_big_quiet_skip
     | (go_big_quiet_want; go_big_quiet_op; go_big_quiet_on))
    clear hne hry hrx
    refine wpQuiet_nil ?_
    intro w14 h14
    obtain ⟨hcw14, hfw14, hzw14⟩ := Ext.rules h14
    try simp only [World.size_alloc] at hzw14
    obtain ⟨hcbw14, hfbw14, hzbw14⟩ := Ext.rules (show Ext wn w14 from (by repeat (first | exact Ext.refl _ | (refine Ext.alloc ?_ _) | (refine Ext.trans ?_ (by assumption)))))
    clear hcw14 hfw14
    replace hE := hE.trans h14
    replace C := C.ext h14
    replace RB := RB.ext h14
    replace B4 := B4.ext h14
    replace B1 := B1.ext h14
    replace B2 := B2.ext h14
    replace B3 := B3.ext h14
    replace BX := BX.ext h14
    replace BL := BL.ext h14
    replace BN := BN.ext h14
    clear h14
    clear k0 k1 kl p0 p1 p2 p3 p4 p5 p6 p7 pl q0 q1 q2 q3 ql x0 x1 x2 x3 x4 x5 xl m0 m1 m2 m3 ml n0 n1 n2 n3 nl
    obtain ⟨k0, k1⟩ := B1.c2
    have kl := B1.lt
    obtain ⟨p0, p1, p2, p3, p4, p5, p6, p7⟩ := B2.c8
    have pl := B2.lt
    obtain ⟨q0, q1, q2, q3⟩ := B3.c4
    have ql := B3.lt
    obtain ⟨x0, x1, x2, x3, x4, x5⟩ := BX.c6
    have xl := BX.lt
    obtain ⟨m0, m1, m2, m3⟩ := BL.c4
    have ml := BL.lt
    obtain ⟨n0, n1, n2, n3⟩ := BN.c4
    have nl := BN.lt
    have NS := fun v h => scheme_any_r A A' ca cb c a on v h
    have hsm := sch_small c a on
    have NA := fun w => accruedR_any x l.r (c.schV a on) hx hr (by omega) (by omega) w
    have hYin := accI_in x l.r (c.schV a on)
    generalize accI x l.r (c.schV a on) = Y at *
    obtain ⟨⟨yn, yd⟩, ye⟩ := Y
    simp only at NA hV hYin
    go_upto_region 18 with (go_at_call 69; (with_reducible refine Calls.mono (NS _ C) ?_); rintro e w17 ⟨rfl, hx⟩; replace hE := hE.trans hx; replace C := C.ext hx; replace RB := RB.ext hx; replace B4 := B4.ext hx; replace B1 := B1.ext hx; replace B2 := B2.ext hx; replace B3 := B3.ext hx; replace BX := BX.ext hx; replace BL := BL.ext hx; replace BN := BN.ext hx; clear hx; clear k0 k1 kl p0 p1 p2 p3 p4 p5 p6 p7 pl q0 q1 q2 q3 ql x0 x1 x2 x3 x4 x5 xl m0 m1 m2 m3 ml n0 n1 n2 n3 nl; obtain ⟨k0, k1⟩ := B1.c2; have kl := B1.lt; obtain ⟨p0, p1, p2, p3, p4, p5, p6, p7⟩ := B2.c8; have pl := B2.lt; obtain ⟨q0, q1, q2, q3⟩ := B3.c4; have ql := B3.lt; obtain ⟨x0, x1, x2, x3, x4, x5⟩ := BX.c6; have xl := BX.lt; obtain ⟨m0, m1, m2, m3⟩ := BL.c4; have ml := BL.lt; obtain ⟨n0, n1, n2, n3⟩ := BN.c4; have nl := BN.lt)
    go_upto_region 19 with (go_at_call 81; (with_reducible refine Calls.mono (NA _) ?_); rintro e w18 ⟨rfl, hx⟩; replace hE := hE.trans hx; replace C := C.ext hx; replace RB := RB.ext hx; replace B4 := B4.ext hx; replace B1 := B1.ext hx; replace B2 := B2.ext hx; replace B3 := B3.ext hx; replace BX := BX.ext hx; replace BL := BL.ext hx; replace BN := BN.ext hx; clear hx; clear k0 k1 kl p0 p1 p2 p3 p4 p5 p6 p7 pl q0 q1 q2 q3 ql x0 x1 x2 x3 x4 x5 xl m0 m1 m2 m3 ml n0 n1 n2 n3 nl; obtain ⟨k0, k1⟩ := B1.c2; have kl := B1.lt; obtain ⟨p0, p1, p2, p3, p4, p5, p6, p7⟩ := B2.c8; have pl := B2.lt; obtain ⟨q0, q1, q2, q3⟩ := B3.c4; have ql := B3.lt; obtain ⟨x0, x1, x2, x3, x4, x5⟩ := BX.c6; have xl := BX.lt; obtain ⟨m0, m1, m2, m3⟩ := BL.c4; have ml := BL.lt; obtain ⟨n0, n1, n2, n3⟩ := BN.c4; have nl := BN.lt)
    obtain ⟨w19, hv⟩ := zgE (w18.alloc (.cells #[.int .i64 yn, .int .i64 yd] 23))
    rw [← hv]
    have hx : Ext w18 w19 := by rw [hv]; exact (Ext.refl _).alloc _
    have BI : Held w19 w18.heap.size 23 #[.int .i64 yn, .int .i64 yd] := by rw [hv]; exact Held.new _ _ _
    clear hv
    generalize w18.heap.size = bb6 at *
    clear k0 k1 kl p0 p1 p2 p3 p4 p5 p6 p7 pl q0 q1 q2 q3 ql x0 x1 x2 x3 x4 x5 xl m0 m1 m2 m3 ml n0 n1 n2 n3 nl
    replace hE := hE.trans hx
    replace C := C.ext hx
    replace RB := RB.ext hx
    replace B4 := B4.ext hx
    replace B1 := B1.ext hx
    replace B2 := B2.ext hx
    replace B3 := B3.ext hx
    replace BX := BX.ext hx
    replace BL := BL.ext hx
    replace BN := BN.ext hx
    clear hx
    obtain ⟨k0, k1⟩ := B1.c2
    have kl := B1.lt
    obtain ⟨p0, p1, p2, p3, p4, p5, p6, p7⟩ := B2.c8
    have pl := B2.lt
    obtain ⟨q0, q1, q2, q3⟩ := B3.c4
    have ql := B3.lt
    obtain ⟨x0, x1, x2, x3, x4, x5⟩ := BX.c6
    have xl := BX.lt
    obtain ⟨m0, m1, m2, m3⟩ := BL.c4
    have ml := BL.lt
    obtain ⟨n0, n1, n2, n3⟩ := BN.c4
    have nl := BN.lt
    obtain ⟨i0, i1⟩ := BI.c2
    have il := BI.lt
    clear NS NA
    by_cases hye : ye = 0
    rotate_left
    ·have hr := hV.out
     rw [if_pos hye] at hr
     subst hr
     have gy : (ye == 0) = false := beq_eq_false_iff_ne.2 hye
     have gyn : (ye != 0) = true := by rw [bne, gy]; rfl
     clear hye hV hin
     have E := E.trans hE
     obtain ⟨x0', x1', x2', x3', x4', x5'⟩ := B4.c6
     have lx' := B4.lt
     have f0' := B4.frozen 0
     have f1' := B4.frozen 1
     have f2' := B4.frozen 2
     have f3' := B4.frozen 3
     have f4' := B4.frozen 4
     have f5' := B4.frozen 5
     have H9 := held6_all B4 (.int .i64 0) (.int .i64 0) (.int .i64 0) (.int .i64 0) (.int .i64 0) (.int .i64 0)
     have EF := ext6 E hbr (.int .i64 0) (.int .i64 0) (.int .i64 0) (.int .i64 0) (.int .i64 0) (.int .i64 0)
     obtain ⟨y0, y1, y2, y3, y4, y5⟩ := H9.c6
     go_wp2
     refine bodyPost_ret (v := .tuple #[.agg #[.int .i64 0, .int .i64 0, .int .i64 0, .int .i64 0, .int .i64 0, .int .i64 0], .int .i64 ye]) (by simp [results, Tryz.results27, go_sem, y0, y1, y2, y3, y4, y5]) rfl ⟨rfl, EF⟩
    subst hye
    have h0 := hV.out
    rw [if_neg (by decide)] at h0
    have hV2 := Lib.hid h0
    clear h0 hV
    have f0 := BX.frozen 2
    have f1 := BX.frozen 3
    go_upto_region 22 with (fail)
    have X1 := held6_2 BX (.int .i64 yn) (.int .i64 yd)
    have L1 := held_oth (held_oth BL hlx 2 (.int .i64 yn)) hlx 3 (.int .i64 yd)
    have N1 := held_oth (held_oth BN hnx 2 (.int .i64 yn)) hnx 3 (.int .i64 yd)
    have E1 := (hE.setCell (p := ⟨bx, 2, none⟩) hbx (.int .i64 yn)).setCell (p := ⟨bx, 3, none⟩) hbx (.int .i64 yd)
    clear k0 k1 kl p0 p1 p2 p3 p4 p5 p6 p7 pl q0 q1 q2 q3 ql x0 x1 x2 x3 x4 x5 xl m0 m1 m2 m3 ml n0 n1 n2 n3 nl i0 i1 il
    clear f0 f1 BI
    replace BX := X1
    replace BL := L1
    replace BN := N1
    replace hE := E1
    clear X1 L1 N1 E1
    replace C := C0.ext hE
    replace RB := RB0.ext hE
    replace B1 := A1.ext hE
    replace B2 := A2.ext hE
    replace B3 := A3.ext hE
    replace B4 := A4.ext hE
    generalize (World.setCell w19 _ _).setCell _ _ = w20 at *
    obtain ⟨k0, k1⟩ := B1.c2
    have kl := B1.lt
    obtain ⟨p0, p1, p2, p3, p4, p5, p6, p7⟩ := B2.c8
    have pl := B2.lt
    obtain ⟨q0, q1, q2, q3⟩ := B3.c4
    have ql := B3.lt
    obtain ⟨x0, x1, x2, x3, x4, x5⟩ := BX.c6
    have xl := BX.lt
    obtain ⟨m0, m1, m2, m3⟩ := BL.c4
    have ml := BL.lt
    obtain ⟨n0, n1, n2, n3⟩ := BN.c4
    have nl := BN.lt
    have hr := hV2.out
    subst hr
    clear hV2 hin
    have E := E.trans hE
    obtain ⟨x0', x1', x2', x3', x4', x5'⟩ := B4.c6
    have lx' := B4.lt
    have f0' := B4.frozen 0
    have f1' := B4.frozen 1
    have f2' := B4.frozen 2
    have f3' := B4.frozen 3
    have f4' := B4.frozen 4
    have f5' := B4.frozen 5
    have H9 := held6_all B4 (.int .i64 x.p.n) (.int .i64 x.p.d) (.int .i64 yn) (.int .i64 yd) (.int .i64 x.s.n) (.int .i64 x.s.d)
    have EF := ext6 E hbr (.int .i64 x.p.n) (.int .i64 x.p.d) (.int .i64 yn) (.int .i64 yd) (.int .i64 x.s.n) (.int .i64 x.s.d)
    obtain ⟨y0, y1, y2, y3, y4, y5⟩ := H9.c6
    go_wp2
    refine bodyPost_ret (v := .tuple #[.agg #[.int .i64 x.p.n, .int .i64 x.p.d, .int .i64 yn, .int .i64 yd, .int .i64 x.s.n, .int .i64 x.s.d], .int .i64 0]) (by simp [results, Tryz.results27, go_sem, y0, y1, y2, y3, y4, y5]) rfl ⟨rfl, EF⟩
   have gl : decide (k < n) = true := decide_eq_true hlt
   obtain ⟨b, off, rfl, hb, hc⟩ := RB (by omega)
   have c0 : wn.cell? ⟨b, off + k * 6, none⟩ = some (.int .i64 (f k).on.y) := by simpa [payr] using hc k 0 _ hlt rfl
   have c1 : wn.cell? ⟨b, off + k * 6 + 1, none⟩ = some (.int .i64 (f k).on.m) := by simpa [payr] using hc k 1 _ hlt rfl
   have c2 : wn.cell? ⟨b, off + k * 6 + 2, none⟩ = some (.bool (f k).on.s) := by simpa [payr] using hc k 2 _ hlt rfl
   have c3 : wn.cell? ⟨b, off + k * 6 + 3, none⟩ = some (.int .i64 (f k).on.d) := by simpa [payr] using hc k 3 _ hlt rfl
   have c4 : wn.cell? ⟨b, off + k * 6 + 4, none⟩ = some (.int .i64 (f k).n.n) := by simpa [payr] using hc k 4 _ hlt rfl
   have c5 : wn.cell? ⟨b, off + k * 6 + 5, none⟩ = some (.int .i64 (f k).n.d) := by simpa [payr] using hc k 5 _ hlt rfl
   clear hc
   have hpn := (hsrt (k + 1) (by omega)).1
   have hpn' : 1 ≤ c.numV (f k).on := hpn
   have NIP := fun v h => inOrderR_any A A' ca cb c (f k).on on v h hv
   rw [decide_eq_true (show 0 < c.numV (f k).on by omega), Bool.true_and] at NIP
   by_cases hle : c.numV on < c.numV (f k).on
   ·rw [decide_eq_false (show ¬ c.numV (f k).on ≤ c.numV on by omega)] at NIP
    have hV : Hid (R = if (accI x l.r (c.schV a on)).2 ≠ 0 then (db0, (accI x l.r (c.schV a on)).2) else (⟨x.p, (accI x l.r (c.schV a on)).1, x.s⟩, 0)) := by
     unfold Hid; rw [HT.out]; exact run_last (.inr ⟨hlt, hle⟩)
    clear HT
    refine wp_region_xw wn mixed (by kernel_rfl) (by repeat (first | exact Ext.refl _ | (refine Ext.alloc ?_ _) | (refine Ext.trans ?_ (by assumption)))) ?_
    intro hne hrx hry
    try simp only []
    try simp only [List.append_eq, List.cons_append, List.nil_append]
    skip
    repeat (first
     | go_big_quiet_skip
     | (go_big_quiet_want; go_big_quiet_op; go_big_quiet_on)
     | (go_big_quiet_want; go_big_quiet_op; apply Exists.intro; refine ⟨fun u => ?_, ?_⟩
        ·first
          | (go_at_call 68; (with_reducible refine Calls.mono (NIP _ (C.ext u.e)) ?_); rintro e w' ⟨rfl, hb⟩; exact ⟨rfl, u.back hb⟩)
        go_big_quiet_on))
    clear hne hry hrx
    refine wpQuiet_nil ?_
    intro w14 h14
    obtain ⟨hcw14, hfw14, hzw14⟩ := Ext.rules h14
    try simp only [World.size_alloc] at hzw14
    obtain ⟨hcbw14, hfbw14, hzbw14⟩ := Ext.rules (show Ext wn w14 from (by repeat (first | exact Ext.refl _ | (refine Ext.alloc ?_ _) | (refine Ext.trans ?_ (by assumption)))))
    clear hcw14 hfw14
    replace hE := hE.trans h14
    replace C := C.ext h14
    replace RB := RB.ext h14
    replace B4 := B4.ext h14
    replace B1 := B1.ext h14
    replace B2 := B2.ext h14
    replace B3 := B3.ext h14
    replace BX := BX.ext h14
    replace BL := BL.ext h14
    replace BN := BN.ext h14
    clear h14
    clear k0 k1 kl p0 p1 p2 p3 p4 p5 p6 p7 pl q0 q1 q2 q3 ql x0 x1 x2 x3 x4 x5 xl m0 m1 m2 m3 ml n0 n1 n2 n3 nl
    obtain ⟨k0, k1⟩ := B1.c2
    have kl := B1.lt
    obtain ⟨p0, p1, p2, p3, p4, p5, p6, p7⟩ := B2.c8
    have pl := B2.lt
    obtain ⟨q0, q1, q2, q3⟩ := B3.c4
    have ql := B3.lt
    obtain ⟨x0, x1, x2, x3, x4, x5⟩ := BX.c6
    have xl := BX.lt
    obtain ⟨m0, m1, m2, m3⟩ := BL.c4
    have ml := BL.lt
    obtain ⟨n0, n1, n2, n3⟩ := BN.c4
    have nl := BN.lt
    have NS := fun v h => scheme_any_r A A' ca cb c a on v h
    have hsm := sch_small c a on
    have NA := fun w => accruedR_any x l.r (c.schV a on) hx hr (by omega) (by omega) w
    have hYin := accI_in x l.r (c.schV a on)
    generalize accI x l.r (c.schV a on) = Y at *
    obtain ⟨⟨yn, yd⟩, ye⟩ := Y
    simp only at NA hV hYin
    go_upto_region 18 with (go_at_call 69; (with_reducible refine Calls.mono (NS _ C) ?_); rintro e w17 ⟨rfl, hx⟩; replace hE := hE.trans hx; replace C := C.ext hx; replace RB := RB.ext hx; replace B4 := B4.ext hx; replace B1 := B1.ext hx; replace B2 := B2.ext hx; replace B3 := B3.ext hx; replace BX := BX.ext hx; replace BL := BL.ext hx; replace BN := BN.ext hx; clear hx; clear k0 k1 kl p0 p1 p2 p3 p4 p5 p6 p7 pl q0 q1 q2 q3 ql x0 x1 x2 x3 x4 x5 xl m0 m1 m2 m3 ml n0 n1 n2 n3 nl; obtain ⟨k0, k1⟩ := B1.c2; have kl := B1.lt; obtain ⟨p0, p1, p2, p3, p4, p5, p6, p7⟩ := B2.c8; have pl := B2.lt; obtain ⟨q0, q1, q2, q3⟩ := B3.c4; have ql := B3.lt; obtain ⟨x0, x1, x2, x3, x4, x5⟩ := BX.c6; have xl := BX.lt; obtain ⟨m0, m1, m2, m3⟩ := BL.c4; have ml := BL.lt; obtain ⟨n0, n1, n2, n3⟩ := BN.c4; have nl := BN.lt)
    go_upto_region 19 with (go_at_call 81; (with_reducible refine Calls.mono (NA _) ?_); rintro e w18 ⟨rfl, hx⟩; replace hE := hE.trans hx; replace C := C.ext hx; replace RB := RB.ext hx; replace B4 := B4.ext hx; replace B1 := B1.ext hx; replace B2 := B2.ext hx; replace B3 := B3.ext hx; replace BX := BX.ext hx; replace BL := BL.ext hx; replace BN := BN.ext hx; clear hx; clear k0 k1 kl p0 p1 p2 p3 p4 p5 p6 p7 pl q0 q1 q2 q3 ql x0 x1 x2 x3 x4 x5 xl m0 m1 m2 m3 ml n0 n1 n2 n3 nl; obtain ⟨k0, k1⟩ := B1.c2; have kl := B1.lt; obtain ⟨p0, p1, p2, p3, p4, p5, p6, p7⟩ := B2.c8; have pl := B2.lt; obtain ⟨q0, q1, q2, q3⟩ := B3.c4; have ql := B3.lt; obtain ⟨x0, x1, x2, x3, x4, x5⟩ := BX.c6; have xl := BX.lt; obtain ⟨m0, m1, m2, m3⟩ := BL.c4; have ml := BL.lt; obtain ⟨n0, n1, n2, n3⟩ := BN.c4; have nl := BN.lt)
    obtain ⟨w19, hv⟩ := zgE (w18.alloc (.cells #[.int .i64 yn, .int .i64 yd] 23))
    rw [← hv]
    have hx : Ext w18 w19 := by rw [hv]; exact (Ext.refl _).alloc _
    have BI : Held w19 w18.heap.size 23 #[.int .i64 yn, .int .i64 yd] := by rw [hv]; exact Held.new _ _ _
    clear hv
    generalize w18.heap.size = bb6 at *
    clear k0 k1 kl p0 p1 p2 p3 p4 p5 p6 p7 pl q0 q1 q2 q3 ql x0 x1 x2 x3 x4 x5 xl m0 m1 m2 m3 ml n0 n1 n2 n3 nl
    replace hE := hE.trans hx
    replace C := C.ext hx
    replace RB := RB.ext hx
    replace B4 := B4.ext hx
    replace B1 := B1.ext hx
    replace B2 := B2.ext hx
    replace B3 := B3.ext hx
    replace BX := BX.ext hx
    replace BL := BL.ext hx
    replace BN := BN.ext hx
    clear hx
    obtain ⟨k0, k1⟩ := B1.c2
    have kl := B1.lt
    obtain ⟨p0, p1, p2, p3, p4, p5, p6, p7⟩ := B2.c8
    have pl := B2.lt
    obtain ⟨q0, q1, q2, q3⟩ := B3.c4
    have ql := B3.lt
    obtain ⟨x0, x1, x2, x3, x4, x5⟩ := BX.c6
    have xl := BX.lt
    obtain ⟨m0, m1, m2, m3⟩ := BL.c4
    have ml := BL.lt
    obtain ⟨n0, n1, n2, n3⟩ := BN.c4
    have nl := BN.lt
    obtain ⟨i0, i1⟩ := BI.c2
    have il := BI.lt
    clear NS NA
    by_cases hye : ye = 0
    rotate_left
    ·have hr := hV.out
     rw [if_pos hye] at hr
     subst hr
     have gy : (ye == 0) = false := beq_eq_false_iff_ne.2 hye
     have gyn : (ye != 0) = true := by rw [bne, gy]; rfl
     clear hye hV hin
     have E := E.trans hE
     obtain ⟨x0', x1', x2', x3', x4', x5'⟩ := B4.c6
     have lx' := B4.lt
     have f0' := B4.frozen 0
     have f1' := B4.frozen 1
     have f2' := B4.frozen 2
     have f3' := B4.frozen 3
     have f4' := B4.frozen 4
     have f5' := B4.frozen 5
     have H9 := held6_all B4 (.int .i64 0) (.int .i64 0) (.int .i64 0) (.int .i64 0) (.int .i64 0) (.int .i64 0)
     have EF := ext6 E hbr (.int .i64 0) (.int .i64 0) (.int .i64 0) (.int .i64 0) (.int .i64 0) (.int .i64 0)
     obtain ⟨y0, y1, y2, y3, y4, y5⟩ := H9.c6
     go_wp2
     refine bodyPost_ret (v := .tuple #[.agg #[.int .i64 0, .int .i64 0, .int .i64 0, .int .i64 0, .int .i64 0, .int .i64 0], .int .i64 ye]) (by simp [results, Tryz.results27, go_sem, y0, y1, y2, y3, y4, y5]) rfl ⟨rfl, EF⟩
    subst hye
    have h0 := hV.out
    rw [if_neg (by decide)] at h0
    have hV2 := Lib.hid h0
    clear h0 hV
    have f0 := BX.frozen 2
    have f1 := BX.frozen 3
    go_upto_region 22 with (fail)
    have X1 := held6_2 BX (.int .i64 yn) (.int .i64 yd)
    have L1 := held_oth (held_oth BL hlx 2 (.int .i64 yn)) hlx 3 (.int .i64 yd)
    have N1 := held_oth (held_oth BN hnx 2 (.int .i64 yn)) hnx 3 (.int .i64 yd)
    have E1 := (hE.setCell (p := ⟨bx, 2, none⟩) hbx (.int .i64 yn)).setCell (p := ⟨bx, 3, none⟩) hbx (.int .i64 yd)
    clear k0 k1 kl p0 p1 p2 p3 p4 p5 p6 p7 pl q0 q1 q2 q3 ql x0 x1 x2 x3 x4 x5 xl m0 m1 m2 m3 ml n0 n1 n2 n3 nl i0 i1 il
    clear f0 f1 BI
    replace BX := X1
    replace BL := L1
    replace BN := N1
    replace hE := E1
    clear X1 L1 N1 E1
    replace C := C0.ext hE
    replace RB := RB0.ext hE
    replace B1 := A1.ext hE
    replace B2 := A2.ext hE
    replace B3 := A3.ext hE
    replace B4 := A4.ext hE
    generalize (World.setCell w19 _ _).setCell _ _ = w20 at *
    obtain ⟨k0, k1⟩ := B1.c2
    have kl := B1.lt
    obtain ⟨p0, p1, p2, p3, p4, p5, p6, p7⟩ := B2.c8
    have pl := B2.lt
    obtain ⟨q0, q1, q2, q3⟩ := B3.c4
    have ql := B3.lt
    obtain ⟨x0, x1, x2, x3, x4, x5⟩ := BX.c6
    have xl := BX.lt
    obtain ⟨m0, m1, m2, m3⟩ := BL.c4
    have ml := BL.lt
    obtain ⟨n0, n1, n2, n3⟩ := BN.c4
    have nl := BN.lt
    have hr := hV2.out
    subst hr
    clear hV2 hin
    have E := E.trans hE
    obtain ⟨x0', x1', x2', x3', x4', x5'⟩ := B4.c6
    have lx' := B4.lt
    have f0' := B4.frozen 0
    have f1' := B4.frozen 1
    have f2' := B4.frozen 2
    have f3' := B4.frozen 3
    have f4' := B4.frozen 4
    have f5' := B4.frozen 5
    have H9 := held6_all B4 (.int .i64 x.p.n) (.int .i64 x.p.d) (.int .i64 yn) (.int .i64 yd) (.int .i64 x.s.n) (.int .i64 x.s.d)
    have EF := ext6 E hbr (.int .i64 x.p.n) (.int .i64 x.p.d) (.int .i64 yn) (.int .i64 yd) (.int .i64 x.s.n) (.int .i64 x.s.d)
    obtain ⟨y0, y1, y2, y3, y4, y5⟩ := H9.c6
    go_wp2
    refine bodyPost_ret (v := .tuple #[.agg #[.int .i64 x.p.n, .int .i64 x.p.d, .int .i64 yn, .int .i64 yd, .int .i64 x.s.n, .int .i64 x.s.d], .int .i64 0]) (by simp [results, Tryz.results27, go_sem, y0, y1, y2, y3, y4, y5]) rfl ⟨rfl, EF⟩
   ·rw [decide_eq_true (show c.numV (f k).on ≤ c.numV on by omega)] at NIP
    have hV : Hid (R = if (accI x l.r (c.schV a (f k).on)).2 ≠ 0 then (db0, (accI x l.r (c.schV a (f k).on)).2) else
          if (paidX ⟨x.p, (accI x l.r (c.schV a (f k).on)).1, x.s⟩ (f k).n).2 ≠ 0 then (db0, (paidX ⟨x.p, (accI x l.r (c.schV a (f k).on)).1, x.s⟩ (f k).n).2)
          else runK c l.r f on (k + 1) (n - (k + 1)) (paidX ⟨x.p, (accI x l.r (c.schV a (f k).on)).1, x.s⟩ (f k).n).1 (f k).on) := by
     unfold Hid; rw [HT.out]; exact run_pay hlt hle
    clear HT
    refine wp_region_xw wn mixed (by kernel_rfl) (by repeat (first | exact Ext.refl _ | (refine Ext.alloc ?_ _) | (refine Ext.trans ?_ (by assumption)))) ?_
    intro hne hrx hry
    try simp only []
    try simp only [List.append_eq, List.cons_append, List.nil_append]
    skip
    repeat (first
     | go_big_quiet_skip
     | (go_big_quiet_want; go_big_quiet_op; go_big_quiet_on)
     | (go_big_quiet_want; go_big_quiet_op; apply Exists.intro; refine ⟨fun u => ?_, ?_⟩
        ·first
          | (go_at_call 68; (with_reducible refine Calls.mono (NIP _ (C.ext u.e)) ?_); rintro e w' ⟨rfl, hb⟩; exact ⟨rfl, u.back hb⟩)
        go_big_quiet_on))
    clear hne hry hrx
    refine wpQuiet_nil ?_
    intro w14 h14
    obtain ⟨hcw14, hfw14, hzw14⟩ := Ext.rules h14
    try simp only [World.size_alloc] at hzw14
    obtain ⟨hcbw14, hfbw14, hzbw14⟩ := Ext.rules (show Ext wn w14 from (by repeat (first | exact Ext.refl _ | (refine Ext.alloc ?_ _) | (refine Ext.trans ?_ (by assumption)))))
    clear hcw14 hfw14
    replace hE := hE.trans h14
    replace C := C.ext h14
    replace RB := RB.ext h14
    replace B4 := B4.ext h14
    replace B1 := B1.ext h14
    replace B2 := B2.ext h14
    replace B3 := B3.ext h14
    replace BX := BX.ext h14
    replace BL := BL.ext h14
    replace BN := BN.ext h14
    clear h14
    clear k0 k1 kl p0 p1 p2 p3 p4 p5 p6 p7 pl q0 q1 q2 q3 ql x0 x1 x2 x3 x4 x5 xl m0 m1 m2 m3 ml n0 n1 n2 n3 nl
    obtain ⟨k0, k1⟩ := B1.c2
    have kl := B1.lt
    obtain ⟨p0, p1, p2, p3, p4, p5, p6, p7⟩ := B2.c8
    have pl := B2.lt
    obtain ⟨q0, q1, q2, q3⟩ := B3.c4
    have ql := B3.lt
    obtain ⟨x0, x1, x2, x3, x4, x5⟩ := BX.c6
    have xl := BX.lt
    obtain ⟨m0, m1, m2, m3⟩ := BL.c4
    have ml := BL.lt
    obtain ⟨n0, n1, n2, n3⟩ := BN.c4
    have nl := BN.lt
    clear c0 c1 c2 c3 c4 c5 hb NIP
    obtain ⟨b', off', hTe, hb, hc⟩ := RB (by omega)
    obtain ⟨rfl, rfl⟩ : b = b' ∧ off = off' := by simpa using hTe
    have c0 : w14.cell? ⟨b, off + k * 6, none⟩ = some (.int .i64 (f k).on.y) := by simpa [payr] using hc k 0 _ hlt rfl
    have c1 : w14.cell? ⟨b, off + k * 6 + 1, none⟩ = some (.int .i64 (f k).on.m) := by simpa [payr] using hc k 1 _ hlt rfl
    have c2 : w14.cell? ⟨b, off + k * 6 + 2, none⟩ = some (.bool (f k).on.s) := by simpa [payr] using hc k 2 _ hlt rfl
    have c3 : w14.cell? ⟨b, off + k * 6 + 3, none⟩ = some (.int .i64 (f k).on.d) := by simpa [payr] using hc k 3 _ hlt rfl
    have c4 : w14.cell? ⟨b, off + k * 6 + 4, none⟩ = some (.int .i64 (f k).n.n) := by simpa [payr] using hc k 4 _ hlt rfl
    have c5 : w14.cell? ⟨b, off + k * 6 + 5, none⟩ = some (.int .i64 (f k).n.d) := by simpa [payr] using hc k 5 _ hlt rfl
    clear hc
    have f0 := BN.frozen 0
    have f1 := BN.frozen 1
    have f2 := BN.frozen 2
    have f3 := BN.frozen 3
    go_upto_region 17 with (fail)
    have N1 := held4_all BN (.int .i64 (f k).on.y) (.int .i64 (f k).on.m) (.bool (f k).on.s) (.int .i64 (f k).on.d)
    have X1 := oth4 BX (Ne.symm hnx) (.int .i64 (f k).on.y) (.int .i64 (f k).on.m) (.bool (f k).on.s) (.int .i64 (f k).on.d)
    have L1 := oth4 BL (Ne.symm hnl) (.int .i64 (f k).on.y) (.int .i64 (f k).on.m) (.bool (f k).on.s) (.int .i64 (f k).on.d)
    have E1 := ext4 hE hn0 (.int .i64 (f k).on.y) (.int .i64 (f k).on.m) (.bool (f k).on.s) (.int .i64 (f k).on.d)
    clear k0 k1 kl p0 p1 p2 p3 p4 p5 p6 p7 pl q0 q1 q2 q3 ql x0 x1 x2 x3 x4 x5 xl m0 m1 m2 m3 ml n0 n1 n2 n3 nl
    clear f0 f1 f2 f3 c0 c1 c2 c3 c4 c5 hb
    replace BX := X1
    replace BL := L1
    replace BN := N1
    replace hE := E1
    clear X1 L1 N1 E1
    replace C := C0.ext hE
    replace RB := RB0.ext hE
    replace B1 := A1.ext hE
    replace B2 := A2.ext hE
    replace B3 := A3.ext hE
    replace B4 := A4.ext hE
    generalize (((World.setCell w14 _ _).setCell _ _).setCell _ _).setCell _ _ = w15 at *
    obtain ⟨k0, k1⟩ := B1.c2
    have kl := B1.lt
    obtain ⟨p0, p1, p2, p3, p4, p5, p6, p7⟩ := B2.c8
    have pl := B2.lt
    obtain ⟨q0, q1, q2, q3⟩ := B3.c4
    have ql := B3.lt
    obtain ⟨x0, x1, x2, x3, x4, x5⟩ := BX.c6
    have xl := BX.lt
    obtain ⟨m0, m1, m2, m3⟩ := BL.c4
    have ml := BL.lt
    obtain ⟨n0, n1, n2, n3⟩ := BN.c4
    have nl := BN.lt
    have NS := fun v h => scheme_any_r A A' ca cb c a (f k).on v h
    have hsm := sch_small c a (f k).on
    have NA := fun w => accruedR_any x l.r (c.schV a (f k).on) hx hr (by omega) (by omega) w
    have hYin := accI_in x l.r (c.schV a (f k).on)
    generalize accI x l.r (c.schV a (f k).on) = Y at *
    obtain ⟨⟨yn, yd⟩, ye⟩ := Y
    simp only at NA hV hYin
    go_upto_region 18 with (go_at_call 69; (with_reducible refine Calls.mono (NS _ C) ?_); rintro e w17 ⟨rfl, hx⟩; replace hE := hE.trans hx; replace C := C.ext hx; replace RB := RB.ext hx; replace B4 := B4.ext hx; replace B1 := B1.ext hx; replace B2 := B2.ext hx; replace B3 := B3.ext hx; replace BX := BX.ext hx; replace BL := BL.ext hx; replace BN := BN.ext hx; clear hx; clear k0 k1 kl p0 p1 p2 p3 p4 p5 p6 p7 pl q0 q1 q2 q3 ql x0 x1 x2 x3 x4 x5 xl m0 m1 m2 m3 ml n0 n1 n2 n3 nl; obtain ⟨k0, k1⟩ := B1.c2; have kl := B1.lt; obtain ⟨p0, p1, p2, p3, p4, p5, p6, p7⟩ := B2.c8; have pl := B2.lt; obtain ⟨q0, q1, q2, q3⟩ := B3.c4; have ql := B3.lt; obtain ⟨x0, x1, x2, x3, x4, x5⟩ := BX.c6; have xl := BX.lt; obtain ⟨m0, m1, m2, m3⟩ := BL.c4; have ml := BL.lt; obtain ⟨n0, n1, n2, n3⟩ := BN.c4; have nl := BN.lt)
    go_upto_region 19 with (go_at_call 81; (with_reducible refine Calls.mono (NA _) ?_); rintro e w18 ⟨rfl, hx⟩; replace hE := hE.trans hx; replace C := C.ext hx; replace RB := RB.ext hx; replace B4 := B4.ext hx; replace B1 := B1.ext hx; replace B2 := B2.ext hx; replace B3 := B3.ext hx; replace BX := BX.ext hx; replace BL := BL.ext hx; replace BN := BN.ext hx; clear hx; clear k0 k1 kl p0 p1 p2 p3 p4 p5 p6 p7 pl q0 q1 q2 q3 ql x0 x1 x2 x3 x4 x5 xl m0 m1 m2 m3 ml n0 n1 n2 n3 nl; obtain ⟨k0, k1⟩ := B1.c2; have kl := B1.lt; obtain ⟨p0, p1, p2, p3, p4, p5, p6, p7⟩ := B2.c8; have pl := B2.lt; obtain ⟨q0, q1, q2, q3⟩ := B3.c4; have ql := B3.lt; obtain ⟨x0, x1, x2, x3, x4, x5⟩ := BX.c6; have xl := BX.lt; obtain ⟨m0, m1, m2, m3⟩ := BL.c4; have ml := BL.lt; obtain ⟨n0, n1, n2, n3⟩ := BN.c4; have nl := BN.lt)
    obtain ⟨w19, hv⟩ := zgE (w18.alloc (.cells #[.int .i64 yn, .int .i64 yd] 23))
    rw [← hv]
    have hx : Ext w18 w19 := by rw [hv]; exact (Ext.refl _).alloc _
    have BI : Held w19 w18.heap.size 23 #[.int .i64 yn, .int .i64 yd] := by rw [hv]; exact Held.new _ _ _
    clear hv
    generalize w18.heap.size = bb6 at *
    clear k0 k1 kl p0 p1 p2 p3 p4 p5 p6 p7 pl q0 q1 q2 q3 ql x0 x1 x2 x3 x4 x5 xl m0 m1 m2 m3 ml n0 n1 n2 n3 nl
    replace hE := hE.trans hx
    replace C := C.ext hx
    replace RB := RB.ext hx
    replace B4 := B4.ext hx
    replace B1 := B1.ext hx
    replace B2 := B2.ext hx
    replace B3 := B3.ext hx
    replace BX := BX.ext hx
    replace BL := BL.ext hx
    replace BN := BN.ext hx
    clear hx
    obtain ⟨k0, k1⟩ := B1.c2
    have kl := B1.lt
    obtain ⟨p0, p1, p2, p3, p4, p5, p6, p7⟩ := B2.c8
    have pl := B2.lt
    obtain ⟨q0, q1, q2, q3⟩ := B3.c4
    have ql := B3.lt
    obtain ⟨x0, x1, x2, x3, x4, x5⟩ := BX.c6
    have xl := BX.lt
    obtain ⟨m0, m1, m2, m3⟩ := BL.c4
    have ml := BL.lt
    obtain ⟨n0, n1, n2, n3⟩ := BN.c4
    have nl := BN.lt
    obtain ⟨i0, i1⟩ := BI.c2
    have il := BI.lt
    clear NS NA
    by_cases hye : ye = 0
    rotate_left
    ·have hr := hV.out
     rw [if_pos hye] at hr
     subst hr
     have gy : (ye == 0) = false := beq_eq_false_iff_ne.2 hye
     have gyn : (ye != 0) = true := by rw [bne, gy]; rfl
     clear hye hV hin
     have E := E.trans hE
     obtain ⟨x0', x1', x2', x3', x4', x5'⟩ := B4.c6
     have lx' := B4.lt
     have f0' := B4.frozen 0
     have f1' := B4.frozen 1
     have f2' := B4.frozen 2
     have f3' := B4.frozen 3
     have f4' := B4.frozen 4
     have f5' := B4.frozen 5
     have H9 := held6_all B4 (.int .i64 0) (.int .i64 0) (.int .i64 0) (.int .i64 0) (.int .i64 0) (.int .i64 0)
     have EF := ext6 E hbr (.int .i64 0) (.int .i64 0) (.int .i64 0) (.int .i64 0) (.int .i64 0) (.int .i64 0)
     obtain ⟨y0, y1, y2, y3, y4, y5⟩ := H9.c6
     go_wp2
     refine bodyPost_ret (v := .tuple #[.agg #[.int .i64 0, .int .i64 0, .int .i64 0, .int .i64 0, .int .i64 0, .int .i64 0], .int .i64 ye]) (by simp [results, Tryz.results27, go_sem, y0, y1, y2, y3, y4, y5]) rfl ⟨rfl, EF⟩
    subst hye
    have h0 := hV.out
    rw [if_neg (by decide)] at h0
    have hV2 := Lib.hid h0
    clear h0 hV
    have f0 := BX.frozen 2
    have f1 := BX.frozen 3
    go_upto_region 22 with (fail)
    have X1 := held6_2 BX (.int .i64 yn) (.int .i64 yd)
    have L1 := held_oth (held_oth BL hlx 2 (.int .i64 yn)) hlx 3 (.int .i64 yd)
    have N1 := held_oth (held_oth BN hnx 2 (.int .i64 yn)) hnx 3 (.int .i64 yd)
    have E1 := (hE.setCell (p := ⟨bx, 2, none⟩) hbx (.int .i64 yn)).setCell (p := ⟨bx, 3, none⟩) hbx (.int .i64 yd)
    clear k0 k1 kl p0 p1 p2 p3 p4 p5 p6 p7 pl q0 q1 q2 q3 ql x0 x1 x2 x3 x4 x5 xl m0 m1 m2 m3 ml n0 n1 n2 n3 nl i0 i1 il
    clear f0 f1 BI
    replace BX := X1
    replace BL := L1
    replace BN := N1
    replace hE := E1
    clear X1 L1 N1 E1
    replace C := C0.ext hE
    replace RB := RB0.ext hE
    replace B1 := A1.ext hE
    replace B2 := A2.ext hE
    replace B3 := A3.ext hE
    replace B4 := A4.ext hE
    generalize (World.setCell w19 _ _).setCell _ _ = w20 at *
    obtain ⟨k0, k1⟩ := B1.c2
    have kl := B1.lt
    obtain ⟨p0, p1, p2, p3, p4, p5, p6, p7⟩ := B2.c8
    have pl := B2.lt
    obtain ⟨q0, q1, q2, q3⟩ := B3.c4
    have ql := B3.lt
    obtain ⟨x0, x1, x2, x3, x4, x5⟩ := BX.c6
    have xl := BX.lt
    obtain ⟨m0, m1, m2, m3⟩ := BL.c4
    have ml := BL.lt
    obtain ⟨n0, n1, n2, n3⟩ := BN.c4
    have nl := BN.lt
    have NPD := fun w => paidR_any ⟨x.p, ⟨yn, yd⟩, x.s⟩ (f k).n ⟨hx.1, hYin, hx.3⟩ (hin k hlt) w
    have hPin := paidX_in ⟨x.p, ⟨yn, yd⟩, x.s⟩ (f k).n
    generalize paidX ⟨x.p, ⟨yn, yd⟩, x.s⟩ (f k).n = V at *
    obtain ⟨⟨⟨an, ad⟩, ⟨bn, bd⟩, ⟨sn, sd⟩⟩, ve⟩ := V
    simp only at NPD hV2 hPin
    go_upto_region 24 with (fail)
    refine wp_region_z 12 [8, 9, 10, 11] (fun x => Ext w20 x) mixed rfl ?_
    intro vz hvz
    have HC := hvz
    refine z_stills (g := 6) [0, 1, 2, 3, 4, 5] [_, _, _, _, _, _] ⟨rfl, rfl, rfl, rfl, rfl, rfl, trivial⟩ (by kernel_rfl) (by kernel_rfl) HC ?_
    simp only [zgA, zgB, zgC]
    apply Exists.intro
    refine ⟨fun u hu => ?_, ?_⟩
    ·obtain ⟨x0, x1, x2, x3, x4, x5⟩ := (BX.ext hu).c6
     have xl := (BX.ext hu).lt
     obtain ⟨b', off', hTe, hb, hc⟩ := (RB.ext hu) (by omega)
     obtain ⟨rfl, rfl⟩ : b = b' ∧ off = off' := by simpa using hTe
     have c0 : u.cell? ⟨b, off + k * 6, none⟩ = some (.int .i64 (f k).on.y) := by simpa [payr] using hc k 0 _ hlt rfl
     have c1 : u.cell? ⟨b, off + k * 6 + 1, none⟩ = some (.int .i64 (f k).on.m) := by simpa [payr] using hc k 1 _ hlt rfl
     have c2 : u.cell? ⟨b, off + k * 6 + 2, none⟩ = some (.bool (f k).on.s) := by simpa [payr] using hc k 2 _ hlt rfl
     have c3 : u.cell? ⟨b, off + k * 6 + 3, none⟩ = some (.int .i64 (f k).on.d) := by simpa [payr] using hc k 3 _ hlt rfl
     have c4 : u.cell? ⟨b, off + k * 6 + 4, none⟩ = some (.int .i64 (f k).n.n) := by simpa [payr] using hc k 4 _ hlt rfl
     have c5 : u.cell? ⟨b, off + k * 6 + 5, none⟩ = some (.int .i64 (f k).n.d) := by simpa [payr] using hc k 5 _ hlt rfl
     clear hc
     repeat (first | go_big_quiet_skip | (go_big_quiet_want; go_big_quiet_op; go_big_quiet_on))
     refine wpQuiet_nil ?_
     rfl
    refine z_one 6 rfl (by kernel_rfl) ?_
    simp only [zgA, zgB, zgC]
    go_wp2_with (go_at_call 82; (with_reducible refine Calls.mono (NPD _) ?_); rintro e wa ⟨rfl, h4⟩)
    replace HC := HC.trans h4
    clear h4
    refine onQ_in HC ?_
    refine z_stills (g := 4) [7] [_] ⟨rfl, trivial⟩ (by kernel_rfl) (by kernel_rfl) HC ?_
    simp only [zgA, zgB, zgC]
    apply Exists.intro
    refine ⟨fun u hu => ?_, ?_⟩
    ·skip
     repeat (first | go_big_quiet_skip | (go_big_quiet_want; go_big_quiet_op; go_big_quiet_on))
     refine wpQuiet_nil ?_
     rfl
    refine z_pures (g := 2) [8, 9] [_, _] ⟨rfl, rfl, trivial⟩ (by kernel_rfl) (by kernel_rfl) ?_
    simp only [zgA, zgB, zgC]
    apply Exists.intro
    refine ⟨fun u hu => ?_, ?_⟩
    ·skip
     repeat (first | go_big_quiet_skip | (go_big_quiet_want; go_big_quiet_op; go_big_quiet_on))
     refine wpQuiet_nil ?_
     rfl
    have Xa := BX.ext HC
    have La := BL.ext HC
    have Na := BN.ext HC
    have Ea := hE.trans HC
    have X1 := held6_all Xa (.int .i64 an) (.int .i64 ad) (.int .i64 bn) (.int .i64 bd) (.int .i64 sn) (.int .i64 sd)
    have L1 := oth6 La hlx (.int .i64 an) (.int .i64 ad) (.int .i64 bn) (.int .i64 bd) (.int .i64 sn) (.int .i64 sd)
    have N1 := oth6 Na hnx (.int .i64 an) (.int .i64 ad) (.int .i64 bn) (.int .i64 bd) (.int .i64 sn) (.int .i64 sd)
    have E1 := ext6 Ea hbx (.int .i64 an) (.int .i64 ad) (.int .i64 bn) (.int .i64 bd) (.int .i64 sn) (.int .i64 sd)
    refine z_end 10 rfl (by kernel_rfl) ?_
    simp only [zgA, zgB, zgC]
    have f0 := Xa.frozen 0
    have f1 := Xa.frozen 1
    have f2 := Xa.frozen 2
    have f3 := Xa.frozen 3
    have f4 := Xa.frozen 4
    have f5 := Xa.frozen 5
    obtain ⟨z0, z1, z2, z3, z4, z5⟩ := Xa.c6
    have lz := Xa.lt
    go_wp2
    clear f0 f1 f2 f3 f4 f5 z0 z1 z2 z3 z4 z5 lz
    refine onQ_last ?_
    refine z_end 11 rfl (by kernel_rfl) ?_
    simp only [zgA, zgB, zgC]
    go_wp2
    refine onQ_last ?_
    refine z_done (by kernel_rfl) ?_
    clear k0 k1 kl p0 p1 p2 p3 p4 p5 p6 p7 pl q0 q1 q2 q3 ql x0 x1 x2 x3 x4 x5 xl m0 m1 m2 m3 ml n0 n1 n2 n3 nl
    replace BX := X1
    replace BL := L1
    replace BN := N1
    replace hE := E1
    clear X1 L1 N1 E1 Xa La Na Ea
    replace C := C0.ext hE
    replace RB := RB0.ext hE
    replace B1 := A1.ext hE
    replace B2 := A2.ext hE
    replace B3 := A3.ext hE
    replace B4 := A4.ext hE
    generalize (((((World.setCell wa _ _).setCell _ _).setCell _ _).setCell _ _).setCell _ _).setCell _ _ = w24 at *
    clear HC hvz NPD
    obtain ⟨k0, k1⟩ := B1.c2
    have kl := B1.lt
    obtain ⟨p0, p1, p2, p3, p4, p5, p6, p7⟩ := B2.c8
    have pl := B2.lt
    obtain ⟨q0, q1, q2, q3⟩ := B3.c4
    have ql := B3.lt
    obtain ⟨x0, x1, x2, x3, x4, x5⟩ := BX.c6
    have xl := BX.lt
    obtain ⟨m0, m1, m2, m3⟩ := BL.c4
    have ml := BL.lt
    obtain ⟨n0, n1, n2, n3⟩ := BN.c4
    have nl := BN.lt
    by_cases hve : ve = 0
    rotate_left
    ·have hr := hV2.out
     rw [if_pos hve] at hr
     subst hr
     have gve : (ve == 0) = false := beq_eq_false_iff_ne.2 hve
     have gven : (ve != 0) = true := by rw [bne, gve]; rfl
     clear hve hV2 hin
     have E := E.trans hE
     obtain ⟨x0', x1', x2', x3', x4', x5'⟩ := B4.c6
     have lx' := B4.lt
     have f0' := B4.frozen 0
     have f1' := B4.frozen 1
     have f2' := B4.frozen 2
     have f3' := B4.frozen 3
     have f4' := B4.frozen 4
     have f5' := B4.frozen 5
     have H9 := held6_all B4 (.int .i64 0) (.int .i64 0) (.int .i64 0) (.int .i64 0) (.int .i64 0) (.int .i64 0)
     have EF := ext6 E hbr (.int .i64 0) (.int .i64 0) (.int .i64 0) (.int .i64 0) (.int .i64 0) (.int .i64 0)
     obtain ⟨y0, y1, y2, y3, y4, y5⟩ := H9.c6
     go_wp2
     refine bodyPost_ret (v := .tuple #[.agg #[.int .i64 0, .int .i64 0, .int .i64 0, .int .i64 0, .int .i64 0, .int .i64 0], .int .i64 ve]) (by simp [results, Tryz.results27, go_sem, y0, y1, y2, y3, y4, y5]) rfl ⟨rfl, EF⟩
    subst hve
    have h0 := hV2.out
    rw [if_neg (by decide)] at h0
    have hT2 := Lib.hid h0
    clear h0 hV2
    have f0 := BL.frozen 0
    have f1 := BL.frozen 1
    have f2 := BL.frozen 2
    have f3 := BL.frozen 3
    have L1 := held4_all BL (.int .i64 (f k).on.y) (.int .i64 (f k).on.m) (.bool (f k).on.s) (.int .i64 (f k).on.d)
    have X1 := oth4 BX (Ne.symm hlx) (.int .i64 (f k).on.y) (.int .i64 (f k).on.m) (.bool (f k).on.s) (.int .i64 (f k).on.d)
    have E1 := ext4 hE hbl (.int .i64 (f k).on.y) (.int .i64 (f k).on.m) (.bool (f k).on.s) (.int .i64 (f k).on.d)
    go_wp2
    exact ⟨⟨k + 1, by omega, by go_num, ⟨⟨an, ad⟩, ⟨bn, bd⟩, ⟨sn, sd⟩⟩, (f k).on, hPin, E1, X1, L1, hT2⟩, by simp [intOf]; omega⟩
theorem settleR_any (A A' : Option Addr) (ca cb : Nat) (c : Cal) (B : Option Addr) (n cap : Nat) (l : Ln) (f : Nat → Pay) (hp : l.p.In) (hr : l.r.In) (hin : ∀ i, i < n → (f i).n.In) (w : World) (hC : CalAt w A ca A' cb c) (hB : RowsAt w B n 6 (payr f)) (hn : n ≤ 9223372036854775807) (on : Dt) :
  Calls Tryz.prog 31 #[.agg #[.slice A c.nk ca, .slice A' c.ny cb], .agg #[.int .i64 l.p.n, .int .i64 l.p.d, .int .i64 l.r.n, .int .i64 l.r.d, .int .i64 l.f.y, .int .i64 l.f.m, .bool l.f.s, .int .i64 l.f.d], .slice B n cap, .agg #[.int .i64 on.y, .int .i64 on.m, .bool on.s, .int .i64 on.d]] w fun e w' => e = .returned (.tuple #[.agg #[.int .i64 (c.settleV l f n on).1.n, .int .i64 (c.settleV l f n on).1.d], .int .i64 (c.settleV l f n on).2]) ∧ Ext w w' := by
 have NO := fun v h1 h2 => owedR_any A A' ca cb c B n cap l f hp hr hin v h1 h2 hn on
 have hoi := owedV_in c l f n on hp
 obtain ⟨R, hR0⟩ := zgE (c.settleV l f n on)
 rw [← hR0]
 unfold Cal.settleV at hR0
 have HR := Lib.hid hR0
 clear hR0
 generalize c.owedV l f n on = V at *
 obtain ⟨⟨⟨an, ad⟩, ⟨bn, bd⟩, ⟨sn, sd⟩⟩, ve⟩ := V
 simp only at NO HR hoi
 have NA := fun w => addFR_any ⟨an, ad⟩ ⟨bn, bd⟩ hoi.1 hoi.2 w
 generalize addR ⟨an, ad⟩ ⟨bn, bd⟩ = S at *
 obtain ⟨⟨Sn, Sd⟩, Se⟩ := S
 simp only at NA HR
 go_enter Tryz.func31, Tryz.ntmps31
 go_upto_region 1 with (fail)
 obtain ⟨v, hv⟩ := zgE ((((w.alloc (.cells #[.slice A c.nk ca, .slice A' c.ny cb] 34)).alloc (.cells #[.int .i64 l.p.n, .int .i64 l.p.d, .int .i64 l.r.n, .int .i64 l.r.d, .int .i64 l.f.y, .int .i64 l.f.m, .bool l.f.s, .int .i64 l.f.d] 54)).alloc (.cells #[.int .i64 on.y, .int .i64 on.m, .bool on.s, .int .i64 on.d] 37)).alloc (.cells #[.int .i64 0, .int .i64 0] 23))
 rw [← hv]
 have E : Ext w v := by rw [hv]; exact ((((Ext.refl _).alloc _).alloc _).alloc _).alloc _
 have B1 : Held v w.heap.size 34 #[.slice A c.nk ca, .slice A' c.ny cb] := by rw [hv]; exact (((Held.new _ _ _).alloc _).alloc _).alloc _
 have B2 : Held v (w.heap.size + 1) 54 #[.int .i64 l.p.n, .int .i64 l.p.d, .int .i64 l.r.n, .int .i64 l.r.d, .int .i64 l.f.y, .int .i64 l.f.m, .bool l.f.s, .int .i64 l.f.d] := by rw [hv]; exact ((Held.at _ _ _ _ (by simp)).alloc _).alloc _
 have B3 : Held v (w.heap.size + 1 + 1) 37 #[.int .i64 on.y, .int .i64 on.m, .bool on.s, .int .i64 on.d] := by rw [hv]; exact (Held.at _ _ _ _ (by simp)).alloc _
 have B4 : Held v (w.heap.size + 1 + 1 + 1) 23 #[.int .i64 0, .int .i64 0] := by rw [hv]; exact Held.at _ _ _ _ (by simp)
 clear hv
 obtain ⟨b4, hb4⟩ := zgE (w.heap.size + 1 + 1 + 1)
 rw [← hb4] at B4 ⊢
 obtain ⟨b3, hb3⟩ := zgE (w.heap.size + 1 + 1)
 rw [← hb3] at B3 ⊢
 obtain ⟨b2, hb2⟩ := zgE (w.heap.size + 1)
 rw [← hb2] at B2 ⊢
 obtain ⟨b1, hb1⟩ := zgE (w.heap.size)
 rw [← hb1] at B1 ⊢
 have hbr : w.heap.size ≤ b4 := by omega
 have hbr1 : w.heap.size ≤ b1 := by omega
 have hbr2 : w.heap.size ≤ b2 := by omega
 have hbr3 : w.heap.size ≤ b3 := by omega
 have hn21 : b2 ≠ b1 := by omega
 have hn31 : b3 ≠ b1 := by omega
 have hn32 : b3 ≠ b2 := by omega
 have hn41 : b4 ≠ b1 := by omega
 have hn42 : b4 ≠ b2 := by omega
 have hn43 : b4 ≠ b3 := by omega
 clear hb1 hb2 hb3 hb4
 have C := hC.ext E
 have RB := hB.ext E
 clear hC hB
 obtain ⟨k0, k1⟩ := B1.c2
 have kl := B1.lt
 obtain ⟨p0, p1, p2, p3, p4, p5, p6, p7⟩ := B2.c8
 have pl := B2.lt
 obtain ⟨q0, q1, q2, q3⟩ := B3.c4
 have ql := B3.lt
 go_upto_region 2 with (go_at_call 27; (with_reducible refine Calls.mono (NO _ C RB) ?_); rintro e w1 ⟨rfl, hx⟩; replace E := E.trans hx; replace C := C.ext hx; replace RB := RB.ext hx; replace B4 := B4.ext hx; replace B1 := B1.ext hx; replace B2 := B2.ext hx; replace B3 := B3.ext hx; clear hx; clear k0 k1 kl p0 p1 p2 p3 p4 p5 p6 p7 pl q0 q1 q2 q3 ql; obtain ⟨k0, k1⟩ := B1.c2; have kl := B1.lt; obtain ⟨p0, p1, p2, p3, p4, p5, p6, p7⟩ := B2.c8; have pl := B2.lt; obtain ⟨q0, q1, q2, q3⟩ := B3.c4; have ql := B3.lt)
 obtain ⟨vb1, hv⟩ := zgE (w1.alloc (.cells #[.int .i64 an, .int .i64 ad, .int .i64 bn, .int .i64 bd, .int .i64 sn, .int .i64 sd] 60))
 rw [← hv]
 have hx : Ext w1 vb1 := by rw [hv]; exact (Ext.refl _).alloc _
 have BV : Held vb1 w1.heap.size 60 #[.int .i64 an, .int .i64 ad, .int .i64 bn, .int .i64 bd, .int .i64 sn, .int .i64 sd] := by rw [hv]; exact Held.new _ _ _
 clear hv
 generalize w1.heap.size = bb1 at *
 clear k0 k1 kl p0 p1 p2 p3 p4 p5 p6 p7 pl q0 q1 q2 q3 ql
 replace E := E.trans hx
 replace C := C.ext hx
 replace RB := RB.ext hx
 replace B4 := B4.ext hx
 replace B1 := B1.ext hx
 replace B2 := B2.ext hx
 replace B3 := B3.ext hx
 clear hx
 obtain ⟨k0, k1⟩ := B1.c2
 have kl := B1.lt
 obtain ⟨p0, p1, p2, p3, p4, p5, p6, p7⟩ := B2.c8
 have pl := B2.lt
 obtain ⟨q0, q1, q2, q3⟩ := B3.c4
 have ql := B3.lt
 obtain ⟨v0, v1, v2, v3, v4, v5⟩ := BV.c6
 have vl := BV.lt
 by_cases hve : ve = 0
 rotate_left
 ·have hr := HR.out
  rw [if_pos hve] at hr
  subst hr
  have gve : (ve == 0) = false := beq_eq_false_iff_ne.2 hve
  have gven : (ve != 0) = true := by rw [bne, gve]; rfl
  clear hve HR NA
  have f0 := B4.frozen 0
  have f1 := B4.frozen 1
  obtain ⟨x0, x1⟩ := B4.c2
  have lx := B4.lt
  have H4 := held_two B4 (.int .i64 0) (.int .i64 0)
  have EF := (E.setCell (p := ⟨b4, 0, none⟩) hbr (.int .i64 0)).setCell (p := ⟨b4, 1, none⟩) hbr (.int .i64 0)
  obtain ⟨y0, y1⟩ := H4.c2
  go_wp2
  refine bodyPost_ret (v := .tuple #[.agg #[.int .i64 0, .int .i64 0], .int .i64 ve]) (by simp [results, Tryz.results31, go_sem, y0, y1]) rfl ⟨rfl, EF⟩
 subst hve
 have hr := HR.out
 rw [if_neg (by decide)] at hr
 subst hr
 clear HR
 go_wp2_with (first | (go_at_call 85; (with_reducible refine Calls.mono (NA _) ?_); rintro e wt ⟨rfl, ht⟩; replace E := E.trans ht; replace B4 := B4.ext ht; have f0 := B4.frozen 0; have f1 := B4.frozen 1; obtain ⟨x0, x1⟩ := B4.c2; have lx := B4.lt))
 have H4 := held_two B4 (.int .i64 Sn) (.int .i64 Sd)
 have EF := (E.setCell (p := ⟨b4, 0, none⟩) hbr (.int .i64 Sn)).setCell (p := ⟨b4, 1, none⟩) hbr (.int .i64 Sd)
 obtain ⟨y0, y1⟩ := H4.c2
 go_wp2
 refine bodyPost_ret (v := .tuple #[.agg #[.int .i64 Sn, .int .i64 Sd], .int .i64 Se]) (by simp [results, Tryz.results31, go_sem, y0, y1]) rfl ⟨rfl, EF⟩
end Go.Proofs.YthmjpbafbohelaaGreatDoor
namespace Go.Proofs.YthmjpbafbohelaaGreatDoor
structure Lt where
 g : ByteArray
 n : Int
 deriving DecidableEq
/-- The order of goods: byte by byte. -/
def sLess (x y : ByteArray) : Bool := decide (x.toList < y.toList)
def lotOk (f : Nat → Lt) (k : Nat) : Bool := isName (f k).g && (decide (k = 0) || sLess (f (k - 1)).g (f k).g) && decide ((f k).n ≠ 0 ∧ (f k).n ≤ 1099511627776 ∧ -1099511627776 ≤ (f k).n)
def lotsOk (f : Nat → Lt) (n : Nat) : Bool := (List.range n).all (lotOk f)
def lotsE (f : Nat → Lt) (n : Nat) : Int := if 64 < n then 3 else if lotsOk f n then 0 else 51
theorem lotOk_eq (f : Nat → Lt) (k : Nat) : lotOk f k = !(!isName (f k).g || (decide (0 < k) && !sLess (f (k - 1)).g (f k).g) || ((f k).n == 0) || decide (1099511627776 < (f k).n) || decide ((f k).n < -1099511627776)) := by
 unfold lotOk
 rw [Bool.eq_iff_iff]
 cases isName (f k).g <;> cases sLess (f (k - 1)).g (f k).g <;> simp <;> omega
theorem lots_all {f : Nat → Lt} {n : Nat} (h : ∀ j, j < n → lotOk f j = true) (h64 : ¬ 64 < n) : lotsE f n = 0 := by
 unfold lotsE lotsOk
 rw [if_neg h64, if_pos (List.all_eq_true.2 fun j hj => h j (by simpa using hj))]
theorem lots_bad {f : Nat → Lt} {n k : Nat} (hk : k < n) (h : lotOk f k = false) (h64 : ¬ 64 < n) : lotsE f n = 51 := by
 unfold lotsE lotsOk
 rw [if_neg h64, if_neg (by rw [Bool.not_eq_true]; exact List.all_eq_false.2 ⟨k, by simpa using hk, by simp [h]⟩)]
theorem lots_many {f : Nat → Lt} {n : Nat} (h64 : 64 < n) : lotsE f n = 3 := by unfold lotsE; rw [if_pos h64]
end Go.Proofs.YthmjpbafbohelaaGreatDoor
namespace Go.Proofs.YthmjpbafbohelaaGreatDoor
/-- The good of two lots of which one may be zero. -/
def nameV (x y : Lt) : ByteArray := if x.g.size = 0 then y.g else x.g
def cmbV (sg : Int) (x y : Lt) : Int := x.n + sg * y.n
def cmbOk (sg : Int) (x y : Lt) : Bool := !(decide (1099511627776 < cmbV sg x y) || decide (cmbV sg x y < -1099511627776))
def zLt : Lt := ⟨⟨#[]⟩, 0⟩
/-- The pairs that a merge passes on. -/
def pairsM : Nat → List Lt → List Lt → List (Lt × Lt)
 | 0, _, _ => []
 | _ + 1, [], [] => []
 | m + 1, x :: a, [] => (x, zLt) :: pairsM m a []
 | m + 1, [], y :: b => (zLt, y) :: pairsM m [] b
 | m + 1, x :: a, y :: b =>
  if sLess x.g y.g then (x, zLt) :: pairsM m a (y :: b)
  else if sLess y.g x.g then (zLt, y) :: pairsM m (x :: a) b
  else (x, y) :: pairsM m a b
def keptM (sg : Int) (p : Lt × Lt) : List Lt := if cmbV sg p.1 p.2 = 0 then [] else [⟨nameV p.1 p.2, cmbV sg p.1 p.2⟩]
def outM (sg : Int) (L : List (Lt × Lt)) : List Lt := L.flatMap (keptM sg)
def allM (sg : Int) (L : List (Lt × Lt)) : Bool := L.all fun p => cmbOk sg p.1 p.2
def lotsL (f : Nat → Lt) (n : Nat) : List Lt := (List.range n).map f
def mergeL (f : Nat → Lt) (n : Nat) (g : Nat → Lt) (m : Nat) : List (Lt × Lt) := pairsM (n + m) (lotsL f n) (lotsL g m)
def twoE (f : Nat → Lt) (n : Nat) (g : Nat → Lt) (m : Nat) : Int := if lotsE f n ≠ 0 then lotsE f n else lotsE g m
def combE (sg : Int) (f : Nat → Lt) (n : Nat) (g : Nat → Lt) (m : Nat) : Int :=
 if twoE f n g m ≠ 0 then twoE f n g m else if allM sg (mergeL f n g m) then (if 64 < (outM sg (mergeL f n g m)).length then 3 else 0) else 6
def combL (sg : Int) (f : Nat → Lt) (n : Nat) (g : Nat → Lt) (m : Nat) : List Lt := if combE sg f n g m = 0 then outM sg (mergeL f n g m) else []
end Go.Proofs.YthmjpbafbohelaaGreatDoor
namespace Go.Proofs.YthmjpbafbohelaaGreatDoor
open Go Go.RowKit Go.Shelf
attribute [local go_sem] gv_yes
def lotr (f : Nat → Lt) (i : Nat) : List Value := [.string (f i).g, .int .i64 (f i).n]
theorem geq_s (x y : ByteArray) (w : World) : (binOp .geq 9 (.string x) (.string y)).run Tryz.prog w = .ok (.bool (!sLess x y)) w := by
 have h : (binOp .geq 9 (.string x) (.string y)).run Tryz.prog w = .ok (.bool (!Op.bytesLess x.toList y.toList)) w := rfl
 rw [h, bytesLess_eq]; rfl
theorem checkLots_any (T : Option Addr) (n cap : Nat) (f : Nat → Lt) (w : World) (hT : RowsAt w T n 2 (lotr f)) (hcap : n ≤ cap) (hn : n ≤ 9223372036854775807) :
  Calls Tryz.prog 169 #[.slice T n cap] w fun e w' => e = .returned (.int .i64 (lotsE f n)) ∧ Ext w w' := by
 have hge := geq_s
 go_enter Tryz.func169, Tryz.ntmps169
 by_cases h64 : 64 < n
 ·have g1 : decide ((64 : Int) < (n : Int)) = true := decide_eq_true (by omega)
  rw [lots_many h64]
  go_wp2
  go_ret
  exact ⟨rfl, Ext.refl _⟩
 ·have g1 : decide ((64 : Int) < (n : Int)) = false := decide_eq_false (by omega)
  go_upto_region 4 with (fail)
  go_loopw [10] (fun i wr => ∃ k : Nat, k ≤ n ∧ i = .int .i64 k ∧ Hid (∀ j, j < k → lotOk f j = true) ∧ Ext w wr) (fun i _ => n - (intOf i).toNat)
  case atStart => exact ⟨0, Nat.zero_le _, rfl, (fun j h => absurd h (by omega)), Ext.refl _⟩
  case round =>
   obtain ⟨k, hk, rfl, hall, hE⟩ := hrel
   obtain ⟨wo, rfl⟩ := zgE wr
   obtain ⟨hcwo, hfwo, hzwo⟩ := Ext.rules hE
   try simp only [World.size_alloc] at hzwo
   obtain ⟨hcbwo, hfbwo, hzbwo⟩ := Ext.rules (show Ext w wo from (by repeat (first | exact Ext.refl _ | (refine Ext.alloc ?_ _) | (refine Ext.trans ?_ (by assumption)))))
   clear hcwo hfwo
   by_cases hlt : k < n
   ·obtain ⟨b, off, rfl, hb, hc⟩ := hT (by omega)
    have hbo : b < wo.heap.size := Nat.lt_of_lt_of_le hb hE.size
    have c0 : w.cell? ⟨b, off + k * 2, none⟩ = some (.string (f k).g) := by simpa using hc k 0 _ hlt rfl
    have c1 : w.cell? ⟨b, off + k * 2 + 1, none⟩ = some (.int .i64 (f k).n) := hc k 1 _ hlt rfl
    have hd0 : 0 < k → w.cell? ⟨b, off + (IntKind.i64.wrap ((k : Int) - 1)).toNat * 2, none⟩ = some (.string (f (k - 1)).g) := fun h => by
     rw [show (IntKind.i64.wrap ((k : Int) - 1)).toNat = k - 1 from by rw [IntKind.wrap_i64]; omega]
     simpa using hc (k - 1) 0 _ (by omega) rfl
    have hin : 0 < k → (0 ≤ IntKind.i64.wrap ((k : Int) - 1) ∧ IntKind.i64.wrap ((k : Int) - 1) < (n : Int)) := fun h => by rw [IntKind.wrap_i64]; omega
    have HK : Hid (lotOk f k = _) := lotOk_eq f k
    clear hc
    go_upto_region 6 with (fail)
    refine wp_region_xw wo mixed (by kernel_rfl) (by repeat (first | exact Ext.refl _ | (refine Ext.alloc ?_ _) | (refine Ext.trans ?_ (by assumption)))) ?_
    intro hne hrx hry
    try simp only []
    try simp only [List.append_eq, List.cons_append, List.nil_append]
    have hrx0 := fun u o => hrx u (wo.heap.size) o (by first | omega | (simp; done) | (simp; omega))
    skip
    repeat (first
     | go_big_quiet_skip
     | ((with_reducible apply q_and)
        ·exact rfl
        ·exact rfl
        ·exact rfl
        intro K hK
        unfold Then; go_big_quiet_op; (with_reducible refine hK _ ?_); clear hK K)
     | ((with_reducible apply q_or)
        ·exact rfl
        ·exact rfl
        ·exact rfl
        intro K hK
        unfold Then; go_big_quiet_op; (with_reducible refine hK _ ?_); clear hK K)
     | (go_big_quiet_want; go_big_quiet_op; go_big_quiet_on)
     | (go_big_quiet_want; go_big_quiet_op; apply Exists.intro; refine ⟨fun u => ?_, ?_⟩
        ·first
          | (go_at_call 167; refine (isName_any _ _).mono ?_; rintro e w' ⟨rfl, rfl⟩; exact ⟨rfl, u, rfl⟩)
        go_big_quiet_on)
     | ((with_reducible apply q_and_g)
        ·first | exact wanted_pt rfl rfl rfl | exact wanted_pf rfl rfl rfl | exact wanted_gt rfl rfl rfl | exact wanted_gf rfl rfl rfl
        ·exact rfl
        ·exact rfl
        ·exact rfl
        intro K hK
        unfold Then; go_big_quiet_op; (with_reducible refine hK _ ?_); clear hK K)
     | ((with_reducible apply q_or_g)
        ·first | exact wanted_pt rfl rfl rfl | exact wanted_pf rfl rfl rfl | exact wanted_gt rfl rfl rfl | exact wanted_gf rfl rfl rfl
        ·exact rfl
        ·exact rfl
        ·exact rfl
        intro K hK
        unfold Then; go_big_quiet_op; (with_reducible refine hK _ ?_); clear hK K)
     | ((with_reducible apply q_sym)
        ·first | exact wanted_pt rfl rfl rfl | exact wanted_pf rfl rfl rfl | exact wanted_gt rfl rfl rfl | exact wanted_gf rfl rfl rfl
        apply Exists.intro
        refine And.intro (fun hgb => ?_) ?_
        ·intro u
         try simp at hgb
         go_simp
         try simp only [if_pos hsl]
         try simp only [if_pos (hin (by omega))]
         try (simp only [hd0 (by omega)]; go_simp)
         try (rw [hlook _ (Ext.trans (by repeat (first | exact Ext.refl _ | (refine Ext.alloc ?_ _) | (refine Ext.trans ?_ (by assumption)))) u.e) (hlk0 hgb)]; go_simp)
         first
          | (with_reducible exact rfl)
          | (go_at_call 167; refine (isName_any _ _).mono ?_; rintro e w' ⟨rfl, rfl⟩; exact ⟨rfl, u, rfl⟩)
        intro K hK
        unfold Then; go_big_quiet_op; (with_reducible refine hK _ ?_); clear hK K))
    clear hne hry hrx hrx0
    refine wpQuiet_nil ?_
    intro wn hwn
    obtain ⟨hcwn, hfwn, hzwn⟩ := Ext.rules hwn
    try simp only [World.size_alloc] at hzwn
    have hk0wn := fun o => hcwn (wo.heap.size) o (by first | omega | (simp; done) | (simp; omega))
    have hj0wn := fun o => hfwn (wo.heap.size) o (by first | omega | (simp; done) | (simp; omega))
    have hl0wn : wo.heap.size < wn.heap.size := (by first | omega | (simp; done) | (simp; omega))
    obtain ⟨hcbwn, hfbwn, hzbwn⟩ := Ext.rules (show Ext wo wn from (by repeat (first | exact Ext.refl _ | (refine Ext.alloc ?_ _) | (refine Ext.trans ?_ (by assumption)))))
    clear hcwn hfwn
    generalize hg : (!isName (f k).g || (decide (0 < k) && !sLess (f (k - 1)).g (f k).g) || ((f k).n == 0) || decide (1099511627776 < (f k).n) || decide ((f k).n < -1099511627776)) = g at *
    have E2 : Ext w wn := hE.trans (((Ext.refl _).alloc _).trans hwn)
    cases g
    ·go_wp2
     exact ⟨⟨k + 1, by omega, by go_num, fun j hj => by
      by_cases e : j = k
      ·subst e; exact HK.out
      ·exact hall.out j (by omega), E2⟩, by simp [intOf]; omega⟩
    ·go_wp2
     go_ret
     exact ⟨ret_int (lots_bad hlt HK.out h64).symm, E2⟩
   ·obtain rfl : k = n := by omega
    go_wp2
    go_ret
    exact ⟨ret_int (lots_all hall.out h64).symm, hE⟩
theorem checkTwo_any (T : Option Addr) (n cap : Nat) (f : Nat → Lt) (S : Option Addr) (m cm : Nat) (g : Nat → Lt) (w : World) (hT : RowsAt w T n 2 (lotr f)) (hcap : n ≤ cap) (hn : n ≤ 9223372036854775807) (hS : RowsAt w S m 2 (lotr g)) (hcm : m ≤ cm) (hm : m ≤ 9223372036854775807) :
  Calls Tryz.prog 171 #[.slice T n cap, .slice S m cm] w fun e w' => e = .returned (.int .i64 (twoE f n g m)) ∧ Ext w w' := by
 have N1 := checkLots_any T n cap f w hT hcap hn
 have N2 := fun w h => checkLots_any S m cm g w h hcm hm
 unfold twoE
 generalize lotsE f n = a at *
 generalize lotsE g m = b at *
 by_cases e0 : a = 0
 ·subst e0
  rw [if_neg (by simp)]
  go_enter Tryz.func171, Tryz.ntmps171
  go_wp2_with (first | (go_at_call 169; (with_reducible refine Calls.mono (N1) ?_); rintro e w1 ⟨rfl, h1⟩) | (go_at_call 169; (with_reducible refine Calls.mono (N2 _ (hS.ext h1)) ?_); rintro e w2 ⟨rfl, h2⟩))
  go_ret
  exact ⟨rfl, h1.trans h2⟩
 ·have g0 : (a == 0) = false := beq_eq_false_iff_ne.2 e0
  have g0n : (a != 0) = true := by rw [bne, g0]; rfl
  rw [if_pos e0]
  go_enter Tryz.func171, Tryz.ntmps171
  go_wp2_with (go_at_call 169; (with_reducible refine Calls.mono (N1) ?_); rintro e w1 ⟨rfl, h1⟩)
  go_ret
  exact ⟨rfl, h1⟩
theorem nameL_any (x y : Lt) (w : World) : Calls Tryz.prog 175 #[.agg #[.string x.g, .int .i64 x.n], .agg #[.string y.g, .int .i64 y.n]] w fun e w' => e = .returned (.string (nameV x y)) ∧ Ext w w' := by
 have hne : ∀ (s : ByteArray) (w : World), (binOp .neq 9 (.string s) (.string { data := #[] })).run Tryz.prog w = .ok (.bool (!(s.toList == ([] : List UInt8)))) w := fun s w => by
  have h : (binOp .neq 9 (.string s) (.string { data := #[] })).run Tryz.prog w = .ok (.bool (!(s.toList == ByteArray.toList { data := #[] }))) w := rfl
  rw [h, Lib.toList_data { data := #[] }]
 unfold nameV
 by_cases h : x.g.size = 0
 ·rw [if_pos h]
  have g0 : (x.g.toList == ([] : List UInt8)) = true := by
   have : x.g.toList = [] := by rw [← List.length_eq_zero_iff, Lib.toList_data]; simpa using h
   rw [this]; rfl
  clear h
  go_enter Tryz.func175, Tryz.ntmps175
  go_wp2
  go_ret
  exact ⟨rfl, (by repeat (first | exact Ext.refl _ | (refine Ext.alloc ?_ _) | (refine Ext.trans ?_ (by assumption))))⟩
 ·rw [if_neg h]
  have g0 : (x.g.toList == ([] : List UInt8)) = false := by
   rw [beq_eq_false_iff_ne]; intro hh
   apply h
   have := congrArg List.length hh
   rw [Lib.toList_data] at this
   simpa using this
  clear h
  go_enter Tryz.func175, Tryz.ntmps175
  go_wp2
  go_ret
  exact ⟨rfl, (by repeat (first | exact Ext.refl _ | (refine Ext.alloc ?_ _) | (refine Ext.trans ?_ (by assumption))))⟩
theorem byGood_any (x y : Lt) (w : World) : Calls Tryz.prog 173 #[.agg #[.string x.g, .int .i64 x.n], .agg #[.string y.g, .int .i64 y.n]] w fun e w' => e = .returned (.bool (sLess x.g y.g)) ∧ Ext w w' := by
 go_enter Tryz.func173, Tryz.ntmps173
 go_wp2
 go_ret
 exact ⟨ret_bool (bytesLess_eq _ _), (by repeat (first | exact Ext.refl _ | (refine Ext.alloc ?_ _) | (refine Ext.trans ?_ (by assumption))))⟩
end Go.Proofs.YthmjpbafbohelaaGreatDoor
namespace Go.Proofs.YthmjpbafbohelaaGreatDoor
open Go Go.RowKit
theorem eqIn_lot (w : World) (x0 y0 : ByteArray) (x1 y1 : Int) : (Op.equalIn 10000 122 (.agg #[.string x0, .int .i64 x1]) (.agg #[.string y0, .int .i64 y1])).run Tryz.prog w = .ok ((x0.toList == y0.toList) && (x1 == y1)) w := by
 go_simp
 by_cases h0 : x0.toList = y0.toList
 rotate_left
 ·simp [h0]
 by_cases h1 : x1 = y1
 rotate_left
 ·simp [h1]
 simp [h0, h1]
theorem neq_lot (w : World) (x0 y0 : ByteArray) (x1 y1 : Int) : (binOp .neq 122 (.agg #[.string x0, .int .i64 x1]) (.agg #[.string y0, .int .i64 y1])).run Tryz.prog w = .ok (.bool (!((x0.toList == y0.toList) && (x1 == y1)))) w := by rw [run_neq_struct, eqIn_lot]; rfl
theorem eqIn_ratio (w : World) (x0 y0 : Int) (x1 y1 : Int) : (Op.equalIn 10000 23 (.agg #[.int .i64 x0, .int .i64 x1]) (.agg #[.int .i64 y0, .int .i64 y1])).run Tryz.prog w = .ok ((x0 == y0) && (x1 == y1)) w := by
 go_simp
 by_cases h0 : x0 = y0
 rotate_left
 ·simp [h0]
 by_cases h1 : x1 = y1
 rotate_left
 ·simp [h1]
 simp [h0, h1]
theorem eql_ratio (w : World) (x0 y0 : Int) (x1 y1 : Int) : (binOp .eql 23 (.agg #[.int .i64 x0, .int .i64 x1]) (.agg #[.int .i64 y0, .int .i64 y1])).run Tryz.prog w = .ok (.bool ((x0 == y0) && (x1 == y1))) w := by rw [run_eql_struct, eqIn_ratio]; rfl
theorem neq_ratio (w : World) (x0 y0 : Int) (x1 y1 : Int) : (binOp .neq 23 (.agg #[.int .i64 x0, .int .i64 x1]) (.agg #[.int .i64 y0, .int .i64 y1])).run Tryz.prog w = .ok (.bool (!((x0 == y0) && (x1 == y1)))) w := by rw [run_neq_struct, eqIn_ratio]; rfl
theorem eqIn_debt (w : World) (x0 y0 : Int) (x1 y1 : Int) (x2 y2 : Int) (x3 y3 : Int) (x4 y4 : Int) (x5 y5 : Int) : (Op.equalIn 10000 60 (.agg #[.int .i64 x0, .int .i64 x1, .int .i64 x2, .int .i64 x3, .int .i64 x4, .int .i64 x5]) (.agg #[.int .i64 y0, .int .i64 y1, .int .i64 y2, .int .i64 y3, .int .i64 y4, .int .i64 y5])).run Tryz.prog w = .ok ((x0 == y0) && ((x1 == y1) && ((x2 == y2) && ((x3 == y3) && ((x4 == y4) && (x5 == y5)))))) w := by
 go_simp
 by_cases h0 : x0 = y0
 rotate_left
 ·simp [h0]
 by_cases h1 : x1 = y1
 rotate_left
 ·simp [h1]
 by_cases h2 : x2 = y2
 rotate_left
 ·simp [h2]
 by_cases h3 : x3 = y3
 rotate_left
 ·simp [h3]
 by_cases h4 : x4 = y4
 rotate_left
 ·simp [h4]
 by_cases h5 : x5 = y5
 rotate_left
 ·simp [h5]
 simp [h0, h1, h2, h3, h4, h5]
theorem eql_debt (w : World) (x0 y0 : Int) (x1 y1 : Int) (x2 y2 : Int) (x3 y3 : Int) (x4 y4 : Int) (x5 y5 : Int) : (binOp .eql 60 (.agg #[.int .i64 x0, .int .i64 x1, .int .i64 x2, .int .i64 x3, .int .i64 x4, .int .i64 x5]) (.agg #[.int .i64 y0, .int .i64 y1, .int .i64 y2, .int .i64 y3, .int .i64 y4, .int .i64 y5])).run Tryz.prog w = .ok (.bool ((x0 == y0) && ((x1 == y1) && ((x2 == y2) && ((x3 == y3) && ((x4 == y4) && (x5 == y5))))))) w := by rw [run_eql_struct, eqIn_debt]; rfl
theorem neq_debt (w : World) (x0 y0 : Int) (x1 y1 : Int) (x2 y2 : Int) (x3 y3 : Int) (x4 y4 : Int) (x5 y5 : Int) : (binOp .neq 60 (.agg #[.int .i64 x0, .int .i64 x1, .int .i64 x2, .int .i64 x3, .int .i64 x4, .int .i64 x5]) (.agg #[.int .i64 y0, .int .i64 y1, .int .i64 y2, .int .i64 y3, .int .i64 y4, .int .i64 y5])).run Tryz.prog w = .ok (.bool (!((x0 == y0) && ((x1 == y1) && ((x2 == y2) && ((x3 == y3) && ((x4 == y4) && (x5 == y5)))))))) w := by rw [run_neq_struct, eqIn_debt]; rfl
theorem eqIn_herd (w : World) (x0 y0 : Int) (x1 y1 : Int) (x2 y2 : Int) : (Op.equalIn 10000 101 (.agg #[.int .i64 x0, .int .i64 x1, .int .i64 x2]) (.agg #[.int .i64 y0, .int .i64 y1, .int .i64 y2])).run Tryz.prog w = .ok ((x0 == y0) && ((x1 == y1) && (x2 == y2))) w := by
 go_simp
 by_cases h0 : x0 = y0
 rotate_left
 ·simp [h0]
 by_cases h1 : x1 = y1
 rotate_left
 ·simp [h1]
 by_cases h2 : x2 = y2
 rotate_left
 ·simp [h2]
 simp [h0, h1, h2]
theorem neq_herd (w : World) (x0 y0 : Int) (x1 y1 : Int) (x2 y2 : Int) : (binOp .neq 101 (.agg #[.int .i64 x0, .int .i64 x1, .int .i64 x2]) (.agg #[.int .i64 y0, .int .i64 y1, .int .i64 y2])).run Tryz.prog w = .ok (.bool (!((x0 == y0) && ((x1 == y1) && (x2 == y2))))) w := by rw [run_neq_struct, eqIn_herd]; rfl
end Go.Proofs.YthmjpbafbohelaaGreatDoor
namespace Go.Proofs.YthmjpbafbohelaaGreatDoor
open Go Go.RowKit
theorem eqIn_pay (w : World) (x0 y0 : Int) (x1 y1 : Int) (x2 y2 : Bool) (x3 y3 : Int) (x4 y4 : Int) (x5 y5 : Int) : (Op.equalIn 10000 129 (.agg #[.int .i64 x0, .int .i64 x1, .bool x2, .int .i64 x3, .int .i64 x4, .int .i64 x5]) (.agg #[.int .i64 y0, .int .i64 y1, .bool y2, .int .i64 y3, .int .i64 y4, .int .i64 y5])).run Tryz.prog w = .ok ((x0 == y0) && ((x1 == y1) && ((x2 == y2) && ((x3 == y3) && ((x4 == y4) && (x5 == y5)))))) w := by
 go_simp
 by_cases h0 : x0 = y0
 rotate_left
 ·simp [h0]
 by_cases h1 : x1 = y1
 rotate_left
 ·simp [h1]
 by_cases h2 : x2 = y2
 rotate_left
 ·simp [h2]
 by_cases h3 : x3 = y3
 rotate_left
 ·simp [h3]
 by_cases h4 : x4 = y4
 rotate_left
 ·simp [h4]
 by_cases h5 : x5 = y5
 rotate_left
 ·simp [h5]
 simp [h0, h1, h2, h3, h4, h5]
theorem neq_pay (w : World) (x0 y0 : Int) (x1 y1 : Int) (x2 y2 : Bool) (x3 y3 : Int) (x4 y4 : Int) (x5 y5 : Int) : (binOp .neq 129 (.agg #[.int .i64 x0, .int .i64 x1, .bool x2, .int .i64 x3, .int .i64 x4, .int .i64 x5]) (.agg #[.int .i64 y0, .int .i64 y1, .bool y2, .int .i64 y3, .int .i64 y4, .int .i64 y5])).run Tryz.prog w = .ok (.bool (!((x0 == y0) && ((x1 == y1) && ((x2 == y2) && ((x3 == y3) && ((x4 == y4) && (x5 == y5)))))))) w := by rw [run_neq_struct, eqIn_pay]; rfl
end Go.Proofs.YthmjpbafbohelaaGreatDoor
namespace Go.Proofs.YthmjpbafbohelaaGreatDoor
open Go Go.RowKit
attribute [local go_sem] gv_yes
attribute [local go_sem high] neq_year
set_option maxHeartbeats 1000000 in
theorem eqTexts_any (A B : Option Addr) (n ca cb : Nat) (g : Nat → ByteArray) (w : World) (hA : RowsAt w A n 1 (strRow g)) (hB : RowsAt w B n 1 (strRow g)) (hn : n ≤ 9223372036854775807) :
  Calls Tryz.prog 86 #[.slice A n ca, .slice B n cb] w fun e w' => e = .returned (.bool true) ∧ Ext w w' := by
 go_enter Tryz.func86, Tryz.ntmps86
 go_wp2
 go_loopw [5] (fun i wr => ∃ k : Nat, k ≤ n ∧ i = .int .i64 k ∧ Ext w wr) (fun i _ => n - (intOf i).toNat)
 case atStart => exact ⟨0, Nat.zero_le _, rfl, Ext.refl _⟩
 case round =>
  obtain ⟨k, hk, rfl, hE⟩ := hrel
  obtain ⟨wo, rfl⟩ := zgE wr
  obtain ⟨hcwo, hfwo, hzwo⟩ := Ext.rules hE
  try simp only [World.size_alloc] at hzwo
  obtain ⟨hcbwo, hfbwo, hzbwo⟩ := Ext.rules (show Ext w wo from (by repeat (first | exact Ext.refl _ | (refine Ext.alloc ?_ _) | (refine Ext.trans ?_ (by assumption)))))
  clear hcwo hfwo
  by_cases hlt : k < n
  ·obtain ⟨b, off, rfl, hb, hc⟩ := hA (by omega)
   obtain ⟨b', off', rfl, hb', hc'⟩ := hB (by omega)
   have c0 : w.cell? ⟨b, off + k, none⟩ = some (.string (g k)) := by simpa using hc k 0 _ hlt rfl
   have c1 : w.cell? ⟨b', off' + k, none⟩ = some (.string (g k)) := by simpa using hc' k 0 _ hlt rfl
   clear hc hA hc' hB
   go_upto_region 6 with (fail)
   refine wp_region_xw w mixed (by kernel_rfl) (by repeat (first | exact Ext.refl _ | (refine Ext.alloc ?_ _) | (refine Ext.trans ?_ (by assumption)))) ?_
   intro hne hrx hry
   try simp only []
   try simp only [List.append_eq, List.cons_append, List.nil_append]
   skip
   repeat (first
    | go_big_quiet_skip
    | (go_big_quiet_want; go_big_quiet_op; go_big_quiet_on))
   clear hne hry hrx
   refine wpQuiet_nil ?_
   intro wn hwn
   obtain ⟨hcwn, hfwn, hzwn⟩ := Ext.rules hwn
   try simp only [World.size_alloc] at hzwn
   obtain ⟨hcbwn, hfbwn, hzbwn⟩ := Ext.rules (show Ext w wn from (by repeat (first | exact Ext.refl _ | (refine Ext.alloc ?_ _) | (refine Ext.trans ?_ (by assumption)))))
   clear hcwn hfwn
   go_wp2
   exact ⟨⟨k + 1, by omega, by go_num, (by repeat (first | exact Ext.refl _ | (refine Ext.alloc ?_ _) | (refine Ext.trans ?_ (by assumption))))⟩, by simp [intOf]; omega⟩
  ·go_wp2
   go_ret
   exact ⟨rfl, (by repeat (first | exact Ext.refl _ | (refine Ext.alloc ?_ _) | (refine Ext.trans ?_ (by assumption))))⟩
theorem sameCal_any (A A' B B' : Option Addr) (ca cb da db : Nat) (c : Cal) (w : World) (hC : CalAt w A ca A' cb c) (hD : CalAt w B da B' db c) :
  Calls Tryz.prog 33 #[.agg #[.slice A c.nk ca, .slice A' c.ny cb], .agg #[.slice B c.nk da, .slice B' c.ny db]] w fun e w' => e = .returned (.bool true) ∧ Ext w w' := by
 have hnk := hC.nk_le
 have hny := hC.ny_le
 have NT := fun v (h : RowsAt v A c.nk 1 (fun i => [.string (c.kg i)])) (h' : RowsAt v B c.nk 1 (fun i => [.string (c.kg i)])) => eqTexts_any A B c.nk ca da c.kg v h h' hnk
 go_enter Tryz.func33, Tryz.ntmps33
 go_upto_region 1 with (fail)
 obtain ⟨v, hv⟩ := zgE ((w.alloc (.cells #[.slice A c.nk ca, .slice A' c.ny cb] 34)).alloc (.cells #[.slice B c.nk da, .slice B' c.ny db] 34))
 rw [← hv]
 have E : Ext w v := by rw [hv]; exact ((Ext.refl _).alloc _).alloc _
 have B1 : Held v w.heap.size 34 #[.slice A c.nk ca, .slice A' c.ny cb] := by rw [hv]; exact (Held.new _ _ _).alloc _
 have B2 : Held v (w.heap.size + 1) 34 #[.slice B c.nk da, .slice B' c.ny db] := by rw [hv]; exact Held.at _ _ _ _ (by simp)
 clear hv
 have C := hC.ext E
 have D := hD.ext E
 clear hC hD
 generalize w.heap.size = b1 at *
 obtain ⟨k0, k1⟩ := B1.c2; have lk := B1.lt
 obtain ⟨p0, p1⟩ := B2.c2; have lp := B2.lt
 go_upto_region 2 with (go_at_call 86; (with_reducible refine Calls.mono (NT _ C.kings D.kings) ?_); rintro e v2 ⟨rfl, h⟩; clear k0 k1 lk p0 p1 lp; obtain ⟨k0, k1⟩ := (B1.ext h).c2; have lk := (B1.ext h).lt; obtain ⟨p0, p1⟩ := (B2.ext h).c2; have lp := (B2.ext h).lt)
 replace E := Ext.trans E h
 replace C := C.ext h
 replace D := D.ext h
 replace B1 := B1.ext h
 replace B2 := B2.ext h
 clear h
 have C0 := C
 have D0 := D
 clear k0 k1 lk p0 p1 lp
 obtain ⟨k0, k1⟩ := B1.c2; have lk := B1.lt
 obtain ⟨p0, p1⟩ := B2.c2; have lp := B2.lt
 go_wp2
 go_loopw [5] (fun i wr => ∃ k : Nat, k ≤ c.ny ∧ i = .int .i64 k ∧ Ext v2 wr) (fun i _ => c.ny - (intOf i).toNat)
 case atStart => exact ⟨0, Nat.zero_le _, rfl, Ext.refl _⟩
 case round =>
  clear k0 k1 lk p0 p1 lp
  obtain ⟨k, hk, rfl, hE⟩ := hrel
  obtain ⟨wo, rfl⟩ := zgE wr
  obtain ⟨k0, k1⟩ := (B1.ext hE).c2
  have lk := (B1.ext hE).lt
  obtain ⟨p0, p1⟩ := (B2.ext hE).c2
  have lp := (B2.ext hE).lt
  by_cases hlt : k < c.ny
  ·obtain ⟨b, off, rfl, hb, y0, y1, y2, y3⟩ := (C0.ext hE).year hlt
   obtain ⟨b', off', rfl, hb', z0, z1, z2, z3⟩ := (D0.ext hE).year hlt
   clear C D C0 D0 NT
   generalize c.yr k = y at *
   go_upto_region 6 with (fail)
   refine wp_region_xw wo mixed (by kernel_rfl) (by repeat (first | exact Ext.refl _ | (refine Ext.alloc ?_ _) | (refine Ext.trans ?_ (by assumption)))) ?_
   intro hne hrx hry
   try simp only []
   try simp only [List.append_eq, List.cons_append, List.nil_append]
   skip
   repeat (first
    | go_big_quiet_skip
    | (go_big_quiet_want; go_big_quiet_op; go_big_quiet_on))
   clear hne hry hrx
   refine wpQuiet_nil ?_
   intro wn hwn
   obtain ⟨hcwn, hfwn, hzwn⟩ := Ext.rules hwn
   try simp only [World.size_alloc] at hzwn
   obtain ⟨hcbwn, hfbwn, hzbwn⟩ := Ext.rules (show Ext wo wn from (by repeat (first | exact Ext.refl _ | (refine Ext.alloc ?_ _) | (refine Ext.trans ?_ (by assumption)))))
   clear hcwn hfwn
   go_wp2
   exact ⟨⟨k + 1, by omega, by go_num, hE.trans hwn⟩, by simp [intOf]; omega⟩
  ·go_wp2
   go_ret
   exact ⟨rfl, E.trans hE⟩
end Go.Proofs.YthmjpbafbohelaaGreatDoor
namespace Go.Proofs.YthmjpbafbohelaaGreatDoor
open Go Go.RowKit Go.Shelf
attribute [local go_sem] gv_yes
theorem own_ext {w w' : World} {base size n : Nat} {e : TypeId} {v : Value} {xs : List Value} (h : w.ownsRow base e size v n xs) (x : Ext w w') : w'.ownsRow base e size v n xs := h.kept (grown_of_ext x) (by
 rcases h.2 with ⟨rfl, _⟩ | ⟨g, cap, cur, rfl, _⟩
 ·exact .inl rfl
 ·exact .inr (by simp [Value.ownBlock]))
theorem grown_at (W : World) (b j : Nat) (v : Value) : W.grownBy (W.setCell ⟨b, j, none⟩ v) (some b) :=
 ⟨rfl, rfl, rfl, (KeepsWalks.setCell W _ v).size, fun k _ hk => Below.heap_setCell _ _ _ k (fun e => hk (by rw [e]))⟩
theorem info_lot : (Tryz.prog.info? 122).map (fun i => (i.zero, i.size, i.bytes)) = some (some (.agg #[.string ⟨#[]⟩, .int .i64 0]), 2, 24) := by kernel_rfl
theorem cells_lot (s : ByteArray) (n : Int) : ∀ u ∈ [Value.string s, .int .i64 n], u.oneCell' = true := by simp [Value.oneCell']
theorem held_newsL {w : World} {b : Nat} {t : TypeId} {cs : Array Value} (h : Held w b t cs) : ∀ j u, cs.toList[j]? = some u → w.cell? ((⟨b, 0, none⟩ : Addr).add j) = some u := fun j u hj => by
 have e : (⟨b, 0, none⟩ : Addr).add j = ⟨b, j, none⟩ := by unfold Addr.add; split <;> simp_all
 rw [e, h.cell j]
 simpa using hj
/-- What a step leaves that writes only the box bo and rows of its own from B0 on. -/
structure Pass (B0 bo : Nat) (w w' : World) : Prop where
 ext : ∀ W0 : World, Ext W0 w → W0.heap.size ≤ bo → W0.heap.size ≤ B0 → Ext W0 w'
 held : ∀ b t cs, Held w b t cs → b ≠ bo → b < B0 → Held w' b t cs
namespace Pass
variable {B0 bo : Nat} {w w' w'' : World}
theorem refl : Pass B0 bo w w := ⟨fun _ h _ _ => h, fun _ _ _ h _ _ => h⟩
theorem of_ext (x : Ext w w') : Pass B0 bo w w' := ⟨fun _ h _ _ => h.trans x, fun _ _ _ h _ _ => h.ext x⟩
theorem trans (h : Pass B0 bo w w') (k : Pass B0 bo w' w'') : Pass B0 bo w w'' := ⟨fun W0 h0 h1 h2 => k.ext W0 (h.ext W0 h0 h1 h2) h1 h2, fun b t cs h0 h1 h2 => k.held b t cs (h.held b t cs h0 h1 h2) h1 h2⟩
theorem grown {v : Value} {e : TypeId} {s n : Nat} {xs : List Value} (ho : w.ownsRow B0 e s v n xs) (hg : w.grownBy w' v.ownBlock) : Pass B0 bo w w' :=
 ⟨fun _ h0 _ h2 => h0.grown hg (fun q hq => Nat.le_trans h2 (row_type ho q hq).1), fun b _ _ h _ hb => h.kept hg (fun e => by have := (row_type ho b e.symm).1; omega)⟩
theorem set (j : Nat) (u : Value) : Pass B0 bo w (w.setCell ⟨bo, j, none⟩ u) :=
 ⟨fun _ h0 h1 _ => h0.setCell (p := ⟨bo, j, none⟩) h1 u, fun _ _ _ h hne _ => held_oth h hne j u⟩
end Pass
theorem held_one {W : World} {b : Nat} {t : TypeId} {v0 : Value} (h : Held W b t #[v0]) (u : Value) : Held (W.setCell ⟨b, 0, none⟩ u) b t #[u] := by unfold Held at h ⊢; simp [World.setCell, Array.getElem?_modify, h]
theorem own_setT {W : World} {b : Nat} {t e : TypeId} {cs : Array Value} (h : Held W b t cs) (hte : t ≠ e) {base size k : Nat} {v : Value} {xs : List Value} (hr : W.ownsRow base e size v k xs) (j : Nat) (u : Value) : (W.setCell ⟨b, j, none⟩ u).ownsRow base e size v k xs :=
 hr.kept (grown_at W b j u) (.inr (Ne.symm (h.not_row hte hr)))
def lcells (l : Lt) : List Value := [.string l.g, .int .i64 l.n]
theorem pass_any (sg : Int) (x y : Lt) (B0 bs bo : Nat) (F : Option Addr) (k cap : Nat) (xs : List Value) (w : World) (HS : Held w bs 3 #[.int .i64 sg]) (HO : Held w bo 42 #[.slice F k cap]) (hO : w.ownsRow B0 122 2 (.slice F k cap) k xs) (hk : k ≤ 1000) (_hlen : xs.length = k * 2) (hb0 : B0 ≤ w.heap.size) (hw1 : -9223372036854775808 ≤ sg * y.n) (hw2 : sg * y.n ≤ 9223372036854775807) (hw3 : -9223372036854775808 ≤ x.n + sg * y.n) (hw4 : x.n + sg * y.n ≤ 9223372036854775807) :
  Calls Tryz.prog 174 #[.agg #[.string x.g, .int .i64 x.n], .agg #[.string y.g, .int .i64 y.n], .pointer (some ⟨bs, 0, none⟩), .pointer (some ⟨bo, 0, none⟩)] w fun e w' => e = .returned (.bool (cmbOk sg x y)) ∧ Pass B0 bo w w' ∧ (cmbOk sg x y = true → ∃ F' k' cap', Held w' bo 42 #[.slice F' k' cap'] ∧ w'.ownsRow B0 122 2 (.slice F' k' cap') k' (xs ++ (keptM sg (x, y)).flatMap lcells)) := by
 obtain ⟨i0, hi, hz0, hz1, hz2⟩ := info_parts info_lot
 obtain ⟨N, hN⟩ := zgE (cmbV sg x y)
 have hm : IntKind.i64.wrap (sg * y.n) = sg * y.n := wrap64 hw1 hw2
 have hadd : IntKind.i64.wrap (x.n + sg * y.n) = N := by rw [hN]; exact wrap64 hw3 hw4
 have hxs : Hid (xs ++ (keptM sg (x, y)).flatMap lcells = if N = 0 then xs else xs ++ [.string (nameV x y), .int .i64 N]) := by
  unfold Hid keptM lcells
  rw [hN]
  by_cases h : cmbV sg x y = 0
  ·rw [if_pos h, if_pos h]; simp
  ·rw [if_neg h, if_neg h]; simp
 have hok : cmbOk sg x y = !(decide (1099511627776 < N) || decide (N < -1099511627776)) := by rw [hN]; rfl
 rw [hok]
 clear hok hN hw1 hw2 hw3 hw4
 go_enter Tryz.func174, Tryz.ntmps174
 go_upto_region 1 with (fail)
 obtain ⟨v, hv⟩ := zgE ((w.alloc (.cells #[.string x.g, .int .i64 x.n] 122)).alloc (.cells #[.string y.g, .int .i64 y.n] 122))
 rw [← hv]
 have E : Ext w v := by rw [hv]; exact ((Ext.refl _).alloc _).alloc _
 have B1 : Held v w.heap.size 122 #[.string x.g, .int .i64 x.n] := by rw [hv]; exact (Held.new _ _ _).alloc _
 have B2 : Held v (w.heap.size + 1) 122 #[.string y.g, .int .i64 y.n] := by rw [hv]; exact Held.at _ _ _ _ (by simp)
 clear hv
 obtain ⟨b2, hb2⟩ := zgE (w.heap.size + 1)
 rw [← hb2] at B2 ⊢
 obtain ⟨b1, hb1⟩ := zgE (w.heap.size)
 rw [← hb1] at B1 ⊢
 have hbr : w.heap.size ≤ b2 := by omega
 have hbr1 : w.heap.size ≤ b1 := by omega
 have hn21 : b2 ≠ b1 := by omega
 clear hb1 hb2
 have hrl : ∀ q, (Value.slice F k cap).ownBlock = some q → q < w.heap.size := fun q h => (hO.lt q h).2
 replace HS := HS.ext E
 replace HO := HO.ext E
 replace hO := own_ext hO E
 obtain ⟨p0, p1⟩ := B1.c2
 have lp := B1.lt
 obtain ⟨r0, r1⟩ := B2.c2
 have lr := B2.lt
 have s0 := HS.c1
 have ls := HS.lt
 by_cases g1 : 1099511627776 < N
 ·have d1 : decide (1099511627776 < N) = true := decide_eq_true g1
  clear g1
  go_wp2
  go_ret
  exact ⟨ret_bool (by rw [d1]; rfl), .of_ext E, fun h => by rw [d1] at h; cases h⟩
 ·have d1 : decide (1099511627776 < N) = false := decide_eq_false g1
  by_cases g2 : N < -1099511627776
  ·have d2 : decide (N < -1099511627776) = true := decide_eq_true g2
   clear g1 g2
   go_wp2
   go_ret
   exact ⟨ret_bool (by rw [d1, d2]; rfl), .of_ext E, fun h => by rw [d1, d2] at h; cases h⟩
  ·have d2 : decide (N < -1099511627776) = false := decide_eq_false g2
   clear g1 g2
   by_cases g3 : N = 0
   ·subst g3
    go_wp2
    go_ret
    refine ⟨rfl, .of_ext E, ?_⟩
    exact ⟨_, _, _, HO, by rw [hxs.out, if_pos trivial]; exact hO⟩
   ·have d3 : (N == 0) = false := beq_eq_false_iff_ne.2 g3
    have d3n : (N != 0) = true := by rw [bne, d3]; rfl
    rw [if_neg g3] at hxs
    clear g3
    go_upto_region 5 with (fail)
    clear p0 p1 lp r0 r1 lr s0 ls
    refine wp_region_z 9 [8] (fun u => Held u bo 42 #[.slice F k cap] ∧ Held u b1 122 #[.string x.g, .int .i64 x.n] ∧ Held u b2 122 #[.string y.g, .int .i64 y.n]) mixed rfl ?_
    intro vz hvz
    have HC := hvz
    replace HO := HO.ext hvz
    replace B1 := B1.ext hvz
    replace B2 := B2.ext hvz
    refine z_stills (g := 5) [0, 1, 2, 4] [_, _, _, _] ⟨rfl, rfl, rfl, rfl, trivial⟩ (by kernel_rfl) (by kernel_rfl) ⟨HO, B1, B2⟩ ?_
    simp only [zgA, zgB, zgC]
    apply Exists.intro
    refine ⟨fun u hu => ?_, ?_⟩
    ·have o0 := hu.1.c1
     have lo := hu.1.lt
     obtain ⟨p0, p1⟩ := hu.2.1.c2
     have lp := hu.2.1.lt
     obtain ⟨r0, r1⟩ := hu.2.2.c2
     have lr := hu.2.2.lt
     repeat (first | go_big_quiet_skip | (go_big_quiet_want; go_big_quiet_op; go_big_quiet_on))
     refine wpQuiet_nil ?_
     rfl
    refine z_one 3 rfl (by kernel_rfl) ?_
    simp only [zgA, zgB, zgC]
    go_wp2_with (go_at_call 175; (with_reducible refine Calls.mono (nameL_any x y _) ?_); rintro e wa ⟨rfl, h4⟩)
    replace HC := HC.trans h4
    replace HO := HO.ext h4
    replace B1 := B1.ext h4
    replace B2 := B2.ext h4
    clear h4
    refine onQ_in ⟨HO, B1, B2⟩ ?_
    refine z_stills (g := 3) [5] [_] ⟨rfl, trivial⟩ (by kernel_rfl) (by kernel_rfl) ⟨HO, B1, B2⟩ ?_
    simp only [zgA, zgB, zgC]
    apply Exists.intro
    refine ⟨fun u hu => ?_, ?_⟩
    ·have o0 := hu.1.c1
     have lo := hu.1.lt
     obtain ⟨p0, p1⟩ := hu.2.1.c2
     have lp := hu.2.1.lt
     obtain ⟨r0, r1⟩ := hu.2.2.c2
     have lr := hu.2.2.lt
     repeat (first | go_big_quiet_skip | (go_big_quiet_want; go_big_quiet_op; go_big_quiet_on))
     refine wpQuiet_nil ?_
     rfl
    refine z_one 6 rfl (by kernel_rfl) ?_
    simp only [zgA, zgB, zgC]
    go_wp2
    obtain ⟨bq, wb, hbq, hwb, Q6, HC', hx, hge⟩ := ex_new2 HC 122 #[.string (nameV x y), .int .i64 N]
    rw [← hbq, ← hwb]
    clear hbq hwb
    replace HC := HC'
    replace HO := HO.ext hx
    replace B1 := B1.ext hx
    replace B2 := B2.ext hx
    clear hx HC'
    refine onQ_in ⟨HO, B1, B2⟩ ?_
    refine z_one 7 rfl (by kernel_rfl) ?_
    simp only [zgA, zgB, zgC]
    go_wp2_with (at_builtin; refine wpList_append_own_at _ rfl _ _ 42 rfl B0 122 i0 (.agg #[.string ⟨#[]⟩, .int .i64 0]) 2 24 Tryz.underlying42 hi hz0 hz1 hz2 rfl (by decide) _ _ _ rfl (own_ext hO HC) ⟨bq, 0, none⟩ 1 1 [.string (nameV x y), .int .i64 N] rfl rfl (held_newsL Q6) (cells_lot _ _) (by unfold maxLen; omega) (by omega) (by have := HC.size; have := E.size; omega) ?_; intro vn wn hown hgrow _ _)
    obtain ⟨Fn, mn, rfl⟩ := own_sl hown
    replace B1 := B1.kept hgrow (fun e => by have := hrl b1 e.symm; omega)
    replace B2 := B2.kept hgrow (fun e => by have := hrl b2 e.symm; omega)
    replace HO := HO.kept hgrow (HO.not_row (by decide) (own_ext hO HC))
    have HP := (Pass.of_ext (E.trans HC)).trans (Pass.grown (bo := bo) (own_ext hO HC) hgrow)
    clear hgrow Q6
    refine onQ_in ⟨HO, B1, B2⟩ ?_
    refine z_end 8 rfl (by kernel_rfl) ?_
    simp only [zgA, zgB, zgC]
    have z0 := HO.frozen 0
    have o0 := HO.c1
    have lo := HO.lt
    go_wp2
    have HP2 := HP.trans (Pass.set 0 (.slice Fn (k + 1) mn))
    have HO2 := held_one HO (.slice Fn (k + 1) mn)
    have hown2 := own_setT HO (by decide) hown 0 (.slice Fn (k + 1) mn)
    clear HP hown HO B1 B2
    generalize World.setCell _ _ _ = wq at *
    clear z0 o0 lo
    refine onQ_last ?_
    refine z_done (by kernel_rfl) ?_
    go_wp2
    go_ret
    refine ⟨ret_bool (by rw [d1, d2]; rfl), HP2, fun _ => ?_⟩
    exact ⟨_, _, _, HO2, by rw [hxs.out]; exact hown2⟩
end Go.Proofs.YthmjpbafbohelaaGreatDoor
