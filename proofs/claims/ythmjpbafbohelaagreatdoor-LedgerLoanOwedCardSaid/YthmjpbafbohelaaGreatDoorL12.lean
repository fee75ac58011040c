/- Walks of the program's functions and plain facts, packed; proved: the lemmas below; no conditions but those that each states. -/
import Derived.Test.YthmjpbafbohelaaGreatDoorL11
set_option maxRecDepth 100000
set_option maxHeartbeats 4000000
namespace Go.Proofs.YthmjpbafbohelaaGreatDoor
open Go Go.RowKit Go.Shelf
attribute [local go_sem] gv_yes
theorem accV_in {c : Cal} {r : Rt} {x : Db} {a b : Dt} (h : x.In) : (accV c r x a b).1.In := by
 unfold accV
 split
 ·exact h
 ·split
  ·exact h
  ·exact ⟨h.p, addR_in _ _, h.s⟩
theorem paidV_in {x : Db} {n : Rt} (h : x.In) : (paidV x n).1.In := by
 unfold paidV
 split
 ·exact h
 ·split
  ·exact h
  ·split
   ·exact h
   ·exact ⟨payV_in.1, payV_in.1, addR_in _ _⟩
theorem owedRun_in (c : Cal) (r : Rt) (f : Nat → Pay) (on : Dt) : ∀ m k x a, Db.In x → (owedRun c r f on k m x a).1.In
 | 0, _, _, _, h => accV_in h
 | m + 1, k, x, a, h => by
  rw [owedRun]
  split
  ·exact accV_in h
  ·split
   ·exact accV_in h
   ·split
    ·exact paidV_in (accV_in h)
    ·exact owedRun_in c r f on m (k + 1) _ _ (paidV_in (accV_in h))
theorem owedV_in (c : Cal) (l : Ln) (f : Nat → Pay) (n : Nat) (on : Dt) (hp : l.p.In) : (c.owedV l f n on).1.p.In ∧ (c.owedV l f n on).1.i.In := by
 have h0 : db0.In := ⟨rat0_in, rat0_in, rat0_in⟩
 have h1 : (start l).In := ⟨hp, ratW0_in, ratW0_in⟩
 have H : (c.owedV l f n on).1.In := by
  unfold Cal.owedV
  split
  ·exact h0
  ·split
   ·exact h0
   ·split
    ·exact h0
    ·split
     ·exact h0
     ·exact owedRun_in c l.r f on n 0 _ _ h1
 exact ⟨H.p, H.i⟩
theorem owedF_any (A A' : Option Addr) (ca cb : Nat) (c : Cal) (B : Option Addr) (n cap : Nat) (l : Ln) (f : Nat → Pay) (hp : l.p.In) (hr : l.r.In) (hin : ∀ i, i < n → (f i).n.In) (w : World) (hC : CalAt w A ca A' cb c) (hB : RowsAt w B n 6 (payr f)) (hn : n ≤ 9223372036854775807) (hZ : Zro w) (on : Dt) :
  Calls Tryz.prog 26 #[.agg #[.slice A c.nk ca, .slice A' c.ny cb], .agg #[.int .i64 l.p.n, .int .i64 l.p.d, .int .i64 l.r.n, .int .i64 l.r.d, .int .i64 l.f.y, .int .i64 l.f.m, .bool l.f.s, .int .i64 l.f.d], .slice B n cap, .agg #[.int .i64 on.y, .int .i64 on.m, .bool on.s, .int .i64 on.d]] w fun e w' => e = .returned (.tuple #[.agg #[.int .i64 (c.owedV l f n on).1.p.n, .int .i64 (c.owedV l f n on).1.p.d, .int .i64 (c.owedV l f n on).1.i.n, .int .i64 (c.owedV l f n on).1.i.d, .int .i64 (c.owedV l f n on).1.s.n, .int .i64 (c.owedV l f n on).1.s.d], .int .i64 (c.owedV l f n on).2]) ∧ Ext w w' := by
 have NO := fun w h => opened_any A A' ca cb c w h
 have NC := fun hv w h1 h2 => checkLoanB_any A A' ca cb c B n cap l f hp hr hin w h1 h2 hn hv
 have NW := fun w h1 h2 z => owed_any A A' ca cb c B n cap l f hp hr hin w h1 h2 hn z on
 have ND := fun d w h => day_any A A' ca cb c d w h
 obtain ⟨R, hR0⟩ := zgE (c.owedV l f n on)
 rw [← hR0]
 have HR := Lib.hid hR0
 clear hR0
 go_enter Tryz.func26, Tryz.ntmps26
 go_upto_region 1 with (fail)
 obtain ⟨v, hv⟩ := zgE ((((w.alloc (.cells #[.slice A c.nk ca, .slice A' c.ny cb] 34)).alloc (.cells #[.int .i64 l.p.n, .int .i64 l.p.d, .int .i64 l.r.n, .int .i64 l.r.d, .int .i64 l.f.y, .int .i64 l.f.m, .bool l.f.s, .int .i64 l.f.d] 54)).alloc (.cells #[.int .i64 on.y, .int .i64 on.m, .bool on.s, .int .i64 on.d] 37)).alloc (.cells #[.int .i64 0, .int .i64 0, .int .i64 0, .int .i64 0, .int .i64 0, .int .i64 0] 60))
 rw [← hv]
 have E : Ext w v := by rw [hv]; exact ((((Ext.refl _).alloc _).alloc _).alloc _).alloc _
 have B1 : Held v w.heap.size 34 #[.slice A c.nk ca, .slice A' c.ny cb] := by rw [hv]; exact (((Held.new _ _ _).alloc _).alloc _).alloc _
 have B2 : Held v (w.heap.size + 1) 54 #[.int .i64 l.p.n, .int .i64 l.p.d, .int .i64 l.r.n, .int .i64 l.r.d, .int .i64 l.f.y, .int .i64 l.f.m, .bool l.f.s, .int .i64 l.f.d] := by rw [hv]; exact ((Held.at _ _ _ _ (by simp)).alloc _).alloc _
 have B3 : Held v (w.heap.size + 1 + 1) 37 #[.int .i64 on.y, .int .i64 on.m, .bool on.s, .int .i64 on.d] := by rw [hv]; exact (Held.at _ _ _ _ (by simp)).alloc _
 have B4 : Held v (w.heap.size + 1 + 1 + 1) 60 #[.int .i64 0, .int .i64 0, .int .i64 0, .int .i64 0, .int .i64 0, .int .i64 0] := by rw [hv]; exact Held.at _ _ _ _ (by simp)
 clear hv
 obtain ⟨b4, hb4⟩ := zgE (w.heap.size + 1 + 1 + 1)
 rw [← hb4] at B4 ⊢
 obtain ⟨b3, hb3⟩ := zgE (w.heap.size + 1 + 1)
 rw [← hb3] at B3 ⊢
 obtain ⟨b2, hb2⟩ := zgE (w.heap.size + 1)
 rw [← hb2] at B2 ⊢
 obtain ⟨b1, hb1⟩ := zgE (w.heap.size)
 rw [← hb1] at B1 ⊢
 have hbr : w.heap.size ≤ b4 := by omega
 have hbr1 : w.heap.size ≤ b1 := by omega
 have hbr2 : w.heap.size ≤ b2 := by omega
 have hbr3 : w.heap.size ≤ b3 := by omega
 have hn21 : b2 ≠ b1 := by omega
 have hn31 : b3 ≠ b1 := by omega
 have hn32 : b3 ≠ b2 := by omega
 have hn41 : b4 ≠ b1 := by omega
 have hn42 : b4 ≠ b2 := by omega
 have hn43 : b4 ≠ b3 := by omega
 clear hb1 hb2 hb3 hb4
 have RB := hB.ext E
 have Z0 := hZ.ext E
 have C := hC.ext E
 clear hB hZ
 obtain ⟨k0, k1⟩ := B1.c2
 have lk := B1.lt
 cases hv : c.valid
 ·have hr9 : R = (db0, 70) := by rw [HR.out]; unfold Cal.owedV Cal.loanE; rw [hv]; rfl
  have hc : c.chk = 70 := by unfold Cal.chk; rw [hv]; rfl
  simp only [hc] at NO
  subst hr9
  clear HR hc hv NC NW ND
  go_upto_region 2 with (go_at_call 63; (with_reducible refine Calls.mono (NO _ (hC.ext E)) ?_); rintro e w1 ⟨rfl, h1⟩)
  obtain ⟨v3, hv⟩ := zgE (w1.alloc (.cells #[.slice A c.nk ca, .slice A' c.ny cb] 108))
  rw [← hv]
  have h3 : Ext w1 v3 := by rw [hv]; exact (Ext.refl _).alloc _
  have H3 : Held v3 w1.heap.size 108 #[.slice A c.nk ca, .slice A' c.ny cb] := by rw [hv]; exact Held.new _ _ _
  clear hv
  generalize w1.heap.size = b9 at *
  replace E := (E.trans h1).trans h3
  replace B4 := (B4.ext h1).ext h3
  have z0 := B4.frozen 0
  have z1 := B4.frozen 1
  have z2 := B4.frozen 2
  have z3 := B4.frozen 3
  have z4 := B4.frozen 4
  have z5 := B4.frozen 5
  obtain ⟨x0, x1, x2, x3, x4, x5⟩ := B4.c6
  have lx := B4.lt
  have H9 := held6_all B4 (.int .i64 0) (.int .i64 0) (.int .i64 0) (.int .i64 0) (.int .i64 0) (.int .i64 0)
  have EF := ext6 E hbr (.int .i64 0) (.int .i64 0) (.int .i64 0) (.int .i64 0) (.int .i64 0) (.int .i64 0)
  obtain ⟨y0, y1, y2, y3, y4, y5⟩ := H9.c6
  go_wp2
  refine bodyPost_ret (v := .tuple #[.agg #[.int .i64 0, .int .i64 0, .int .i64 0, .int .i64 0, .int .i64 0, .int .i64 0], .int .i64 70]) (by simp [results, Tryz.results26, go_sem, y0, y1, y2, y3, y4, y5]) rfl ⟨rfl, EF⟩
 ·have hc : c.chk = 0 := by unfold Cal.chk; rw [hv]; rfl
  simp only [hc] at NO
  replace NC := NC hv
  clear hv hc
  go_upto_region 4 with (go_at_call 63; (with_reducible refine Calls.mono (NO _ (hC.ext E)) ?_); rintro e w1 ⟨rfl, h1⟩)
  obtain ⟨v3, hv⟩ := zgE (w1.alloc (.cells #[.slice A c.nk ca, .slice A' c.ny cb] 108))
  rw [← hv]
  have h3 : Ext w1 v3 := by rw [hv]; exact (Ext.refl _).alloc _
  have H3 : Held v3 w1.heap.size 108 #[.slice A c.nk ca, .slice A' c.ny cb] := by rw [hv]; exact Held.new _ _ _
  clear hv
  generalize w1.heap.size = b9 at *
  replace E := (E.trans h1).trans h3
  replace B2 := (B2.ext h1).ext h3
  replace B3 := (B3.ext h1).ext h3
  replace B4 := (B4.ext h1).ext h3
  replace RB := (RB.ext h1).ext h3
  replace Z0 := (Z0.ext h1).ext h3
  replace C := (C.ext h1).ext h3
  clear h1 h3 k0 k1 lk B1 NO
  obtain ⟨k0, k1⟩ := H3.c2
  have lk := H3.lt
  obtain ⟨p0, p1, p2, p3, p4, p5, p6, p7⟩ := B2.c8
  have lp := B2.lt
  have HE := Lib.hid (show c.loanE l f n = c.loanE l f n from rfl)
  obtain ⟨q, hq⟩ := zgE (c.loanE l f n)
  simp only [← hq] at NC
  replace hq := Lib.hid hq
  clear HE
  go_upto_region 5 with (go_at_call 77; (with_reducible refine Calls.mono (NC _ C RB) ?_); rintro e w2 ⟨rfl, h1⟩)
  replace E := E.trans h1
  replace B2 := B2.ext h1
  replace B3 := B3.ext h1
  replace B4 := B4.ext h1
  replace H3 := H3.ext h1
  replace RB := RB.ext h1
  replace Z0 := Z0.ext h1
  replace C := C.ext h1
  clear h1 k0 k1 lk p0 p1 p2 p3 p4 p5 p6 p7 lp NC
  by_cases e0 : q = 0
  rotate_left
  ·have g0 : (q == 0) = false := beq_eq_false_iff_ne.2 e0
   have g0n : (q != 0) = true := by rw [bne, g0]; rfl
   have hr9 : R = (db0, q) := by rw [HR.out, hq.out]; unfold Cal.owedV; rw [if_pos (by rw [← hq.out]; exact e0)]
   subst hr9
   clear HR e0 hq NW ND
   have z0 := B4.frozen 0
   have z1 := B4.frozen 1
   have z2 := B4.frozen 2
   have z3 := B4.frozen 3
   have z4 := B4.frozen 4
   have z5 := B4.frozen 5
   obtain ⟨x0, x1, x2, x3, x4, x5⟩ := B4.c6
   have lx := B4.lt
   have H9 := held6_all B4 (.int .i64 0) (.int .i64 0) (.int .i64 0) (.int .i64 0) (.int .i64 0) (.int .i64 0)
   have EF := ext6 E hbr (.int .i64 0) (.int .i64 0) (.int .i64 0) (.int .i64 0) (.int .i64 0) (.int .i64 0)
   obtain ⟨y0, y1, y2, y3, y4, y5⟩ := H9.c6
   go_wp2
   refine bodyPost_ret (v := .tuple #[.agg #[.int .i64 0, .int .i64 0, .int .i64 0, .int .i64 0, .int .i64 0, .int .i64 0], .int .i64 q]) (by simp [results, Tryz.results26, go_sem, y0, y1, y2, y3, y4, y5]) rfl ⟨rfl, EF⟩
  subst e0
  obtain ⟨k0, k1⟩ := H3.c2
  have lk := H3.lt
  obtain ⟨p0, p1, p2, p3, p4, p5, p6, p7⟩ := B2.c8
  have lp := B2.lt
  obtain ⟨o0, o1, o2, o3⟩ := B3.c4
  have lo := B3.lt
  have HR2 : Hid (R = if c.numV on = 0 then (db0, 71) else if c.numV on < c.numV l.f then (db0, 8) else runK c l.r f on 0 n (start l) l.f) := by
   unfold Hid
   by_cases d0 : c.numV on = 0
   ·rw [HR.out, if_pos d0]; unfold Cal.owedV; rw [← hq.out, if_neg (by simp), if_pos d0]
   ·by_cases d1 : c.numV on < c.numV l.f
    ·rw [HR.out, if_neg d0, if_pos d1]; unfold Cal.owedV; rw [← hq.out, if_neg (by simp), if_neg d0, if_pos d1]
    ·rw [HR.out, if_neg d0, if_neg d1]; exact owedV_run hq.out.symm d0 d1
  clear HR hq
  generalize runK c l.r f on 0 n (start l) l.f = Q at *
  have ND1 := fun w h => ND on w h
  have ND2 := fun w h => ND l.f w h
  clear ND
  generalize c.numV on = N at *
  generalize c.numV l.f = M at *
  go_upto_region 8 with (go_at_call 78; (with_reducible refine Calls.mono (ND1 _ C) ?_); rintro e w3 ⟨rfl, hd⟩)
  replace E := E.trans hd
  replace B2 := B2.ext hd
  replace B3 := B3.ext hd
  replace B4 := B4.ext hd
  replace H3 := H3.ext hd
  replace RB := RB.ext hd
  replace Z0 := Z0.ext hd
  replace C := C.ext hd
  clear hd k0 k1 lk p0 p1 p2 p3 p4 p5 p6 p7 lp o0 o1 o2 o3 lo ND1
  by_cases d0 : N = 0
  ·subst d0
   have hr9 := HR2.out
   rw [if_pos rfl] at hr9
   subst hr9
   clear HR2 NW ND2
   have z0 := B4.frozen 0
   have z1 := B4.frozen 1
   have z2 := B4.frozen 2
   have z3 := B4.frozen 3
   have z4 := B4.frozen 4
   have z5 := B4.frozen 5
   obtain ⟨x0, x1, x2, x3, x4, x5⟩ := B4.c6
   have lx := B4.lt
   have H9 := held6_all B4 (.int .i64 0) (.int .i64 0) (.int .i64 0) (.int .i64 0) (.int .i64 0) (.int .i64 0)
   have EF := ext6 E hbr (.int .i64 0) (.int .i64 0) (.int .i64 0) (.int .i64 0) (.int .i64 0) (.int .i64 0)
   obtain ⟨y0, y1, y2, y3, y4, y5⟩ := H9.c6
   go_wp2
   refine bodyPost_ret (v := .tuple #[.agg #[.int .i64 0, .int .i64 0, .int .i64 0, .int .i64 0, .int .i64 0, .int .i64 0], .int .i64 71]) (by simp [results, Tryz.results26, go_sem, y0, y1, y2, y3, y4, y5]) rfl ⟨rfl, EF⟩
  have d0b : (N == 0) = false := beq_eq_false_iff_ne.2 d0
  have HR3 : Hid (R = if N < M then (db0, 8) else Q) := by unfold Hid; rw [HR2.out, if_neg d0]
  clear HR2 d0
  obtain ⟨k0, k1⟩ := H3.c2
  have lk := H3.lt
  obtain ⟨p0, p1, p2, p3, p4, p5, p6, p7⟩ := B2.c8
  have lp := B2.lt
  obtain ⟨o0, o1, o2, o3⟩ := B3.c4
  have lo := B3.lt
  have DAYARM := ND2 _ C
  by_cases d1 : N < M
  ·have d1b : decide (N < M) = true := decide_eq_true d1
   have hr9 := HR3.out
   rw [if_pos d1] at hr9
   subst hr9
   clear HR3 NW d1
   go_upto_region 11 with (go_at_call 78; (with_reducible refine Calls.mono (ND2 _ C) ?_); rintro e w4 ⟨rfl, hd⟩)
   replace E := E.trans hd
   replace B4 := B4.ext hd
   have z0 := B4.frozen 0
   have z1 := B4.frozen 1
   have z2 := B4.frozen 2
   have z3 := B4.frozen 3
   have z4 := B4.frozen 4
   have z5 := B4.frozen 5
   obtain ⟨x0, x1, x2, x3, x4, x5⟩ := B4.c6
   have lx := B4.lt
   have H9 := held6_all B4 (.int .i64 0) (.int .i64 0) (.int .i64 0) (.int .i64 0) (.int .i64 0) (.int .i64 0)
   have EF := ext6 E hbr (.int .i64 0) (.int .i64 0) (.int .i64 0) (.int .i64 0) (.int .i64 0) (.int .i64 0)
   obtain ⟨y0, y1, y2, y3, y4, y5⟩ := H9.c6
   go_wp2
   refine bodyPost_ret (v := .tuple #[.agg #[.int .i64 0, .int .i64 0, .int .i64 0, .int .i64 0, .int .i64 0, .int .i64 0], .int .i64 8]) (by simp [results, Tryz.results26, go_sem, y0, y1, y2, y3, y4, y5]) rfl ⟨rfl, EF⟩
  ·have d1b : decide (N < M) = false := decide_eq_false d1
   have hr9 := HR3.out
   rw [if_neg d1] at hr9
   subst hr9
   clear HR3 d1
   go_upto_region 12 with (go_at_call 78; (with_reducible refine Calls.mono (ND2 _ C) ?_); rintro e w4 ⟨rfl, hd⟩)
   replace E := E.trans hd
   replace B2 := B2.ext hd
   replace B3 := B3.ext hd
   replace B4 := B4.ext hd
   replace H3 := H3.ext hd
   replace RB := RB.ext hd
   replace Z0 := Z0.ext hd
   replace C := C.ext hd
   clear hd k0 k1 lk p0 p1 p2 p3 p4 p5 p6 p7 lp o0 o1 o2 o3 lo ND2 DAYARM
   obtain ⟨k0, k1⟩ := H3.c2
   have lk := H3.lt
   obtain ⟨p0, p1, p2, p3, p4, p5, p6, p7⟩ := B2.c8
   have lp := B2.lt
   obtain ⟨o0, o1, o2, o3⟩ := B3.c4
   have lo := B3.lt
   obtain ⟨⟨⟨Pn, Pd⟩, ⟨In_, Id⟩, ⟨Sn, Sd⟩⟩, Re⟩ := R
   go_wp2_with (go_at_call 79; (with_reducible refine Calls.mono (NW _ C RB Z0) ?_); rintro e w5 ⟨rfl, h1⟩; replace E := E.trans h1; replace B4 := B4.ext h1; have z0 := B4.frozen 0; have z1 := B4.frozen 1; have z2 := B4.frozen 2; have z3 := B4.frozen 3; have z4 := B4.frozen 4; have z5 := B4.frozen 5; obtain ⟨x0, x1, x2, x3, x4, x5⟩ := B4.c6; have lx := B4.lt)
   have H9 := held6_all B4 (.int .i64 Pn) (.int .i64 Pd) (.int .i64 In_) (.int .i64 Id) (.int .i64 Sn) (.int .i64 Sd)
   have EF := ext6 E hbr (.int .i64 Pn) (.int .i64 Pd) (.int .i64 In_) (.int .i64 Id) (.int .i64 Sn) (.int .i64 Sd)
   obtain ⟨y0, y1, y2, y3, y4, y5⟩ := H9.c6
   go_wp2
   refine bodyPost_ret (v := .tuple #[.agg #[.int .i64 Pn, .int .i64 Pd, .int .i64 In_, .int .i64 Id, .int .i64 Sn, .int .i64 Sd], .int .i64 Re]) (by simp [results, Tryz.results26, go_sem, y0, y1, y2, y3, y4, y5]) rfl ⟨rfl, EF⟩
theorem settle_any (A A' : Option Addr) (ca cb : Nat) (c : Cal) (B : Option Addr) (n cap : Nat) (l : Ln) (f : Nat → Pay) (hp : l.p.In) (hr : l.r.In) (hin : ∀ i, i < n → (f i).n.In) (w : World) (hC : CalAt w A ca A' cb c) (hB : RowsAt w B n 6 (payr f)) (hn : n ≤ 9223372036854775807) (hZ : Zro w) (on : Dt) :
  Calls Tryz.prog 30 #[.agg #[.slice A c.nk ca, .slice A' c.ny cb], .agg #[.int .i64 l.p.n, .int .i64 l.p.d, .int .i64 l.r.n, .int .i64 l.r.d, .int .i64 l.f.y, .int .i64 l.f.m, .bool l.f.s, .int .i64 l.f.d], .slice B n cap, .agg #[.int .i64 on.y, .int .i64 on.m, .bool on.s, .int .i64 on.d]] w fun e w' => e = .returned (.tuple #[.agg #[.int .i64 (c.settleV l f n on).1.n, .int .i64 (c.settleV l f n on).1.d], .int .i64 (c.settleV l f n on).2]) ∧ Ext w w' := by
 have NO := fun w h1 h2 z => owedF_any A A' ca cb c B n cap l f hp hr hin w h1 h2 hn z on
 have hoi := owedV_in c l f n on hp
 obtain ⟨R, hR0⟩ := zgE (c.settleV l f n on)
 rw [← hR0]
 have HR := Lib.hid hR0
 clear hR0
 go_enter Tryz.func30, Tryz.ntmps30
 go_upto_region 1 with (fail)
 obtain ⟨v, hv⟩ := zgE ((((w.alloc (.cells #[.slice A c.nk ca, .slice A' c.ny cb] 34)).alloc (.cells #[.int .i64 l.p.n, .int .i64 l.p.d, .int .i64 l.r.n, .int .i64 l.r.d, .int .i64 l.f.y, .int .i64 l.f.m, .bool l.f.s, .int .i64 l.f.d] 54)).alloc (.cells #[.int .i64 on.y, .int .i64 on.m, .bool on.s, .int .i64 on.d] 37)).alloc (.cells #[.int .i64 0, .int .i64 0] 23))
 rw [← hv]
 have E : Ext w v := by rw [hv]; exact ((((Ext.refl _).alloc _).alloc _).alloc _).alloc _
 have B1 : Held v w.heap.size 34 #[.slice A c.nk ca, .slice A' c.ny cb] := by rw [hv]; exact (((Held.new _ _ _).alloc _).alloc _).alloc _
 have B2 : Held v (w.heap.size + 1) 54 #[.int .i64 l.p.n, .int .i64 l.p.d, .int .i64 l.r.n, .int .i64 l.r.d, .int .i64 l.f.y, .int .i64 l.f.m, .bool l.f.s, .int .i64 l.f.d] := by rw [hv]; exact ((Held.at _ _ _ _ (by simp)).alloc _).alloc _
 have B3 : Held v (w.heap.size + 1 + 1) 37 #[.int .i64 on.y, .int .i64 on.m, .bool on.s, .int .i64 on.d] := by rw [hv]; exact (Held.at _ _ _ _ (by simp)).alloc _
 have B4 : Held v (w.heap.size + 1 + 1 + 1) 23 #[.int .i64 0, .int .i64 0] := by rw [hv]; exact Held.at _ _ _ _ (by simp)
 clear hv
 obtain ⟨b4, hb4⟩ := zgE (w.heap.size + 1 + 1 + 1)
 rw [← hb4] at B4 ⊢
 obtain ⟨b3, hb3⟩ := zgE (w.heap.size + 1 + 1)
 rw [← hb3] at B3 ⊢
 obtain ⟨b2, hb2⟩ := zgE (w.heap.size + 1)
 rw [← hb2] at B2 ⊢
 obtain ⟨b1, hb1⟩ := zgE (w.heap.size)
 rw [← hb1] at B1 ⊢
 have hbr : w.heap.size ≤ b4 := by omega
 have hbr1 : w.heap.size ≤ b1 := by omega
 have hbr2 : w.heap.size ≤ b2 := by omega
 have hbr3 : w.heap.size ≤ b3 := by omega
 have hn21 : b2 ≠ b1 := by omega
 have hn31 : b3 ≠ b1 := by omega
 have hn32 : b3 ≠ b2 := by omega
 have hn41 : b4 ≠ b1 := by omega
 have hn42 : b4 ≠ b2 := by omega
 have hn43 : b4 ≠ b3 := by omega
 clear hb1 hb2 hb3 hb4
 have RB := hB.ext E
 have Z0 := hZ.ext E
 have C := hC.ext E
 clear hB hZ hC
 obtain ⟨k0, k1⟩ := B1.c2
 have lk := B1.lt
 obtain ⟨p0, p1, p2, p3, p4, p5, p6, p7⟩ := B2.c8
 have lp := B2.lt
 obtain ⟨o0, o1, o2, o3⟩ := B3.c4
 have lo := B3.lt
 have HR2 : Hid (R = if (c.owedV l f n on).2 ≠ 0 then (rat0, (c.owedV l f n on).2) else addR (c.owedV l f n on).1.p (c.owedV l f n on).1.i) := HR
 clear HR
 generalize c.owedV l f n on = Q at *
 obtain ⟨⟨⟨Pn, Pd⟩, ⟨In_, Id⟩, ⟨Sn, Sd⟩⟩, Re⟩ := Q
 obtain ⟨hi1, hi2⟩ := hoi
 simp only [] at HR2 NO hi1 hi2
 go_upto_region 2 with (go_at_call 26; (with_reducible refine Calls.mono (NO _ C RB Z0) ?_); rintro e w1 ⟨rfl, h1⟩)
 obtain ⟨v3, hv⟩ := zgE (w1.alloc (.cells #[.int .i64 Pn, .int .i64 Pd, .int .i64 In_, .int .i64 Id, .int .i64 Sn, .int .i64 Sd] 60))
 rw [← hv]
 have h3 : Ext w1 v3 := by rw [hv]; exact (Ext.refl _).alloc _
 have H3 : Held v3 w1.heap.size 60 #[.int .i64 Pn, .int .i64 Pd, .int .i64 In_, .int .i64 Id, .int .i64 Sn, .int .i64 Sd] := by rw [hv]; exact Held.new _ _ _
 clear hv
 generalize w1.heap.size = b9 at *
 replace E := (E.trans h1).trans h3
 replace B4 := (B4.ext h1).ext h3
 replace Z0 := (Z0.ext h1).ext h3
 clear h1 h3 k0 k1 lk B1 NO p0 p1 p2 p3 p4 p5 p6 p7 lp o0 o1 o2 o3 lo B2 B3 C RB
 by_cases e0 : Re = 0
 rotate_left
 ·have g0 : (Re == 0) = false := beq_eq_false_iff_ne.2 e0
  have g0n : (Re != 0) = true := by rw [bne, g0]; rfl
  have hr9 := HR2.out
  rw [if_pos e0] at hr9
  subst hr9
  clear HR2 e0
  have f0 := B4.frozen 0
  have f1 := B4.frozen 1
  obtain ⟨x0, x1⟩ := B4.c2
  have lx := B4.lt
  have H9 := held_two B4 (.int .i64 0) (.int .i64 0)
  have EF := (E.setCell (p := ⟨b4, 0, none⟩) hbr (.int .i64 0)).setCell (p := ⟨b4, 1, none⟩) hbr (.int .i64 0)
  obtain ⟨y0, y1⟩ := H9.c2
  go_wp2
  refine bodyPost_ret (v := .tuple #[.agg #[.int .i64 0, .int .i64 0], .int .i64 Re]) (by simp [results, Tryz.results30, go_sem, y0, y1]) rfl ⟨rfl, EF⟩
 subst e0
 have NS := fun w z => addF_any ⟨Pn, Pd⟩ ⟨In_, Id⟩ hi1 hi2 w z
 have hr9 := HR2.out
 rw [if_neg (by simp)] at hr9
 rw [← hr9] at NS
 clear HR2 hr9
 obtain ⟨⟨Rn, Rd⟩, Rc⟩ := R
 obtain ⟨k0, k1, k2, k3, k4, k5⟩ := H3.c6
 have lk := H3.lt
 go_wp2_with (first | (go_at_call 84; (with_reducible refine Calls.mono (NS _ Z0) ?_); rintro e wt ⟨rfl, ht⟩; replace E := E.trans ht; replace B4 := B4.ext ht; have f0 := B4.frozen 0; have f1 := B4.frozen 1; obtain ⟨x0, x1⟩ := B4.c2; have lx := B4.lt))
 have H9 := held_two B4 (.int .i64 Rn) (.int .i64 Rd)
 have EF := (E.setCell (p := ⟨b4, 0, none⟩) hbr (.int .i64 Rn)).setCell (p := ⟨b4, 1, none⟩) hbr (.int .i64 Rd)
 obtain ⟨y0, y1⟩ := H9.c2
 go_wp2
 refine bodyPost_ret (v := .tuple #[.agg #[.int .i64 Rn, .int .i64 Rd], .int .i64 Rc]) (by simp [results, Tryz.results30, go_sem, y0, y1]) rfl ⟨rfl, EF⟩
end Go.Proofs.YthmjpbafbohelaaGreatDoor
namespace Go.Proofs.YthmjpbafbohelaaGreatDoor
open Go Go.RowKit Go.Shelf
attribute [local go_sem] gv_yes
/-- The interest of a debt after some days; a debt after a payment. -/
def accI (x : Db) (r : Rt) (k : Int) : Rt × Int := if (intV x.p r k).2 ≠ 0 then (rat0, (intV x.p r k).2) else addR x.i (intV x.p r k).1
def paidX (x : Db) (n : Rt) : Db × Int :=
 if (payV x.i n).2 ≠ 0 then (db0, (payV x.i n).2)
 else if (payV x.p (payV x.i n).1.2).2 ≠ 0 then (db0, (payV x.p (payV x.i n).1.2).2)
 else (⟨(payV x.p (payV x.i n).1.2).1.1, (payV x.i n).1.1, (addR x.s (payV x.p (payV x.i n).1.2).1.2).1⟩, (addR x.s (payV x.p (payV x.i n).1.2).1.2).2)
theorem rest0_paid (c : Cal) (r : Rt) (f : Nat → Pay) (on : Dt) (i m : Nat) (x : Db) (lf : Rt) :
  rest0 c r f on i m x lf = if (paidX x lf).2 ≠ 0 then (db0, (paidX x lf).2) else runK c r f on (i + 1) m (paidX x lf).1 (f i).on := by
 unfold rest0 paidX
 by_cases h1 : (payV x.i lf).2 ≠ 0
 ·simp only [if_pos h1]
 ·simp only [if_neg h1]
  unfold rest1
  by_cases h2 : (payV x.p (payV x.i lf).1.2).2 ≠ 0
  ·simp only [if_pos h2]
  ·simp only [if_neg h2]
   rfl
theorem nrm_acc (c : Cal) (r : Rt) (x : Db) (a b : Dt) : nrm (accV c r x a b) = if (accI x r (c.schV a b)).2 ≠ 0 then (db0, (accI x r (c.schV a b)).2) else (⟨x.p, (accI x r (c.schV a b)).1, x.s⟩, 0) := by
 unfold accV accI nrm
 by_cases h1 : (intV x.p r (c.schV a b)).2 ≠ 0
 ·simp only [if_pos h1]
 ·simp only [if_neg h1]
  by_cases h2 : (addR x.i (intV x.p r (c.schV a b)).1).2 ≠ 0
  ·simp only [if_pos h2]
  ·simp only [if_neg h2]
   simp
theorem acc_err {c : Cal} {r : Rt} {x : Db} {a b : Dt} : (accV c r x a b).2 = (accI x r (c.schV a b)).2 := by
 unfold accV accI
 by_cases h1 : (intV x.p r (c.schV a b)).2 ≠ 0
 ·simp only [if_pos h1]
 ·simp only [if_neg h1]
  by_cases h2 : (addR x.i (intV x.p r (c.schV a b)).1).2 ≠ 0
  ·simp only [if_pos h2]
  ·simp only [if_neg h2]
   exact (Decidable.not_not.1 h2).symm
theorem acc_val {c : Cal} {r : Rt} {x : Db} {a b : Dt} (h : (accV c r x a b).2 = 0) : (accV c r x a b).1 = ⟨x.p, (accI x r (c.schV a b)).1, x.s⟩ := by
 unfold accV accI at *
 by_cases h1 : (intV x.p r (c.schV a b)).2 ≠ 0
 ·rw [if_pos h1] at h; exact absurd h h1
 ·rw [if_neg h1] at h
  simp only [if_neg h1]
  by_cases h2 : (addR x.i (intV x.p r (c.schV a b)).1).2 ≠ 0
  ·rw [if_pos h2] at h; exact absurd h h2
  ·simp only [if_neg h2]
theorem pay_in (x n : Rt) : (payV x n).1.1.In ∧ (payV x n).1.2.In := by
 have h0 : (ratW 0).In := by unfold Rt.In ratW; decide
 unfold payV
 split
 ·exact ⟨subR_in _ _, h0⟩
 ·exact ⟨h0, subR_in _ _⟩
theorem lessR_any (x n : Rt) (hx : x.In) (hn : n.In) (w : World) :
  Calls Tryz.prog 130 #[.agg #[.int .i64 x.n, .int .i64 x.d], .agg #[.int .i64 n.n, .int .i64 n.d]] w fun e w' => e = .returned (.tuple #[.agg #[.int .i64 (payV x n).1.1.n, .int .i64 (payV x n).1.1.d], .agg #[.int .i64 (payV x n).1.2.n, .int .i64 (payV x n).1.2.d], .int .i64 (payV x n).2]) ∧ Ext w w' := by
 have NC := fun w => cmpFR_any n x hn hx w
 have N1 := fun w => subFR_any x n hx hn w
 have N2 := fun w => subFR_any n x hn hx w
 obtain ⟨R, hR0⟩ := zgE (payV x n)
 rw [← hR0]
 unfold payV at hR0
 have HR := Lib.hid hR0
 clear hR0
 generalize cmpR n x = K at *
 obtain ⟨kc, ke⟩ := K
 simp only at NC HR
 go_enter Tryz.func130, Tryz.ntmps130
 go_upto_region 1 with (fail)
 obtain ⟨v, hv⟩ := zgE ((((w.alloc (.cells #[.int .i64 x.n, .int .i64 x.d] 23)).alloc (.cells #[.int .i64 n.n, .int .i64 n.d] 23)).alloc (.cells #[.int .i64 0, .int .i64 0] 23)).alloc (.cells #[.int .i64 0, .int .i64 0] 23))
 rw [← hv]
 have E : Ext w v := by rw [hv]; exact ((((Ext.refl _).alloc _).alloc _).alloc _).alloc _
 have B1 : Held v w.heap.size 23 #[.int .i64 x.n, .int .i64 x.d] := by rw [hv]; exact (((Held.new _ _ _).alloc _).alloc _).alloc _
 have B2 : Held v (w.heap.size + 1) 23 #[.int .i64 n.n, .int .i64 n.d] := by rw [hv]; exact ((Held.at _ _ _ _ (by simp)).alloc _).alloc _
 have B3 : Held v (w.heap.size + 1 + 1) 23 #[.int .i64 0, .int .i64 0] := by rw [hv]; exact (Held.at _ _ _ _ (by simp)).alloc _
 have B4 : Held v (w.heap.size + 1 + 1 + 1) 23 #[.int .i64 0, .int .i64 0] := by rw [hv]; exact Held.at _ _ _ _ (by simp)
 clear hv
 obtain ⟨b4, hb4⟩ := zgE (w.heap.size + 1 + 1 + 1)
 rw [← hb4] at B4 ⊢
 obtain ⟨b3, hb3⟩ := zgE (w.heap.size + 1 + 1)
 rw [← hb3] at B3 ⊢
 obtain ⟨b2, hb2⟩ := zgE (w.heap.size + 1)
 rw [← hb2] at B2 ⊢
 obtain ⟨b1, hb1⟩ := zgE (w.heap.size)
 rw [← hb1] at B1 ⊢
 have hbr : w.heap.size ≤ b4 := by omega
 have hbr1 : w.heap.size ≤ b1 := by omega
 have hbr2 : w.heap.size ≤ b2 := by omega
 have hbr3 : w.heap.size ≤ b3 := by omega
 have hn21 : b2 ≠ b1 := by omega
 have hn31 : b3 ≠ b1 := by omega
 have hn32 : b3 ≠ b2 := by omega
 have hn41 : b4 ≠ b1 := by omega
 have hn42 : b4 ≠ b2 := by omega
 have hn43 : b4 ≠ b3 := by omega
 clear hb1 hb2 hb3 hb4
 obtain ⟨k0, k1⟩ := B1.c2
 have kl := B1.lt
 obtain ⟨p0, p1⟩ := B2.c2
 have pl := B2.lt
 by_cases hk : kc < 0
 ·have g1 : decide (kc < 0) = true := decide_eq_true hk
  have hr := HR.out
  rw [if_pos hk] at hr
  clear HR hk N2
  generalize subR x n = S at *
  obtain ⟨⟨Sn, Sd⟩, Se⟩ := S
  subst hr
  go_upto_region 4 with (first | (go_at_call 106; (with_reducible refine Calls.mono (NC _) ?_); rintro e w1 ⟨rfl, hx⟩; replace E := E.trans hx; replace B3 := B3.ext hx; replace B4 := B4.ext hx; replace B1 := B1.ext hx; replace B2 := B2.ext hx; clear hx; clear k0 k1 kl p0 p1 pl; obtain ⟨k0, k1⟩ := B1.c2; have kl := B1.lt; obtain ⟨p0, p1⟩ := B2.c2; have pl := B2.lt) | (go_at_call 93; (with_reducible refine Calls.mono (N1 _) ?_); rintro e w2 ⟨rfl, hx⟩; replace E := E.trans hx; replace B3 := B3.ext hx; replace B4 := B4.ext hx; replace B1 := B1.ext hx; replace B2 := B2.ext hx; clear hx; clear k0 k1 kl p0 p1 pl; obtain ⟨k0, k1⟩ := B1.c2; have kl := B1.lt; obtain ⟨p0, p1⟩ := B2.c2; have pl := B2.lt))
  have h5 : w2.heap.size ≠ b3 ∧ w2.heap.size ≠ b4 ∧ w.heap.size ≤ w2.heap.size := ⟨by have := B3.lt; omega, by have := B4.lt; omega, by have := E.size; omega⟩
  obtain ⟨vb1, hv⟩ := zgE (w2.alloc (.cells #[.int .i64 Sn, .int .i64 Sd] 23))
  rw [← hv]
  have hx : Ext w2 vb1 := by rw [hv]; exact (Ext.refl _).alloc _
  have B5 : Held vb1 w2.heap.size 23 #[.int .i64 Sn, .int .i64 Sd] := by rw [hv]; exact Held.new _ _ _
  clear hv
  generalize w2.heap.size = bb1 at *
  clear k0 k1 kl p0 p1 pl
  replace E := E.trans hx
  replace B3 := B3.ext hx
  replace B4 := B4.ext hx
  replace B1 := B1.ext hx
  replace B2 := B2.ext hx
  clear hx
  obtain ⟨k0, k1⟩ := B1.c2
  have kl := B1.lt
  obtain ⟨p0, p1⟩ := B2.c2
  have pl := B2.lt
  obtain ⟨q0, q1⟩ := B5.c2
  have ql := B5.lt
  clear k0 k1 kl p0 p1 pl q0 q1 ql
  refine wp_region_z 6 [5] (fun x => Ext w x ∧ Held x bb1 23 #[.int .i64 Sn, .int .i64 Sd]) mixed rfl ?_
  intro vz hvz
  replace E := E.trans hvz
  replace B5 := B5.ext hvz
  replace B3 := B3.ext hvz
  replace B4 := B4.ext hvz
  clear hvz
  refine z_stills (g := 4) [0, 2] [_, _] ⟨rfl, rfl, trivial⟩ (by kernel_rfl) (by kernel_rfl) ⟨E, B5⟩ ?_
  simp only [zgA, zgB, zgC]
  apply Exists.intro
  refine ⟨fun u hu => ?_, ?_⟩
  ·obtain ⟨u0, u1⟩ := hu.2.c2
   have ul := hu.2.lt
   repeat (first | go_big_quiet_skip | (go_big_quiet_want; go_big_quiet_op; go_big_quiet_on))
   refine wpQuiet_nil ?_
   rfl
  refine z_one 1 rfl (by kernel_rfl) ?_
  simp only [zgA, zgB, zgC]
  go_wp2_with (go_at_call 53; (with_reducible refine Calls.mono (wholeR_any 0 _) ?_); rintro e wa ⟨rfl, h4⟩)
  replace E := E.trans h4
  replace B5 := B5.ext h4
  replace B3 := B3.ext h4
  replace B4 := B4.ext h4
  clear h4
  refine onQ_in ⟨E, B5⟩ ?_
  refine z_one 3 rfl (by kernel_rfl) ?_
  simp only [zgA, zgB, zgC]
  have f0 := B3.frozen 0
  have f1 := B3.frozen 1
  obtain ⟨x0, x1⟩ := B3.c2
  have lx := B3.lt
  have X := held_two B3 (.int .i64 Sn) (.int .i64 Sd)
  have E' := (E.setCell (p := ⟨b3, 0, none⟩) hbr3 (.int .i64 Sn)).setCell (p := ⟨b3, 1, none⟩) hbr3 (.int .i64 Sd)
  have X5 := held_oth (held_oth B5 h5.1 0 (.int .i64 Sn)) h5.1 1 (.int .i64 Sd)
  have XO := held_oth (held_oth B4 hn43 0 (.int .i64 Sn)) hn43 1 (.int .i64 Sd)
  go_wp2
  clear f0 f1 x0 x1 lx
  replace E := E'
  replace B3 := X
  replace B5 := X5
  replace B4 := XO
  clear E' X X5 XO
  generalize (World.setCell wa _ _).setCell _ _ = wb at *
  refine onQ_in ⟨E, B5⟩ ?_
  refine z_one 4 rfl (by kernel_rfl) ?_
  simp only [zgA, zgB, zgC]
  have f0 := B4.frozen 0
  have f1 := B4.frozen 1
  obtain ⟨x0, x1⟩ := B4.c2
  have lx := B4.lt
  have X := held_two B4 (.int .i64 0) (.int .i64 1)
  have E' := (E.setCell (p := ⟨b4, 0, none⟩) hbr (.int .i64 0)).setCell (p := ⟨b4, 1, none⟩) hbr (.int .i64 1)
  have X5 := held_oth (held_oth B5 h5.2.1 0 (.int .i64 0)) h5.2.1 1 (.int .i64 1)
  have XO := held_oth (held_oth B3 (Ne.symm hn43) 0 (.int .i64 0)) (Ne.symm hn43) 1 (.int .i64 1)
  go_wp2
  clear f0 f1 x0 x1 lx
  replace E := E'
  replace B4 := X
  replace B5 := X5
  replace B3 := XO
  clear E' X X5 XO
  generalize (World.setCell wb _ _).setCell _ _ = wc at *
  refine onQ_in ⟨E, B5⟩ ?_
  refine z_end 5 rfl (by kernel_rfl) ?_
  simp only [zgA, zgB, zgC]
  go_wp2
  refine onQ_last ?_
  refine z_done (by kernel_rfl) ?_
  obtain ⟨y0, y1⟩ := B3.c2
  obtain ⟨y2, y3⟩ := B4.c2
  go_wp2
  refine bodyPost_ret (v := .tuple #[.agg #[.int .i64 Sn, .int .i64 Sd], .agg #[.int .i64 0, .int .i64 1], .int .i64 Se]) (by simp [results, Tryz.results130, go_sem, y0, y1, y2, y3]) rfl ⟨rfl, E⟩
 ·have g1 : decide (kc < 0) = false := decide_eq_false hk
  have hr := HR.out
  rw [if_neg hk] at hr
  clear HR hk N1
  generalize subR n x = S at *
  obtain ⟨⟨Sn, Sd⟩, Se⟩ := S
  subst hr
  go_upto_region 6 with (first | (go_at_call 106; (with_reducible refine Calls.mono (NC _) ?_); rintro e w1 ⟨rfl, hx⟩; replace E := E.trans hx; replace B3 := B3.ext hx; replace B4 := B4.ext hx; replace B1 := B1.ext hx; replace B2 := B2.ext hx; clear hx; clear k0 k1 kl p0 p1 pl; obtain ⟨k0, k1⟩ := B1.c2; have kl := B1.lt; obtain ⟨p0, p1⟩ := B2.c2; have pl := B2.lt) | (go_at_call 93; (with_reducible refine Calls.mono (N2 _) ?_); rintro e w2 ⟨rfl, hx⟩; replace E := E.trans hx; replace B3 := B3.ext hx; replace B4 := B4.ext hx; replace B1 := B1.ext hx; replace B2 := B2.ext hx; clear hx; clear k0 k1 kl p0 p1 pl; obtain ⟨k0, k1⟩ := B1.c2; have kl := B1.lt; obtain ⟨p0, p1⟩ := B2.c2; have pl := B2.lt))
  have h5 : w2.heap.size ≠ b3 ∧ w2.heap.size ≠ b4 ∧ w.heap.size ≤ w2.heap.size := ⟨by have := B3.lt; omega, by have := B4.lt; omega, by have := E.size; omega⟩
  obtain ⟨vb1, hv⟩ := zgE (w2.alloc (.cells #[.int .i64 Sn, .int .i64 Sd] 23))
  rw [← hv]
  have hx : Ext w2 vb1 := by rw [hv]; exact (Ext.refl _).alloc _
  have B5 : Held vb1 w2.heap.size 23 #[.int .i64 Sn, .int .i64 Sd] := by rw [hv]; exact Held.new _ _ _
  clear hv
  generalize w2.heap.size = bb1 at *
  clear k0 k1 kl p0 p1 pl
  replace E := E.trans hx
  replace B3 := B3.ext hx
  replace B4 := B4.ext hx
  replace B1 := B1.ext hx
  replace B2 := B2.ext hx
  clear hx
  obtain ⟨k0, k1⟩ := B1.c2
  have kl := B1.lt
  obtain ⟨p0, p1⟩ := B2.c2
  have pl := B2.lt
  obtain ⟨q0, q1⟩ := B5.c2
  have ql := B5.lt
  clear k0 k1 kl p0 p1 pl q0 q1 ql
  refine wp_region_z 6 [5] (fun x => Ext w x ∧ Held x bb1 23 #[.int .i64 Sn, .int .i64 Sd]) mixed rfl ?_
  intro vz hvz
  replace E := E.trans hvz
  replace B5 := B5.ext hvz
  replace B3 := B3.ext hvz
  replace B4 := B4.ext hvz
  clear hvz
  refine z_stills (g := 4) [1, 2] [_, _] ⟨rfl, rfl, trivial⟩ (by kernel_rfl) (by kernel_rfl) ⟨E, B5⟩ ?_
  simp only [zgA, zgB, zgC]
  apply Exists.intro
  refine ⟨fun u hu => ?_, ?_⟩
  ·obtain ⟨u0, u1⟩ := hu.2.c2
   have ul := hu.2.lt
   repeat (first | go_big_quiet_skip | (go_big_quiet_want; go_big_quiet_op; go_big_quiet_on))
   refine wpQuiet_nil ?_
   rfl
  refine z_one 0 rfl (by kernel_rfl) ?_
  simp only [List.getElem_toArray, List.getElem_cons_zero]
  go_wp2_with (go_at_call 53; (with_reducible refine Calls.mono (wholeR_any 0 _) ?_); rintro e wa ⟨rfl, h4⟩)
  replace E := E.trans h4
  replace B5 := B5.ext h4
  replace B3 := B3.ext h4
  replace B4 := B4.ext h4
  clear h4
  refine onQ_in ⟨E, B5⟩ ?_
  refine z_one 3 rfl (by kernel_rfl) ?_
  simp only [zgA, zgB, zgC]
  have f0 := B3.frozen 0
  have f1 := B3.frozen 1
  obtain ⟨x0, x1⟩ := B3.c2
  have lx := B3.lt
  have X := held_two B3 (.int .i64 0) (.int .i64 1)
  have E' := (E.setCell (p := ⟨b3, 0, none⟩) hbr3 (.int .i64 0)).setCell (p := ⟨b3, 1, none⟩) hbr3 (.int .i64 1)
  have X5 := held_oth (held_oth B5 h5.1 0 (.int .i64 0)) h5.1 1 (.int .i64 1)
  have XO := held_oth (held_oth B4 hn43 0 (.int .i64 0)) hn43 1 (.int .i64 1)
  go_wp2
  clear f0 f1 x0 x1 lx
  replace E := E'
  replace B3 := X
  replace B5 := X5
  replace B4 := XO
  clear E' X X5 XO
  generalize (World.setCell wa _ _).setCell _ _ = wb at *
  refine onQ_in ⟨E, B5⟩ ?_
  refine z_one 4 rfl (by kernel_rfl) ?_
  simp only [zgA, zgB, zgC]
  have f0 := B4.frozen 0
  have f1 := B4.frozen 1
  obtain ⟨x0, x1⟩ := B4.c2
  have lx := B4.lt
  have X := held_two B4 (.int .i64 Sn) (.int .i64 Sd)
  have E' := (E.setCell (p := ⟨b4, 0, none⟩) hbr (.int .i64 Sn)).setCell (p := ⟨b4, 1, none⟩) hbr (.int .i64 Sd)
  have X5 := held_oth (held_oth B5 h5.2.1 0 (.int .i64 Sn)) h5.2.1 1 (.int .i64 Sd)
  have XO := held_oth (held_oth B3 (Ne.symm hn43) 0 (.int .i64 Sn)) (Ne.symm hn43) 1 (.int .i64 Sd)
  go_wp2
  clear f0 f1 x0 x1 lx
  replace E := E'
  replace B4 := X
  replace B5 := X5
  replace B3 := XO
  clear E' X X5 XO
  generalize (World.setCell wb _ _).setCell _ _ = wc at *
  refine onQ_in ⟨E, B5⟩ ?_
  refine z_end 5 rfl (by kernel_rfl) ?_
  simp only [zgA, zgB, zgC]
  go_wp2
  refine onQ_last ?_
  refine z_done (by kernel_rfl) ?_
  obtain ⟨y0, y1⟩ := B3.c2
  obtain ⟨y2, y3⟩ := B4.c2
  go_wp2
  refine bodyPost_ret (v := .tuple #[.agg #[.int .i64 0, .int .i64 1], .agg #[.int .i64 Sn, .int .i64 Sd], .int .i64 Se]) (by simp [results, Tryz.results130, go_sem, y0, y1, y2, y3]) rfl ⟨rfl, E⟩
theorem accruedR_any (x : Db) (r : Rt) (k : Int) (hx : x.In) (hr : r.In) (hk1 : -9223372036854775808 ≤ k) (hk2 : k ≤ 9223372036854775807) (w : World) :
  Calls Tryz.prog 81 #[.agg #[.int .i64 x.p.n, .int .i64 x.p.d, .int .i64 x.i.n, .int .i64 x.i.d, .int .i64 x.s.n, .int .i64 x.s.d], .agg #[.int .i64 r.n, .int .i64 r.d], .int .i64 k] w fun e w' => e = .returned (.tuple #[.agg #[.int .i64 (accI x r k).1.n, .int .i64 (accI x r k).1.d], .int .i64 (accI x r k).2]) ∧ Ext w w' := by
 have NI := fun w => interestR_any x.p r k hx.1 hr hk1 hk2 w
 have hii := intV_in x.p r k
 obtain ⟨R, hR0⟩ := zgE (accI x r k)
 rw [← hR0]
 unfold accI at hR0
 have HR := Lib.hid hR0
 clear hR0
 generalize intV x.p r k = I at *
 obtain ⟨⟨In, Id⟩, Ie⟩ := I
 simp only at NI HR
 have NA := fun w => addFR_any x.i ⟨In, Id⟩ hx.2 hii w
 generalize addR x.i ⟨In, Id⟩ = S at *
 obtain ⟨⟨Sn, Sd⟩, Se⟩ := S
 simp only at NA
 go_enter Tryz.func81, Tryz.ntmps81
 go_upto_region 1 with (fail)
 obtain ⟨v, hv⟩ := zgE (((w.alloc (.cells #[.int .i64 x.p.n, .int .i64 x.p.d, .int .i64 x.i.n, .int .i64 x.i.d, .int .i64 x.s.n, .int .i64 x.s.d] 60)).alloc (.cells #[.int .i64 r.n, .int .i64 r.d] 23)).alloc (.cells #[.int .i64 0, .int .i64 0] 23))
 rw [← hv]
 have E : Ext w v := by rw [hv]; exact (((Ext.refl _).alloc _).alloc _).alloc _
 have B1 : Held v w.heap.size 60 #[.int .i64 x.p.n, .int .i64 x.p.d, .int .i64 x.i.n, .int .i64 x.i.d, .int .i64 x.s.n, .int .i64 x.s.d] := by rw [hv]; exact ((Held.new _ _ _).alloc _).alloc _
 have B2 : Held v (w.heap.size + 1) 23 #[.int .i64 r.n, .int .i64 r.d] := by rw [hv]; exact (Held.at _ _ _ _ (by simp)).alloc _
 have B3 : Held v (w.heap.size + 1 + 1) 23 #[.int .i64 0, .int .i64 0] := by rw [hv]; exact Held.at _ _ _ _ (by simp)
 clear hv
 obtain ⟨b3, hb3⟩ := zgE (w.heap.size + 1 + 1)
 rw [← hb3] at B3 ⊢
 obtain ⟨b2, hb2⟩ := zgE (w.heap.size + 1)
 rw [← hb2] at B2 ⊢
 obtain ⟨b1, hb1⟩ := zgE (w.heap.size)
 rw [← hb1] at B1 ⊢
 have hbr : w.heap.size ≤ b3 := by omega
 have hbr1 : w.heap.size ≤ b1 := by omega
 have hbr2 : w.heap.size ≤ b2 := by omega
 have hn21 : b2 ≠ b1 := by omega
 have hn31 : b3 ≠ b1 := by omega
 have hn32 : b3 ≠ b2 := by omega
 clear hb1 hb2 hb3
 obtain ⟨k0, k1, k2, k3, k4, k5⟩ := B1.c6
 have kl := B1.lt
 obtain ⟨p0, p1⟩ := B2.c2
 have pl := B2.lt
 go_upto_region 2 with (go_at_call 12; (with_reducible refine Calls.mono (NI _) ?_); rintro e w1 ⟨rfl, hx⟩; replace E := E.trans hx; replace B3 := B3.ext hx; replace B1 := B1.ext hx; replace B2 := B2.ext hx; clear hx; clear k0 k1 k2 k3 k4 k5 kl p0 p1 pl; obtain ⟨k0, k1, k2, k3, k4, k5⟩ := B1.c6; have kl := B1.lt; obtain ⟨p0, p1⟩ := B2.c2; have pl := B2.lt)
 obtain ⟨vb1, hv⟩ := zgE (w1.alloc (.cells #[.int .i64 In, .int .i64 Id] 23))
 rw [← hv]
 have hx : Ext w1 vb1 := by rw [hv]; exact (Ext.refl _).alloc _
 have BI : Held vb1 w1.heap.size 23 #[.int .i64 In, .int .i64 Id] := by rw [hv]; exact Held.new _ _ _
 clear hv
 generalize w1.heap.size = bb1 at *
 clear k0 k1 k2 k3 k4 k5 kl p0 p1 pl
 replace E := E.trans hx
 replace B3 := B3.ext hx
 replace B1 := B1.ext hx
 replace B2 := B2.ext hx
 clear hx
 obtain ⟨k0, k1, k2, k3, k4, k5⟩ := B1.c6
 have kl := B1.lt
 obtain ⟨p0, p1⟩ := B2.c2
 have pl := B2.lt
 obtain ⟨q0, q1⟩ := BI.c2
 have ql := BI.lt
 by_cases hIe : Ie = 0
 rotate_left
 ·have hr := HR.out
  rw [if_pos hIe] at hr
  subst hr
  have gI : (Ie == 0) = false := beq_eq_false_iff_ne.2 hIe
  have gIn : (Ie != 0) = true := by rw [bne, gI]; rfl
  clear HR hIe NA
  have f0 := B3.frozen 0
  have f1 := B3.frozen 1
  obtain ⟨x0, x1⟩ := B3.c2
  have lx := B3.lt
  have H4 := held_two B3 (.int .i64 0) (.int .i64 0)
  have EF := (E.setCell (p := ⟨b3, 0, none⟩) hbr (.int .i64 0)).setCell (p := ⟨b3, 1, none⟩) hbr (.int .i64 0)
  obtain ⟨y0, y1⟩ := H4.c2
  go_wp2
  refine bodyPost_ret (v := .tuple #[.agg #[.int .i64 0, .int .i64 0], .int .i64 Ie]) (by simp [results, Tryz.results81, go_sem, y0, y1]) rfl ⟨rfl, EF⟩
 subst hIe
 have hr := HR.out
 rw [if_neg (by decide)] at hr
 subst hr
 clear HR
 go_wp2_with (first | (go_at_call 85; (with_reducible refine Calls.mono (NA _) ?_); rintro e wt ⟨rfl, ht⟩; replace E := E.trans ht; replace B3 := B3.ext ht; have f0 := B3.frozen 0; have f1 := B3.frozen 1; obtain ⟨x0, x1⟩ := B3.c2; have lx := B3.lt))
 have H4 := held_two B3 (.int .i64 Sn) (.int .i64 Sd)
 have EF := (E.setCell (p := ⟨b3, 0, none⟩) hbr (.int .i64 Sn)).setCell (p := ⟨b3, 1, none⟩) hbr (.int .i64 Sd)
 obtain ⟨y0, y1⟩ := H4.c2
 go_wp2
 refine bodyPost_ret (v := .tuple #[.agg #[.int .i64 Sn, .int .i64 Sd], .int .i64 Se]) (by simp [results, Tryz.results81, go_sem, y0, y1]) rfl ⟨rfl, EF⟩
theorem paidR_any (x : Db) (n : Rt) (hx : x.In) (hn : n.In) (w : World) :
  Calls Tryz.prog 82 #[.agg #[.int .i64 x.p.n, .int .i64 x.p.d, .int .i64 x.i.n, .int .i64 x.i.d, .int .i64 x.s.n, .int .i64 x.s.d], .agg #[.int .i64 n.n, .int .i64 n.d]] w fun e w' => e = .returned (.tuple #[.agg #[.int .i64 (paidX x n).1.p.n, .int .i64 (paidX x n).1.p.d, .int .i64 (paidX x n).1.i.n, .int .i64 (paidX x n).1.i.d, .int .i64 (paidX x n).1.s.n, .int .i64 (paidX x n).1.s.d], .int .i64 (paidX x n).2]) ∧ Ext w w' := by
 have N1 := fun w => lessR_any x.i n hx.2 hn w
 have hq1 := pay_in x.i n
 obtain ⟨R, hR0⟩ := zgE (paidX x n)
 rw [← hR0]
 unfold paidX at hR0
 have HR := Lib.hid hR0
 clear hR0
 generalize payV x.i n = P at *
 obtain ⟨⟨⟨in', id'⟩, ⟨ln, ld⟩⟩, pe⟩ := P
 simp only at N1 HR hq1
 have N2 := fun w => lessR_any x.p ⟨ln, ld⟩ hx.1 hq1.2 w
 have hq2 := pay_in x.p ⟨ln, ld⟩
 generalize payV x.p ⟨ln, ld⟩ = Q at *
 obtain ⟨⟨⟨pn', pd'⟩, ⟨mn, md⟩⟩, qe⟩ := Q
 simp only at N2 HR hq2
 have N3 := fun w => addFR_any x.s ⟨mn, md⟩ hx.3 hq2.2 w
 generalize addR x.s ⟨mn, md⟩ = S at *
 obtain ⟨⟨sn', sd'⟩, se⟩ := S
 simp only at N3 HR
 go_enter Tryz.func82, Tryz.ntmps82
 go_upto_region 1 with (fail)
 obtain ⟨v, hv⟩ := zgE (((w.alloc (.cells #[.int .i64 x.p.n, .int .i64 x.p.d, .int .i64 x.i.n, .int .i64 x.i.d, .int .i64 x.s.n, .int .i64 x.s.d] 60)).alloc (.cells #[.int .i64 n.n, .int .i64 n.d] 23)).alloc (.cells #[.int .i64 0, .int .i64 0, .int .i64 0, .int .i64 0, .int .i64 0, .int .i64 0] 60))
 rw [← hv]
 have E : Ext w v := by rw [hv]; exact (((Ext.refl _).alloc _).alloc _).alloc _
 have B1 : Held v w.heap.size 60 #[.int .i64 x.p.n, .int .i64 x.p.d, .int .i64 x.i.n, .int .i64 x.i.d, .int .i64 x.s.n, .int .i64 x.s.d] := by rw [hv]; exact ((Held.new _ _ _).alloc _).alloc _
 have B2 : Held v (w.heap.size + 1) 23 #[.int .i64 n.n, .int .i64 n.d] := by rw [hv]; exact (Held.at _ _ _ _ (by simp)).alloc _
 have B3 : Held v (w.heap.size + 1 + 1) 60 #[.int .i64 0, .int .i64 0, .int .i64 0, .int .i64 0, .int .i64 0, .int .i64 0] := by rw [hv]; exact Held.at _ _ _ _ (by simp)
 clear hv
 obtain ⟨b3, hb3⟩ := zgE (w.heap.size + 1 + 1)
 rw [← hb3] at B3 ⊢
 obtain ⟨b2, hb2⟩ := zgE (w.heap.size + 1)
 rw [← hb2] at B2 ⊢
 obtain ⟨b1, hb1⟩ := zgE (w.heap.size)
 rw [← hb1] at B1 ⊢
 have hbr : w.heap.size ≤ b3 := by omega
 have hbr1 : w.heap.size ≤ b1 := by omega
 have hbr2 : w.heap.size ≤ b2 := by omega
 have hn21 : b2 ≠ b1 := by omega
 have hn31 : b3 ≠ b1 := by omega
 have hn32 : b3 ≠ b2 := by omega
 clear hb1 hb2 hb3
 obtain ⟨k0, k1, k2, k3, k4, k5⟩ := B1.c6
 have kl := B1.lt
 obtain ⟨p0, p1⟩ := B2.c2
 have pl := B2.lt
 go_upto_region 3 with (go_at_call 130; (with_reducible refine Calls.mono (N1 _) ?_); rintro e w1 ⟨rfl, hx⟩; replace E := E.trans hx; replace B3 := B3.ext hx; replace B1 := B1.ext hx; replace B2 := B2.ext hx; clear hx; clear k0 k1 k2 k3 k4 k5 kl p0 p1 pl; obtain ⟨k0, k1, k2, k3, k4, k5⟩ := B1.c6; have kl := B1.lt; obtain ⟨p0, p1⟩ := B2.c2; have pl := B2.lt; have f0 := B1.frozen 2; have f1 := B1.frozen 3; have g0' := B2.frozen 0; have g1' := B2.frozen 1)
 have X1 := held6_2 B1 (.int .i64 in') (.int .i64 id')
 have X2 := held_oth (held_oth B2 hn21 2 (.int .i64 in')) hn21 3 (.int .i64 id')
 have X3 := held_oth (held_oth B3 hn31 2 (.int .i64 in')) hn31 3 (.int .i64 id')
 have E' := (E.setCell (p := ⟨b1, 2, none⟩) hbr1 (.int .i64 in')).setCell (p := ⟨b1, 3, none⟩) hbr1 (.int .i64 id')
 have Y2 := held_two X2 (.int .i64 ln) (.int .i64 ld)
 have Y1 := held_oth (held_oth X1 (Ne.symm hn21) 0 (.int .i64 ln)) (Ne.symm hn21) 1 (.int .i64 ld)
 have Y3 := held_oth (held_oth X3 hn32 0 (.int .i64 ln)) hn32 1 (.int .i64 ld)
 have E'' := (E'.setCell (p := ⟨b2, 0, none⟩) hbr2 (.int .i64 ln)).setCell (p := ⟨b2, 1, none⟩) hbr2 (.int .i64 ld)
 clear f0 f1 g0' g1'
 clear k0 k1 k2 k3 k4 k5 kl p0 p1 pl
 replace B1 := Y1
 replace B2 := Y2
 replace B3 := Y3
 replace E := E''
 clear X1 X2 X3 E' Y1 Y2 Y3 E''
 generalize (((World.setCell w1 _ _).setCell _ _).setCell _ _).setCell _ _ = w2 at *
 obtain ⟨k0, k1, k2, k3, k4, k5⟩ := B1.c6
 have kl := B1.lt
 obtain ⟨p0, p1⟩ := B2.c2
 have pl := B2.lt
 by_cases hpe : pe = 0
 rotate_left
 ·have hr := HR.out
  rw [if_pos hpe] at hr
  subst hr
  have gp : (pe == 0) = false := beq_eq_false_iff_ne.2 hpe
  have gpn : (pe != 0) = true := by rw [bne, gp]; rfl
  clear HR hpe N1 N2 N3
  obtain ⟨x0, x1, x2, x3, x4, x5⟩ := B3.c6
  have lx := B3.lt
  have f0 := B3.frozen 0
  have f1 := B3.frozen 1
  have f2 := B3.frozen 2
  have f3 := B3.frozen 3
  have f4 := B3.frozen 4
  have f5 := B3.frozen 5
  have H9 := held6_all B3 (.int .i64 0) (.int .i64 0) (.int .i64 0) (.int .i64 0) (.int .i64 0) (.int .i64 0)
  have EF := ext6 E hbr (.int .i64 0) (.int .i64 0) (.int .i64 0) (.int .i64 0) (.int .i64 0) (.int .i64 0)
  obtain ⟨y0, y1, y2, y3, y4, y5⟩ := H9.c6
  go_wp2
  refine bodyPost_ret (v := .tuple #[.agg #[.int .i64 0, .int .i64 0, .int .i64 0, .int .i64 0, .int .i64 0, .int .i64 0], .int .i64 pe]) (by simp [results, Tryz.results82, go_sem, y0, y1, y2, y3, y4, y5]) rfl ⟨rfl, EF⟩
 subst hpe
 have h0 := HR.out
 rw [if_neg (by decide)] at h0
 have HR2 := Lib.hid h0
 clear h0 HR N1
 go_upto_region 6 with (go_at_call 130; (with_reducible refine Calls.mono (N2 _) ?_); rintro e w3 ⟨rfl, hx⟩; replace E := E.trans hx; replace B3 := B3.ext hx; replace B1 := B1.ext hx; replace B2 := B2.ext hx; clear hx; clear k0 k1 k2 k3 k4 k5 kl p0 p1 pl; obtain ⟨k0, k1, k2, k3, k4, k5⟩ := B1.c6; have kl := B1.lt; obtain ⟨p0, p1⟩ := B2.c2; have pl := B2.lt; have f0 := B1.frozen 0; have f1 := B1.frozen 1; have g0' := B2.frozen 0; have g1' := B2.frozen 1)
 have X1 := held6_0 B1 (.int .i64 pn') (.int .i64 pd')
 have X2 := held_oth (held_oth B2 hn21 0 (.int .i64 pn')) hn21 1 (.int .i64 pd')
 have X3 := held_oth (held_oth B3 hn31 0 (.int .i64 pn')) hn31 1 (.int .i64 pd')
 have E' := (E.setCell (p := ⟨b1, 0, none⟩) hbr1 (.int .i64 pn')).setCell (p := ⟨b1, 1, none⟩) hbr1 (.int .i64 pd')
 have Y2 := held_two X2 (.int .i64 mn) (.int .i64 md)
 have Y1 := held_oth (held_oth X1 (Ne.symm hn21) 0 (.int .i64 mn)) (Ne.symm hn21) 1 (.int .i64 md)
 have Y3 := held_oth (held_oth X3 hn32 0 (.int .i64 mn)) hn32 1 (.int .i64 md)
 have E'' := (E'.setCell (p := ⟨b2, 0, none⟩) hbr2 (.int .i64 mn)).setCell (p := ⟨b2, 1, none⟩) hbr2 (.int .i64 md)
 clear f0 f1 g0' g1'
 clear k0 k1 k2 k3 k4 k5 kl p0 p1 pl
 replace B1 := Y1
 replace B2 := Y2
 replace B3 := Y3
 replace E := E''
 clear X1 X2 X3 E' Y1 Y2 Y3 E''
 generalize (((World.setCell w3 _ _).setCell _ _).setCell _ _).setCell _ _ = w4 at *
 obtain ⟨k0, k1, k2, k3, k4, k5⟩ := B1.c6
 have kl := B1.lt
 obtain ⟨p0, p1⟩ := B2.c2
 have pl := B2.lt
 by_cases hqe : qe = 0
 rotate_left
 ·have hr := HR2.out
  rw [if_pos hqe] at hr
  subst hr
  have gq : (qe == 0) = false := beq_eq_false_iff_ne.2 hqe
  have gqn : (qe != 0) = true := by rw [bne, gq]; rfl
  clear HR2 hqe N2 N3
  obtain ⟨x0, x1, x2, x3, x4, x5⟩ := B3.c6
  have lx := B3.lt
  have f0 := B3.frozen 0
  have f1 := B3.frozen 1
  have f2 := B3.frozen 2
  have f3 := B3.frozen 3
  have f4 := B3.frozen 4
  have f5 := B3.frozen 5
  have H9 := held6_all B3 (.int .i64 0) (.int .i64 0) (.int .i64 0) (.int .i64 0) (.int .i64 0) (.int .i64 0)
  have EF := ext6 E hbr (.int .i64 0) (.int .i64 0) (.int .i64 0) (.int .i64 0) (.int .i64 0) (.int .i64 0)
  obtain ⟨y0, y1, y2, y3, y4, y5⟩ := H9.c6
  go_wp2
  refine bodyPost_ret (v := .tuple #[.agg #[.int .i64 0, .int .i64 0, .int .i64 0, .int .i64 0, .int .i64 0, .int .i64 0], .int .i64 qe]) (by simp [results, Tryz.results82, go_sem, y0, y1, y2, y3, y4, y5]) rfl ⟨rfl, EF⟩
 subst hqe
 have hr := HR2.out
 rw [if_neg (by decide)] at hr
 subst hr
 clear HR2 N2
 go_upto_region 9 with (go_at_call 85; (with_reducible refine Calls.mono (N3 _) ?_); rintro e w5 ⟨rfl, hx⟩; replace E := E.trans hx; replace B3 := B3.ext hx; replace B1 := B1.ext hx; replace B2 := B2.ext hx; clear hx; clear k0 k1 k2 k3 k4 k5 kl p0 p1 pl; obtain ⟨k0, k1, k2, k3, k4, k5⟩ := B1.c6; have kl := B1.lt; obtain ⟨p0, p1⟩ := B2.c2; have pl := B2.lt; have f0 := B1.frozen 4; have f1 := B1.frozen 5)
 have X1 := held6_4 B1 (.int .i64 sn') (.int .i64 sd')
 have X2 := held_oth (held_oth B2 hn21 4 (.int .i64 sn')) hn21 5 (.int .i64 sd')
 have X3 := held_oth (held_oth B3 hn31 4 (.int .i64 sn')) hn31 5 (.int .i64 sd')
 have E' := (E.setCell (p := ⟨b1, 4, none⟩) hbr1 (.int .i64 sn')).setCell (p := ⟨b1, 5, none⟩) hbr1 (.int .i64 sd')
 clear f0 f1
 clear k0 k1 k2 k3 k4 k5 kl p0 p1 pl
 replace B1 := X1
 replace B2 := X2
 replace B3 := X3
 replace E := E'
 clear X1 X2 X3 E'
 generalize (World.setCell w5 _ _).setCell _ _ = w6 at *
 obtain ⟨k0, k1, k2, k3, k4, k5⟩ := B1.c6
 have kl := B1.lt
 obtain ⟨p0, p1⟩ := B2.c2
 have pl := B2.lt
 obtain ⟨x0, x1, x2, x3, x4, x5⟩ := B3.c6
 have lx := B3.lt
 have f0 := B3.frozen 0
 have f1 := B3.frozen 1
 have f2 := B3.frozen 2
 have f3 := B3.frozen 3
 have f4 := B3.frozen 4
 have f5 := B3.frozen 5
 have H9 := held6_all B3 (.int .i64 pn') (.int .i64 pd') (.int .i64 in') (.int .i64 id') (.int .i64 sn') (.int .i64 sd')
 have EF := ext6 E hbr (.int .i64 pn') (.int .i64 pd') (.int .i64 in') (.int .i64 id') (.int .i64 sn') (.int .i64 sd')
 obtain ⟨y0, y1, y2, y3, y4, y5⟩ := H9.c6
 go_wp2
 refine bodyPost_ret (v := .tuple #[.agg #[.int .i64 pn', .int .i64 pd', .int .i64 in', .int .i64 id', .int .i64 sn', .int .i64 sd'], .int .i64 se]) (by simp [results, Tryz.results82, go_sem, y0, y1, y2, y3, y4, y5]) rfl ⟨rfl, EF⟩
end Go.Proofs.YthmjpbafbohelaaGreatDoor
namespace Go.Proofs.YthmjpbafbohelaaGreatDoor
open Go Go.RowKit Go.Shelf
attribute [local go_sem] gv_yes
theorem held4_all {W : World} {b : Nat} {t : TypeId} {v0 v1 v2 v3 : Value} (h : Held W b t #[v0, v1, v2, v3]) (u0 u1 u2 u3 : Value) : Held ((((W.setCell ⟨b, 0, none⟩ u0).setCell ⟨b, 1, none⟩ u1).setCell ⟨b, 2, none⟩ u2).setCell ⟨b, 3, none⟩ u3) b t #[u0, u1, u2, u3] := by unfold Held at h ⊢; simp [World.setCell, Array.getElem?_modify, h]
theorem ext4 {w W : World} {b : Nat} (h : Ext w W) (hb : w.heap.size ≤ b) (u0 u1 u2 u3 : Value) : Ext w ((((W.setCell ⟨b, 0, none⟩ u0).setCell ⟨b, 1, none⟩ u1).setCell ⟨b, 2, none⟩ u2).setCell ⟨b, 3, none⟩ u3) :=
 (((h.setCell (p := ⟨b, 0, none⟩) hb u0).setCell (p := ⟨b, 1, none⟩) hb u1).setCell (p := ⟨b, 2, none⟩) hb u2).setCell (p := ⟨b, 3, none⟩) hb u3
theorem oth4 {W : World} {b b' : Nat} {t : TypeId} {cs : Array Value} (h : Held W b t cs) (hne : b ≠ b') (u0 u1 u2 u3 : Value) : Held ((((W.setCell ⟨b', 0, none⟩ u0).setCell ⟨b', 1, none⟩ u1).setCell ⟨b', 2, none⟩ u2).setCell ⟨b', 3, none⟩ u3) b t cs :=
 held_oth (held_oth (held_oth (held_oth h hne 0 u0) hne 1 u1) hne 2 u2) hne 3 u3
theorem checkLoanR_any (A A' : Option Addr) (ca cb : Nat) (c : Cal) (B : Option Addr) (n cap : Nat) (l : Ln) (f : Nat → Pay) (hp : l.p.In) (hr : l.r.In) (hin : ∀ i, i < n → (f i).n.In) (w : World) (hC : CalAt w A ca A' cb c) (hB : RowsAt w B n 6 (payr f)) (hn : n ≤ 9223372036854775807) :
  Calls Tryz.prog 29 #[.agg #[.slice A c.nk ca, .slice A' c.ny cb], .agg #[.int .i64 l.p.n, .int .i64 l.p.d, .int .i64 l.r.n, .int .i64 l.r.d, .int .i64 l.f.y, .int .i64 l.f.m, .bool l.f.s, .int .i64 l.f.d], .slice B n cap] w fun e w' => e = .returned (.int .i64 (c.loanE l f n)) ∧ Ext w w' := by
 have NV := fun v (h : CalAt v A ca A' cb c) => validR_any A A' ca cb c v h
 have NP := fun w => positiveR_any l.p hp w
 have NR := fun w => rate_any l.r hr w
 have ND0 := fun v (h : CalAt v A ca A' cb c) (hv : c.valid = true) => dayR_any A A' ca cb c l.f v h hv
 obtain ⟨R, hR0⟩ := zgE (c.loanE l f n)
 rw [← hR0]
 unfold Cal.loanE at hR0
 have HR := Lib.hid hR0
 clear hR0
 go_enter Tryz.func29, Tryz.ntmps29
 go_upto_region 1 with (fail)
 obtain ⟨v, hv⟩ := zgE ((w.alloc (.cells #[.slice A c.nk ca, .slice A' c.ny cb] 34)).alloc (.cells #[.int .i64 l.p.n, .int .i64 l.p.d, .int .i64 l.r.n, .int .i64 l.r.d, .int .i64 l.f.y, .int .i64 l.f.m, .bool l.f.s, .int .i64 l.f.d] 54))
 rw [← hv]
 have E : Ext w v := by rw [hv]; exact ((Ext.refl _).alloc _).alloc _
 have B1 : Held v w.heap.size 34 #[.slice A c.nk ca, .slice A' c.ny cb] := by rw [hv]; exact (Held.new _ _ _).alloc _
 have B2 : Held v (w.heap.size + 1) 54 #[.int .i64 l.p.n, .int .i64 l.p.d, .int .i64 l.r.n, .int .i64 l.r.d, .int .i64 l.f.y, .int .i64 l.f.m, .bool l.f.s, .int .i64 l.f.d] := by rw [hv]; exact Held.at _ _ _ _ (by simp)
 clear hv
 obtain ⟨b2, hb2⟩ := zgE (w.heap.size + 1)
 rw [← hb2] at B2 ⊢
 obtain ⟨b1, hb1⟩ := zgE (w.heap.size)
 rw [← hb1] at B1 ⊢
 have hbr : w.heap.size ≤ b2 := by omega
 have hbr1 : w.heap.size ≤ b1 := by omega
 have hn21 : b2 ≠ b1 := by omega
 clear hb1 hb2
 have C := hC.ext E
 have RB := hB.ext E
 clear hC hB
 obtain ⟨k0, k1⟩ := B1.c2
 have kl := B1.lt
 obtain ⟨p0, p1, p2, p3, p4, p5, p6, p7⟩ := B2.c8
 have pl := B2.lt
 cases hv : c.valid
 ·simp only [hv] at NV
  have hr := HR.out
  rw [hv, if_neg (by decide)] at hr
  subst hr
  clear HR
  go_wp2_with (first | (go_at_call 67; (with_reducible refine Calls.mono (NV _ C) ?_); rintro e w1 ⟨rfl, hx⟩; replace E := E.trans hx; replace C := C.ext hx; replace RB := RB.ext hx; replace B1 := B1.ext hx; replace B2 := B2.ext hx; clear hx; clear k0 k1 kl p0 p1 p2 p3 p4 p5 p6 p7 pl; obtain ⟨k0, k1⟩ := B1.c2; have kl := B1.lt; obtain ⟨p0, p1, p2, p3, p4, p5, p6, p7⟩ := B2.c8; have pl := B2.lt))
  go_ret
  exact ⟨rfl, E⟩
 simp only [hv] at NV
 have hr := HR.out
 rw [hv, if_pos rfl] at hr
 replace HR := Lib.hid hr
 clear hr
 have ND := fun v h => ND0 v h hv
 clear ND0
 by_cases h64 : 64 < n
 ·have g1 : decide (64 < n) = true := decide_eq_true h64
  have hr := HR.out
  rw [if_pos h64] at hr
  subst hr
  clear HR
  go_wp2_with (first | (go_at_call 67; (with_reducible refine Calls.mono (NV _ C) ?_); rintro e w1 ⟨rfl, hx⟩; replace E := E.trans hx; replace C := C.ext hx; replace RB := RB.ext hx; replace B1 := B1.ext hx; replace B2 := B2.ext hx; clear hx; clear k0 k1 kl p0 p1 p2 p3 p4 p5 p6 p7 pl; obtain ⟨k0, k1⟩ := B1.c2; have kl := B1.lt; obtain ⟨p0, p1, p2, p3, p4, p5, p6, p7⟩ := B2.c8; have pl := B2.lt))
  go_ret
  exact ⟨rfl, E⟩
 have g1 : decide (64 < n) = false := decide_eq_false h64
 have hr := HR.out
 rw [if_neg h64] at hr
 replace HR := Lib.hid hr
 clear hr
 have hlo : Hid (c.loanOk l f n = (l.p.pos && l.r.shr && decide (c.numV l.f ≠ 0) && (List.range n).all fun i => (f i).n.pos && decide (c.numV (lastOn l f i) ≤ c.numV (f i).on))) := rfl
 cases hpp : l.p.pos
 ·simp only [hpp] at NP
  have hr := HR.out
  rw [hlo.out, hpp] at hr
  simp at hr
  subst hr
  clear HR
  go_wp2_with (first | (go_at_call 67; (with_reducible refine Calls.mono (NV _ C) ?_); rintro e w1 ⟨rfl, hx⟩; replace E := E.trans hx; replace C := C.ext hx; replace RB := RB.ext hx; replace B1 := B1.ext hx; replace B2 := B2.ext hx; clear hx; clear k0 k1 kl p0 p1 p2 p3 p4 p5 p6 p7 pl; obtain ⟨k0, k1⟩ := B1.c2; have kl := B1.lt; obtain ⟨p0, p1, p2, p3, p4, p5, p6, p7⟩ := B2.c8; have pl := B2.lt) | (go_at_call 55; (with_reducible refine Calls.mono (NP _) ?_); rintro e w2 ⟨rfl, hx⟩; replace E := E.trans hx; replace C := C.ext hx; replace RB := RB.ext hx; replace B1 := B1.ext hx; replace B2 := B2.ext hx; clear hx; clear k0 k1 kl p0 p1 p2 p3 p4 p5 p6 p7 pl; obtain ⟨k0, k1⟩ := B1.c2; have kl := B1.lt; obtain ⟨p0, p1, p2, p3, p4, p5, p6, p7⟩ := B2.c8; have pl := B2.lt))
  go_ret
  exact ⟨rfl, E⟩
 simp only [hpp] at NP
 cases hrr : l.r.shr
 ·simp only [hrr] at NR
  have hr := HR.out
  rw [hlo.out, hrr] at hr
  simp at hr
  subst hr
  clear HR
  go_wp2_with (first | (go_at_call 67; (with_reducible refine Calls.mono (NV _ C) ?_); rintro e w1 ⟨rfl, hx⟩; replace E := E.trans hx; replace C := C.ext hx; replace RB := RB.ext hx; replace B1 := B1.ext hx; replace B2 := B2.ext hx; clear hx; clear k0 k1 kl p0 p1 p2 p3 p4 p5 p6 p7 pl; obtain ⟨k0, k1⟩ := B1.c2; have kl := B1.lt; obtain ⟨p0, p1, p2, p3, p4, p5, p6, p7⟩ := B2.c8; have pl := B2.lt) | (go_at_call 55; (with_reducible refine Calls.mono (NP _) ?_); rintro e w2 ⟨rfl, hx⟩; replace E := E.trans hx; replace C := C.ext hx; replace RB := RB.ext hx; replace B1 := B1.ext hx; replace B2 := B2.ext hx; clear hx; clear k0 k1 kl p0 p1 p2 p3 p4 p5 p6 p7 pl; obtain ⟨k0, k1⟩ := B1.c2; have kl := B1.lt; obtain ⟨p0, p1, p2, p3, p4, p5, p6, p7⟩ := B2.c8; have pl := B2.lt) | (go_at_call 83; (with_reducible refine Calls.mono (NR _) ?_); rintro e w3 ⟨rfl, hx⟩; replace E := E.trans hx; replace C := C.ext hx; replace RB := RB.ext hx; replace B1 := B1.ext hx; replace B2 := B2.ext hx; clear hx; clear k0 k1 kl p0 p1 p2 p3 p4 p5 p6 p7 pl; obtain ⟨k0, k1⟩ := B1.c2; have kl := B1.lt; obtain ⟨p0, p1, p2, p3, p4, p5, p6, p7⟩ := B2.c8; have pl := B2.lt))
  go_ret
  exact ⟨rfl, E⟩
 simp only [hrr] at NR
 have hnn := numV_nonneg (c := c) (d := l.f) hv
 by_cases hd0 : c.numV l.f = 0
 ·rw [hd0] at ND
  have hr := HR.out
  rw [hlo.out, hd0] at hr
  simp at hr
  subst hr
  clear HR
  go_wp2_with (first | (go_at_call 67; (with_reducible refine Calls.mono (NV _ C) ?_); rintro e w1 ⟨rfl, hx⟩; replace E := E.trans hx; replace C := C.ext hx; replace RB := RB.ext hx; replace B1 := B1.ext hx; replace B2 := B2.ext hx; clear hx; clear k0 k1 kl p0 p1 p2 p3 p4 p5 p6 p7 pl; obtain ⟨k0, k1⟩ := B1.c2; have kl := B1.lt; obtain ⟨p0, p1, p2, p3, p4, p5, p6, p7⟩ := B2.c8; have pl := B2.lt) | (go_at_call 55; (with_reducible refine Calls.mono (NP _) ?_); rintro e w2 ⟨rfl, hx⟩; replace E := E.trans hx; replace C := C.ext hx; replace RB := RB.ext hx; replace B1 := B1.ext hx; replace B2 := B2.ext hx; clear hx; clear k0 k1 kl p0 p1 p2 p3 p4 p5 p6 p7 pl; obtain ⟨k0, k1⟩ := B1.c2; have kl := B1.lt; obtain ⟨p0, p1, p2, p3, p4, p5, p6, p7⟩ := B2.c8; have pl := B2.lt) | (go_at_call 83; (with_reducible refine Calls.mono (NR _) ?_); rintro e w3 ⟨rfl, hx⟩; replace E := E.trans hx; replace C := C.ext hx; replace RB := RB.ext hx; replace B1 := B1.ext hx; replace B2 := B2.ext hx; clear hx; clear k0 k1 kl p0 p1 p2 p3 p4 p5 p6 p7 pl; obtain ⟨k0, k1⟩ := B1.c2; have kl := B1.lt; obtain ⟨p0, p1, p2, p3, p4, p5, p6, p7⟩ := B2.c8; have pl := B2.lt) | (go_at_call 80; (with_reducible refine Calls.mono (ND _ C) ?_); rintro e w4 ⟨rfl, hx⟩; replace E := E.trans hx; replace C := C.ext hx; replace RB := RB.ext hx; replace B1 := B1.ext hx; replace B2 := B2.ext hx; clear hx; clear k0 k1 kl p0 p1 p2 p3 p4 p5 p6 p7 pl; obtain ⟨k0, k1⟩ := B1.c2; have kl := B1.lt; obtain ⟨p0, p1, p2, p3, p4, p5, p6, p7⟩ := B2.c8; have pl := B2.lt))
  go_ret
  exact ⟨rfl, E⟩
 have gd : (c.numV l.f == 0) = false := beq_eq_false_iff_ne.2 hd0
 have hall : Hid (c.loanOk l f n = (List.range n).all fun i => (f i).n.pos && decide (c.numV (lastOn l f i) ≤ c.numV (f i).on)) := by
  unfold Hid
  rw [hlo.out, hpp, hrr, decide_eq_true hd0]; rfl
 have HR2 := Lib.hid HR.out
 clear HR hlo
 go_upto_region 8 with (first | (go_at_call 67; (with_reducible refine Calls.mono (NV _ C) ?_); rintro e w1 ⟨rfl, hx⟩; replace E := E.trans hx; replace C := C.ext hx; replace RB := RB.ext hx; replace B1 := B1.ext hx; replace B2 := B2.ext hx; clear hx; clear k0 k1 kl p0 p1 p2 p3 p4 p5 p6 p7 pl; obtain ⟨k0, k1⟩ := B1.c2; have kl := B1.lt; obtain ⟨p0, p1, p2, p3, p4, p5, p6, p7⟩ := B2.c8; have pl := B2.lt) | (go_at_call 55; (with_reducible refine Calls.mono (NP _) ?_); rintro e w2 ⟨rfl, hx⟩; replace E := E.trans hx; replace C := C.ext hx; replace RB := RB.ext hx; replace B1 := B1.ext hx; replace B2 := B2.ext hx; clear hx; clear k0 k1 kl p0 p1 p2 p3 p4 p5 p6 p7 pl; obtain ⟨k0, k1⟩ := B1.c2; have kl := B1.lt; obtain ⟨p0, p1, p2, p3, p4, p5, p6, p7⟩ := B2.c8; have pl := B2.lt) | (go_at_call 83; (with_reducible refine Calls.mono (NR _) ?_); rintro e w3 ⟨rfl, hx⟩; replace E := E.trans hx; replace C := C.ext hx; replace RB := RB.ext hx; replace B1 := B1.ext hx; replace B2 := B2.ext hx; clear hx; clear k0 k1 kl p0 p1 p2 p3 p4 p5 p6 p7 pl; obtain ⟨k0, k1⟩ := B1.c2; have kl := B1.lt; obtain ⟨p0, p1, p2, p3, p4, p5, p6, p7⟩ := B2.c8; have pl := B2.lt) | (go_at_call 80; (with_reducible refine Calls.mono (ND _ C) ?_); rintro e w4 ⟨rfl, hx⟩; replace E := E.trans hx; replace C := C.ext hx; replace RB := RB.ext hx; replace B1 := B1.ext hx; replace B2 := B2.ext hx; clear hx; clear k0 k1 kl p0 p1 p2 p3 p4 p5 p6 p7 pl; obtain ⟨k0, k1⟩ := B1.c2; have kl := B1.lt; obtain ⟨p0, p1, p2, p3, p4, p5, p6, p7⟩ := B2.c8; have pl := B2.lt))
 have hE5 := E.size
 obtain ⟨vb1, hv⟩ := zgE (w4.alloc (.cells #[.int .i64 l.f.y, .int .i64 l.f.m, .bool l.f.s, .int .i64 l.f.d] 37))
 rw [← hv]
 have hx9 : Ext w4 vb1 := by rw [hv]; exact (Ext.refl _).alloc _
 have B7 : Held vb1 w4.heap.size 37 #[.int .i64 l.f.y, .int .i64 l.f.m, .bool l.f.s, .int .i64 l.f.d] := by rw [hv]; exact Held.new _ _ _
 clear hv
 obtain ⟨bb1, hbb1⟩ := zgE (w4.heap.size)
 rw [← hbb1] at B7 ⊢
 replace hE5 : w4.heap.size ≤ bb1 := by omega
 clear hbb1 k0 k1 kl p0 p1 p2 p3 p4 p5 p6 p7 pl
 clear NV NP NR ND h64
 have B7' : Held vb1 bb1 37 #[.int .i64 (lastOn l f 0).y, .int .i64 (lastOn l f 0).m, .bool (lastOn l f 0).s, .int .i64 (lastOn l f 0).d] := B7
 clear B7
 have hpos0 : 0 < c.numV (lastOn l f 0) := by show 0 < c.numV l.f; omega
 clear hpp hrr hd0 gd hnn
 go_upto_region 9 with (fail)
 go_loopw [8] (fun i wr => ∃ k : Nat, k ≤ n ∧ i = .int .i64 k ∧ Hid (∀ j, j < k → ((f j).n.pos && decide (c.numV (lastOn l f j) ≤ c.numV (f j).on)) = true) ∧ 0 < c.numV (lastOn l f k) ∧ Ext w4 wr ∧ Held wr bb1 37 #[.int .i64 (lastOn l f k).y, .int .i64 (lastOn l f k).m, .bool (lastOn l f k).s, .int .i64 (lastOn l f k).d]) (fun i _ => n - (intOf i).toNat)
 case atStart => exact ⟨0, Nat.zero_le _, rfl, (fun j h => absurd h (by omega)), hpos0, hx9, B7'⟩
 case round =>
  clear B7' hpos0 hx9
  obtain ⟨k, hk, rfl, hok, hpos, hE, B7⟩ := hrel
  obtain ⟨wo, rfl⟩ := zgE wr
  by_cases hlt : k < n
  ·obtain ⟨b, off, rfl, hb, hc⟩ := (RB.ext hE) (by omega)
   have c0 : wo.cell? ⟨b, off + k * 6, none⟩ = some (.int .i64 (f k).on.y) := by simpa [payr] using hc k 0 _ hlt rfl
   have c1 : wo.cell? ⟨b, off + k * 6 + 1, none⟩ = some (.int .i64 (f k).on.m) := by simpa [payr] using hc k 1 _ hlt rfl
   have c2 : wo.cell? ⟨b, off + k * 6 + 2, none⟩ = some (.bool (f k).on.s) := by simpa [payr] using hc k 2 _ hlt rfl
   have c3 : wo.cell? ⟨b, off + k * 6 + 3, none⟩ = some (.int .i64 (f k).on.d) := by simpa [payr] using hc k 3 _ hlt rfl
   have c4 : wo.cell? ⟨b, off + k * 6 + 4, none⟩ = some (.int .i64 (f k).n.n) := by simpa [payr] using hc k 4 _ hlt rfl
   have c5 : wo.cell? ⟨b, off + k * 6 + 5, none⟩ = some (.int .i64 (f k).n.d) := by simpa [payr] using hc k 5 _ hlt rfl
   clear hc
   have NPK := fun w => positiveR_any (f k).n (hin k hlt) w
   have NIK := fun v h => inOrderR_any A A' ca cb c (lastOn l f k) (f k).on v h hv
   have hno : Hid (((f k).n.pos && decide (c.numV (lastOn l f k) ≤ c.numV (f k).on)) = false → R = 80) := fun h => by
    rw [HR2.out, hall.out, if_neg (by rw [Bool.not_eq_true]; exact List.all_eq_false.2 ⟨k, by simpa using hlt, by rw [h]; decide⟩)]
   have hyes : Hid (((f k).n.pos && decide (c.numV (lastOn l f k) ≤ c.numV (f k).on)) = true → ∀ j, j < k + 1 → ((f j).n.pos && decide (c.numV (lastOn l f j) ≤ c.numV (f j).on)) = true) := fun h j hj => by
    by_cases e : j = k
    ·subst e; exact h
    ·exact hok.out j (by omega)
   rw [decide_eq_true hpos, Bool.true_and] at NIK
   have C := C.ext hE
   have B1 := B1.ext hE
   obtain ⟨k0, k1⟩ := B1.c2
   have kl := B1.lt
   obtain ⟨q0, q1, q2, q3⟩ := B7.c4
   have ql := B7.lt
   have hnx : Hid (c.numV (lastOn l f k) ≤ c.numV (f k).on → 0 < c.numV (lastOn l f (k + 1))) := fun h => by show 0 < c.numV (f k).on; omega
   clear hok HR2 hall hin RB
   generalize hla : lastOn l f k = la at *
   clear hla hpos
   go_upto_region 11 with (fail)
   cases hpk : (f k).n.pos
   ·have hr := hno.out (by rw [hpk]; rfl)
    subst hr
    simp only [hpk] at NPK
    clear hno hyes hpk hnx
    refine wp_region_xw wo mixed (by kernel_rfl) (by repeat (first | exact Ext.refl _ | (refine Ext.alloc ?_ _) | (refine Ext.trans ?_ (by assumption)))) ?_
    intro hne hrx hry
    try simp only []
    try simp only [List.append_eq, List.cons_append, List.nil_append]
    skip
    repeat (first
     | go_big_quiet_skip
     | (go_big_quiet_want; go_big_quiet_op; go_big_quiet_on)
     | (go_big_quiet_want; go_big_quiet_op; apply Exists.intro; refine ⟨fun u => ?_, ?_⟩
        ·first
          | (go_at_call 55; (with_reducible refine Calls.mono (NPK _) ?_); rintro e w' ⟨rfl, hb⟩; exact ⟨rfl, u.back hb⟩)
          | (go_at_call 68; (with_reducible refine Calls.mono (NIK _ (C.ext u.e)) ?_); rintro e w' ⟨rfl, hb⟩; exact ⟨rfl, u.back hb⟩)
        go_big_quiet_on))
    clear hne hry hrx
    refine wpQuiet_nil ?_
    intro w2 h2
    obtain ⟨hcw2, hfw2, hzw2⟩ := Ext.rules h2
    try simp only [World.size_alloc] at hzw2
    obtain ⟨hcbw2, hfbw2, hzbw2⟩ := Ext.rules (show Ext wo w2 from (by repeat (first | exact Ext.refl _ | (refine Ext.alloc ?_ _) | (refine Ext.trans ?_ (by assumption)))))
    clear hcw2 hfw2
    go_wp2
    go_ret
    exact ⟨rfl, (E.trans hE).trans h2⟩
   ·simp only [hpk] at NPK
    by_cases hle : c.numV la ≤ c.numV (f k).on
    ·have hok := Lib.hid (hyes.out (by rw [hpk, decide_eq_true hle]; rfl))
     have hpos := hnx.out hle
     rw [decide_eq_true hle] at NIK
     clear hno hyes hpk hnx hle
     refine wp_region_xw wo mixed (by kernel_rfl) (by repeat (first | exact Ext.refl _ | (refine Ext.alloc ?_ _) | (refine Ext.trans ?_ (by assumption)))) ?_
     intro hne hrx hry
     try simp only []
     try simp only [List.append_eq, List.cons_append, List.nil_append]
     skip
     repeat (first
      | go_big_quiet_skip
      | (go_big_quiet_want; go_big_quiet_op; go_big_quiet_on)
      | (go_big_quiet_want; go_big_quiet_op; apply Exists.intro; refine ⟨fun u => ?_, ?_⟩
         ·first
           | (go_at_call 55; (with_reducible refine Calls.mono (NPK _) ?_); rintro e w' ⟨rfl, hb⟩; exact ⟨rfl, u.back hb⟩)
           | (go_at_call 68; (with_reducible refine Calls.mono (NIK _ (C.ext u.e)) ?_); rintro e w' ⟨rfl, hb⟩; exact ⟨rfl, u.back hb⟩)
         go_big_quiet_on))
     clear hne hry hrx
     refine wpQuiet_nil ?_
     intro w2 h2
     obtain ⟨hcw2, hfw2, hzw2⟩ := Ext.rules h2
     try simp only [World.size_alloc] at hzw2
     obtain ⟨hcbw2, hfbw2, hzbw2⟩ := Ext.rules (show Ext wo w2 from (by repeat (first | exact Ext.refl _ | (refine Ext.alloc ?_ _) | (refine Ext.trans ?_ (by assumption)))))
     clear hcw2 hfw2
     clear q0 q1 q2 q3 ql k0 k1 kl
     have B7 := B7.ext h2
     obtain ⟨q0, q1, q2, q3⟩ := B7.c4
     have ql := B7.lt
     have f0 := B7.frozen 0
     have f1 := B7.frozen 1
     have f2 := B7.frozen 2
     have f3 := B7.frozen 3
     have X := held4_all B7 (.int .i64 (f k).on.y) (.int .i64 (f k).on.m) (.bool (f k).on.s) (.int .i64 (f k).on.d)
     have E4 := ext4 (hE.trans h2) hE5 (.int .i64 (f k).on.y) (.int .i64 (f k).on.m) (.bool (f k).on.s) (.int .i64 (f k).on.d)
     go_wp2
     exact ⟨⟨k + 1, by omega, by go_num, hok, hpos, E4, X⟩, by simp [intOf]; omega⟩
    ·have hr := hno.out (by rw [decide_eq_false hle, Bool.and_false])
     subst hr
     rw [decide_eq_false hle] at NIK
     clear hno hyes hpk hnx hle
     refine wp_region_xw wo mixed (by kernel_rfl) (by repeat (first | exact Ext.refl _ | (refine Ext.alloc ?_ _) | (refine Ext.trans ?_ (by assumption)))) ?_
     intro hne hrx hry
     try simp only []
     try simp only [List.append_eq, List.cons_append, List.nil_append]
     skip
     repeat (first
      | go_big_quiet_skip
      | (go_big_quiet_want; go_big_quiet_op; go_big_quiet_on)
      | (go_big_quiet_want; go_big_quiet_op; apply Exists.intro; refine ⟨fun u => ?_, ?_⟩
         ·first
           | (go_at_call 55; (with_reducible refine Calls.mono (NPK _) ?_); rintro e w' ⟨rfl, hb⟩; exact ⟨rfl, u.back hb⟩)
           | (go_at_call 68; (with_reducible refine Calls.mono (NIK _ (C.ext u.e)) ?_); rintro e w' ⟨rfl, hb⟩; exact ⟨rfl, u.back hb⟩)
         go_big_quiet_on))
     clear hne hry hrx
     refine wpQuiet_nil ?_
     intro w2 h2
     obtain ⟨hcw2, hfw2, hzw2⟩ := Ext.rules h2
     try simp only [World.size_alloc] at hzw2
     obtain ⟨hcbw2, hfbw2, hzbw2⟩ := Ext.rules (show Ext wo w2 from (by repeat (first | exact Ext.refl _ | (refine Ext.alloc ?_ _) | (refine Ext.trans ?_ (by assumption)))))
     clear hcw2 hfw2
     go_wp2
     go_ret
     exact ⟨rfl, (E.trans hE).trans h2⟩
  ·obtain rfl : k = n := by omega
   have hr := HR2.out
   rw [hall.out, if_pos (List.all_eq_true.2 fun i hi => hok.out i (List.mem_range.1 hi))] at hr
   subst hr
   clear HR2 hall hok
   go_wp2
   go_ret
   exact ⟨rfl, E.trans hE⟩
end Go.Proofs.YthmjpbafbohelaaGreatDoor
