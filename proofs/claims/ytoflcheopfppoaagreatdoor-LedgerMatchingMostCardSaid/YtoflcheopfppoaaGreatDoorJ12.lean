/- Walks of the program's functions and plain facts, packed; proved: the lemmas below; no conditions but those that each states. -/
import Derived.Test.YtoflcheopfppoaaGreatDoorJ10
import Derived.Test.YtoflcheopfppoaaGreatDoorJ11
import Derived.Laws.MakeOwn
import Derived.Laws.OwnMore
import Derived.Laws.CopyOwn
import Derived.Test.YtoflcheopfppoaaGreatDoorJ2
set_option maxRecDepth 100000
set_option maxHeartbeats 4000000
namespace Go.Proofs.YtoflcheopfppoaaGreatDoor
section
open Go Go.RowKit Go.Shelf
attribute [local go_sem] Zq
structure Vk (W : World) (ba : Nat) (A A' : Option Addr) (ca cb : Nat) (c : Qf) (vl : Value) (l : List Pd) : Prop where
 b : Qb W ba 132 #[.slice A c.nk ca, .slice A' c.ny cb, vl, .slice none 0 0]
 C : Zg W A ca A' cb c
 P : Yo W vl l
theorem Vk.ext {W W' : World} {ba : Nat} {A A' : Option Addr} {ca cb : Nat} {c : Qf} {vl : Value} {l : List Pd} (h : Vk W ba A A' ca cb c vl l) (x : Qa W W') : Vk W' ba A A' ca cb c vl l := ⟨h.b.ext x, h.C.ext x, h.P.ext x⟩
theorem Ji {W : World} {b : Nat} {t : TypeId} {v0 v1 v2 v3 v4 v5 v6 : Value} (h : Qb W b t #[v0, v1, v2, v3, v4, v5, v6]) (u0 u1 u2 u3 u4 u5 u6 : Value) : Qb (((((((W.setCell ⟨b, 0, none⟩ u0).setCell ⟨b, 1, none⟩ u1).setCell ⟨b, 2, none⟩ u2).setCell ⟨b, 3, none⟩ u3).setCell ⟨b, 4, none⟩ u4).setCell ⟨b, 5, none⟩ u5).setCell ⟨b, 6, none⟩ u6) b t #[u0, u1, u2, u3, u4, u5, u6] := by unfold Qb at h ⊢; simp [World.setCell, Array.getElem?_modify, h]
theorem Jh {w W : World} {b : Nat} (h : Qa w W) (hb : w.heap.size ≤ b) (u0 u1 u2 u3 u4 u5 u6 : Value) : Qa w (((((((W.setCell ⟨b, 0, none⟩ u0).setCell ⟨b, 1, none⟩ u1).setCell ⟨b, 2, none⟩ u2).setCell ⟨b, 3, none⟩ u3).setCell ⟨b, 4, none⟩ u4).setCell ⟨b, 5, none⟩ u5).setCell ⟨b, 6, none⟩ u6) :=
 (((((((h.setCell (p := ⟨b, 0, none⟩) hb u0).setCell (p := ⟨b, 1, none⟩) hb u1).setCell (p := ⟨b, 2, none⟩) hb u2).setCell (p := ⟨b, 3, none⟩) hb u3).setCell (p := ⟨b, 4, none⟩) hb u4).setCell (p := ⟨b, 5, none⟩) hb u5).setCell (p := ⟨b, 6, none⟩) hb u6)
def cutE (A : Option Addr → Nat → Option Addr → Nat → Nat → Nat → Act) (S : World → Option Addr → Nat → Option Addr → Nat → Nat → Nat → Prop) : Exit → Act → World → Prop := fun e a' w' => e = .normal ∧ ∃ F1 m1 F2 m2 p1 p2, S w' F1 m1 F2 m2 p1 p2 ∧ a' = A F1 m1 F2 m2 p1 p2
theorem X2 {A : Option Addr → Nat → Option Addr → Nat → Nat → Nat → Act} {S : World → Option Addr → Nat → Option Addr → Nat → Nat → Nat → Prop} {w' : World} (F1 : Option Addr) (m1 : Nat) (F2 : Option Addr) (m2 p1 p2 : Nat) {a' : Act} (h : S w' F1 m1 F2 m2 p1 p2) (ha : a' = A F1 m1 F2 m2 p1 p2) : cutE A S .normal a' w' := ⟨rfl, F1, m1, F2, m2, p1, p2, h, ha⟩
theorem Qg5 {P : Program} {c : Code} {Q : Exit → Act → World → Prop} {a : Act} {w : World} {A : Option Addr → Nat → Option Addr → Nat → Nat → Nat → Act} (S : World → Option Addr → Nat → Option Addr → Nat → Nat → Nat → Prop) (h1 : c.wp P (cutE A S) a w) (h2 : ∀ F1 m1 F2 m2 p1 p2 w', S w' F1 m1 F2 m2 p1 p2 → Q .normal (A F1 m1 F2 m2 p1 p2) w') : c.wp P Q a w :=
 Code.wp_mono (fun e a' w' ⟨he, F1, m1, F2, m2, p1, p2, hs, ha⟩ => by subst he; subst ha; exact h2 F1 m1 F2 m2 p1 p2 w' hs) h1
theorem Iq (A A' : Option Addr) (ca cb : Nat) (c : Qf) (l : List Pd) (vl : Value) (days : Int) (w : World) (hC : Zg w A ca A' cb c) (hP : Yo w vl l) :
  Calls Tryz.prog 34 #[.agg #[.slice A c.nk ca, .slice A' c.ny cb], vl, .int .i64 days] w fun e w' => ∃ pv, e = .returned (.tuple #[pv, .int .i64 (c.audE l days)]) ∧ Qa w w' ∧ (c.audE l days = 0 → ∃ ba, pv = .pointer (some ⟨ba, 0, none⟩) ∧ w.heap.size ≤ ba ∧ Qb w' ba 132 #[.slice A c.nk ca, .slice A' c.ny cb, vl, .slice none 0 0]) := by
 have NV := fun w h1 h2 => Im A A' ca cb c vl l w h1 h2
 obtain ⟨pe, hpe⟩ := Qg (c.archE l)
 simp only [← hpe] at NV
 replace hpe := Lib.hid hpe
 obtain ⟨RE, hRE⟩ := Qg (c.audE l days)
 rw [← hRE]
 replace hRE := Lib.hid hRE
 go_enter Tryz.func34, Tryz.ntmps34
 go_upto_region 1 with (fail)
 obtain ⟨v, hv⟩ := Qg (w.alloc (.cells #[.slice A c.nk ca, .slice A' c.ny cb] 25))
 rw [← hv]
 have E : Qa w v := by rw [hv]; exact (Qa.refl _).alloc _
 have B1 : Qb v w.heap.size 25 #[.slice A c.nk ca, .slice A' c.ny cb] := by rw [hv]; exact (Qb.new _ _ _)
 clear hv
 obtain ⟨b1, hb1⟩ := Qg (w.heap.size)
 rw [← hb1] at B1 ⊢
 have hbr : w.heap.size ≤ b1 := by omega
 clear hb1
 have C := hC.ext E
 clear hC
 obtain ⟨k0, k1⟩ := B1.c2
 have kl := B1.lt
 go_upto_region 2 with (go_at_call 58; (with_reducible refine Calls.mono (NV _ C (hP.ext E)) ?_); rintro e w1 ⟨rfl, hx⟩; replace E := E.trans hx; replace C := C.ext hx; replace B1 := B1.ext hx; clear hx; clear k0 k1 kl; obtain ⟨k0, k1⟩ := B1.c2; have kl := B1.lt)
 obtain ⟨vb1, hv⟩ := Qg (w1.alloc (.cells #[.slice A c.nk ca, .slice A' c.ny cb] 130))
 rw [← hv]
 have hx : Qa w1 vb1 := by rw [hv]; exact (Qa.refl _).alloc _
 have B6 : Qb vb1 w1.heap.size 130 #[.slice A c.nk ca, .slice A' c.ny cb] := by rw [hv]; exact Qb.new _ _ _
 clear hv
 generalize w1.heap.size = bb1 at *
 clear k0 k1 kl
 replace E := E.trans hx
 replace C := C.ext hx
 replace B1 := B1.ext hx
 clear hx
 obtain ⟨k0, k1⟩ := B1.c2
 have kl := B1.lt
 obtain ⟨q0, q1⟩ := B6.c2
 have ql := B6.lt
 clear NV
 by_cases e0 : pe = 0
 rotate_left
 ·have g0 : (pe == 0) = false := beq_eq_false_iff_ne.2 e0
  have g0n : (pe != 0) = true := by rw [bne, g0]; rfl
  obtain rfl : RE = pe := by rw [hRE.out]; unfold Qf.audE; rw [← hpe.out]; exact if_pos e0
  clear hRE hpe
  go_wp2
  go_ret2
  exact ⟨_, rfl, E, fun h => absurd h e0⟩
 subst e0
 by_cases hd : days < 0 ∨ 400 < days
 ·obtain rfl : RE = 8 := by rw [hRE.out]; unfold Qf.audE; rw [← hpe.out, if_neg (by simp), if_pos hd]
  clear hRE hpe
  by_cases h1 : days < 0
  ·have g1 : decide (days < 0) = true := decide_eq_true h1
   clear hd
   go_wp2
   go_ret2
   exact ⟨_, rfl, E, fun h => absurd h (by decide)⟩
  ·have g1 : decide (days < 0) = false := decide_eq_false h1
   have g2 : decide (400 < days) = true := decide_eq_true (by omega)
   clear hd h1
   go_wp2
   go_ret2
   exact ⟨_, rfl, E, fun h => absurd h (by decide)⟩
 obtain rfl : RE = 0 := by rw [hRE.out]; unfold Qf.audE; rw [← hpe.out, if_neg (by simp), if_neg hd]
 have g1 : decide (days < 0) = false := decide_eq_false (by omega)
 have g2 : decide (400 < days) = false := decide_eq_false (by omega)
 clear hd hRE hpe
 obtain ⟨DL, cL, _, _, _, e1, _⟩ := id hP
 subst e1
 go_wp2
 go_ret2
 exact ⟨_, rfl, E.alloc _, _, rfl, E.size, Qb.new _ _ _⟩
theorem Pe (A A' : Option Addr) (ca cb : Nat) (c : Qf) (l : List Pd) (vl : Value) (ba : Nat) (x : Rf) (W0 w : World) (x0 : Qa W0 w) (hA : Vk W0 ba A A' ca cb c vl l) (hi : x.1 < l.length) (hk : x.2 < (l.getD x.1 Q3).d.length) :
  Calls Tryz.prog 125 #[.pointer (some ⟨ba, 0, none⟩), .agg #[.int .i64 (x.1 : Nat), .int .i64 (x.2 : Nat)]] w fun e w' => ∃ F m, e = .returned (.agg #[.int .i64 (Qw l x).on.y, .int .i64 (Qw l x).on.m, .bool (Qw l x).on.s, .int .i64 (Qw l x).on.d, .bool (Qw l x).i, .string (Qw l x).w, .slice F (Qw l x).l.length m]) ∧ Qa w w' ∧ Zt W0 (.slice F (Qw l x).l.length m) (Qw l x).l := by
 obtain ⟨D, cap, vo, vd, vc, e0, hD, hcap, hmax, _, hat⟩ := id hA.P
 subst e0
 obtain ⟨T, ct, vs, e1, hT, hct, hmt, _, hatT⟩ := id (hat x.1 hi).d
 have hll : ∃ F m, vs x.2 = .slice F (Qw l x).l.length m := by
  obtain ⟨F, m, e, _⟩ := id (hatT x.2 hk)
  exact ⟨F, m, e⟩
 have hL : Zt W0 (vs x.2) (Qw l x).l := hatT x.2 hk
 obtain ⟨F, m, hvs⟩ := hll
 rw [hvs] at hL
 obtain ⟨b, off, hDe, hb, hc⟩ := hD (by omega)
 subst hDe
 obtain ⟨b', off', hTe, hb', hc'⟩ := hT (by omega)
 subst hTe
 have c10 : W0.cell? ⟨b, off + x.1 * 12 + 10, none⟩ = some (.slice (some ⟨b', off', none⟩) (l.getD x.1 Q3).d.length ct) := by
  have := hc x.1 10 (vd x.1) hi rfl
  rw [e1] at this
  exact this
 have d0 : W0.cell? ⟨b', off' + x.2 * 7, none⟩ = some (.int .i64 (Qw l x).on.y) := by simpa [Zx, Qw] using hc' x.2 0 _ hk rfl
 have d1 : W0.cell? ⟨b', off' + x.2 * 7 + 1, none⟩ = some (.int .i64 (Qw l x).on.m) := by simpa [Zx, Qw] using hc' x.2 1 _ hk rfl
 have d2 : W0.cell? ⟨b', off' + x.2 * 7 + 2, none⟩ = some (.bool (Qw l x).on.s) := by simpa [Zx, Qw] using hc' x.2 2 _ hk rfl
 have d3 : W0.cell? ⟨b', off' + x.2 * 7 + 3, none⟩ = some (.int .i64 (Qw l x).on.d) := by simpa [Zx, Qw] using hc' x.2 3 _ hk rfl
 have d4 : W0.cell? ⟨b', off' + x.2 * 7 + 4, none⟩ = some (.bool (Qw l x).i) := by simpa [Zx, Qw] using hc' x.2 4 _ hk rfl
 have d5 : W0.cell? ⟨b', off' + x.2 * 7 + 5, none⟩ = some (.string (Qw l x).w) := by simpa [Zx, Qw] using hc' x.2 5 _ hk rfl
 have d6 : W0.cell? ⟨b', off' + x.2 * 7 + 6, none⟩ = some (.slice F (Qw l x).l.length m) := by
  have := hc' x.2 6 (vs x.2) hk rfl
  rw [hvs] at this
  exact this
 clear hc hc' hD hT hat hatT hvs e1 hcap hct
 have hA1 := hA.b
 clear hA
 generalize Qw l x = G at *
 generalize (l.getD x.1 Q3).d.length = nd at *
 generalize l.length = nl at *
 obtain ⟨x1, x2⟩ := x
 simp only at *
 go_enter Tryz.func125, Tryz.ntmps125
 go_upto_region 1 with (fail)
 obtain ⟨v, hv⟩ := Qg ((w.alloc (.cells #[.int .i64 (x1 : Nat), .int .i64 (x2 : Nat)] 33)).alloc (.cells #[.int .i64 0, .int .i64 0, .bool false, .int .i64 0, .bool false, .string ⟨#[]⟩, .slice none 0 0] 57))
 rw [← hv]
 have E : Qa w v := by rw [hv]; exact ((Qa.refl _).alloc _).alloc _
 have B1 : Qb v w.heap.size 33 #[.int .i64 (x1 : Nat), .int .i64 (x2 : Nat)] := by rw [hv]; exact (Qb.new _ _ _).alloc _
 have B4 : Qb v (w.heap.size + 1) 57 #[.int .i64 0, .int .i64 0, .bool false, .int .i64 0, .bool false, .string ⟨#[]⟩, .slice none 0 0] := by rw [hv]; exact Qb.at _ _ _ _ (by simp)
 clear hv
 obtain ⟨b2, hb2⟩ := Qg (w.heap.size + 1)
 rw [← hb2] at B4 ⊢
 obtain ⟨b1, hb1⟩ := Qg (w.heap.size)
 rw [← hb1] at B1 ⊢
 have hbr : w.heap.size ≤ b2 := by omega
 have hbr1 : w.heap.size ≤ b1 := by omega
 have hn21 : b2 ≠ b1 := by omega
 clear hb1 hb2
 have E0 := x0.trans E
 go_upto_region 1 with (fail)
 refine Q1 14 [13] (fun x => Qa v x) Qq rfl ?_
 intro vz hvz
 have HC := hvz
 refine Qr (g := 1) [0, 1, 2, 3, 4, 5, 6, 7, 8, 9, 10, 11, 12] [_, _, _, _, _, _, _, _, _, _, _, _, _] ⟨rfl, rfl, rfl, rfl, rfl, rfl, rfl, rfl, rfl, rfl, rfl, rfl, rfl, trivial⟩ (by kernel_rfl) (by kernel_rfl) HC ?_
 simp only [Qc, Qd, Qe]
 apply Exists.intro
 refine ⟨fun u hu => ?_, ?_⟩
 ·obtain ⟨k0, k1⟩ := Qb.c2 (Qb.ext B1 hu)
  have kl := Qb.lt (Qb.ext B1 hu)
  obtain ⟨a0, a1, a2, a3⟩ := Qb.c4 (Qb.ext hA1 (E0.trans hu))
  have al := Qb.lt (Qb.ext hA1 (E0.trans hu))
  have r10 := ((E0.trans hu).cell (p := ⟨b, off + x1 * 12 + 10, none⟩) hb).trans c10
  have hbu := Nat.lt_of_lt_of_le hb (E0.trans hu).size
  have hbu' := Nat.lt_of_lt_of_le hb' (E0.trans hu).size
  have q0 := ((E0.trans hu).cell (p := ⟨b', off' + x2 * 7, none⟩) hb').trans d0
  have q1 := ((E0.trans hu).cell (p := ⟨b', off' + x2 * 7 + 1, none⟩) hb').trans d1
  have q2 := ((E0.trans hu).cell (p := ⟨b', off' + x2 * 7 + 2, none⟩) hb').trans d2
  have q3 := ((E0.trans hu).cell (p := ⟨b', off' + x2 * 7 + 3, none⟩) hb').trans d3
  have q4 := ((E0.trans hu).cell (p := ⟨b', off' + x2 * 7 + 4, none⟩) hb').trans d4
  have q5 := ((E0.trans hu).cell (p := ⟨b', off' + x2 * 7 + 5, none⟩) hb').trans d5
  have q6 := ((E0.trans hu).cell (p := ⟨b', off' + x2 * 7 + 6, none⟩) hb').trans d6
  repeat (first | go_big_quiet_skip | (go_big_quiet_want; go_big_quiet_op; go_big_quiet_on))
  refine wpQuiet_nil ?_
  rfl
 refine Qm 13 rfl (by kernel_rfl) ?_
 simp only [Qc, Qd, Qe]
 have Hs := Qb.ext B4 HC
 have z0 := Qb.frozen Hs 0
 have z1 := Qb.frozen Hs 1
 have z2 := Qb.frozen Hs 2
 have z3 := Qb.frozen Hs 3
 have z4 := Qb.frozen Hs 4
 have z5 := Qb.frozen Hs 5
 have z6 := Qb.frozen Hs 6
 obtain ⟨y0, y1, y2, y3, y4, y5, y6⟩ := Qt Hs
 have yl := Qb.lt Hs
 go_wp2
 have HX := Ji Hs (.int .i64 G.on.y) (.int .i64 G.on.m) (.bool G.on.s) (.int .i64 G.on.d) (.bool G.i) (.string G.w) (.slice F G.l.length m)
 have EX := Jh (E.trans HC) hbr (.int .i64 G.on.y) (.int .i64 G.on.m) (.bool G.on.s) (.int .i64 G.on.d) (.bool G.i) (.string G.w) (.slice F G.l.length m)
 clear Hs z0 z1 z2 z3 z4 z5 z6 y0 y1 y2 y3 y4 y5 y6 yl
 generalize World.setCell _ _ _ = wq at *
 refine Ql ?_
 refine Qs (by kernel_rfl) ?_
 skip
 obtain ⟨y0, y1, y2, y3, y4, y5, y6⟩ := Qt HX
 have yl := Qb.lt HX
 go_wp2
 refine bodyPost_ret (v := .agg #[.int .i64 G.on.y, .int .i64 G.on.m, .bool G.on.s, .int .i64 G.on.d, .bool G.i, .string G.w, .slice F G.l.length m]) (by simp [results, Tryz.results125, go_sem, y0, y1, y2, y3, y4, y5, y6]) rfl ⟨F, m, rfl, EX, hL⟩
set_option maxHeartbeats 20000000 in
theorem Qdm (A A' : Option Addr) (ca cb : Nat) (c : Qf) (l : List Pd) (vl : Value) (ba : Nat) (days : Int) (x y : Rf) (W0 w : World) (x0 : Qa W0 w) (hA : Vk W0 ba A A' ca cb c vl l) (hv : c.valid = true) (hx1 : x.1 < l.length) (hx2 : x.2 < (l.getD x.1 Q3).d.length) (hy1 : y.1 < l.length) (hy2 : y.2 < (l.getD y.1 Q3).d.length) :
  Calls Tryz.prog 79 #[.pointer (some ⟨ba, 0, none⟩), .agg #[.int .i64 (x.1 : Nat), .int .i64 (x.2 : Nat)], .agg #[.int .i64 (y.1 : Nat), .int .i64 (y.2 : Nat)], .int .i64 days] w fun e w' => e = .returned (.bool (c.mayB l days x y)) ∧ Qa w w' := by
 have N1 := fun w h => Pe A A' ca cb c l vl ba x W0 w h hA hx1 hx2
 have N2 := fun w h => Pe A A' ca cb c l vl ba y W0 w h hA hy1 hy2
 have ND := fun d w h => Wi A A' ca cb c d w h
 have bX := Bg hv (Qw l x).on
 have bY := Bg hv (Qw l y).on
 obtain ⟨D, cap, vo, vd, vc, e0, hD, hcap, hmax, _, hat⟩ := id hA.P
 subst e0
 obtain ⟨b, off, hDe, hb, hc⟩ := hD (by omega)
 subst hDe
 have c1 : W0.cell? ⟨b, off + x.1 * 12, none⟩ = some (.string (l.getD x.1 Q3).h) := by simpa [Z6] using hc x.1 0 _ hx1 rfl
 have c2 : W0.cell? ⟨b, off + y.1 * 12, none⟩ = some (.string (l.getD y.1 Q3).h) := by simpa [Z6] using hc y.1 0 _ hy1 rfl
 clear hc hD hat hcap
 obtain ⟨RB, hRB⟩ := Qg (c.mayB l days x y)
 rw [← hRB]
 unfold Qf.mayB at hRB
 generalize hX : Qw l x = GX at *
 generalize hY : Qw l y = GY at *
 clear hX hY
 generalize (l.getD x.1 Q3).h = px at *
 generalize (l.getD y.1 Q3).h = py at *
 generalize l.length = nl at *
 obtain ⟨x1, x2⟩ := x
 obtain ⟨y1, y2⟩ := y
 simp only at *
 replace hRB := Lib.hid hRB
 have hA1 := hA.b
 go_enter Tryz.func79, Tryz.ntmps79
 go_upto_region 1 with (fail)
 obtain ⟨v, hv⟩ := Qg ((w.alloc (.cells #[.int .i64 (x1 : Nat), .int .i64 (x2 : Nat)] 33)).alloc (.cells #[.int .i64 (y1 : Nat), .int .i64 (y2 : Nat)] 33))
 rw [← hv]
 have E : Qa w v := by rw [hv]; exact ((Qa.refl _).alloc _).alloc _
 have B1 : Qb v w.heap.size 33 #[.int .i64 (x1 : Nat), .int .i64 (x2 : Nat)] := by rw [hv]; exact (Qb.new _ _ _).alloc _
 have B2 : Qb v (w.heap.size + 1) 33 #[.int .i64 (y1 : Nat), .int .i64 (y2 : Nat)] := by rw [hv]; exact Qb.at _ _ _ _ (by simp)
 clear hv
 obtain ⟨b2, hb2⟩ := Qg (w.heap.size + 1)
 rw [← hb2] at B2 ⊢
 obtain ⟨b1, hb1⟩ := Qg (w.heap.size)
 rw [← hb1] at B1 ⊢
 have hbr : w.heap.size ≤ b2 := by omega
 have hbr1 : w.heap.size ≤ b1 := by omega
 have hn21 : b2 ≠ b1 := by omega
 clear hb1 hb2
 have E0 := x0.trans E
 have HA1 := hA1.ext E0
 go_upto_region 1 with (fail)
 apply Qg5 (S := fun w' F1 m1 F2 m2 p1 p2 => Qa v w' ∧ Qb w' p1 57 #[.int .i64 GX.on.y, .int .i64 GX.on.m, .bool GX.on.s, .int .i64 GX.on.d, .bool GX.i, .string GX.w, .slice F1 GX.l.length m1] ∧ Qb w' p2 57 #[.int .i64 GY.on.y, .int .i64 GY.on.m, .bool GY.on.s, .int .i64 GY.on.d, .bool GY.i, .string GY.w, .slice F2 GY.l.length m2] ∧ Zt W0 (.slice F1 GX.l.length m1) GX.l ∧ Zt W0 (.slice F2 GY.l.length m2) GY.l)
 ·refine Q1 10 [8, 9] (fun x => Qa v x) Qq rfl ?_
  intro vz hvz
  have HC := hvz
  refine Qr (g := 6) [0, 1, 3, 4] [_, _, _, _] ⟨rfl, rfl, rfl, rfl, trivial⟩ (by kernel_rfl) (by kernel_rfl) HC ?_
  simp only [Qc, Qd, Qe]
  apply Exists.intro
  refine ⟨fun u hu => ?_, ?_⟩
  ·obtain ⟨k0, k1⟩ := Qb.c2 (Qb.ext B1 hu)
   have kl := Qb.lt (Qb.ext B1 hu)
   obtain ⟨l0, l1⟩ := Qb.c2 (Qb.ext B2 hu)
   have ll := Qb.lt (Qb.ext B2 hu)
   repeat (first | go_big_quiet_skip | (go_big_quiet_want; go_big_quiet_op; go_big_quiet_on))
   refine wpQuiet_nil ?_
   rfl
  refine Xy 2 6 7 rfl rfl rfl (by kernel_rfl) ?_ ?_ ?_
  ·simp only [Qc, Qd, Qe]
   go_wp2_with (go_at_call 125; (with_reducible refine Calls.mono (N1 _ (E0.trans HC)) ?_); rintro e wc ⟨F1, m1, rfl, hj, L1⟩)
   replace HC := HC.trans hj
   try replace H10 := H10.ext hj
   try replace H11 := H11.ext hj
   clear hj
   refine Qh HC ?_
   refine Xy 5 6 7 rfl rfl rfl (by kernel_rfl) ?_ ?_ ?_
   ·simp only [Qc, Qd, Qe]
    go_wp2_with (go_at_call 125; (with_reducible refine Calls.mono (N2 _ (E0.trans HC)) ?_); rintro e wc ⟨F2, m2, rfl, hj, L2⟩)
    replace HC := HC.trans hj
    try replace H10 := H10.ext hj
    try replace H11 := H11.ext hj
    clear hj
    refine Qh HC ?_
    refine Q8 6 7 rfl rfl (by kernel_rfl) ?_ ?_
    ·simp only [Qc, Qd, Qe]
     go_wp2
     obtain ⟨p1, wb, hbq, hwb, H10, HC', hx, gp1⟩ := Qp HC 57 #[.int .i64 0, .int .i64 0, .bool false, .int .i64 0, .bool false, .string ⟨#[]⟩, .slice none 0 0]
     rw [← hbq, ← hwb]
     try have ne : p2 < p1 := by have := H11.lt; omega
     replace HC := HC'
     try replace H11 := H11.ext hx
     clear hbq hwb hx HC'
     refine Qh HC ?_
     refine Qk 7 rfl (by kernel_rfl) ?_
     simp only [Qc, Qd, Qe]
     go_wp2
     obtain ⟨p2, wb, hbq, hwb, H11, HC', hx, gp2⟩ := Qp HC 57 #[.int .i64 0, .int .i64 0, .bool false, .int .i64 0, .bool false, .string ⟨#[]⟩, .slice none 0 0]
     rw [← hbq, ← hwb]
     try have ne : p1 < p2 := by have := H10.lt; omega
     replace HC := HC'
     try replace H10 := H10.ext hx
     clear hbq hwb hx HC'
     refine Qh HC ?_
     refine Qm 8 rfl (by kernel_rfl) ?_
     simp only [Qc, Qd, Qe]
     have z0 := Qb.frozen H10 0
     have z1 := Qb.frozen H10 1
     have z2 := Qb.frozen H10 2
     have z3 := Qb.frozen H10 3
     have z4 := Qb.frozen H10 4
     have z5 := Qb.frozen H10 5
     have z6 := Qb.frozen H10 6
     obtain ⟨u0, u1, u2, u3, u4, u5, u6⟩ := Qt H10
     have lx := Qb.lt H10
     have hgp : v.heap.size ≤ p1 := gp1
     go_wp2
     have Hn := Ji H10 (.int .i64 GX.on.y) (.int .i64 GX.on.m) (.bool GX.on.s) (.int .i64 GX.on.d) (.bool GX.i) (.string GX.w) (.slice F1 GX.l.length m1)
     have On := J0 H11 (show p2 ≠ p1 by omega) (.int .i64 GX.on.y) (.int .i64 GX.on.m) (.bool GX.on.s) (.int .i64 GX.on.d) (.bool GX.i) (.string GX.w) (.slice F1 GX.l.length m1)
     replace HC := Jh HC hgp (.int .i64 GX.on.y) (.int .i64 GX.on.m) (.bool GX.on.s) (.int .i64 GX.on.d) (.bool GX.i) (.string GX.w) (.slice F1 GX.l.length m1)
     skip
     clear H10 z0 z1 z2 z3 z4 z5 z6 u0 u1 u2 u3 u4 u5 u6 lx hgp
     have H10 := Hn
     replace H11 := On
     clear Hn On
     generalize World.setCell _ _ _ = wq at *
     refine Ql ?_
     refine Qm 9 rfl (by kernel_rfl) ?_
     simp only [Qc, Qd, Qe]
     have z0 := Qb.frozen H11 0
     have z1 := Qb.frozen H11 1
     have z2 := Qb.frozen H11 2
     have z3 := Qb.frozen H11 3
     have z4 := Qb.frozen H11 4
     have z5 := Qb.frozen H11 5
     have z6 := Qb.frozen H11 6
     obtain ⟨u0, u1, u2, u3, u4, u5, u6⟩ := Qt H11
     have lx := Qb.lt H11
     have hgp : v.heap.size ≤ p2 := gp2
     go_wp2
     have Hn := Ji H11 (.int .i64 GY.on.y) (.int .i64 GY.on.m) (.bool GY.on.s) (.int .i64 GY.on.d) (.bool GY.i) (.string GY.w) (.slice F2 GY.l.length m2)
     have On := J0 H10 (show p1 ≠ p2 by omega) (.int .i64 GY.on.y) (.int .i64 GY.on.m) (.bool GY.on.s) (.int .i64 GY.on.d) (.bool GY.i) (.string GY.w) (.slice F2 GY.l.length m2)
     replace HC := Jh HC hgp (.int .i64 GY.on.y) (.int .i64 GY.on.m) (.bool GY.on.s) (.int .i64 GY.on.d) (.bool GY.i) (.string GY.w) (.slice F2 GY.l.length m2)
     skip
     clear H11 z0 z1 z2 z3 z4 z5 z6 u0 u1 u2 u3 u4 u5 u6 lx hgp
     have H11 := Hn
     replace H10 := On
     clear Hn On
     generalize World.setCell _ _ _ = wq at *
     refine Ql ?_
     refine Qs (by kernel_rfl) ?_
     exact X2 F1 m1 F2 m2 p1 p2 ⟨HC, H10, H11, L1, L2⟩ rfl
    ·simp only [Qc, Qd, Qe]
     go_wp2
     obtain ⟨p2, wb, hbq, hwb, H11, HC', hx, gp2⟩ := Qp HC 57 #[.int .i64 0, .int .i64 0, .bool false, .int .i64 0, .bool false, .string ⟨#[]⟩, .slice none 0 0]
     rw [← hbq, ← hwb]
     try have ne : p1 < p2 := by have := H10.lt; omega
     replace HC := HC'
     try replace H10 := H10.ext hx
     clear hbq hwb hx HC'
     refine Qh HC ?_
     refine Qk 6 rfl (by kernel_rfl) ?_
     simp only [Qc, Qd, Qe]
     go_wp2
     obtain ⟨p1, wb, hbq, hwb, H10, HC', hx, gp1⟩ := Qp HC 57 #[.int .i64 0, .int .i64 0, .bool false, .int .i64 0, .bool false, .string ⟨#[]⟩, .slice none 0 0]
     rw [← hbq, ← hwb]
     try have ne : p2 < p1 := by have := H11.lt; omega
     replace HC := HC'
     try replace H11 := H11.ext hx
     clear hbq hwb hx HC'
     refine Qh HC ?_
     refine Qm 8 rfl (by kernel_rfl) ?_
     simp only [Qc, Qd, Qe]
     have z0 := Qb.frozen H10 0
     have z1 := Qb.frozen H10 1
     have z2 := Qb.frozen H10 2
     have z3 := Qb.frozen H10 3
     have z4 := Qb.frozen H10 4
     have z5 := Qb.frozen H10 5
     have z6 := Qb.frozen H10 6
     obtain ⟨u0, u1, u2, u3, u4, u5, u6⟩ := Qt H10
     have lx := Qb.lt H10
     have hgp : v.heap.size ≤ p1 := gp1
     go_wp2
     have Hn := Ji H10 (.int .i64 GX.on.y) (.int .i64 GX.on.m) (.bool GX.on.s) (.int .i64 GX.on.d) (.bool GX.i) (.string GX.w) (.slice F1 GX.l.length m1)
     have On := J0 H11 (show p2 ≠ p1 by omega) (.int .i64 GX.on.y) (.int .i64 GX.on.m) (.bool GX.on.s) (.int .i64 GX.on.d) (.bool GX.i) (.string GX.w) (.slice F1 GX.l.length m1)
     replace HC := Jh HC hgp (.int .i64 GX.on.y) (.int .i64 GX.on.m) (.bool GX.on.s) (.int .i64 GX.on.d) (.bool GX.i) (.string GX.w) (.slice F1 GX.l.length m1)
     skip
     clear H10 z0 z1 z2 z3 z4 z5 z6 u0 u1 u2 u3 u4 u5 u6 lx hgp
     have H10 := Hn
     replace H11 := On
     clear Hn On
     generalize World.setCell _ _ _ = wq at *
     refine Ql ?_
     refine Qm 9 rfl (by kernel_rfl) ?_
     simp only [Qc, Qd, Qe]
     have z0 := Qb.frozen H11 0
     have z1 := Qb.frozen H11 1
     have z2 := Qb.frozen H11 2
     have z3 := Qb.frozen H11 3
     have z4 := Qb.frozen H11 4
     have z5 := Qb.frozen H11 5
     have z6 := Qb.frozen H11 6
     obtain ⟨u0, u1, u2, u3, u4, u5, u6⟩ := Qt H11
     have lx := Qb.lt H11
     have hgp : v.heap.size ≤ p2 := gp2
     go_wp2
     have Hn := Ji H11 (.int .i64 GY.on.y) (.int .i64 GY.on.m) (.bool GY.on.s) (.int .i64 GY.on.d) (.bool GY.i) (.string GY.w) (.slice F2 GY.l.length m2)
     have On := J0 H10 (show p1 ≠ p2 by omega) (.int .i64 GY.on.y) (.int .i64 GY.on.m) (.bool GY.on.s) (.int .i64 GY.on.d) (.bool GY.i) (.string GY.w) (.slice F2 GY.l.length m2)
     replace HC := Jh HC hgp (.int .i64 GY.on.y) (.int .i64 GY.on.m) (.bool GY.on.s) (.int .i64 GY.on.d) (.bool GY.i) (.string GY.w) (.slice F2 GY.l.length m2)
     skip
     clear H11 z0 z1 z2 z3 z4 z5 z6 u0 u1 u2 u3 u4 u5 u6 lx hgp
     have H11 := Hn
     replace H10 := On
     clear Hn On
     generalize World.setCell _ _ _ = wq at *
     refine Ql ?_
     refine Qs (by kernel_rfl) ?_
     exact X2 F1 m1 F2 m2 p1 p2 ⟨HC, H10, H11, L1, L2⟩ rfl
   ·simp only [Qc, Qd, Qe]
    go_wp2
    obtain ⟨p1, wb, hbq, hwb, H10, HC', hx, gp1⟩ := Qp HC 57 #[.int .i64 0, .int .i64 0, .bool false, .int .i64 0, .bool false, .string ⟨#[]⟩, .slice none 0 0]
    rw [← hbq, ← hwb]
    try have ne : p2 < p1 := by have := H11.lt; omega
    replace HC := HC'
    try replace H11 := H11.ext hx
    clear hbq hwb hx HC'
    refine Qh HC ?_
    refine Q8 5 7 rfl rfl (by kernel_rfl) ?_ ?_
    ·simp only [Qc, Qd, Qe]
     go_wp2_with (go_at_call 125; (with_reducible refine Calls.mono (N2 _ (E0.trans HC)) ?_); rintro e wc ⟨F2, m2, rfl, hj, L2⟩)
     replace HC := HC.trans hj
     try replace H10 := H10.ext hj
     try replace H11 := H11.ext hj
     clear hj
     refine Qh HC ?_
     refine Qk 7 rfl (by kernel_rfl) ?_
     simp only [Qc, Qd, Qe]
     go_wp2
     obtain ⟨p2, wb, hbq, hwb, H11, HC', hx, gp2⟩ := Qp HC 57 #[.int .i64 0, .int .i64 0, .bool false, .int .i64 0, .bool false, .string ⟨#[]⟩, .slice none 0 0]
     rw [← hbq, ← hwb]
     try have ne : p1 < p2 := by have := H10.lt; omega
     replace HC := HC'
     try replace H10 := H10.ext hx
     clear hbq hwb hx HC'
     refine Qh HC ?_
     refine Qm 8 rfl (by kernel_rfl) ?_
     simp only [Qc, Qd, Qe]
     have z0 := Qb.frozen H10 0
     have z1 := Qb.frozen H10 1
     have z2 := Qb.frozen H10 2
     have z3 := Qb.frozen H10 3
     have z4 := Qb.frozen H10 4
     have z5 := Qb.frozen H10 5
     have z6 := Qb.frozen H10 6
     obtain ⟨u0, u1, u2, u3, u4, u5, u6⟩ := Qt H10
     have lx := Qb.lt H10
     have hgp : v.heap.size ≤ p1 := gp1
     go_wp2
     have Hn := Ji H10 (.int .i64 GX.on.y) (.int .i64 GX.on.m) (.bool GX.on.s) (.int .i64 GX.on.d) (.bool GX.i) (.string GX.w) (.slice F1 GX.l.length m1)
     have On := J0 H11 (show p2 ≠ p1 by omega) (.int .i64 GX.on.y) (.int .i64 GX.on.m) (.bool GX.on.s) (.int .i64 GX.on.d) (.bool GX.i) (.string GX.w) (.slice F1 GX.l.length m1)
     replace HC := Jh HC hgp (.int .i64 GX.on.y) (.int .i64 GX.on.m) (.bool GX.on.s) (.int .i64 GX.on.d) (.bool GX.i) (.string GX.w) (.slice F1 GX.l.length m1)
     skip
     clear H10 z0 z1 z2 z3 z4 z5 z6 u0 u1 u2 u3 u4 u5 u6 lx hgp
     have H10 := Hn
     replace H11 := On
     clear Hn On
     generalize World.setCell _ _ _ = wq at *
     refine Ql ?_
     refine Qm 9 rfl (by kernel_rfl) ?_
     simp only [Qc, Qd, Qe]
     have z0 := Qb.frozen H11 0
     have z1 := Qb.frozen H11 1
     have z2 := Qb.frozen H11 2
     have z3 := Qb.frozen H11 3
     have z4 := Qb.frozen H11 4
     have z5 := Qb.frozen H11 5
     have z6 := Qb.frozen H11 6
     obtain ⟨u0, u1, u2, u3, u4, u5, u6⟩ := Qt H11
     have lx := Qb.lt H11
     have hgp : v.heap.size ≤ p2 := gp2
     go_wp2
     have Hn := Ji H11 (.int .i64 GY.on.y) (.int .i64 GY.on.m) (.bool GY.on.s) (.int .i64 GY.on.d) (.bool GY.i) (.string GY.w) (.slice F2 GY.l.length m2)
     have On := J0 H10 (show p1 ≠ p2 by omega) (.int .i64 GY.on.y) (.int .i64 GY.on.m) (.bool GY.on.s) (.int .i64 GY.on.d) (.bool GY.i) (.string GY.w) (.slice F2 GY.l.length m2)
     replace HC := Jh HC hgp (.int .i64 GY.on.y) (.int .i64 GY.on.m) (.bool GY.on.s) (.int .i64 GY.on.d) (.bool GY.i) (.string GY.w) (.slice F2 GY.l.length m2)
     skip
     clear H11 z0 z1 z2 z3 z4 z5 z6 u0 u1 u2 u3 u4 u5 u6 lx hgp
     have H11 := Hn
     replace H10 := On
     clear Hn On
     generalize World.setCell _ _ _ = wq at *
     refine Ql ?_
     refine Qs (by kernel_rfl) ?_
     exact X2 F1 m1 F2 m2 p1 p2 ⟨HC, H10, H11, L1, L2⟩ rfl
    ·simp only [Qc, Qd, Qe]
     go_wp2
     obtain ⟨p2, wb, hbq, hwb, H11, HC', hx, gp2⟩ := Qp HC 57 #[.int .i64 0, .int .i64 0, .bool false, .int .i64 0, .bool false, .string ⟨#[]⟩, .slice none 0 0]
     rw [← hbq, ← hwb]
     try have ne : p1 < p2 := by have := H10.lt; omega
     replace HC := HC'
     try replace H10 := H10.ext hx
     clear hbq hwb hx HC'
     refine Qh HC ?_
     refine Qk 5 rfl (by kernel_rfl) ?_
     simp only [Qc, Qd, Qe]
     go_wp2_with (go_at_call 125; (with_reducible refine Calls.mono (N2 _ (E0.trans HC)) ?_); rintro e wc ⟨F2, m2, rfl, hj, L2⟩)
     replace HC := HC.trans hj
     try replace H10 := H10.ext hj
     try replace H11 := H11.ext hj
     clear hj
     refine Qh HC ?_
     refine Qm 8 rfl (by kernel_rfl) ?_
     simp only [Qc, Qd, Qe]
     have z0 := Qb.frozen H10 0
     have z1 := Qb.frozen H10 1
     have z2 := Qb.frozen H10 2
     have z3 := Qb.frozen H10 3
     have z4 := Qb.frozen H10 4
     have z5 := Qb.frozen H10 5
     have z6 := Qb.frozen H10 6
     obtain ⟨u0, u1, u2, u3, u4, u5, u6⟩ := Qt H10
     have lx := Qb.lt H10
     have hgp : v.heap.size ≤ p1 := gp1
     go_wp2
     have Hn := Ji H10 (.int .i64 GX.on.y) (.int .i64 GX.on.m) (.bool GX.on.s) (.int .i64 GX.on.d) (.bool GX.i) (.string GX.w) (.slice F1 GX.l.length m1)
     have On := J0 H11 (show p2 ≠ p1 by omega) (.int .i64 GX.on.y) (.int .i64 GX.on.m) (.bool GX.on.s) (.int .i64 GX.on.d) (.bool GX.i) (.string GX.w) (.slice F1 GX.l.length m1)
     replace HC := Jh HC hgp (.int .i64 GX.on.y) (.int .i64 GX.on.m) (.bool GX.on.s) (.int .i64 GX.on.d) (.bool GX.i) (.string GX.w) (.slice F1 GX.l.length m1)
     skip
     clear H10 z0 z1 z2 z3 z4 z5 z6 u0 u1 u2 u3 u4 u5 u6 lx hgp
     have H10 := Hn
     replace H11 := On
     clear Hn On
     generalize World.setCell _ _ _ = wq at *
     refine Ql ?_
     refine Qm 9 rfl (by kernel_rfl) ?_
     simp only [Qc, Qd, Qe]
     have z0 := Qb.frozen H11 0
     have z1 := Qb.frozen H11 1
     have z2 := Qb.frozen H11 2
     have z3 := Qb.frozen H11 3
     have z4 := Qb.frozen H11 4
     have z5 := Qb.frozen H11 5
     have z6 := Qb.frozen H11 6
     obtain ⟨u0, u1, u2, u3, u4, u5, u6⟩ := Qt H11
     have lx := Qb.lt H11
     have hgp : v.heap.size ≤ p2 := gp2
     go_wp2
     have Hn := Ji H11 (.int .i64 GY.on.y) (.int .i64 GY.on.m) (.bool GY.on.s) (.int .i64 GY.on.d) (.bool GY.i) (.string GY.w) (.slice F2 GY.l.length m2)
     have On := J0 H10 (show p1 ≠ p2 by omega) (.int .i64 GY.on.y) (.int .i64 GY.on.m) (.bool GY.on.s) (.int .i64 GY.on.d) (.bool GY.i) (.string GY.w) (.slice F2 GY.l.length m2)
     replace HC := Jh HC hgp (.int .i64 GY.on.y) (.int .i64 GY.on.m) (.bool GY.on.s) (.int .i64 GY.on.d) (.bool GY.i) (.string GY.w) (.slice F2 GY.l.length m2)
     skip
     clear H11 z0 z1 z2 z3 z4 z5 z6 u0 u1 u2 u3 u4 u5 u6 lx hgp
     have H11 := Hn
     replace H10 := On
     clear Hn On
     generalize World.setCell _ _ _ = wq at *
     refine Ql ?_
     refine Qs (by kernel_rfl) ?_
     exact X2 F1 m1 F2 m2 p1 p2 ⟨HC, H10, H11, L1, L2⟩ rfl
   ·simp only [Qc, Qd, Qe]
    go_wp2
    obtain ⟨p2, wb, hbq, hwb, H11, HC', hx, gp2⟩ := Qp HC 57 #[.int .i64 0, .int .i64 0, .bool false, .int .i64 0, .bool false, .string ⟨#[]⟩, .slice none 0 0]
    rw [← hbq, ← hwb]
    try have ne : p1 < p2 := by have := H10.lt; omega
    replace HC := HC'
    try replace H10 := H10.ext hx
    clear hbq hwb hx HC'
    refine Qh HC ?_
    refine Q8 5 6 rfl rfl (by kernel_rfl) ?_ ?_
    ·simp only [Qc, Qd, Qe]
     go_wp2_with (go_at_call 125; (with_reducible refine Calls.mono (N2 _ (E0.trans HC)) ?_); rintro e wc ⟨F2, m2, rfl, hj, L2⟩)
     replace HC := HC.trans hj
     try replace H10 := H10.ext hj
     try replace H11 := H11.ext hj
     clear hj
     refine Qh HC ?_
     refine Qk 6 rfl (by kernel_rfl) ?_
     simp only [Qc, Qd, Qe]
     go_wp2
     obtain ⟨p1, wb, hbq, hwb, H10, HC', hx, gp1⟩ := Qp HC 57 #[.int .i64 0, .int .i64 0, .bool false, .int .i64 0, .bool false, .string ⟨#[]⟩, .slice none 0 0]
     rw [← hbq, ← hwb]
     try have ne : p2 < p1 := by have := H11.lt; omega
     replace HC := HC'
     try replace H11 := H11.ext hx
     clear hbq hwb hx HC'
     refine Qh HC ?_
     refine Qm 8 rfl (by kernel_rfl) ?_
     simp only [Qc, Qd, Qe]
     have z0 := Qb.frozen H10 0
     have z1 := Qb.frozen H10 1
     have z2 := Qb.frozen H10 2
     have z3 := Qb.frozen H10 3
     have z4 := Qb.frozen H10 4
     have z5 := Qb.frozen H10 5
     have z6 := Qb.frozen H10 6
     obtain ⟨u0, u1, u2, u3, u4, u5, u6⟩ := Qt H10
     have lx := Qb.lt H10
     have hgp : v.heap.size ≤ p1 := gp1
     go_wp2
     have Hn := Ji H10 (.int .i64 GX.on.y) (.int .i64 GX.on.m) (.bool GX.on.s) (.int .i64 GX.on.d) (.bool GX.i) (.string GX.w) (.slice F1 GX.l.length m1)
     have On := J0 H11 (show p2 ≠ p1 by omega) (.int .i64 GX.on.y) (.int .i64 GX.on.m) (.bool GX.on.s) (.int .i64 GX.on.d) (.bool GX.i) (.string GX.w) (.slice F1 GX.l.length m1)
     replace HC := Jh HC hgp (.int .i64 GX.on.y) (.int .i64 GX.on.m) (.bool GX.on.s) (.int .i64 GX.on.d) (.bool GX.i) (.string GX.w) (.slice F1 GX.l.length m1)
     skip
     clear H10 z0 z1 z2 z3 z4 z5 z6 u0 u1 u2 u3 u4 u5 u6 lx hgp
     have H10 := Hn
     replace H11 := On
     clear Hn On
     generalize World.setCell _ _ _ = wq at *
     refine Ql ?_
     refine Qm 9 rfl (by kernel_rfl) ?_
     simp only [Qc, Qd, Qe]
     have z0 := Qb.frozen H11 0
     have z1 := Qb.frozen H11 1
     have z2 := Qb.frozen H11 2
     have z3 := Qb.frozen H11 3
     have z4 := Qb.frozen H11 4
     have z5 := Qb.frozen H11 5
     have z6 := Qb.frozen H11 6
     obtain ⟨u0, u1, u2, u3, u4, u5, u6⟩ := Qt H11
     have lx := Qb.lt H11
     have hgp : v.heap.size ≤ p2 := gp2
     go_wp2
     have Hn := Ji H11 (.int .i64 GY.on.y) (.int .i64 GY.on.m) (.bool GY.on.s) (.int .i64 GY.on.d) (.bool GY.i) (.string GY.w) (.slice F2 GY.l.length m2)
     have On := J0 H10 (show p1 ≠ p2 by omega) (.int .i64 GY.on.y) (.int .i64 GY.on.m) (.bool GY.on.s) (.int .i64 GY.on.d) (.bool GY.i) (.string GY.w) (.slice F2 GY.l.length m2)
     replace HC := Jh HC hgp (.int .i64 GY.on.y) (.int .i64 GY.on.m) (.bool GY.on.s) (.int .i64 GY.on.d) (.bool GY.i) (.string GY.w) (.slice F2 GY.l.length m2)
     skip
     clear H11 z0 z1 z2 z3 z4 z5 z6 u0 u1 u2 u3 u4 u5 u6 lx hgp
     have H11 := Hn
     replace H10 := On
     clear Hn On
     generalize World.setCell _ _ _ = wq at *
     refine Ql ?_
     refine Qs (by kernel_rfl) ?_
     exact X2 F1 m1 F2 m2 p1 p2 ⟨HC, H10, H11, L1, L2⟩ rfl
    ·simp only [Qc, Qd, Qe]
     go_wp2
     obtain ⟨p1, wb, hbq, hwb, H10, HC', hx, gp1⟩ := Qp HC 57 #[.int .i64 0, .int .i64 0, .bool false, .int .i64 0, .bool false, .string ⟨#[]⟩, .slice none 0 0]
     rw [← hbq, ← hwb]
     try have ne : p2 < p1 := by have := H11.lt; omega
     replace HC := HC'
     try replace H11 := H11.ext hx
     clear hbq hwb hx HC'
     refine Qh HC ?_
     refine Qk 5 rfl (by kernel_rfl) ?_
     simp only [Qc, Qd, Qe]
     go_wp2_with (go_at_call 125; (with_reducible refine Calls.mono (N2 _ (E0.trans HC)) ?_); rintro e wc ⟨F2, m2, rfl, hj, L2⟩)
     replace HC := HC.trans hj
     try replace H10 := H10.ext hj
     try replace H11 := H11.ext hj
     clear hj
     refine Qh HC ?_
     refine Qm 8 rfl (by kernel_rfl) ?_
     simp only [Qc, Qd, Qe]
     have z0 := Qb.frozen H10 0
     have z1 := Qb.frozen H10 1
     have z2 := Qb.frozen H10 2
     have z3 := Qb.frozen H10 3
     have z4 := Qb.frozen H10 4
     have z5 := Qb.frozen H10 5
     have z6 := Qb.frozen H10 6
     obtain ⟨u0, u1, u2, u3, u4, u5, u6⟩ := Qt H10
     have lx := Qb.lt H10
     have hgp : v.heap.size ≤ p1 := gp1
     go_wp2
     have Hn := Ji H10 (.int .i64 GX.on.y) (.int .i64 GX.on.m) (.bool GX.on.s) (.int .i64 GX.on.d) (.bool GX.i) (.string GX.w) (.slice F1 GX.l.length m1)
     have On := J0 H11 (show p2 ≠ p1 by omega) (.int .i64 GX.on.y) (.int .i64 GX.on.m) (.bool GX.on.s) (.int .i64 GX.on.d) (.bool GX.i) (.string GX.w) (.slice F1 GX.l.length m1)
     replace HC := Jh HC hgp (.int .i64 GX.on.y) (.int .i64 GX.on.m) (.bool GX.on.s) (.int .i64 GX.on.d) (.bool GX.i) (.string GX.w) (.slice F1 GX.l.length m1)
     skip
     clear H10 z0 z1 z2 z3 z4 z5 z6 u0 u1 u2 u3 u4 u5 u6 lx hgp
     have H10 := Hn
     replace H11 := On
     clear Hn On
     generalize World.setCell _ _ _ = wq at *
     refine Ql ?_
     refine Qm 9 rfl (by kernel_rfl) ?_
     simp only [Qc, Qd, Qe]
     have z0 := Qb.frozen H11 0
     have z1 := Qb.frozen H11 1
     have z2 := Qb.frozen H11 2
     have z3 := Qb.frozen H11 3
     have z4 := Qb.frozen H11 4
     have z5 := Qb.frozen H11 5
     have z6 := Qb.frozen H11 6
     obtain ⟨u0, u1, u2, u3, u4, u5, u6⟩ := Qt H11
     have lx := Qb.lt H11
     have hgp : v.heap.size ≤ p2 := gp2
     go_wp2
     have Hn := Ji H11 (.int .i64 GY.on.y) (.int .i64 GY.on.m) (.bool GY.on.s) (.int .i64 GY.on.d) (.bool GY.i) (.string GY.w) (.slice F2 GY.l.length m2)
     have On := J0 H10 (show p1 ≠ p2 by omega) (.int .i64 GY.on.y) (.int .i64 GY.on.m) (.bool GY.on.s) (.int .i64 GY.on.d) (.bool GY.i) (.string GY.w) (.slice F2 GY.l.length m2)
     replace HC := Jh HC hgp (.int .i64 GY.on.y) (.int .i64 GY.on.m) (.bool GY.on.s) (.int .i64 GY.on.d) (.bool GY.i) (.string GY.w) (.slice F2 GY.l.length m2)
     skip
     clear H11 z0 z1 z2 z3 z4 z5 z6 u0 u1 u2 u3 u4 u5 u6 lx hgp
     have H11 := Hn
     replace H10 := On
     clear Hn On
     generalize World.setCell _ _ _ = wq at *
     refine Ql ?_
     refine Qs (by kernel_rfl) ?_
     exact X2 F1 m1 F2 m2 p1 p2 ⟨HC, H10, H11, L1, L2⟩ rfl
  ·simp only [Qc, Qd, Qe]
   go_wp2
   obtain ⟨p1, wb, hbq, hwb, H10, HC', hx, gp1⟩ := Qp HC 57 #[.int .i64 0, .int .i64 0, .bool false, .int .i64 0, .bool false, .string ⟨#[]⟩, .slice none 0 0]
   rw [← hbq, ← hwb]
   try have ne : p2 < p1 := by have := H11.lt; omega
   replace HC := HC'
   try replace H11 := H11.ext hx
   clear hbq hwb hx HC'
   refine Qh HC ?_
   refine Q8 2 7 rfl rfl (by kernel_rfl) ?_ ?_
   ·simp only [Qc, Qd, Qe]
    go_wp2_with (go_at_call 125; (with_reducible refine Calls.mono (N1 _ (E0.trans HC)) ?_); rintro e wc ⟨F1, m1, rfl, hj, L1⟩)
    replace HC := HC.trans hj
    try replace H10 := H10.ext hj
    try replace H11 := H11.ext hj
    clear hj
    refine Qh HC ?_
    refine Q8 5 7 rfl rfl (by kernel_rfl) ?_ ?_
    ·simp only [Qc, Qd, Qe]
     go_wp2_with (go_at_call 125; (with_reducible refine Calls.mono (N2 _ (E0.trans HC)) ?_); rintro e wc ⟨F2, m2, rfl, hj, L2⟩)
     replace HC := HC.trans hj
     try replace H10 := H10.ext hj
     try replace H11 := H11.ext hj
     clear hj
     refine Qh HC ?_
     refine Qk 7 rfl (by kernel_rfl) ?_
     simp only [Qc, Qd, Qe]
     go_wp2
     obtain ⟨p2, wb, hbq, hwb, H11, HC', hx, gp2⟩ := Qp HC 57 #[.int .i64 0, .int .i64 0, .bool false, .int .i64 0, .bool false, .string ⟨#[]⟩, .slice none 0 0]
     rw [← hbq, ← hwb]
     try have ne : p1 < p2 := by have := H10.lt; omega
     replace HC := HC'
     try replace H10 := H10.ext hx
     clear hbq hwb hx HC'
     refine Qh HC ?_
     refine Qm 8 rfl (by kernel_rfl) ?_
     simp only [Qc, Qd, Qe]
     have z0 := Qb.frozen H10 0
     have z1 := Qb.frozen H10 1
     have z2 := Qb.frozen H10 2
     have z3 := Qb.frozen H10 3
     have z4 := Qb.frozen H10 4
     have z5 := Qb.frozen H10 5
     have z6 := Qb.frozen H10 6
     obtain ⟨u0, u1, u2, u3, u4, u5, u6⟩ := Qt H10
     have lx := Qb.lt H10
     have hgp : v.heap.size ≤ p1 := gp1
     go_wp2
     have Hn := Ji H10 (.int .i64 GX.on.y) (.int .i64 GX.on.m) (.bool GX.on.s) (.int .i64 GX.on.d) (.bool GX.i) (.string GX.w) (.slice F1 GX.l.length m1)
     have On := J0 H11 (show p2 ≠ p1 by omega) (.int .i64 GX.on.y) (.int .i64 GX.on.m) (.bool GX.on.s) (.int .i64 GX.on.d) (.bool GX.i) (.string GX.w) (.slice F1 GX.l.length m1)
     replace HC := Jh HC hgp (.int .i64 GX.on.y) (.int .i64 GX.on.m) (.bool GX.on.s) (.int .i64 GX.on.d) (.bool GX.i) (.string GX.w) (.slice F1 GX.l.length m1)
     skip
     clear H10 z0 z1 z2 z3 z4 z5 z6 u0 u1 u2 u3 u4 u5 u6 lx hgp
     have H10 := Hn
     replace H11 := On
     clear Hn On
     generalize World.setCell _ _ _ = wq at *
     refine Ql ?_
     refine Qm 9 rfl (by kernel_rfl) ?_
     simp only [Qc, Qd, Qe]
     have z0 := Qb.frozen H11 0
     have z1 := Qb.frozen H11 1
     have z2 := Qb.frozen H11 2
     have z3 := Qb.frozen H11 3
     have z4 := Qb.frozen H11 4
     have z5 := Qb.frozen H11 5
     have z6 := Qb.frozen H11 6
     obtain ⟨u0, u1, u2, u3, u4, u5, u6⟩ := Qt H11
     have lx := Qb.lt H11
     have hgp : v.heap.size ≤ p2 := gp2
     go_wp2
     have Hn := Ji H11 (.int .i64 GY.on.y) (.int .i64 GY.on.m) (.bool GY.on.s) (.int .i64 GY.on.d) (.bool GY.i) (.string GY.w) (.slice F2 GY.l.length m2)
     have On := J0 H10 (show p1 ≠ p2 by omega) (.int .i64 GY.on.y) (.int .i64 GY.on.m) (.bool GY.on.s) (.int .i64 GY.on.d) (.bool GY.i) (.string GY.w) (.slice F2 GY.l.length m2)
     replace HC := Jh HC hgp (.int .i64 GY.on.y) (.int .i64 GY.on.m) (.bool GY.on.s) (.int .i64 GY.on.d) (.bool GY.i) (.string GY.w) (.slice F2 GY.l.length m2)
     skip
     clear H11 z0 z1 z2 z3 z4 z5 z6 u0 u1 u2 u3 u4 u5 u6 lx hgp
     have H11 := Hn
     replace H10 := On
     clear Hn On
     generalize World.setCell _ _ _ = wq at *
     refine Ql ?_
     refine Qs (by kernel_rfl) ?_
     exact X2 F1 m1 F2 m2 p1 p2 ⟨HC, H10, H11, L1, L2⟩ rfl
    ·simp only [Qc, Qd, Qe]
     go_wp2
     obtain ⟨p2, wb, hbq, hwb, H11, HC', hx, gp2⟩ := Qp HC 57 #[.int .i64 0, .int .i64 0, .bool false, .int .i64 0, .bool false, .string ⟨#[]⟩, .slice none 0 0]
     rw [← hbq, ← hwb]
     try have ne : p1 < p2 := by have := H10.lt; omega
     replace HC := HC'
     try replace H10 := H10.ext hx
     clear hbq hwb hx HC'
     refine Qh HC ?_
     refine Qk 5 rfl (by kernel_rfl) ?_
     simp only [Qc, Qd, Qe]
     go_wp2_with (go_at_call 125; (with_reducible refine Calls.mono (N2 _ (E0.trans HC)) ?_); rintro e wc ⟨F2, m2, rfl, hj, L2⟩)
     replace HC := HC.trans hj
     try replace H10 := H10.ext hj
     try replace H11 := H11.ext hj
     clear hj
     refine Qh HC ?_
     refine Qm 8 rfl (by kernel_rfl) ?_
     simp only [Qc, Qd, Qe]
     have z0 := Qb.frozen H10 0
     have z1 := Qb.frozen H10 1
     have z2 := Qb.frozen H10 2
     have z3 := Qb.frozen H10 3
     have z4 := Qb.frozen H10 4
     have z5 := Qb.frozen H10 5
     have z6 := Qb.frozen H10 6
     obtain ⟨u0, u1, u2, u3, u4, u5, u6⟩ := Qt H10
     have lx := Qb.lt H10
     have hgp : v.heap.size ≤ p1 := gp1
     go_wp2
     have Hn := Ji H10 (.int .i64 GX.on.y) (.int .i64 GX.on.m) (.bool GX.on.s) (.int .i64 GX.on.d) (.bool GX.i) (.string GX.w) (.slice F1 GX.l.length m1)
     have On := J0 H11 (show p2 ≠ p1 by omega) (.int .i64 GX.on.y) (.int .i64 GX.on.m) (.bool GX.on.s) (.int .i64 GX.on.d) (.bool GX.i) (.string GX.w) (.slice F1 GX.l.length m1)
     replace HC := Jh HC hgp (.int .i64 GX.on.y) (.int .i64 GX.on.m) (.bool GX.on.s) (.int .i64 GX.on.d) (.bool GX.i) (.string GX.w) (.slice F1 GX.l.length m1)
     skip
     clear H10 z0 z1 z2 z3 z4 z5 z6 u0 u1 u2 u3 u4 u5 u6 lx hgp
     have H10 := Hn
     replace H11 := On
     clear Hn On
     generalize World.setCell _ _ _ = wq at *
     refine Ql ?_
     refine Qm 9 rfl (by kernel_rfl) ?_
     simp only [Qc, Qd, Qe]
     have z0 := Qb.frozen H11 0
     have z1 := Qb.frozen H11 1
     have z2 := Qb.frozen H11 2
     have z3 := Qb.frozen H11 3
     have z4 := Qb.frozen H11 4
     have z5 := Qb.frozen H11 5
     have z6 := Qb.frozen H11 6
     obtain ⟨u0, u1, u2, u3, u4, u5, u6⟩ := Qt H11
     have lx := Qb.lt H11
     have hgp : v.heap.size ≤ p2 := gp2
     go_wp2
     have Hn := Ji H11 (.int .i64 GY.on.y) (.int .i64 GY.on.m) (.bool GY.on.s) (.int .i64 GY.on.d) (.bool GY.i) (.string GY.w) (.slice F2 GY.l.length m2)
     have On := J0 H10 (show p1 ≠ p2 by omega) (.int .i64 GY.on.y) (.int .i64 GY.on.m) (.bool GY.on.s) (.int .i64 GY.on.d) (.bool GY.i) (.string GY.w) (.slice F2 GY.l.length m2)
     replace HC := Jh HC hgp (.int .i64 GY.on.y) (.int .i64 GY.on.m) (.bool GY.on.s) (.int .i64 GY.on.d) (.bool GY.i) (.string GY.w) (.slice F2 GY.l.length m2)
     skip
     clear H11 z0 z1 z2 z3 z4 z5 z6 u0 u1 u2 u3 u4 u5 u6 lx hgp
     have H11 := Hn
     replace H10 := On
     clear Hn On
     generalize World.setCell _ _ _ = wq at *
     refine Ql ?_
     refine Qs (by kernel_rfl) ?_
     exact X2 F1 m1 F2 m2 p1 p2 ⟨HC, H10, H11, L1, L2⟩ rfl
   ·simp only [Qc, Qd, Qe]
    go_wp2
    obtain ⟨p2, wb, hbq, hwb, H11, HC', hx, gp2⟩ := Qp HC 57 #[.int .i64 0, .int .i64 0, .bool false, .int .i64 0, .bool false, .string ⟨#[]⟩, .slice none 0 0]
    rw [← hbq, ← hwb]
    try have ne : p1 < p2 := by have := H10.lt; omega
    replace HC := HC'
    try replace H10 := H10.ext hx
    clear hbq hwb hx HC'
    refine Qh HC ?_
    refine Qk 2 rfl (by kernel_rfl) ?_
    simp only [Qc, Qd, Qe]
    go_wp2_with (go_at_call 125; (with_reducible refine Calls.mono (N1 _ (E0.trans HC)) ?_); rintro e wc ⟨F1, m1, rfl, hj, L1⟩)
    replace HC := HC.trans hj
    try replace H10 := H10.ext hj
    try replace H11 := H11.ext hj
    clear hj
    refine Qh HC ?_
    refine Qk 5 rfl (by kernel_rfl) ?_
    simp only [Qc, Qd, Qe]
    go_wp2_with (go_at_call 125; (with_reducible refine Calls.mono (N2 _ (E0.trans HC)) ?_); rintro e wc ⟨F2, m2, rfl, hj, L2⟩)
    replace HC := HC.trans hj
    try replace H10 := H10.ext hj
    try replace H11 := H11.ext hj
    clear hj
    refine Qh HC ?_
    refine Qm 8 rfl (by kernel_rfl) ?_
    simp only [Qc, Qd, Qe]
    have z0 := Qb.frozen H10 0
    have z1 := Qb.frozen H10 1
    have z2 := Qb.frozen H10 2
    have z3 := Qb.frozen H10 3
    have z4 := Qb.frozen H10 4
    have z5 := Qb.frozen H10 5
    have z6 := Qb.frozen H10 6
    obtain ⟨u0, u1, u2, u3, u4, u5, u6⟩ := Qt H10
    have lx := Qb.lt H10
    have hgp : v.heap.size ≤ p1 := gp1
    go_wp2
    have Hn := Ji H10 (.int .i64 GX.on.y) (.int .i64 GX.on.m) (.bool GX.on.s) (.int .i64 GX.on.d) (.bool GX.i) (.string GX.w) (.slice F1 GX.l.length m1)
    have On := J0 H11 (show p2 ≠ p1 by omega) (.int .i64 GX.on.y) (.int .i64 GX.on.m) (.bool GX.on.s) (.int .i64 GX.on.d) (.bool GX.i) (.string GX.w) (.slice F1 GX.l.length m1)
    replace HC := Jh HC hgp (.int .i64 GX.on.y) (.int .i64 GX.on.m) (.bool GX.on.s) (.int .i64 GX.on.d) (.bool GX.i) (.string GX.w) (.slice F1 GX.l.length m1)
    skip
    clear H10 z0 z1 z2 z3 z4 z5 z6 u0 u1 u2 u3 u4 u5 u6 lx hgp
    have H10 := Hn
    replace H11 := On
    clear Hn On
    generalize World.setCell _ _ _ = wq at *
    refine Ql ?_
    refine Qm 9 rfl (by kernel_rfl) ?_
    simp only [Qc, Qd, Qe]
    have z0 := Qb.frozen H11 0
    have z1 := Qb.frozen H11 1
    have z2 := Qb.frozen H11 2
    have z3 := Qb.frozen H11 3
    have z4 := Qb.frozen H11 4
    have z5 := Qb.frozen H11 5
    have z6 := Qb.frozen H11 6
    obtain ⟨u0, u1, u2, u3, u4, u5, u6⟩ := Qt H11
    have lx := Qb.lt H11
    have hgp : v.heap.size ≤ p2 := gp2
    go_wp2
    have Hn := Ji H11 (.int .i64 GY.on.y) (.int .i64 GY.on.m) (.bool GY.on.s) (.int .i64 GY.on.d) (.bool GY.i) (.string GY.w) (.slice F2 GY.l.length m2)
    have On := J0 H10 (show p1 ≠ p2 by omega) (.int .i64 GY.on.y) (.int .i64 GY.on.m) (.bool GY.on.s) (.int .i64 GY.on.d) (.bool GY.i) (.string GY.w) (.slice F2 GY.l.length m2)
    replace HC := Jh HC hgp (.int .i64 GY.on.y) (.int .i64 GY.on.m) (.bool GY.on.s) (.int .i64 GY.on.d) (.bool GY.i) (.string GY.w) (.slice F2 GY.l.length m2)
    skip
    clear H11 z0 z1 z2 z3 z4 z5 z6 u0 u1 u2 u3 u4 u5 u6 lx hgp
    have H11 := Hn
    replace H10 := On
    clear Hn On
    generalize World.setCell _ _ _ = wq at *
    refine Ql ?_
    refine Qs (by kernel_rfl) ?_
    exact X2 F1 m1 F2 m2 p1 p2 ⟨HC, H10, H11, L1, L2⟩ rfl
  ·simp only [Qc, Qd, Qe]
   go_wp2
   obtain ⟨p2, wb, hbq, hwb, H11, HC', hx, gp2⟩ := Qp HC 57 #[.int .i64 0, .int .i64 0, .bool false, .int .i64 0, .bool false, .string ⟨#[]⟩, .slice none 0 0]
   rw [← hbq, ← hwb]
   try have ne : p1 < p2 := by have := H10.lt; omega
   replace HC := HC'
   try replace H10 := H10.ext hx
   clear hbq hwb hx HC'
   refine Qh HC ?_
   refine Q8 2 6 rfl rfl (by kernel_rfl) ?_ ?_
   ·simp only [Qc, Qd, Qe]
    go_wp2_with (go_at_call 125; (with_reducible refine Calls.mono (N1 _ (E0.trans HC)) ?_); rintro e wc ⟨F1, m1, rfl, hj, L1⟩)
    replace HC := HC.trans hj
    try replace H10 := H10.ext hj
    try replace H11 := H11.ext hj
    clear hj
    refine Qh HC ?_
    refine Q8 5 6 rfl rfl (by kernel_rfl) ?_ ?_
    ·simp only [Qc, Qd, Qe]
     go_wp2_with (go_at_call 125; (with_reducible refine Calls.mono (N2 _ (E0.trans HC)) ?_); rintro e wc ⟨F2, m2, rfl, hj, L2⟩)
     replace HC := HC.trans hj
     try replace H10 := H10.ext hj
     try replace H11 := H11.ext hj
     clear hj
     refine Qh HC ?_
     refine Qk 6 rfl (by kernel_rfl) ?_
     simp only [Qc, Qd, Qe]
     go_wp2
     obtain ⟨p1, wb, hbq, hwb, H10, HC', hx, gp1⟩ := Qp HC 57 #[.int .i64 0, .int .i64 0, .bool false, .int .i64 0, .bool false, .string ⟨#[]⟩, .slice none 0 0]
     rw [← hbq, ← hwb]
     try have ne : p2 < p1 := by have := H11.lt; omega
     replace HC := HC'
     try replace H11 := H11.ext hx
     clear hbq hwb hx HC'
     refine Qh HC ?_
     refine Qm 8 rfl (by kernel_rfl) ?_
     simp only [Qc, Qd, Qe]
     have z0 := Qb.frozen H10 0
     have z1 := Qb.frozen H10 1
     have z2 := Qb.frozen H10 2
     have z3 := Qb.frozen H10 3
     have z4 := Qb.frozen H10 4
     have z5 := Qb.frozen H10 5
     have z6 := Qb.frozen H10 6
     obtain ⟨u0, u1, u2, u3, u4, u5, u6⟩ := Qt H10
     have lx := Qb.lt H10
     have hgp : v.heap.size ≤ p1 := gp1
     go_wp2
     have Hn := Ji H10 (.int .i64 GX.on.y) (.int .i64 GX.on.m) (.bool GX.on.s) (.int .i64 GX.on.d) (.bool GX.i) (.string GX.w) (.slice F1 GX.l.length m1)
     have On := J0 H11 (show p2 ≠ p1 by omega) (.int .i64 GX.on.y) (.int .i64 GX.on.m) (.bool GX.on.s) (.int .i64 GX.on.d) (.bool GX.i) (.string GX.w) (.slice F1 GX.l.length m1)
     replace HC := Jh HC hgp (.int .i64 GX.on.y) (.int .i64 GX.on.m) (.bool GX.on.s) (.int .i64 GX.on.d) (.bool GX.i) (.string GX.w) (.slice F1 GX.l.length m1)
     skip
     clear H10 z0 z1 z2 z3 z4 z5 z6 u0 u1 u2 u3 u4 u5 u6 lx hgp
     have H10 := Hn
     replace H11 := On
     clear Hn On
     generalize World.setCell _ _ _ = wq at *
     refine Ql ?_
     refine Qm 9 rfl (by kernel_rfl) ?_
     simp only [Qc, Qd, Qe]
     have z0 := Qb.frozen H11 0
     have z1 := Qb.frozen H11 1
     have z2 := Qb.frozen H11 2
     have z3 := Qb.frozen H11 3
     have z4 := Qb.frozen H11 4
     have z5 := Qb.frozen H11 5
     have z6 := Qb.frozen H11 6
     obtain ⟨u0, u1, u2, u3, u4, u5, u6⟩ := Qt H11
     have lx := Qb.lt H11
     have hgp : v.heap.size ≤ p2 := gp2
     go_wp2
     have Hn := Ji H11 (.int .i64 GY.on.y) (.int .i64 GY.on.m) (.bool GY.on.s) (.int .i64 GY.on.d) (.bool GY.i) (.string GY.w) (.slice F2 GY.l.length m2)
     have On := J0 H10 (show p1 ≠ p2 by omega) (.int .i64 GY.on.y) (.int .i64 GY.on.m) (.bool GY.on.s) (.int .i64 GY.on.d) (.bool GY.i) (.string GY.w) (.slice F2 GY.l.length m2)
     replace HC := Jh HC hgp (.int .i64 GY.on.y) (.int .i64 GY.on.m) (.bool GY.on.s) (.int .i64 GY.on.d) (.bool GY.i) (.string GY.w) (.slice F2 GY.l.length m2)
     skip
     clear H11 z0 z1 z2 z3 z4 z5 z6 u0 u1 u2 u3 u4 u5 u6 lx hgp
     have H11 := Hn
     replace H10 := On
     clear Hn On
     generalize World.setCell _ _ _ = wq at *
     refine Ql ?_
     refine Qs (by kernel_rfl) ?_
     exact X2 F1 m1 F2 m2 p1 p2 ⟨HC, H10, H11, L1, L2⟩ rfl
    ·simp only [Qc, Qd, Qe]
     go_wp2
     obtain ⟨p1, wb, hbq, hwb, H10, HC', hx, gp1⟩ := Qp HC 57 #[.int .i64 0, .int .i64 0, .bool false, .int .i64 0, .bool false, .string ⟨#[]⟩, .slice none 0 0]
     rw [← hbq, ← hwb]
     try have ne : p2 < p1 := by have := H11.lt; omega
     replace HC := HC'
     try replace H11 := H11.ext hx
     clear hbq hwb hx HC'
     refine Qh HC ?_
     refine Qk 5 rfl (by kernel_rfl) ?_
     simp only [Qc, Qd, Qe]
     go_wp2_with (go_at_call 125; (with_reducible refine Calls.mono (N2 _ (E0.trans HC)) ?_); rintro e wc ⟨F2, m2, rfl, hj, L2⟩)
     replace HC := HC.trans hj
     try replace H10 := H10.ext hj
     try replace H11 := H11.ext hj
     clear hj
     refine Qh HC ?_
     refine Qm 8 rfl (by kernel_rfl) ?_
     simp only [Qc, Qd, Qe]
     have z0 := Qb.frozen H10 0
     have z1 := Qb.frozen H10 1
     have z2 := Qb.frozen H10 2
     have z3 := Qb.frozen H10 3
     have z4 := Qb.frozen H10 4
     have z5 := Qb.frozen H10 5
     have z6 := Qb.frozen H10 6
     obtain ⟨u0, u1, u2, u3, u4, u5, u6⟩ := Qt H10
     have lx := Qb.lt H10
     have hgp : v.heap.size ≤ p1 := gp1
     go_wp2
     have Hn := Ji H10 (.int .i64 GX.on.y) (.int .i64 GX.on.m) (.bool GX.on.s) (.int .i64 GX.on.d) (.bool GX.i) (.string GX.w) (.slice F1 GX.l.length m1)
     have On := J0 H11 (show p2 ≠ p1 by omega) (.int .i64 GX.on.y) (.int .i64 GX.on.m) (.bool GX.on.s) (.int .i64 GX.on.d) (.bool GX.i) (.string GX.w) (.slice F1 GX.l.length m1)
     replace HC := Jh HC hgp (.int .i64 GX.on.y) (.int .i64 GX.on.m) (.bool GX.on.s) (.int .i64 GX.on.d) (.bool GX.i) (.string GX.w) (.slice F1 GX.l.length m1)
     skip
     clear H10 z0 z1 z2 z3 z4 z5 z6 u0 u1 u2 u3 u4 u5 u6 lx hgp
     have H10 := Hn
     replace H11 := On
     clear Hn On
     generalize World.setCell _ _ _ = wq at *
     refine Ql ?_
     refine Qm 9 rfl (by kernel_rfl) ?_
     simp only [Qc, Qd, Qe]
     have z0 := Qb.frozen H11 0
     have z1 := Qb.frozen H11 1
     have z2 := Qb.frozen H11 2
     have z3 := Qb.frozen H11 3
     have z4 := Qb.frozen H11 4
     have z5 := Qb.frozen H11 5
     have z6 := Qb.frozen H11 6
     obtain ⟨u0, u1, u2, u3, u4, u5, u6⟩ := Qt H11
     have lx := Qb.lt H11
     have hgp : v.heap.size ≤ p2 := gp2
     go_wp2
     have Hn := Ji H11 (.int .i64 GY.on.y) (.int .i64 GY.on.m) (.bool GY.on.s) (.int .i64 GY.on.d) (.bool GY.i) (.string GY.w) (.slice F2 GY.l.length m2)
     have On := J0 H10 (show p1 ≠ p2 by omega) (.int .i64 GY.on.y) (.int .i64 GY.on.m) (.bool GY.on.s) (.int .i64 GY.on.d) (.bool GY.i) (.string GY.w) (.slice F2 GY.l.length m2)
     replace HC := Jh HC hgp (.int .i64 GY.on.y) (.int .i64 GY.on.m) (.bool GY.on.s) (.int .i64 GY.on.d) (.bool GY.i) (.string GY.w) (.slice F2 GY.l.length m2)
     skip
     clear H11 z0 z1 z2 z3 z4 z5 z6 u0 u1 u2 u3 u4 u5 u6 lx hgp
     have H11 := Hn
     replace H10 := On
     clear Hn On
     generalize World.setCell _ _ _ = wq at *
     refine Ql ?_
     refine Qs (by kernel_rfl) ?_
     exact X2 F1 m1 F2 m2 p1 p2 ⟨HC, H10, H11, L1, L2⟩ rfl
   ·simp only [Qc, Qd, Qe]
    go_wp2
    obtain ⟨p1, wb, hbq, hwb, H10, HC', hx, gp1⟩ := Qp HC 57 #[.int .i64 0, .int .i64 0, .bool false, .int .i64 0, .bool false, .string ⟨#[]⟩, .slice none 0 0]
    rw [← hbq, ← hwb]
    try have ne : p2 < p1 := by have := H11.lt; omega
    replace HC := HC'
    try replace H11 := H11.ext hx
    clear hbq hwb hx HC'
    refine Qh HC ?_
    refine Qk 2 rfl (by kernel_rfl) ?_
    simp only [Qc, Qd, Qe]
    go_wp2_with (go_at_call 125; (with_reducible refine Calls.mono (N1 _ (E0.trans HC)) ?_); rintro e wc ⟨F1, m1, rfl, hj, L1⟩)
    replace HC := HC.trans hj
    try replace H10 := H10.ext hj
    try replace H11 := H11.ext hj
    clear hj
    refine Qh HC ?_
    refine Qk 5 rfl (by kernel_rfl) ?_
    simp only [Qc, Qd, Qe]
    go_wp2_with (go_at_call 125; (with_reducible refine Calls.mono (N2 _ (E0.trans HC)) ?_); rintro e wc ⟨F2, m2, rfl, hj, L2⟩)
    replace HC := HC.trans hj
    try replace H10 := H10.ext hj
    try replace H11 := H11.ext hj
    clear hj
    refine Qh HC ?_
    refine Qm 8 rfl (by kernel_rfl) ?_
    simp only [Qc, Qd, Qe]
    have z0 := Qb.frozen H10 0
    have z1 := Qb.frozen H10 1
    have z2 := Qb.frozen H10 2
    have z3 := Qb.frozen H10 3
    have z4 := Qb.frozen H10 4
    have z5 := Qb.frozen H10 5
    have z6 := Qb.frozen H10 6
    obtain ⟨u0, u1, u2, u3, u4, u5, u6⟩ := Qt H10
    have lx := Qb.lt H10
    have hgp : v.heap.size ≤ p1 := gp1
    go_wp2
    have Hn := Ji H10 (.int .i64 GX.on.y) (.int .i64 GX.on.m) (.bool GX.on.s) (.int .i64 GX.on.d) (.bool GX.i) (.string GX.w) (.slice F1 GX.l.length m1)
    have On := J0 H11 (show p2 ≠ p1 by omega) (.int .i64 GX.on.y) (.int .i64 GX.on.m) (.bool GX.on.s) (.int .i64 GX.on.d) (.bool GX.i) (.string GX.w) (.slice F1 GX.l.length m1)
    replace HC := Jh HC hgp (.int .i64 GX.on.y) (.int .i64 GX.on.m) (.bool GX.on.s) (.int .i64 GX.on.d) (.bool GX.i) (.string GX.w) (.slice F1 GX.l.length m1)
    skip
    clear H10 z0 z1 z2 z3 z4 z5 z6 u0 u1 u2 u3 u4 u5 u6 lx hgp
    have H10 := Hn
    replace H11 := On
    clear Hn On
    generalize World.setCell _ _ _ = wq at *
    refine Ql ?_
    refine Qm 9 rfl (by kernel_rfl) ?_
    simp only [Qc, Qd, Qe]
    have z0 := Qb.frozen H11 0
    have z1 := Qb.frozen H11 1
    have z2 := Qb.frozen H11 2
    have z3 := Qb.frozen H11 3
    have z4 := Qb.frozen H11 4
    have z5 := Qb.frozen H11 5
    have z6 := Qb.frozen H11 6
    obtain ⟨u0, u1, u2, u3, u4, u5, u6⟩ := Qt H11
    have lx := Qb.lt H11
    have hgp : v.heap.size ≤ p2 := gp2
    go_wp2
    have Hn := Ji H11 (.int .i64 GY.on.y) (.int .i64 GY.on.m) (.bool GY.on.s) (.int .i64 GY.on.d) (.bool GY.i) (.string GY.w) (.slice F2 GY.l.length m2)
    have On := J0 H10 (show p1 ≠ p2 by omega) (.int .i64 GY.on.y) (.int .i64 GY.on.m) (.bool GY.on.s) (.int .i64 GY.on.d) (.bool GY.i) (.string GY.w) (.slice F2 GY.l.length m2)
    replace HC := Jh HC hgp (.int .i64 GY.on.y) (.int .i64 GY.on.m) (.bool GY.on.s) (.int .i64 GY.on.d) (.bool GY.i) (.string GY.w) (.slice F2 GY.l.length m2)
    skip
    clear H11 z0 z1 z2 z3 z4 z5 z6 u0 u1 u2 u3 u4 u5 u6 lx hgp
    have H11 := Hn
    replace H10 := On
    clear Hn On
    generalize World.setCell _ _ _ = wq at *
    refine Ql ?_
    refine Qs (by kernel_rfl) ?_
    exact X2 F1 m1 F2 m2 p1 p2 ⟨HC, H10, H11, L1, L2⟩ rfl
 rintro F1 m1 F2 m2 p1 p2 w1 ⟨hx, BX, BY, L1, L2⟩
 replace E0 := E0.trans hx
 replace E := E.trans hx
 replace B1 := B1.ext hx
 replace B2 := B2.ext hx
 replace HA1 := HA1.ext hx
 have C := hA.C.ext E0
 have r1 := (E0.cell (p := ⟨b, off + x1 * 12, none⟩) hb).trans c1
 have r2 := (E0.cell (p := ⟨b, off + y1 * 12, none⟩) hb).trans c2
 have hbw := Nat.lt_of_lt_of_le hb E0.size
 clear hx N1 N2 c1 c2
 obtain ⟨x0', x1', x2', x3', x4', x5', x6'⟩ := Qt BX
 have xl := Qb.lt BX
 obtain ⟨y0', y1', y2', y3', y4', y5', y6'⟩ := Qt BY
 have yl := Qb.lt BY
 obtain ⟨k0, k1⟩ := Qb.c2 B1
 have kl := Qb.lt B1
 obtain ⟨l0, l1⟩ := Qb.c2 B2
 have ll := Qb.lt B2
 obtain ⟨a0, a1, a2, a3⟩ := Qb.c4 HA1
 have al := Qb.lt HA1
 have NE := fun w h1 h2 => Qbt (.slice F1 GX.l.length m1) (.slice F2 GY.l.length m2) GX.l GY.l w h1 h2
 go_upto_region 2 with (fail)
 by_cases g1 : GX.w = py
 rotate_left
 ·obtain rfl : RB = false := by
   rw [hRB.out]
   rw [decide_eq_false g1]; rfl
  have t1 : (GX.w.toList == py.toList) = false := beq_eq_false_iff_ne.2 fun h => g1 (K6 h)
  have t1n : (GX.w.toList != py.toList) = true := by rw [bne, t1]; rfl
  clear g1
  clear hRB
  refine Zb w1 Qq (by kernel_rfl) (by repeat (first | exact Qa.refl _ | (refine Qa.alloc ?_ _) | (refine Qa.trans ?_ (by assumption)))) ?_
  intro hne hrx hry
  try simp only []
  try simp only [List.append_eq, List.cons_append, List.nil_append]
  skip
  repeat (first
   | go_big_quiet_skip
   | (go_big_quiet_want; go_big_quiet_op; go_big_quiet_on)
   | (go_big_quiet_want; go_big_quiet_op; apply Exists.intro; refine ⟨fun u => ?_, ?_⟩
      ·first
        | (go_at_call 74; (with_reducible refine Calls.mono (NE _ (L1.ext (E0.trans u.e)) (L2.ext (E0.trans u.e))) ?_); rintro e w' ⟨rfl, hb⟩; exact ⟨rfl, u.back hb⟩)
      go_big_quiet_on))
  clear hne hry hrx
  refine wpQuiet_nil ?_
  intro w2 h2
  obtain ⟨hcw2, hfw2, hzw2⟩ := Qa.rules h2
  try simp only [World.size_alloc] at hzw2
  obtain ⟨hcbw2, hfbw2, hzbw2⟩ := Qa.rules (show Qa w1 w2 from (by repeat (first | exact Qa.refl _ | (refine Qa.alloc ?_ _) | (refine Qa.trans ?_ (by assumption)))))
  clear hcw2 hfw2
  go_wp2
  go_ret
  exact ⟨rfl, E.trans h2⟩
 have t1 : (GX.w.toList == py.toList) = true := by rw [g1]; exact beq_self_eq_true _
 have t1n : (GX.w.toList != py.toList) = false := by rw [bne, t1]; rfl
 replace g1 := Lib.hid g1
 by_cases g2 : GY.w = px
 rotate_left
 ·obtain rfl : RB = false := by
   rw [hRB.out]
   rw [decide_eq_false g2, Bool.and_false]; rfl
  have t2 : (GY.w.toList == px.toList) = false := beq_eq_false_iff_ne.2 fun h => g2 (K6 h)
  have t2n : (GY.w.toList != px.toList) = true := by rw [bne, t2]; rfl
  clear g2
  clear hRB
  refine Zb w1 Qq (by kernel_rfl) (by repeat (first | exact Qa.refl _ | (refine Qa.alloc ?_ _) | (refine Qa.trans ?_ (by assumption)))) ?_
  intro hne hrx hry
  try simp only []
  try simp only [List.append_eq, List.cons_append, List.nil_append]
  skip
  repeat (first
   | go_big_quiet_skip
   | (go_big_quiet_want; go_big_quiet_op; go_big_quiet_on)
   | (go_big_quiet_want; go_big_quiet_op; apply Exists.intro; refine ⟨fun u => ?_, ?_⟩
      ·first
        | (go_at_call 74; (with_reducible refine Calls.mono (NE _ (L1.ext (E0.trans u.e)) (L2.ext (E0.trans u.e))) ?_); rintro e w' ⟨rfl, hb⟩; exact ⟨rfl, u.back hb⟩)
      go_big_quiet_on))
  clear hne hry hrx
  refine wpQuiet_nil ?_
  intro w2 h2
  obtain ⟨hcw2, hfw2, hzw2⟩ := Qa.rules h2
  try simp only [World.size_alloc] at hzw2
  obtain ⟨hcbw2, hfbw2, hzbw2⟩ := Qa.rules (show Qa w1 w2 from (by repeat (first | exact Qa.refl _ | (refine Qa.alloc ?_ _) | (refine Qa.trans ?_ (by assumption)))))
  clear hcw2 hfw2
  go_wp2
  go_ret
  exact ⟨rfl, E.trans h2⟩
 have t2 : (GY.w.toList == px.toList) = true := by rw [g2]; exact beq_self_eq_true _
 have t2n : (GY.w.toList != px.toList) = false := by rw [bne, t2]; rfl
 replace g2 := Lib.hid g2
 by_cases g3 : GX.l = GY.l
 rotate_left
 ·rw [decide_eq_false g3] at NE
  obtain rfl : RB = false := by
   rw [hRB.out]
   rw [decide_eq_false g3, Bool.and_false]; rfl
  clear g3
  clear hRB
  refine Zb w1 Qq (by kernel_rfl) (by repeat (first | exact Qa.refl _ | (refine Qa.alloc ?_ _) | (refine Qa.trans ?_ (by assumption)))) ?_
  intro hne hrx hry
  try simp only []
  try simp only [List.append_eq, List.cons_append, List.nil_append]
  skip
  repeat (first
   | go_big_quiet_skip
   | (go_big_quiet_want; go_big_quiet_op; go_big_quiet_on)
   | (go_big_quiet_want; go_big_quiet_op; apply Exists.intro; refine ⟨fun u => ?_, ?_⟩
      ·first
        | (go_at_call 74; (with_reducible refine Calls.mono (NE _ (L1.ext (E0.trans u.e)) (L2.ext (E0.trans u.e))) ?_); rintro e w' ⟨rfl, hb⟩; exact ⟨rfl, u.back hb⟩)
      go_big_quiet_on))
  clear hne hry hrx
  refine wpQuiet_nil ?_
  intro w2 h2
  obtain ⟨hcw2, hfw2, hzw2⟩ := Qa.rules h2
  try simp only [World.size_alloc] at hzw2
  obtain ⟨hcbw2, hfbw2, hzbw2⟩ := Qa.rules (show Qa w1 w2 from (by repeat (first | exact Qa.refl _ | (refine Qa.alloc ?_ _) | (refine Qa.trans ?_ (by assumption)))))
  clear hcw2 hfw2
  go_wp2
  go_ret
  exact ⟨rfl, E.trans h2⟩
 rw [decide_eq_true g3] at NE
 replace g3 := Lib.hid g3
 refine Zb w1 Qq (by kernel_rfl) (by repeat (first | exact Qa.refl _ | (refine Qa.alloc ?_ _) | (refine Qa.trans ?_ (by assumption)))) ?_
 intro hne hrx hry
 try simp only []
 try simp only [List.append_eq, List.cons_append, List.nil_append]
 skip
 repeat (first
  | go_big_quiet_skip
  | (go_big_quiet_want; go_big_quiet_op; go_big_quiet_on)
  | (go_big_quiet_want; go_big_quiet_op; apply Exists.intro; refine ⟨fun u => ?_, ?_⟩
     ·first
       | (go_at_call 74; (with_reducible refine Calls.mono (NE _ (L1.ext (E0.trans u.e)) (L2.ext (E0.trans u.e))) ?_); rintro e w' ⟨rfl, hb⟩; exact ⟨rfl, u.back hb⟩)
     go_big_quiet_on))
 clear hne hry hrx
 refine wpQuiet_nil ?_
 intro w2 h2
 obtain ⟨hcw2, hfw2, hzw2⟩ := Qa.rules h2
 try simp only [World.size_alloc] at hzw2
 obtain ⟨hcbw2, hfbw2, hzbw2⟩ := Qa.rules (show Qa w1 w2 from (by repeat (first | exact Qa.refl _ | (refine Qa.alloc ?_ _) | (refine Qa.trans ?_ (by assumption)))))
 clear hcw2 hfw2
 clear NE t1 t1n t2 t2n r1 r2 hbw
 replace E0 := E0.trans h2
 replace E := E.trans h2
 replace BX := BX.ext h2
 replace BY := BY.ext h2
 replace HA1 := HA1.ext h2
 replace C := C.ext h2
 clear x0' x1' x2' x3' x4' x5' x6' xl y0' y1' y2' y3' y4' y5' y6' yl k0 k1 kl l0 l1 ll a0 a1 a2 a3 al h2 L1 L2
 obtain ⟨x0', x1', x2', x3', x4', x5', x6'⟩ := Qt BX
 have xl := Qb.lt BX
 obtain ⟨y0', y1', y2', y3', y4', y5', y6'⟩ := Qt BY
 have yl := Qb.lt BY
 obtain ⟨a0, a1, a2, a3⟩ := Qb.c4 HA1
 have al := Qb.lt HA1
 have NX := ND GX.on
 have NY := ND GY.on
 clear ND
 have hres : Hid (RB = (decide (0 ≤ c.numV GY.on - c.numV GX.on) && decide (c.numV GY.on - c.numV GX.on ≤ days))) := by
  unfold Hid
  rw [hRB.out, decide_eq_true g1.out, decide_eq_true g2.out, decide_eq_true g3.out]
  rfl
 clear hRB
 generalize c.numV GX.on = nx at *
 generalize c.numV GY.on = ny at *
 go_upto_region 4 with (fail)
 refine Zb w2 Qq (by kernel_rfl) (by repeat (first | exact Qa.refl _ | (refine Qa.alloc ?_ _) | (refine Qa.trans ?_ (by assumption)))) ?_
 intro hne hrx hry
 try simp only []
 try simp only [List.append_eq, List.cons_append, List.nil_append]
 skip
 repeat (first
  | go_big_quiet_skip
  | (go_big_quiet_want; go_big_quiet_op; go_big_quiet_on)
  | (go_big_quiet_want; go_big_quiet_op; apply Exists.intro; refine ⟨fun u => ?_, ?_⟩
     ·first
       | (go_at_call 48; (with_reducible refine Calls.mono (NX _ (C.ext u.e)) ?_); rintro e w' ⟨rfl, hb⟩; exact ⟨rfl, u.back hb⟩)
       | (go_at_call 48; (with_reducible refine Calls.mono (NY _ (C.ext u.e)) ?_); rintro e w' ⟨rfl, hb⟩; exact ⟨rfl, u.back hb⟩)
     go_big_quiet_on))
 clear hne hry hrx
 refine wpQuiet_nil ?_
 intro w3 h3
 obtain ⟨hcw3, hfw3, hzw3⟩ := Qa.rules h3
 try simp only [World.size_alloc] at hzw3
 obtain ⟨hcbw3, hfbw3, hzbw3⟩ := Qa.rules (show Qa w2 w3 from (by repeat (first | exact Qa.refl _ | (refine Qa.alloc ?_ _) | (refine Qa.trans ?_ (by assumption)))))
 clear hcw3 hfw3
 obtain ⟨d, hd⟩ := Qg (ny - nx)
 rw [← hd] at hres
 by_cases q1 : 0 ≤ ny - nx
 ·by_cases q2 : ny - nx ≤ days
  ·have f1 : decide (0 ≤ ny - nx) = true := decide_eq_true q1
   have f2 : decide (ny - nx ≤ days) = true := decide_eq_true q2
   go_wp2
   go_ret
   exact ⟨by rw [hres.out, hd, f1, f2]; rfl, E.trans h3⟩
  ·have f1 : decide (0 ≤ ny - nx) = true := decide_eq_true q1
   have f2 : decide (ny - nx ≤ days) = false := decide_eq_false q2
   go_wp2
   go_ret
   exact ⟨by rw [hres.out, hd, f1, f2]; rfl, E.trans h3⟩
 ·have f1 : decide (0 ≤ ny - nx) = false := decide_eq_false q1
  go_wp2
  go_ret
  exact ⟨by rw [hres.out, hd, f1]; rfl, E.trans h3⟩
end
section
open Go Go.RowKit Go.Shelf
/-- A slice from its block's begin: n cells of it. -/
structure Qx (W : World) (t : TypeId) (A : Option Addr) (n b : Nat) (g : Nat → Value) : Prop where
 a : 0 < n → A = some ⟨b, 0, none⟩
 h : 0 < n → ∃ cs : Array Value, Qb W b t cs ∧ n ≤ cs.size ∧ ∀ k, k < n → cs[k]? = some (g k)
section
variable {W W' : World} {t t' : TypeId} {A A' : Option Addr} {n n' b b' k : Nat} {g g' : Nat → Value} {cs : Array Value}
theorem Qx.cell (h : Qx W t A n b g) (hk : k < n) : W.cell? ⟨b, k, none⟩ = some (g k) := by
 obtain ⟨cs, h1, _, h3⟩ := h.h (by omega)
 rw [h1.cell k, h3 k hk]
theorem Qx.lt (h : Qx W t A n b g) (hn : 0 < n) : b < W.heap.size := by
 obtain ⟨cs, h1, _⟩ := h.h hn
 exact h1.lt
theorem Qx.frozen (h : Qx W t A n b g) (hn : 0 < n) (k : Nat) : W.frozen? ⟨b, k, none⟩ = false := by
 obtain ⟨cs, h1, _⟩ := h.h hn
 exact h1.frozen k
theorem Qx.ext (h : Qx W t A n b g) (x : Qa W W') : Qx W' t A n b g := ⟨h.a, fun hn => by
 obtain ⟨cs, h1, h2⟩ := h.h hn
 exact ⟨cs, h1.ext x, h2⟩⟩
theorem Qx.congr (h : Qx W t A n b g) (e : ∀ k, k < n → g k = g' k) : Qx W t A n b g' := ⟨h.a, fun hn => by
 obtain ⟨cs, h1, h2, h3⟩ := h.h hn
 exact ⟨cs, h1, h2, fun k hk => by rw [← e k hk]; exact h3 k hk⟩⟩
theorem Lv (h : Qb W b t cs) (i : Nat) (u : Value) : Qb (W.setCell ⟨b, i, none⟩ u) b t (cs.setIfInBounds i u) := by unfold Qb at h ⊢; simp [World.setCell, Array.getElem?_modify, h]
theorem Un (h : Qb W b t cs) (hne : b ≠ b') (j : Nat) (u : Value) : Qb (W.setCell ⟨b', j, none⟩ u) b t cs := by unfold Qb at h ⊢; simp [World.setCell, Array.getElem?_modify, h, Ne.symm hne]
theorem Xr {cs' : Array Value} (h : Qb W b t cs) (h' : Qb W b' t' cs') (hne : t ≠ t') : b ≠ b' := fun e => by
 subst e
 unfold Qb at h h'
 rw [h] at h'
 injection h' with h'
 injection h' with _ h2
 exact hne h2
theorem Qx.set (h : Qx W t A n b g) (hk : k < n) (u : Value) : Qx (W.setCell ⟨b, k, none⟩ u) t A n b (fun x => if x = k then u else g x) := ⟨h.a, fun hn => by
 obtain ⟨cs, h1, h2, h3⟩ := h.h hn
 refine ⟨_, Lv h1 k u, by simpa using h2, fun x hx => ?_⟩
 have hs : k < cs.size := by omega
 by_cases e : x = k
 ·subst e; simp [Array.setIfInBounds, hs]
 ·simp [Ne.symm e, h3 x hx, e]⟩
theorem Qx.oth (h : Qx W t A n b g) (hne : 0 < n → b ≠ b') (j : Nat) (u : Value) : Qx (W.setCell ⟨b', j, none⟩ u) t A n b g := ⟨h.a, fun hn => by
 obtain ⟨cs, h1, h2⟩ := h.h hn
 exact ⟨cs, Un h1 (hne hn) j u, h2⟩⟩
theorem Qx.kept {row : Option Nat} (h : Qx W t A n b g) (hg : W.grownBy W' row) (hne : 0 < n → some b ≠ row) : Qx W' t A n b g := ⟨h.a, fun hn => by
 obtain ⟨cs, h1, h2⟩ := h.h hn
 exact ⟨cs, h1.kept hg (hne hn), h2⟩⟩
theorem Qx.apart (h : Qx W t A n b g) (h' : Qb W b' t' cs) (hne : t ≠ t') (hn : 0 < n) : b ≠ b' := by
 obtain ⟨ds, h1, _⟩ := h.h hn
 exact Xr h1 h' hne
theorem Qx.apart2 (h : Qx W t A n b g) (h' : Qx W t' A' n' b' g') (hne : t ≠ t') (hn : 0 < n) (hn' : 0 < n') : b ≠ b' := by
 obtain ⟨ds, h1, _⟩ := h.h hn
 obtain ⟨es, h2, _⟩ := h'.h hn'
 exact Xr h1 h2 hne
/-- A row of one's own, of cells one by one, is such an array. -/
theorem Tz {base : Nat} {v : Value} {xs : List Value} (h : W.ownsRow base t 1 v n xs) (hx : ∀ k, k < n → xs[k]? = some (g k)) : ∃ A cap b, v = .slice A n cap ∧ base ≤ b ∧ (0 < n → b < W.heap.size ∧ v.ownBlock = some b) ∧ Qx W t A n b g := by
 rcases h.2 with ⟨rfl, rfl⟩ | ⟨q, cap, cur, rfl, h1, h2, h3, h4, h5, h6⟩
 ·exact ⟨none, 0, base, rfl, Nat.le_refl _, fun h => absurd h (by omega), fun h => absurd h (by omega), fun h => absurd h (by omega)⟩
 ·refine ⟨_, cap, q, rfl, h1, fun _ => ⟨(Array.getElem?_eq_some_iff.1 h2).1, rfl⟩, fun _ => rfl, fun _ => ⟨cur, h2, by rw [h5]; omega, fun k hk => ?_⟩⟩
  have := hx k hk
  rw [← h6, Nat.mul_one, List.getElem?_take_of_lt hk] at this
  simpa using this
theorem Ip (W : World) (t : TypeId) (n : Nat) (z : Value) : Qx (W.alloc (.cells (Array.replicate n z) t)) t (some ⟨W.heap.size, 0, none⟩) n W.heap.size (fun _ => z) :=
 ⟨fun _ => rfl, fun _ => ⟨_, Qb.new _ _ _, by simp, fun k hk => by simp [hk]⟩⟩
end
end
section
open Go Go.RowKit Go.Shelf
attribute [local go_sem] Zq
/-- What nothing changes: the variable that holds the matcher, and the matcher. -/
structure KM (bm bs : Nat) (vo vi vy : Value) (O I X : Option Addr) (no ni cO cI cX : Nat) (W : World) : Prop where
 p : Qb W bm 166 #[.pointer (some ⟨bs, 0, none⟩)]
 s : Qb W bs 213 #[vo, vi, vy, .slice O no cO, .slice I ni cI, .slice X ni cX, .func (.func 127) #[] #[.pointer (some ⟨bm, 0, none⟩)]]
structure MS (W0 W : World) (bm bs : Nat) (vo vi vy : Value) (O I X : Option Addr) (no ni cO cI cX : Nat) (bo bi bf : Nat) (m : Mt) (fx : Bl) : Prop where
 e : Qa W0 W
 km : KM bm bs vo vi vy O I X no ni cO cI cX W
 o : Qx W 3 O no bo fun k => .int .i64 (m.2 k)
 i : Qx W 3 I ni bi fun k => .int .i64 (m.1 k)
 f : Qx W 4 X ni bf fun k => .bool (fx k)
 oi : 0 < no → 0 < ni → bo ≠ bi
 lo : 0 < no → W0.heap.size ≤ bo
 li : 0 < ni → W0.heap.size ≤ bi
 lf : 0 < ni → W0.heap.size ≤ bf
/-- The ins of each out, in memory. -/
def K9 (W : World) (vy : Value) (no : Nat) (adj : Nat → List Nat) : Prop := ∃ Y cap, ∃ vs : Nat → Value, vy = .slice Y no cap ∧ Qo W Y no 1 (fun i => [vs i]) ∧ ∀ i, i < no → ∃ D cd, (adj i).length ≤ 1000000 ∧ vs i = .slice D (adj i).length cd ∧ Qo W D (adj i).length 1 (fun k => [.int .i64 (((adj i).getD k 0 : Nat) : Int)])
/-- Blocks but those of S stay as they are. -/
def Fr (S : Nat → Prop) (W W' : World) : Prop := W.heap.size ≤ W'.heap.size ∧ ∀ b, b < W.heap.size → ¬ S b → W'.heap[b]? = W.heap[b]?
/-- The blocks that a search writes. -/
def SN (no ni bo bi bn : Nat) : Nat → Prop := fun b => (0 < no ∧ b = bo) ∨ (0 < ni ∧ (b = bi ∨ b = bn))
theorem sn_o {no ni bo bi bn : Nat} (h : 0 < no) : SN no ni bo bi bn bo := Or.inl ⟨h, rfl⟩
theorem sn_i {no ni bo bi bn : Nat} (h : 0 < ni) : SN no ni bo bi bn bi := Or.inr ⟨h, Or.inl rfl⟩
theorem sn_n {no ni bo bi bn : Nat} (h : 0 < ni) : SN no ni bo bi bn bn := Or.inr ⟨h, Or.inr rfl⟩
theorem Fr.refl (S : Nat → Prop) (W : World) : Fr S W W := ⟨Nat.le_refl _, fun _ _ _ => rfl⟩
theorem Fr.trans {S : Nat → Prop} {W W1 W2 : World} (h : Fr S W W1) (k : Fr S W1 W2) : Fr S W W2 := ⟨Nat.le_trans h.1 k.1, fun b hb hs => (k.2 b (Nat.lt_of_lt_of_le hb h.1) hs).trans (h.2 b hb hs)⟩
theorem Fr.ext {S : Nat → Prop} {W W1 W2 : World} (h : Fr S W W1) (k : Qa W1 W2) : Fr S W W2 := ⟨Nat.le_trans h.1 k.size, fun b hb hs => (k.block (Nat.lt_of_lt_of_le hb h.1)).trans (h.2 b hb hs)⟩
theorem Fr.set {S : Nat → Prop} {W W1 : World} (h : Fr S W W1) {b : Nat} (hb : S b) (j : Nat) (u : Value) : Fr S W (W1.setCell ⟨b, j, none⟩ u) := by
 refine ⟨by simpa [World.setCell] using h.1, fun c hc hs => ?_⟩
 have : b ≠ c := fun e => hs (by rw [← e]; exact hb)
 rw [← h.2 c hc hs]
 simp [World.setCell, Array.getElem?_modify, this]
theorem Fr.held {S : Nat → Prop} {W W' : World} (h : Fr S W W') {b : Nat} {t : TypeId} {cs : Array Value} (hb : Qb W b t cs) (hs : ¬ S b) : Qb W' b t cs := (h.2 b hb.lt hs).trans hb
theorem Fr.mono {S S' : Nat → Prop} {W W' : World} (h : Fr S W W') (k : ∀ b, S b → S' b) : Fr S' W W' := ⟨h.1, fun b hb hs => h.2 b hb fun h => hs (k b h)⟩
section
variable {W0 W W' : World} {bm bs : Nat} {vo vi vy : Value} {O I X : Option Addr} {no ni cO cI cX : Nat} {bo bi bf : Nat} {m : Mt} {fx : Bl}
theorem KM.ext (h : KM bm bs vo vi vy O I X no ni cO cI cX W) (x : Qa W W') : KM bm bs vo vi vy O I X no ni cO cI cX W' := ⟨h.p.ext x, h.s.ext x⟩
theorem MS.ext (h : MS W0 W bm bs vo vi vy O I X no ni cO cI cX bo bi bf m fx) (x : Qa W W') : MS W0 W' bm bs vo vi vy O I X no ni cO cI cX bo bi bf m fx := ⟨h.e.trans x, h.km.ext x, h.o.ext x, h.i.ext x, h.f.ext x, h.oi, h.lo, h.li, h.lf⟩
theorem MS.congr {m' : Mt} {fx' : Bl} (h : MS W0 W bm bs vo vi vy O I X no ni cO cI cX bo bi bf m fx) (e1 : ∀ k, k < ni → m.1 k = m'.1 k) (e2 : ∀ k, k < no → m.2 k = m'.2 k) (e3 : ∀ k, k < ni → fx k = fx' k) : MS W0 W bm bs vo vi vy O I X no ni cO cI cX bo bi bf m' fx' := ⟨h.e, h.km, h.o.congr fun k hk => by rw [e2 k hk], h.i.congr fun k hk => by rw [e1 k hk], h.f.congr fun k hk => by rw [e3 k hk], h.oi, h.lo, h.li, h.lf⟩
theorem KM.set (h : KM bm bs vo vi vy O I X no ni cO cI cX W) {b : Nat} {t : TypeId} {cs : Array Value} (hb : Qb W b t cs) (h1 : t ≠ 166) (h2 : t ≠ 213) (j : Nat) (u : Value) : KM bm bs vo vi vy O I X no ni cO cI cX (W.setCell ⟨b, j, none⟩ u) :=
 ⟨Un h.p (Ne.symm (Xr hb h.p h1)) j u, Un h.s (Ne.symm (Xr hb h.s h2)) j u⟩
theorem MS.setO (h : MS W0 W bm bs vo vi vy O I X no ni cO cI cX bo bi bf m fx) {i : Nat} (hi : i < no) (v : Int) : MS W0 (W.setCell ⟨bo, i, none⟩ (.int .i64 v)) bm bs vo vi vy O I X no ni cO cI cX bo bi bf (m.1, Qj m.2 i v) fx := by
 obtain ⟨cs, h1, _⟩ := h.o.h (by omega)
 refine ⟨h.e.setCell (p := ⟨bo, i, none⟩) (h.lo (by omega)) _, h.km.set h1 (by decide) (by decide) _ _, (h.o.set hi _).congr fun k _ => ?_, h.i.oth (fun hn => Ne.symm (h.oi (by omega) hn)) _ _, h.f.oth (fun hn => Ne.symm (h.o.apart2 h.f (by decide) (by omega) hn)) _ _, h.oi, h.lo, h.li, h.lf⟩
 by_cases e : k = i
 ·subst e; simp [Qj]
 ·simp [Qj, e]
theorem MS.setI (h : MS W0 W bm bs vo vi vy O I X no ni cO cI cX bo bi bf m fx) {k : Nat} (hk : k < ni) (v : Int) : MS W0 (W.setCell ⟨bi, k, none⟩ (.int .i64 v)) bm bs vo vi vy O I X no ni cO cI cX bo bi bf (Qj m.1 k v, m.2) fx := by
 obtain ⟨cs, h1, _⟩ := h.i.h (by omega)
 refine ⟨h.e.setCell (p := ⟨bi, k, none⟩) (h.li (by omega)) _, h.km.set h1 (by decide) (by decide) _ _, h.o.oth (fun hn => h.oi hn (by omega)) _ _, (h.i.set hk _).congr fun x _ => ?_, h.f.oth (fun hn => Ne.symm (h.i.apart2 h.f (by decide) (by omega) hn)) _ _, h.oi, h.lo, h.li, h.lf⟩
 by_cases e : x = k
 ·subst e; simp [Qj]
 ·simp [Qj, e]
theorem MS.setF (h : MS W0 W bm bs vo vi vy O I X no ni cO cI cX bo bi bf m fx) {k : Nat} (hk : k < ni) (v : Bool) : MS W0 (W.setCell ⟨bf, k, none⟩ (.bool v)) bm bs vo vi vy O I X no ni cO cI cX bo bi bf m (Qj fx k v) := by
 obtain ⟨cs, h1, _⟩ := h.f.h (by omega)
 refine ⟨h.e.setCell (p := ⟨bf, k, none⟩) (h.lf (by omega)) _, h.km.set h1 (by decide) (by decide) _ _, h.o.oth (fun hn => h.o.apart2 h.f (by decide) hn (by omega)) _ _, h.i.oth (fun hn => h.i.apart2 h.f (by decide) hn (by omega)) _ _, (h.f.set hk _).congr fun x _ => ?_, h.oi, h.lo, h.li, h.lf⟩
 by_cases e : x = k
 ·subst e; simp [Qj]
 ·simp [Qj, e]
theorem MS.setN (h : MS W0 W bm bs vo vi vy O I X no ni cO cI cX bo bi bf m fx) {N : Option Addr} {bn k : Nat} {g : Nat → Value} (hN : Qx W 4 N ni bn g) (hk : k < ni) (hl : W0.heap.size ≤ bn) (hne : bn ≠ bf) (u : Value) : MS W0 (W.setCell ⟨bn, k, none⟩ u) bm bs vo vi vy O I X no ni cO cI cX bo bi bf m fx := by
 obtain ⟨cs, h1, _⟩ := hN.h (by omega)
 exact ⟨h.e.setCell (p := ⟨bn, k, none⟩) hl _, h.km.set h1 (by decide) (by decide) _ _, h.o.oth (fun hn => h.o.apart2 hN (by decide) hn (by omega)) _ _, h.i.oth (fun hn => h.i.apart2 hN (by decide) hn (by omega)) _ _, h.f.oth (fun _ => Ne.symm hne) _ _, h.oi, h.lo, h.li, h.lf⟩
end
theorem Pf {l : List Nat} {t : Nat} (h : t < l.length) : l.drop t = l.getD t 0 :: l.drop (t + 1) := by
 rw [List.drop_eq_getElem_cons h, List.getD_eq_getElem?_getD, List.getElem?_eq_getElem h]; rfl
theorem F9 (sn fx : Bl) (k : Nat) : (fun x => Qj sn k true x || fx x) = Qj (fun x => sn x || fx x) k true := by
 funext x
 unfold Qj
 by_cases e : x = k <;> simp [e]
theorem T9 {rec : Mt → Bl → Nat → Option Mt × Bl} {i k : Nat} {r : List Nat} {m : Mt} {b : Bl} (h : b k = true) : Z2 rec i (k :: r) m b = Z2 rec i r m b := by
 conv => lhs; unfold Z2
 rw [if_pos h]
theorem Ir {rec : Mt → Bl → Nat → Option Mt × Bl} {i k : Nat} {r : List Nat} {m : Mt} {b : Bl} (h : b k = false) (hm : m.1 k < 0) : Z2 rec i (k :: r) m b = (some (Y7 m k i), Qj b k true) := by
 conv => lhs; unfold Z2
 rw [if_neg (by simp [h]), if_pos hm]
theorem Iv {rec : Mt → Bl → Nat → Option Mt × Bl} {i k : Nat} {r : List Nat} {m m1 : Mt} {b b2 : Bl} (h : b k = false) (hm : ¬ m.1 k < 0) (hr : rec m (Qj b k true) (m.1 k).toNat = (some m1, b2)) : Z2 rec i (k :: r) m b = (some (Y7 m1 k i), b2) := by
 conv => lhs; unfold Z2
 rw [if_neg (by simp [h]), if_neg hm, hr]
theorem Iu {rec : Mt → Bl → Nat → Option Mt × Bl} {i k : Nat} {r : List Nat} {m : Mt} {b b2 : Bl} (h : b k = false) (hm : ¬ m.1 k < 0) (hr : rec m (Qj b k true) (m.1 k).toNat = (none, b2)) : Z2 rec i (k :: r) m b = Z2 rec i r m b2 := by
 conv => lhs; unfold Z2
 rw [if_neg (by simp [h]), if_neg hm, hr]
theorem Ik {W : World} {N : Option Addr} {ni bn k : Nat} {sn : Bl} (h : Qx W 4 N ni bn (fun x => .bool (sn x))) (hk : k < ni) (b : Bool) : Qx (W.setCell ⟨bn, k, none⟩ (.bool b)) 4 N ni bn (fun x => .bool (Qj sn k b x)) := (h.set hk _).congr fun x _ => by
 by_cases e : x = k
 ·subst e; simp [Qj]
 ·simp [Qj, e]
set_option maxHeartbeats 40000000 in
theorem Sb {adj : Nat → List Nat} (W0 : World) (bm bs : Nat) (vo vi vy : Value) (O I X : Option Addr) (no ni cO cI cX bo bi bf : Nat) (m : Mt) (fx : Bl) (hadj : ∀ o, ∀ k ∈ adj o, k < ni) (hY : K9 W0 vy no adj) (hm : ∀ k, k < ni → 0 ≤ m.1 k → (m.1 k).toNat < no) :
  ∀ (n : Nat) (W : World) (sn : Bl) (i : Nat) (N : Option Addr) (cN bn : Nat), i < no → Jy ni (fun k => sn k || fx k) ≤ n → MS W0 W bm bs vo vi vy O I X no ni cO cI cX bo bi bf m fx → Qx W 4 N ni bn (fun x => .bool (sn x)) → (0 < ni → bn ≠ bf) → (0 < ni → W0.heap.size ≤ bn) → Calls Tryz.prog 127 #[.int .i64 i, .slice N ni cN, .pointer (some ⟨bm, 0, none⟩)] W fun e W' => e = .returned (.bool (Q9 adj n m (fun k => sn k || fx k) i).1.isSome) ∧ MS W0 W' bm bs vo vi vy O I X no ni cO cI cX bo bi bf ((Q9 adj n m (fun k => sn k || fx k) i).1.getD m) fx ∧ Fr (SN no ni bo bi bn) W W' ∧ ∃ sn' : Bl, Qx W' 4 N ni bn (fun x => .bool (sn' x)) ∧ ∀ k, (sn' k || fx k) = (Q9 adj n m (fun k => sn k || fx k) i).2 k := by
 intro n
 induction n using Nat.strongRecOn with
 | _ n IH =>
 intro W sn i N cN bn hi hc hM hN hne hl
 obtain ⟨Y, cY, vs, rfl, hYr, hYi⟩ := id hY
 have hr0 := aug_eq (adj := adj) (n := n) (m := m) (b := fun k => sn k || fx k) (i := i) (hadj i) hc
 obtain ⟨R, hR⟩ := Qg (Q9 adj n m (fun k => sn k || fx k) i)
 rw [← hR] at hr0 ⊢
 replace hr0 := Lib.hid hr0.symm
 clear hR
 replace hc := Lib.hid hc
 have hno : 0 < no := by omega
 have hYr2 := hYr.ext hM.e
 obtain ⟨D, cD, hl6, hv, hDr⟩ := hYi i hi
 obtain ⟨b, off, hYe, hb, hcc⟩ := hYr2 hno
 subst hYe
 have c0 : W.cell? ⟨b, off + i, none⟩ = some (.slice D (adj i).length cD) := by
  have := hcc i 0 (vs i) hi rfl
  rw [hv] at this
  simpa using this
 clear hcc hYr2 hv
 obtain ⟨la, hla⟩ := Qg ((adj i).length)
 rw [← hla] at c0 hDr hl6
 replace hla := Lib.hid hla
 go_enter Tryz.func127, Tryz.ntmps127
 have m0 := hM.km.p.c1
 have ml := hM.km.p.lt
 obtain ⟨s0, s1, s2, s3, s4, s5, s6⟩ := Qt hM.km.s
 have sl := hM.km.s.lt
 go_upto_region 2 with (fail)
 clear c0 hb m0 ml s0 s1 s2 s3 s4 s5 s6 sl
 go_loopw [16] (fun iv wr => ∃ (t : Nat) (sn' : Bl), t ≤ la ∧ iv = .int .i64 t ∧ MS W0 wr bm bs vo vi (.slice (some ⟨b, off, none⟩) no cY) O I X no ni cO cI cX bo bi bf m fx ∧ Qx wr 4 N ni bn (fun x => .bool (sn' x)) ∧ Hid (Z2 (Q9 adj (n - 1)) i ((adj i).drop t) m (fun k => sn' k || fx k) = R) ∧ Hid (Jy ni (fun k => sn' k || fx k) ≤ n) ∧ Fr (SN no ni bo bi bn) W wr) (fun iv _ => la - (intOf iv).toNat)
 case atStart => exact ⟨0, sn, Nat.zero_le _, rfl, hM, hN, hr0, hc, Fr.refl _ _⟩
 case round =>
  clear hM hN hc hr0
  obtain ⟨t, sn', ht, rfl, M, N1, hr, hc, F⟩ := hrel
  obtain ⟨wo, rfl⟩ := Qg wr
  by_cases hlt : t < la
  rotate_left
  ·obtain rfl : t = la := by omega
   have hR : R = (none, fun k => sn' k || fx k) := by
    have h := hr.out
    rw [hla.out, List.drop_length] at h
    exact h.symm
   subst hR
   clear hr hc IH
   go_wp2
   go_ret
   exact ⟨rfl, M, F, sn', N1, fun _ => rfl⟩
  obtain ⟨bd, offd, rfl, hbd, hcd⟩ := (hDr.ext M.e) (by omega)
  obtain ⟨k, hk⟩ := Qg ((adj i).getD t 0)
  have d0 : wo.cell? ⟨bd, offd + t, none⟩ = some (.int .i64 (k : Int)) := by
   have := hcd t 0 (.int .i64 (((adj i).getD t 0 : Nat) : Int)) hlt rfl
   rw [← hk] at this
   simpa using this
  clear hcd
  have hkn : k < ni := hadj i k (by rw [hk]; exact Xh (by rw [← hla.out]; exact hlt))
  have hdr := Pf (l := adj i) (t := t) (by rw [← hla.out]; exact hlt)
  rw [← hk] at hdr
  replace hdr := Lib.hid hdr
  clear hk
  have hni : 0 < ni := by omega
  have hNe := N1.a hni
  have hXe := M.f.a hni
  have hIe := M.i.a hni
  have hOe := M.o.a hno
  subst hNe
  subst hXe
  subst hIe
  subst hOe
  have n0 := N1.cell hkn
  have nl := N1.lt hni
  have x0 := M.f.cell hkn
  have xl := M.f.lt hni
  have m0 := M.km.p.c1
  have ml := M.km.p.lt
  obtain ⟨s0, s1, s2, s3, s4, s5, s6⟩ := Qt M.km.s
  have sl := M.km.s.lt
  cases hs : sn' k
  rotate_left
  ·rw [hs] at n0
   have hr2 : Hid (Z2 (Q9 adj (n - 1)) i ((adj i).drop (t + 1)) m (fun k => sn' k || fx k) = R) := by
    have h := hr.out
    rw [hdr.out, T9 (by simp [hs])] at h
    exact h
   clear hr IH hs hdr
   go_wp2
   exact ⟨⟨t + 1, sn', by omega, by go_num, M, N1, hr2, hc, F⟩, by simp [intOf]; omega⟩
  rw [hs] at n0
  cases hf : fx k
  rotate_left
  ·rw [hf] at x0
   have hr2 : Hid (Z2 (Q9 adj (n - 1)) i ((adj i).drop (t + 1)) m (fun k => sn' k || fx k) = R) := by
    have h := hr.out
    rw [hdr.out, T9 (by simp [hf])] at h
    exact h
   clear hr IH hs hf hdr
   go_wp2
   exact ⟨⟨t + 1, sn', by omega, by go_num, M, N1, hr2, hc, F⟩, by simp [intOf]; omega⟩
  rw [hf] at x0
  have hbk : (fun k => sn' k || fx k) k = false := by simp [hs, hf]
  have nz := N1.frozen hni k
  go_upto_region 6 with (fail)
  have M2 := M.setN N1 hkn (hl hni) (hne hni) (.bool true)
  have N2 := Ik N1 hkn true
  have F2 := F.set (b := bn) (sn_n hni) k (.bool true)
  generalize World.setCell _ _ _ = w2 at *
  clear M N1 F n0 nl nz x0 xl d0 hbd hs hf m0 ml s0 s1 s2 s3 s4 s5 s6 sl
  have i0 := M2.i.cell hkn
  have il := M2.i.lt hni
  have m0 := M2.km.p.c1
  have ml := M2.km.p.lt
  obtain ⟨s0, s1, s2, s3, s4, s5, s6⟩ := Qt M2.km.s
  have sl := M2.km.s.lt
  by_cases hmk : m.1 k < 0
  ·have hR : R = (some (Y7 m k i), Qj (fun k => sn' k || fx k) k true) := by
    have h := hr.out
    rw [hdr.out, Ir hbk hmk] at h
    exact h.symm
   subst hR
   clear hr hc hdr IH hbk
   have hmb : decide (m.1 k < 0) = true := decide_eq_true hmk
   go_upto_region 6 with (fail)
   refine Zb w2 Qq (by kernel_rfl) (by repeat (first | exact Qa.refl _ | (refine Qa.alloc ?_ _) | (refine Qa.trans ?_ (by assumption)))) ?_
   intro hne hrx hry
   try simp only []
   try simp only [List.append_eq, List.cons_append, List.nil_append]
   skip
   repeat (first
    | go_big_quiet_skip
    | (go_big_quiet_want; go_big_quiet_op; go_big_quiet_on))
   clear hne hry hrx
   refine wpQuiet_nil ?_
   intro w3 h3
   obtain ⟨hcw3, hfw3, hzw3⟩ := Qa.rules h3
   try simp only [World.size_alloc] at hzw3
   obtain ⟨hcbw3, hfbw3, hzbw3⟩ := Qa.rules (show Qa w2 w3 from (by repeat (first | exact Qa.refl _ | (refine Qa.alloc ?_ _) | (refine Qa.trans ?_ (by assumption)))))
   clear hcw3 hfw3
   have M3 := M2.ext h3
   have N3 := N2.ext h3
   have F3 := F2.ext h3
   clear M2 N2 F2 i0 il m0 ml s0 s1 s2 s3 s4 s5 s6 sl
   go_upto_region 7 with (fail)
   refine Q1 16 [15] (fun x => KM bm bs vo vi (.slice (some ⟨b, off, none⟩) no cY) (some ⟨bo, 0, none⟩) (some ⟨bi, 0, none⟩) (some ⟨bf, 0, none⟩) no ni cO cI cX x) Qq rfl ?_
   intro vz hvz
   have M7 := M3.ext hvz
   have N7 := N3.ext hvz
   have F7 := F3.ext hvz
   have HC := M7.km
   refine Qr (g := 3) [0, 1, 2, 3, 4, 5, 6, 7, 8, 9, 10, 11, 12] [_, _, _, _, _, _, _, _, _, _, _, _, _] ⟨rfl, rfl, rfl, rfl, rfl, rfl, rfl, rfl, rfl, rfl, rfl, rfl, rfl, trivial⟩ (by kernel_rfl) (by kernel_rfl) HC ?_
   simp only [Qc, Qd, Qe]
   apply Exists.intro
   refine ⟨fun u hu => ?_, ?_⟩
   ·have m0 := hu.p.c1
    have ml := hu.p.lt
    obtain ⟨s0, s1, s2, s3, s4, s5, s6⟩ := Qt hu.s
    have sl := hu.s.lt
    repeat (first | go_big_quiet_skip | (go_big_quiet_want; go_big_quiet_op; go_big_quiet_on))
    refine wpQuiet_nil ?_
    rfl
   refine Qk 13 rfl (by kernel_rfl) ?_
   simp only [Qc, Qd, Qe]
   have fz := M7.o.frozen hno i
   have fc := M7.o.cell hi
   have fl := M7.o.lt hno
   go_wp2
   replace N7 := N7.oth (fun hn => Ne.symm (M7.o.apart2 N7 (by decide) hno hn)) i (.int .i64 (k : Int))
   replace F7 := F7.set (b := bo) (sn_o hno) i (.int .i64 (k : Int))
   replace M7 := M7.setO hi (k : Int)
   have HC := M7.km
   clear fz fc fl
   generalize World.setCell _ _ _ = wq at *
   refine Qh HC ?_
   refine Qr (g := 1) [14] [_] ⟨rfl, trivial⟩ (by kernel_rfl) (by kernel_rfl) HC ?_
   simp only [Qc, Qd, Qe]
   apply Exists.intro
   refine ⟨fun u hu => ?_, ?_⟩
   ·have m0 := hu.p.c1
    have ml := hu.p.lt
    obtain ⟨s0, s1, s2, s3, s4, s5, s6⟩ := Qt hu.s
    have sl := hu.s.lt
    repeat (first | go_big_quiet_skip | (go_big_quiet_want; go_big_quiet_op; go_big_quiet_on))
    refine wpQuiet_nil ?_
    rfl
   refine Qm 15 rfl (by kernel_rfl) ?_
   simp only [Qc, Qd, Qe]
   have fz := M7.i.frozen hni k
   have fc := M7.i.cell hkn
   have fl := M7.i.lt hni
   go_wp2
   replace N7 := N7.oth (fun hn => Ne.symm (M7.i.apart2 N7 (by decide) hni hn)) k (.int .i64 (i : Int))
   replace F7 := F7.set (b := bi) (sn_i hni) k (.int .i64 (i : Int))
   replace M7 := M7.setI hkn (i : Int)
   clear fz fc fl
   generalize World.setCell _ _ _ = wq at *
   refine Ql ?_
   refine Qs (by kernel_rfl) ?_
   skip
   go_wp2
   go_ret
   exact ⟨rfl, M7, F7, Qj sn' k true, N7, fun x => congrFun (F9 sn' fx k) x⟩
  have hmb : decide (m.1 k < 0) = false := decide_eq_false hmk
  obtain ⟨p, hp⟩ : ∃ p : Nat, m.1 k = p := ⟨(m.1 k).toNat, by omega⟩
  have hpn : p < no := by have := hm k hkn (by omega); rw [hp] at this; simpa using this
  have hpt : (m.1 k).toNat = p := by omega
  rw [hp] at i0 hmb
  have hc1 := Gq (b := fun k => sn' k || fx k) (k := k) hbk hkn
  have hc2 := hc.out
  rw [← F9] at hc1
  have IHc := fun v h1 h2 => IH (n - 1) (by omega) v (Qj sn' k true) p (some ⟨bn, 0, none⟩) cN bn hpn (by omega) h1 h2 hne hl
  have hq : ∀ x, (fun k => sn' k || fx k) x = true → (Q9 adj (n - 1) m (fun x => Qj sn' k true x || fx x) p).2 x = true := fun x hx => by
   refine Vr adj (n - 1) m _ p x ?_
   show (Qj sn' k true x || fx x) = true
   by_cases e : x = k
   ·rw [e, Zw]; rfl
   ·rw [Zf _ _ e]; exact hx
  have hqe : Q9 adj (n - 1) m (Qj (fun k => sn' k || fx k) k true) (m.1 k).toNat = Q9 adj (n - 1) m (fun x => Qj sn' k true x || fx x) p := by rw [F9, hpt]
  generalize Q9 adj (n - 1) m (fun x => Qj sn' k true x || fx x) p = Q at *
  obtain ⟨ro, b2⟩ := Q
  clear hc1 hc2 IH
  replace hmk := Lib.hid hmk
  replace hp := Lib.hid hp
  replace hpt := Lib.hid hpt
  replace hq := Lib.hid hq
  replace hqe := Lib.hid hqe
  go_upto_region 6 with (fail)
  cases ro with
  | none =>
   simp only [Option.isSome, Option.getD] at IHc
   refine Er 21 w2 Qq (by kernel_rfl) (by repeat (first | exact Qa.refl _ | (refine Qa.alloc ?_ _) | (refine Qa.trans ?_ (by assumption)))) ?_
   intro hne hrx hry
   try simp only []
   try simp only [List.append_eq, List.cons_append, List.nil_append]
   simp only [List.take_succ_cons, List.take_zero, List.drop_succ_cons, List.drop_zero]
   skip
   repeat (first
    | go_big_quiet_skip
    | (go_big_quiet_want; go_big_quiet_op; go_big_quiet_on))
   clear hne hry hrx
   refine wpQuiet_nil ?_
   intro wz hz
   obtain ⟨hcwz, hfwz, hzwz⟩ := Qa.rules hz
   try simp only [World.size_alloc] at hzwz
   obtain ⟨hcbwz, hfbwz, hzbwz⟩ := Qa.rules (show Qa w2 wz from (by repeat (first | exact Qa.refl _ | (refine Qa.alloc ?_ _) | (refine Qa.trans ?_ (by assumption)))))
   clear hcwz hfwz
   have M5 := M2.ext hz
   have N5 := N2.ext hz
   have F5 := F2.ext hz
   have HC := M5.km
   have i0 := M5.i.cell hkn
   have il := M5.i.lt hni
   clear m0 ml s0 s1 s2 s3 s4 s5 s6 sl
   have m0 := HC.p.c1
   have ml := HC.p.lt
   obtain ⟨s0, s1, s2, s3, s4, s5, s6⟩ := Qt HC.s
   have sl := HC.s.lt
   go_wp2_with (go_at_call 127; (with_reducible refine Calls.mono (IHc _ M5 N5) ?_); rintro e w3 ⟨rfl, M6, F6, sn3, N6, hb3⟩)
   have hr2 : Hid (Z2 (Q9 adj (n - 1)) i ((adj i).drop (t + 1)) m (fun k => sn3 k || fx k) = R) := by
    have h := hr.out
    rw [hdr.out, Iu hbk (Int.not_lt.2 hmk.out) hqe.out] at h
    rw [show (fun k => sn3 k || fx k) = b2 from funext hb3]
    exact h
   have hc3 : Hid (Jy ni (fun k => sn3 k || fx k) ≤ n) := by
    rw [show (fun k => sn3 k || fx k) = b2 from funext hb3]
    exact Nat.le_trans (Gp hq.out ni) hc.out
   have F8 := F5.trans F6
   clear hr hc hdr hq hqe
   go_wp2
   exact ⟨⟨t + 1, sn3, by omega, by go_num, M6, N6, hr2, hc3, F8⟩, by simp [intOf]; omega⟩
  | some m1 =>
   simp only [Option.isSome, Option.getD] at IHc
   refine Er 21 w2 Qq (by kernel_rfl) (by repeat (first | exact Qa.refl _ | (refine Qa.alloc ?_ _) | (refine Qa.trans ?_ (by assumption)))) ?_
   intro hne hrx hry
   try simp only []
   try simp only [List.append_eq, List.cons_append, List.nil_append]
   simp only [List.take_succ_cons, List.take_zero, List.drop_succ_cons, List.drop_zero]
   skip
   repeat (first
    | go_big_quiet_skip
    | (go_big_quiet_want; go_big_quiet_op; go_big_quiet_on))
   clear hne hry hrx
   refine wpQuiet_nil ?_
   intro wz hz
   obtain ⟨hcwz, hfwz, hzwz⟩ := Qa.rules hz
   try simp only [World.size_alloc] at hzwz
   obtain ⟨hcbwz, hfbwz, hzbwz⟩ := Qa.rules (show Qa w2 wz from (by repeat (first | exact Qa.refl _ | (refine Qa.alloc ?_ _) | (refine Qa.trans ?_ (by assumption)))))
   clear hcwz hfwz
   have M5 := M2.ext hz
   have N5 := N2.ext hz
   have F5 := F2.ext hz
   have HC := M5.km
   have i0 := M5.i.cell hkn
   have il := M5.i.lt hni
   clear m0 ml s0 s1 s2 s3 s4 s5 s6 sl
   have m0 := HC.p.c1
   have ml := HC.p.lt
   obtain ⟨s0, s1, s2, s3, s4, s5, s6⟩ := Qt HC.s
   have sl := HC.s.lt
   go_wp2_with (go_at_call 127; (with_reducible refine Calls.mono (IHc _ M5 N5) ?_); rintro e w3 ⟨rfl, M6, F6, sn3, N6, hb3⟩)
   have hR : R = (some (Y7 m1 k i), b2) := by
    have h := hr.out
    rw [hdr.out, Iv hbk (Int.not_lt.2 hmk.out) hqe.out] at h
    exact h.symm
   subst hR
   replace F6 := F5.trans F6
   clear hr hc hdr hq hqe hbk HC M5 N5 F5
   go_upto_region 7 with (fail)
   refine Q1 16 [15] (fun x => KM bm bs vo vi (.slice (some ⟨b, off, none⟩) no cY) (some ⟨bo, 0, none⟩) (some ⟨bi, 0, none⟩) (some ⟨bf, 0, none⟩) no ni cO cI cX x) Qq rfl ?_
   intro vz hvz
   have M7 := M6.ext hvz
   have N7 := N6.ext hvz
   have F7 := F6.ext hvz
   have HC := M7.km
   refine Qr (g := 3) [0, 1, 2, 3, 4, 5, 6, 7, 8, 9, 10, 11, 12] [_, _, _, _, _, _, _, _, _, _, _, _, _] ⟨rfl, rfl, rfl, rfl, rfl, rfl, rfl, rfl, rfl, rfl, rfl, rfl, rfl, trivial⟩ (by kernel_rfl) (by kernel_rfl) HC ?_
   simp only [Qc, Qd, Qe]
   apply Exists.intro
   refine ⟨fun u hu => ?_, ?_⟩
   ·have m0 := hu.p.c1
    have ml := hu.p.lt
    obtain ⟨s0, s1, s2, s3, s4, s5, s6⟩ := Qt hu.s
    have sl := hu.s.lt
    repeat (first | go_big_quiet_skip | (go_big_quiet_want; go_big_quiet_op; go_big_quiet_on))
    refine wpQuiet_nil ?_
    rfl
   refine Qk 13 rfl (by kernel_rfl) ?_
   simp only [Qc, Qd, Qe]
   have fz := M7.o.frozen hno i
   have fc := M7.o.cell hi
   have fl := M7.o.lt hno
   go_wp2
   replace N7 := N7.oth (fun hn => Ne.symm (M7.o.apart2 N7 (by decide) hno hn)) i (.int .i64 (k : Int))
   replace F7 := F7.set (b := bo) (sn_o hno) i (.int .i64 (k : Int))
   replace M7 := M7.setO hi (k : Int)
   have HC := M7.km
   clear fz fc fl
   generalize World.setCell _ _ _ = wq at *
   refine Qh HC ?_
   refine Qr (g := 1) [14] [_] ⟨rfl, trivial⟩ (by kernel_rfl) (by kernel_rfl) HC ?_
   simp only [Qc, Qd, Qe]
   apply Exists.intro
   refine ⟨fun u hu => ?_, ?_⟩
   ·have m0 := hu.p.c1
    have ml := hu.p.lt
    obtain ⟨s0, s1, s2, s3, s4, s5, s6⟩ := Qt hu.s
    have sl := hu.s.lt
    repeat (first | go_big_quiet_skip | (go_big_quiet_want; go_big_quiet_op; go_big_quiet_on))
    refine wpQuiet_nil ?_
    rfl
   refine Qm 15 rfl (by kernel_rfl) ?_
   simp only [Qc, Qd, Qe]
   have fz := M7.i.frozen hni k
   have fc := M7.i.cell hkn
   have fl := M7.i.lt hni
   go_wp2
   replace N7 := N7.oth (fun hn => Ne.symm (M7.i.apart2 N7 (by decide) hni hn)) k (.int .i64 (i : Int))
   replace F7 := F7.set (b := bi) (sn_i hni) k (.int .i64 (i : Int))
   replace M7 := M7.setI hkn (i : Int)
   clear fz fc fl
   generalize World.setCell _ _ _ = wq at *
   refine Ql ?_
   refine Qs (by kernel_rfl) ?_
   skip
   go_wp2
   go_ret
   exact ⟨rfl, M7, F7, sn3, N7, fun x => congrFun (funext hb3) x⟩
theorem Nf : (Tryz.prog.info? 3).map (fun i => (i.zero, i.size, i.bytes)) = some (some (.int .i64 0), 1, 8) := by kernel_rfl
theorem Qcl : (Tryz.prog.info? 4).map (fun i => (i.zero, i.size, i.bytes)) = some (some (.bool false), 1, 1) := by kernel_rfl
theorem Rs {P : Program} (t e : TypeId) (i : TypeInfo) (z : Value) (ht : P.underlying t = some (.slice e)) (hi : P.info? e = some i) (hz : i.zero = some z)
  (kl kc : IntKind) (n : Nat) (hbytes : i.bytes * n ≤ 281474976710656) (h63 : n ≤ 9223372036854775807) (w : World) :
  (Instr.makeSlice t (.int kl (n : Int)) (.int kc (n : Int))).run P w = .ok (.slice (some ⟨w.heap.size, 0, none⟩) n n) (w.alloc (.cells (madeCells z.cells (n * i.size)) e)) := by
 have h : ((i.bytes * n : Nat) : Int) ≤ 281474976710656 := by omega
 rw [Int.natCast_mul] at h
 have hr := run_make (P := P) w t e i z ht hi hz kl kc n n (by omega) (Int.le_refl _) h (by omega)
 simpa only [Int.toNat_natCast] using hr
theorem Qdi (n : Nat) (z : Value) : madeCells #[z] (n * 1) = Array.replicate n z := by
 apply Array.ext'
 rw [Nat.mul_one, toList_madeCells_one, Array.toList_replicate]
theorem Fo {v z : Value} (n : Nat) (w : World) {t : TypeId} (h : v.cells = #[z]) : w.alloc (.cells (madeCells v.cells (n * 1)) t) = w.alloc (.cells (Array.replicate n z) t) := by rw [h, Qdi]
theorem Qdt (n : Nat) (hn : n ≤ 1000000) (w : World) : (Instr.makeSlice 125 (.int .i64 (n : Int)) (.int .i64 (n : Int))).run Tryz.prog w = .ok (.slice (some ⟨w.heap.size, 0, none⟩) n n) (w.alloc (.cells (Array.replicate n (.int .i64 0)) 3)) := by
 obtain ⟨i0, hi, hz0, hz1, hz2⟩ := info_parts Nf
 have h := Rs (P := Tryz.prog) 125 3 i0 _ Tryz.underlying125 hi hz0 .i64 .i64 n (by rw [hz2]; omega) (by omega) w
 rw [hz1] at h
 rw [h]
 exact congrArg _ (Fo n w rfl)
theorem Dp (n : Nat) (hn : n ≤ 1000000) (w : World) : (Instr.makeSlice 171 (.int .i64 (n : Int)) (.int .i64 (n : Int))).run Tryz.prog w = .ok (.slice (some ⟨w.heap.size, 0, none⟩) n n) (w.alloc (.cells (Array.replicate n (.bool false)) 4)) := by
 obtain ⟨i0, hi, hz0, hz1, hz2⟩ := info_parts Qcl
 have h := Rs (P := Tryz.prog) 171 4 i0 _ Tryz.underlying171 hi hz0 .i64 .i64 n (by rw [hz2]; omega) (by omega) w
 rw [hz1] at h
 rw [h]
 exact congrArg _ (Fo n w rfl)
theorem Qx.offM {W : World} {t t' : TypeId} {A : Option Addr} {n b b' : Nat} {g : Nat → Value} {cs : Array Value} (h : Qx W t A n b g) (hb : Qb W b' t' cs) (ht : t ≠ t') (j : Nat) (u : Value) : Qx (W.setCell ⟨b', j, none⟩ u) t A n b g := h.oth (fun hn => by
 obtain ⟨c, h1, _⟩ := h.h hn
 exact Xr h1 hb ht) j u
end
end Go.Proofs.YtoflcheopfppoaaGreatDoor
