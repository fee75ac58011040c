/- The walk of LedgerCarryJoins. -/
import Derived.Test.YtneiofnlmblglaaDoorCUTh
import Derived.Test.YtneiofnlmblglaaDoorCUTm
import Derived.Test.YtneiofnlmblglaaDoorCUTn
import Derived.Test.YtneiofnlmblglaaDoorU11
import Derived.Test.YtneiofnlmblglaaDoorU12
set_option maxRecDepth 100000
set_option maxHeartbeats 4000000
namespace Go.Proofs.YtneiofnlmblglaaDoor
open Go Go.RowKit Go.Shelf
attribute [local go_sem] Zi
/-- A period that was there at W2, or whose rows are its own since. -/
def WAt (W2 W : World) (p : Pd) (vo vd vc : Value) : Prop := Zv W2 p vo vd vc ∨ Zj W W2.heap.size p vo vd vc
theorem WAt.at {W2 W : World} {p : Pd} {vo vd vc : Value} (h : WAt W2 W p vo vd vc) (e : Qa W2 W) : Zv W p vo vd vc := h.elim (fun h => h.ext e) V5
theorem WAt.ext {W2 W W' : World} {p : Pd} {vo vd vc : Value} (h : WAt W2 W p vo vd vc) (e : Qa W W') : WAt W2 W' p vo vd vc := h.imp id fun h => h.ext e
def cutG (A : Option Addr → Nat → Option Addr → Nat → Option Addr → Nat → Nat → Act) (S : World → Option Addr → Nat → Option Addr → Nat → Option Addr → Nat → Nat → Prop) : Exit → Act → World → Prop := fun e a' w' => e = .normal ∧ ∃ F1 m1 F2 m2 F3 m3 p1, S w' F1 m1 F2 m2 F3 m3 p1 ∧ a' = A F1 m1 F2 m2 F3 m3 p1
theorem cutG_is {A : Option Addr → Nat → Option Addr → Nat → Option Addr → Nat → Nat → Act} {S : World → Option Addr → Nat → Option Addr → Nat → Option Addr → Nat → Nat → Prop} {w' : World} (F1 : Option Addr) (m1 : Nat) (F2 : Option Addr) (m2 : Nat) (F3 : Option Addr) (m3 p1 : Nat) {a' : Act} (h : S w' F1 m1 F2 m2 F3 m3 p1) (ha : a' = A F1 m1 F2 m2 F3 m3 p1) : cutG A S .normal a' w' := ⟨rfl, F1, m1, F2, m2, F3, m3, p1, h, ha⟩
theorem wp_cutG {P : Program} {c : Code} {Q : Exit → Act → World → Prop} {a : Act} {w : World} {A : Option Addr → Nat → Option Addr → Nat → Option Addr → Nat → Nat → Act} (S : World → Option Addr → Nat → Option Addr → Nat → Option Addr → Nat → Nat → Prop) (h1 : c.wp P (cutG A S) a w) (h2 : ∀ F1 m1 F2 m2 F3 m3 p1 w', S w' F1 m1 F2 m2 F3 m3 p1 → Q .normal (A F1 m1 F2 m2 F3 m3 p1) w') : c.wp P Q a w :=
 Code.wp_mono (fun e a' w' ⟨he, F1, m1, F2, m2, F3, m3, p1, hs, ha⟩ => by subst he; subst ha; exact h2 F1 m1 F2 m2 F3 m3 p1 w' hs) h1
set_option maxHeartbeats 20000000 in
theorem ledgerCarryJoins_walk (A A' : Option Addr) (ca cb : Nat) (c : Qc) (v : Value) (l : List Pd) (w : World) (hC : Q8 w A ca A' cb c) (hP : Ym w v l) (hZ : Zl w) :
  Calls Tryd.prog 4 #[.agg #[.slice A c.nk ca, .slice A' c.ny cb], v] w fun e w' => e = .returned (.bool true) ∧ Qa w w' := by
 obtain ⟨D, cap, lo, ld, lc, e0, hDl, _, _, _, hatl⟩ := id hP
 subst e0
 have hn63 : l.length ≤ 9223372036854775807 := by
  obtain ⟨_, _, _, _, _, e, _, h1, h2, _, _⟩ := id hP
  have : (140737488355328 : Nat) ≤ 9223372036854775807 := by decide
  have h3 : maxLen ≤ 9223372036854775807 := by decide
  omega
 obtain ⟨n, hnl⟩ := Qg (l.length)
 rw [← hnl] at hP hDl hatl hn63 ⊢
 replace hnl := Lib.hid hnl
 have N1 := fun v h1 h2 => carry_any A A' ca cb c l (.slice D n cap) v h1 h2
 have hbad : Hid ((c.carryV l).2 ≠ 0 ∨ l = [] → (c.carryV l).1 = []) := fun h => Em h
 have hgood : Hid ((c.carryV l).2 = 0 → c.valid = true ∧ Kd c (c.carryV l).1 ∧ (c.carryV l).1.length = l.length ∧ (c.carryV l).1.head?.map (·.o) = l.head?.map (·.o)) := fun h => En h
 generalize c.carryV l = V at *
 obtain ⟨S, se⟩ := V
 simp only at N1
 replace hbad : Hid (se ≠ 0 ∨ l = [] → S = []) := hbad
 replace hgood : Hid (se = 0 → c.valid = true ∧ Kd c S ∧ S.length = l.length ∧ S.head?.map (·.o) = l.head?.map (·.o)) := hgood
 have hatl := Lib.hid hatl
 go_enter Tryd.func4, Tryd.ntmps4
 go_upto_region 1 with (fail)
 obtain ⟨v, hv⟩ := Qg (w.alloc (.cells #[.slice A c.nk ca, .slice A' c.ny cb] 25))
 rw [← hv]
 have E : Qa w v := by rw [hv]; exact (Qa.refl _).alloc _
 have B1 : Qb v w.heap.size 25 #[.slice A c.nk ca, .slice A' c.ny cb] := by rw [hv]; exact (Qb.new _ _ _)
 clear hv
 obtain ⟨b1, hb1⟩ := Qg (w.heap.size)
 rw [← hb1] at B1 ⊢
 have hbr : w.heap.size ≤ b1 := by omega
 clear hb1
 have Z := hZ.ext E
 have C := hC.ext E
 have P := hP.ext E
 clear hC hP hZ
 obtain ⟨k0, k1⟩ := B1.c2
 have kl := B1.lt
 go_upto_region 2 with (go_at_call 10; (with_reducible refine Calls.mono (N1 _ C P) ?_); rintro e w1 ⟨x1, rfl, hx, PS⟩; replace E := E.trans hx; replace Z := Z.ext hx; replace C := C.ext hx; replace P := P.ext hx; replace B1 := B1.ext hx; clear hx; clear k0 k1 kl; obtain ⟨k0, k1⟩ := B1.c2; have kl := B1.lt; obtain ⟨DS, cS, so, sd, sc, e1, hDS, _, _, _, hatS⟩ := id PS; subst e1)
 obtain ⟨m, hml⟩ := Qg (S.length)
 rw [← hml] at PS hDS hatS ⊢
 replace hml := Lib.hid hml
 replace hatS := Lib.hid hatS
 clear N1 PS P
 go_upto_region 2 with (fail)
 by_cases e0 : se = 0
 rotate_left
 ·have g0 : (se == 0) = false := beq_eq_false_iff_ne.2 e0
  have g0n : (se != 0) = true := by rw [bne, g0]; rfl
  obtain rfl : m = 0 := by rw [hml.out, hbad.out (.inl e0)]; rfl
  clear hbad hgood hatS hatl
  go_wp2_with (first | (go_at_call 13; (with_reducible refine Calls.mono (Kc _ Z) ?_); rintro e x4 ⟨rfl, hx⟩; replace E := E.trans hx))
  go_ret
  exact ⟨rfl, E⟩
 subst e0
 by_cases en : n = 0
 ·obtain rfl : m = 0 := by rw [hml.out, hbad.out (.inr (List.length_eq_zero_iff.1 (by rw [← hnl.out]; exact en)))]; rfl
  subst en
  clear hbad hgood hatS hatl
  go_wp2_with (first | (go_at_call 13; (with_reducible refine Calls.mono (Kc _ Z) ?_); rintro e x4 ⟨rfl, hx⟩; replace E := E.trans hx))
  go_ret
  exact ⟨rfl, E⟩
 obtain ⟨hv, hcar, hlen, hhead⟩ := hgood.out rfl
 obtain rfl : m = n := by rw [hml.out, hnl.out]; exact hlen
 have hn0 : 0 < m := by omega
 have hne : ((m : Int) == 0) = false := beq_eq_false_iff_ne.2 (by omega)
 have hnn : ((m : Int) != (m : Int)) = false := by simp
 replace hcar := Lib.hid hcar
 clear hbad hgood hlen en
 go_upto_region 6 with (fail)
 obtain ⟨b, off, hDe, hb, hc⟩ := hDS hn0
 have P0 := hatS.out 0 hn0
 obtain ⟨W0, hW0⟩ := Qg (S.getD 0 Qk)
 have c0 : w1.cell? ⟨b, off, none⟩ = some (.string (S.getD 0 Qk).h) := by simpa [Qq] using hc 0 0 _ hn0 rfl
 have c1 : w1.cell? ⟨b, off + 1, none⟩ = some (.int .i64 (S.getD 0 Qk).a.y) := by simpa [Qq] using hc 0 1 _ hn0 rfl
 have c2 : w1.cell? ⟨b, off + 2, none⟩ = some (.int .i64 (S.getD 0 Qk).a.m) := by simpa [Qq] using hc 0 2 _ hn0 rfl
 have c3 : w1.cell? ⟨b, off + 3, none⟩ = some (.bool (S.getD 0 Qk).a.s) := by simpa [Qq] using hc 0 3 _ hn0 rfl
 have c4 : w1.cell? ⟨b, off + 4, none⟩ = some (.int .i64 (S.getD 0 Qk).a.d) := by simpa [Qq] using hc 0 4 _ hn0 rfl
 have c5 : w1.cell? ⟨b, off + 5, none⟩ = some (.int .i64 (S.getD 0 Qk).b.y) := by simpa [Qq] using hc 0 5 _ hn0 rfl
 have c6 : w1.cell? ⟨b, off + 6, none⟩ = some (.int .i64 (S.getD 0 Qk).b.m) := by simpa [Qq] using hc 0 6 _ hn0 rfl
 have c7 : w1.cell? ⟨b, off + 7, none⟩ = some (.bool (S.getD 0 Qk).b.s) := by simpa [Qq] using hc 0 7 _ hn0 rfl
 have c8 : w1.cell? ⟨b, off + 8, none⟩ = some (.int .i64 (S.getD 0 Qk).b.d) := by simpa [Qq] using hc 0 8 _ hn0 rfl
 have c9 : w1.cell? ⟨b, off + 9, none⟩ = some (so 0) := by simpa [Qq] using hc 0 9 _ hn0 rfl
 have c10 : w1.cell? ⟨b, off + 10, none⟩ = some (sd 0) := by simpa [Qq] using hc 0 10 _ hn0 rfl
 have c11 : w1.cell? ⟨b, off + 11, none⟩ = some (sc 0) := by simpa [Qq] using hc 0 11 _ hn0 rfl
 rw [← hW0] at P0 c0 c1 c2 c3 c4 c5 c6 c7 c8
 clear hc
 subst hDe
 generalize so 0 = v1 at P0 c9
 generalize sd 0 = v2 at P0 c10
 generalize sc 0 = v3 at P0 c11
 obtain ⟨t1, s1, e1, _⟩ := id P0.o
 subst e1
 obtain ⟨t2, s2, _, e2, _⟩ := id P0.d
 subst e2
 obtain ⟨t3, s3, e3, _⟩ := id P0.c
 subst e3
 replace hW0 := Lib.hid hW0
 clear hne hnn
 clear k0 k1 kl
 go_upto_region 7 with (fail)
 obtain ⟨v5, hv5⟩ := Qg (w1.alloc (.cells #[.string W0.h, .int .i64 W0.a.y, .int .i64 W0.a.m, .bool W0.a.s, .int .i64 W0.a.d, .int .i64 W0.b.y, .int .i64 W0.b.m, .bool W0.b.s, .int .i64 W0.b.d, .slice t1 W0.o.length s1, .slice t2 W0.d.length s2, .slice t3 W0.c.length s3] 31))
 rw [← hv5]
 have hy : Qa w1 v5 := by rw [hv5]; exact (Qa.refl _).alloc _
 have BW : Qb v5 w1.heap.size 31 #[.string W0.h, .int .i64 W0.a.y, .int .i64 W0.a.m, .bool W0.a.s, .int .i64 W0.a.d, .int .i64 W0.b.y, .int .i64 W0.b.m, .bool W0.b.s, .int .i64 W0.b.d, .slice t1 W0.o.length s1, .slice t2 W0.d.length s2, .slice t3 W0.c.length s3] := by rw [hv5]; exact Qb.new _ _ _
 have hsbw : v5.heap.size = w1.heap.size + 1 := by rw [hv5]; simp
 clear hv5
 obtain ⟨bw, hbe⟩ := Qg (w1.heap.size)
 rw [← hbe] at BW hsbw ⊢
 have hbw : w1.heap.size ≤ bw := Nat.le_of_eq hbe.symm
 clear hbe
 clear c0 c1 c2 c3 c4 c5 c6 c7 c8 c9 c10 c11
 go_upto_region 8 with (fail)
 go_loopw [8] (fun iv wr => ∃ (i : Nat) (X : Pd) (F1 : Option Addr) (m1 : Nat) (F2 : Option Addr) (m2 : Nat) (F3 : Option Addr) (m3 : Nat), 1 ≤ i ∧ i ≤ m ∧ iv = .int .i64 i ∧ Hid (Ke c S (i - 1) X) ∧ Qb wr bw 31 #[.string X.h, .int .i64 X.a.y, .int .i64 X.a.m, .bool X.a.s, .int .i64 X.a.d, .int .i64 X.b.y, .int .i64 X.b.m, .bool X.b.s, .int .i64 X.b.d, .slice F1 X.o.length m1, .slice F2 X.d.length m2, .slice F3 X.c.length m3] ∧ WAt w1 wr X (.slice F1 X.o.length m1) (.slice F2 X.d.length m2) (.slice F3 X.c.length m3) ∧ Qa w1 wr) (fun iv _ => m - (intOf iv).toNat)
 case atStart => exact ⟨1, W0, t1, s1, t2, s2, t3, s3, Nat.le_refl _, hn0, rfl, (by rw [hW0.out]; exact E7 hcar.out (by rw [← hml.out]; exact hn0)), BW, .inl P0, hy⟩
 case round =>
  clear BW P0 hy hW0
  obtain ⟨i, X, F1, m1, F2, m2, F3, m3, hi1, him, rfl, hj, BW, WX, hE⟩ := hrel
  obtain ⟨wo, rfl⟩ := Qg wr
  have B1o := B1.ext hE
  by_cases hlt : i < m
  ·obtain ⟨b1', off1, hDD, hb, hc⟩ := (hDS.ext hE) (by omega)
   obtain ⟨rfl, rfl⟩ : b = b1' ∧ off = off1 := by simpa using hDD
   clear hDD
   have c0 : wo.cell? ⟨b, off + i * 12, none⟩ = some (.string (S.getD i Qk).h) := by simpa [Qq] using hc i 0 _ hlt rfl
   have c1 : wo.cell? ⟨b, off + i * 12 + 1, none⟩ = some (.int .i64 (S.getD i Qk).a.y) := by simpa [Qq] using hc i 1 _ hlt rfl
   have c2 : wo.cell? ⟨b, off + i * 12 + 2, none⟩ = some (.int .i64 (S.getD i Qk).a.m) := by simpa [Qq] using hc i 2 _ hlt rfl
   have c3 : wo.cell? ⟨b, off + i * 12 + 3, none⟩ = some (.bool (S.getD i Qk).a.s) := by simpa [Qq] using hc i 3 _ hlt rfl
   have c4 : wo.cell? ⟨b, off + i * 12 + 4, none⟩ = some (.int .i64 (S.getD i Qk).a.d) := by simpa [Qq] using hc i 4 _ hlt rfl
   have c5 : wo.cell? ⟨b, off + i * 12 + 5, none⟩ = some (.int .i64 (S.getD i Qk).b.y) := by simpa [Qq] using hc i 5 _ hlt rfl
   have c6 : wo.cell? ⟨b, off + i * 12 + 6, none⟩ = some (.int .i64 (S.getD i Qk).b.m) := by simpa [Qq] using hc i 6 _ hlt rfl
   have c7 : wo.cell? ⟨b, off + i * 12 + 7, none⟩ = some (.bool (S.getD i Qk).b.s) := by simpa [Qq] using hc i 7 _ hlt rfl
   have c8 : wo.cell? ⟨b, off + i * 12 + 8, none⟩ = some (.int .i64 (S.getD i Qk).b.d) := by simpa [Qq] using hc i 8 _ hlt rfl
   have c9 : wo.cell? ⟨b, off + i * 12 + 9, none⟩ = some (so i) := by simpa [Qq] using hc i 9 _ hlt rfl
   have c10 : wo.cell? ⟨b, off + i * 12 + 10, none⟩ = some (sd i) := by simpa [Qq] using hc i 10 _ hlt rfl
   have c11 : wo.cell? ⟨b, off + i * 12 + 11, none⟩ = some (sc i) := by simpa [Qq] using hc i 11 _ hlt rfl
   clear hc
   have P1 := (hatS.out i hlt).ext hE
   have st := E9 hv hcar.out hj.out (by rw [← hml.out]; omega)
   rw [show i - 1 + 1 = i by omega] at st
   obtain ⟨G, hG⟩ := Qg (S.getD i Qk)
   rw [← hG] at P1 st c0 c1 c2 c3 c4 c5 c6 c7 c8
   replace hG := Lib.hid hG
   generalize so i = v1 at P1 c9
   generalize sd i = v2 at P1 c10
   generalize sc i = v3 at P1 c11
   obtain ⟨t4, s4, e1, _⟩ := id P1.o
   subst e1
   obtain ⟨t5, s5, _, e2, _⟩ := id P1.d
   subst e2
   obtain ⟨t6, s6, e3, _⟩ := id P1.c
   subst e3
   have N2 := fun w h1 h2 h3 => joinO_any A A' ca cb c X G (.slice F1 X.o.length m1) (.slice F2 X.d.length m2) (.slice F3 X.c.length m3) (.slice t4 G.o.length s4) (.slice t5 G.d.length s5) (.slice t6 G.c.length s6) w h1 h2 h3
   generalize c.joinE X G = RE at *
   generalize c.joinP X G = Y at *
   replace st := Lib.hid st
   go_upto_region 10 with (fail)
   apply wp_cutG (S := fun w' F1 m1 F2 m2 F3 m3 p1 => Qa wo w' ∧ wo.heap.size ≤ p1 ∧ Qb w' p1 31 #[.string Y.h, .int .i64 Y.a.y, .int .i64 Y.a.m, .bool Y.a.s, .int .i64 Y.a.d, .int .i64 Y.b.y, .int .i64 Y.b.m, .bool Y.b.s, .int .i64 Y.b.d, .slice F1 Y.o.length m1, .slice F2 Y.d.length m2, .slice F3 Y.c.length m3] ∧ Zj w' w1.heap.size Y (.slice F1 Y.o.length m1) (.slice F2 Y.d.length m2) (.slice F3 Y.c.length m3))
   ·refine Q5 13 [8, 9, 11, 12] (fun x => Qa wo x) Qr rfl ?_
    intro vz hvz
    have HC := hvz
    refine Qp (g := 7) [0, 1, 2, 3, 4, 5] [_, _, _, _, _, _] ⟨rfl, rfl, rfl, rfl, rfl, rfl, trivial⟩ (by kernel_rfl) (by kernel_rfl) HC ?_
    simp only [Qd, Qe, Qf]
    apply Exists.intro
    refine ⟨fun u hu => ?_, ?_⟩
    ·obtain ⟨k0, k1⟩ := Qb.c2 (Qb.ext B1o hu)
     have kl := Qb.lt (Qb.ext B1o hu)
     obtain ⟨x0, x1, x2, x3, x4, x5, x6, x7, x8, x9, x10, x11⟩ := Qb.c12 (Qb.ext BW hu)
     have xl := Qb.lt (Qb.ext BW hu)
     have r0 := (hu.cell (p := ⟨b, off + i * 12, none⟩) hb).trans c0
     have r1 := (hu.cell (p := ⟨b, off + i * 12 + 1, none⟩) hb).trans c1
     have r2 := (hu.cell (p := ⟨b, off + i * 12 + 2, none⟩) hb).trans c2
     have r3 := (hu.cell (p := ⟨b, off + i * 12 + 3, none⟩) hb).trans c3
     have r4 := (hu.cell (p := ⟨b, off + i * 12 + 4, none⟩) hb).trans c4
     have r5 := (hu.cell (p := ⟨b, off + i * 12 + 5, none⟩) hb).trans c5
     have r6 := (hu.cell (p := ⟨b, off + i * 12 + 6, none⟩) hb).trans c6
     have r7 := (hu.cell (p := ⟨b, off + i * 12 + 7, none⟩) hb).trans c7
     have r8 := (hu.cell (p := ⟨b, off + i * 12 + 8, none⟩) hb).trans c8
     have r9 := (hu.cell (p := ⟨b, off + i * 12 + 9, none⟩) hb).trans c9
     have r10 := (hu.cell (p := ⟨b, off + i * 12 + 10, none⟩) hb).trans c10
     have r11 := (hu.cell (p := ⟨b, off + i * 12 + 11, none⟩) hb).trans c11
     have hbu := Nat.lt_of_lt_of_le hb hu.size
     repeat (first | go_big_quiet_skip | (go_big_quiet_want; go_big_quiet_op; go_big_quiet_on))
     refine wpQuiet_nil ?_
     rfl
    refine Zn 6 10 rfl rfl (by kernel_rfl) ?_ ?_
    ·simp only [Qd, Qe, Qf]
     have hz := Nat.le_trans hE.size HC.size
     go_wp2_with (go_at_call 12; (with_reducible refine Calls.mono (N2 _ (C.ext (hE.trans HC)) ((WX.ext HC).at (hE.trans HC)) (P1.ext HC)) ?_); rintro e wc ⟨vo', vd', vc', rfl, hj, PO0⟩; have PO := Zj.le PO0 hz; obtain ⟨G1, n1, rfl⟩ := Zo PO.o; obtain ⟨G2, n2, rfl⟩ := Xy PO.d; obtain ⟨G3, n3, rfl⟩ := Zo PO.c)
     replace HC := HC.trans hj
     try replace H10 := H10.ext hj
     clear hj hz PO0
     refine Qi HC ?_
     refine Qp (g := 5) [7] [_] ⟨rfl, trivial⟩ (by kernel_rfl) (by kernel_rfl) HC ?_
     simp only [Qd, Qe, Qf]
     apply Exists.intro
     refine ⟨fun u hu => ?_, ?_⟩
     ·obtain ⟨k0, k1⟩ := Qb.c2 (Qb.ext B1o hu)
      have kl := Qb.lt (Qb.ext B1o hu)
      obtain ⟨x0, x1, x2, x3, x4, x5, x6, x7, x8, x9, x10, x11⟩ := Qb.c12 (Qb.ext BW hu)
      have xl := Qb.lt (Qb.ext BW hu)
      have r0 := (hu.cell (p := ⟨b, off + i * 12, none⟩) hb).trans c0
      have r1 := (hu.cell (p := ⟨b, off + i * 12 + 1, none⟩) hb).trans c1
      have r2 := (hu.cell (p := ⟨b, off + i * 12 + 2, none⟩) hb).trans c2
      have r3 := (hu.cell (p := ⟨b, off + i * 12 + 3, none⟩) hb).trans c3
      have r4 := (hu.cell (p := ⟨b, off + i * 12 + 4, none⟩) hb).trans c4
      have r5 := (hu.cell (p := ⟨b, off + i * 12 + 5, none⟩) hb).trans c5
      have r6 := (hu.cell (p := ⟨b, off + i * 12 + 6, none⟩) hb).trans c6
      have r7 := (hu.cell (p := ⟨b, off + i * 12 + 7, none⟩) hb).trans c7
      have r8 := (hu.cell (p := ⟨b, off + i * 12 + 8, none⟩) hb).trans c8
      have r9 := (hu.cell (p := ⟨b, off + i * 12 + 9, none⟩) hb).trans c9
      have r10 := (hu.cell (p := ⟨b, off + i * 12 + 10, none⟩) hb).trans c10
      have r11 := (hu.cell (p := ⟨b, off + i * 12 + 11, none⟩) hb).trans c11
      have hbu := Nat.lt_of_lt_of_le hb hu.size
      repeat (first | go_big_quiet_skip | (go_big_quiet_want; go_big_quiet_op; go_big_quiet_on))
      refine wpQuiet_nil ?_
      rfl
     refine Jg (g := 3) [8, 9] [_, _] ⟨rfl, rfl, trivial⟩ (by kernel_rfl) (by kernel_rfl) ?_
     simp only [Qd, Qe, Qf]
     apply Exists.intro
     refine ⟨fun u hu => ?_, ?_⟩
     ·repeat (first | go_big_quiet_skip | (go_big_quiet_want; go_big_quiet_op; go_big_quiet_on))
      refine wpQuiet_nil ?_
      rfl
     refine Qj 10 rfl (by kernel_rfl) ?_
     simp only [Qd, Qe, Qf]
     go_wp2
     obtain ⟨p1, wb, hbq, hwb, H10, HC', hx, gp1⟩ := Q0 HC 31 #[.string ⟨#[]⟩, .int .i64 0, .int .i64 0, .bool false, .int .i64 0, .int .i64 0, .int .i64 0, .bool false, .int .i64 0, .slice none 0 0, .slice none 0 0, .slice none 0 0]
     rw [← hbq, ← hwb]
     replace HC := HC'
     try replace PO := PO.ext hx
     clear hbq hwb hx HC'
     refine Qi HC ?_
     refine Qn 11 rfl (by kernel_rfl) ?_
     simp only [Qd, Qe, Qf]
     obtain ⟨z0, z1, z2, z3, z4, z5, z6, z7, z8, z9, z10, z11⟩ := Qb.f12 H10
     obtain ⟨y0, y1, y2, y3, y4, y5, y6, y7, y8, y9, y10, y11⟩ := Qb.c12 H10
     have yl := Qb.lt H10
     go_wp2
     obtain ⟨wq, hq, HX, ko, kd, kh, ke⟩ := Wj H10 (by decide) (by decide) (.string Y.h) (.int .i64 Y.a.y) (.int .i64 Y.a.m) (.bool Y.a.s) (.int .i64 Y.a.d) (.int .i64 Y.b.y) (.int .i64 Y.b.m) (.bool Y.b.s) (.int .i64 Y.b.d) (.slice G1 Y.o.length n1) (.slice G2 Y.d.length n2) (.slice G3 Y.c.length n3)
     rw [← hq]
     replace PO := Zj.mk (ko PO.o) (kd PO.d) (ko PO.c)
     replace HC := ke HC gp1
     clear hq ko kd kh ke H10 z0 y0 z1 y1 z2 y2 z3 y3 z4 y4 z5 y5 z6 y6 z7 y7 z8 y8 z9 y9 z10 y10 z11 y11 yl
     refine Qm ?_
     refine Qn 12 rfl (by kernel_rfl) ?_
     simp only [Qd, Qe, Qf]
     go_wp2
     refine Qm ?_
     refine Qt (by kernel_rfl) ?_
     exact cutG_is G1 n1 G2 n2 G3 n3 p1 ⟨HC, gp1, HX, PO⟩ rfl
    ·simp only [Qd, Qe, Qf]
     go_wp2
     obtain ⟨p1, wb, hbq, hwb, H10, HC', hx, gp1⟩ := Q0 HC 31 #[.string ⟨#[]⟩, .int .i64 0, .int .i64 0, .bool false, .int .i64 0, .int .i64 0, .int .i64 0, .bool false, .int .i64 0, .slice none 0 0, .slice none 0 0, .slice none 0 0]
     rw [← hbq, ← hwb]
     replace HC := HC'
     try replace PO := PO.ext hx
     clear hbq hwb hx HC'
     refine Qi HC ?_
     refine Qj 6 rfl (by kernel_rfl) ?_
     simp only [Qd, Qe, Qf]
     have hz := Nat.le_trans hE.size HC.size
     go_wp2_with (go_at_call 12; (with_reducible refine Calls.mono (N2 _ (C.ext (hE.trans HC)) ((WX.ext HC).at (hE.trans HC)) (P1.ext HC)) ?_); rintro e wc ⟨vo', vd', vc', rfl, hj, PO0⟩; have PO := Zj.le PO0 hz; obtain ⟨G1, n1, rfl⟩ := Zo PO.o; obtain ⟨G2, n2, rfl⟩ := Xy PO.d; obtain ⟨G3, n3, rfl⟩ := Zo PO.c)
     replace HC := HC.trans hj
     try replace H10 := H10.ext hj
     clear hj hz PO0
     refine Qi HC ?_
     refine Qp (g := 4) [7] [_] ⟨rfl, trivial⟩ (by kernel_rfl) (by kernel_rfl) HC ?_
     simp only [Qd, Qe, Qf]
     apply Exists.intro
     refine ⟨fun u hu => ?_, ?_⟩
     ·obtain ⟨k0, k1⟩ := Qb.c2 (Qb.ext B1o hu)
      have kl := Qb.lt (Qb.ext B1o hu)
      obtain ⟨x0, x1, x2, x3, x4, x5, x6, x7, x8, x9, x10, x11⟩ := Qb.c12 (Qb.ext BW hu)
      have xl := Qb.lt (Qb.ext BW hu)
      have r0 := (hu.cell (p := ⟨b, off + i * 12, none⟩) hb).trans c0
      have r1 := (hu.cell (p := ⟨b, off + i * 12 + 1, none⟩) hb).trans c1
      have r2 := (hu.cell (p := ⟨b, off + i * 12 + 2, none⟩) hb).trans c2
      have r3 := (hu.cell (p := ⟨b, off + i * 12 + 3, none⟩) hb).trans c3
      have r4 := (hu.cell (p := ⟨b, off + i * 12 + 4, none⟩) hb).trans c4
      have r5 := (hu.cell (p := ⟨b, off + i * 12 + 5, none⟩) hb).trans c5
      have r6 := (hu.cell (p := ⟨b, off + i * 12 + 6, none⟩) hb).trans c6
      have r7 := (hu.cell (p := ⟨b, off + i * 12 + 7, none⟩) hb).trans c7
      have r8 := (hu.cell (p := ⟨b, off + i * 12 + 8, none⟩) hb).trans c8
      have r9 := (hu.cell (p := ⟨b, off + i * 12 + 9, none⟩) hb).trans c9
      have r10 := (hu.cell (p := ⟨b, off + i * 12 + 10, none⟩) hb).trans c10
      have r11 := (hu.cell (p := ⟨b, off + i * 12 + 11, none⟩) hb).trans c11
      have hbu := Nat.lt_of_lt_of_le hb hu.size
      repeat (first | go_big_quiet_skip | (go_big_quiet_want; go_big_quiet_op; go_big_quiet_on))
      refine wpQuiet_nil ?_
      rfl
     refine Jg (g := 2) [8, 9] [_, _] ⟨rfl, rfl, trivial⟩ (by kernel_rfl) (by kernel_rfl) ?_
     simp only [Qd, Qe, Qf]
     apply Exists.intro
     refine ⟨fun u hu => ?_, ?_⟩
     ·repeat (first | go_big_quiet_skip | (go_big_quiet_want; go_big_quiet_op; go_big_quiet_on))
      refine wpQuiet_nil ?_
      rfl
     refine Qn 11 rfl (by kernel_rfl) ?_
     simp only [Qd, Qe, Qf]
     obtain ⟨z0, z1, z2, z3, z4, z5, z6, z7, z8, z9, z10, z11⟩ := Qb.f12 H10
     obtain ⟨y0, y1, y2, y3, y4, y5, y6, y7, y8, y9, y10, y11⟩ := Qb.c12 H10
     have yl := Qb.lt H10
     go_wp2
     obtain ⟨wq, hq, HX, ko, kd, kh, ke⟩ := Wj H10 (by decide) (by decide) (.string Y.h) (.int .i64 Y.a.y) (.int .i64 Y.a.m) (.bool Y.a.s) (.int .i64 Y.a.d) (.int .i64 Y.b.y) (.int .i64 Y.b.m) (.bool Y.b.s) (.int .i64 Y.b.d) (.slice G1 Y.o.length n1) (.slice G2 Y.d.length n2) (.slice G3 Y.c.length n3)
     rw [← hq]
     replace PO := Zj.mk (ko PO.o) (kd PO.d) (ko PO.c)
     replace HC := ke HC gp1
     clear hq ko kd kh ke H10 z0 y0 z1 y1 z2 y2 z3 y3 z4 y4 z5 y5 z6 y6 z7 y7 z8 y8 z9 y9 z10 y10 z11 y11 yl
     refine Qm ?_
     refine Qn 12 rfl (by kernel_rfl) ?_
     simp only [Qd, Qe, Qf]
     go_wp2
     refine Qm ?_
     refine Qt (by kernel_rfl) ?_
     exact cutG_is G1 n1 G2 n2 G3 n3 p1 ⟨HC, gp1, HX, PO⟩ rfl
   rintro G1 n1 G2 n2 G3 n3 p1 w4 ⟨h4, gp1, HY, PO⟩
   clear N2 c0 c1 c2 c3 c4 c5 c6 c7 c8 c9 c10 c11 hb P1
   replace BW := BW.ext h4
   have hE4 := hE.trans h4
   rcases st.out with e3 | ⟨e3, hj'⟩
   ·subst e3
    clear st
    go_wp2_with (first | (go_at_call 13; (with_reducible refine Calls.mono (Kc _ (Z.ext hE4)) ?_); rintro e x4 ⟨rfl, hx⟩))
    go_ret
    exact ⟨rfl, (E.trans hE4).trans hx⟩
   ·subst e3
    clear st
    replace hj' := Lib.hid hj'
    obtain ⟨z0, z1, z2, z3, z4, z5, z6, z7, z8, z9, z10, z11⟩ := Qb.f12 BW
    obtain ⟨x0, x1, x2, x3, x4, x5, x6, x7, x8, x9, x10, x11⟩ := Qb.c12 BW
    have xl := Qb.lt BW
    obtain ⟨y0, y1, y2, y3, y4, y5, y6, y7, y8, y9, y10, y11⟩ := Qb.c12 HY
    have yl := Qb.lt HY
    go_wp2
    obtain ⟨wq, hq, HX, ko, kd, kh, ke⟩ := Wj BW (by decide) (by decide) (.string Y.h) (.int .i64 Y.a.y) (.int .i64 Y.a.m) (.bool Y.a.s) (.int .i64 Y.a.d) (.int .i64 Y.b.y) (.int .i64 Y.b.m) (.bool Y.b.s) (.int .i64 Y.b.d) (.slice G1 Y.o.length n1) (.slice G2 Y.d.length n2) (.slice G3 Y.c.length n3)
    rw [← hq]
    exact ⟨⟨i + 1, Y, G1, n1, G2, n2, G3, n3, by omega, by omega, by go_num, hj', HX, .inr ⟨ko PO.o, kd PO.d, ko PO.c⟩, ke hE4 hbw⟩, by simp [intOf]; omega⟩
  ·obtain rfl : i = m := by omega
   obtain ⟨hcl, hkc, hko⟩ := cj_end hv hj.out (by rw [← hml.out]; omega)
   rw [← hml.out] at hkc
   have hlo : X.o = (l.getD 0 Qk).o := by
    rw [hko]
    cases l with
    | nil => rw [hnl.out] at hn0; exact absurd hn0 (by simp)
    | cons x r => cases S with
     | nil => rw [hml.out] at hn0; exact absurd hn0 (by simp)
     | cons y q => simpa using hhead
   have N6 := fun w h1 h2 => Kr A A' ca cb c X (.slice F1 X.o.length m1) (.slice F2 X.d.length m2) (.slice F3 X.c.length m3) w h1 h2
   rw [hcl] at N6
   simp only at N6
   replace hkc := Lib.hid hkc
   replace hlo := Lib.hid hlo
   clear hko hcl
   have LX := WX.at hE
   obtain ⟨x0, x1, x2, x3, x4, x5, x6, x7, x8, x9, x10, x11⟩ := Qb.c12 BW
   have xl := Qb.lt BW
   obtain ⟨k0, k1⟩ := Qb.c2 B1o
   have kl := Qb.lt B1o
   go_upto_region 17 with (go_at_call 6; (with_reducible refine Calls.mono (N6 _ (C.ext hE) LX) ?_); rintro e w5 ⟨vx, rfl, h5, L5⟩; obtain ⟨A5, c5, e5, _⟩ := id L5; subst e5)
   replace hE := hE.trans h5
   replace BW := BW.ext h5
   replace LX := LX.ext h5
   clear h5 k0 k1 kl N6 x0 x1 x2 x3 x4 x5 x6 x7 x8 x9 x10 x11 xl B1o WX
   obtain ⟨x0, x1, x2, x3, x4, x5, x6, x7, x8, x9, x10, x11⟩ := Qb.c12 BW
   have xl := Qb.lt BW
   obtain ⟨k', hkk⟩ : ∃ j, i = j + 1 := ⟨i - 1, by omega⟩
   subst hkk
   have hj1 : k' + 1 - 1 = k' := by omega
   rw [hj1] at hkc
   clear hj1
   have hlt' : k' < k' + 1 := by omega
   obtain ⟨b1', off1, hDD, hb, hc⟩ := (hDS.ext hE) (by omega)
   obtain ⟨rfl, rfl⟩ : b = b1' ∧ off = off1 := by simpa using hDD
   clear hDD
   have c11 : w5.cell? ⟨b, off + k' * 12 + 11, none⟩ = some (sc k') := by simpa [Qq] using hc k' 11 _ hlt' rfl
   clear hc
   obtain ⟨b', off', rfl, hb', hc⟩ := (hDl.ext (E.trans hE)) (by omega)
   have d9 : w5.cell? ⟨b', off' + 9, none⟩ = some (lo 0) := by simpa [Qq] using hc 0 9 _ (by omega) rfl
   clear hc
   have LK := (hatS.out k' hlt').c.ext hE
   have LO := (hatl.out 0 (by omega)).o.ext (E.trans hE)
   rw [← hkc.out] at LK
   rw [← hlo.out] at LO
   generalize sc k' = v7 at *
   generalize lo 0 = v8 at *
   obtain ⟨A7, c7, e7, _⟩ := id LK
   subst e7
   obtain ⟨A8, c8, e8, _⟩ := id LO
   subst e8
   clear hkc hlo hhead hj hcar hatS hatl hDS hDl
   go_upto_region 17 with (fail)
   refine Zr w5 Qr (by kernel_rfl) (by repeat (first | exact Qa.refl _ | (refine Qa.alloc ?_ _) | (refine Qa.trans ?_ (by assumption)))) ?_
   intro hne hrx hry
   try simp only []
   try simp only [List.append_eq, List.cons_append, List.nil_append]
   skip
   repeat (first
    | go_big_quiet_skip
    | (go_big_quiet_want; go_big_quiet_op; go_big_quiet_on)
    | (go_big_quiet_want; go_big_quiet_op; apply Exists.intro; refine ⟨fun u => ?_, ?_⟩
       ·first
         | (go_at_call 14; (with_reducible refine Calls.mono (sameT_any (.slice A5 X.c.length c5) (.slice F3 X.c.length m3) X.c _ (L5.ext u.e) (LX.c.ext u.e)) ?_); rintro e w' ⟨rfl, hb⟩; exact ⟨rfl, u.back hb⟩)
         | (go_at_call 14; (with_reducible refine Calls.mono (sameT_any (.slice A5 X.c.length c5) (.slice A7 X.c.length c7) X.c _ (L5.ext u.e) (LK.ext u.e)) ?_); rintro e w' ⟨rfl, hb⟩; exact ⟨rfl, u.back hb⟩)
         | (go_at_call 14; (with_reducible refine Calls.mono (sameT_any (.slice F1 X.o.length m1) (.slice A8 X.o.length c8) X.o _ (LX.o.ext u.e) (LO.ext u.e)) ?_); rintro e w' ⟨rfl, hb⟩; exact ⟨rfl, u.back hb⟩)
         | (go_at_call 13; (with_reducible refine Calls.mono (Kc _ (Z.ext (hE.trans u.e))) ?_); rintro e w' ⟨rfl, hb⟩; exact ⟨rfl, u.back hb⟩)
       go_big_quiet_on))
   clear hne hry hrx
   refine wpQuiet_nil ?_
   intro w6 h6
   obtain ⟨hcw6, hfw6, hzw6⟩ := Qa.rules h6
   try simp only [World.size_alloc] at hzw6
   obtain ⟨hcbw6, hfbw6, hzbw6⟩ := Qa.rules (show Qa w5 w6 from (by repeat (first | exact Qa.refl _ | (refine Qa.alloc ?_ _) | (refine Qa.trans ?_ (by assumption)))))
   clear hcw6 hfw6
   go_wp2
   go_ret
   exact ⟨rfl, (E.trans hE).trans h6⟩
end Go.Proofs.YtneiofnlmblglaaDoor