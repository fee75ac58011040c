/- The walk of LedgerMatchingMost. -/
import Derived.Test.YtoflcheopfppoaaGreatDoorJ15
import Derived.Test.YtoflcheopfppoaaGreatDoorJ16
set_option maxRecDepth 100000
set_option maxHeartbeats 4000000
namespace Go.Proofs.YtoflcheopfppoaaGreatDoor
open Go Go.RowKit Go.Shelf
attribute [local go_sem] Zq
theorem rowsI_own {w : World} {F : Option Addr} {L : List (Rf × Rf)} (h : Qo w F L.length 4 (fun i => Xi (L.getD i (Qu, Qu)))) : Qo w F (L.map J6).length 4 (fun i => Kr ((L.map J6).getD i Zp)) := by
 rw [List.length_map]
 exact h.congr fun i hi => by rw [G8 (z := (Qu, Qu)) hi]; rfl
theorem ledgerMatchingMost_walk (A A' : Option Addr) (ca cb : Nat) (c : Qf) (l : List Pd) (v : Value) (da db : Int) (M : List Mr) (V : Option Addr) (cM : Nat) (w : World) (hC : Zg w A ca A' cb c) (hP : Yo w v l) (hM : Qo w V M.length 4 (fun i => Kr (M.getD i Zp))) (hMl : M.length ≤ maxLen) (hZ : Zu w) :
  Calls Tryz.prog 4 #[.agg #[.slice A c.nk ca, .slice A' c.ny cb], v, .agg #[.int .i64 da, .int .i64 db, .slice V M.length cM]] w fun e w' => e = .returned (.bool true) ∧ Qa w w' := by
 obtain ⟨D, cap, _, _, _, e0, _⟩ := id hP
 subst e0
 have N1 := fun v h1 h2 => Dk A A' ca cb c l (.slice D l.length cap) da v h1 h2
 have N2 := fun v h1 h2 => Dk A A' ca cb c l (.slice D l.length cap) db v h1 h2
 have hl63 : M.length ≤ 9223372036854775807 := by
  have h3 : maxLen ≤ 9223372036854775807 := by decide
  omega
 have NQ := fun v h1 h2 h3 => Cc A A' ca cb c l (.slice D l.length cap) da M V cM v h1 h2 h3 hl63
 obtain ⟨L1, hL1⟩ := Qg ((c.matchV l da).1)
 obtain ⟨s1, hs1⟩ := Qg ((c.matchV l da).2)
 obtain ⟨L2, hL2⟩ := Qg ((c.matchV l db).1)
 obtain ⟨s2, hs2⟩ := Qg ((c.matchV l db).2)
 simp only [← hL1, ← hs1] at N1
 simp only [← hL2, ← hs2] at N2
 have hbad : Hid (s1 ≠ 0 → L1 = []) := Lib.hid fun h => by
  rw [hL1]
  rw [hs1] at h
  unfold Qf.matchV at h ⊢
  by_cases e : c.audE l da ≠ 0
  ·rw [if_pos e]
  ·rw [if_neg e] at h; exact absurd rfl h
 have hgood : Hid (s1 = 0 → L1 = c.matchL l da ∧ c.audE l da = 0) := Lib.hid fun h => by
  rw [hL1]
  rw [hs1] at h
  unfold Qf.matchV at h ⊢
  by_cases e : c.audE l da ≠ 0
  ·rw [if_pos e] at h; exact absurd h e
  ·rw [if_neg e]; exact ⟨rfl, by simpa using e⟩
 have hgood2 : Hid (s2 = 0 → L2 = c.matchL l db) := Lib.hid fun h => by
  rw [hL2]
  rw [hs2] at h
  unfold Qf.matchV at h ⊢
  by_cases e : c.audE l db ≠ 0
  ·rw [if_pos e] at h; exact absurd h e
  ·rw [if_neg e]
 clear hL1 hs1 hL2 hs2
 go_enter Tryz.func4, Tryz.ntmps4
 go_upto_region 1 with (fail)
 obtain ⟨v, hv⟩ := Qg ((w.alloc (.cells #[.slice A c.nk ca, .slice A' c.ny cb] 25)).alloc (.cells #[.int .i64 da, .int .i64 db, .slice V M.length cM] 40))
 rw [← hv]
 have E : Qa w v := by rw [hv]; exact ((Qa.refl _).alloc _).alloc _
 have B1 : Qb v w.heap.size 25 #[.slice A c.nk ca, .slice A' c.ny cb] := by rw [hv]; exact (Qb.new _ _ _).alloc _
 have B2 : Qb v (w.heap.size + 1) 40 #[.int .i64 da, .int .i64 db, .slice V M.length cM] := by rw [hv]; exact Qb.at _ _ _ _ (by simp)
 clear hv
 obtain ⟨b2, hb2⟩ := Qg (w.heap.size + 1)
 rw [← hb2] at B2 ⊢
 obtain ⟨b1, hb1⟩ := Qg (w.heap.size)
 rw [← hb1] at B1 ⊢
 have hbr : w.heap.size ≤ b2 := by omega
 have hbr1 : w.heap.size ≤ b1 := by omega
 have hn21 : b2 ≠ b1 := by omega
 clear hb1 hb2
 have Z := hZ.ext E
 have C := hC.ext E
 have P := hP.ext E
 have Q := hM.ext E
 clear hC hP hZ hM
 obtain ⟨k0, k1⟩ := B1.c2
 have kl := B1.lt
 obtain ⟨p0, p1, p2⟩ := B2.c3
 have pl := B2.lt
 go_upto_region 2 with (go_at_call 9; (with_reducible refine Calls.mono (N1 _ C P) ?_); rintro e w1 ⟨v1, rfl, hx, O⟩; replace E := E.trans hx; replace Z := Z.ext hx; replace C := C.ext hx; replace P := P.ext hx; replace Q := Q.ext hx; replace B1 := B1.ext hx; replace B2 := B2.ext hx; clear hx; clear k0 k1 kl p0 p1 p2 pl; obtain ⟨k0, k1⟩ := B1.c2; have kl := B1.lt; obtain ⟨p0, p1, p2⟩ := B2.c3; have pl := B2.lt; obtain ⟨F1, m1, e1, R1⟩ := Rq O; subst e1)
 by_cases e0 : s1 = 0
 rotate_left
 ·have g0 : (s1 == 0) = false := beq_eq_false_iff_ne.2 e0
  have g0n : (s1 != 0) = true := by rw [bne, g0]; rfl
  obtain rfl : L1 = [] := hbad.out e0
  clear hbad hgood hgood2 e0 R1 O
  simp only [List.length_nil]
  go_wp2_with (first | (go_at_call 12; (with_reducible refine Calls.mono (Kb _ Z) ?_); rintro e y4 ⟨rfl, hx⟩; replace E := E.trans hx))
  go_ret
  exact ⟨rfl, E⟩
 subst e0
 obtain ⟨eL1, ea⟩ := hgood.out rfl
 obtain ⟨⟨hv, hp⟩, _⟩ := Hx ea
 have q1 : c.pairsB l da (L1.map J6) = true := by rw [eL1]; exact Qdp hv hp
 have q2 : Hid (c.pairsB l da M = true → M.length ≤ L1.length) := Lib.hid fun h => by rw [eL1]; exact Qdo hv hp h
 have q3 : Hid (∀ i, i + 1 < L1.length → V1 (L1.getD i (Qu, Qu)).1 (L1.getD (i + 1) (Qu, Qu)).1) := Lib.hid fun i hi => by rw [eL1] at hi ⊢; exact Qdq hi
 have q4 : Hid (s2 = 0 → da ≤ db → L1.length ≤ L2.length) := Lib.hid fun h1 h2 => by rw [eL1, hgood2.out h1]; exact Qdn h2
 have q5 : L1.length ≤ 9223372036854775800 := by
  rw [eL1]
  exact Nat.le_trans (Qdk ea) (by decide)
 clear hbad hgood hgood2 eL1 ea hv hp O
 have NP := fun v h1 h2 h3 => Cc A A' ca cb c l (.slice D l.length cap) da (L1.map J6) F1 m1 v h1 h2 h3 (by rw [List.length_map]; omega)
 rw [q1] at NP
 rw [List.length_map] at NP
 obtain ⟨R2, hR2⟩ := Qg (c.pairsB l da M)
 rw [← hR2] at q2 NQ
 clear q1 hR2
 obtain ⟨n1, hn1⟩ := Qg (L1.length)
 obtain ⟨nM, hnM⟩ := Qg (M.length)
 go_upto_region 4 with (fail)
 cases R2
 ·clear q2
  clear hn1 hnM n1 nM
  go_upto_region 6 with (first | (go_at_call 13; (with_reducible refine Calls.mono (NP _ C P (by have := rowsI_own R1; rwa [List.length_map] at this)) ?_); rintro e y1 ⟨rfl, hx⟩; replace E := E.trans hx; replace Z := Z.ext hx; replace C := C.ext hx; replace P := P.ext hx; replace Q := Q.ext hx; replace R1 := R1.ext hx; replace B1 := B1.ext hx; replace B2 := B2.ext hx; clear hx; clear k0 k1 kl p0 p1 p2 pl; obtain ⟨k0, k1⟩ := B1.c2; have kl := B1.lt; obtain ⟨p0, p1, p2⟩ := B2.c3; have pl := B2.lt) | (go_at_call 13; (with_reducible refine Calls.mono (NQ _ C P Q) ?_); rintro e y2 ⟨rfl, hx⟩; replace E := E.trans hx; replace Z := Z.ext hx; replace C := C.ext hx; replace P := P.ext hx; replace Q := Q.ext hx; replace R1 := R1.ext hx; replace B1 := B1.ext hx; replace B2 := B2.ext hx; clear hx; clear k0 k1 kl p0 p1 p2 pl; obtain ⟨k0, k1⟩ := B1.c2; have kl := B1.lt; obtain ⟨p0, p1, p2⟩ := B2.c3; have pl := B2.lt))
  clear NP NQ
  go_upto_region 7 with (fail)
  go_loopw [9] (fun iv wr => ∃ j : Nat, iv = .int .i64 ((j : Int) + 1) ∧ j ≤ L1.length ∧ Qa w wr ∧ Zu wr ∧ Zg wr A ca A' cb c ∧ Yo wr (.slice D l.length cap) l ∧ Qb wr b1 25 #[.slice A c.nk ca, .slice A' c.ny cb] ∧ Qb wr b2 40 #[.int .i64 da, .int .i64 db, .slice V M.length cM] ∧ Qo wr F1 L1.length 4 (fun i => Xi (L1.getD i (Qu, Qu)))) (fun iv _ => L1.length + 1 - (intOf iv).toNat)
  case atStart => exact ⟨0, rfl, Nat.zero_le _, E, Z, C, P, B1, B2, R1⟩
  case round =>
   clear E Z C P B1 B2 R1 k0 k1 kl p0 p1 p2 pl Q
   obtain ⟨j, rfl, hj, E, Z, C, P, B1, B2, R1⟩ := hrel
   obtain ⟨wo, rfl⟩ := Qg wr
   obtain ⟨k0, k1⟩ := B1.c2
   have kl := B1.lt
   obtain ⟨p0, p1, p2⟩ := B2.c3
   have pl := B2.lt
   by_cases hlt : j + 1 < L1.length
   rotate_left
   ·have hcond : decide ((j : Int) + 1 < (L1.length : Int)) = false := decide_eq_false (by omega)
    go_upto_region 12 with (go_at_call 9; (with_reducible refine Calls.mono (N2 _ C P) ?_); rintro e w3 ⟨v2, rfl, hx, O⟩; replace E := E.trans hx; replace Z := Z.ext hx; replace C := C.ext hx; replace P := P.ext hx; replace B1 := B1.ext hx; replace B2 := B2.ext hx; clear hx; clear k0 k1 kl p0 p1 p2 pl; obtain ⟨k0, k1⟩ := B1.c2; have kl := B1.lt; obtain ⟨p0, p1, p2⟩ := B2.c3; have pl := B2.lt; obtain ⟨F2, m2, e1, _⟩ := Rq O; subst e1; clear O)
    by_cases f0 : s2 = 0
    rotate_left
    ·have g0 : (s2 == 0) = false := beq_eq_false_iff_ne.2 f0
     have g0n : (s2 != 0) = true := by rw [bne, g0]; rfl
     clear f0 q4
     go_wp2_with (first | (go_at_call 12; (with_reducible refine Calls.mono (Kb _ Z) ?_); rintro e y4 ⟨rfl, hx⟩; replace E := E.trans hx))
     go_ret
     exact ⟨rfl, E⟩
    subst f0
    by_cases f1 : db < da
    ·have g1 : decide (db < da) = true := decide_eq_true f1
     clear f1 q4
     go_wp2_with (first | (go_at_call 12; (with_reducible refine Calls.mono (Kb _ Z) ?_); rintro e y4 ⟨rfl, hx⟩; replace E := E.trans hx))
     go_ret
     exact ⟨rfl, E⟩
    have g1 : decide (db < da) = false := decide_eq_false f1
    have g2 : decide ((L1.length : Int) ≤ (L2.length : Int)) = true := decide_eq_true (by have := q4.out rfl (by omega); omega)
    have g3 : decide (L1.length ≤ L2.length) = true := decide_eq_true (q4.out rfl (by omega))
    clear f1 q4
    go_wp2_with (first | (go_at_call 12; (with_reducible refine Calls.mono (Kb _ Z) ?_); rintro e y4 ⟨rfl, hx⟩; replace E := E.trans hx))
    go_ret
    exact ⟨rfl, E⟩
   obtain ⟨bm, om, rfl, hbm, hcm⟩ := R1 (by omega)
   have hs := q3.out j hlt
   obtain ⟨⟨⟨x1, x2⟩, X⟩, hX⟩ : ∃ x, x = L1.getD j (Qu, Qu) := ⟨_, rfl⟩
   obtain ⟨⟨⟨y1, y2⟩, Y⟩, hY⟩ : ∃ x, x = L1.getD (j + 1) (Qu, Qu) := ⟨_, rfl⟩
   rw [← hX, ← hY] at hs
   have c0 : wo.cell? ⟨bm, om + j * 4, none⟩ = some (.int .i64 (x1 : Int)) := by
    have := hcm j 0 (.int .i64 ((L1.getD j (Qu, Qu)).1.1 : Nat)) (by omega) rfl
    rw [← hX] at this
    exact this
   have c1 : wo.cell? ⟨bm, om + j * 4 + 1, none⟩ = some (.int .i64 (x2 : Int)) := by
    have := hcm j 1 (.int .i64 ((L1.getD j (Qu, Qu)).1.2 : Nat)) (by omega) rfl
    rw [← hX] at this
    exact this
   have d0 : wo.cell? ⟨bm, om + (j + 1) * 4, none⟩ = some (.int .i64 (y1 : Int)) := by
    have := hcm (j + 1) 0 (.int .i64 ((L1.getD (j + 1) (Qu, Qu)).1.1 : Nat)) hlt rfl
    rw [← hY] at this
    exact this
   have d1 : wo.cell? ⟨bm, om + (j + 1) * 4 + 1, none⟩ = some (.int .i64 (y2 : Int)) := by
    have := hcm (j + 1) 1 (.int .i64 ((L1.getD (j + 1) (Qu, Qu)).1.2 : Nat)) hlt rfl
    rw [← hY] at this
    exact this
   clear hcm hX hY
   have e1 : decide ((y1 : Int) < (x1 : Int)) = false := decide_eq_false (by rcases hs with h | ⟨h, _⟩ <;> (simp only at h; omega))
   have e1n : decide (y1 < x1) = false := decide_eq_false (by rcases hs with h | ⟨h, _⟩ <;> (simp only at h; omega))
   go_upto_region 9 with (fail)
   by_cases f2 : x1 = y1
   ·subst f2
    have e3 : decide ((y2 : Int) ≤ (x2 : Int)) = false := decide_eq_false (by rcases hs with h | ⟨_, h⟩ <;> (simp only at h; omega))
    have e3n : decide (y2 ≤ x2) = false := decide_eq_false (by rcases hs with h | ⟨_, h⟩ <;> (simp only at h; omega))
    clear hs
    refine Zb wo Qq (by kernel_rfl) (by repeat (first | exact Qa.refl _ | (refine Qa.alloc ?_ _) | (refine Qa.trans ?_ (by assumption)))) ?_
    intro hne hrx hry
    try simp only []
    try simp only [List.append_eq, List.cons_append, List.nil_append]
    skip
    repeat (first
     | go_big_quiet_skip
     | (go_big_quiet_want; go_big_quiet_op; go_big_quiet_on))
    clear hne hry hrx
    refine wpQuiet_nil ?_
    intro wx hx
    obtain ⟨hcwx, hfwx, hzwx⟩ := Qa.rules hx
    try simp only [World.size_alloc] at hzwx
    obtain ⟨hcbwx, hfbwx, hzbwx⟩ := Qa.rules (show Qa wo wx from (by repeat (first | exact Qa.refl _ | (refine Qa.alloc ?_ _) | (refine Qa.trans ?_ (by assumption)))))
    clear hcwx hfwx
    go_wp2
    exact ⟨⟨j + 1, by rw [show (((j + 1 : Nat) : Int)) = (j : Int) + 1 by omega], by omega, E.trans hx, Z.ext hx, C.ext hx, P.ext hx, B1.ext hx, B2.ext hx, R1.ext hx⟩, by simp [intOf]; omega⟩
   ·have e2 : ((x1 : Int) == (y1 : Int)) = false := beq_eq_false_iff_ne.2 (by omega)
    have e2n : (x1 == y1) = false := beq_eq_false_iff_ne.2 f2
    clear hs f2
    refine Zb wo Qq (by kernel_rfl) (by repeat (first | exact Qa.refl _ | (refine Qa.alloc ?_ _) | (refine Qa.trans ?_ (by assumption)))) ?_
    intro hne hrx hry
    try simp only []
    try simp only [List.append_eq, List.cons_append, List.nil_append]
    skip
    repeat (first
     | go_big_quiet_skip
     | (go_big_quiet_want; go_big_quiet_op; go_big_quiet_on))
    clear hne hry hrx
    refine wpQuiet_nil ?_
    intro wx hx
    obtain ⟨hcwx, hfwx, hzwx⟩ := Qa.rules hx
    try simp only [World.size_alloc] at hzwx
    obtain ⟨hcbwx, hfbwx, hzbwx⟩ := Qa.rules (show Qa wo wx from (by repeat (first | exact Qa.refl _ | (refine Qa.alloc ?_ _) | (refine Qa.trans ?_ (by assumption)))))
    clear hcwx hfwx
    go_wp2
    exact ⟨⟨j + 1, by rw [show (((j + 1 : Nat) : Int)) = (j : Int) + 1 by omega], by omega, E.trans hx, Z.ext hx, C.ext hx, P.ext hx, B1.ext hx, B2.ext hx, R1.ext hx⟩, by simp [intOf]; omega⟩
 ·have q6 := q2.out rfl
  have q7 : decide ((L1.length : Int) < (M.length : Int)) = false := decide_eq_false (by omega)
  have q8 : decide (L1.length < M.length) = false := decide_eq_false (by omega)
  clear q2 q6
  clear hn1 hnM n1 nM
  go_upto_region 6 with (first | (go_at_call 13; (with_reducible refine Calls.mono (NP _ C P (by have := rowsI_own R1; rwa [List.length_map] at this)) ?_); rintro e y1 ⟨rfl, hx⟩; replace E := E.trans hx; replace Z := Z.ext hx; replace C := C.ext hx; replace P := P.ext hx; replace Q := Q.ext hx; replace R1 := R1.ext hx; replace B1 := B1.ext hx; replace B2 := B2.ext hx; clear hx; clear k0 k1 kl p0 p1 p2 pl; obtain ⟨k0, k1⟩ := B1.c2; have kl := B1.lt; obtain ⟨p0, p1, p2⟩ := B2.c3; have pl := B2.lt) | (go_at_call 13; (with_reducible refine Calls.mono (NQ _ C P Q) ?_); rintro e y2 ⟨rfl, hx⟩; replace E := E.trans hx; replace Z := Z.ext hx; replace C := C.ext hx; replace P := P.ext hx; replace Q := Q.ext hx; replace R1 := R1.ext hx; replace B1 := B1.ext hx; replace B2 := B2.ext hx; clear hx; clear k0 k1 kl p0 p1 p2 pl; obtain ⟨k0, k1⟩ := B1.c2; have kl := B1.lt; obtain ⟨p0, p1, p2⟩ := B2.c3; have pl := B2.lt))
  clear q7 q8
  clear NP NQ
  go_upto_region 7 with (fail)
  go_loopw [9] (fun iv wr => ∃ j : Nat, iv = .int .i64 ((j : Int) + 1) ∧ j ≤ L1.length ∧ Qa w wr ∧ Zu wr ∧ Zg wr A ca A' cb c ∧ Yo wr (.slice D l.length cap) l ∧ Qb wr b1 25 #[.slice A c.nk ca, .slice A' c.ny cb] ∧ Qb wr b2 40 #[.int .i64 da, .int .i64 db, .slice V M.length cM] ∧ Qo wr F1 L1.length 4 (fun i => Xi (L1.getD i (Qu, Qu)))) (fun iv _ => L1.length + 1 - (intOf iv).toNat)
  case atStart => exact ⟨0, rfl, Nat.zero_le _, E, Z, C, P, B1, B2, R1⟩
  case round =>
   clear E Z C P B1 B2 R1 k0 k1 kl p0 p1 p2 pl Q
   obtain ⟨j, rfl, hj, E, Z, C, P, B1, B2, R1⟩ := hrel
   obtain ⟨wo, rfl⟩ := Qg wr
   obtain ⟨k0, k1⟩ := B1.c2
   have kl := B1.lt
   obtain ⟨p0, p1, p2⟩ := B2.c3
   have pl := B2.lt
   by_cases hlt : j + 1 < L1.length
   rotate_left
   ·have hcond : decide ((j : Int) + 1 < (L1.length : Int)) = false := decide_eq_false (by omega)
    go_upto_region 12 with (go_at_call 9; (with_reducible refine Calls.mono (N2 _ C P) ?_); rintro e w3 ⟨v2, rfl, hx, O⟩; replace E := E.trans hx; replace Z := Z.ext hx; replace C := C.ext hx; replace P := P.ext hx; replace B1 := B1.ext hx; replace B2 := B2.ext hx; clear hx; clear k0 k1 kl p0 p1 p2 pl; obtain ⟨k0, k1⟩ := B1.c2; have kl := B1.lt; obtain ⟨p0, p1, p2⟩ := B2.c3; have pl := B2.lt; obtain ⟨F2, m2, e1, _⟩ := Rq O; subst e1; clear O)
    by_cases f0 : s2 = 0
    rotate_left
    ·have g0 : (s2 == 0) = false := beq_eq_false_iff_ne.2 f0
     have g0n : (s2 != 0) = true := by rw [bne, g0]; rfl
     clear f0 q4
     go_wp2_with (first | (go_at_call 12; (with_reducible refine Calls.mono (Kb _ Z) ?_); rintro e y4 ⟨rfl, hx⟩; replace E := E.trans hx))
     go_ret
     exact ⟨rfl, E⟩
    subst f0
    by_cases f1 : db < da
    ·have g1 : decide (db < da) = true := decide_eq_true f1
     clear f1 q4
     go_wp2_with (first | (go_at_call 12; (with_reducible refine Calls.mono (Kb _ Z) ?_); rintro e y4 ⟨rfl, hx⟩; replace E := E.trans hx))
     go_ret
     exact ⟨rfl, E⟩
    have g1 : decide (db < da) = false := decide_eq_false f1
    have g2 : decide ((L1.length : Int) ≤ (L2.length : Int)) = true := decide_eq_true (by have := q4.out rfl (by omega); omega)
    have g3 : decide (L1.length ≤ L2.length) = true := decide_eq_true (q4.out rfl (by omega))
    clear f1 q4
    go_wp2_with (first | (go_at_call 12; (with_reducible refine Calls.mono (Kb _ Z) ?_); rintro e y4 ⟨rfl, hx⟩; replace E := E.trans hx))
    go_ret
    exact ⟨rfl, E⟩
   obtain ⟨bm, om, rfl, hbm, hcm⟩ := R1 (by omega)
   have hs := q3.out j hlt
   obtain ⟨⟨⟨x1, x2⟩, X⟩, hX⟩ : ∃ x, x = L1.getD j (Qu, Qu) := ⟨_, rfl⟩
   obtain ⟨⟨⟨y1, y2⟩, Y⟩, hY⟩ : ∃ x, x = L1.getD (j + 1) (Qu, Qu) := ⟨_, rfl⟩
   rw [← hX, ← hY] at hs
   have c0 : wo.cell? ⟨bm, om + j * 4, none⟩ = some (.int .i64 (x1 : Int)) := by
    have := hcm j 0 (.int .i64 ((L1.getD j (Qu, Qu)).1.1 : Nat)) (by omega) rfl
    rw [← hX] at this
    exact this
   have c1 : wo.cell? ⟨bm, om + j * 4 + 1, none⟩ = some (.int .i64 (x2 : Int)) := by
    have := hcm j 1 (.int .i64 ((L1.getD j (Qu, Qu)).1.2 : Nat)) (by omega) rfl
    rw [← hX] at this
    exact this
   have d0 : wo.cell? ⟨bm, om + (j + 1) * 4, none⟩ = some (.int .i64 (y1 : Int)) := by
    have := hcm (j + 1) 0 (.int .i64 ((L1.getD (j + 1) (Qu, Qu)).1.1 : Nat)) hlt rfl
    rw [← hY] at this
    exact this
   have d1 : wo.cell? ⟨bm, om + (j + 1) * 4 + 1, none⟩ = some (.int .i64 (y2 : Int)) := by
    have := hcm (j + 1) 1 (.int .i64 ((L1.getD (j + 1) (Qu, Qu)).1.2 : Nat)) hlt rfl
    rw [← hY] at this
    exact this
   clear hcm hX hY
   have e1 : decide ((y1 : Int) < (x1 : Int)) = false := decide_eq_false (by rcases hs with h | ⟨h, _⟩ <;> (simp only at h; omega))
   have e1n : decide (y1 < x1) = false := decide_eq_false (by rcases hs with h | ⟨h, _⟩ <;> (simp only at h; omega))
   go_upto_region 9 with (fail)
   by_cases f2 : x1 = y1
   ·subst f2
    have e3 : decide ((y2 : Int) ≤ (x2 : Int)) = false := decide_eq_false (by rcases hs with h | ⟨_, h⟩ <;> (simp only at h; omega))
    have e3n : decide (y2 ≤ x2) = false := decide_eq_false (by rcases hs with h | ⟨_, h⟩ <;> (simp only at h; omega))
    clear hs
    refine Zb wo Qq (by kernel_rfl) (by repeat (first | exact Qa.refl _ | (refine Qa.alloc ?_ _) | (refine Qa.trans ?_ (by assumption)))) ?_
    intro hne hrx hry
    try simp only []
    try simp only [List.append_eq, List.cons_append, List.nil_append]
    skip
    repeat (first
     | go_big_quiet_skip
     | (go_big_quiet_want; go_big_quiet_op; go_big_quiet_on))
    clear hne hry hrx
    refine wpQuiet_nil ?_
    intro wx hx
    obtain ⟨hcwx, hfwx, hzwx⟩ := Qa.rules hx
    try simp only [World.size_alloc] at hzwx
    obtain ⟨hcbwx, hfbwx, hzbwx⟩ := Qa.rules (show Qa wo wx from (by repeat (first | exact Qa.refl _ | (refine Qa.alloc ?_ _) | (refine Qa.trans ?_ (by assumption)))))
    clear hcwx hfwx
    go_wp2
    exact ⟨⟨j + 1, by rw [show (((j + 1 : Nat) : Int)) = (j : Int) + 1 by omega], by omega, E.trans hx, Z.ext hx, C.ext hx, P.ext hx, B1.ext hx, B2.ext hx, R1.ext hx⟩, by simp [intOf]; omega⟩
   ·have e2 : ((x1 : Int) == (y1 : Int)) = false := beq_eq_false_iff_ne.2 (by omega)
    have e2n : (x1 == y1) = false := beq_eq_false_iff_ne.2 f2
    clear hs f2
    refine Zb wo Qq (by kernel_rfl) (by repeat (first | exact Qa.refl _ | (refine Qa.alloc ?_ _) | (refine Qa.trans ?_ (by assumption)))) ?_
    intro hne hrx hry
    try simp only []
    try simp only [List.append_eq, List.cons_append, List.nil_append]
    skip
    repeat (first
     | go_big_quiet_skip
     | (go_big_quiet_want; go_big_quiet_op; go_big_quiet_on))
    clear hne hry hrx
    refine wpQuiet_nil ?_
    intro wx hx
    obtain ⟨hcwx, hfwx, hzwx⟩ := Qa.rules hx
    try simp only [World.size_alloc] at hzwx
    obtain ⟨hcbwx, hfbwx, hzbwx⟩ := Qa.rules (show Qa wo wx from (by repeat (first | exact Qa.refl _ | (refine Qa.alloc ?_ _) | (refine Qa.trans ?_ (by assumption)))))
    clear hcwx hfwx
    go_wp2
    exact ⟨⟨j + 1, by rw [show (((j + 1 : Nat) : Int)) = (j : Int) + 1 by omega], by omega, E.trans hx, Z.ext hx, C.ext hx, P.ext hx, B1.ext hx, B2.ext hx, R1.ext hx⟩, by simp [intOf]; omega⟩
end Go.Proofs.YtoflcheopfppoaaGreatDoor