/- Walks of the program's functions and plain facts, packed; proved: the lemmas below; no conditions but those that each states. -/
import Derived.Test.YtoflcheopfppoaaGreatDoorJ14
import Derived.Test.YtoflcheopfppoaaGreatDoorJ6
import Derived.Test.YtoflcheopfppoaaGreatDoorJ7
import Derived.Test.YtoflcheopfppoaaGreatDoorJ10
import Derived.Test.YtoflcheopfppoaaGreatDoorJ8
import Derived.Laws.StructEq
import Derived.Test.YtoflcheopfppoaaGreatDoorJ3
set_option maxRecDepth 100000
set_option maxHeartbeats 4000000
namespace Go.Proofs.YtoflcheopfppoaaGreatDoor
section
open Go Go.RowKit Go.Shelf
attribute [local go_sem] Zq
theorem Qa7 (l : List Pd) (vl : Value) (r : Int × Int) (w : World) (hP : Yo w vl l) :
  Calls Tryz.prog 44 #[vl, .agg #[.int .i64 r.1, .int .i64 r.2]] w fun e w' => Qa w w' ∧ (Jp l r = false → e = .returned (.tuple #[.agg #[.int .i64 0, .int .i64 0, .bool false, .int .i64 0, .bool false, .string ⟨#[]⟩, .slice none 0 0], .bool false])) ∧ (Jp l r = true → ∃ F m, e = .returned (.tuple #[.agg #[.int .i64 (Qw l (Zk r)).on.y, .int .i64 (Qw l (Zk r)).on.m, .bool (Qw l (Zk r)).on.s, .int .i64 (Qw l (Zk r)).on.d, .bool (Qw l (Zk r)).i, .string (Qw l (Zk r)).w, .slice F (Qw l (Zk r)).l.length m], .bool true]) ∧ Zt w (.slice F (Qw l (Zk r)).l.length m) (Qw l (Zk r)).l) := by
 obtain ⟨r1, r2⟩ := r
 obtain ⟨D, cap, vo, vd, vc, rfl, hD, hcap, hmax, _, hat⟩ := id hP
 go_enter Tryz.func44, Tryz.ntmps44
 go_upto_region 1 with (fail)
 obtain ⟨v, hv⟩ := Qg ((w.alloc (.cells #[.int .i64 r1, .int .i64 r2] 33)).alloc (.cells #[.int .i64 0, .int .i64 0, .bool false, .int .i64 0, .bool false, .string ⟨#[]⟩, .slice none 0 0] 57))
 rw [← hv]
 have E : Qa w v := by rw [hv]; exact ((Qa.refl _).alloc _).alloc _
 have B1 : Qb v w.heap.size 33 #[.int .i64 r1, .int .i64 r2] := by rw [hv]; exact (Qb.new _ _ _).alloc _
 have B4 : Qb v (w.heap.size + 1) 57 #[.int .i64 0, .int .i64 0, .bool false, .int .i64 0, .bool false, .string ⟨#[]⟩, .slice none 0 0] := by rw [hv]; exact Qb.at _ _ _ _ (by simp)
 clear hv
 obtain ⟨b2, hb2⟩ := Qg (w.heap.size + 1)
 rw [← hb2] at B4 ⊢
 obtain ⟨b1, hb1⟩ := Qg (w.heap.size)
 rw [← hb1] at B1 ⊢
 have hbr : w.heap.size ≤ b2 := by omega
 have hbr1 : w.heap.size ≤ b1 := by omega
 have hn21 : b2 ≠ b1 := by omega
 clear hb1 hb2
 go_upto_region 1 with (fail)
 obtain ⟨k0, k1⟩ := Qb.c2 B1
 have kl := Qb.lt B1
 by_cases h1 : r1 < 0
 ·have g1 : decide (r1 < 0) = true := decide_eq_true h1
  have hno : Jp l (r1, r2) = false := by
   unfold Jp
   simp
   omega
  replace hno := Lib.hid hno
  try clear hnd' hx
  refine Zb v Qq (by kernel_rfl) (by repeat (first | exact Qa.refl _ | (refine Qa.alloc ?_ _) | (refine Qa.trans ?_ (by assumption)))) ?_
  intro hne hrx hry
  try simp only []
  try simp only [List.append_eq, List.cons_append, List.nil_append]
  skip
  repeat (first
   | go_big_quiet_skip
   | (go_big_quiet_want; go_big_quiet_op; go_big_quiet_on))
  clear hne hry hrx
  refine wpQuiet_nil ?_
  intro w2 h2
  obtain ⟨hcw2, hfw2, hzw2⟩ := Qa.rules h2
  try simp only [World.size_alloc] at hzw2
  obtain ⟨hcbw2, hfbw2, hzbw2⟩ := Qa.rules (show Qa v w2 from (by repeat (first | exact Qa.refl _ | (refine Qa.alloc ?_ _) | (refine Qa.trans ?_ (by assumption)))))
  clear hcw2 hfw2
  have B4x := B4.ext h2
  obtain ⟨y0, y1, y2, y3, y4, y5, y6⟩ := Qt B4x
  have yl := Qb.lt B4x
  have z0 := Qb.frozen B4x 0
  have z1 := Qb.frozen B4x 1
  have z2 := Qb.frozen B4x 2
  have z3 := Qb.frozen B4x 3
  have z4 := Qb.frozen B4x 4
  have z5 := Qb.frozen B4x 5
  have z6 := Qb.frozen B4x 6
  go_wp2
  have HX := Ji B4x (.int .i64 0) (.int .i64 0) (.bool false) (.int .i64 0) (.bool false) (.string ⟨#[]⟩) (.slice none 0 0)
  have EX := Jh (E.trans h2) hbr (.int .i64 0) (.int .i64 0) (.bool false) (.int .i64 0) (.bool false) (.string ⟨#[]⟩) (.slice none 0 0)
  clear B4x y0 z0 y1 z1 y2 z2 y3 z3 y4 z4 y5 z5 y6 z6 yl
  generalize World.setCell _ _ _ = wq at *
  obtain ⟨y0, y1, y2, y3, y4, y5, y6⟩ := Qt HX
  refine bodyPost_ret (v := .tuple #[.agg #[.int .i64 0, .int .i64 0, .bool false, .int .i64 0, .bool false, .string ⟨#[]⟩, .slice none 0 0], .bool false]) (by simp [results, Tryz.results44, go_sem, y0, y1, y2, y3, y4, y5, y6]) rfl ⟨EX, fun _ => rfl, fun h => ?_⟩
  rw [hno.out] at h
  cases h
 obtain ⟨n1, rfl⟩ := Int.eq_ofNat_of_zero_le (Int.not_lt.1 h1)
 have g1 : decide ((n1 : Int) < 0) = false := decide_eq_false h1
 by_cases h2' : l.length ≤ n1
 ·have g2 : decide ((l.length : Int) ≤ (n1 : Int)) = true := decide_eq_true (by omega)
  have hno : Jp l ((n1 : Int), r2) = false := by
   unfold Jp
   simp
   omega
  replace hno := Lib.hid hno
  try clear hnd' hx
  refine Zb v Qq (by kernel_rfl) (by repeat (first | exact Qa.refl _ | (refine Qa.alloc ?_ _) | (refine Qa.trans ?_ (by assumption)))) ?_
  intro hne hrx hry
  try simp only []
  try simp only [List.append_eq, List.cons_append, List.nil_append]
  skip
  repeat (first
   | go_big_quiet_skip
   | (go_big_quiet_want; go_big_quiet_op; go_big_quiet_on))
  clear hne hry hrx
  refine wpQuiet_nil ?_
  intro w2 h2
  obtain ⟨hcw2, hfw2, hzw2⟩ := Qa.rules h2
  try simp only [World.size_alloc] at hzw2
  obtain ⟨hcbw2, hfbw2, hzbw2⟩ := Qa.rules (show Qa v w2 from (by repeat (first | exact Qa.refl _ | (refine Qa.alloc ?_ _) | (refine Qa.trans ?_ (by assumption)))))
  clear hcw2 hfw2
  have B4x := B4.ext h2
  obtain ⟨y0, y1, y2, y3, y4, y5, y6⟩ := Qt B4x
  have yl := Qb.lt B4x
  have z0 := Qb.frozen B4x 0
  have z1 := Qb.frozen B4x 1
  have z2 := Qb.frozen B4x 2
  have z3 := Qb.frozen B4x 3
  have z4 := Qb.frozen B4x 4
  have z5 := Qb.frozen B4x 5
  have z6 := Qb.frozen B4x 6
  go_wp2
  have HX := Ji B4x (.int .i64 0) (.int .i64 0) (.bool false) (.int .i64 0) (.bool false) (.string ⟨#[]⟩) (.slice none 0 0)
  have EX := Jh (E.trans h2) hbr (.int .i64 0) (.int .i64 0) (.bool false) (.int .i64 0) (.bool false) (.string ⟨#[]⟩) (.slice none 0 0)
  clear B4x y0 z0 y1 z1 y2 z2 y3 z3 y4 z4 y5 z5 y6 z6 yl
  generalize World.setCell _ _ _ = wq at *
  obtain ⟨y0, y1, y2, y3, y4, y5, y6⟩ := Qt HX
  refine bodyPost_ret (v := .tuple #[.agg #[.int .i64 0, .int .i64 0, .bool false, .int .i64 0, .bool false, .string ⟨#[]⟩, .slice none 0 0], .bool false]) (by simp [results, Tryz.results44, go_sem, y0, y1, y2, y3, y4, y5, y6]) rfl ⟨EX, fun _ => rfl, fun h => ?_⟩
  rw [hno.out] at h
  cases h
 have g2 : decide ((l.length : Int) ≤ (n1 : Int)) = false := decide_eq_false (by omega)
 have hlt : n1 < l.length := by omega
 by_cases h3 : r2 < 0
 ·have g3 : decide (r2 < 0) = true := decide_eq_true h3
  have hno : Jp l ((n1 : Int), r2) = false := by
   unfold Jp
   simp
   omega
  replace hno := Lib.hid hno
  try clear hnd' hx
  refine Zb v Qq (by kernel_rfl) (by repeat (first | exact Qa.refl _ | (refine Qa.alloc ?_ _) | (refine Qa.trans ?_ (by assumption)))) ?_
  intro hne hrx hry
  try simp only []
  try simp only [List.append_eq, List.cons_append, List.nil_append]
  skip
  repeat (first
   | go_big_quiet_skip
   | (go_big_quiet_want; go_big_quiet_op; go_big_quiet_on))
  clear hne hry hrx
  refine wpQuiet_nil ?_
  intro w2 h2
  obtain ⟨hcw2, hfw2, hzw2⟩ := Qa.rules h2
  try simp only [World.size_alloc] at hzw2
  obtain ⟨hcbw2, hfbw2, hzbw2⟩ := Qa.rules (show Qa v w2 from (by repeat (first | exact Qa.refl _ | (refine Qa.alloc ?_ _) | (refine Qa.trans ?_ (by assumption)))))
  clear hcw2 hfw2
  have B4x := B4.ext h2
  obtain ⟨y0, y1, y2, y3, y4, y5, y6⟩ := Qt B4x
  have yl := Qb.lt B4x
  have z0 := Qb.frozen B4x 0
  have z1 := Qb.frozen B4x 1
  have z2 := Qb.frozen B4x 2
  have z3 := Qb.frozen B4x 3
  have z4 := Qb.frozen B4x 4
  have z5 := Qb.frozen B4x 5
  have z6 := Qb.frozen B4x 6
  go_wp2
  have HX := Ji B4x (.int .i64 0) (.int .i64 0) (.bool false) (.int .i64 0) (.bool false) (.string ⟨#[]⟩) (.slice none 0 0)
  have EX := Jh (E.trans h2) hbr (.int .i64 0) (.int .i64 0) (.bool false) (.int .i64 0) (.bool false) (.string ⟨#[]⟩) (.slice none 0 0)
  clear B4x y0 z0 y1 z1 y2 z2 y3 z3 y4 z4 y5 z5 y6 z6 yl
  generalize World.setCell _ _ _ = wq at *
  obtain ⟨y0, y1, y2, y3, y4, y5, y6⟩ := Qt HX
  refine bodyPost_ret (v := .tuple #[.agg #[.int .i64 0, .int .i64 0, .bool false, .int .i64 0, .bool false, .string ⟨#[]⟩, .slice none 0 0], .bool false]) (by simp [results, Tryz.results44, go_sem, y0, y1, y2, y3, y4, y5, y6]) rfl ⟨EX, fun _ => rfl, fun h => ?_⟩
  rw [hno.out] at h
  cases h
 obtain ⟨n2, rfl⟩ := Int.eq_ofNat_of_zero_le (Int.not_lt.1 h3)
 have g3 : decide ((n2 : Int) < 0) = false := decide_eq_false h3
 obtain ⟨T, ct, vs, e1, hT, hct, hmt, _, hatT⟩ := id (hat n1 (by omega)).d
 obtain ⟨b, off, rfl, hb, hc⟩ := (hD.ext E) (by omega)
 have c10 : v.cell? ⟨b, off + n1 * 12 + 10, none⟩ = some (.slice T (l.getD n1 Q3).d.length ct) := by
  have := hc n1 10 (vd n1) (by omega) rfl
  rw [e1] at this
  exact this
 clear hc e1
 have hP2 : Qw l (Zk ((n1 : Int), (n2 : Int))) = (l.getD n1 Q3).d.getD n2 Zn := by simp [Qw, Zk]
 obtain ⟨nd, hnd⟩ := Qg ((l.getD n1 Q3).d.length)
 rw [← hnd] at c10 hT
 replace hnd := Lib.hid hnd
 by_cases h4 : nd ≤ n2
 ·have g4 : decide ((nd : Int) ≤ (n2 : Int)) = true := decide_eq_true (by omega)
  have hnd' := hnd.out
  have hx : (l[n1]?.getD Q3).d.length = nd := by rw [hnd']; simp
  have hno : Jp l ((n1 : Int), (n2 : Int)) = false := by
   unfold Jp
   simp
   omega
  replace hno := Lib.hid hno
  try clear hnd' hx
  refine Zb v Qq (by kernel_rfl) (by repeat (first | exact Qa.refl _ | (refine Qa.alloc ?_ _) | (refine Qa.trans ?_ (by assumption)))) ?_
  intro hne hrx hry
  try simp only []
  try simp only [List.append_eq, List.cons_append, List.nil_append]
  skip
  repeat (first
   | go_big_quiet_skip
   | (go_big_quiet_want; go_big_quiet_op; go_big_quiet_on))
  clear hne hry hrx
  refine wpQuiet_nil ?_
  intro w2 h2
  obtain ⟨hcw2, hfw2, hzw2⟩ := Qa.rules h2
  try simp only [World.size_alloc] at hzw2
  obtain ⟨hcbw2, hfbw2, hzbw2⟩ := Qa.rules (show Qa v w2 from (by repeat (first | exact Qa.refl _ | (refine Qa.alloc ?_ _) | (refine Qa.trans ?_ (by assumption)))))
  clear hcw2 hfw2
  have B4x := B4.ext h2
  obtain ⟨y0, y1, y2, y3, y4, y5, y6⟩ := Qt B4x
  have yl := Qb.lt B4x
  have z0 := Qb.frozen B4x 0
  have z1 := Qb.frozen B4x 1
  have z2 := Qb.frozen B4x 2
  have z3 := Qb.frozen B4x 3
  have z4 := Qb.frozen B4x 4
  have z5 := Qb.frozen B4x 5
  have z6 := Qb.frozen B4x 6
  go_wp2
  have HX := Ji B4x (.int .i64 0) (.int .i64 0) (.bool false) (.int .i64 0) (.bool false) (.string ⟨#[]⟩) (.slice none 0 0)
  have EX := Jh (E.trans h2) hbr (.int .i64 0) (.int .i64 0) (.bool false) (.int .i64 0) (.bool false) (.string ⟨#[]⟩) (.slice none 0 0)
  clear B4x y0 z0 y1 z1 y2 z2 y3 z3 y4 z4 y5 z5 y6 z6 yl
  generalize World.setCell _ _ _ = wq at *
  obtain ⟨y0, y1, y2, y3, y4, y5, y6⟩ := Qt HX
  refine bodyPost_ret (v := .tuple #[.agg #[.int .i64 0, .int .i64 0, .bool false, .int .i64 0, .bool false, .string ⟨#[]⟩, .slice none 0 0], .bool false]) (by simp [results, Tryz.results44, go_sem, y0, y1, y2, y3, y4, y5, y6]) rfl ⟨EX, fun _ => rfl, fun h => ?_⟩
  rw [hno.out] at h
  cases h
 have g4 : decide ((nd : Int) ≤ (n2 : Int)) = false := decide_eq_false (by omega)
 have hlt2 : n2 < nd := by omega
 have hok : Jp l ((n1 : Int), (n2 : Int)) = true := by
  have hnd' := hnd.out
  have hx : (l[n1]?.getD Q3).d.length = nd := by rw [hnd']; simp
  unfold Jp
  simp
  omega
 have hL := hatT n2 (by rw [← hnd.out]; exact hlt2)
 obtain ⟨F, m, e7, _⟩ := id hL
 rw [e7] at hL
 obtain ⟨b', off', rfl, hb', hc'⟩ := (hT.ext E) (by omega)
 rw [← hP2] at e7 hL
 have d0 : v.cell? ⟨b', off' + n2 * 7, none⟩ = some (.int .i64 (Qw l (Zk ((n1 : Int), (n2 : Int)))).on.y) := by
  have := hc' n2 0 _ hlt2 rfl
  simpa [Zx, Qw, Zk] using this
 have d1 : v.cell? ⟨b', off' + n2 * 7 + 1, none⟩ = some (.int .i64 (Qw l (Zk ((n1 : Int), (n2 : Int)))).on.m) := by
  have := hc' n2 1 _ hlt2 rfl
  simpa [Zx, Qw, Zk] using this
 have d2 : v.cell? ⟨b', off' + n2 * 7 + 2, none⟩ = some (.bool (Qw l (Zk ((n1 : Int), (n2 : Int)))).on.s) := by
  have := hc' n2 2 _ hlt2 rfl
  simpa [Zx, Qw, Zk] using this
 have d3 : v.cell? ⟨b', off' + n2 * 7 + 3, none⟩ = some (.int .i64 (Qw l (Zk ((n1 : Int), (n2 : Int)))).on.d) := by
  have := hc' n2 3 _ hlt2 rfl
  simpa [Zx, Qw, Zk] using this
 have d4 : v.cell? ⟨b', off' + n2 * 7 + 4, none⟩ = some (.bool (Qw l (Zk ((n1 : Int), (n2 : Int)))).i) := by
  have := hc' n2 4 _ hlt2 rfl
  simpa [Zx, Qw, Zk] using this
 have d5 : v.cell? ⟨b', off' + n2 * 7 + 5, none⟩ = some (.string (Qw l (Zk ((n1 : Int), (n2 : Int)))).w) := by
  have := hc' n2 5 _ hlt2 rfl
  simpa [Zx, Qw, Zk] using this
 have d6 : v.cell? ⟨b', off' + n2 * 7 + 6, none⟩ = some (.slice F (Qw l (Zk ((n1 : Int), (n2 : Int)))).l.length m) := by
  have := hc' n2 6 (vs n2) hlt2 rfl
  rw [e7] at this
  exact this
 clear hc' e7 hT hat hatT hD
 replace hok := Lib.hid hok
 replace hP2 := Lib.hid hP2
 obtain ⟨G, hG⟩ := Qg (Qw l (Zk ((n1 : Int), (n2 : Int))))
 rw [← hG] at d0 d1 d2 d3 d4 d5 d6 hL
 replace hG := Lib.hid hG
 refine Zb v Qq (by kernel_rfl) (by repeat (first | exact Qa.refl _ | (refine Qa.alloc ?_ _) | (refine Qa.trans ?_ (by assumption)))) ?_
 intro hne hrx hry
 try simp only []
 try simp only [List.append_eq, List.cons_append, List.nil_append]
 skip
 repeat (first
  | go_big_quiet_skip
  | (go_big_quiet_want; go_big_quiet_op; go_big_quiet_on))
 clear hne hry hrx
 refine wpQuiet_nil ?_
 intro w2 h2
 obtain ⟨hcw2, hfw2, hzw2⟩ := Qa.rules h2
 try simp only [World.size_alloc] at hzw2
 obtain ⟨hcbw2, hfbw2, hzbw2⟩ := Qa.rules (show Qa v w2 from (by repeat (first | exact Qa.refl _ | (refine Qa.alloc ?_ _) | (refine Qa.trans ?_ (by assumption)))))
 clear hcw2 hfw2
 replace E := E.trans h2
 replace B1 := B1.ext h2
 replace B4 := B4.ext h2
 clear k0 k1 kl
 go_upto_region 3 with (fail)
 refine Q1 12 [10, 11] (fun x => Qa w2 x) Qq rfl ?_
 intro vz hvz
 have HC := hvz
 refine Qr (g := 2) [0, 1, 2, 3, 4, 5, 6, 7, 8, 9] [_, _, _, _, _, _, _, _, _, _] ⟨rfl, rfl, rfl, rfl, rfl, rfl, rfl, rfl, rfl, rfl, trivial⟩ (by kernel_rfl) (by kernel_rfl) HC ?_
 simp only [Qc, Qd, Qe]
 apply Exists.intro
 refine ⟨fun u hu => ?_, ?_⟩
 ·obtain ⟨k0, k1⟩ := Qb.c2 (Qb.ext B1 hu)
  have kl := Qb.lt (Qb.ext B1 hu)
  have r10 := ((h2.trans hu).cell (p := ⟨b, off + n1 * 12 + 10, none⟩) hb).trans c10
  have hbu := Nat.lt_of_lt_of_le hb (h2.trans hu).size
  have hbu' := Nat.lt_of_lt_of_le hb' (h2.trans hu).size
  have q0 := ((h2.trans hu).cell (p := ⟨b', off' + n2 * 7, none⟩) hb').trans d0
  have q1 := ((h2.trans hu).cell (p := ⟨b', off' + n2 * 7 + 1, none⟩) hb').trans d1
  have q2 := ((h2.trans hu).cell (p := ⟨b', off' + n2 * 7 + 2, none⟩) hb').trans d2
  have q3 := ((h2.trans hu).cell (p := ⟨b', off' + n2 * 7 + 3, none⟩) hb').trans d3
  have q4 := ((h2.trans hu).cell (p := ⟨b', off' + n2 * 7 + 4, none⟩) hb').trans d4
  have q5 := ((h2.trans hu).cell (p := ⟨b', off' + n2 * 7 + 5, none⟩) hb').trans d5
  have q6 := ((h2.trans hu).cell (p := ⟨b', off' + n2 * 7 + 6, none⟩) hb').trans d6
  repeat (first | go_big_quiet_skip | (go_big_quiet_want; go_big_quiet_op; go_big_quiet_on))
  refine wpQuiet_nil ?_
  rfl
 refine Qm 10 rfl (by kernel_rfl) ?_
 simp only [Qc, Qd, Qe]
 have Hs := Qb.ext B4 HC
 have z0 := Qb.frozen Hs 0
 have z1 := Qb.frozen Hs 1
 have z2 := Qb.frozen Hs 2
 have z3 := Qb.frozen Hs 3
 have z4 := Qb.frozen Hs 4
 have z5 := Qb.frozen Hs 5
 have z6 := Qb.frozen Hs 6
 obtain ⟨y0, y1, y2, y3, y4, y5, y6⟩ := Qt Hs
 have yl := Qb.lt Hs
 go_wp2
 have HX := Ji Hs (.int .i64 G.on.y) (.int .i64 G.on.m) (.bool G.on.s) (.int .i64 G.on.d) (.bool G.i) (.string G.w) (.slice F G.l.length m)
 have EX := Jh (E.trans HC) hbr (.int .i64 G.on.y) (.int .i64 G.on.m) (.bool G.on.s) (.int .i64 G.on.d) (.bool G.i) (.string G.w) (.slice F G.l.length m)
 clear Hs z0 z1 z2 z3 z4 z5 z6 y0 y1 y2 y3 y4 y5 y6 yl
 generalize World.setCell _ _ _ = wq at *
 refine Ql ?_
 refine Qm 11 rfl (by kernel_rfl) ?_
 simp only [Qc, Qd, Qe]
 go_wp2
 refine Ql ?_
 refine Qs (by kernel_rfl) ?_
 skip
 obtain ⟨y0, y1, y2, y3, y4, y5, y6⟩ := Qt HX
 have yl := Qb.lt HX
 go_wp2
 refine bodyPost_ret (v := .tuple #[.agg #[.int .i64 G.on.y, .int .i64 G.on.m, .bool G.on.s, .int .i64 G.on.d, .bool G.i, .string G.w, .slice F G.l.length m], .bool true]) (by simp [results, Tryz.results44, go_sem, y0, y1, y2, y3, y4, y5, y6]) rfl ⟨EX, fun h => ?_, fun _ => ?_⟩
 ·rw [hok.out] at h
  cases h
 ·rw [← hG.out]
  exact ⟨F, m, rfl, hL⟩
end
section
def sA : ByteArray := ⟨#[97]⟩
def sB : ByteArray := ⟨#[98]⟩
def sC : ByteArray := ⟨#[99]⟩
def sU8 : ByteArray := ⟨#[117, 114]⟩
def X9 : ByteArray := ⟨#[98, 97, 114, 108, 101, 121]⟩
def yr8 : Nat → Yr
 | 0 => ⟨0, sA, 4095, 0⟩
 | 1 => ⟨0, sB, 4095, 0⟩
 | _ => ⟨0, sC, 4095, 0⟩
def Y3 : Qf := ⟨1, fun _ => sU8, 3, yr8⟩
def l8 : Ln := ⟨⟨60, 1⟩, ⟨1, 5⟩, ⟨0, 1, false, 1⟩⟩
def p8 : Nat → Z8 := fun _ => ⟨⟨0, 7, false, 1⟩, ⟨10, 1⟩⟩
def d8 : Dt := ⟨1, 7, false, 1⟩
def t8 : Nat → Tk
 | 0 => ⟨⟨10, 1⟩, ⟨1, 3⟩⟩
 | _ => ⟨⟨5, 1⟩, ⟨1, 1⟩⟩
def f8 : Dt := ⟨0, 1, false, 1⟩
def u8' : Dt := ⟨0, 1, false, 30⟩
def w8 : Nat → Cw := fun _ => ⟨2, ⟨1, 2⟩, f8, u8'⟩
def h8 : Yf := ⟨10, 2, 5⟩
def pd8 : Pd := ⟨sA, f8, u8', [⟨X9, 10⟩], [⟨⟨0, 1, false, 2⟩, true, sB, [⟨X9, 5⟩]⟩, ⟨⟨0, 1, false, 2⟩, false, sB, [⟨X9, 20⟩]⟩], []⟩
theorem e8_int : Z5 ⟨60, 1⟩ ⟨1, 5⟩ 180 = (⟨6, 1⟩, 0) := by kernel_rfl
theorem e8_dbl : X3 ⟨1, 3⟩ = (1080, 0) := by kernel_rfl
theorem Qbi : Y3.owedV l8 p8 1 d8 = (⟨⟨56, 1⟩, ⟨56, 5⟩, ⟨0, 1⟩⟩, 0) := by kernel_rfl
theorem Qbj : Y3.settleV l8 p8 1 d8 = (⟨336, 5⟩, 0) := by kernel_rfl
theorem e8_bal : Y3.balV t8 2 w8 1 = (⟨-5, 1⟩, 0) := by kernel_rfl
theorem e8_few : Y3.fewV t8 2 ⟨1, 2⟩ f8 u8' = (3, 0) := by kernel_rfl
theorem Qbh : W7 h8 ⟨4, 5⟩ ⟨1, 10⟩ 1 = (⟨12, 4, 7⟩, 0) := by kernel_rfl
theorem Qbg : Y3.closeV pd8 = ([⟨X9, -5⟩], 0) := by kernel_rfl
end
section
open Go Go.RowKit Go.Shelf
attribute [local go_sem] Zq
attribute [local go_sem high] Fw
theorem V6 {w : World} {b : Nat} {t : TypeId} {cs : Array Value} {n sz : Nat} {f : Nat → List Value} (h : Qb w b t cs) (hf : ∀ i j v, i < n → (f i)[j]? = some v → cs[i * sz + j]? = some v) : Qo w (some ⟨b, 0, none⟩) n sz f :=
 fun _ => ⟨b, 0, rfl, h.lt, fun i j v hi hv => by rw [Nat.zero_add, h.cell]; exact hf i j v hi hv⟩
theorem Wt (n d : Int) (w : World) :
  Calls Tryz.prog 25 #[.int .i64 n, .int .i64 d] w fun e w' => e = .returned (.agg #[.int .i64 n, .int .i64 d]) ∧ Qa w w' := by
 go_enter Tryz.func25, Tryz.ntmps25
 go_wp2
 refine bodyPost_ret (v := .agg #[.int .i64 n, .int .i64 d]) (by simp [results, Tryz.results25, go_sem]) rfl ⟨rfl, (by repeat (first | exact Qa.refl _ | (refine Qa.alloc ?_ _) | (refine Qa.trans ?_ (by assumption))))⟩
theorem Yw (y m d : Int) (w : World) :
  Calls Tryz.prog 24 #[.int .i64 y, .int .i64 m, .int .i64 d] w fun e w' => e = .returned (.agg #[.int .i64 y, .int .i64 m, .bool false, .int .i64 d]) ∧ Qa w w' := by
 go_enter Tryz.func24, Tryz.ntmps24
 go_wp2
 refine bodyPost_ret (v := .agg #[.int .i64 y, .int .i64 m, .bool false, .int .i64 d]) (by simp [results, Tryz.results24, go_sem]) rfl ⟨rfl, (by repeat (first | exact Qa.refl _ | (refine Qa.alloc ?_ _) | (refine Qa.trans ?_ (by assumption))))⟩
theorem Nl (s : ByteArray) (n : Int) (w : World) :
  Calls Tryz.prog 20 #[.string s, .int .i64 n] w fun e w' => ∃ b, e = .returned (.slice (some ⟨b, 0, none⟩) 1 1) ∧ Qa w w' ∧ Zt w' (.slice (some ⟨b, 0, none⟩) 1 1) [⟨s, n⟩] := by
 go_enter Tryz.func20, Tryz.ntmps20
 go_wp2
 go_ret
 refine ⟨w.heap.size, rfl, (by repeat (first | exact Qa.refl _ | (refine Qa.alloc ?_ _) | (refine Qa.trans ?_ (by assumption)))), some ⟨w.heap.size, 0, none⟩, 1, rfl, ?_, Nat.le_refl _, by decide, fun h => (by cases h)⟩
 refine V6 (t := 85) (cs := #[.string s, .int .i64 n]) (by repeat (first | (refine Qb.at _ _ _ _ ?_; (simp; done)) | refine Qb.alloc ?_ _)) ?_
 intro i j v hi hv
 obtain rfl : i = 0 := by simp at hi; omega
 have hj : j < 2 := (List.getElem?_eq_some_iff.1 hv).1
 rw [← hv]
 have : j = 0 ∨ j = 1 := by omega
 rcases this with rfl | rfl <;> rfl
theorem Qad (w : World) :
  Calls Tryz.prog 21 #[] w fun e w' => ∃ A A' ca cb, e = .returned (.agg #[.slice A 1 ca, .slice A' 3 cb]) ∧ Qa w w' ∧ Zg w' A ca A' cb Y3 := by
 go_enter Tryz.func21, Tryz.ntmps21
 go_wp2
 refine bodyPost_ret (v := .agg #[.slice (some ⟨w.heap.size + 1, 0, none⟩) 1 1, .slice (some ⟨w.heap.size + 1 + 1, 0, none⟩) 3 3]) (by simp [results, Tryz.results21, go_sem]) rfl ⟨_, _, _, _, rfl, (by repeat (first | exact Qa.refl _ | (refine Qa.alloc ?_ _) | (refine Qa.trans ?_ (by assumption)))), ⟨?_, ?_, by decide, by decide, by decide, by decide⟩⟩
 ·refine V6 (t := 9) (cs := #[.string sU8]) (by repeat (first | (refine Qb.at _ _ _ _ ?_; (simp; done)) | refine Qb.alloc ?_ _)) ?_
  intro i j v hi hv
  have hi : i < 1 := hi
  have hj : j < 1 := (List.getElem?_eq_some_iff.1 hv).1
  rw [← hv]
  obtain rfl : i = 0 := by omega
  obtain rfl : j = 0 := by omega
  rfl
 ·refine V6 (t := 148) (cs := #[.int .i64 0, .string sA, .int .i64 4095, .int .i64 0, .int .i64 0, .string sB, .int .i64 4095, .int .i64 0, .int .i64 0, .string sC, .int .i64 4095, .int .i64 0]) (by repeat (first | (refine Qb.at _ _ _ _ ?_; (simp; done)) | refine Qb.alloc ?_ _)) ?_
  intro i j v hi hv
  have hi : i < 3 := hi
  have hj : j < 4 := (List.getElem?_eq_some_iff.1 hv).1
  rw [← hv]
  have h1 : i = 0 ∨ i = 1 ∨ i = 2 := by omega
  have h2 : j = 0 ∨ j = 1 ∨ j = 2 ∨ j = 3 := by omega
  rcases h1 with rfl | rfl | rfl <;> rcases h2 with rfl | rfl | rfl | rfl <;> rfl
theorem Qcd {W : World} {b : Nat} {t : TypeId} {v0 v1 v2 v3 v4 v5 v6 v7 : Value} (h : Qb W b t #[v0, v1, v2, v3, v4, v5, v6, v7]) (u0 u1 u2 u3 u4 u5 u6 u7 : Value) : Qb ((((((((W.setCell ⟨b, 0, none⟩ u0).setCell ⟨b, 1, none⟩ u1).setCell ⟨b, 2, none⟩ u2).setCell ⟨b, 3, none⟩ u3).setCell ⟨b, 4, none⟩ u4).setCell ⟨b, 5, none⟩ u5).setCell ⟨b, 6, none⟩ u6).setCell ⟨b, 7, none⟩ u7) b t #[u0, u1, u2, u3, u4, u5, u6, u7] := by unfold Qb at h ⊢; simp [World.setCell, Array.getElem?_modify, h]
theorem ext8 {W0 W : World} {b : Nat} (h : Qa W0 W) (hb : W0.heap.size ≤ b) (u0 u1 u2 u3 u4 u5 u6 u7 : Value) : Qa W0 ((((((((W.setCell ⟨b, 0, none⟩ u0).setCell ⟨b, 1, none⟩ u1).setCell ⟨b, 2, none⟩ u2).setCell ⟨b, 3, none⟩ u3).setCell ⟨b, 4, none⟩ u4).setCell ⟨b, 5, none⟩ u5).setCell ⟨b, 6, none⟩ u6).setCell ⟨b, 7, none⟩ u7) :=
 (((((((h.setCell (p := ⟨b, 0, none⟩) hb u0).setCell (p := ⟨b, 1, none⟩) hb u1).setCell (p := ⟨b, 2, none⟩) hb u2).setCell (p := ⟨b, 3, none⟩) hb u3).setCell (p := ⟨b, 4, none⟩) hb u4).setCell (p := ⟨b, 5, none⟩) hb u5).setCell (p := ⟨b, 6, none⟩) hb u6).setCell (p := ⟨b, 7, none⟩) hb u7
theorem Qce {W : World} {b b' : Nat} {t : TypeId} {cs : Array Value} (h : Qb W b t cs) (hne : b ≠ b') (u0 u1 u2 u3 u4 u5 u6 u7 : Value) : Qb ((((((((W.setCell ⟨b', 0, none⟩ u0).setCell ⟨b', 1, none⟩ u1).setCell ⟨b', 2, none⟩ u2).setCell ⟨b', 3, none⟩ u3).setCell ⟨b', 4, none⟩ u4).setCell ⟨b', 5, none⟩ u5).setCell ⟨b', 6, none⟩ u6).setCell ⟨b', 7, none⟩ u7) b t cs :=
 Qi (Qi (Qi (Qi (Qi (Qi (Qi (Qi h hne 0 u0) hne 1 u1) hne 2 u2) hne 3 u3) hne 4 u4) hne 5 u5) hne 6 u6) hne 7 u7
theorem Qc5 (w : World) :
  Calls Tryz.prog 22 #[] w fun e w' => ∃ b, e = .returned (.tuple #[.agg #[.int .i64 60, .int .i64 1, .int .i64 1, .int .i64 5, .int .i64 0, .int .i64 1, .bool false, .int .i64 1], .slice (some ⟨b, 0, none⟩) 1 1]) ∧ Qa w w' ∧ Qo w' (some ⟨b, 0, none⟩) 1 6 (Ye p8) := by
 go_enter Tryz.func22, Tryz.ntmps22
 go_upto_region 1 with (fail)
 obtain ⟨v, hv⟩ := Qg (w.alloc (.cells #[.int .i64 0, .int .i64 0, .int .i64 0, .int .i64 0, .int .i64 0, .int .i64 0, .bool false, .int .i64 0] 67))
 rw [← hv]
 have E : Qa w v := by rw [hv]; exact (Qa.refl _).alloc _
 have B1 : Qb v w.heap.size 67 #[.int .i64 0, .int .i64 0, .int .i64 0, .int .i64 0, .int .i64 0, .int .i64 0, .bool false, .int .i64 0] := by rw [hv]; exact Qb.new _ _ _
 clear hv
 obtain ⟨b1, hb1⟩ := Qg (w.heap.size)
 rw [← hb1] at B1 ⊢
 have hbr : w.heap.size ≤ b1 := by omega
 clear hb1
 go_wp2_with (first | (go_at_call 25; (with_reducible refine Calls.mono (Wt 10 1 _) ?_); rintro e wa ⟨rfl, hx⟩; replace E := E.trans hx; replace B1 := B1.ext hx; clear hx; have BA := B1.alloc (.cells #[.int .i64 0, .int .i64 7, .bool false, .int .i64 1, .int .i64 10, .int .i64 1] 78); have z0 := BA.frozen 0; have z1 := BA.frozen 1; have z2 := BA.frozen 2; have z3 := BA.frozen 3; have z4 := BA.frozen 4; have z5 := BA.frozen 5; have z6 := BA.frozen 6; have z7 := BA.frozen 7; obtain ⟨x0, x1, x2, x3, x4, x5, x6, x7⟩ := BA.c8; have lx := BA.lt) | (go_at_call 25; (with_reducible refine Calls.mono (Wt _ _ _) ?_); rintro e wa ⟨rfl, hx⟩; replace E := E.trans hx; replace B1 := B1.ext hx; clear hx) | (go_at_call 24; (with_reducible refine Calls.mono (Yw _ _ _ _) ?_); rintro e wa ⟨rfl, hx⟩; replace E := E.trans hx; replace B1 := B1.ext hx; clear hx))
 have H8 := Qcd (B1.alloc (.cells #[.int .i64 0, .int .i64 7, .bool false, .int .i64 1, .int .i64 10, .int .i64 1] 78)) (.int .i64 60) (.int .i64 1) (.int .i64 1) (.int .i64 5) (.int .i64 0) (.int .i64 1) (.bool false) (.int .i64 1)
 have E8 := ext8 (E.alloc (.cells #[.int .i64 0, .int .i64 7, .bool false, .int .i64 1, .int .i64 10, .int .i64 1] 78)) hbr (.int .i64 60) (.int .i64 1) (.int .i64 1) (.int .i64 5) (.int .i64 0) (.int .i64 1) (.bool false) (.int .i64 1)
 have P8 := Qce (Qb.new wa 78 #[.int .i64 0, .int .i64 7, .bool false, .int .i64 1, .int .i64 10, .int .i64 1]) (show wa.heap.size ≠ b1 by have := B1.lt; omega) (.int .i64 60) (.int .i64 1) (.int .i64 1) (.int .i64 5) (.int .i64 0) (.int .i64 1) (.bool false) (.int .i64 1)
 obtain ⟨y0, y1, y2, y3, y4, y5, y6, y7⟩ := H8.c8
 refine bodyPost_ret (v := .tuple #[.agg #[.int .i64 60, .int .i64 1, .int .i64 1, .int .i64 5, .int .i64 0, .int .i64 1, .bool false, .int .i64 1], .slice (some ⟨wa.heap.size, 0, none⟩) 1 1]) (by simp [results, Tryz.results22, go_sem, y0, y1, y2, y3, y4, y5, y6, y7]) rfl ⟨_, rfl, E8, ?_⟩
 refine V6 P8 ?_
 intro i j v hi hv
 obtain rfl : i = 0 := by omega
 have hj : j < 6 := (List.getElem?_eq_some_iff.1 hv).1
 rw [← hv]
 have : j = 0 ∨ j = 1 ∨ j = 2 ∨ j = 3 ∨ j = 4 ∨ j = 5 := by omega
 rcases this with rfl | rfl | rfl | rfl | rfl | rfl <;> rfl
theorem C5 (v1 v2 : Value) (a b : List Lt) (w : World) (h1 : Zt w v1 a) (h2 : Zt w v2 b) :
  Calls Tryz.prog 29 #[v1, v2] w fun e w' => e = .returned (.bool (decide (a = b))) ∧ Qa w w' := by
 obtain ⟨A, ca, rfl, hA, hca, hca', _⟩ := h1
 obtain ⟨B, cb, rfl, hB, hcb, hcb', _⟩ := h2
 obtain ⟨R, hR0⟩ := Qg (decide (a = b))
 rw [← hR0]
 have HR := Lib.hid hR0
 clear hR0
 by_cases hn : a.length = b.length
 ·have HL := Lib.hid hn
  obtain ⟨n, hnl⟩ := Qg (a.length)
  rw [← hn] at hcb hB ⊢
  rw [← hnl] at hca hcb hA hB ⊢
  have h63 : n ≤ 9223372036854775807 := Nat.le_trans hca (Nat.le_trans hca' (by decide))
  replace hnl := Lib.hid hnl
  have hno : Hid (∀ k, k < n → Zm a k ≠ Zm b k → R = false) := fun k hk h => by
   rw [HR.out]; exact decide_eq_false fun e => h (by rw [e])
  have hyes : Hid ((∀ k, k < n → Zm a k = Zm b k) → R = true) := fun h => by
   rw [HR.out]
   refine decide_eq_true (List.ext_getElem HL.out fun i h1 h2 => ?_)
   have := h i (by rw [hnl.out]; exact h1)
   rwa [L8 h1, L8 h2] at this
  clear HR HL hn hnl hca' hcb' hca hcb
  generalize Zm a = f at *
  generalize Zm b = g at *
  go_enter Tryz.func29, Tryz.ntmps29
  go_wp2
  go_loopw [5] (fun i wr => ∃ k : Nat, k ≤ n ∧ i = .int .i64 k ∧ Hid (∀ j, j < k → f j = g j) ∧ Qa w wr) (fun i _ => n - (intOf i).toNat)
  case atStart => exact ⟨0, Nat.zero_le _, rfl, (fun i hi => absurd hi (by omega)), Qa.refl _⟩
  case round =>
   obtain ⟨k, hk, rfl, hp, hE⟩ := hrel
   obtain ⟨wo, rfl⟩ := Qg wr
   by_cases hlt : k < n
   ·obtain ⟨b1, o1, rfl, hb, hc⟩ := (hA.ext hE) (by omega)
    obtain ⟨b2, o2, rfl, hb', hd⟩ := (hB.ext hE) (by omega)
    have c0 : wo.cell? ⟨b1, o1 + k * 2, none⟩ = some (.string (f k).g) := by simpa [Zl] using hc k 0 _ hlt rfl
    have c1 : wo.cell? ⟨b1, o1 + k * 2 + 1, none⟩ = some (.int .i64 (f k).n) := by simpa [Zl] using hc k 1 _ hlt rfl
    have d0 : wo.cell? ⟨b2, o2 + k * 2, none⟩ = some (.string (g k).g) := by simpa [Zl] using hd k 0 _ hlt rfl
    have d1 : wo.cell? ⟨b2, o2 + k * 2 + 1, none⟩ = some (.int .i64 (g k).n) := by simpa [Zl] using hd k 1 _ hlt rfl
    have hq : Hid ((((f k).g.toList == (g k).g.toList) && ((f k).n == (g k).n)) = decide (f k = g k)) := by
     unfold Hid
     rw [← Ov, Bool.eq_iff_iff]
     simp only [Bool.and_eq_true, decide_eq_true_eq, beq_iff_eq]
     constructor
     ·rintro ⟨e1, e2⟩
      cases hf : f k; cases hg : g k
      rw [hf, hg] at e1 e2
      simp_all
     ·intro e; rw [e]; exact ⟨rfl, rfl⟩
    have hs : Hid (f k = g k → ∀ j, j < k + 1 → f j = g j) := fun e j hj => by
     by_cases h : j = k
     ·subst h; exact e
     ·exact hp.out j (by omega)
    have hnk := Lib.hid (hno.out k hlt)
    clear hc hd hA hB hp
    generalize f k = x at *
    generalize g k = y at *
    go_upto_region 6 with (fail)
    clear hno hyes
    generalize hg1 : (x.g.toList == y.g.toList) = e1 at *
    generalize hg2 : (x.n == y.n) = e2 at *
    by_cases hxy : x = y
    ·obtain ⟨rfl, rfl⟩ : e1 = true ∧ e2 = true := by
      have h := hq.out
      rw [decide_eq_true hxy] at h
      simpa using h
     have hp' := Lib.hid (hs.out hxy)
     clear hs hq hnk hxy
     refine Zb wo Qq (by kernel_rfl) (by repeat (first | exact Qa.refl _ | (refine Qa.alloc ?_ _) | (refine Qa.trans ?_ (by assumption)))) ?_
     intro hne hrx hry
     try simp only []
     try simp only [List.append_eq, List.cons_append, List.nil_append]
     skip
     repeat (first
      | go_big_quiet_skip
      | (go_big_quiet_want; go_big_quiet_op; go_big_quiet_on))
     clear hne hry hrx
     refine wpQuiet_nil ?_
     intro wn hwn
     obtain ⟨hcwn, hfwn, hzwn⟩ := Qa.rules hwn
     try simp only [World.size_alloc] at hzwn
     obtain ⟨hcbwn, hfbwn, hzbwn⟩ := Qa.rules (show Qa wo wn from (by repeat (first | exact Qa.refl _ | (refine Qa.alloc ?_ _) | (refine Qa.trans ?_ (by assumption)))))
     clear hcwn hfwn
     go_wp2
     exact ⟨⟨k + 1, by omega, by go_num, hp', hE.trans hwn⟩, by simp [intOf]; omega⟩
    ·have hr := hnk.out hxy
     have h : e1 = false ∨ (e1 = true ∧ e2 = false) := by
      have h := hq.out
      rw [decide_eq_false hxy] at h
      cases e1 <;> simp_all
     clear hs hq hnk hxy
     rcases h with rfl | ⟨rfl, rfl⟩
     ·skip
      refine Zb wo Qq (by kernel_rfl) (by repeat (first | exact Qa.refl _ | (refine Qa.alloc ?_ _) | (refine Qa.trans ?_ (by assumption)))) ?_
      intro hne hrx hry
      try simp only []
      try simp only [List.append_eq, List.cons_append, List.nil_append]
      skip
      repeat (first
       | go_big_quiet_skip
       | (go_big_quiet_want; go_big_quiet_op; go_big_quiet_on))
      clear hne hry hrx
      refine wpQuiet_nil ?_
      intro wn hwn
      obtain ⟨hcwn, hfwn, hzwn⟩ := Qa.rules hwn
      try simp only [World.size_alloc] at hzwn
      obtain ⟨hcbwn, hfbwn, hzbwn⟩ := Qa.rules (show Qa wo wn from (by repeat (first | exact Qa.refl _ | (refine Qa.alloc ?_ _) | (refine Qa.trans ?_ (by assumption)))))
      clear hcwn hfwn
      go_wp2
      go_ret
      exact ⟨by rw [hr]; rfl, hE.trans hwn⟩
     ·skip
      refine Zb wo Qq (by kernel_rfl) (by repeat (first | exact Qa.refl _ | (refine Qa.alloc ?_ _) | (refine Qa.trans ?_ (by assumption)))) ?_
      intro hne hrx hry
      try simp only []
      try simp only [List.append_eq, List.cons_append, List.nil_append]
      skip
      repeat (first
       | go_big_quiet_skip
       | (go_big_quiet_want; go_big_quiet_op; go_big_quiet_on))
      clear hne hry hrx
      refine wpQuiet_nil ?_
      intro wn hwn
      obtain ⟨hcwn, hfwn, hzwn⟩ := Qa.rules hwn
      try simp only [World.size_alloc] at hzwn
      obtain ⟨hcbwn, hfbwn, hzbwn⟩ := Qa.rules (show Qa wo wn from (by repeat (first | exact Qa.refl _ | (refine Qa.alloc ?_ _) | (refine Qa.trans ?_ (by assumption)))))
      clear hcwn hfwn
      go_wp2
      go_ret
      exact ⟨by rw [hr]; rfl, hE.trans hwn⟩
   ·obtain rfl : k = n := by omega
    have hr := hyes.out hp.out
    clear hyes hno
    go_wp2
    go_ret
    exact ⟨by rw [hr]; rfl, hE⟩
 ·have hne : ((a.length : Int) == (b.length : Int)) = false := beq_eq_false_iff_ne.2 (by omega)
  have hnn : ((a.length : Int) != (b.length : Int)) = true := by rw [bne, hne]; rfl
  have hr : R = false := by rw [HR.out]; exact decide_eq_false fun e => hn (by rw [e])
  clear hn HR
  go_enter Tryz.func29, Tryz.ntmps29
  go_wp2
  go_ret
  exact ⟨by rw [hr]; rfl, Qa.refl _⟩
end
section
open Go Go.RowKit
theorem Qbq (w : World) (x0 y0 : Int) (x1 y1 : Int) : (Op.equalIn 10000 33 (.agg #[.int .i64 x0, .int .i64 x1]) (.agg #[.int .i64 y0, .int .i64 y1])).run Tryz.prog w = .ok ((x0 == y0) && (x1 == y1)) w := by
 go_simp
 by_cases h0 : x0 = y0
 rotate_left
 ·simp [h0]
 by_cases h1 : x1 = y1
 rotate_left
 ·simp [h1]
 simp [h0, h1]
theorem Qbs (w : World) (x0 y0 : Int) (x1 y1 : Int) : (binOp .eql 33 (.agg #[.int .i64 x0, .int .i64 x1]) (.agg #[.int .i64 y0, .int .i64 y1])).run Tryz.prog w = .ok (.bool ((x0 == y0) && (x1 == y1))) w := by rw [run_eql_struct, Qbq]; rfl
end
section
open Go Go.RowKit Go.Shelf
attribute [local go_sem] Zq
attribute [local go_sem high] Qbs
def Kr (m : Mr) : List Value := [.int .i64 m.1.1, .int .i64 m.1.2, .int .i64 m.2.1, .int .i64 m.2.2]
/-- The deal that the law finds: none is a zero deal. -/
def Y5 (l : List Pd) (r : Int × Int) : Dl := if Jp l r = true then Qw l (Zk r) else Zn
theorem Pc (l : List Pd) (vl : Value) (r : Int × Int) (w : World) (hP : Yo w vl l) : Calls Tryz.prog 44 #[vl, .agg #[.int .i64 r.1, .int .i64 r.2]] w fun e w' => ∃ F m, e = .returned (.tuple #[.agg #[.int .i64 (Y5 l r).on.y, .int .i64 (Y5 l r).on.m, .bool (Y5 l r).on.s, .int .i64 (Y5 l r).on.d, .bool (Y5 l r).i, .string (Y5 l r).w, .slice F (Y5 l r).l.length m], .bool (Jp l r)]) ∧ Qa w w' ∧ Zt w (.slice F (Y5 l r).l.length m) (Y5 l r).l := by
 refine Calls.mono (Qa7 l vl r w hP) ?_
 rintro e w' ⟨x, h0, h1⟩
 unfold Y5
 cases hr : Jp l r
 ·rw [if_neg (by simp)]
  exact ⟨none, 0, h0 hr, x, Ly w⟩
 ·rw [if_pos rfl]
  obtain ⟨F, m, e1, e2⟩ := h1 hr
  exact ⟨F, m, e1, x, e2⟩
theorem Qe2 {c : Qf} {l : List Pd} {days : Int} {M : List Mr} {i : Nat} (hi : i < M.length) (h : (c.pairB l days (M.getD i Zp) && Wp M i) = false) : c.pairsB l days M = false := by
 unfold Qf.pairsB
 rw [List.all_eq_false]
 exact ⟨i, by simpa using hi, by rw [h]; decide⟩
theorem Qe3 {c : Qf} {l : List Pd} {days : Int} {M : List Mr} (h : ∀ i, i < M.length → (c.pairB l days (M.getD i Zp) && Wp M i) = true) : c.pairsB l days M = true := by
 unfold Qf.pairsB
 rw [List.all_eq_true]
 exact fun i hi => h i (by simpa using hi)
theorem Cc (A A' : Option Addr) (ca cb : Nat) (c : Qf) (l : List Pd) (vl : Value) (days : Int) (M : List Mr) (V : Option Addr) (cM : Nat) (w : World) (hC : Zg w A ca A' cb c) (hP : Yo w vl l) (hM : Qo w V M.length 4 (fun i => Kr (M.getD i Zp))) (hMb : M.length ≤ 9223372036854775807) :
  Calls Tryz.prog 13 #[.agg #[.slice A c.nk ca, .slice A' c.ny cb], vl, .slice V M.length cM, .int .i64 days] w fun e w' => e = .returned (.bool (c.pairsB l days M)) ∧ Qa w w' := by
 obtain ⟨R, hR⟩ := Qg (c.pairsB l days M)
 rw [← hR]
 have hno : Hid (∀ i, i < M.length → (c.pairB l days (M.getD i Zp) && Wp M i) = false → R = false) := fun i hi h => hR.trans (Qe2 hi h)
 have hyes : Hid ((∀ i, i < M.length → (c.pairB l days (M.getD i Zp) && Wp M i) = true) → R = true) := fun h => hR.trans (Qe3 h)
 clear hR
 go_enter Tryz.func13, Tryz.ntmps13
 go_upto_region 1 with (fail)
 obtain ⟨v, hv⟩ := Qg (w.alloc (.cells #[.slice A c.nk ca, .slice A' c.ny cb] 25))
 rw [← hv]
 have E : Qa w v := by rw [hv]; exact (Qa.refl _).alloc _
 have B1 : Qb v w.heap.size 25 #[.slice A c.nk ca, .slice A' c.ny cb] := by rw [hv]; exact (Qb.new _ _ _)
 clear hv
 obtain ⟨b1, hb1⟩ := Qg (w.heap.size)
 rw [← hb1] at B1 ⊢
 have hbr : w.heap.size ≤ b1 := by omega
 clear hb1
 obtain ⟨D, cap, vo, vd, vc, rfl, hD, _⟩ := id hP
 have C := hC.ext E
 have P := hP.ext E
 have Mr0 := hM.ext E
 clear hC hP hM
 go_upto_region 2 with (fail)
 go_loopw [9] (fun iv wr => ∃ i : Nat, i ≤ M.length ∧ iv = .int .i64 i ∧ Qa v wr ∧ Hid (∀ j, j < i → (c.pairB l days (M.getD j Zp) && Wp M j) = true)) (fun iv _ => M.length - (intOf iv).toNat)
 case atStart => exact ⟨0, Nat.zero_le _, rfl, Qa.refl _, Lib.hid fun j h => absurd h (by omega)⟩
 case round =>
  obtain ⟨i, hi, rfl, hE, hall⟩ := hrel
  obtain ⟨wo, rfl⟩ := Qg wr
  by_cases hlt : i < M.length
  rotate_left
  ·obtain rfl : i = M.length := by omega
   obtain rfl : R = true := hyes.out hall.out
   clear hno hyes
   go_wp2
   go_ret
   exact ⟨rfl, E.trans hE⟩
  obtain ⟨bm, om, rfl, hbm, hcm⟩ := (Mr0.ext hE) (by omega)
  obtain ⟨m, hm⟩ := Qg (M.getD i Zp)
  have m0 : wo.cell? ⟨bm, om + i * 4, none⟩ = some (.int .i64 m.1.1) := by
   have := hcm i 0 (.int .i64 (M.getD i Zp).1.1) hlt rfl
   rw [← hm] at this
   exact this
  have m1 : wo.cell? ⟨bm, om + i * 4 + 1, none⟩ = some (.int .i64 m.1.2) := by
   have := hcm i 1 (.int .i64 (M.getD i Zp).1.2) hlt rfl
   rw [← hm] at this
   exact this
  have m2 : wo.cell? ⟨bm, om + i * 4 + 2, none⟩ = some (.int .i64 m.2.1) := by
   have := hcm i 2 (.int .i64 (M.getD i Zp).2.1) hlt rfl
   rw [← hm] at this
   exact this
  have m3 : wo.cell? ⟨bm, om + i * 4 + 3, none⟩ = some (.int .i64 m.2.2) := by
   have := hcm i 3 (.int .i64 (M.getD i Zp).2.2) hlt rfl
   rw [← hm] at this
   exact this
  clear hcm
  replace hm := Lib.hid hm
  have P2 := P.ext hE
  go_upto_region 5 with (go_at_call 44; (with_reducible refine Calls.mono (Pc l _ m.1 _ P2) ?_); rintro e w3 ⟨F1, c1, rfl, x3, L1⟩)
  obtain ⟨G1, hG1⟩ := Qg (Y5 l m.1)
  rw [← hG1] at L1 ⊢
  replace hG1 := Lib.hid hG1
  obtain ⟨w4, hw4⟩ := Qg (w3.alloc (.cells #[.int .i64 G1.on.y, .int .i64 G1.on.m, .bool G1.on.s, .int .i64 G1.on.d, .bool G1.i, .string G1.w, .slice F1 G1.l.length c1] 57))
  rw [← hw4]
  have x4 : Qa w3 w4 := by rw [hw4]; exact (Qa.refl _).alloc _
  have B10 : Qb w4 w3.heap.size 57 #[.int .i64 G1.on.y, .int .i64 G1.on.m, .bool G1.on.s, .int .i64 G1.on.d, .bool G1.i, .string G1.w, .slice F1 G1.l.length c1] := by rw [hw4]; exact Qb.new _ _ _
  generalize w3.heap.size = b10 at *
  replace x4 := x3.trans x4
  clear hw4 x3
  have n0 := (x4.cell (p := ⟨bm, om + i * 4, none⟩) hbm).trans m0
  have n1 := (x4.cell (p := ⟨bm, om + i * 4 + 1, none⟩) hbm).trans m1
  have n2 := (x4.cell (p := ⟨bm, om + i * 4 + 2, none⟩) hbm).trans m2
  have n3 := (x4.cell (p := ⟨bm, om + i * 4 + 3, none⟩) hbm).trans m3
  have hbm4 := Nat.lt_of_lt_of_le hbm x4.size
  go_upto_region 6 with (go_at_call 44; (with_reducible refine Calls.mono (Pc l _ m.2 _ (P2.ext x4)) ?_); rintro e w5 ⟨F2, c2, rfl, x5, L2⟩)
  obtain ⟨G2, hG2⟩ := Qg (Y5 l m.2)
  rw [← hG2] at L2 ⊢
  replace hG2 := Lib.hid hG2
  obtain ⟨w6, hw6⟩ := Qg (w5.alloc (.cells #[.int .i64 G2.on.y, .int .i64 G2.on.m, .bool G2.on.s, .int .i64 G2.on.d, .bool G2.i, .string G2.w, .slice F2 G2.l.length c2] 57))
  rw [← hw6]
  have x6 : Qa w5 w6 := by rw [hw6]; exact (Qa.refl _).alloc _
  have B12 : Qb w6 w5.heap.size 57 #[.int .i64 G2.on.y, .int .i64 G2.on.m, .bool G2.on.s, .int .i64 G2.on.d, .bool G2.i, .string G2.w, .slice F2 G2.l.length c2] := by rw [hw6]; exact Qb.new _ _ _
  generalize w5.heap.size = b12 at *
  replace x6 := x5.trans x6
  replace B10 := B10.ext x6
  have X6 := x4.trans x6
  replace L1 := L1.ext X6
  replace L2 := L2.ext x6
  clear hw6 x5 n0 n1 n2 n3 hbm4 x4 x6
  have n0 := (X6.cell (p := ⟨bm, om + i * 4, none⟩) hbm).trans m0
  have n1 := (X6.cell (p := ⟨bm, om + i * 4 + 1, none⟩) hbm).trans m1
  have n2 := (X6.cell (p := ⟨bm, om + i * 4 + 2, none⟩) hbm).trans m2
  have n3 := (X6.cell (p := ⟨bm, om + i * 4 + 3, none⟩) hbm).trans m3
  have hbm6 := Nat.lt_of_lt_of_le hbm X6.size
  clear m0 m1 m2 m3 hbm
  obtain ⟨u0, u1, u2, u3, u4, u5, u6⟩ := Qt B10
  have ul := Qb.lt B10
  obtain ⟨y0, y1, y2, y3, y4, y5, y6⟩ := Qt B12
  have yl := Qb.lt B12
  cases a1 : Jp l m.1
  ·obtain rfl : R = false := hno.out i hlt (by rw [← hm.out]; unfold Qf.pairB; rw [a1]; rfl)
   clear hno hyes
   refine Zb w6 Qq (by kernel_rfl) (by repeat (first | exact Qa.refl _ | (refine Qa.alloc ?_ _) | (refine Qa.trans ?_ (by assumption)))) ?_
   intro hne hrx hry
   try simp only []
   try simp only [List.append_eq, List.cons_append, List.nil_append]
   skip
   repeat (first
    | go_big_quiet_skip
    | (go_big_quiet_want; go_big_quiet_op; go_big_quiet_on))
   clear hne hry hrx
   refine wpQuiet_nil ?_
   intro wx hx
   obtain ⟨hcwx, hfwx, hzwx⟩ := Qa.rules hx
   try simp only [World.size_alloc] at hzwx
   obtain ⟨hcbwx, hfbwx, hzbwx⟩ := Qa.rules (show Qa w6 wx from (by repeat (first | exact Qa.refl _ | (refine Qa.alloc ?_ _) | (refine Qa.trans ?_ (by assumption)))))
   clear hcwx hfwx
   go_wp2
   go_ret
   exact ⟨rfl, E.trans (hE.trans (X6.trans hx))⟩
  cases a2 : Jp l m.2
  ·obtain rfl : R = false := hno.out i hlt (by rw [← hm.out]; unfold Qf.pairB; rw [a1, a2]; rfl)
   clear hno hyes
   refine Zb w6 Qq (by kernel_rfl) (by repeat (first | exact Qa.refl _ | (refine Qa.alloc ?_ _) | (refine Qa.trans ?_ (by assumption)))) ?_
   intro hne hrx hry
   try simp only []
   try simp only [List.append_eq, List.cons_append, List.nil_append]
   skip
   repeat (first
    | go_big_quiet_skip
    | (go_big_quiet_want; go_big_quiet_op; go_big_quiet_on))
   clear hne hry hrx
   refine wpQuiet_nil ?_
   intro wx hx
   obtain ⟨hcwx, hfwx, hzwx⟩ := Qa.rules hx
   try simp only [World.size_alloc] at hzwx
   obtain ⟨hcbwx, hfbwx, hzbwx⟩ := Qa.rules (show Qa w6 wx from (by repeat (first | exact Qa.refl _ | (refine Qa.alloc ?_ _) | (refine Qa.trans ?_ (by assumption)))))
   clear hcwx hfwx
   go_wp2
   go_ret
   exact ⟨rfl, E.trans (hE.trans (X6.trans hx))⟩
  have q1 : Y5 l m.1 = Qw l (Zk m.1) := by unfold Y5; rw [if_pos a1]
  have q2 : Y5 l m.2 = Qw l (Zk m.2) := by unfold Y5; rw [if_pos a2]
  have hpb : c.pairB l days m = (!G1.i && G2.i && decide (G1.w = (l.getD m.2.1.toNat Q3).h) && decide (G2.w = (l.getD m.1.1.toNat Q3).h) && !decide ((l.getD m.1.1.toNat Q3).h = (l.getD m.2.1.toNat Q3).h) && decide (G1.l = G2.l) && decide (c.in2E G1.on G2.on = 0) && decide (0 ≤ c.betV G1.on G2.on) && decide (c.betV G1.on G2.on ≤ days)) := by
   unfold Qf.pairB
   rw [a1, a2, hG1.out, hG2.out, q1, q2]
   simp only [Bool.true_and]
  replace hpb := Lib.hid hpb
  clear q1 q2
  have hno2 : Hid (Wp M i = false → R = false) := Lib.hid fun h => hno.out i hlt (by rw [h, Bool.and_false])
  replace hno : Hid (c.pairB l days m = false → R = false) := Lib.hid fun h => hno.out i hlt (by rw [← hm.out, h]; rfl)
  cases a3 : G1.i
  rotate_left
  ·obtain rfl : R = false := hno.out (by rw [hpb.out, a3]; rfl)
   rw [a3] at u4
   clear hno hyes
   refine Zb w6 Qq (by kernel_rfl) (by repeat (first | exact Qa.refl _ | (refine Qa.alloc ?_ _) | (refine Qa.trans ?_ (by assumption)))) ?_
   intro hne hrx hry
   try simp only []
   try simp only [List.append_eq, List.cons_append, List.nil_append]
   skip
   repeat (first
    | go_big_quiet_skip
    | (go_big_quiet_want; go_big_quiet_op; go_big_quiet_on))
   clear hne hry hrx
   refine wpQuiet_nil ?_
   intro wx hx
   obtain ⟨hcwx, hfwx, hzwx⟩ := Qa.rules hx
   try simp only [World.size_alloc] at hzwx
   obtain ⟨hcbwx, hfbwx, hzbwx⟩ := Qa.rules (show Qa w6 wx from (by repeat (first | exact Qa.refl _ | (refine Qa.alloc ?_ _) | (refine Qa.trans ?_ (by assumption)))))
   clear hcwx hfwx
   go_wp2
   go_ret
   exact ⟨rfl, E.trans (hE.trans (X6.trans hx))⟩
  rw [a3] at u4
  cases a4 : G2.i
  ·obtain rfl : R = false := hno.out (by rw [hpb.out, a3, a4]; rfl)
   rw [a4] at y4
   clear hno hyes
   refine Zb w6 Qq (by kernel_rfl) (by repeat (first | exact Qa.refl _ | (refine Qa.alloc ?_ _) | (refine Qa.trans ?_ (by assumption)))) ?_
   intro hne hrx hry
   try simp only []
   try simp only [List.append_eq, List.cons_append, List.nil_append]
   skip
   repeat (first
    | go_big_quiet_skip
    | (go_big_quiet_want; go_big_quiet_op; go_big_quiet_on))
   clear hne hry hrx
   refine wpQuiet_nil ?_
   intro wx hx
   obtain ⟨hcwx, hfwx, hzwx⟩ := Qa.rules hx
   try simp only [World.size_alloc] at hzwx
   obtain ⟨hcbwx, hfbwx, hzbwx⟩ := Qa.rules (show Qa w6 wx from (by repeat (first | exact Qa.refl _ | (refine Qa.alloc ?_ _) | (refine Qa.trans ?_ (by assumption)))))
   clear hcwx hfwx
   go_wp2
   go_ret
   exact ⟨rfl, E.trans (hE.trans (X6.trans hx))⟩
  rw [a4] at y4
  have a1' := a1
  have a2' := a2
  unfold Jp at a1' a2'
  simp only [Bool.and_eq_true, decide_eq_true_eq] at a1' a2'
  obtain ⟨⟨i1, i2⟩, _⟩ := a1'
  obtain ⟨⟨i3, i4⟩, _⟩ := a2'
  obtain ⟨p1, hp1⟩ : ∃ p : Nat, m.1.1 = p := ⟨_, (Int.toNat_of_nonneg i1).symm⟩
  obtain ⟨p2, hp2⟩ : ∃ p : Nat, m.2.1 = p := ⟨_, (Int.toNat_of_nonneg i3).symm⟩
  have l1 : p1 < l.length := by omega
  have l2 : p2 < l.length := by omega
  rw [hp1] at n0
  rw [hp2] at n2
  replace hpb := hpb.out
  simp only [hp1, hp2, Int.toNat_natCast] at hpb
  replace hp1 := Lib.hid hp1
  replace hp2 := Lib.hid hp2
  clear i1 i2 i3 i4
  obtain ⟨bp, op, rfl, hbp, hcp⟩ := (hD.ext (E.trans (hE.trans X6))) (by omega)
  have s1 : w6.cell? ⟨bp, op + p1 * 12, none⟩ = some (.string (l.getD p1 Q3).h) := by simpa [Z6] using hcp p1 0 _ l1 rfl
  have s2 : w6.cell? ⟨bp, op + p2 * 12, none⟩ = some (.string (l.getD p2 Q3).h) := by simpa [Z6] using hcp p2 0 _ l2 rfl
  clear hcp
  obtain ⟨N1, hN1⟩ := Qg ((l.getD p1 Q3).h)
  obtain ⟨N2, hN2⟩ := Qg ((l.getD p2 Q3).h)
  rw [← hN1] at s1
  rw [← hN2] at s2
  simp only [← hN1, ← hN2] at hpb
  replace hpb := Lib.hid hpb
  clear hN1 hN2
  by_cases g5 : G1.w = N2
  rotate_left
  ·have t5 : (G1.w.toList == N2.toList) = false := beq_eq_false_iff_ne.2 fun h => g5 (K6 h)
   have t5n : (G1.w.toList != N2.toList) = true := by rw [bne, t5]; rfl
   obtain rfl : R = false := hno.out (by rw [hpb.out, a3, a4, decide_eq_false g5]; rfl)
   clear g5
   clear hno hyes
   refine Zb w6 Qq (by kernel_rfl) (by repeat (first | exact Qa.refl _ | (refine Qa.alloc ?_ _) | (refine Qa.trans ?_ (by assumption)))) ?_
   intro hne hrx hry
   try simp only []
   try simp only [List.append_eq, List.cons_append, List.nil_append]
   skip
   repeat (first
    | go_big_quiet_skip
    | (go_big_quiet_want; go_big_quiet_op; go_big_quiet_on))
   clear hne hry hrx
   refine wpQuiet_nil ?_
   intro wx hx
   obtain ⟨hcwx, hfwx, hzwx⟩ := Qa.rules hx
   try simp only [World.size_alloc] at hzwx
   obtain ⟨hcbwx, hfbwx, hzbwx⟩ := Qa.rules (show Qa w6 wx from (by repeat (first | exact Qa.refl _ | (refine Qa.alloc ?_ _) | (refine Qa.trans ?_ (by assumption)))))
   clear hcwx hfwx
   go_wp2
   go_ret
   exact ⟨rfl, E.trans (hE.trans (X6.trans hx))⟩
  have t5 : (G1.w.toList == N2.toList) = true := by rw [g5]; exact beq_self_eq_true _
  have t5n : (G1.w.toList != N2.toList) = false := by rw [bne, t5]; rfl
  replace g5 := Lib.hid g5
  by_cases g6 : G2.w = N1
  rotate_left
  ·have t6 : (G2.w.toList == N1.toList) = false := beq_eq_false_iff_ne.2 fun h => g6 (K6 h)
   have t6n : (G2.w.toList != N1.toList) = true := by rw [bne, t6]; rfl
   obtain rfl : R = false := hno.out (by rw [hpb.out, a3, a4, decide_eq_true g5.out, decide_eq_false g6]; rfl)
   clear g6
   clear hno hyes
   refine Zb w6 Qq (by kernel_rfl) (by repeat (first | exact Qa.refl _ | (refine Qa.alloc ?_ _) | (refine Qa.trans ?_ (by assumption)))) ?_
   intro hne hrx hry
   try simp only []
   try simp only [List.append_eq, List.cons_append, List.nil_append]
   skip
   repeat (first
    | go_big_quiet_skip
    | (go_big_quiet_want; go_big_quiet_op; go_big_quiet_on))
   clear hne hry hrx
   refine wpQuiet_nil ?_
   intro wx hx
   obtain ⟨hcwx, hfwx, hzwx⟩ := Qa.rules hx
   try simp only [World.size_alloc] at hzwx
   obtain ⟨hcbwx, hfbwx, hzbwx⟩ := Qa.rules (show Qa w6 wx from (by repeat (first | exact Qa.refl _ | (refine Qa.alloc ?_ _) | (refine Qa.trans ?_ (by assumption)))))
   clear hcwx hfwx
   go_wp2
   go_ret
   exact ⟨rfl, E.trans (hE.trans (X6.trans hx))⟩
  have t6 : (G2.w.toList == N1.toList) = true := by rw [g6]; exact beq_self_eq_true _
  have t6n : (G2.w.toList != N1.toList) = false := by rw [bne, t6]; rfl
  replace g6 := Lib.hid g6
  by_cases g7 : N1 = N2
  ·have t7 : (N1.toList == N2.toList) = true := by rw [g7]; exact beq_self_eq_true _
   obtain rfl : R = false := hno.out (by rw [hpb.out, a3, a4, decide_eq_true g5.out, decide_eq_true g6.out, decide_eq_true g7]; rfl)
   clear g7
   clear hno hyes
   refine Zb w6 Qq (by kernel_rfl) (by repeat (first | exact Qa.refl _ | (refine Qa.alloc ?_ _) | (refine Qa.trans ?_ (by assumption)))) ?_
   intro hne hrx hry
   try simp only []
   try simp only [List.append_eq, List.cons_append, List.nil_append]
   skip
   repeat (first
    | go_big_quiet_skip
    | (go_big_quiet_want; go_big_quiet_op; go_big_quiet_on))
   clear hne hry hrx
   refine wpQuiet_nil ?_
   intro wx hx
   obtain ⟨hcwx, hfwx, hzwx⟩ := Qa.rules hx
   try simp only [World.size_alloc] at hzwx
   obtain ⟨hcbwx, hfbwx, hzbwx⟩ := Qa.rules (show Qa w6 wx from (by repeat (first | exact Qa.refl _ | (refine Qa.alloc ?_ _) | (refine Qa.trans ?_ (by assumption)))))
   clear hcwx hfwx
   go_wp2
   go_ret
   exact ⟨rfl, E.trans (hE.trans (X6.trans hx))⟩
  have t7 : (N1.toList == N2.toList) = false := beq_eq_false_iff_ne.2 fun h => g7 (K6 h)
  replace g7 := Lib.hid g7
  have NS := fun w h1 h2 => C5 (.slice F1 G1.l.length c1) (.slice F2 G2.l.length c2) G1.l G2.l w h1 h2
  by_cases g8 : G1.l = G2.l
  rotate_left
  ·have q8 : decide (G1.l = G2.l) = false := decide_eq_false g8
   obtain rfl : R = false := hno.out (by rw [hpb.out, a3, a4, decide_eq_true g5.out, decide_eq_true g6.out, decide_eq_false g7.out, q8]; rfl)
   simp only [eq_false g8, decide_false] at NS
   clear g8
   clear hno hyes
   refine Zb w6 Qq (by kernel_rfl) (by repeat (first | exact Qa.refl _ | (refine Qa.alloc ?_ _) | (refine Qa.trans ?_ (by assumption)))) ?_
   intro hne hrx hry
   try simp only []
   try simp only [List.append_eq, List.cons_append, List.nil_append]
   skip
   repeat (first
    | go_big_quiet_skip
    | (go_big_quiet_want; go_big_quiet_op; go_big_quiet_on)
    | (go_big_quiet_want; go_big_quiet_op; apply Exists.intro; refine ⟨fun u => ?_, ?_⟩
       ·first
         | (go_at_call 29; (with_reducible refine Calls.mono (NS _ (L1.ext u.e) (L2.ext u.e)) ?_); rintro e w' ⟨rfl, hb⟩; exact ⟨rfl, u.back hb⟩)
       go_big_quiet_on))
   clear hne hry hrx
   refine wpQuiet_nil ?_
   intro wx hx
   obtain ⟨hcwx, hfwx, hzwx⟩ := Qa.rules hx
   try simp only [World.size_alloc] at hzwx
   obtain ⟨hcbwx, hfbwx, hzbwx⟩ := Qa.rules (show Qa w6 wx from (by repeat (first | exact Qa.refl _ | (refine Qa.alloc ?_ _) | (refine Qa.trans ?_ (by assumption)))))
   clear hcwx hfwx
   go_wp2
   go_ret
   exact ⟨rfl, E.trans (hE.trans (X6.trans hx))⟩
  have q8 : decide (G1.l = G2.l) = true := decide_eq_true g8
  simp only [eq_true g8, decide_true] at NS
  clear g8
  refine Zb w6 Qq (by kernel_rfl) (by repeat (first | exact Qa.refl _ | (refine Qa.alloc ?_ _) | (refine Qa.trans ?_ (by assumption)))) ?_
  intro hne hrx hry
  try simp only []
  try simp only [List.append_eq, List.cons_append, List.nil_append]
  skip
  repeat (first
   | go_big_quiet_skip
   | (go_big_quiet_want; go_big_quiet_op; go_big_quiet_on)
   | (go_big_quiet_want; go_big_quiet_op; apply Exists.intro; refine ⟨fun u => ?_, ?_⟩
      ·first
        | (go_at_call 29; (with_reducible refine Calls.mono (NS _ (L1.ext u.e) (L2.ext u.e)) ?_); rintro e w' ⟨rfl, hb⟩; exact ⟨rfl, u.back hb⟩)
      go_big_quiet_on))
  clear hne hry hrx
  refine wpQuiet_nil ?_
  intro w7 h7
  obtain ⟨hcw7, hfw7, hzw7⟩ := Qa.rules h7
  try simp only [World.size_alloc] at hzw7
  obtain ⟨hcbw7, hfbw7, hzbw7⟩ := Qa.rules (show Qa w6 w7 from (by repeat (first | exact Qa.refl _ | (refine Qa.alloc ?_ _) | (refine Qa.trans ?_ (by assumption)))))
  clear hcw7 hfw7
  replace hpb : Hid (c.pairB l days m = (decide (c.in2E G1.on G2.on = 0) && decide (0 ≤ c.betV G1.on G2.on) && decide (c.betV G1.on G2.on ≤ days))) := Lib.hid (by rw [hpb.out, a3, a4, decide_eq_true g5.out, decide_eq_true g6.out, decide_eq_false g7.out, q8]; rfl)
  have hE7 := hE.trans (X6.trans h7)
  replace B10 := B10.ext h7
  replace B12 := B12.ext h7
  clear u0 u1 u2 u3 u4 u5 u6 ul y0 y1 y2 y3 y4 y5 y6 yl n0 n1 n2 n3 hbm6 s1 s2 hbp t5 t5n t6 t6n t7 g5 g6 g7 q8 NS L1 L2 a1 a2 a3 a4 hG1 hG2 hp1 hp2 l1 l2 P2 X6
  obtain ⟨u0, u1, u2, u3, u4, u5, u6⟩ := Qt B10
  have ul := Qb.lt B10
  obtain ⟨y0, y1, y2, y3, y4, y5, y6⟩ := Qt B12
  have yl := Qb.lt B12
  obtain ⟨k0, k1⟩ := Qb.c2 (B1.ext hE7)
  have kl := Qb.lt (B1.ext hE7)
  have NB := fun w h => I5 A A' ca cb c G1.on G2.on w h
  obtain ⟨be, hbe⟩ := Qg (c.in2E G1.on G2.on)
  obtain ⟨bv, hbv⟩ := Qg (c.betV G1.on G2.on)
  rw [← hbe, ← hbv] at hpb
  simp only [← hbe, ← hbv] at NB
  clear hbe hbv
  replace hno := hno
  have C7 := C.ext hE7
  go_upto_region 9 with (go_at_call 45; (with_reducible refine Calls.mono (NB _ C7) ?_); rintro e w8 ⟨rfl, h8⟩)
  have hE8 := hE7.trans h8
  clear NB C7 u0 u1 u2 u3 u4 u5 u6 ul y0 y1 y2 y3 y4 y5 y6 yl k0 k1 kl B10 B12 h7 h8
  by_cases g9 : be = 0
  rotate_left
  ·have r1 : (be == 0) = false := beq_eq_false_iff_ne.2 g9
   have r2 : (be != 0) = true := by rw [bne, r1]; rfl
   obtain rfl : R = false := hno.out (by rw [hpb.out, decide_eq_false g9]; rfl)
   clear hno hyes hno2 hpb g9
   go_wp2
   go_ret
   exact ⟨rfl, E.trans hE8⟩
  subst g9
  by_cases g10 : bv < 0
  ·have r1 : decide (bv < 0) = true := decide_eq_true g10
   obtain rfl : R = false := hno.out (by rw [hpb.out, decide_eq_false (show ¬ (0 ≤ bv) by omega)]; rfl)
   clear hno hyes hno2 hpb g10
   go_wp2
   go_ret
   exact ⟨rfl, E.trans hE8⟩
  have r1 : decide (bv < 0) = false := decide_eq_false g10
  by_cases g11 : days < bv
  ·have r2 : decide (days < bv) = true := decide_eq_true g11
   obtain rfl : R = false := hno.out (by rw [hpb.out, decide_eq_false (show ¬ (bv ≤ days) by omega), Bool.and_false])
   clear hno hyes hno2 hpb g10 g11
   go_wp2
   go_ret
   exact ⟨rfl, E.trans hE8⟩
  have r2 : decide (days < bv) = false := decide_eq_false g11
  have hpy : Hid (c.pairB l days m = true) := Lib.hid (by rw [hpb.out, decide_eq_true (show 0 ≤ bv by omega), decide_eq_true (show bv ≤ days by omega)]; rfl)
  clear hno hpb g10 g11
  go_upto_region 12 with (fail)
  clear r1 r2
  go_loopw [16] (fun kv wr => ∃ k : Nat, k ≤ i ∧ kv = .int .i64 k ∧ Qa v wr ∧ Hid (∀ j, j < k → (decide ((M.getD j Zp).1 = (M.getD i Zp).1) || decide ((M.getD j Zp).2 = (M.getD i Zp).2)) = false)) (fun kv _ => i - (intOf kv).toNat)
  case atStart => exact ⟨0, Nat.zero_le _, rfl, hE8, Lib.hid fun j h => absurd h (by omega)⟩
  case round =>
   clear hE8
   obtain ⟨k, hk, rfl, hE8, hnw⟩ := hrel
   obtain ⟨w9, rfl⟩ := Qg wr
   by_cases hlk : k < i
   rotate_left
   ·obtain rfl : k = i := by omega
    have hall2 : Hid (∀ j, j < k + 1 → (c.pairB l days (M.getD j Zp) && Wp M j) = true) := Lib.hid fun j hj => by
     by_cases e : j = k
     ·subst e
      rw [Bool.and_eq_true, ← hm.out, hpy.out]
      refine ⟨rfl, List.all_eq_true.2 fun x hx => ?_⟩
      rw [hnw.out x (by simpa using hx)]
      rfl
     ·exact hall.out j (by omega)
    clear hnw hpy hno2 hall
    go_wp2
    exact ⟨⟨k + 1, by omega, by go_num, hE8, hall2⟩, by simp [intOf]; omega⟩
   obtain ⟨b2, o2, e2, hb2, hc2⟩ := (Mr0.ext hE8) (by omega)
   obtain ⟨rfl, rfl⟩ : bm = b2 ∧ om = o2 := by simpa using e2
   clear e2
   obtain ⟨K, hK⟩ := Qg (M.getD k Zp)
   have c0 : w9.cell? ⟨bm, om + k * 4, none⟩ = some (.int .i64 K.1.1) := by
    have := hc2 k 0 (.int .i64 (M.getD k Zp).1.1) (by omega) rfl
    rw [← hK] at this
    exact this
   have d0 : w9.cell? ⟨bm, om + i * 4, none⟩ = some (.int .i64 m.1.1) := by
    have := hc2 i 0 (.int .i64 (M.getD i Zp).1.1) hlt rfl
    rw [← hm.out] at this
    exact this
   have c1 : w9.cell? ⟨bm, om + k * 4 + 1, none⟩ = some (.int .i64 K.1.2) := by
    have := hc2 k 1 (.int .i64 (M.getD k Zp).1.2) (by omega) rfl
    rw [← hK] at this
    exact this
   have d1 : w9.cell? ⟨bm, om + i * 4 + 1, none⟩ = some (.int .i64 m.1.2) := by
    have := hc2 i 1 (.int .i64 (M.getD i Zp).1.2) hlt rfl
    rw [← hm.out] at this
    exact this
   have c2 : w9.cell? ⟨bm, om + k * 4 + 2, none⟩ = some (.int .i64 K.2.1) := by
    have := hc2 k 2 (.int .i64 (M.getD k Zp).2.1) (by omega) rfl
    rw [← hK] at this
    exact this
   have d2 : w9.cell? ⟨bm, om + i * 4 + 2, none⟩ = some (.int .i64 m.2.1) := by
    have := hc2 i 2 (.int .i64 (M.getD i Zp).2.1) hlt rfl
    rw [← hm.out] at this
    exact this
   have c3 : w9.cell? ⟨bm, om + k * 4 + 3, none⟩ = some (.int .i64 K.2.2) := by
    have := hc2 k 3 (.int .i64 (M.getD k Zp).2.2) (by omega) rfl
    rw [← hK] at this
    exact this
   have d3 : w9.cell? ⟨bm, om + i * 4 + 3, none⟩ = some (.int .i64 m.2.2) := by
    have := hc2 i 3 (.int .i64 (M.getD i Zp).2.2) hlt rfl
    rw [← hm.out] at this
    exact this
   clear hc2
   go_upto_region 14 with (fail)
   have hff := hno2
   by_cases f1 : K.1 = m.1
   ·have r1 : ((K.1.1 == m.1.1) && (K.1.2 == m.1.2)) = true := by rw [f1]; simp
    obtain rfl : R = false := hno2.out (by
     unfold Wp
     rw [List.all_eq_false]
     refine ⟨k, by simpa using hlk, ?_⟩
     rw [← hK, ← hm.out, decide_eq_true f1]
     simp)
    clear f1 hno2 hff hnw hpy hall hyes hK
    refine Zb w9 Qq (by kernel_rfl) (by repeat (first | exact Qa.refl _ | (refine Qa.alloc ?_ _) | (refine Qa.trans ?_ (by assumption)))) ?_
    intro hne hrx hry
    try simp only []
    try simp only [List.append_eq, List.cons_append, List.nil_append]
    skip
    repeat (first
     | go_big_quiet_skip
     | (go_big_quiet_want; go_big_quiet_op; go_big_quiet_on))
    clear hne hry hrx
    refine wpQuiet_nil ?_
    intro wx hx
    obtain ⟨hcwx, hfwx, hzwx⟩ := Qa.rules hx
    try simp only [World.size_alloc] at hzwx
    obtain ⟨hcbwx, hfbwx, hzbwx⟩ := Qa.rules (show Qa w9 wx from (by repeat (first | exact Qa.refl _ | (refine Qa.alloc ?_ _) | (refine Qa.trans ?_ (by assumption)))))
    clear hcwx hfwx
    go_wp2
    go_ret
    exact ⟨rfl, E.trans (hE8.trans hx)⟩
   have r1 : ((K.1.1 == m.1.1) && (K.1.2 == m.1.2)) = false := by
    rw [Bool.eq_false_iff]
    intro h
    simp only [Bool.and_eq_true, beq_iff_eq] at h
    exact f1 (Prod.ext h.1 h.2)
   by_cases f2 : K.2 = m.2
   ·have r2 : ((K.2.1 == m.2.1) && (K.2.2 == m.2.2)) = true := by rw [f2]; simp
    obtain rfl : R = false := hno2.out (by
     unfold Wp
     rw [List.all_eq_false]
     refine ⟨k, by simpa using hlk, ?_⟩
     rw [← hK, ← hm.out, decide_eq_true f2, Bool.or_true]
     simp)
    clear f1 f2 hno2 hff hnw hpy hall hyes hK
    refine Zb w9 Qq (by kernel_rfl) (by repeat (first | exact Qa.refl _ | (refine Qa.alloc ?_ _) | (refine Qa.trans ?_ (by assumption)))) ?_
    intro hne hrx hry
    try simp only []
    try simp only [List.append_eq, List.cons_append, List.nil_append]
    skip
    repeat (first
     | go_big_quiet_skip
     | (go_big_quiet_want; go_big_quiet_op; go_big_quiet_on))
    clear hne hry hrx
    refine wpQuiet_nil ?_
    intro wx hx
    obtain ⟨hcwx, hfwx, hzwx⟩ := Qa.rules hx
    try simp only [World.size_alloc] at hzwx
    obtain ⟨hcbwx, hfbwx, hzbwx⟩ := Qa.rules (show Qa w9 wx from (by repeat (first | exact Qa.refl _ | (refine Qa.alloc ?_ _) | (refine Qa.trans ?_ (by assumption)))))
    clear hcwx hfwx
    go_wp2
    go_ret
    exact ⟨rfl, E.trans (hE8.trans hx)⟩
   have r2 : ((K.2.1 == m.2.1) && (K.2.2 == m.2.2)) = false := by
    rw [Bool.eq_false_iff]
    intro h
    simp only [Bool.and_eq_true, beq_iff_eq] at h
    exact f2 (Prod.ext h.1 h.2)
   have hnw2 : Hid (∀ j, j < k + 1 → (decide ((M.getD j Zp).1 = (M.getD i Zp).1) || decide ((M.getD j Zp).2 = (M.getD i Zp).2)) = false) := Lib.hid fun j hj => by
    by_cases e : j = k
    ·subst e
     rw [← hK, ← hm.out, decide_eq_false f1, decide_eq_false f2]
     rfl
    ·exact hnw.out j (by omega)
   clear f1 f2 hff hnw hK
   refine Zb w9 Qq (by kernel_rfl) (by repeat (first | exact Qa.refl _ | (refine Qa.alloc ?_ _) | (refine Qa.trans ?_ (by assumption)))) ?_
   intro hne hrx hry
   try simp only []
   try simp only [List.append_eq, List.cons_append, List.nil_append]
   skip
   repeat (first
    | go_big_quiet_skip
    | (go_big_quiet_want; go_big_quiet_op; go_big_quiet_on))
   clear hne hry hrx
   refine wpQuiet_nil ?_
   intro wx hx
   obtain ⟨hcwx, hfwx, hzwx⟩ := Qa.rules hx
   try simp only [World.size_alloc] at hzwx
   obtain ⟨hcbwx, hfbwx, hzbwx⟩ := Qa.rules (show Qa w9 wx from (by repeat (first | exact Qa.refl _ | (refine Qa.alloc ?_ _) | (refine Qa.trans ?_ (by assumption)))))
   clear hcwx hfwx
   go_wp2
   exact ⟨⟨k + 1, by omega, by go_num, hE8.trans hx, hnw2⟩, by simp [intOf]; omega⟩
end
section
open Go Go.RowKit Go.Shelf
theorem Gk {adj : Nat → List Nat} {ni no : Nat} : ∀ (n i : Nat) (m : Mt) (fx : Bl), (Jr adj ni no n i m fx).length ≤ n
 | 0, _, _, _ => Nat.le_refl _
 | n + 1, i, m, fx => by
  rw [Sq]
  cases Yq adj ni no i (adj i) m fx with
  | none => exact Nat.le_succ_of_le (Gk n (i + 1) m fx)
  | some p =>
   obtain ⟨k, m', fx'⟩ := p
   exact Nat.succ_le_succ (Gk n (i + 1) m' fx')
theorem Qdj (c : Qf) (l : List Pd) (days : Int) : (c.matchL l days).length ≤ (Za l false).length := by
 unfold Qf.matchL
 rw [List.length_map]
 exact Gk _ _ _ _
theorem Dy : ∀ (L : List (Rf × Rf)) (i j : Nat), i < L.length → j < 4 → (L.flatMap Xi)[i * 4 + j]? = (Xi (L.getD i (Qu, Qu)))[j]?
 | r :: L, 0, j, _, hj => by
  match j, hj with
  | 0, _ => simp [Xi]
  | 1, _ => simp [Xi]
  | 2, _ => simp [Xi]
  | 3, _ => simp [Xi]
 | r :: L, i + 1, j, h, hj => by
  have hl : (Xi r).length = 4 := rfl
  rw [List.flatMap_cons, List.getElem?_append_right (by omega), hl, show (i + 1) * 4 + j - 4 = i * 4 + j by omega, Dy L i j (by simpa using h) hj]
  rfl
/-- A row of pairs of one's own, read. -/
theorem Rq {w : World} {base : Nat} {v : Value} {L : List (Rf × Rf)} (h : w.ownsRow base 35 4 v L.length (L.flatMap Xi)) : ∃ F c, v = .slice F L.length c ∧ Qo w F L.length 4 (fun i => Xi (L.getD i (Qu, Qu))) := by
 rcases h.2 with ⟨rfl, h0⟩ | ⟨q, cap, cur, rfl, hb, hq, hn, hm, _⟩
 ·exact ⟨none, 0, by rw [h0], fun hp => by omega⟩
 ·refine ⟨_, _, rfl, fun _ => ⟨q, 0, rfl, (Array.getElem?_eq_some_iff.1 hq).1, fun i j v hi hv => ?_⟩⟩
  have hj : j < 4 := (List.getElem?_eq_some_iff.1 hv).1
  have hlt : i * 4 + j < L.length * 4 := by omega
  rw [Nat.zero_add, World.ownsRow.cellAt h (i * 4 + j) hlt, Dy L i j hi hj]
  exact hv
theorem Qdk {c : Qf} {l : List Pd} {days : Int} (h : c.audE l days = 0) : (c.matchL l days).length ≤ 2048 := by
 obtain ⟨⟨_, hp⟩, _⟩ := Hx h
 have h1 := Qdj c l days
 have h2 := Ky (l := l) false (m := 64) (fun i hi => (hp _ (Xh (z := Q3) hi)).m) l.length (Nat.le_refl _)
 have h3 := Ty (T7 h)
 have h4 : (Za l false).length ≤ l.length * 64 := h2
 omega
end
end Go.Proofs.YtoflcheopfppoaaGreatDoor
