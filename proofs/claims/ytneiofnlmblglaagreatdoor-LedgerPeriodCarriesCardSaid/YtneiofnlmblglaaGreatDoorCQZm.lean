/- Lemmas beside the packs; no conditions but those that each states. -/
import Derived.Test.YtneiofnlmblglaaGreatDoorQ1
import Derived.Test.YtneiofnlmblglaaGreatDoorQ2
import Derived.Test.YtneiofnlmblglaaGreatDoorQ3
import Derived.Test.YtneiofnlmblglaaGreatDoorQ4
import Derived.Test.YtneiofnlmblglaaGreatDoorQ5
import Derived.Test.YtneiofnlmblglaaGreatDoorQ6
import Derived.Test.YtneiofnlmblglaaGreatDoorQ7
import Derived.Test.YtneiofnlmblglaaGreatDoorQ8
import Derived.Test.YtneiofnlmblglaaGreatDoorQ9
import Derived.Test.YtneiofnlmblglaaGreatDoorQ10
import Derived.Test.YtneiofnlmblglaaGreatDoorQ11
import Derived.Test.YtneiofnlmblglaaGreatDoorQ12
import Derived.Test.YtneiofnlmblglaaGreatDoorQ13
import Derived.Test.YtneiofnlmblglaaGreatDoorQ14
set_option maxRecDepth 100000
set_option maxHeartbeats 4000000
namespace Go.Proofs.YtneiofnlmblglaaGreatDoor
open Go Go.RowKit Go.Shelf
attribute [local go_sem] Zt
theorem numV_nonneg {c : Qf} {d : Dt} (hv : c.valid = true) : 0 ≤ c.numV d := by
 by_cases h : c.numV d = 0
 ·omega
 ·have := (Ni hv h).2.2; omega
def Qf.behV (c : Qf) (x y : Pd) : Bool := decide (x.h = y.h) && decide (c.numV y.a = c.numV x.b + 1)
/-- Balances carried forward: what is left to do behind a period. -/
def Qf.carR (c : Qf) : Option Pd → List Pd → List Pd × Int
 | _, [] => ([], 0)
 | q, p :: r =>
  if (q.any fun q => !c.behV q p) = true then ([], 84)
  else if (Zm (q.elim p.o (·.c)) p.d).2 ≠ 0 then ([], (Zm (q.elim p.o (·.c)) p.d).2)
  else if (c.carR (some ⟨p.h, p.a, p.b, q.elim p.o (·.c), p.d, (Zm (q.elim p.o (·.c)) p.d).1⟩) r).2 ≠ 0 then ([], (c.carR (some ⟨p.h, p.a, p.b, q.elim p.o (·.c), p.d, (Zm (q.elim p.o (·.c)) p.d).1⟩) r).2)
  else (⟨p.h, p.a, p.b, q.elim p.o (·.c), p.d, (Zm (q.elim p.o (·.c)) p.d).1⟩ :: (c.carR (some ⟨p.h, p.a, p.b, q.elim p.o (·.c), p.d, (Zm (q.elim p.o (·.c)) p.d).1⟩) r).1, 0)
def Qf.archE (c : Qf) (l : List Pd) : Int := if c.chk ≠ 0 then c.chk else if 32 < l.length then 3 else c.persE l
def Qf.carryV (c : Qf) (l : List Pd) : List Pd × Int := if c.archE l ≠ 0 then ([], c.archE l) else c.carR none l
/-- What is made so far, and what is left. -/
def carJ (L : List Pd) (R : List Pd × Int) : List Pd × Int := if R.2 ≠ 0 then ([], R.2) else (L ++ R.1, 0)
def carP (q : Option Pd) (p : Pd) : Pd := ⟨p.h, p.a, p.b, q.elim p.o (·.c), p.d, (Zm (q.elim p.o (·.c)) p.d).1⟩
theorem carR_bad {c : Qf} {q : Option Pd} {p : Pd} {r : List Pd} (h : (q.any fun q => !c.behV q p) = true) : c.carR q (p :: r) = ([], 84) := by
 unfold Qf.carR; rw [if_pos h]
theorem carR_sum {c : Qf} {q : Option Pd} {p : Pd} {r : List Pd} (h : (q.any fun q => !c.behV q p) = false) (h0 : (Zm (q.elim p.o (·.c)) p.d).2 ≠ 0) : c.carR q (p :: r) = ([], (Zm (q.elim p.o (·.c)) p.d).2) := by
 unfold Qf.carR; rw [if_neg (by rw [h]; decide), if_pos h0]
theorem carR_go {c : Qf} {q : Option Pd} {p : Pd} {r : List Pd} (h : (q.any fun q => !c.behV q p) = false) (h0 : (Zm (q.elim p.o (·.c)) p.d).2 = 0) : c.carR q (p :: r) = if (c.carR (some (carP q p)) r).2 ≠ 0 then ([], (c.carR (some (carP q p)) r).2) else (carP q p :: (c.carR (some (carP q p)) r).1, 0) := by
 conv => lhs; unfold Qf.carR
 rw [if_neg (by rw [h]; decide), if_neg (fun g => g h0)]; rfl
theorem carJ_bad {L : List Pd} {R : List Pd × Int} {e : Int} (h : R = ([], e)) (h0 : e ≠ 0) : carJ L R = ([], e) := by
 unfold carJ; rw [h, if_pos h0]
theorem car_bad {c : Qf} {q : Option Pd} {p : Pd} {r L : List Pd} (h : (q.any fun q => !c.behV q p) = true) : carJ L (c.carR q (p :: r)) = ([], 84) := carJ_bad (carR_bad h) (by decide)
theorem car_sum {c : Qf} {q : Option Pd} {p : Pd} {r L : List Pd} (h : (q.any fun q => !c.behV q p) = false) (h0 : (Zm (q.elim p.o (·.c)) p.d).2 ≠ 0) : carJ L (c.carR q (p :: r)) = ([], (Zm (q.elim p.o (·.c)) p.d).2) := carJ_bad (carR_sum h h0) h0
theorem car_step {c : Qf} {q : Option Pd} {p : Pd} {r L : List Pd} (h : (q.any fun q => !c.behV q p) = false) (h0 : (Zm (q.elim p.o (·.c)) p.d).2 = 0) : carJ L (c.carR q (p :: r)) = carJ (L ++ [carP q p]) (c.carR (some (carP q p)) r) := by
 rw [carR_go h h0]
 generalize c.carR (some (carP q p)) r = R
 obtain ⟨R1, e⟩ := R
 by_cases g : e = 0
 ·subst g; simp [carJ]
 ·simp [carJ, g]
theorem car_end {c : Qf} {q : Option Pd} {L : List Pd} : carJ L (c.carR q []) = (L, 0) := by
 unfold Qf.carR carJ; rw [if_neg (by simp)]; simp
theorem carR_err (c : Qf) (q : Option Pd) : ∀ l : List Pd, (c.carR q l).2 ≠ 0 → (c.carR q l).1 = []
 | [], h => absurd rfl h
 | p :: r, h => by
  cases h1 : (q.any fun q => !c.behV q p)
  ·by_cases h2 : (Zm (q.elim p.o (·.c)) p.d).2 = 0
   ·rw [carR_go h1 h2] at h ⊢
    split at h
    ·rename_i h3; rw [if_pos h3]
    ·exact absurd rfl h
   ·rw [carR_sum h1 h2]
  ·rw [carR_bad h1]
theorem car_start {c : Qf} {l : List Pd} : carJ [] (c.carR none l) = c.carR none l := by
 have := carR_err c none l
 generalize c.carR none l = R at *
 obtain ⟨R1, e⟩ := R
 by_cases g : e = 0
 ·subst g; simp [carJ]
 ·have h := this g
  simp only at h
  simp [carJ, g, h]
end Go.Proofs.YtneiofnlmblglaaGreatDoor
