/- The walk of LedgerPeriodCarries. -/
import Derived.Test.YtneiofnlmblglaaGreatDoorCQTi
import Derived.Test.YtneiofnlmblglaaGreatDoorQ14
import Derived.Test.YtneiofnlmblglaaGreatDoorCQZm
set_option maxRecDepth 100000
set_option maxHeartbeats 4000000
namespace Go.Proofs.YtneiofnlmblglaaGreatDoor
open Go Go.RowKit Go.Shelf
attribute [local go_sem] Zt
theorem ledgerPeriodCarries_walk (A A' : Option Addr) (ca cb : Nat) (c : Qf) (v : Value) (l : List Pd) (w : World) (hC : Qv w A ca A' cb c) (hP : U5 w v l) (hL : ∀ i, i < l.length → (l.getD i Ww).Light) (hsd : l.length * 152 ≤ 140737488351232) (hZ : Zy w) :
  Calls Tryz.prog 4 #[.agg #[.slice A c.nk ca, .slice A' c.ny cb], v] w fun e w' => e = .returned (.bool true) ∧ Qa w w' := by
 obtain ⟨D, cap, _, _, _, e0, _⟩ := id hP
 subst e0
 have NCA := fun v h => copyAllR_any (.slice D l.length cap) l v h hL hsd
 have N1 := fun x v h1 h2 => carry_any A A' ca cb c l x v h1 h2
 have N2 := fun v h1 h2 => carryR_any A A' ca cb c l (.slice D l.length cap) v h1 h2 hL hsd
 have N5 := fun q x y v h1 h2 => sameAllR_any x y q v h1 h2
 generalize c.carryV l = V at *
 obtain ⟨S, se⟩ := V
 simp only at N1 N2
 go_enter Tryz.func4, Tryz.ntmps4
 go_upto_region 1 with (fail)
 obtain ⟨v, hv⟩ := Qg (w.alloc (.cells #[.slice A c.nk ca, .slice A' c.ny cb] 25))
 rw [← hv]
 have E : Qa w v := by rw [hv]; exact (Qa.refl _).alloc _
 have B1 : Qb v w.heap.size 25 #[.slice A c.nk ca, .slice A' c.ny cb] := by rw [hv]; exact (Qb.new _ _ _)
 clear hv
 obtain ⟨b1, hb1⟩ := Qg (w.heap.size)
 rw [← hb1] at B1 ⊢
 have hbr : w.heap.size ≤ b1 := by omega
 clear hb1
 have Z := hZ.ext E
 have C := hC.ext E
 have P := hP.ext E
 clear hC hP hZ
 obtain ⟨k0, k1⟩ := B1.c2
 have kl := B1.lt
 go_upto_region 2 with (go_at_call 16; (with_reducible refine Calls.mono (NCA _ P) ?_); rintro e w1 ⟨x1, rfl, hx, D0⟩; replace E := E.trans hx; replace Z := Z.ext hx; replace C := C.ext hx; replace P := P.ext hx; replace B1 := B1.ext hx; clear hx; clear k0 k1 kl; obtain ⟨k0, k1⟩ := B1.c2; have kl := B1.lt; have O := persAt_own D0; clear D0; obtain ⟨D1, m1, _, _, _, e1, _⟩ := id O; subst e1)
 go_upto_region 3 with (go_at_call 17; (with_reducible refine Calls.mono (N1 _ _ C O) ?_); rintro e w2 ⟨x2, rfl, hx, PA⟩; replace E := E.trans hx; replace Z := Z.ext hx; replace C := C.ext hx; replace P := P.ext hx; replace O := O.ext hx; replace B1 := B1.ext hx; clear hx; clear k0 k1 kl; obtain ⟨k0, k1⟩ := B1.c2; have kl := B1.lt; obtain ⟨D2, m2, _, _, _, e1, _⟩ := id PA; subst e1)
 go_upto_region 4 with (go_at_call 18; (with_reducible refine Calls.mono (N2 _ C P) ?_); rintro e w3 ⟨x3, rfl, hx, PB⟩; replace E := E.trans hx; replace Z := Z.ext hx; replace C := C.ext hx; replace P := P.ext hx; replace O := O.ext hx; replace PA := PA.ext hx; replace B1 := B1.ext hx; clear hx; clear k0 k1 kl; obtain ⟨k0, k1⟩ := B1.c2; have kl := B1.lt; obtain ⟨D3, m3, _, _, _, e1, _⟩ := id PB; subst e1)
 go_wp2_with (first | (go_at_call 19; (with_reducible refine Calls.mono (N5 S _ _ _ PA PB) ?_); rintro e y1 ⟨rfl, hx⟩; replace E := E.trans hx; replace Z := Z.ext hx; replace C := C.ext hx; replace P := P.ext hx; replace O := O.ext hx; replace PA := PA.ext hx; replace PB := PB.ext hx; replace B1 := B1.ext hx; clear hx; clear k0 k1 kl; obtain ⟨k0, k1⟩ := B1.c2; have kl := B1.lt) | (go_at_call 19; (with_reducible refine Calls.mono (N5 l _ _ _ O P) ?_); rintro e y2 ⟨rfl, hx⟩; replace E := E.trans hx; replace Z := Z.ext hx; replace C := C.ext hx; replace P := P.ext hx; replace O := O.ext hx; replace PA := PA.ext hx; replace PB := PB.ext hx; replace B1 := B1.ext hx; clear hx; clear k0 k1 kl; obtain ⟨k0, k1⟩ := B1.c2; have kl := B1.lt) | (go_at_call 15; (with_reducible refine Calls.mono (Ar _ Z) ?_); rintro e y4 ⟨rfl, hx⟩; replace E := E.trans hx))
 go_ret
 exact ⟨rfl, E⟩
end Go.Proofs.YtneiofnlmblglaaGreatDoor