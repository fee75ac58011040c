/- Walks of the program's functions and plain facts, packed; proved: the lemmas below; no conditions but those that each states. -/
import Derived.Test.YtneiofnlmblglaaGreatDoorR11
import Derived.Shelf.Spec.SlicesGrow
import Derived.Laws.AppendOwnNone
set_option maxRecDepth 100000
set_option maxHeartbeats 4000000
namespace Go.Proofs.YtneiofnlmblglaaGreatDoor
section
open Go Go.RowKit Go.Shelf
attribute [local go_sem] Zs
theorem Em {W : World} {b : Nat} {t : TypeId} {v0 v1 v2 v3 : Value} (h : Qb W b t #[v0, v1, v2, v3]) (u0 u1 u2 u3 : Value) : Qb ((((W.setCell ⟨b, 0, none⟩ u0).setCell ⟨b, 1, none⟩ u1).setCell ⟨b, 2, none⟩ u2).setCell ⟨b, 3, none⟩ u3) b t #[u0, u1, u2, u3] := by unfold Qb at h ⊢; simp [World.setCell, Array.getElem?_modify, h]
theorem ext4Q {w W : World} {b : Nat} (h : Qa w W) (hb : w.heap.size ≤ b) (u0 u1 u2 u3 : Value) : Qa w ((((W.setCell ⟨b, 0, none⟩ u0).setCell ⟨b, 1, none⟩ u1).setCell ⟨b, 2, none⟩ u2).setCell ⟨b, 3, none⟩ u3) :=
 (((h.setCell (p := ⟨b, 0, none⟩) hb u0).setCell (p := ⟨b, 1, none⟩) hb u1).setCell (p := ⟨b, 2, none⟩) hb u2).setCell (p := ⟨b, 3, none⟩) hb u3
def Qf.lastT (p : Pd) : Nat → Dt
 | 0 => p.a
 | k + 1 => (p.dl k).on
theorem X9 {W : World} {b : Nat} {t : TypeId} {v0 v1 v2 v3 v4 v5 v6 : Value} (h : Qb W b t #[v0, v1, v2, v3, v4, v5, v6]) : W.cell? ⟨b, 0, none⟩ = some v0 ∧ W.cell? ⟨b, 1, none⟩ = some v1 ∧ W.cell? ⟨b, 2, none⟩ = some v2 ∧ W.cell? ⟨b, 3, none⟩ = some v3 ∧ W.cell? ⟨b, 4, none⟩ = some v4 ∧ W.cell? ⟨b, 5, none⟩ = some v5 ∧ W.cell? ⟨b, 6, none⟩ = some v6 := ⟨h.cell 0, h.cell 1, h.cell 2, h.cell 3, h.cell 4, h.cell 5, h.cell 6⟩
theorem Dr {l : List Lt} {j : Nat} (hj : j < l.length) (h : (Qz l j).n < 0) : (l.any fun x => decide (x.n < 0)) = true := by
 rw [List.any_eq_true]
 exact ⟨Qz l j, by rw [Ut hj]; exact List.getElem_mem hj, decide_eq_true h⟩
theorem Qax {l : List Lt} (h : ∀ i, i < l.length → 0 ≤ (Qz l i).n) : (l.any fun x => decide (x.n < 0)) = false := by
 rw [List.any_eq_false]
 intro x hx
 obtain ⟨i, hi, rfl⟩ := List.getElem_of_mem hx
 have := h i hi
 rw [Ut hi] at this
 simpa using this
theorem Iw (c : Qf) (p : Pd) (k : Nat) : c.numV (Qf.lastT p k) = c.lastD p k := by cases k <;> rfl
theorem Sq (A A' : Option Addr) (ca cb : Nat) (c : Qf) (p : Pd) (vo vd vc : Value) (w : World) (hC : Q0 w A ca A' cb c) (hv : c.valid = true) (hP : Zz w p vo vd vc) :
  Calls Tryz.prog 32 #[.agg #[.slice A c.nk ca, .slice A' c.ny cb], .agg #[.string p.h, .int .i64 p.a.y, .int .i64 p.a.m, .bool p.a.s, .int .i64 p.a.d, .int .i64 p.b.y, .int .i64 p.b.m, .bool p.b.s, .int .i64 p.b.d, vo, vd, vc]] w fun e w' => e = .returned (.bool (c.perOk p)) ∧ Qa w w' := by
 obtain ⟨hO, hDD, hCC⟩ := hP
 obtain ⟨T0, cc0, rfl, _⟩ := id hO
 obtain ⟨T1, cc1, rfl, _⟩ := id hCC
 obtain ⟨D, cap, vs, rfl, hD, hcap, hmax, _, hat⟩ := hDD
 have hn : p.d.length ≤ 9223372036854775807 := Nat.le_trans hcap (Nat.le_trans hmax (by decide))
 obtain ⟨n, hnl⟩ := Qg (p.d.length)
 rw [← hnl] at hn hD hat hcap
 replace hnl := Lib.hid hnl
 have NN := fun w => W8 p.h w
 have NI := fun v (h : Q0 v A ca A' cb c) => Nx A A' ca cb c p.a p.b v h hv
 have NO := fun w h => Nf (.slice T0 p.o.length cc0) p.o w h
 have NK := fun w h => Nf (.slice T1 p.c.length cc1) p.c w h
 obtain ⟨R, hR0⟩ := Qg (c.perOk p)
 rw [← hR0]
 replace hR0 := Lib.hid hR0
 have hhd : Hid (c.perHead p = (Zp p.h && (decide (0 < c.numV p.a) && decide (c.numV p.a ≤ c.numV p.b)) && decide (J3 p.o = 0) && decide (J3 p.c = 0) && decide (n ≤ 64))) := by unfold Hid; rw [hnl.out]; rfl
 have hbad : Hid (c.perHead p = false → R = false) := fun h => by rw [hR0.out]; exact Sr h
 rw [← hnl.out]
 go_enter Tryz.func32, Tryz.ntmps32
 go_upto_region 1 with (fail)
 obtain ⟨v, hv⟩ := Qg ((w.alloc (.cells #[.slice A c.nk ca, .slice A' c.ny cb] 25)).alloc (.cells #[.string p.h, .int .i64 p.a.y, .int .i64 p.a.m, .bool p.a.s, .int .i64 p.a.d, .int .i64 p.b.y, .int .i64 p.b.m, .bool p.b.s, .int .i64 p.b.d, .slice T0 p.o.length cc0, .slice D n cap, .slice T1 p.c.length cc1] 31))
 rw [← hv]
 have E : Qa w v := by rw [hv]; exact ((Qa.refl _).alloc _).alloc _
 have B1 : Qb v w.heap.size 25 #[.slice A c.nk ca, .slice A' c.ny cb] := by rw [hv]; exact (Qb.new _ _ _).alloc _
 have B2 : Qb v (w.heap.size + 1) 31 #[.string p.h, .int .i64 p.a.y, .int .i64 p.a.m, .bool p.a.s, .int .i64 p.a.d, .int .i64 p.b.y, .int .i64 p.b.m, .bool p.b.s, .int .i64 p.b.d, .slice T0 p.o.length cc0, .slice D n cap, .slice T1 p.c.length cc1] := by rw [hv]; exact Qb.at _ _ _ _ (by simp)
 clear hv
 obtain ⟨b2, hb2⟩ := Qg (w.heap.size + 1)
 rw [← hb2] at B2 ⊢
 obtain ⟨b1, hb1⟩ := Qg (w.heap.size)
 rw [← hb1] at B1 ⊢
 have hbr : w.heap.size ≤ b2 := by omega
 have hbr1 : w.heap.size ≤ b1 := by omega
 have hn21 : b2 ≠ b1 := by omega
 clear hb1 hb2
 have C := hC.ext E
 have O := hO.ext E
 have K := hCC.ext E
 have DD := hD.ext E
 clear hC hO hCC
 obtain ⟨j0, j1⟩ := B1.c2
 have jl := B1.lt
 obtain ⟨k0, k1, k2, k3, k4, k5, k6, k7, k8, k9, k10, k11⟩ := B2.c12
 have kl := B2.lt
 cases hnm : Zp p.h
 ·simp only [hnm] at NN
  have hr := hbad.out (by rw [hhd.out]; simp [hnm])
  subst hr
  clear hbad hhd hR0
  go_wp2_with (first | (go_at_call 69; (with_reducible refine Calls.mono (NN _) ?_); rintro e _ ⟨rfl, rfl⟩))
  go_ret
  exact ⟨rfl, E⟩
 simp only [hnm] at NN
 cases hsp : (decide (0 < c.numV p.a) && decide (c.numV p.a ≤ c.numV p.b))
 ·simp only [hsp] at NI
  have hr := hbad.out (by rw [hhd.out]; rw [hsp]; simp)
  subst hr
  clear hbad hhd hR0
  go_wp2_with (first | (go_at_call 69; (with_reducible refine Calls.mono (NN _) ?_); rintro e _ ⟨rfl, rfl⟩) | (go_at_call 61; (with_reducible refine Calls.mono (NI _ C) ?_); rintro e w2 ⟨rfl, hx⟩; replace E := E.trans hx; replace C := C.ext hx; replace O := O.ext hx; replace K := K.ext hx; replace DD := DD.ext hx; replace B1 := B1.ext hx; replace B2 := B2.ext hx; clear hx; clear j0 j1 jl k0 k1 k2 k3 k4 k5 k6 k7 k8 k9 k10 k11 kl; obtain ⟨j0, j1⟩ := B1.c2; have jl := B1.lt; obtain ⟨k0, k1, k2, k3, k4, k5, k6, k7, k8, k9, k10, k11⟩ := B2.c12; have kl := B2.lt))
  go_ret
  exact ⟨rfl, E⟩
 simp only [hsp] at NI
 by_cases hlo : J3 p.o = 0
 rotate_left
 ·have go : (J3 p.o == 0) = false := beq_eq_false_iff_ne.2 hlo
  have gon : (J3 p.o != 0) = true := by rw [bne, go]; rfl
  have hr := hbad.out (by rw [hhd.out]; simp [hlo])
  subst hr
  clear hbad hhd hR0
  go_wp2_with (first | (go_at_call 69; (with_reducible refine Calls.mono (NN _) ?_); rintro e _ ⟨rfl, rfl⟩) | (go_at_call 61; (with_reducible refine Calls.mono (NI _ C) ?_); rintro e w2 ⟨rfl, hx⟩; replace E := E.trans hx; replace C := C.ext hx; replace O := O.ext hx; replace K := K.ext hx; replace DD := DD.ext hx; replace B1 := B1.ext hx; replace B2 := B2.ext hx; clear hx; clear j0 j1 jl k0 k1 k2 k3 k4 k5 k6 k7 k8 k9 k10 k11 kl; obtain ⟨j0, j1⟩ := B1.c2; have jl := B1.lt; obtain ⟨k0, k1, k2, k3, k4, k5, k6, k7, k8, k9, k10, k11⟩ := B2.c12; have kl := B2.lt) | (go_at_call 55; (with_reducible refine Calls.mono (NO _ O) ?_); rintro e w3 ⟨rfl, hx⟩; replace E := E.trans hx; replace C := C.ext hx; replace O := O.ext hx; replace K := K.ext hx; replace DD := DD.ext hx; replace B1 := B1.ext hx; replace B2 := B2.ext hx; clear hx; clear j0 j1 jl k0 k1 k2 k3 k4 k5 k6 k7 k8 k9 k10 k11 kl; obtain ⟨j0, j1⟩ := B1.c2; have jl := B1.lt; obtain ⟨k0, k1, k2, k3, k4, k5, k6, k7, k8, k9, k10, k11⟩ := B2.c12; have kl := B2.lt))
  go_ret
  exact ⟨rfl, E⟩
 rw [hlo] at NO
 by_cases hlc : J3 p.c = 0
 rotate_left
 ·have gc : (J3 p.c == 0) = false := beq_eq_false_iff_ne.2 hlc
  have gcn : (J3 p.c != 0) = true := by rw [bne, gc]; rfl
  have hr := hbad.out (by rw [hhd.out]; simp [hlc])
  subst hr
  clear hbad hhd hR0
  go_wp2_with (first | (go_at_call 69; (with_reducible refine Calls.mono (NN _) ?_); rintro e _ ⟨rfl, rfl⟩) | (go_at_call 61; (with_reducible refine Calls.mono (NI _ C) ?_); rintro e w2 ⟨rfl, hx⟩; replace E := E.trans hx; replace C := C.ext hx; replace O := O.ext hx; replace K := K.ext hx; replace DD := DD.ext hx; replace B1 := B1.ext hx; replace B2 := B2.ext hx; clear hx; clear j0 j1 jl k0 k1 k2 k3 k4 k5 k6 k7 k8 k9 k10 k11 kl; obtain ⟨j0, j1⟩ := B1.c2; have jl := B1.lt; obtain ⟨k0, k1, k2, k3, k4, k5, k6, k7, k8, k9, k10, k11⟩ := B2.c12; have kl := B2.lt) | (go_at_call 55; (with_reducible refine Calls.mono (NO _ O) ?_); rintro e w3 ⟨rfl, hx⟩; replace E := E.trans hx; replace C := C.ext hx; replace O := O.ext hx; replace K := K.ext hx; replace DD := DD.ext hx; replace B1 := B1.ext hx; replace B2 := B2.ext hx; clear hx; clear j0 j1 jl k0 k1 k2 k3 k4 k5 k6 k7 k8 k9 k10 k11 kl; obtain ⟨j0, j1⟩ := B1.c2; have jl := B1.lt; obtain ⟨k0, k1, k2, k3, k4, k5, k6, k7, k8, k9, k10, k11⟩ := B2.c12; have kl := B2.lt) | (go_at_call 55; (with_reducible refine Calls.mono (NK _ K) ?_); rintro e w4 ⟨rfl, hx⟩; replace E := E.trans hx; replace C := C.ext hx; replace O := O.ext hx; replace K := K.ext hx; replace DD := DD.ext hx; replace B1 := B1.ext hx; replace B2 := B2.ext hx; clear hx; clear j0 j1 jl k0 k1 k2 k3 k4 k5 k6 k7 k8 k9 k10 k11 kl; obtain ⟨j0, j1⟩ := B1.c2; have jl := B1.lt; obtain ⟨k0, k1, k2, k3, k4, k5, k6, k7, k8, k9, k10, k11⟩ := B2.c12; have kl := B2.lt))
  go_ret
  exact ⟨rfl, E⟩
 rw [hlc] at NK
 by_cases h64 : 64 < n
 ·have g1 : decide (64 < n) = true := decide_eq_true h64
  have h64' : ¬ n ≤ 64 := by omega
  have hr := hbad.out (by rw [hhd.out]; simp [h64'])
  subst hr
  clear hbad hhd hR0
  go_wp2_with (first | (go_at_call 69; (with_reducible refine Calls.mono (NN _) ?_); rintro e _ ⟨rfl, rfl⟩) | (go_at_call 61; (with_reducible refine Calls.mono (NI _ C) ?_); rintro e w2 ⟨rfl, hx⟩; replace E := E.trans hx; replace C := C.ext hx; replace O := O.ext hx; replace K := K.ext hx; replace DD := DD.ext hx; replace B1 := B1.ext hx; replace B2 := B2.ext hx; clear hx; clear j0 j1 jl k0 k1 k2 k3 k4 k5 k6 k7 k8 k9 k10 k11 kl; obtain ⟨j0, j1⟩ := B1.c2; have jl := B1.lt; obtain ⟨k0, k1, k2, k3, k4, k5, k6, k7, k8, k9, k10, k11⟩ := B2.c12; have kl := B2.lt) | (go_at_call 55; (with_reducible refine Calls.mono (NO _ O) ?_); rintro e w3 ⟨rfl, hx⟩; replace E := E.trans hx; replace C := C.ext hx; replace O := O.ext hx; replace K := K.ext hx; replace DD := DD.ext hx; replace B1 := B1.ext hx; replace B2 := B2.ext hx; clear hx; clear j0 j1 jl k0 k1 k2 k3 k4 k5 k6 k7 k8 k9 k10 k11 kl; obtain ⟨j0, j1⟩ := B1.c2; have jl := B1.lt; obtain ⟨k0, k1, k2, k3, k4, k5, k6, k7, k8, k9, k10, k11⟩ := B2.c12; have kl := B2.lt) | (go_at_call 55; (with_reducible refine Calls.mono (NK _ K) ?_); rintro e w4 ⟨rfl, hx⟩; replace E := E.trans hx; replace C := C.ext hx; replace O := O.ext hx; replace K := K.ext hx; replace DD := DD.ext hx; replace B1 := B1.ext hx; replace B2 := B2.ext hx; clear hx; clear j0 j1 jl k0 k1 k2 k3 k4 k5 k6 k7 k8 k9 k10 k11 kl; obtain ⟨j0, j1⟩ := B1.c2; have jl := B1.lt; obtain ⟨k0, k1, k2, k3, k4, k5, k6, k7, k8, k9, k10, k11⟩ := B2.c12; have kl := B2.lt))
  go_ret
  exact ⟨rfl, E⟩
 have g1 : decide (64 < n) = false := decide_eq_false h64
 have hhead : c.perHead p = true := by
  rw [hhd.out, hnm, hsp, decide_eq_true hlo, decide_eq_true hlc, decide_eq_true (show n ≤ 64 by omega)]; rfl
 have hpa : 0 < c.numV (Qf.lastT p 0) := by
  have := (Bool.and_eq_true_iff.1 hsp).1
  exact of_decide_eq_true this
 clear hbad hhd hnm hsp hlo hlc
 go_upto_region 4 with (first | (go_at_call 69; (with_reducible refine Calls.mono (NN _) ?_); rintro e _ ⟨rfl, rfl⟩) | (go_at_call 61; (with_reducible refine Calls.mono (NI _ C) ?_); rintro e w2 ⟨rfl, hx⟩; replace E := E.trans hx; replace C := C.ext hx; replace O := O.ext hx; replace K := K.ext hx; replace DD := DD.ext hx; replace B1 := B1.ext hx; replace B2 := B2.ext hx; clear hx; clear j0 j1 jl k0 k1 k2 k3 k4 k5 k6 k7 k8 k9 k10 k11 kl; obtain ⟨j0, j1⟩ := B1.c2; have jl := B1.lt; obtain ⟨k0, k1, k2, k3, k4, k5, k6, k7, k8, k9, k10, k11⟩ := B2.c12; have kl := B2.lt) | (go_at_call 55; (with_reducible refine Calls.mono (NO _ O) ?_); rintro e w3 ⟨rfl, hx⟩; replace E := E.trans hx; replace C := C.ext hx; replace O := O.ext hx; replace K := K.ext hx; replace DD := DD.ext hx; replace B1 := B1.ext hx; replace B2 := B2.ext hx; clear hx; clear j0 j1 jl k0 k1 k2 k3 k4 k5 k6 k7 k8 k9 k10 k11 kl; obtain ⟨j0, j1⟩ := B1.c2; have jl := B1.lt; obtain ⟨k0, k1, k2, k3, k4, k5, k6, k7, k8, k9, k10, k11⟩ := B2.c12; have kl := B2.lt) | (go_at_call 55; (with_reducible refine Calls.mono (NK _ K) ?_); rintro e w4 ⟨rfl, hx⟩; replace E := E.trans hx; replace C := C.ext hx; replace O := O.ext hx; replace K := K.ext hx; replace DD := DD.ext hx; replace B1 := B1.ext hx; replace B2 := B2.ext hx; clear hx; clear j0 j1 jl k0 k1 k2 k3 k4 k5 k6 k7 k8 k9 k10 k11 kl; obtain ⟨j0, j1⟩ := B1.c2; have jl := B1.lt; obtain ⟨k0, k1, k2, k3, k4, k5, k6, k7, k8, k9, k10, k11⟩ := B2.c12; have kl := B2.lt))
 have hE5 := E.size
 obtain ⟨v5, hv⟩ := Qg (w4.alloc (.cells #[.int .i64 p.a.y, .int .i64 p.a.m, .bool p.a.s, .int .i64 p.a.d] 27))
 rw [← hv]
 have hx : Qa w4 v5 := by rw [hv]; exact (Qa.refl _).alloc _
 have BL : Qb v5 w4.heap.size 27 #[.int .i64 p.a.y, .int .i64 p.a.m, .bool p.a.s, .int .i64 p.a.d] := by rw [hv]; exact Qb.new _ _ _
 clear hv
 obtain ⟨bl, hbl⟩ := Qg (w4.heap.size)
 rw [← hbl] at BL ⊢
 replace hE5 : w4.heap.size ≤ bl := by omega
 clear hbl
 clear j0 j1 jl k0 k1 k2 k3 k4 k5 k6 k7 k8 k9 k10 k11 kl
 clear NN NI NO NK
 obtain ⟨g, hg⟩ := Qg (fun i => p.d.getD i Qr)
 have hg' : ∀ i, p.d.getD i Qr = g i := fun i => by rw [hg]
 have hdk : Hid (∀ k, c.dealOk p k = !(decide (c.numV (g k).on < c.lastD p k) || decide (c.numV p.b < c.numV (g k).on) || !Zp (g k).w || decide ((g k).w = p.h) || !Y3 (g k).l)) := fun k => by rw [← hg' k]; rfl
 have hgo : Hid (∀ k, (g k).on = Qf.lastT p (k + 1)) := fun k => by rw [← hg' k]; rfl
 simp only [hg'] at hD hat DD
 clear hg hg'
 replace hat := Lib.hid hat
 have C0 := C
 have A2' := B2
 have A1' := B1
 clear C O K B1 B2
 go_upto_region 5 with (fail)
 go_loopw [6] (fun iv wr => ∃ k : Nat, k ≤ n ∧ iv = .int .i64 k ∧ Hid (∀ j, j < k → c.dealOk p j = true) ∧ 0 < c.numV (Qf.lastT p k) ∧ Qa w4 wr ∧ Qb wr bl 27 #[.int .i64 (Qf.lastT p k).y, .int .i64 (Qf.lastT p k).m, .bool (Qf.lastT p k).s, .int .i64 (Qf.lastT p k).d]) (fun iv _ => n - (intOf iv).toNat)
 case atStart => exact ⟨0, Nat.zero_le _, rfl, (fun j h => absurd h (by omega)), hpa, hx, BL⟩
 case round =>
  clear hpa hx BL
  obtain ⟨k, hk, rfl, hok, hpos, hE, BL⟩ := hrel
  obtain ⟨wo, rfl⟩ := Qg wr
  have C := C0.ext hE
  have B1 := A1'.ext hE
  have B2 := A2'.ext hE
  obtain ⟨j0, j1⟩ := B1.c2
  have jl := B1.lt
  obtain ⟨k0, k1, k2, k3, k4, k5, k6, k7, k8, k9, k10, k11⟩ := B2.c12
  have kl := B2.lt
  obtain ⟨m0, m1, m2, m3⟩ := BL.c4
  have ml := BL.lt
  by_cases hlt : k < n
  rotate_left
  ·obtain rfl : k = n := by omega
   have hr : R = true := by rw [hR0.out]; exact Qbh hhead (fun j hj => hok.out j (by rw [hnl.out]; exact hj))
   subst hr
   clear hok hdk hat hgo
   go_wp2
   go_ret
   exact ⟨rfl, E.trans hE⟩
  obtain ⟨b, off, rfl, hb, hc⟩ := (DD.ext hE) (by omega)
  have hL := (hat.out k hlt).ext (E.trans hE)
  have c0 : wo.cell? ⟨b, off + k * 7, none⟩ = some (.int .i64 (g k).on.y) := by simpa [Qs] using hc k 0 _ hlt rfl
  have c1 : wo.cell? ⟨b, off + k * 7 + 1, none⟩ = some (.int .i64 (g k).on.m) := by simpa [Qs] using hc k 1 _ hlt rfl
  have c2 : wo.cell? ⟨b, off + k * 7 + 2, none⟩ = some (.bool (g k).on.s) := by simpa [Qs] using hc k 2 _ hlt rfl
  have c3 : wo.cell? ⟨b, off + k * 7 + 3, none⟩ = some (.int .i64 (g k).on.d) := by simpa [Qs] using hc k 3 _ hlt rfl
  have c4 : wo.cell? ⟨b, off + k * 7 + 4, none⟩ = some (.bool (g k).i) := by simpa [Qs] using hc k 4 _ hlt rfl
  have c5 : wo.cell? ⟨b, off + k * 7 + 5, none⟩ = some (.string (g k).w) := by simpa [Qs] using hc k 5 _ hlt rfl
  have c6 : wo.cell? ⟨b, off + k * 7 + 6, none⟩ = some (vs k) := by simpa [Qs] using hc k 6 _ hlt rfl
  have hno : Hid (c.dealOk p k = false → R = false) := fun h => by rw [hR0.out]; exact Qbi (by rw [← hnl.out]; exact hlt) h
  have hyes : Hid (c.dealOk p k = true → ∀ j, j < k + 1 → c.dealOk p j = true) := fun h j hj => by
   by_cases e : j = k
   ·subst e; exact h
   ·exact hok.out j (by omega)
  have hdk2 := Lib.hid (hdk.out k)
  have hgo2 := Lib.hid (hgo.out k)
  have hln := Lib.hid (Iw c p k)
  obtain ⟨VL, hvl⟩ := Qg (vs k)
  rw [← hvl] at c6 hL
  clear hvl hc hdk hgo hat hD DD hok
  obtain ⟨TL, cl, hVL, _⟩ := id hL
  subst hVL
  have NI1 := fun v (h : Q0 v A ca A' cb c) => Nx A A' ca cb c (Qf.lastT p k) (g k).on v h hv
  have NI2 := fun v (h : Q0 v A ca A' cb c) => Nx A A' ca cb c (g k).on p.b v h hv
  have NNK := fun w => W8 (g k).w w
  have NCK := fun w h => Nf (.slice TL (g k).l.length cl) (g k).l w h
  rw [decide_eq_true hpos, Bool.true_and] at NI1
  have hbs : wo.heap.size ≠ bl := by have := BL.lt; omega
  go_upto_region 8 with (fail)
  obtain ⟨vd1, hv⟩ := Qg (wo.alloc (.cells #[.int .i64 (g k).on.y, .int .i64 (g k).on.m, .bool (g k).on.s, .int .i64 (g k).on.d, .bool (g k).i, .string (g k).w, .slice TL (g k).l.length cl] 70))
  rw [← hv]
  have hx : Qa wo vd1 := by rw [hv]; exact (Qa.refl _).alloc _
  have BD : Qb vd1 wo.heap.size 70 #[.int .i64 (g k).on.y, .int .i64 (g k).on.m, .bool (g k).on.s, .int .i64 (g k).on.d, .bool (g k).i, .string (g k).w, .slice TL (g k).l.length cl] := by rw [hv]; exact Qb.new _ _ _
  clear hv
  generalize wo.heap.size = bb1 at *
  clear j0 j1 jl k0 k1 k2 k3 k4 k5 k6 k7 k8 k9 k10 k11 kl m0 m1 m2 m3 ml
  replace hE := hE.trans hx
  replace C := C.ext hx
  replace hL := hL.ext hx
  replace B1 := B1.ext hx
  replace B2 := B2.ext hx
  replace BL := BL.ext hx
  clear hx
  obtain ⟨j0, j1⟩ := B1.c2
  have jl := B1.lt
  obtain ⟨k0, k1, k2, k3, k4, k5, k6, k7, k8, k9, k10, k11⟩ := B2.c12
  have kl := B2.lt
  obtain ⟨m0, m1, m2, m3⟩ := BL.c4
  have ml := BL.lt
  obtain ⟨q0, q1, q2, q3, q4, q5, q6⟩ := J2 BD
  have ql := BD.lt
  clear c0 c1 c2 c3 c4 c5 c6 hb
  generalize hla : Qf.lastT p k = la at *
  clear hla
  by_cases h1 : c.numV la ≤ c.numV (g k).on
  rotate_left
  ·rw [decide_eq_false h1] at NI1
   have hr := hno.out (by rw [hdk2.out]; rw [← hln.out, decide_eq_true (show c.numV (g k).on < c.numV la by omega)]; rfl)
   subst hr
   clear hno hyes hdk2
   go_wp2_with (first | (go_at_call 61; (with_reducible refine Calls.mono (NI1 _ C) ?_); rintro e x1 ⟨rfl, hx⟩; replace hE := hE.trans hx; replace C := C.ext hx; replace hL := hL.ext hx; replace B1 := B1.ext hx; replace B2 := B2.ext hx; replace BL := BL.ext hx; replace BD := BD.ext hx; clear hx; clear j0 j1 jl k0 k1 k2 k3 k4 k5 k6 k7 k8 k9 k10 k11 kl m0 m1 m2 m3 ml q0 q1 q2 q3 q4 q5 q6 ql; obtain ⟨j0, j1⟩ := B1.c2; have jl := B1.lt; obtain ⟨k0, k1, k2, k3, k4, k5, k6, k7, k8, k9, k10, k11⟩ := B2.c12; have kl := B2.lt; obtain ⟨m0, m1, m2, m3⟩ := BL.c4; have ml := BL.lt; obtain ⟨q0, q1, q2, q3, q4, q5, q6⟩ := J2 BD; have ql := BD.lt))
   go_ret
   exact ⟨rfl, E.trans hE⟩
  rw [decide_eq_true h1] at NI1
  have hpk : 0 < c.numV (g k).on := by omega
  rw [decide_eq_true hpk, Bool.true_and] at NI2
  by_cases h2 : c.numV (g k).on ≤ c.numV p.b
  rotate_left
  ·rw [decide_eq_false h2] at NI2
   have hr := hno.out (by rw [hdk2.out]; rw [decide_eq_true (show c.numV p.b < c.numV (g k).on by omega)]; simp)
   subst hr
   clear hno hyes hdk2
   go_wp2_with (first | (go_at_call 61; (with_reducible refine Calls.mono (NI1 _ C) ?_); rintro e x1 ⟨rfl, hx⟩; replace hE := hE.trans hx; replace C := C.ext hx; replace hL := hL.ext hx; replace B1 := B1.ext hx; replace B2 := B2.ext hx; replace BL := BL.ext hx; replace BD := BD.ext hx; clear hx; clear j0 j1 jl k0 k1 k2 k3 k4 k5 k6 k7 k8 k9 k10 k11 kl m0 m1 m2 m3 ml q0 q1 q2 q3 q4 q5 q6 ql; obtain ⟨j0, j1⟩ := B1.c2; have jl := B1.lt; obtain ⟨k0, k1, k2, k3, k4, k5, k6, k7, k8, k9, k10, k11⟩ := B2.c12; have kl := B2.lt; obtain ⟨m0, m1, m2, m3⟩ := BL.c4; have ml := BL.lt; obtain ⟨q0, q1, q2, q3, q4, q5, q6⟩ := J2 BD; have ql := BD.lt) | (go_at_call 61; (with_reducible refine Calls.mono (NI2 _ C) ?_); rintro e x2 ⟨rfl, hx⟩; replace hE := hE.trans hx; replace C := C.ext hx; replace hL := hL.ext hx; replace B1 := B1.ext hx; replace B2 := B2.ext hx; replace BL := BL.ext hx; replace BD := BD.ext hx; clear hx; clear j0 j1 jl k0 k1 k2 k3 k4 k5 k6 k7 k8 k9 k10 k11 kl m0 m1 m2 m3 ml q0 q1 q2 q3 q4 q5 q6 ql; obtain ⟨j0, j1⟩ := B1.c2; have jl := B1.lt; obtain ⟨k0, k1, k2, k3, k4, k5, k6, k7, k8, k9, k10, k11⟩ := B2.c12; have kl := B2.lt; obtain ⟨m0, m1, m2, m3⟩ := BL.c4; have ml := BL.lt; obtain ⟨q0, q1, q2, q3, q4, q5, q6⟩ := J2 BD; have ql := BD.lt))
   go_ret
   exact ⟨rfl, E.trans hE⟩
  rw [decide_eq_true h2] at NI2
  cases h3 : Zp (g k).w
  ·simp only [h3] at NNK
   have hr := hno.out (by rw [hdk2.out]; rw [h3]; simp)
   subst hr
   clear hno hyes hdk2
   go_wp2_with (first | (go_at_call 61; (with_reducible refine Calls.mono (NI1 _ C) ?_); rintro e x1 ⟨rfl, hx⟩; replace hE := hE.trans hx; replace C := C.ext hx; replace hL := hL.ext hx; replace B1 := B1.ext hx; replace B2 := B2.ext hx; replace BL := BL.ext hx; replace BD := BD.ext hx; clear hx; clear j0 j1 jl k0 k1 k2 k3 k4 k5 k6 k7 k8 k9 k10 k11 kl m0 m1 m2 m3 ml q0 q1 q2 q3 q4 q5 q6 ql; obtain ⟨j0, j1⟩ := B1.c2; have jl := B1.lt; obtain ⟨k0, k1, k2, k3, k4, k5, k6, k7, k8, k9, k10, k11⟩ := B2.c12; have kl := B2.lt; obtain ⟨m0, m1, m2, m3⟩ := BL.c4; have ml := BL.lt; obtain ⟨q0, q1, q2, q3, q4, q5, q6⟩ := J2 BD; have ql := BD.lt) | (go_at_call 61; (with_reducible refine Calls.mono (NI2 _ C) ?_); rintro e x2 ⟨rfl, hx⟩; replace hE := hE.trans hx; replace C := C.ext hx; replace hL := hL.ext hx; replace B1 := B1.ext hx; replace B2 := B2.ext hx; replace BL := BL.ext hx; replace BD := BD.ext hx; clear hx; clear j0 j1 jl k0 k1 k2 k3 k4 k5 k6 k7 k8 k9 k10 k11 kl m0 m1 m2 m3 ml q0 q1 q2 q3 q4 q5 q6 ql; obtain ⟨j0, j1⟩ := B1.c2; have jl := B1.lt; obtain ⟨k0, k1, k2, k3, k4, k5, k6, k7, k8, k9, k10, k11⟩ := B2.c12; have kl := B2.lt; obtain ⟨m0, m1, m2, m3⟩ := BL.c4; have ml := BL.lt; obtain ⟨q0, q1, q2, q3, q4, q5, q6⟩ := J2 BD; have ql := BD.lt) | (go_at_call 69; (with_reducible refine Calls.mono (NNK _) ?_); rintro e _ ⟨rfl, rfl⟩))
   go_ret
   exact ⟨rfl, E.trans hE⟩
  simp only [h3] at NNK
  by_cases h4 : (g k).w = p.h
  ·have g4 : ((g k).w.toList == p.h.toList) = true := by rw [h4]; exact beq_self_eq_true _
   have hr := hno.out (by rw [hdk2.out]; rw [decide_eq_true h4]; simp)
   subst hr
   clear hno hyes hdk2
   clear h4
   go_wp2_with (first | (go_at_call 61; (with_reducible refine Calls.mono (NI1 _ C) ?_); rintro e x1 ⟨rfl, hx⟩; replace hE := hE.trans hx; replace C := C.ext hx; replace hL := hL.ext hx; replace B1 := B1.ext hx; replace B2 := B2.ext hx; replace BL := BL.ext hx; replace BD := BD.ext hx; clear hx; clear j0 j1 jl k0 k1 k2 k3 k4 k5 k6 k7 k8 k9 k10 k11 kl m0 m1 m2 m3 ml q0 q1 q2 q3 q4 q5 q6 ql; obtain ⟨j0, j1⟩ := B1.c2; have jl := B1.lt; obtain ⟨k0, k1, k2, k3, k4, k5, k6, k7, k8, k9, k10, k11⟩ := B2.c12; have kl := B2.lt; obtain ⟨m0, m1, m2, m3⟩ := BL.c4; have ml := BL.lt; obtain ⟨q0, q1, q2, q3, q4, q5, q6⟩ := J2 BD; have ql := BD.lt) | (go_at_call 61; (with_reducible refine Calls.mono (NI2 _ C) ?_); rintro e x2 ⟨rfl, hx⟩; replace hE := hE.trans hx; replace C := C.ext hx; replace hL := hL.ext hx; replace B1 := B1.ext hx; replace B2 := B2.ext hx; replace BL := BL.ext hx; replace BD := BD.ext hx; clear hx; clear j0 j1 jl k0 k1 k2 k3 k4 k5 k6 k7 k8 k9 k10 k11 kl m0 m1 m2 m3 ml q0 q1 q2 q3 q4 q5 q6 ql; obtain ⟨j0, j1⟩ := B1.c2; have jl := B1.lt; obtain ⟨k0, k1, k2, k3, k4, k5, k6, k7, k8, k9, k10, k11⟩ := B2.c12; have kl := B2.lt; obtain ⟨m0, m1, m2, m3⟩ := BL.c4; have ml := BL.lt; obtain ⟨q0, q1, q2, q3, q4, q5, q6⟩ := J2 BD; have ql := BD.lt) | (go_at_call 69; (with_reducible refine Calls.mono (NNK _) ?_); rintro e _ ⟨rfl, rfl⟩))
   go_ret
   exact ⟨rfl, E.trans hE⟩
  have g4 : ((g k).w.toList == p.h.toList) = false := beq_eq_false_iff_ne.2 fun h => h4 (Kq h)
  have hgv : Hid (Y3 (g k).l = (decide (0 < (g k).l.length) && decide (J3 (g k).l = 0) && !((g k).l.any fun x => decide (x.n < 0)))) := rfl
  by_cases h5 : (g k).l.length = 0
  ·have g5 : (((g k).l.length : Int) == 0) = true := by rw [h5]; rfl
   have g5' : ((g k).l.length == 0) = true := by rw [h5]; rfl
   have hr := hno.out (by rw [hdk2.out]; rw [show Y3 (g k).l = false by rw [hgv.out, h5]; rfl]; simp)
   subst hr
   clear hno hyes hdk2
   go_wp2_with (first | (go_at_call 61; (with_reducible refine Calls.mono (NI1 _ C) ?_); rintro e x1 ⟨rfl, hx⟩; replace hE := hE.trans hx; replace C := C.ext hx; replace hL := hL.ext hx; replace B1 := B1.ext hx; replace B2 := B2.ext hx; replace BL := BL.ext hx; replace BD := BD.ext hx; clear hx; clear j0 j1 jl k0 k1 k2 k3 k4 k5 k6 k7 k8 k9 k10 k11 kl m0 m1 m2 m3 ml q0 q1 q2 q3 q4 q5 q6 ql; obtain ⟨j0, j1⟩ := B1.c2; have jl := B1.lt; obtain ⟨k0, k1, k2, k3, k4, k5, k6, k7, k8, k9, k10, k11⟩ := B2.c12; have kl := B2.lt; obtain ⟨m0, m1, m2, m3⟩ := BL.c4; have ml := BL.lt; obtain ⟨q0, q1, q2, q3, q4, q5, q6⟩ := J2 BD; have ql := BD.lt) | (go_at_call 61; (with_reducible refine Calls.mono (NI2 _ C) ?_); rintro e x2 ⟨rfl, hx⟩; replace hE := hE.trans hx; replace C := C.ext hx; replace hL := hL.ext hx; replace B1 := B1.ext hx; replace B2 := B2.ext hx; replace BL := BL.ext hx; replace BD := BD.ext hx; clear hx; clear j0 j1 jl k0 k1 k2 k3 k4 k5 k6 k7 k8 k9 k10 k11 kl m0 m1 m2 m3 ml q0 q1 q2 q3 q4 q5 q6 ql; obtain ⟨j0, j1⟩ := B1.c2; have jl := B1.lt; obtain ⟨k0, k1, k2, k3, k4, k5, k6, k7, k8, k9, k10, k11⟩ := B2.c12; have kl := B2.lt; obtain ⟨m0, m1, m2, m3⟩ := BL.c4; have ml := BL.lt; obtain ⟨q0, q1, q2, q3, q4, q5, q6⟩ := J2 BD; have ql := BD.lt) | (go_at_call 69; (with_reducible refine Calls.mono (NNK _) ?_); rintro e _ ⟨rfl, rfl⟩))
   go_ret
   exact ⟨rfl, E.trans hE⟩
  have g5 : (((g k).l.length : Int) == 0) = false := beq_eq_false_iff_ne.2 (by omega)
  have g5' : ((g k).l.length == 0) = false := beq_eq_false_iff_ne.2 h5
  by_cases h6 : J3 (g k).l = 0
  rotate_left
  ·have g6 : (J3 (g k).l == 0) = false := beq_eq_false_iff_ne.2 h6
   have g6n : (J3 (g k).l != 0) = true := by rw [bne, g6]; rfl
   have hr := hno.out (by rw [hdk2.out]; rw [show Y3 (g k).l = false by rw [hgv.out, decide_eq_false h6]; simp]; simp)
   subst hr
   clear hno hyes hdk2
   go_wp2_with (first | (go_at_call 61; (with_reducible refine Calls.mono (NI1 _ C) ?_); rintro e x1 ⟨rfl, hx⟩; replace hE := hE.trans hx; replace C := C.ext hx; replace hL := hL.ext hx; replace B1 := B1.ext hx; replace B2 := B2.ext hx; replace BL := BL.ext hx; replace BD := BD.ext hx; clear hx; clear j0 j1 jl k0 k1 k2 k3 k4 k5 k6 k7 k8 k9 k10 k11 kl m0 m1 m2 m3 ml q0 q1 q2 q3 q4 q5 q6 ql; obtain ⟨j0, j1⟩ := B1.c2; have jl := B1.lt; obtain ⟨k0, k1, k2, k3, k4, k5, k6, k7, k8, k9, k10, k11⟩ := B2.c12; have kl := B2.lt; obtain ⟨m0, m1, m2, m3⟩ := BL.c4; have ml := BL.lt; obtain ⟨q0, q1, q2, q3, q4, q5, q6⟩ := J2 BD; have ql := BD.lt) | (go_at_call 61; (with_reducible refine Calls.mono (NI2 _ C) ?_); rintro e x2 ⟨rfl, hx⟩; replace hE := hE.trans hx; replace C := C.ext hx; replace hL := hL.ext hx; replace B1 := B1.ext hx; replace B2 := B2.ext hx; replace BL := BL.ext hx; replace BD := BD.ext hx; clear hx; clear j0 j1 jl k0 k1 k2 k3 k4 k5 k6 k7 k8 k9 k10 k11 kl m0 m1 m2 m3 ml q0 q1 q2 q3 q4 q5 q6 ql; obtain ⟨j0, j1⟩ := B1.c2; have jl := B1.lt; obtain ⟨k0, k1, k2, k3, k4, k5, k6, k7, k8, k9, k10, k11⟩ := B2.c12; have kl := B2.lt; obtain ⟨m0, m1, m2, m3⟩ := BL.c4; have ml := BL.lt; obtain ⟨q0, q1, q2, q3, q4, q5, q6⟩ := J2 BD; have ql := BD.lt) | (go_at_call 69; (with_reducible refine Calls.mono (NNK _) ?_); rintro e _ ⟨rfl, rfl⟩) | (go_at_call 55; (with_reducible refine Calls.mono (NCK _ hL) ?_); rintro e x4 ⟨rfl, hx⟩; replace hE := hE.trans hx; replace C := C.ext hx; replace hL := hL.ext hx; replace B1 := B1.ext hx; replace B2 := B2.ext hx; replace BL := BL.ext hx; replace BD := BD.ext hx; clear hx; clear j0 j1 jl k0 k1 k2 k3 k4 k5 k6 k7 k8 k9 k10 k11 kl m0 m1 m2 m3 ml q0 q1 q2 q3 q4 q5 q6 ql; obtain ⟨j0, j1⟩ := B1.c2; have jl := B1.lt; obtain ⟨k0, k1, k2, k3, k4, k5, k6, k7, k8, k9, k10, k11⟩ := B2.c12; have kl := B2.lt; obtain ⟨m0, m1, m2, m3⟩ := BL.c4; have ml := BL.lt; obtain ⟨q0, q1, q2, q3, q4, q5, q6⟩ := J2 BD; have ql := BD.lt))
   go_ret
   exact ⟨rfl, E.trans hE⟩
  rw [h6] at NCK
  have hdk3 : Hid (c.dealOk p k = !((g k).l.any fun x => decide (x.n < 0))) := by
   unfold Hid
   rw [hdk2.out, ← hln.out, decide_eq_false (show ¬ c.numV (g k).on < c.numV la by omega), decide_eq_false (show ¬ c.numV p.b < c.numV (g k).on by omega), h3, decide_eq_false h4, hgv.out, decide_eq_true (show 0 < (g k).l.length by omega), decide_eq_true h6]
   simp
  clear hdk2 hgv h1 h2 h3 h4 h5 h6 hln
  go_upto_region 11 with (first | (go_at_call 61; (with_reducible refine Calls.mono (NI1 _ C) ?_); rintro e x1 ⟨rfl, hx⟩; replace hE := hE.trans hx; replace C := C.ext hx; replace hL := hL.ext hx; replace B1 := B1.ext hx; replace B2 := B2.ext hx; replace BL := BL.ext hx; replace BD := BD.ext hx; clear hx; clear j0 j1 jl k0 k1 k2 k3 k4 k5 k6 k7 k8 k9 k10 k11 kl m0 m1 m2 m3 ml q0 q1 q2 q3 q4 q5 q6 ql; obtain ⟨j0, j1⟩ := B1.c2; have jl := B1.lt; obtain ⟨k0, k1, k2, k3, k4, k5, k6, k7, k8, k9, k10, k11⟩ := B2.c12; have kl := B2.lt; obtain ⟨m0, m1, m2, m3⟩ := BL.c4; have ml := BL.lt; obtain ⟨q0, q1, q2, q3, q4, q5, q6⟩ := J2 BD; have ql := BD.lt) | (go_at_call 61; (with_reducible refine Calls.mono (NI2 _ C) ?_); rintro e x2 ⟨rfl, hx⟩; replace hE := hE.trans hx; replace C := C.ext hx; replace hL := hL.ext hx; replace B1 := B1.ext hx; replace B2 := B2.ext hx; replace BL := BL.ext hx; replace BD := BD.ext hx; clear hx; clear j0 j1 jl k0 k1 k2 k3 k4 k5 k6 k7 k8 k9 k10 k11 kl m0 m1 m2 m3 ml q0 q1 q2 q3 q4 q5 q6 ql; obtain ⟨j0, j1⟩ := B1.c2; have jl := B1.lt; obtain ⟨k0, k1, k2, k3, k4, k5, k6, k7, k8, k9, k10, k11⟩ := B2.c12; have kl := B2.lt; obtain ⟨m0, m1, m2, m3⟩ := BL.c4; have ml := BL.lt; obtain ⟨q0, q1, q2, q3, q4, q5, q6⟩ := J2 BD; have ql := BD.lt) | (go_at_call 69; (with_reducible refine Calls.mono (NNK _) ?_); rintro e _ ⟨rfl, rfl⟩) | (go_at_call 55; (with_reducible refine Calls.mono (NCK _ hL) ?_); rintro e x4 ⟨rfl, hx⟩; replace hE := hE.trans hx; replace C := C.ext hx; replace hL := hL.ext hx; replace B1 := B1.ext hx; replace B2 := B2.ext hx; replace BL := BL.ext hx; replace BD := BD.ext hx; clear hx; clear j0 j1 jl k0 k1 k2 k3 k4 k5 k6 k7 k8 k9 k10 k11 kl m0 m1 m2 m3 ml q0 q1 q2 q3 q4 q5 q6 ql; obtain ⟨j0, j1⟩ := B1.c2; have jl := B1.lt; obtain ⟨k0, k1, k2, k3, k4, k5, k6, k7, k8, k9, k10, k11⟩ := B2.c12; have kl := B2.lt; obtain ⟨m0, m1, m2, m3⟩ := BL.c4; have ml := BL.lt; obtain ⟨q0, q1, q2, q3, q4, q5, q6⟩ := J2 BD; have ql := BD.lt))
  clear j0 j1 jl k0 k1 k2 k3 k4 k5 k6 k7 k8 k9 k10 k11 kl m0 m1 m2 m3 ml q0 q1 q2 q3 q4 q5 q6 ql
  clear NI1 NI2 NNK NCK g4 g5 g5'
  obtain ⟨TL', cl', hTL, hTR, hcl, hclm, _⟩ := id hL
  obtain ⟨rfl, rfl⟩ : TL = TL' ∧ cl = cl' := by simpa using hTL
  clear hTL
  generalize g k = G at *
  have hl63 : G.l.length ≤ 9223372036854775807 := Nat.le_trans hcl (Nat.le_trans hclm (by decide))
  have hEx := hE
  go_loopw [8] (fun iv wr => ∃ j : Nat, j ≤ G.l.length ∧ iv = .int .i64 j ∧ Hid (∀ i, i < j → 0 ≤ (Qz G.l i).n) ∧ Qa x4 wr) (fun iv _ => G.l.length - (intOf iv).toNat)
  case atStart => exact ⟨0, Nat.zero_le _, rfl, (fun i h => absurd h (by omega)), Qa.refl _⟩
  case round =>
   obtain ⟨j, hj, rfl, hnn, hEj⟩ := hrel
   obtain ⟨wi, rfl⟩ := Qg wr
   have BDi := BD.ext hEj
   have BLi := BL.ext hEj
   obtain ⟨q0, q1, q2, q3, q4, q5, q6⟩ := X9 BDi
   have ql := Qb.lt BDi
   by_cases hlj : j < G.l.length
   ·obtain ⟨b2, off2, rfl, hb2, hc2⟩ := (hTR.ext hEj) (by omega)
    have d1 : wi.cell? ⟨b2, off2 + j * 2 + 1, none⟩ = some (.int .i64 (Qz G.l j).n) := by simpa [Q4] using hc2 j 1 _ hlj rfl
    have hin2 : j < G.l.length := hlj
    clear hc2
    by_cases hneg : (Qz G.l j).n < 0
    ·have g7 : decide ((Qz G.l j).n < 0) = true := decide_eq_true hneg
     have hany : (G.l.any fun x => decide (x.n < 0)) = true := Dr hlj hneg
     have hr := hno.out (by rw [hdk3.out, hany]; rfl)
     subst hr
     clear hno hyes hdk3 hany hneg hnn
     go_wp2
     go_ret
     exact ⟨rfl, E.trans (hE.trans hEj)⟩
    ·have g7 : decide ((Qz G.l j).n < 0) = false := decide_eq_false hneg
     have hnn2 : Hid (∀ i, i < j + 1 → 0 ≤ (Qz G.l i).n) := fun i hi => by
      by_cases e : i = j
      ·subst e; omega
      ·exact hnn.out i (by omega)
     clear hno hyes hdk3 hneg hnn
     go_wp2
     exact ⟨⟨j + 1, by omega, by go_num, hnn2, hEj⟩, by simp [intOf]; omega⟩
   ·obtain rfl : j = G.l.length := by omega
    have hany : (G.l.any fun x => decide (x.n < 0)) = false := Qax (fun i hi => hnn.out i hi)
    have hnx := Lib.hid (hyes.out (by rw [hdk3.out, hany]; rfl))
    clear hno hyes hdk3 hany hnn
    obtain ⟨f0, f1, f2, f3⟩ : (_ ∧ _ ∧ _ ∧ _) := ⟨BLi.frozen 0, BLi.frozen 1, BLi.frozen 2, BLi.frozen 3⟩
    obtain ⟨m0, m1, m2, m3⟩ := BLi.c4
    have ml := BLi.lt
    have X := Em BLi (.int .i64 G.on.y) (.int .i64 G.on.m) (.bool G.on.s) (.int .i64 G.on.d)
    have E4 := ext4Q (hE.trans hEj) hE5 (.int .i64 G.on.y) (.int .i64 G.on.m) (.bool G.on.s) (.int .i64 G.on.d)
    have hps : 0 < c.numV (Qf.lastT p (k + 1)) := by rw [← hgo2.out]; exact hpk
    clear hpk
    go_wp2
    exact ⟨⟨k + 1, by omega, by go_num, hnx, hps, E4, by rw [← hgo2.out]; exact X⟩, by simp [intOf]; omega⟩
theorem Wz {f f' : Nat → List Value} : ∀ k, (∀ i, i < k → f i = f' i) → Qy f k = Qy f' k
 | 0, _ => rfl
 | k + 1, h => by rw [X7, X7, Wz k (fun i hi => h i (by omega)), h k (by omega)]
theorem Om {W : World} {b b' s1 s2 k1 k2 : Nat} {e1 e2 : TypeId} {v1 v2 : Value} {x1 x2 : List Value} (h1 : W.ownsRow b e1 s1 v1 k1 x1) (h2 : W.ownsRow b' e2 s2 v2 k2 x2) (hne : e1 ≠ e2) : v1.ownBlock = none ∨ v1.ownBlock ≠ v2.ownBlock := by
 cases hb : v1.ownBlock with
 | none => exact .inl rfl
 | some r =>
  refine .inr fun e => ?_
  obtain ⟨_, c1, g1⟩ := Mh h1 r hb
  obtain ⟨_, c2, g2⟩ := Mh h2 r e.symm
  rw [g1] at g2
  simp at g2
  exact hne g2.2
def Jk (W : World) (b : Nat) (v : Value) (l : List Lt) : Prop := W.ownsRow b 68 2 v l.length (l.flatMap Jm)
/-- Deals in an own row, each with lots in an own row. -/
def Zr (W : World) (b : Nat) (v : Value) (n : Nat) (g : Nat → Dl) : Prop := ∃ vs : Nat → Value, W.ownsRow b 70 7 v n (Qy (fun i => Qs (g i) (vs i)) n) ∧ ∀ i, i < n → Jk W b (vs i) (g i).l
theorem G6 (W : World) (b : Nat) (g : Nat → Dl) : Zr W b (.slice none 0 0) 0 g := ⟨fun _ => .slice none 0 0, World.ownsRow_nil _ _ _ _, fun i h => absurd h (by omega)⟩
theorem Zr.ext {W W' : World} {b n : Nat} {v : Value} {g : Nat → Dl} (h : Zr W b v n g) (x : Qa W W') : Zr W' b v n g := by
 obtain ⟨vs, h1, h2⟩ := h
 exact ⟨vs, Z2 h1 x, fun i hi => Z2 (h2 i hi) x⟩
theorem Zr.le {W : World} {b b' n : Nat} {v : Value} {g : Nat → Dl} (h : Zr W b v n g) (hb : b' ≤ b) : Zr W b' v n g := by
 obtain ⟨vs, h1, h2⟩ := h
 exact ⟨vs, h1.mono hb, fun i hi => World.ownsRow.mono (h2 i hi) hb⟩
theorem G5 {W : World} {b : Nat} {v : Value} {l : List Dl} (h : Zr W b v l.length (fun i => l.getD i Qr)) : Yn W v l := by
 obtain ⟨vs, h1, h2⟩ := h
 obtain ⟨F, c, g1, g2, g3, g4, g5, _⟩ := W7 (f := fun i => Qs (l.getD i Qr) (vs i)) (fun _ => rfl) h1
 exact ⟨F, c, vs, g1, g2, g3, g4, g5, fun i hi => Wl (h2 i hi)⟩
theorem Cs {W w1 : World} {b k : Nat} {v v' vl : Value} {g : Nat → Dl} {vs : Nat → Value} {ob : Obj} (hO : W.ownsRow b 70 7 v k (Qy (fun i => Qs (g i) (vs i)) k)) (hL : ∀ i, i < k → Jk W b (vs i) (g i).l) (hl : Jk W b vl (g k).l)
  (hown : w1.ownsRow b 70 7 v' (k + 1) (Qy (fun i => Qs (g i) (vs i)) k ++ Qs (g k) vl)) (hgrow : (W.alloc ob).grownBy w1 v.ownBlock) : Zr w1 b v' (k + 1) g := by
 have keep : ∀ {u : Value} {l : List Lt}, Jk W b u l → Jk w1 b u l := fun h => (World.ownsRow.alloc h ob).kept hgrow (Om h hO (by decide))
 refine ⟨fun i => if i = k then vl else vs i, ?_, fun i hi => ?_⟩
 ·rw [X7, Wz (f' := fun i => Qs (g i) (vs i)) k (fun i hi => by simp [show i ≠ k by omega])]
  simpa using hown
 ·by_cases e : i = k
  ·subst e; simpa using keep hl
  ·simpa [e] using keep (hL i (by omega))
theorem Er {W : World} {b : Nat} {t : TypeId} {v0 v1 v2 v3 v4 v5 v6 : Value} (h : Qb W b t #[v0, v1, v2, v3, v4, v5, v6]) (u : Value) : Qb (W.setCell ⟨b, 6, none⟩ u) b t #[v0, v1, v2, v3, v4, v5, u] := by unfold Qb at h ⊢; simp [World.setCell, Array.getElem?_modify, h]
theorem V7 : (Tryz.prog.info? 70).map (fun i => (i.zero, i.size, i.bytes)) = some (some (.agg #[.int .i64 0, .int .i64 0, .bool false, .int .i64 0, .bool false, .string ⟨#[]⟩, .slice none 0 0]), 7, 80) := by kernel_rfl
theorem Gp (d : Dl) (F : Option Addr) (n m : Nat) : ∀ u ∈ Qs d (.slice F n m), u.oneCell' = true := by simp [Qs, Value.oneCell']
theorem Gv (v : Value) (l : List Dl) (w : World) (hDD : Yn w v l) (hsz : ∀ i, i < l.length → (l.getD i Qr).l.length * 24 ≤ 140737488351232) (hsd : l.length * 80 ≤ 140737488351232) :
  Calls Tryz.prog 27 #[v] w fun e w' => ∃ v', e = .returned v' ∧ Qa w w' ∧ Zr w' w.heap.size v' l.length (fun i => l.getD i Qr) := by
 obtain ⟨i0, hi, hz0, hz1, hz2⟩ := info_parts V7
 obtain ⟨D, cap, vs, rfl, hD, hcap, hmax, _, hat⟩ := hDD
 have hn : l.length ≤ 9223372036854775807 := Nat.le_trans hcap (Nat.le_trans hmax (by decide))
 generalize l.length = n at *
 obtain ⟨g, hg⟩ := Qg (fun i => l.getD i Qr)
 have hg' : ∀ i, l.getD i Qr = g i := fun i => by rw [hg]
 simp only [hg'] at hD hat hsz ⊢
 clear hg hg'
 clear hmax
 go_enter Tryz.func27, Tryz.ntmps27
 go_upto_region 3 with (fail)
 go_loopw [3, 4] (fun ov iv wr => ∃ k : Nat, k ≤ n ∧ iv = .int .i64 k ∧ Zr wr w.heap.size ov k g ∧ Qa w wr) (fun _ i _ => n - (intOf i).toNat)
 case atStart => exact ⟨0, Nat.zero_le _, rfl, G6 _ _ _, Qa.refl _⟩
 case round =>
  obtain ⟨k, hk, rfl, ⟨vs', hO, hLo⟩, hE⟩ := hrel
  obtain ⟨wo, rfl⟩ := Qg wr
  obtain ⟨FO, mO, rfl⟩ := Q9 hO
  by_cases hlt : k < n
  ·obtain ⟨b, off, rfl, hb, hc⟩ := (hD.ext hE) (by omega)
   have c0 : wo.cell? ⟨b, off + k * 7, none⟩ = some (.int .i64 (g k).on.y) := by simpa [Qs] using hc k 0 _ hlt rfl
   have c1 : wo.cell? ⟨b, off + k * 7 + 1, none⟩ = some (.int .i64 (g k).on.m) := by simpa [Qs] using hc k 1 _ hlt rfl
   have c2 : wo.cell? ⟨b, off + k * 7 + 2, none⟩ = some (.bool (g k).on.s) := by simpa [Qs] using hc k 2 _ hlt rfl
   have c3 : wo.cell? ⟨b, off + k * 7 + 3, none⟩ = some (.int .i64 (g k).on.d) := by simpa [Qs] using hc k 3 _ hlt rfl
   have c4 : wo.cell? ⟨b, off + k * 7 + 4, none⟩ = some (.bool (g k).i) := by simpa [Qs] using hc k 4 _ hlt rfl
   have c5 : wo.cell? ⟨b, off + k * 7 + 5, none⟩ = some (.string (g k).w) := by simpa [Qs] using hc k 5 _ hlt rfl
   have c6 : wo.cell? ⟨b, off + k * 7 + 6, none⟩ = some (vs k) := by simpa [Qs] using hc k 6 _ hlt rfl
   have HL := (hat k hlt).ext hE
   obtain ⟨VL, hvl⟩ := Qg (vs k)
   rw [← hvl] at c6 HL
   clear hvl hc
   obtain ⟨TL, cl, hVL, _⟩ := id HL
   subst hVL
   have NC := fun w h => Kz (.slice TL (g k).l.length cl) (g k).l w h (hsz k hlt)
   go_upto_region 6 with (fail)
   obtain ⟨wb, hv⟩ := Qg (wo.alloc (.cells #[.int .i64 (g k).on.y, .int .i64 (g k).on.m, .bool (g k).on.s, .int .i64 (g k).on.d, .bool (g k).i, .string (g k).w, .slice TL (g k).l.length cl] 70))
   rw [← hv]
   have hx : Qa wo wb := by rw [hv]; exact (Qa.refl _).alloc _
   have BD : Qb wb wo.heap.size 70 #[.int .i64 (g k).on.y, .int .i64 (g k).on.m, .bool (g k).on.s, .int .i64 (g k).on.d, .bool (g k).i, .string (g k).w, .slice TL (g k).l.length cl] := by rw [hv]; exact Qb.new _ _ _
   obtain ⟨bd, hbd⟩ := Qg (wo.heap.size)
   rw [← hbd] at BD ⊢
   have hlo : wo.heap.size ≤ bd := by omega
   clear hv c0 c1 c2 c3 c4 c5 c6 hb hbd
   obtain ⟨q0, q1, q2, q3, q4, q5, q6⟩ := X9 BD
   have ql := BD.lt
   go_upto_region 7 with (go_at_call 20; (with_reducible refine Calls.mono (NC _ (HL.ext hx)) ?_); rintro e w2 ⟨vl, rfl, h2, hS⟩; obtain ⟨F0, m0, rfl⟩ := Q9 hS; clear q0 q1 q2 q3 q4 q5 q6 ql; obtain ⟨q0, q1, q2, q3, q4, q5, q6⟩ := X9 (Qb.ext BD h2); have ql := Qb.lt (Qb.ext BD h2); have f6 := Qb.frozen (Qb.ext BD h2) 6)
   have BD3 := Er (Qb.ext BD h2) (.slice F0 (g k).l.length m0)
   have hx3 : Qa wo (w2.setCell ⟨bd, 6, none⟩ (.slice F0 (g k).l.length m0)) := (hx.trans h2).setCell (p := ⟨bd, 6, none⟩) hlo _
   have hS3 : Jk (w2.setCell ⟨bd, 6, none⟩ (.slice F0 (g k).l.length m0)) w.heap.size (.slice F0 (g k).l.length m0) (g k).l := X3 (Zl (Qb.ext BD h2) (by decide) hS 6 _) (Nat.le_trans hE.size hx.size)
   generalize w2.setCell ⟨bd, 6, none⟩ (.slice F0 (g k).l.length m0) = w3 at *
   clear q0 q1 q2 q3 q4 q5 q6 ql f6 hS h2 BD hx NC HL
   obtain ⟨q0, q1, q2, q3, q4, q5, q6⟩ := X9 BD3
   have ql := Qb.lt BD3
   replace hO := Z2 hO hx3
   have hLs : ∀ i, i < k → Jk w3 w.heap.size (vs' i) (g i).l := fun i hi => Z2 (hLo i hi) hx3
   replace hE := hE.trans hx3
   have hlen := Ye (f := fun i => Qs (g i) (vs' i)) (sz := 7) (fun _ => rfl) k
   go_wp2_with (at_builtin; refine wpList_append_own_at _ rfl _ _ 29 rfl w.heap.size 70 i0 (.agg #[.int .i64 0, .int .i64 0, .bool false, .int .i64 0, .bool false, .string ⟨#[]⟩, .slice none 0 0]) 7 80 Tryz.underlying29 hi hz0 hz1 hz2 rfl (by decide) _ _ _ rfl (hO.alloc _) ⟨w3.heap.size, 0, none⟩ 1 1 (Qs (g k) (.slice F0 (g k).l.length m0)) rfl rfl (U5 _ _ _) (Gp _ _ _ _) (by unfold maxLen; omega) (by omega) (by have := hE.size; simp; omega) ?_; intro o' w5 hown hgrow _ _)
   have E5 : Qa w w5 := (hE.alloc _).grown hgrow (fun q hq => (hO.lt q hq).1)
   have D5 := Cs hO hLs hS3 hown hgrow
   exact ⟨⟨k + 1, by omega, by go_num, D5, E5⟩, by simp [intOf]; omega⟩
  ·obtain rfl : k = n := by omega
   go_wp2
   go_ret
   exact ⟨_, rfl, hE, vs', hO, hLo⟩
theorem Jc {W : World} {b : Nat} {t : TypeId} {cs : Array Value} (h : Qb W b t cs) (i : Nat) (u : Value) : Qb (W.setCell ⟨b, i, none⟩ u) b t (cs.setIfInBounds i u) := by unfold Qb at h ⊢; simp [World.setCell, Array.getElem?_modify, h]
theorem J1 {W : World} {b n : Nat} {v : Value} {g : Nat → Dl} (h : Zr W b v n g) : ∃ F m, v = .slice F n m := by
 obtain ⟨_, h1, _⟩ := h
 exact Q9 h1
structure Q8 (W : World) (b : Nat) (p : Pd) (vo vd vc : Value) : Prop where
 o : Jk W b vo p.o
 d : Zr W b vd p.d.length (fun i => p.d.getD i Qr)
 c : Jk W b vc p.c
theorem Jj {W : World} {b : Nat} {p : Pd} {vo vd vc : Value} (h : Q8 W b p vo vd vc) : Zz W p vo vd vc := ⟨Wl h.o, G5 h.d, Wl h.c⟩
theorem Q8.ext {W W' : World} {b : Nat} {p : Pd} {vo vd vc : Value} (h : Q8 W b p vo vd vc) (x : Qa W W') : Q8 W' b p vo vd vc := ⟨Z2 h.o x, h.d.ext x, Z2 h.c x⟩
theorem Q8.le {W : World} {b b' : Nat} {p : Pd} {vo vd vc : Value} (h : Q8 W b p vo vd vc) (hb : b' ≤ b) : Q8 W b' p vo vd vc := ⟨X3 h.o hb, h.d.le hb, X3 h.c hb⟩
theorem Zr.set {W : World} {bb : Nat} {t : TypeId} {cs : Array Value} (hB : Qb W bb t cs) (h1 : t ≠ 68) (h2 : t ≠ 70) {b n : Nat} {v : Value} {g : Nat → Dl} (h : Zr W b v n g) (j : Nat) (u : Value) : Zr (W.setCell ⟨bb, j, none⟩ u) b v n g := by
 obtain ⟨vs, g1, g2⟩ := h
 exact ⟨vs, Zl hB h2 g1 j u, fun i hi => Zl hB h1 (g2 i hi) j u⟩
theorem Nh (p : Pd) (vo vd vc : Value) (w : World) (hP : Zz w p vo vd vc) (hso : p.o.length * 24 ≤ 140737488351232) (hsc : p.c.length * 24 ≤ 140737488351232) (hsl : ∀ i, i < p.d.length → (p.d.getD i Qr).l.length * 24 ≤ 140737488351232) (hsd : p.d.length * 80 ≤ 140737488351232) :
  Calls Tryz.prog 8 #[.agg #[.string p.h, .int .i64 p.a.y, .int .i64 p.a.m, .bool p.a.s, .int .i64 p.a.d, .int .i64 p.b.y, .int .i64 p.b.m, .bool p.b.s, .int .i64 p.b.d, vo, vd, vc]] w fun e w' => ∃ vo' vd' vc', e = .returned (.agg #[.string p.h, .int .i64 p.a.y, .int .i64 p.a.m, .bool p.a.s, .int .i64 p.a.d, .int .i64 p.b.y, .int .i64 p.b.m, .bool p.b.s, .int .i64 p.b.d, vo', vd', vc']) ∧ Qa w w' ∧ Q8 w' w.heap.size p vo' vd' vc' := by
 obtain ⟨t1, s1, e1, _⟩ := id hP.o
 subst e1
 obtain ⟨t2, s2, _, e2, _⟩ := id hP.d
 subst e2
 obtain ⟨t3, s3, e3, _⟩ := id hP.c
 subst e3
 have NO := fun w h => Kz (.slice t1 p.o.length s1) p.o w h hso
 have NC := fun w h => Kz (.slice t3 p.c.length s3) p.c w h hsc
 have ND := fun w h => Gv (.slice t2 p.d.length s2) p.d w h hsl hsd
 go_enter Tryz.func8, Tryz.ntmps8
 go_upto_region 1 with (fail)
 obtain ⟨v, hv⟩ := Qg ((w.alloc (.cells #[.string p.h, .int .i64 p.a.y, .int .i64 p.a.m, .bool p.a.s, .int .i64 p.a.d, .int .i64 p.b.y, .int .i64 p.b.m, .bool p.b.s, .int .i64 p.b.d, .slice t1 p.o.length s1, .slice t2 p.d.length s2, .slice t3 p.c.length s3] 31)).alloc (.cells #[.string ⟨#[]⟩, .int .i64 0, .int .i64 0, .bool false, .int .i64 0, .int .i64 0, .int .i64 0, .bool false, .int .i64 0, .slice none 0 0, .slice none 0 0, .slice none 0 0] 31))
 rw [← hv]
 have E : Qa w v := by rw [hv]; exact ((Qa.refl _).alloc _).alloc _
 have B1 : Qb v w.heap.size 31 #[.string p.h, .int .i64 p.a.y, .int .i64 p.a.m, .bool p.a.s, .int .i64 p.a.d, .int .i64 p.b.y, .int .i64 p.b.m, .bool p.b.s, .int .i64 p.b.d, .slice t1 p.o.length s1, .slice t2 p.d.length s2, .slice t3 p.c.length s3] := by rw [hv]; exact (Qb.new _ _ _).alloc _
 have B2 : Qb v (w.heap.size + 1) 31 #[.string ⟨#[]⟩, .int .i64 0, .int .i64 0, .bool false, .int .i64 0, .int .i64 0, .int .i64 0, .bool false, .int .i64 0, .slice none 0 0, .slice none 0 0, .slice none 0 0] := by rw [hv]; exact Qb.at _ _ _ _ (by simp)
 clear hv
 obtain ⟨b2, hb2⟩ := Qg (w.heap.size + 1)
 rw [← hb2] at B2 ⊢
 obtain ⟨b1, hb1⟩ := Qg (w.heap.size)
 rw [← hb1] at B1 ⊢
 have hbr : w.heap.size ≤ b2 := by omega
 have hbr1 : w.heap.size ≤ b1 := by omega
 have hn21 : b2 ≠ b1 := by omega
 clear hb1 hb2
 obtain ⟨k0, k1, k2, k3, k4, k5, k6, k7, k8, k9, k10, k11⟩ := Qb.c12 B1
 have kl := Qb.lt B1
 go_upto_region 2 with (go_at_call 20; (with_reducible refine Calls.mono (NO _ (hP.ext E).o) ?_); rintro e w2 ⟨vl, rfl, h2, hS⟩; obtain ⟨F1, m1, rfl⟩ := Q9 hS; clear k0 k1 k2 k3 k4 k5 k6 k7 k8 k9 k10 k11 kl; obtain ⟨k0, k1, k2, k3, k4, k5, k6, k7, k8, k9, k10, k11⟩ := Qb.c12 (Qb.ext B1 h2); have kl := Qb.lt (Qb.ext B1 h2); have ff := Qb.frozen (Qb.ext B1 h2) 9)
 have hEs := E.size
 replace E := (E.trans h2).setCell (p := ⟨b1, 9, none⟩) hbr1 (.slice F1 p.o.length m1)
 have BX : Qb _ _ _ #[.string p.h, .int .i64 p.a.y, .int .i64 p.a.m, .bool p.a.s, .int .i64 p.a.d, .int .i64 p.b.y, .int .i64 p.b.m, .bool p.b.s, .int .i64 p.b.d, .slice F1 p.o.length m1, .slice t2 p.d.length s2, .slice t3 p.c.length s3] := Jc (Qb.ext B1 h2) 9 (.slice F1 p.o.length m1)
 have B2X := Qh (Qb.ext B2 h2) hn21 9 (.slice F1 p.o.length m1)
 have S1 : Jk (w2.setCell ⟨b1, 9, none⟩ (.slice F1 p.o.length m1)) w.heap.size (.slice F1 p.o.length m1) p.o := X3 (Zl (Qb.ext B1 h2) (by decide) hS 9 (.slice F1 p.o.length m1)) hEs
 generalize w2.setCell ⟨b1, 9, none⟩ (.slice F1 p.o.length m1) = wz at *
 clear k0 k1 k2 k3 k4 k5 k6 k7 k8 k9 k10 k11 kl
 clear B1 B2 h2 ff hS hEs
 have B1 := BX
 have B2 := B2X
 clear BX B2X
 obtain ⟨k0, k1, k2, k3, k4, k5, k6, k7, k8, k9, k10, k11⟩ := Qb.c12 B1
 have kl := Qb.lt B1
 go_upto_region 3 with (go_at_call 20; (with_reducible refine Calls.mono (NC _ (hP.ext E).c) ?_); rintro e w2 ⟨vl, rfl, h2, hS⟩; obtain ⟨F3, m3, rfl⟩ := Q9 hS; clear k0 k1 k2 k3 k4 k5 k6 k7 k8 k9 k10 k11 kl; obtain ⟨k0, k1, k2, k3, k4, k5, k6, k7, k8, k9, k10, k11⟩ := Qb.c12 (Qb.ext B1 h2); have kl := Qb.lt (Qb.ext B1 h2); have ff := Qb.frozen (Qb.ext B1 h2) 11)
 have hEs := E.size
 replace E := (E.trans h2).setCell (p := ⟨b1, 11, none⟩) hbr1 (.slice F3 p.c.length m3)
 have BX : Qb _ _ _ #[.string p.h, .int .i64 p.a.y, .int .i64 p.a.m, .bool p.a.s, .int .i64 p.a.d, .int .i64 p.b.y, .int .i64 p.b.m, .bool p.b.s, .int .i64 p.b.d, .slice F1 p.o.length m1, .slice t2 p.d.length s2, .slice F3 p.c.length m3] := Jc (Qb.ext B1 h2) 11 (.slice F3 p.c.length m3)
 have B2X := Qh (Qb.ext B2 h2) hn21 11 (.slice F3 p.c.length m3)
 have S3 : Jk (w2.setCell ⟨b1, 11, none⟩ (.slice F3 p.c.length m3)) w.heap.size (.slice F3 p.c.length m3) p.c := X3 (Zl (Qb.ext B1 h2) (by decide) hS 11 (.slice F3 p.c.length m3)) hEs
 replace S1 := Zl (Qb.ext B1 h2) (by decide) (Z2 S1 h2) 11 (.slice F3 p.c.length m3)
 generalize w2.setCell ⟨b1, 11, none⟩ (.slice F3 p.c.length m3) = wz at *
 clear k0 k1 k2 k3 k4 k5 k6 k7 k8 k9 k10 k11 kl
 clear B1 B2 h2 ff hS hEs
 have B1 := BX
 have B2 := B2X
 clear BX B2X
 obtain ⟨k0, k1, k2, k3, k4, k5, k6, k7, k8, k9, k10, k11⟩ := Qb.c12 B1
 have kl := Qb.lt B1
 go_upto_region 4 with (go_at_call 27; (with_reducible refine Calls.mono (ND _ (hP.ext E).d) ?_); rintro e w2 ⟨vl, rfl, h2, hS⟩; obtain ⟨F2, m2, rfl⟩ := J1 hS; clear k0 k1 k2 k3 k4 k5 k6 k7 k8 k9 k10 k11 kl; obtain ⟨k0, k1, k2, k3, k4, k5, k6, k7, k8, k9, k10, k11⟩ := Qb.c12 (Qb.ext B1 h2); have kl := Qb.lt (Qb.ext B1 h2); have ff := Qb.frozen (Qb.ext B1 h2) 10)
 have hEs := E.size
 replace E := (E.trans h2).setCell (p := ⟨b1, 10, none⟩) hbr1 (.slice F2 p.d.length m2)
 have BX : Qb _ _ _ #[.string p.h, .int .i64 p.a.y, .int .i64 p.a.m, .bool p.a.s, .int .i64 p.a.d, .int .i64 p.b.y, .int .i64 p.b.m, .bool p.b.s, .int .i64 p.b.d, .slice F1 p.o.length m1, .slice F2 p.d.length m2, .slice F3 p.c.length m3] := Jc (Qb.ext B1 h2) 10 (.slice F2 p.d.length m2)
 have B2X := Qh (Qb.ext B2 h2) hn21 10 (.slice F2 p.d.length m2)
 have S2 : Zr (w2.setCell ⟨b1, 10, none⟩ (.slice F2 p.d.length m2)) w.heap.size (.slice F2 p.d.length m2) p.d.length (fun i => p.d.getD i Qr) := (Zr.set (Qb.ext B1 h2) (by decide) (by decide) hS 10 (.slice F2 p.d.length m2)).le hEs
 replace S1 := Zl (Qb.ext B1 h2) (by decide) (Z2 S1 h2) 10 (.slice F2 p.d.length m2)
 replace S3 := Zl (Qb.ext B1 h2) (by decide) (Z2 S3 h2) 10 (.slice F2 p.d.length m2)
 generalize w2.setCell ⟨b1, 10, none⟩ (.slice F2 p.d.length m2) = wz at *
 clear k0 k1 k2 k3 k4 k5 k6 k7 k8 k9 k10 k11 kl
 clear B1 B2 h2 ff hS hEs
 have B1 := BX
 have B2 := B2X
 clear BX B2X
 obtain ⟨k0, k1, k2, k3, k4, k5, k6, k7, k8, k9, k10, k11⟩ := Qb.c12 B1
 have kl := Qb.lt B1
 have f0 := Qb.frozen B2 0
 have f1 := Qb.frozen B2 1
 have f2 := Qb.frozen B2 2
 have f3 := Qb.frozen B2 3
 have f4 := Qb.frozen B2 4
 have f5 := Qb.frozen B2 5
 have f6 := Qb.frozen B2 6
 have f7 := Qb.frozen B2 7
 have f8 := Qb.frozen B2 8
 have f9 := Qb.frozen B2 9
 have f10 := Qb.frozen B2 10
 have f11 := Qb.frozen B2 11
 obtain ⟨z0, z1, z2, z3, z4, z5, z6, z7, z8, z9, z10, z11⟩ := Qb.c12 B2
 have zl := Qb.lt B2
 have A0 := Zl B2 (by decide) S1 0 (.string p.h)
 have C0 := Zl B2 (by decide) S3 0 (.string p.h)
 have D0 := Zr.set B2 (by decide) (by decide) S2 0 (.string p.h)
 have E0 := E.setCell (p := ⟨b2, 0, none⟩) hbr (.string p.h)
 have T1 : Qb _ _ _ #[.string p.h, .int .i64 0, .int .i64 0, .bool false, .int .i64 0, .int .i64 0, .int .i64 0, .bool false, .int .i64 0, .slice none 0 0, .slice none 0 0, .slice none 0 0] := Jc B2 0 (.string p.h)
 clear S1 S2 S3
 have A1 := Zl T1 (by decide) A0 1 (.int .i64 p.a.y)
 have C1 := Zl T1 (by decide) C0 1 (.int .i64 p.a.y)
 have D1 := Zr.set T1 (by decide) (by decide) D0 1 (.int .i64 p.a.y)
 have E1 := E0.setCell (p := ⟨b2, 1, none⟩) hbr (.int .i64 p.a.y)
 have T2 : Qb _ _ _ #[.string p.h, .int .i64 p.a.y, .int .i64 0, .bool false, .int .i64 0, .int .i64 0, .int .i64 0, .bool false, .int .i64 0, .slice none 0 0, .slice none 0 0, .slice none 0 0] := Jc T1 1 (.int .i64 p.a.y)
 clear A0 C0 D0 E0 T1
 have A2 := Zl T2 (by decide) A1 2 (.int .i64 p.a.m)
 have C2 := Zl T2 (by decide) C1 2 (.int .i64 p.a.m)
 have D2 := Zr.set T2 (by decide) (by decide) D1 2 (.int .i64 p.a.m)
 have E2 := E1.setCell (p := ⟨b2, 2, none⟩) hbr (.int .i64 p.a.m)
 have T3 : Qb _ _ _ #[.string p.h, .int .i64 p.a.y, .int .i64 p.a.m, .bool false, .int .i64 0, .int .i64 0, .int .i64 0, .bool false, .int .i64 0, .slice none 0 0, .slice none 0 0, .slice none 0 0] := Jc T2 2 (.int .i64 p.a.m)
 clear A1 C1 D1 E1 T2
 have A3 := Zl T3 (by decide) A2 3 (.bool p.a.s)
 have C3 := Zl T3 (by decide) C2 3 (.bool p.a.s)
 have D3 := Zr.set T3 (by decide) (by decide) D2 3 (.bool p.a.s)
 have E3 := E2.setCell (p := ⟨b2, 3, none⟩) hbr (.bool p.a.s)
 have T4 : Qb _ _ _ #[.string p.h, .int .i64 p.a.y, .int .i64 p.a.m, .bool p.a.s, .int .i64 0, .int .i64 0, .int .i64 0, .bool false, .int .i64 0, .slice none 0 0, .slice none 0 0, .slice none 0 0] := Jc T3 3 (.bool p.a.s)
 clear A2 C2 D2 E2 T3
 have A4 := Zl T4 (by decide) A3 4 (.int .i64 p.a.d)
 have C4 := Zl T4 (by decide) C3 4 (.int .i64 p.a.d)
 have D4 := Zr.set T4 (by decide) (by decide) D3 4 (.int .i64 p.a.d)
 have E4 := E3.setCell (p := ⟨b2, 4, none⟩) hbr (.int .i64 p.a.d)
 have T5 : Qb _ _ _ #[.string p.h, .int .i64 p.a.y, .int .i64 p.a.m, .bool p.a.s, .int .i64 p.a.d, .int .i64 0, .int .i64 0, .bool false, .int .i64 0, .slice none 0 0, .slice none 0 0, .slice none 0 0] := Jc T4 4 (.int .i64 p.a.d)
 clear A3 C3 D3 E3 T4
 have A5 := Zl T5 (by decide) A4 5 (.int .i64 p.b.y)
 have C5 := Zl T5 (by decide) C4 5 (.int .i64 p.b.y)
 have D5 := Zr.set T5 (by decide) (by decide) D4 5 (.int .i64 p.b.y)
 have E5 := E4.setCell (p := ⟨b2, 5, none⟩) hbr (.int .i64 p.b.y)
 have T6 : Qb _ _ _ #[.string p.h, .int .i64 p.a.y, .int .i64 p.a.m, .bool p.a.s, .int .i64 p.a.d, .int .i64 p.b.y, .int .i64 0, .bool false, .int .i64 0, .slice none 0 0, .slice none 0 0, .slice none 0 0] := Jc T5 5 (.int .i64 p.b.y)
 clear A4 C4 D4 E4 T5
 have A6 := Zl T6 (by decide) A5 6 (.int .i64 p.b.m)
 have C6 := Zl T6 (by decide) C5 6 (.int .i64 p.b.m)
 have D6 := Zr.set T6 (by decide) (by decide) D5 6 (.int .i64 p.b.m)
 have E6 := E5.setCell (p := ⟨b2, 6, none⟩) hbr (.int .i64 p.b.m)
 have T7 : Qb _ _ _ #[.string p.h, .int .i64 p.a.y, .int .i64 p.a.m, .bool p.a.s, .int .i64 p.a.d, .int .i64 p.b.y, .int .i64 p.b.m, .bool false, .int .i64 0, .slice none 0 0, .slice none 0 0, .slice none 0 0] := Jc T6 6 (.int .i64 p.b.m)
 clear A5 C5 D5 E5 T6
 have A7 := Zl T7 (by decide) A6 7 (.bool p.b.s)
 have C7 := Zl T7 (by decide) C6 7 (.bool p.b.s)
 have D7 := Zr.set T7 (by decide) (by decide) D6 7 (.bool p.b.s)
 have E7 := E6.setCell (p := ⟨b2, 7, none⟩) hbr (.bool p.b.s)
 have T8 : Qb _ _ _ #[.string p.h, .int .i64 p.a.y, .int .i64 p.a.m, .bool p.a.s, .int .i64 p.a.d, .int .i64 p.b.y, .int .i64 p.b.m, .bool p.b.s, .int .i64 0, .slice none 0 0, .slice none 0 0, .slice none 0 0] := Jc T7 7 (.bool p.b.s)
 clear A6 C6 D6 E6 T7
 have A8 := Zl T8 (by decide) A7 8 (.int .i64 p.b.d)
 have C8 := Zl T8 (by decide) C7 8 (.int .i64 p.b.d)
 have D8 := Zr.set T8 (by decide) (by decide) D7 8 (.int .i64 p.b.d)
 have E8 := E7.setCell (p := ⟨b2, 8, none⟩) hbr (.int .i64 p.b.d)
 have T9 : Qb _ _ _ #[.string p.h, .int .i64 p.a.y, .int .i64 p.a.m, .bool p.a.s, .int .i64 p.a.d, .int .i64 p.b.y, .int .i64 p.b.m, .bool p.b.s, .int .i64 p.b.d, .slice none 0 0, .slice none 0 0, .slice none 0 0] := Jc T8 8 (.int .i64 p.b.d)
 clear A7 C7 D7 E7 T8
 have A9 := Zl T9 (by decide) A8 9 (.slice F1 p.o.length m1)
 have C9 := Zl T9 (by decide) C8 9 (.slice F1 p.o.length m1)
 have D9 := Zr.set T9 (by decide) (by decide) D8 9 (.slice F1 p.o.length m1)
 have E9 := E8.setCell (p := ⟨b2, 9, none⟩) hbr (.slice F1 p.o.length m1)
 have T10 : Qb _ _ _ #[.string p.h, .int .i64 p.a.y, .int .i64 p.a.m, .bool p.a.s, .int .i64 p.a.d, .int .i64 p.b.y, .int .i64 p.b.m, .bool p.b.s, .int .i64 p.b.d, .slice F1 p.o.length m1, .slice none 0 0, .slice none 0 0] := Jc T9 9 (.slice F1 p.o.length m1)
 clear A8 C8 D8 E8 T9
 have A10 := Zl T10 (by decide) A9 10 (.slice F2 p.d.length m2)
 have C10 := Zl T10 (by decide) C9 10 (.slice F2 p.d.length m2)
 have D10 := Zr.set T10 (by decide) (by decide) D9 10 (.slice F2 p.d.length m2)
 have E10 := E9.setCell (p := ⟨b2, 10, none⟩) hbr (.slice F2 p.d.length m2)
 have T11 : Qb _ _ _ #[.string p.h, .int .i64 p.a.y, .int .i64 p.a.m, .bool p.a.s, .int .i64 p.a.d, .int .i64 p.b.y, .int .i64 p.b.m, .bool p.b.s, .int .i64 p.b.d, .slice F1 p.o.length m1, .slice F2 p.d.length m2, .slice none 0 0] := Jc T10 10 (.slice F2 p.d.length m2)
 clear A9 C9 D9 E9 T10
 have A11 := Zl T11 (by decide) A10 11 (.slice F3 p.c.length m3)
 have C11 := Zl T11 (by decide) C10 11 (.slice F3 p.c.length m3)
 have D11 := Zr.set T11 (by decide) (by decide) D10 11 (.slice F3 p.c.length m3)
 have E11 := E10.setCell (p := ⟨b2, 11, none⟩) hbr (.slice F3 p.c.length m3)
 have T12 : Qb _ _ _ #[.string p.h, .int .i64 p.a.y, .int .i64 p.a.m, .bool p.a.s, .int .i64 p.a.d, .int .i64 p.b.y, .int .i64 p.b.m, .bool p.b.s, .int .i64 p.b.d, .slice F1 p.o.length m1, .slice F2 p.d.length m2, .slice F3 p.c.length m3] := Jc T11 11 (.slice F3 p.c.length m3)
 clear A10 C10 D10 E10 T11
 have wq' : ∃ wq, wq = ((((((((((((wz.setCell ⟨b2, 0, none⟩ (.string p.h)).setCell ⟨b2, 1, none⟩ (.int .i64 p.a.y)).setCell ⟨b2, 2, none⟩ (.int .i64 p.a.m)).setCell ⟨b2, 3, none⟩ (.bool p.a.s)).setCell ⟨b2, 4, none⟩ (.int .i64 p.a.d)).setCell ⟨b2, 5, none⟩ (.int .i64 p.b.y)).setCell ⟨b2, 6, none⟩ (.int .i64 p.b.m)).setCell ⟨b2, 7, none⟩ (.bool p.b.s)).setCell ⟨b2, 8, none⟩ (.int .i64 p.b.d)).setCell ⟨b2, 9, none⟩ (.slice F1 p.o.length m1)).setCell ⟨b2, 10, none⟩ (.slice F2 p.d.length m2)).setCell ⟨b2, 11, none⟩ (.slice F3 p.c.length m3)) := ⟨_, rfl⟩
 obtain ⟨wq, hwq⟩ := wq'
 go_wp2
 rw [← hwq] at A11 C11 D11 E11 T12 ⊢
 clear hwq
 obtain ⟨y0, y1, y2, y3, y4, y5, y6, y7, y8, y9, y10, y11⟩ := Qb.c12 T12
 refine bodyPost_ret (v := .agg #[.string p.h, .int .i64 p.a.y, .int .i64 p.a.m, .bool p.a.s, .int .i64 p.a.d, .int .i64 p.b.y, .int .i64 p.b.m, .bool p.b.s, .int .i64 p.b.d, .slice F1 p.o.length m1, .slice F2 p.d.length m2, .slice F3 p.c.length m3]) (by simp [results, Tryz.results8, go_sem, y0, y1, y2, y3, y4, y5, y6, y7, y8, y9, y10, y11]) rfl ⟨_, _, _, rfl, E11, A11, D11, C11⟩
end
section
open Go Go.RowKit Go.Shelf
attribute [local go_sem] Zs
attribute [local go_sem high] Og
theorem Rp {l1 l2 : List Lt} {k : Nat} (h : Qz l1 k ≠ Qz l2 k) : l1 ≠ l2 := fun e => h (by rw [e])
theorem Rm {l1 l2 : List Lt} (hl : l1.length = l2.length) (h : ∀ k, k < l1.length → Qz l1 k = Qz l2 k) : l1 = l2 := by
 refine List.ext_getElem hl fun i h1 h2 => ?_
 have := h i h1
 rwa [Ut h1, Ut h2] at this
theorem Rv {x y : Lt} (h1 : x.g = y.g) (h2 : x.n = y.n) : x = y := by cases x; cases y; simp_all
theorem Tv {c : Qf} (hv : c.valid = true) (d : Dt) : 0 ≤ c.numV d ∧ c.numV d ≤ 1000000000 := by
 refine ⟨Qaz hv, ?_⟩
 by_cases h : c.numV d = 0
 ·omega
 ·obtain ⟨h1, h2, _⟩ := Vl hv h
  have h3 := (num_le h1).2
  have h4 := (V4 c c.ny).2
  have h5 := Tw hv
  omega
theorem Qb5 (v1 v2 : Value) (l1 l2 : List Lt) (w : World) (h1 : Zn w v1 l1) (h2 : Zn w v2 l2) :
  Calls Tryz.prog 13 #[v1, v2] w fun e w' => e = .returned (.bool (decide (l1 = l2))) ∧ Qa w w' := by
 obtain ⟨A, ca, rfl, hA, hca, hca', _⟩ := h1
 obtain ⟨B, cb, rfl, hB, hcb, hcb', _⟩ := h2
 have hn1 : l1.length ≤ 9223372036854775807 := Nat.le_trans hca (Nat.le_trans hca' (by decide))
 have hn2 : l2.length ≤ 9223372036854775807 := Nat.le_trans hcb (Nat.le_trans hcb' (by decide))
 clear hca hca' hcb hcb'
 by_cases hl : l1.length = l2.length
 rotate_left
 ·have hr : decide (l1 = l2) = false := decide_eq_false fun e => hl (by rw [e])
  rw [hr]
  have g1 : ((l1.length : Int) == (l2.length : Int)) = false := beq_eq_false_iff_ne.2 (by omega)
  have g2 : (l1.length == l2.length) = false := beq_eq_false_iff_ne.2 hl
  clear hr hA hB
  generalize l1.length = n1 at *
  generalize l2.length = n2 at *
  go_enter Tryz.func13, Tryz.ntmps13
  go_wp2
  go_ret
  exact ⟨rfl, Qa.refl _⟩
 obtain ⟨R, hR⟩ := Qg (decide (l1 = l2))
 have hno : Hid (∀ k, k < l1.length → Qz l1 k ≠ Qz l2 k → R = false) := fun _ _ h => by rw [hR]; exact decide_eq_false (Rp h)
 have hyes : Hid ((∀ k, k < l1.length → Qz l1 k = Qz l2 k) → R = true) := fun h => by rw [hR]; exact decide_eq_true (Rm hl h)
 rw [← hR]
 clear hR
 rw [← hl] at hB ⊢
 clear hl hn2
 generalize l1.length = n at *
 generalize Qz l1 = f at *
 generalize Qz l2 = g at *
 go_enter Tryz.func13, Tryz.ntmps13
 go_upto_region 4 with (fail)
 go_loopw [5] (fun i wr => ∃ k : Nat, k ≤ n ∧ i = .int .i64 k ∧ Hid (∀ j, j < k → f j = g j) ∧ Qa w wr) (fun i _ => n - (intOf i).toNat)
 case atStart => exact ⟨0, Nat.zero_le _, rfl, fun j h => absurd h (by omega), Qa.refl _⟩
 case round =>
  obtain ⟨k, hk, rfl, heq, hE⟩ := hrel
  obtain ⟨wo, rfl⟩ := Qg wr
  by_cases hlt : k < n
  ·obtain ⟨b, off, rfl, hb, hc⟩ := (hA.ext hE) (by omega)
   have c0 : wo.cell? ⟨b, off + k * 2, none⟩ = some (.string (f k).g) := by simpa [Q4] using hc k 0 _ hlt rfl
   have c1 : wo.cell? ⟨b, off + k * 2 + 1, none⟩ = some (.int .i64 (f k).n) := by simpa [Q4] using hc k 1 _ hlt rfl
   clear hc
   obtain ⟨b2, off2, rfl, hb2, hc⟩ := (hB.ext hE) (by omega)
   have d0 : wo.cell? ⟨b2, off2 + k * 2, none⟩ = some (.string (g k).g) := by simpa [Q4] using hc k 0 _ hlt rfl
   have d1 : wo.cell? ⟨b2, off2 + k * 2 + 1, none⟩ = some (.int .i64 (g k).n) := by simpa [Q4] using hc k 1 _ hlt rfl
   clear hc hA hB
   by_cases e : f k = g k
   ·have hall : Hid (∀ j, j < k + 1 → f j = g j) := fun j hj => by
     by_cases e2 : j = k
     ·subst e2; exact e
     ·exact heq.out j (by omega)
    rw [← e] at d0 d1
    clear heq hno hyes e
    generalize (f k).g = s at *
    generalize (f k).n = z at *
    go_upto_region 6 with (fail)
    refine Zd wo Qo (by kernel_rfl) (by repeat (first | exact Qa.refl _ | (refine Qa.alloc ?_ _) | (refine Qa.trans ?_ (by assumption)))) ?_
    intro hne hrx hry
    try simp only []
    try simp only [List.append_eq, List.cons_append, List.nil_append]
    skip
    repeat (first
     | go_big_quiet_skip
     | (go_big_quiet_want; go_big_quiet_op; go_big_quiet_on))
    clear hne hry hrx
    refine wpQuiet_nil ?_
    intro w2 h2
    obtain ⟨hcw2, hfw2, hzw2⟩ := Qa.rules h2
    try simp only [World.size_alloc] at hzw2
    obtain ⟨hcbw2, hfbw2, hzbw2⟩ := Qa.rules (show Qa wo w2 from (by repeat (first | exact Qa.refl _ | (refine Qa.alloc ?_ _) | (refine Qa.trans ?_ (by assumption)))))
    clear hcw2 hfw2
    go_wp2
    exact ⟨⟨k + 1, by omega, by go_num, hall, hE.trans h2⟩, by simp [intOf]; omega⟩
   ·obtain rfl := hno.out k hlt e
    have hq : (((f k).g.toList == (g k).g.toList) && ((f k).n == (g k).n)) = false := by
     rw [Bool.and_eq_false_iff]
     by_cases e1 : (f k).g = (g k).g
     ·exact .inr (beq_eq_false_iff_ne.2 fun e2 => e (Rv e1 e2))
     ·exact .inl (beq_eq_false_iff_ne.2 fun e2 => e1 (Kq e2))
    clear heq hno hyes e
    generalize (f k).g = s at *
    generalize (f k).n = z at *
    generalize (g k).g = s' at *
    generalize (g k).n = z' at *
    generalize hq1 : (s.toList == s'.toList) = q1 at *
    generalize hq2 : (z == z') = q2 at *
    have hq' : (q1 = true → q2 = false) := by cases q1 <;> simp_all
    go_upto_region 6 with (fail)
    refine Zd wo Qo (by kernel_rfl) (by repeat (first | exact Qa.refl _ | (refine Qa.alloc ?_ _) | (refine Qa.trans ?_ (by assumption)))) ?_
    intro hne hrx hry
    try simp only []
    try simp only [List.append_eq, List.cons_append, List.nil_append]
    skip
    repeat (first
     | go_big_quiet_skip
     | (go_big_quiet_want; go_big_quiet_op; go_big_quiet_on))
    clear hne hry hrx
    refine wpQuiet_nil ?_
    intro w2 h2
    obtain ⟨hcw2, hfw2, hzw2⟩ := Qa.rules h2
    try simp only [World.size_alloc] at hzw2
    obtain ⟨hcbw2, hfbw2, hzbw2⟩ := Qa.rules (show Qa wo w2 from (by repeat (first | exact Qa.refl _ | (refine Qa.alloc ?_ _) | (refine Qa.trans ?_ (by assumption)))))
    clear hcw2 hfw2
    cases q1 <;> cases q2 <;> first | (exact absurd (hq' rfl) (by decide)) | (go_wp2; go_ret; exact ⟨rfl, hE.trans h2⟩)
  ·obtain rfl : k = n := by omega
   obtain rfl := hyes.out heq.out
   go_wp2
   go_ret
   exact ⟨rfl, hE⟩
theorem Ak (v1 v2 : Value) (l1 l2 : List Lt) (w : World) (h1 : Zn w v1 l1) (h2 : Zn w v2 l2) :
  Calls Tryz.prog 63 #[v1, v2] w fun e w' => e = .returned (.bool (decide (l1 = l2))) ∧ Qa w w' := by
 obtain ⟨A, ca, rfl, hA, hca, hca', _⟩ := h1
 obtain ⟨B, cb, rfl, hB, hcb, hcb', _⟩ := h2
 have hn1 : l1.length ≤ 9223372036854775807 := Nat.le_trans hca (Nat.le_trans hca' (by decide))
 have hn2 : l2.length ≤ 9223372036854775807 := Nat.le_trans hcb (Nat.le_trans hcb' (by decide))
 clear hca hca' hcb hcb'
 by_cases hl : l1.length = l2.length
 rotate_left
 ·have hr : decide (l1 = l2) = false := decide_eq_false fun e => hl (by rw [e])
  rw [hr]
  have g1 : ((l1.length : Int) == (l2.length : Int)) = false := beq_eq_false_iff_ne.2 (by omega)
  have g2 : (l1.length == l2.length) = false := beq_eq_false_iff_ne.2 hl
  clear hr hA hB
  generalize l1.length = n1 at *
  generalize l2.length = n2 at *
  go_enter Tryz.func63, Tryz.ntmps63
  go_wp2
  go_ret
  exact ⟨rfl, Qa.refl _⟩
 obtain ⟨R, hR⟩ := Qg (decide (l1 = l2))
 have hno : Hid (∀ k, k < l1.length → Qz l1 k ≠ Qz l2 k → R = false) := fun _ _ h => by rw [hR]; exact decide_eq_false (Rp h)
 have hyes : Hid ((∀ k, k < l1.length → Qz l1 k = Qz l2 k) → R = true) := fun h => by rw [hR]; exact decide_eq_true (Rm hl h)
 rw [← hR]
 clear hR
 rw [← hl] at hB ⊢
 clear hl hn2
 generalize l1.length = n at *
 generalize Qz l1 = f at *
 generalize Qz l2 = g at *
 go_enter Tryz.func63, Tryz.ntmps63
 go_upto_region 4 with (fail)
 go_loopw [13] (fun i wr => ∃ k : Nat, k ≤ n ∧ i = .int .i64 k ∧ Hid (∀ j, j < k → f j = g j) ∧ Qa w wr) (fun i _ => n - (intOf i).toNat)
 case atStart => exact ⟨0, Nat.zero_le _, rfl, fun j h => absurd h (by omega), Qa.refl _⟩
 case round =>
  obtain ⟨k, hk, rfl, heq, hE⟩ := hrel
  obtain ⟨wo, rfl⟩ := Qg wr
  by_cases hlt : k < n
  ·obtain ⟨b, off, rfl, hb, hc⟩ := (hA.ext hE) (by omega)
   have c0 : wo.cell? ⟨b, off + k * 2, none⟩ = some (.string (f k).g) := by simpa [Q4] using hc k 0 _ hlt rfl
   have c1 : wo.cell? ⟨b, off + k * 2 + 1, none⟩ = some (.int .i64 (f k).n) := by simpa [Q4] using hc k 1 _ hlt rfl
   clear hc
   obtain ⟨b2, off2, rfl, hb2, hc⟩ := (hB.ext hE) (by omega)
   have d0 : wo.cell? ⟨b2, off2 + k * 2, none⟩ = some (.string (g k).g) := by simpa [Q4] using hc k 0 _ hlt rfl
   have d1 : wo.cell? ⟨b2, off2 + k * 2 + 1, none⟩ = some (.int .i64 (g k).n) := by simpa [Q4] using hc k 1 _ hlt rfl
   clear hc hA hB
   by_cases e : f k = g k
   ·have hall : Hid (∀ j, j < k + 1 → f j = g j) := fun j hj => by
     by_cases e2 : j = k
     ·subst e2; exact e
     ·exact heq.out j (by omega)
    rw [← e] at d0 d1
    clear heq hno hyes e
    generalize (f k).g = s at *
    generalize (f k).n = z at *
    go_upto_region 6 with (fail)
    refine Zd wo Qo (by kernel_rfl) (by repeat (first | exact Qa.refl _ | (refine Qa.alloc ?_ _) | (refine Qa.trans ?_ (by assumption)))) ?_
    intro hne hrx hry
    try simp only []
    try simp only [List.append_eq, List.cons_append, List.nil_append]
    skip
    repeat (first
     | go_big_quiet_skip
     | (go_big_quiet_want; go_big_quiet_op; go_big_quiet_on))
    clear hne hry hrx
    refine wpQuiet_nil ?_
    intro w2 h2
    obtain ⟨hcw2, hfw2, hzw2⟩ := Qa.rules h2
    try simp only [World.size_alloc] at hzw2
    obtain ⟨hcbw2, hfbw2, hzbw2⟩ := Qa.rules (show Qa wo w2 from (by repeat (first | exact Qa.refl _ | (refine Qa.alloc ?_ _) | (refine Qa.trans ?_ (by assumption)))))
    clear hcw2 hfw2
    go_wp2
    exact ⟨⟨k + 1, by omega, by go_num, hall, hE.trans h2⟩, by simp [intOf]; omega⟩
   ·obtain rfl := hno.out k hlt e
    have hq : (((f k).g.toList == (g k).g.toList) && ((f k).n == (g k).n)) = false := by
     rw [Bool.and_eq_false_iff]
     by_cases e1 : (f k).g = (g k).g
     ·exact .inr (beq_eq_false_iff_ne.2 fun e2 => e (Rv e1 e2))
     ·exact .inl (beq_eq_false_iff_ne.2 fun e2 => e1 (Kq e2))
    clear heq hno hyes e
    generalize (f k).g = s at *
    generalize (f k).n = z at *
    generalize (g k).g = s' at *
    generalize (g k).n = z' at *
    generalize hq1 : (s.toList == s'.toList) = q1 at *
    generalize hq2 : (z == z') = q2 at *
    have hq' : (q1 = true → q2 = false) := by cases q1 <;> simp_all
    go_upto_region 6 with (fail)
    refine Zd wo Qo (by kernel_rfl) (by repeat (first | exact Qa.refl _ | (refine Qa.alloc ?_ _) | (refine Qa.trans ?_ (by assumption)))) ?_
    intro hne hrx hry
    try simp only []
    try simp only [List.append_eq, List.cons_append, List.nil_append]
    skip
    repeat (first
     | go_big_quiet_skip
     | (go_big_quiet_want; go_big_quiet_op; go_big_quiet_on))
    clear hne hry hrx
    refine wpQuiet_nil ?_
    intro w2 h2
    obtain ⟨hcw2, hfw2, hzw2⟩ := Qa.rules h2
    try simp only [World.size_alloc] at hzw2
    obtain ⟨hcbw2, hfbw2, hzbw2⟩ := Qa.rules (show Qa wo w2 from (by repeat (first | exact Qa.refl _ | (refine Qa.alloc ?_ _) | (refine Qa.trans ?_ (by assumption)))))
    clear hcw2 hfw2
    cases q1 <;> cases q2 <;> first | (exact absurd (hq' rfl) (by decide)) | (go_wp2; go_ret; exact ⟨rfl, hE.trans h2⟩)
  ·obtain rfl : k = n := by omega
   obtain rfl := hyes.out heq.out
   go_wp2
   go_ret
   exact ⟨rfl, hE⟩
theorem Bf (A A' : Option Addr) (ca cb : Nat) (c : Qf) (x y : Pd) (xo xd xc yo yd yc : Value) (w : World) (hC : Q0 w A ca A' cb c) (hv : c.valid = true) (hX : Zz w x xo xd xc) (hY : Zz w y yo yd yc) :
  Calls Tryz.prog 48 #[.agg #[.slice A c.nk ca, .slice A' c.ny cb], .agg #[.string x.h, .int .i64 x.a.y, .int .i64 x.a.m, .bool x.a.s, .int .i64 x.a.d, .int .i64 x.b.y, .int .i64 x.b.m, .bool x.b.s, .int .i64 x.b.d, xo, xd, xc], .agg #[.string y.h, .int .i64 y.a.y, .int .i64 y.a.m, .bool y.a.s, .int .i64 y.a.d, .int .i64 y.b.y, .int .i64 y.b.m, .bool y.b.s, .int .i64 y.b.d, yo, yd, yc]] w fun e w' => e = .returned (.bool (c.behV x y)) ∧ Qa w w' := by
 obtain ⟨o1, p1, e1, _⟩ := id hX.o
 subst e1
 obtain ⟨d1, q1, _, e2, _⟩ := id hX.d
 subst e2
 obtain ⟨c1, r1, e3, _⟩ := id hX.c
 subst e3
 obtain ⟨o2, p2, e1, _⟩ := id hY.o
 subst e1
 obtain ⟨d2, q2, _, e2, _⟩ := id hY.d
 subst e2
 obtain ⟨c2, r2, e3, _⟩ := id hY.c
 subst e3
 obtain ⟨R, hR⟩ := Qg (c.behV x y)
 rw [← hR]
 unfold Qf.behV at hR
 replace hR := Lib.hid hR
 have NX := fun w h => Xk A A' ca cb c x.b w h
 have NY := fun w h => Xk A A' ca cb c y.a w h
 have bx := Tv hv x.b
 clear hv hX hY
 go_enter Tryz.func48, Tryz.ntmps48
 go_upto_region 1 with (fail)
 obtain ⟨v, hv⟩ := Qg (((w.alloc (.cells #[.slice A c.nk ca, .slice A' c.ny cb] 61)).alloc (.cells #[.string x.h, .int .i64 x.a.y, .int .i64 x.a.m, .bool x.a.s, .int .i64 x.a.d, .int .i64 x.b.y, .int .i64 x.b.m, .bool x.b.s, .int .i64 x.b.d, .slice o1 x.o.length p1, .slice d1 x.d.length q1, .slice c1 x.c.length r1] 31)).alloc (.cells #[.string y.h, .int .i64 y.a.y, .int .i64 y.a.m, .bool y.a.s, .int .i64 y.a.d, .int .i64 y.b.y, .int .i64 y.b.m, .bool y.b.s, .int .i64 y.b.d, .slice o2 y.o.length p2, .slice d2 y.d.length q2, .slice c2 y.c.length r2] 31))
 rw [← hv]
 have E : Qa w v := by rw [hv]; exact (((Qa.refl _).alloc _).alloc _).alloc _
 have B1 : Qb v w.heap.size 61 #[.slice A c.nk ca, .slice A' c.ny cb] := by rw [hv]; exact ((Qb.new _ _ _).alloc _).alloc _
 have B2 : Qb v (w.heap.size + 1) 31 #[.string x.h, .int .i64 x.a.y, .int .i64 x.a.m, .bool x.a.s, .int .i64 x.a.d, .int .i64 x.b.y, .int .i64 x.b.m, .bool x.b.s, .int .i64 x.b.d, .slice o1 x.o.length p1, .slice d1 x.d.length q1, .slice c1 x.c.length r1] := by rw [hv]; exact (Qb.at _ _ _ _ (by simp)).alloc _
 have B3 : Qb v (w.heap.size + 1 + 1) 31 #[.string y.h, .int .i64 y.a.y, .int .i64 y.a.m, .bool y.a.s, .int .i64 y.a.d, .int .i64 y.b.y, .int .i64 y.b.m, .bool y.b.s, .int .i64 y.b.d, .slice o2 y.o.length p2, .slice d2 y.d.length q2, .slice c2 y.c.length r2] := by rw [hv]; exact Qb.at _ _ _ _ (by simp)
 clear hv
 obtain ⟨b3, hb3⟩ := Qg (w.heap.size + 1 + 1)
 rw [← hb3] at B3 ⊢
 obtain ⟨b2, hb2⟩ := Qg (w.heap.size + 1)
 rw [← hb2] at B2 ⊢
 obtain ⟨b1, hb1⟩ := Qg (w.heap.size)
 rw [← hb1] at B1 ⊢
 have hbr : w.heap.size ≤ b3 := by omega
 have hbr1 : w.heap.size ≤ b1 := by omega
 have hbr2 : w.heap.size ≤ b2 := by omega
 have hn21 : b2 ≠ b1 := by omega
 have hn31 : b3 ≠ b1 := by omega
 have hn32 : b3 ≠ b2 := by omega
 clear hb1 hb2 hb3
 have C := hC.ext E
 clear hC
 obtain ⟨k0, k1⟩ := B1.c2
 have kl := B1.lt
 obtain ⟨x0, x1, x2, x3, x4, x5, x6, x7, x8, x9, x10, x11⟩ := B2.c12
 have xl := B2.lt
 obtain ⟨y0, y1, y2, y3, y4, y5, y6, y7, y8, y9, y10, y11⟩ := B3.c12
 have yl := B3.lt
 generalize c.numV x.b = nx at *
 generalize c.numV y.a = ny at *
 have hd : Hid (decide (ny = nx + 1) = (ny == nx + 1)) := (by unfold Hid; cases h : (ny == nx + 1) <;> simp_all)
 by_cases hh : x.h = y.h
 ·have gh : (x.h.toList == y.h.toList) = true := by rw [hh]; exact beq_self_eq_true _
  have hr : Hid (R = (ny == nx + 1)) := by unfold Hid; rw [hR.out, decide_eq_true hh, Bool.true_and]; exact hd.out
  clear hh hd hR
  refine Zd v Qo (by kernel_rfl) (by repeat (first | exact Qa.refl _ | (refine Qa.alloc ?_ _) | (refine Qa.trans ?_ (by assumption)))) ?_
  intro hne hrx hry
  try simp only []
  try simp only [List.append_eq, List.cons_append, List.nil_append]
  skip
  repeat (first
   | go_big_quiet_skip
   | (go_big_quiet_want; go_big_quiet_op; go_big_quiet_on)
   | (go_big_quiet_want; go_big_quiet_op; apply Exists.intro; refine ⟨fun u => ?_, ?_⟩
      ·first
        | (go_at_call 58; (with_reducible refine Calls.mono (NX _ (C.ext u.e)) ?_); rintro e w' ⟨rfl, hb⟩; exact ⟨rfl, u.back hb⟩)
        | (go_at_call 58; (with_reducible refine Calls.mono (NY _ (C.ext u.e)) ?_); rintro e w' ⟨rfl, hb⟩; exact ⟨rfl, u.back hb⟩)
      go_big_quiet_on))
  clear hne hry hrx
  refine wpQuiet_nil ?_
  intro w2 h2
  obtain ⟨hcw2, hfw2, hzw2⟩ := Qa.rules h2
  try simp only [World.size_alloc] at hzw2
  obtain ⟨hcbw2, hfbw2, hzbw2⟩ := Qa.rules (show Qa v w2 from (by repeat (first | exact Qa.refl _ | (refine Qa.alloc ?_ _) | (refine Qa.trans ?_ (by assumption)))))
  clear hcw2 hfw2
  go_wp2
  go_ret
  exact ⟨by rw [hr.out]; rfl, E.trans h2⟩
 ·have gh : (x.h.toList == y.h.toList) = false := beq_eq_false_iff_ne.2 fun h => hh (Kq h)
  have hr : Hid (R = false) := by unfold Hid; rw [hR.out, decide_eq_false hh]; rfl
  clear hh hd hR
  refine Zd v Qo (by kernel_rfl) (by repeat (first | exact Qa.refl _ | (refine Qa.alloc ?_ _) | (refine Qa.trans ?_ (by assumption)))) ?_
  intro hne hrx hry
  try simp only []
  try simp only [List.append_eq, List.cons_append, List.nil_append]
  skip
  repeat (first
   | go_big_quiet_skip
   | (go_big_quiet_want; go_big_quiet_op; go_big_quiet_on)
   | (go_big_quiet_want; go_big_quiet_op; apply Exists.intro; refine ⟨fun u => ?_, ?_⟩
      ·first
        | (go_at_call 58; (with_reducible refine Calls.mono (NX _ (C.ext u.e)) ?_); rintro e w' ⟨rfl, hb⟩; exact ⟨rfl, u.back hb⟩)
        | (go_at_call 58; (with_reducible refine Calls.mono (NY _ (C.ext u.e)) ?_); rintro e w' ⟨rfl, hb⟩; exact ⟨rfl, u.back hb⟩)
      go_big_quiet_on))
  clear hne hry hrx
  refine wpQuiet_nil ?_
  intro w2 h2
  obtain ⟨hcw2, hfw2, hzw2⟩ := Qa.rules h2
  try simp only [World.size_alloc] at hzw2
  obtain ⟨hcbw2, hfbw2, hzbw2⟩ := Qa.rules (show Qa v w2 from (by repeat (first | exact Qa.refl _ | (refine Qa.alloc ?_ _) | (refine Qa.trans ?_ (by assumption)))))
  clear hcw2 hfw2
  go_wp2
  go_ret
  exact ⟨by rw [hr.out]; rfl, E.trans h2⟩
theorem Be (A A' : Option Addr) (ca cb : Nat) (c : Qf) (x y : Pd) (xo xd xc yo yd yc : Value) (w : World) (hC : Q0 w A ca A' cb c) (hv : c.valid = true) (hX : Zz w x xo xd xc) (hY : Zz w y yo yd yc) :
  Calls Tryz.prog 51 #[.agg #[.slice A c.nk ca, .slice A' c.ny cb], .agg #[.string x.h, .int .i64 x.a.y, .int .i64 x.a.m, .bool x.a.s, .int .i64 x.a.d, .int .i64 x.b.y, .int .i64 x.b.m, .bool x.b.s, .int .i64 x.b.d, xo, xd, xc], .agg #[.string y.h, .int .i64 y.a.y, .int .i64 y.a.m, .bool y.a.s, .int .i64 y.a.d, .int .i64 y.b.y, .int .i64 y.b.m, .bool y.b.s, .int .i64 y.b.d, yo, yd, yc]] w fun e w' => e = .returned (.bool (c.behV x y)) ∧ Qa w w' := by
 obtain ⟨o1, p1, e1, _⟩ := id hX.o
 subst e1
 obtain ⟨d1, q1, _, e2, _⟩ := id hX.d
 subst e2
 obtain ⟨c1, r1, e3, _⟩ := id hX.c
 subst e3
 obtain ⟨o2, p2, e1, _⟩ := id hY.o
 subst e1
 obtain ⟨d2, q2, _, e2, _⟩ := id hY.d
 subst e2
 obtain ⟨c2, r2, e3, _⟩ := id hY.c
 subst e3
 obtain ⟨R, hR⟩ := Qg (c.behV x y)
 rw [← hR]
 unfold Qf.behV at hR
 replace hR := Lib.hid hR
 have NX := fun w h => K2 A A' ca cb c x.b w h hv
 have NY := fun w h => K2 A A' ca cb c y.a w h hv
 have bx := Tv hv x.b
 clear hv hX hY
 go_enter Tryz.func51, Tryz.ntmps51
 go_upto_region 1 with (fail)
 obtain ⟨v, hv⟩ := Qg (((w.alloc (.cells #[.slice A c.nk ca, .slice A' c.ny cb] 25)).alloc (.cells #[.string x.h, .int .i64 x.a.y, .int .i64 x.a.m, .bool x.a.s, .int .i64 x.a.d, .int .i64 x.b.y, .int .i64 x.b.m, .bool x.b.s, .int .i64 x.b.d, .slice o1 x.o.length p1, .slice d1 x.d.length q1, .slice c1 x.c.length r1] 31)).alloc (.cells #[.string y.h, .int .i64 y.a.y, .int .i64 y.a.m, .bool y.a.s, .int .i64 y.a.d, .int .i64 y.b.y, .int .i64 y.b.m, .bool y.b.s, .int .i64 y.b.d, .slice o2 y.o.length p2, .slice d2 y.d.length q2, .slice c2 y.c.length r2] 31))
 rw [← hv]
 have E : Qa w v := by rw [hv]; exact (((Qa.refl _).alloc _).alloc _).alloc _
 have B1 : Qb v w.heap.size 25 #[.slice A c.nk ca, .slice A' c.ny cb] := by rw [hv]; exact ((Qb.new _ _ _).alloc _).alloc _
 have B2 : Qb v (w.heap.size + 1) 31 #[.string x.h, .int .i64 x.a.y, .int .i64 x.a.m, .bool x.a.s, .int .i64 x.a.d, .int .i64 x.b.y, .int .i64 x.b.m, .bool x.b.s, .int .i64 x.b.d, .slice o1 x.o.length p1, .slice d1 x.d.length q1, .slice c1 x.c.length r1] := by rw [hv]; exact (Qb.at _ _ _ _ (by simp)).alloc _
 have B3 : Qb v (w.heap.size + 1 + 1) 31 #[.string y.h, .int .i64 y.a.y, .int .i64 y.a.m, .bool y.a.s, .int .i64 y.a.d, .int .i64 y.b.y, .int .i64 y.b.m, .bool y.b.s, .int .i64 y.b.d, .slice o2 y.o.length p2, .slice d2 y.d.length q2, .slice c2 y.c.length r2] := by rw [hv]; exact Qb.at _ _ _ _ (by simp)
 clear hv
 obtain ⟨b3, hb3⟩ := Qg (w.heap.size + 1 + 1)
 rw [← hb3] at B3 ⊢
 obtain ⟨b2, hb2⟩ := Qg (w.heap.size + 1)
 rw [← hb2] at B2 ⊢
 obtain ⟨b1, hb1⟩ := Qg (w.heap.size)
 rw [← hb1] at B1 ⊢
 have hbr : w.heap.size ≤ b3 := by omega
 have hbr1 : w.heap.size ≤ b1 := by omega
 have hbr2 : w.heap.size ≤ b2 := by omega
 have hn21 : b2 ≠ b1 := by omega
 have hn31 : b3 ≠ b1 := by omega
 have hn32 : b3 ≠ b2 := by omega
 clear hb1 hb2 hb3
 have C := hC.ext E
 clear hC
 obtain ⟨k0, k1⟩ := B1.c2
 have kl := B1.lt
 obtain ⟨x0, x1, x2, x3, x4, x5, x6, x7, x8, x9, x10, x11⟩ := B2.c12
 have xl := B2.lt
 obtain ⟨y0, y1, y2, y3, y4, y5, y6, y7, y8, y9, y10, y11⟩ := B3.c12
 have yl := B3.lt
 generalize c.numV x.b = nx at *
 generalize c.numV y.a = ny at *
 have hd : Hid (decide (ny = nx + 1) = (ny == nx + 1)) := (by unfold Hid; cases h : (ny == nx + 1) <;> simp_all)
 by_cases hh : x.h = y.h
 ·have gh : (x.h.toList == y.h.toList) = true := by rw [hh]; exact beq_self_eq_true _
  have hr : Hid (R = (ny == nx + 1)) := by unfold Hid; rw [hR.out, decide_eq_true hh, Bool.true_and]; exact hd.out
  clear hh hd hR
  refine Zd v Qo (by kernel_rfl) (by repeat (first | exact Qa.refl _ | (refine Qa.alloc ?_ _) | (refine Qa.trans ?_ (by assumption)))) ?_
  intro hne hrx hry
  try simp only []
  try simp only [List.append_eq, List.cons_append, List.nil_append]
  skip
  repeat (first
   | go_big_quiet_skip
   | (go_big_quiet_want; go_big_quiet_op; go_big_quiet_on)
   | (go_big_quiet_want; go_big_quiet_op; apply Exists.intro; refine ⟨fun u => ?_, ?_⟩
      ·first
        | (go_at_call 60; (with_reducible refine Calls.mono (NX _ (C.ext u.e)) ?_); rintro e w' ⟨rfl, hb⟩; exact ⟨rfl, u.back hb⟩)
        | (go_at_call 60; (with_reducible refine Calls.mono (NY _ (C.ext u.e)) ?_); rintro e w' ⟨rfl, hb⟩; exact ⟨rfl, u.back hb⟩)
      go_big_quiet_on))
  clear hne hry hrx
  refine wpQuiet_nil ?_
  intro w2 h2
  obtain ⟨hcw2, hfw2, hzw2⟩ := Qa.rules h2
  try simp only [World.size_alloc] at hzw2
  obtain ⟨hcbw2, hfbw2, hzbw2⟩ := Qa.rules (show Qa v w2 from (by repeat (first | exact Qa.refl _ | (refine Qa.alloc ?_ _) | (refine Qa.trans ?_ (by assumption)))))
  clear hcw2 hfw2
  go_wp2
  go_ret
  exact ⟨by rw [hr.out]; rfl, E.trans h2⟩
 ·have gh : (x.h.toList == y.h.toList) = false := beq_eq_false_iff_ne.2 fun h => hh (Kq h)
  have hr : Hid (R = false) := by unfold Hid; rw [hR.out, decide_eq_false hh]; rfl
  clear hh hd hR
  refine Zd v Qo (by kernel_rfl) (by repeat (first | exact Qa.refl _ | (refine Qa.alloc ?_ _) | (refine Qa.trans ?_ (by assumption)))) ?_
  intro hne hrx hry
  try simp only []
  try simp only [List.append_eq, List.cons_append, List.nil_append]
  skip
  repeat (first
   | go_big_quiet_skip
   | (go_big_quiet_want; go_big_quiet_op; go_big_quiet_on)
   | (go_big_quiet_want; go_big_quiet_op; apply Exists.intro; refine ⟨fun u => ?_, ?_⟩
      ·first
        | (go_at_call 60; (with_reducible refine Calls.mono (NX _ (C.ext u.e)) ?_); rintro e w' ⟨rfl, hb⟩; exact ⟨rfl, u.back hb⟩)
        | (go_at_call 60; (with_reducible refine Calls.mono (NY _ (C.ext u.e)) ?_); rintro e w' ⟨rfl, hb⟩; exact ⟨rfl, u.back hb⟩)
      go_big_quiet_on))
  clear hne hry hrx
  refine wpQuiet_nil ?_
  intro w2 h2
  obtain ⟨hcw2, hfw2, hzw2⟩ := Qa.rules h2
  try simp only [World.size_alloc] at hzw2
  obtain ⟨hcbw2, hfbw2, hzbw2⟩ := Qa.rules (show Qa v w2 from (by repeat (first | exact Qa.refl _ | (refine Qa.alloc ?_ _) | (refine Qa.trans ?_ (by assumption)))))
  clear hcw2 hfw2
  go_wp2
  go_ret
  exact ⟨by rw [hr.out]; rfl, E.trans h2⟩
end
section
open Go Go.RowKit Go.Shelf
attribute [local go_sem] Zs
def Fc : Ren := ⟨fun | 4 => 99 | n => n, fun | 0 => 0 | 3 => 3 | 4 => 4 | 9 => 9 | 20 => 20 | 22 => 29 | 25 => 70 | n => n, fun n => n⟩
theorem Fb : Lays8.n4 Tryz.prog Fc where
 mixed := by kernel_rfl
 f4 := ⟨Tryz.f99.name, by kernel_rfl, Tryz.func99.trans (congrArg some (by kernel_rfl))⟩
 t0 := Tryz.underlying0
 a0 := Tryz.isAgg0
 z0 := Tryz.sizeOf0
 v0 := Tryz.zeroValue0
 t3 := Tryz.underlying3
 a3 := Tryz.isAgg3
 z3 := Tryz.sizeOf3
 v3 := Tryz.zeroValue3
 t4 := Tryz.underlying4
 a4 := Tryz.isAgg4
 z4 := Tryz.sizeOf4
 v4 := Tryz.zeroValue4
 t9 := Tryz.underlying9
 a9 := Tryz.isAgg9
 z9 := Tryz.sizeOf9
 v9 := Tryz.zeroValue9
 t20 := Tryz.underlying20
 a20 := Tryz.isAgg20
 z20 := Tryz.sizeOf20
 v20 := Tryz.zeroValue20
 t22 := Tryz.underlying29
 a22 := Tryz.isAgg29
 z22 := Tryz.sizeOf29
 v22 := Tryz.zeroValue29
theorem Ay (n : Nat) (w : World) (hn : n ≤ 1000000) :
  Calls Tryz.prog 99 #[.slice none 0 0, .int .i64 n] w fun e w' => ∃ F m, e = .returned (.slice F 0 m) ∧ Qa w w' ∧ w'.ownsRow w.heap.size 70 7 (.slice F 0 m) 0 [] := by
 by_cases h0 : n = 0
 ·subst h0
  refine Calls.mono (Any8.slices_Grow_room Fb none 0 0 0 w (Nat.le_refl _) (by decide) (by decide) (Nat.le_refl _)) ?_
  rintro e w' ⟨rfl, rfl⟩
  exact ⟨none, 0, rfl, Qa.refl _, World.ownsRow_nil _ _ _ _⟩
 ·obtain ⟨i0, hi, hz0, hz1, hz2⟩ := info_parts V7
  refine Calls.mono (Any8.slices_Grow_grow Fb i0 _ hi hz0 (by rw [hz1]; decide) none 0 0 n [] w (Nat.le_refl _) (by omega) (by rw [hz2]; omega) (by omega) (by simp) (fun _ => rfl) (fun a h => by cases h)) ?_
  rintro e w' ⟨rfl, rfl⟩
  have hw : Qa w w.drew := ⟨rfl, rfl, rfl, Nat.le_refl _, fun _ _ => rfl⟩
  refine ⟨_, _, rfl, hw.alloc _, ?_⟩
  have hs : w.drew.heap.size = w.heap.size := rfl
  rw [← hs]
  refine World.ownsRow_made w.drew _ _ (Nat.le_refl _) (grownCap_le_maxLen _ _ _ _ (by unfold maxLen; omega)) ?_
  have hg := grownCap_ge w (0 + n) 0 (Fc.t 25)
  simp only [Nat.zero_add] at hg
  simp [Builtin.zeroCells, Value.cells]
  omega
theorem G9 {f : Nat → List Value} {sz : Nat} (hf : ∀ i, (f i).length = sz) {i j : Nat} (hj : j < sz) (u : Value) : ∀ {n}, i < n → (Qy f n).set (i * sz + j) u = Qy (fun y => if y = i then (f i).set j u else f y) n
 | n + 1, hi => by
  have hl := Ye (f := f) (sz := sz) hf n
  rw [X7, X7]
  by_cases e : i = n
  ·subst e
   rw [List.set_append_right _ _ (by omega), hl, if_pos rfl, show i * sz + j - i * sz = j by omega]
   rw [Wz (f' := fun y => if y = i then (f i).set j u else f y) i (fun y hy => by simp [show y ≠ i by omega])]
  ·have hin : i < n := by omega
   have hb : i * sz + j < n * sz := by
    have h1 : (i + 1) * sz ≤ n * sz := Nat.mul_le_mul_right _ hin
    rw [Nat.succ_mul] at h1; omega
   rw [List.set_append_left _ _ (by omega), G9 hf hj u hin, if_neg (by omega)]
theorem Cn (g : Nat → Dl) (vs : Nat → Value) {n k : Nat} (hk : k < n) (u : Value) : (Qy (fun i => Qs (g i) (vs i)) n).set (k * 7 + 6) u = Qy (fun i => Qs (g i) (if i = k then u else vs i)) n := by
 rw [G9 (f := fun i => Qs (g i) (vs i)) (sz := 7) (fun _ => rfl) (by decide) u hk]
 refine Wz n (fun i _ => ?_)
 by_cases e : i = k
 ·subst e; simp [Qs]
 ·simp [e]
theorem Co {w : World} {base q n cap k : Nat} {g : Nat → Dl} {vs : Nat → Value} (h : w.ownsRow base 70 7 (.slice (some ⟨q, 0, none⟩) n cap) n (Qy (fun i => Qs (g i) (vs i)) n)) (hk : k < n) : w.cell? ⟨q, k * 7 + 6, none⟩ = some (vs k) := by
 rw [World.ownsRow.cellAt h (k * 7 + 6) (by omega), W4 (f := fun i => Qs (g i) (vs i)) (sz := 7) (fun _ => rfl) hk (by decide)]
 rfl
theorem K3 {w : World} {g : Nat → Dl} {vs : Nat → Value} {n : Nat} (h : ∀ i, i < n → Zn w (vs i) (g i).l) : ∀ u ∈ Qy (fun i => Qs (g i) (vs i)) n, u.oneCell' = true := fun u hu => by
 obtain ⟨i, hi, hm⟩ := List.mem_flatMap.1 hu
 obtain ⟨A, c, hv, _⟩ := h i (List.mem_range.1 hi)
 rw [hv] at hm
 exact Gp _ _ _ _ u hm
theorem Rq {W : World} {base : Nat} {e : TypeId} {sz : Nat} {g n cap : Nat} {xs : List Value} {v : Value} {l : List Lt} (h : Jk W base v l) (hO : W.ownsRow base e sz (.slice (some ⟨g, 0, none⟩) n cap) n xs) (hne : 68 ≠ e) (j : Nat) (u : Value) : Jk (W.setCell ⟨g, j, none⟩ u) base v l :=
 World.ownsRow.kept h (World.ownsRow.stored hO j u).2 (Om h hO hne)
theorem Bw (v : Value) (l : List Dl) (w : World) (hD : Yn w v l) (hn : l.length ≤ 1000000) :
  Calls Tryz.prog 86 #[v] w fun e w' => ∃ v', e = .returned v' ∧ Qa w w' ∧ ∃ vs : Nat → Value, w'.ownsRow w.heap.size 70 7 v' l.length (Qy (fun i => Qs (l.getD i Qr) (vs i)) l.length) ∧ ∀ i, i < l.length → Zn w (vs i) (l.getD i Qr).l := by
 obtain ⟨T, cap, vs, rfl, hT, hcap, hmax, hnil, hat⟩ := hD
 have hone := K3 (g := fun i => l.getD i Qr) hat
 obtain ⟨g, hg⟩ := Qg (fun i => l.getD i Qr)
 have hg' : ∀ i, l.getD i Qr = g i := fun i => by rw [hg]
 simp only [hg'] at hT hat hone ⊢
 clear hg hg'
 generalize l.length = n at *
 replace hat := Lib.hid hat
 have q23 : ∀ (w : World) (a : Option Addr) (n c n' c' : Nat), (binOp .eql 29 (.slice a n c) (.slice none n' c')).run Tryz.prog w = .ok (.bool a.isNone) w := fun w a n c n' c' => Lib.run_eql_slice_nil w _ _ a n c n' c' Tryz.underlying29
 cases T with
 | none =>
  obtain ⟨rfl, rfl⟩ := hnil rfl
  go_enter Tryz.func86, Tryz.ntmps86
  go_wp2
  go_ret
  first | exact ⟨_, rfl, Qa.refl _, vs, World.ownsRow_nil _ _ _ _, hat.out⟩ | exact ⟨_, rfl, Qa.refl _, vs, World.ownsRow_nil _ _ _ _⟩
 | some a =>
  obtain ⟨i0, hi, hz0, hz1, hz2⟩ := info_parts V7
  have hlen := Ye (f := fun i => Qs (g i) (vs i)) (sz := 7) (fun _ => rfl) n
  have HN := fun v (h : Qn v (some a) n 7 (fun i => Qs (g i) (vs i))) => Ul (f := fun i => Qs (g i) (vs i)) (sz := 7) (fun _ => rfl) (by decide) h
  go_enter Tryz.func86, Tryz.ntmps86
  go_wp2_with (at_builtin; refine wpList_append_own _ rfl _ _ 29 rfl w.heap.size 70 i0 (.agg #[.int .i64 0, .int .i64 0, .bool false, .int .i64 0, .bool false, .string ⟨#[]⟩, .slice none 0 0]) 7 80 Tryz.underlying29 hi hz0 hz1 hz2 rfl (by decide) _ _ _ rfl (World.ownsRow_made w #[] 0 (Nat.le_refl _) (Nat.zero_le _) rfl) a n cap (Qy (fun i => Qs (g i) (vs i)) n) rfl hlen (HN _ (hT.ext ((Qa.refl _).alloc _)) a rfl) hone (by unfold maxLen; omega) (by omega) (by simp) ?_; intro v' w1 hown hgrow hnil2)
  go_ret
  refine ⟨v', rfl, ((Qa.refl w).alloc _).grown hgrow (fun q hq => by have h : some w.heap.size = some q := hq; cases h; exact Nat.le_refl _), vs, by simpa using hown, hat.out⟩
theorem Cf (v : Value) (l : List Dl) (w : World) (hD : Yn w v l) (hn : l.length ≤ 1000000) (hl : ∀ i, i < l.length → (l.getD i Qr).l.length ≤ 1000000) :
  Calls Tryz.prog 49 #[v] w fun e w' => ∃ v', e = .returned v' ∧ Qa w w' ∧ Zr w' w.heap.size v' l.length (fun i => l.getD i Qr) := by
 have NC := fun w h => Bw v l w h hn
 obtain ⟨D, cap, vs, rfl, hT, hcap, hmax, _, hat⟩ := id hD
 obtain ⟨g, hg⟩ := Qg (fun i => l.getD i Qr)
 have hg' : ∀ i, l.getD i Qr = g i := fun i => by rw [hg]
 simp only [hg'] at hT hat hl NC ⊢
 clear hg hg' hmax
 generalize l.length = n at *
 replace hat := Lib.hid hat
 replace hl := Lib.hid hl
 go_enter Tryz.func49, Tryz.ntmps49
 go_upto_region 2 with (go_at_call 86; (with_reducible refine Calls.mono (NC _ hD) ?_); rintro e w1 ⟨v', rfl, h1, vs1, hO1, _⟩; obtain ⟨FO, mO, rfl⟩ := Q9 hO1)
 clear NC hD
 go_upto_region 3 with (fail)
 go_loopw [9] (fun iv wr => ∃ (k : Nat) (vs' : Nat → Value), k ≤ n ∧ iv = .int .i64 k ∧ Qa w wr ∧ wr.ownsRow w.heap.size 70 7 (.slice FO n mO) n (Qy (fun i => Qs (g i) (vs' i)) n) ∧ Hid (∀ i, i < k → Jk wr w.heap.size (vs' i) (g i).l)) (fun iv _ => n - (intOf iv).toNat)
 case atStart => exact ⟨0, vs1, Nat.zero_le _, rfl, h1, hO1, fun i h => absurd h (by omega)⟩
 case round =>
  clear hO1 h1
  obtain ⟨k, vs', hk, rfl, hE, hO, hLo⟩ := hrel
  obtain ⟨wo, rfl⟩ := Qg wr
  by_cases hlt : k < n
  rotate_left
  ·obtain rfl : n = k := by omega
   go_wp2
   go_ret
   exact ⟨_, rfl, hE, vs', hO, hLo.out⟩
  obtain ⟨q, cq, hv, hbq, _⟩ := Oo hO (by omega)
  injection hv with hv1 _ hv2
  subst hv1
  subst hv2
  obtain ⟨b, off, rfl, hb, hc⟩ := (hT.ext hE) (by omega)
  have c6 : wo.cell? ⟨b, off + k * 7 + 6, none⟩ = some (vs k) := by simpa [Qs] using hc k 6 _ hlt rfl
  have HL := (hat.out k hlt).ext hE
  have hs := hl.out k hlt
  obtain ⟨VL, hvl⟩ := Qg (vs k)
  rw [← hvl] at c6 HL
  clear hc hvl hat hl
  obtain ⟨TL, cl, hVL, _⟩ := id HL
  subst hVL
  have NL := fun w h => Ky (.slice TL (g k).l.length cl) (g k).l w h hs
  go_upto_region 6 with (go_at_call 47; (with_reducible refine Calls.mono (NL _ HL) ?_); rintro e w2 ⟨vl, rfl, h2, hS⟩; obtain ⟨F0, m0, rfl⟩ := Q9 hS; have hO2 := Z2 hO h2; have fz := World.ownsRow.frozenAt hO2 (k * 7 + 6); have xz := Co hO2 hlt; have xl := Ki hO2)
  have hS2 : Jk w2 w.heap.size (.slice F0 (g k).l.length m0) (g k).l := X3 hS hE.size
  have hO3 := (World.ownsRow.stored hO2 (k * 7 + 6) (.slice F0 (g k).l.length m0)).1
  rw [Cn g vs' hlt] at hO3
  have hE3 := (hE.trans h2).setCell (p := ⟨q, k * 7 + 6, none⟩) hbq (.slice F0 (g k).l.length m0)
  have hL3 : Hid (∀ i, i < k + 1 → Jk (w2.setCell ⟨q, k * 7 + 6, none⟩ (.slice F0 (g k).l.length m0)) w.heap.size (if i = k then .slice F0 (g k).l.length m0 else vs' i) (g i).l) := fun i hi => by
   by_cases e : i = k
   ·subst e; rw [if_pos rfl]; exact Rq hS2 hO2 (by decide) _ _
   ·rw [if_neg e]; exact Rq (Z2 (hLo.out i (by omega)) h2) hO2 (by decide) _ _
  generalize w2.setCell ⟨q, k * 7 + 6, none⟩ (.slice F0 (g k).l.length m0) = w3 at *
  clear fz xz xl hO2 hS hS2 h2 hLo hO NL HL c6 hE hb
  go_wp2
  exact ⟨⟨k + 1, _, by omega, by go_num, hE3, hO3, hL3⟩, by simp [intOf]; omega⟩
theorem Nr (f g : Nat → List Value) (n : Nat) : ∀ m, Qy f n ++ Qy g m = Qy (fun i => if i < n then f i else g (i - n)) (n + m)
 | 0 => by
  rw [show Qy g 0 = [] from rfl, List.append_nil]
  exact Wz n (fun i hi => by rw [if_pos hi])
 | m + 1 => by
  rw [X7, ← List.append_assoc, Nr f g n m, show n + (m + 1) = (n + m) + 1 by omega, X7, if_neg (by omega), show n + m - n = m by omega]
theorem Cr {w : World} {base : Nat} {v : Value} {x y : List Dl} {vs1 vs2 : Nat → Value} (h : w.ownsRow base 70 7 v (x.length + y.length) (Qy (fun i => Qs (x.getD i Qr) (vs1 i)) x.length ++ Qy (fun i => Qs (y.getD i Qr) (vs2 i)) y.length)) (h1 : ∀ i, i < x.length → Zn w (vs1 i) (x.getD i Qr).l) (h2 : ∀ i, i < y.length → Zn w (vs2 i) (y.getD i Qr).l) : Yn w v (x ++ y) := by
 rw [Nr] at h
 have hl : (x ++ y).length = x.length + y.length := by simp
 have hx : ∀ i, i < x.length → (x ++ y).getD i Qr = x.getD i Qr := fun i hi => by simp [List.getD_eq_getElem?_getD, List.getElem?_append_left hi]
 have hy : ∀ i, ¬ i < x.length → (x ++ y).getD i Qr = y.getD (i - x.length) Qr := fun i hi => by simp [List.getD_eq_getElem?_getD, List.getElem?_append_right (show x.length ≤ i by omega)]
 have e : Qy (fun i => if i < x.length then Qs (x.getD i Qr) (vs1 i) else Qs (y.getD (i - x.length) Qr) (vs2 (i - x.length))) (x.length + y.length) = Qy (fun i => Qs ((x ++ y).getD i Qr) (if i < x.length then vs1 i else vs2 (i - x.length))) (x.length + y.length) := Wz _ (fun i _ => by
  by_cases c : i < x.length
  ·rw [if_pos c, if_pos c, hx i c]
  ·rw [if_neg c, if_neg c, hy i c])
 rw [e] at h
 obtain ⟨F, c, g1, g2, g3, g4, g5, _⟩ := W7 (f := fun i => Qs ((x ++ y).getD i Qr) (if i < x.length then vs1 i else vs2 (i - x.length))) (fun _ => rfl) h
 refine ⟨F, c, _, by rw [hl]; exact g1, by rw [hl]; exact g2, by rw [hl]; exact g3, g4, fun h => by rw [hl]; exact g5 h, fun i hi => ?_⟩
 by_cases c : i < x.length
 ·simp only [if_pos c]; rw [hx i c]; exact h1 i c
 ·simp only [if_neg c]; rw [hy i c]; exact h2 _ (by rw [hl] at hi; omega)
theorem Cc (bs : Nat) (D1 D2 : Option Addr) (c1 c2 : Nat) (x y : List Dl) (w : World) (hB : Qb w bs 29 #[.slice D1 x.length c1, .slice D2 y.length c2]) (h1 : Yn w (.slice D1 x.length c1) x) (h2 : Yn w (.slice D2 y.length c2) y) (hx : x.length ≤ 64) (hy : y.length ≤ 64) :
  Calls Tryz.prog 64 #[.slice (some ⟨bs, 0, none⟩) 2 2] w fun e w' => ∃ v', e = .returned v' ∧ Qa w w' ∧ Yn w' v' (x ++ y) := by
 obtain ⟨i0, hi, hz0, hz1, hz2⟩ := info_parts V7
 have NG := fun n w h => Ay n w h
 obtain ⟨D1', c1', vs1, e1, hD1, hcap1, hmax1, hnil1, hat1⟩ := h1
 obtain ⟨rfl, rfl⟩ : D1 = D1' ∧ c1 = c1' := by simpa using e1
 obtain ⟨D2', c2', vs2, e2, hD2, hcap2, hmax2, hnil2, hat2⟩ := h2
 obtain ⟨rfl, rfl⟩ : D2 = D2' ∧ c2 = c2' := by simpa using e2
 clear e1 e2
 obtain ⟨a0, a1⟩ := hB.c2
 have al := hB.lt
 go_enter Tryz.func64, Tryz.ntmps64
 go_upto_region 3 with (fail)
 go_loopw [3, 11] (fun sv iv wr => ∃ k : Nat, k ≤ 2 ∧ iv = .int .i64 k ∧ sv = .int .i64 ((if k = 0 then 0 else if k = 1 then x.length else x.length + y.length : Nat) : Int) ∧ wr = w) (fun _ iv _ => 2 - (intOf iv).toNat)
 case atStart => exact ⟨0, by decide, rfl, rfl, rfl⟩
 case round =>
  obtain ⟨k, hk, rfl, rfl, hw⟩ := hrel
  obtain rfl : w = wr := hw.symm
  clear hw
  have hk3 : k = 0 ∨ k = 1 ∨ k = 2 := by omega
  rcases hk3 with rfl | rfl | rfl
  ·go_wp2
   exact ⟨⟨1, by decide, by go_num, by simp, by simp⟩, by simp [intOf]⟩
  ·go_wp2
   exact ⟨⟨2, by decide, by go_num, by simp, by simp⟩, by simp [intOf]⟩
  ·have NG2 : Calls Tryz.prog 99 #[.slice none 0 0, .int .i64 ((x.length : Int) + (y.length : Int))] w fun e w' => ∃ F m, e = .returned (.slice F 0 m) ∧ Qa w w' ∧ w'.ownsRow w.heap.size 70 7 (.slice F 0 m) 0 [] := by simpa using NG (x.length + y.length) w (by omega)
   clear NG
   go_upto_region 11 with (go_at_call 99; (with_reducible refine Calls.mono (NG2) ?_); rintro e w2 ⟨FG, mG, rfl, hx2, hO0⟩)
   clear NG2
   clear a0 a1 al
   have L1 := Ye (f := fun i => Qs (x.getD i Qr) (vs1 i)) (sz := 7) (fun _ => rfl) x.length
   have L2 := Ye (f := fun i => Qs (y.getD i Qr) (vs2 i)) (sz := 7) (fun _ => rfl) y.length
   have O1 := K3 (g := fun i => x.getD i Qr) hat1
   have O2 := K3 (g := fun i => y.getD i Qr) hat2
   have W1 := fun v (h : Qn v D1 x.length 7 (fun i => Qs (x.getD i Qr) (vs1 i))) => Ul (f := fun i => Qs (x.getD i Qr) (vs1 i)) (sz := 7) (fun _ => rfl) (by decide) h
   have W2 := fun v (h : Qn v D2 y.length 7 (fun i => Qs (y.getD i Qr) (vs2 i))) => Ul (f := fun i => Qs (y.getD i Qr) (vs2 i)) (sz := 7) (fun _ => rfl) (by decide) h
   obtain ⟨XX, hXX⟩ := Qg (Qy (fun i => Qs (x.getD i Qr) (vs1 i)) x.length)
   obtain ⟨YY, hYY⟩ := Qg (Qy (fun i => Qs (y.getD i Qr) (vs2 i)) y.length)
   simp only [← hXX] at L1 O1 W1
   simp only [← hYY] at L2 O2 W2
   replace hXX := Lib.hid hXX
   replace hYY := Lib.hid hYY
   go_loopw [6, 27] (fun ov iv wr => ∃ k : Nat, k ≤ 2 ∧ iv = .int .i64 k ∧ wr.ownsRow w.heap.size 70 7 ov (if k = 0 then 0 else if k = 1 then x.length else x.length + y.length) (if k = 0 then [] else if k = 1 then XX else XX ++ YY) ∧ Qa w wr) (fun _ iv _ => 2 - (intOf iv).toNat)
   case atStart => exact ⟨0, by decide, rfl, by simpa using hO0, hx2⟩
   case round =>
    clear hO0 hx2
    obtain ⟨k, hk, rfl, hO, hE⟩ := hrel
    obtain ⟨wo, rfl⟩ := Qg wr
    have hk3 : k = 0 ∨ k = 1 ∨ k = 2 := by omega
    rcases hk3 with rfl | rfl | rfl
    ·simp only [if_true] at hO
     obtain ⟨FO, mO, rfl⟩ := Q9 hO
     obtain ⟨a0, a1⟩ := (hB.ext hE).c2
     have al := (hB.ext hE).lt
     cases D1 with
     | none =>
      obtain ⟨hxz, hcz⟩ := hnil1 rfl
      have hXz : XX = [] := List.length_eq_zero_iff.1 (by rw [L1, hxz])
      replace hXz := Lib.hid hXz
      replace hxz := Lib.hid hxz
      replace hcz := Lib.hid hcz
      clear hnil1 hnil2
      go_wp2_with (at_builtin; refine wpList_append_own_none rfl _ _ 29 rfl w.heap.size 70 i0 7 Tryz.underlying29 hi _ _ _ rfl hO (by show Value.slice none x.length c1 = _; rw [hxz.out, hcz.out]) ?_)
      exact ⟨⟨1, by decide, by go_num, by simpa [hXz.out, hxz.out] using hO, hE⟩, by simp [intOf]⟩
     | some ad =>
      go_wp2_with (at_builtin; refine wpList_append_own_at _ rfl _ _ 29 rfl w.heap.size 70 i0 (.agg #[.int .i64 0, .int .i64 0, .bool false, .int .i64 0, .bool false, .string ⟨#[]⟩, .slice none 0 0]) 7 80 Tryz.underlying29 hi hz0 hz1 hz2 rfl (by decide) _ _ _ rfl hO ad x.length c1 XX rfl L1 (W1 _ (hD1.ext hE) ad rfl) O1 (by unfold maxLen; omega) (by omega) hE.size ?_; intro v' w1 hown hgrow _ _)
      exact ⟨⟨1, by decide, by go_num, by simpa using hown, hE.grown hgrow (fun q hq => (hO.lt q hq).1)⟩, by simp [intOf]⟩
    ·simp only [show ¬ (1 = 0) by decide, if_false, if_true] at hO
     obtain ⟨FO, mO, rfl⟩ := Q9 hO
     obtain ⟨a0, a1⟩ := (hB.ext hE).c2
     have al := (hB.ext hE).lt
     cases D2 with
     | none =>
      obtain ⟨hxz, hcz⟩ := hnil2 rfl
      have hXz : YY = [] := List.length_eq_zero_iff.1 (by rw [L2, hxz])
      replace hXz := Lib.hid hXz
      replace hxz := Lib.hid hxz
      replace hcz := Lib.hid hcz
      clear hnil1 hnil2
      go_wp2_with (at_builtin; refine wpList_append_own_none rfl _ _ 29 rfl w.heap.size 70 i0 7 Tryz.underlying29 hi _ _ _ rfl hO (by show Value.slice none y.length c2 = _; rw [hxz.out, hcz.out]) ?_)
      exact ⟨⟨2, by decide, by go_num, by simpa [hXz.out, hxz.out] using hO, hE⟩, by simp [intOf]⟩
     | some ad =>
      go_wp2_with (at_builtin; refine wpList_append_own_at _ rfl _ _ 29 rfl w.heap.size 70 i0 (.agg #[.int .i64 0, .int .i64 0, .bool false, .int .i64 0, .bool false, .string ⟨#[]⟩, .slice none 0 0]) 7 80 Tryz.underlying29 hi hz0 hz1 hz2 rfl (by decide) _ _ _ rfl hO ad y.length c2 YY rfl L2 (W2 _ (hD2.ext hE) ad rfl) O2 (by unfold maxLen; omega) (by omega) hE.size ?_; intro v' w1 hown hgrow _ _)
      exact ⟨⟨2, by decide, by go_num, by simpa using hown, hE.grown hgrow (fun q hq => (hO.lt q hq).1)⟩, by simp [intOf]⟩
    ·simp only [show ¬ (2 = 0) by decide, show ¬ (2 = 1) by decide, if_false] at hO
     rw [hXX.out, hYY.out] at hO
     go_wp2
     go_ret
     exact ⟨_, rfl, hE, Cr hO (fun i hi => (hat1 i hi).ext hE) (fun i hi => (hat2 i hi).ext hE)⟩
theorem Xp {W : World} {b i : Nat} {t : TypeId} {cs : Array Value} {u : Value} (h : Qb W b t cs) (hi : cs[i]? = some u) : W.setCell ⟨b, i, none⟩ u = W := by
 unfold Qb at h
 obtain ⟨hi1, hi2⟩ := Array.getElem?_eq_some_iff.1 hi
 cases W with
 | mk heap tape drawn os output =>
  unfold World.setCell
  simp only at h ⊢
  congr 1
  apply Array.ext_getElem?
  intro j
  rw [Array.getElem?_modify]
  split
  ·rename_i hj
   subst hj
   rw [h]
   simp [Array.setIfInBounds, hi1, ← hi2]
  ·rfl
theorem Wd {W : World} {b : Nat} {t : TypeId} {u0 u1 u2 u3 u4 u5 u6 u7 u8 u9 u10 u11 : Value} (h : Qb W b t #[u0, u1, u2, u3, u4, u5, u6, u7, u8, u9, u10, u11]) : ((((((((((((W.setCell ⟨b, 0, none⟩ u0).setCell ⟨b, 1, none⟩ u1).setCell ⟨b, 2, none⟩ u2).setCell ⟨b, 3, none⟩ u3).setCell ⟨b, 4, none⟩ u4).setCell ⟨b, 5, none⟩ u5).setCell ⟨b, 6, none⟩ u6).setCell ⟨b, 7, none⟩ u7).setCell ⟨b, 8, none⟩ u8).setCell ⟨b, 9, none⟩ u9).setCell ⟨b, 10, none⟩ u10).setCell ⟨b, 11, none⟩ u11) = W := by
 rw [Xp (i := 0) (u := u0) h rfl, Xp (i := 1) (u := u1) h rfl, Xp (i := 2) (u := u2) h rfl, Xp (i := 3) (u := u3) h rfl, Xp (i := 4) (u := u4) h rfl, Xp (i := 5) (u := u5) h rfl, Xp (i := 6) (u := u6) h rfl, Xp (i := 7) (u := u7) h rfl, Xp (i := 8) (u := u8) h rfl, Xp (i := 9) (u := u9) h rfl, Xp (i := 10) (u := u10) h rfl, Xp (i := 11) (u := u11) h rfl]
theorem El {W : World} {b : Nat} {t : TypeId} {v0 v1 v2 v3 v4 v5 v6 v7 v8 v9 v10 v11 : Value} (h : Qb W b t #[v0, v1, v2, v3, v4, v5, v6, v7, v8, v9, v10, v11]) (u0 u1 u2 u3 u4 u5 u6 u7 u8 u9 u10 u11 : Value) : Qb ((((((((((((W.setCell ⟨b, 0, none⟩ u0).setCell ⟨b, 1, none⟩ u1).setCell ⟨b, 2, none⟩ u2).setCell ⟨b, 3, none⟩ u3).setCell ⟨b, 4, none⟩ u4).setCell ⟨b, 5, none⟩ u5).setCell ⟨b, 6, none⟩ u6).setCell ⟨b, 7, none⟩ u7).setCell ⟨b, 8, none⟩ u8).setCell ⟨b, 9, none⟩ u9).setCell ⟨b, 10, none⟩ u10).setCell ⟨b, 11, none⟩ u11) b t #[u0, u1, u2, u3, u4, u5, u6, u7, u8, u9, u10, u11] := by unfold Qb at h ⊢; simp [World.setCell, Array.getElem?_modify, h]
theorem ext12Q {w W : World} {b : Nat} (h : Qa w W) (hb : w.heap.size ≤ b) (u0 u1 u2 u3 u4 u5 u6 u7 u8 u9 u10 u11 : Value) : Qa w ((((((((((((W.setCell ⟨b, 0, none⟩ u0).setCell ⟨b, 1, none⟩ u1).setCell ⟨b, 2, none⟩ u2).setCell ⟨b, 3, none⟩ u3).setCell ⟨b, 4, none⟩ u4).setCell ⟨b, 5, none⟩ u5).setCell ⟨b, 6, none⟩ u6).setCell ⟨b, 7, none⟩ u7).setCell ⟨b, 8, none⟩ u8).setCell ⟨b, 9, none⟩ u9).setCell ⟨b, 10, none⟩ u10).setCell ⟨b, 11, none⟩ u11) := ((((((((((((h.setCell (p := ⟨b, 0, none⟩) hb u0).setCell (p := ⟨b, 1, none⟩) hb u1).setCell (p := ⟨b, 2, none⟩) hb u2).setCell (p := ⟨b, 3, none⟩) hb u3).setCell (p := ⟨b, 4, none⟩) hb u4).setCell (p := ⟨b, 5, none⟩) hb u5).setCell (p := ⟨b, 6, none⟩) hb u6).setCell (p := ⟨b, 7, none⟩) hb u7).setCell (p := ⟨b, 8, none⟩) hb u8).setCell (p := ⟨b, 9, none⟩) hb u9).setCell (p := ⟨b, 10, none⟩) hb u10).setCell (p := ⟨b, 11, none⟩) hb u11)
theorem oth12Q {W : World} {b b' : Nat} {t : TypeId} {cs : Array Value} (h : Qb W b' t cs) (hne : b' ≠ b) (u0 u1 u2 u3 u4 u5 u6 u7 u8 u9 u10 u11 : Value) : Qb ((((((((((((W.setCell ⟨b, 0, none⟩ u0).setCell ⟨b, 1, none⟩ u1).setCell ⟨b, 2, none⟩ u2).setCell ⟨b, 3, none⟩ u3).setCell ⟨b, 4, none⟩ u4).setCell ⟨b, 5, none⟩ u5).setCell ⟨b, 6, none⟩ u6).setCell ⟨b, 7, none⟩ u7).setCell ⟨b, 8, none⟩ u8).setCell ⟨b, 9, none⟩ u9).setCell ⟨b, 10, none⟩ u10).setCell ⟨b, 11, none⟩ u11) b' t cs := (Qh (Qh (Qh (Qh (Qh (Qh (Qh (Qh (Qh (Qh (Qh (Qh h hne 0 u0) hne 1 u1) hne 2 u2) hne 3 u3) hne 4 u4) hne 5 u5) hne 6 u6) hne 7 u7) hne 8 u8) hne 9 u9) hne 10 u10) hne 11 u11)
theorem Ol {W : World} {b : Nat} {t e : TypeId} {v0 v1 v2 v3 v4 v5 v6 v7 v8 v9 v10 v11 : Value} (h : Qb W b t #[v0, v1, v2, v3, v4, v5, v6, v7, v8, v9, v10, v11]) (hte : t ≠ e) {base size k : Nat} {v : Value} {xs : List Value} (hr : W.ownsRow base e size v k xs) (u0 u1 u2 u3 u4 u5 u6 u7 u8 u9 u10 u11 : Value) : (((((((((((((W.setCell ⟨b, 0, none⟩ u0).setCell ⟨b, 1, none⟩ u1).setCell ⟨b, 2, none⟩ u2).setCell ⟨b, 3, none⟩ u3).setCell ⟨b, 4, none⟩ u4).setCell ⟨b, 5, none⟩ u5).setCell ⟨b, 6, none⟩ u6).setCell ⟨b, 7, none⟩ u7).setCell ⟨b, 8, none⟩ u8).setCell ⟨b, 9, none⟩ u9).setCell ⟨b, 10, none⟩ u10).setCell ⟨b, 11, none⟩ u11)).ownsRow base e size v k xs := by
 have T0 := h
 have T1 : Qb _ _ _ #[u0, v1, v2, v3, v4, v5, v6, v7, v8, v9, v10, v11] := Jc T0 0 u0
 have R1 := Zl T0 hte hr 0 u0
 have T2 : Qb _ _ _ #[u0, u1, v2, v3, v4, v5, v6, v7, v8, v9, v10, v11] := Jc T1 1 u1
 have R2 := Zl T1 hte R1 1 u1
 have T3 : Qb _ _ _ #[u0, u1, u2, v3, v4, v5, v6, v7, v8, v9, v10, v11] := Jc T2 2 u2
 have R3 := Zl T2 hte R2 2 u2
 have T4 : Qb _ _ _ #[u0, u1, u2, u3, v4, v5, v6, v7, v8, v9, v10, v11] := Jc T3 3 u3
 have R4 := Zl T3 hte R3 3 u3
 have T5 : Qb _ _ _ #[u0, u1, u2, u3, u4, v5, v6, v7, v8, v9, v10, v11] := Jc T4 4 u4
 have R5 := Zl T4 hte R4 4 u4
 have T6 : Qb _ _ _ #[u0, u1, u2, u3, u4, u5, v6, v7, v8, v9, v10, v11] := Jc T5 5 u5
 have R6 := Zl T5 hte R5 5 u5
 have T7 : Qb _ _ _ #[u0, u1, u2, u3, u4, u5, u6, v7, v8, v9, v10, v11] := Jc T6 6 u6
 have R7 := Zl T6 hte R6 6 u6
 have T8 : Qb _ _ _ #[u0, u1, u2, u3, u4, u5, u6, u7, v8, v9, v10, v11] := Jc T7 7 u7
 have R8 := Zl T7 hte R7 7 u7
 have T9 : Qb _ _ _ #[u0, u1, u2, u3, u4, u5, u6, u7, u8, v9, v10, v11] := Jc T8 8 u8
 have R9 := Zl T8 hte R8 8 u8
 have T10 : Qb _ _ _ #[u0, u1, u2, u3, u4, u5, u6, u7, u8, u9, v10, v11] := Jc T9 9 u9
 have R10 := Zl T9 hte R9 9 u9
 have T11 : Qb _ _ _ #[u0, u1, u2, u3, u4, u5, u6, u7, u8, u9, u10, v11] := Jc T10 10 u10
 have R11 := Zl T10 hte R10 10 u10
 have T12 : Qb _ _ _ #[u0, u1, u2, u3, u4, u5, u6, u7, u8, u9, u10, u11] := Jc T11 11 u11
 have R12 := Zl T11 hte R11 11 u11
 exact R12
theorem Cp {W : World} {b : Nat} {t : TypeId} {v0 v1 v2 v3 v4 v5 v6 v7 v8 v9 v10 v11 : Value} (h : Qb W b t #[v0, v1, v2, v3, v4, v5, v6, v7, v8, v9, v10, v11]) (h1 : t ≠ 68) (h2 : t ≠ 70) {base n : Nat} {v : Value} {g : Nat → Dl} (hr : Zr W base v n g) (u0 u1 u2 u3 u4 u5 u6 u7 u8 u9 u10 u11 : Value) : Zr ((((((((((((W.setCell ⟨b, 0, none⟩ u0).setCell ⟨b, 1, none⟩ u1).setCell ⟨b, 2, none⟩ u2).setCell ⟨b, 3, none⟩ u3).setCell ⟨b, 4, none⟩ u4).setCell ⟨b, 5, none⟩ u5).setCell ⟨b, 6, none⟩ u6).setCell ⟨b, 7, none⟩ u7).setCell ⟨b, 8, none⟩ u8).setCell ⟨b, 9, none⟩ u9).setCell ⟨b, 10, none⟩ u10).setCell ⟨b, 11, none⟩ u11) base v n g := by
 obtain ⟨vs, g1, g2⟩ := hr
 exact ⟨vs, Ol h h2 g1 u0 u1 u2 u3 u4 u5 u6 u7 u8 u9 u10 u11, fun i hi => Ol h h1 (g2 i hi) u0 u1 u2 u3 u4 u5 u6 u7 u8 u9 u10 u11⟩
theorem Qb.f12 {W : World} {b : Nat} {t : TypeId} {cs : Array Value} (h : Qb W b t cs) : W.frozen? ⟨b, 0, none⟩ = false ∧ W.frozen? ⟨b, 1, none⟩ = false ∧ W.frozen? ⟨b, 2, none⟩ = false ∧ W.frozen? ⟨b, 3, none⟩ = false ∧ W.frozen? ⟨b, 4, none⟩ = false ∧ W.frozen? ⟨b, 5, none⟩ = false ∧ W.frozen? ⟨b, 6, none⟩ = false ∧ W.frozen? ⟨b, 7, none⟩ = false ∧ W.frozen? ⟨b, 8, none⟩ = false ∧ W.frozen? ⟨b, 9, none⟩ = false ∧ W.frozen? ⟨b, 10, none⟩ = false ∧ W.frozen? ⟨b, 11, none⟩ = false := ⟨h.frozen 0, h.frozen 1, h.frozen 2, h.frozen 3, h.frozen 4, h.frozen 5, h.frozen 6, h.frozen 7, h.frozen 8, h.frozen 9, h.frozen 10, h.frozen 11⟩
/-- A whole period stored: what stays. -/
theorem Jg {W : World} {b : Nat} {t : TypeId} {v0 v1 v2 v3 v4 v5 v6 v7 v8 v9 v10 v11 : Value} (h : Qb W b t #[v0, v1, v2, v3, v4, v5, v6, v7, v8, v9, v10, v11]) (h1 : t ≠ 68) (h2 : t ≠ 70) (u0 u1 u2 u3 u4 u5 u6 u7 u8 u9 u10 u11 : Value) : ∃ wq : World, wq = ((((((((((((W.setCell ⟨b, 0, none⟩ u0).setCell ⟨b, 1, none⟩ u1).setCell ⟨b, 2, none⟩ u2).setCell ⟨b, 3, none⟩ u3).setCell ⟨b, 4, none⟩ u4).setCell ⟨b, 5, none⟩ u5).setCell ⟨b, 6, none⟩ u6).setCell ⟨b, 7, none⟩ u7).setCell ⟨b, 8, none⟩ u8).setCell ⟨b, 9, none⟩ u9).setCell ⟨b, 10, none⟩ u10).setCell ⟨b, 11, none⟩ u11) ∧ Qb wq b t #[u0, u1, u2, u3, u4, u5, u6, u7, u8, u9, u10, u11] ∧ (∀ {base size k : Nat} {v : Value} {xs : List Value}, W.ownsRow base 68 size v k xs → wq.ownsRow base 68 size v k xs) ∧ (∀ {base n : Nat} {v : Value} {g : Nat → Dl}, Zr W base v n g → Zr wq base v n g) ∧ (∀ {b' : Nat} {t' : TypeId} {cs : Array Value}, Qb W b' t' cs → b' ≠ b → Qb wq b' t' cs) ∧ (∀ {w : World}, Qa w W → w.heap.size ≤ b → Qa w wq) :=
 ⟨_, rfl, El h u0 u1 u2 u3 u4 u5 u6 u7 u8 u9 u10 u11, fun hr => Ol h h1 hr u0 u1 u2 u3 u4 u5 u6 u7 u8 u9 u10 u11, fun hr => Cp h h1 h2 hr u0 u1 u2 u3 u4 u5 u6 u7 u8 u9 u10 u11, fun h' hne => oth12Q h' hne u0 u1 u2 u3 u4 u5 u6 u7 u8 u9 u10 u11, fun e hb => ext12Q e hb u0 u1 u2 u3 u4 u5 u6 u7 u8 u9 u10 u11⟩
theorem Cq (w : World) : Yn w (.slice none 0 0) [] := ⟨none, 0, fun _ => .slice none 0 0, rfl, Qn.nil, Nat.le_refl _, Nat.zero_le _, fun _ => ⟨rfl, rfl⟩, fun i hi => absurd hi (by simp)⟩
theorem Lz (w : World) (b : Nat) : Q8 w b Yu (.slice none 0 0) (.slice none 0 0) (.slice none 0 0) := ⟨World.ownsRow_nil _ _ _ _, G6 _ _ _, World.ownsRow_nil _ _ _ _⟩
theorem Vn (w : World) : Zz w Yu (.slice none 0 0) (.slice none 0 0) (.slice none 0 0) := ⟨Vc w, Cq w, Vc w⟩
end
end Go.Proofs.YtneiofnlmblglaaGreatDoor
