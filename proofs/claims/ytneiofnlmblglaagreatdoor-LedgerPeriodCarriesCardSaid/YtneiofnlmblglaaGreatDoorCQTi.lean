/- Carry of the reference. -/
import Derived.Test.YtneiofnlmblglaaGreatDoorCQTh
import Derived.Test.YtneiofnlmblglaaGreatDoorCQZm
set_option maxRecDepth 100000
set_option maxHeartbeats 4000000
namespace Go.Proofs.YtneiofnlmblglaaGreatDoor
open Go Go.RowKit Go.Shelf
attribute [local go_sem] Zt
section
variable {W : World} {b n gq cq k : Nat} {g : Nat → Pd} {vo vd vc : Nat → Value}
theorem pers_o (hO : W.ownsRow b 31 12 (.slice (some ⟨gq, 0, none⟩) n cq) n (Q0 (fun i => Yl (g i) (vo i) (vd i) (vc i)) n)) (hL : ∀ i, i < n → Ui W b (g i) (vo i) (vd i) (vc i)) (hk : k < n) {u : Value} {O : List Lt} (hu : Zn W b u O) :
  (W.setCell ⟨gq, k * 12 + 9, none⟩ u).ownsRow b 31 12 (.slice (some ⟨gq, 0, none⟩) n cq) n (Q0 (fun i => Yl (if i = k then ⟨(g k).h, (g k).a, (g k).b, O, (g k).d, (g k).c⟩ else g i) (if i = k then u else vo i) (vd i) (vc i)) n) ∧
  ∀ i, i < n → Ui (W.setCell ⟨gq, k * 12 + 9, none⟩ u) b (if i = k then ⟨(g k).h, (g k).a, (g k).b, O, (g k).d, (g k).c⟩ else g i) (if i = k then u else vo i) (vd i) (vc i) := by
 obtain ⟨h1, h2⟩ := World.ownsRow.stored hO (k * 12 + 9) u
 refine ⟨?_, fun i hi => ?_⟩
 ·rw [Pz (f := fun i => Yl (g i) (vo i) (vd i) (vc i)) (sz := 12) (fun _ => rfl) (by decide) u hk] at h1
  rw [Vv (f' := fun y => if y = k then (Yl (g k) (vo k) (vd k) (vc k)).set 9 u else Yl (g y) (vo y) (vd y) (vc y)) n (fun i _ => by by_cases e : i = k <;> simp [e, Yl])]
  exact h1
 ·have hp := Ui.kept (hL i hi) hO h2 rfl
  by_cases e : i = k
  ·subst e
   simp only [if_true]
   exact ⟨World.ownsRow.kept hu h2 (Mt hu hO (by decide)), hp.d, hp.c⟩
  ·simpa [e] using hp
theorem pers_c (hO : W.ownsRow b 31 12 (.slice (some ⟨gq, 0, none⟩) n cq) n (Q0 (fun i => Yl (g i) (vo i) (vd i) (vc i)) n)) (hL : ∀ i, i < n → Ui W b (g i) (vo i) (vd i) (vc i)) (hk : k < n) {u : Value} {O : List Lt} (hu : Zn W b u O) :
  (W.setCell ⟨gq, k * 12 + 11, none⟩ u).ownsRow b 31 12 (.slice (some ⟨gq, 0, none⟩) n cq) n (Q0 (fun i => Yl (if i = k then ⟨(g k).h, (g k).a, (g k).b, (g k).o, (g k).d, O⟩ else g i) (vo i) (vd i) (if i = k then u else vc i)) n) ∧
  ∀ i, i < n → Ui (W.setCell ⟨gq, k * 12 + 11, none⟩ u) b (if i = k then ⟨(g k).h, (g k).a, (g k).b, (g k).o, (g k).d, O⟩ else g i) (vo i) (vd i) (if i = k then u else vc i) := by
 obtain ⟨h1, h2⟩ := World.ownsRow.stored hO (k * 12 + 11) u
 refine ⟨?_, fun i hi => ?_⟩
 ·rw [Pz (f := fun i => Yl (g i) (vo i) (vd i) (vc i)) (sz := 12) (fun _ => rfl) (by decide) u hk] at h1
  rw [Vv (f' := fun y => if y = k then (Yl (g k) (vo k) (vd k) (vc k)).set 11 u else Yl (g y) (vo y) (vd y) (vc y)) n (fun i _ => by by_cases e : i = k <;> simp [e, Yl])]
  exact h1
 ·have hp := Ui.kept (hL i hi) hO h2 rfl
  by_cases e : i = k
  ·subst e
   simp only [if_true]
   exact ⟨hp.o, hp.d, World.ownsRow.kept hu h2 (Mt hu hO (by decide))⟩
  ·simpa [e] using hp
theorem pers_cell (hO : W.ownsRow b 31 12 (.slice (some ⟨gq, 0, none⟩) n cq) n (Q0 (fun i => Yl (g i) (vo i) (vd i) (vc i)) n)) (hk : k < n) {j : Nat} (hj : j < 12) : W.cell? ⟨gq, k * 12 + j, none⟩ = (Yl (g k) (vo k) (vd k) (vc k))[j]? := by
 rw [World.ownsRow.cellAt hO (k * 12 + j) (by omega), Ue (f := fun i => Yl (g i) (vo i) (vd i) (vc i)) (sz := 12) (fun _ => rfl) hk hj]
end
theorem PersOwn.congr {W : World} {b n : Nat} {v : Value} {g g' : Nat → Pd} (h : PersOwn W b v n g) (e : ∀ i, i < n → g i = g' i) : PersOwn W b v n g' := by
 obtain ⟨vo, vd, vc, h1, h2⟩ := h
 refine ⟨vo, vd, vc, ?_, fun i hi => by rw [← e i hi]; exact h2 i hi⟩
 rw [Vv (f' := fun i => Yl (g i) (vo i) (vd i) (vc i)) n (fun i hi => by rw [e i hi])]
 exact h1
theorem CarJ.lastq {c : Qf} {l : List Pd} {R : List Pd × Int} {L : List Pd} {k : Nat} (h : CarJ c l R L (k + 1)) : L.getLast? = some (L.getD k Ww) := by
 have hl := h.len
 simp only [List.getLast?_eq_getElem?, hl, List.getD_eq_getElem?_getD, Nat.add_sub_cancel]
 rw [List.getElem?_eq_getElem (show k < L.length by omega)]; rfl
theorem carryR_any (A A' : Option Addr) (ca cb : Nat) (c : Qf) (l : List Pd) (v : Value) (w : World) (hC : Qv w A ca A' cb c) (hP : U5 w v l) (hL : ∀ i, i < l.length → (l.getD i Ww).Light) (hsd : l.length * 152 ≤ 140737488351232) :
  Calls Tryz.prog 18 #[.agg #[.slice A c.nk ca, .slice A' c.ny cb], v] w fun e w' => ∃ v', e = .returned (.tuple #[v', .int .i64 (c.carryV l).2]) ∧ Qa w w' ∧ U5 w' v' (c.carryV l).1 := by
 obtain ⟨D, cap, vo, vd, vc, rfl, hD, hcap, hmax, _, _⟩ := id hP
 have hn : l.length ≤ 9223372036854775807 := Nat.le_trans hcap (Nat.le_trans hmax (by decide))
 have NV := fun w h1 h2 => allR_any A A' ca cb c l (.slice D l.length cap) w h1 h2
 have NCA := fun w h => copyAllR_any (.slice D l.length cap) l w h hL hsd
 obtain ⟨pe, hpe⟩ := Qg (c.archE l)
 simp only [← hpe] at NV
 replace hpe := Lib.hid hpe
 obtain ⟨R, hR0⟩ := Qg (c.carryV l)
 rw [← hR0]
 have HR := Lib.hid hR0
 clear hR0 hcap hmax hD
 go_enter Tryz.func18, Tryz.ntmps18
 go_upto_region 1 with (fail)
 obtain ⟨v, hv⟩ := Qg (w.alloc (.cells #[.slice A c.nk ca, .slice A' c.ny cb] 25))
 rw [← hv]
 have E : Qa w v := by rw [hv]; exact (Qa.refl _).alloc _
 have B1 : Qb v w.heap.size 25 #[.slice A c.nk ca, .slice A' c.ny cb] := by rw [hv]; exact (Qb.new _ _ _)
 clear hv
 obtain ⟨b1, hb1⟩ := Qg (w.heap.size)
 rw [← hb1] at B1 ⊢
 have hbr : w.heap.size ≤ b1 := by omega
 clear hb1
 have C := hC.ext E
 obtain ⟨k0, k1⟩ := B1.c2
 have kl := B1.lt
 go_upto_region 2 with (go_at_call 50; (with_reducible refine Calls.mono (NV _ C (hP.ext E)) ?_); rintro e w1 ⟨rfl, hx⟩; replace E := E.trans hx; replace C := C.ext hx; replace B1 := B1.ext hx; clear hx; clear k0 k1 kl; obtain ⟨k0, k1⟩ := B1.c2; have kl := B1.lt)
 clear NV
 by_cases e0 : pe = 0
 rotate_left
 ·have g0 : (pe == 0) = false := beq_eq_false_iff_ne.2 e0
  have g0n : (pe != 0) = true := by rw [bne, g0]; rfl
  obtain rfl : R = ([], pe) := by rw [HR.out]; unfold Qf.carryV; rw [← hpe.out]; exact if_pos e0
  clear HR e0 hpe
  go_wp2
  go_ret2
  exact ⟨_, rfl, E, persAt_nil _⟩
 subst e0
 obtain ⟨hv, h32, hall⟩ := archE_ok hpe.out.symm
 have hside : Hid (∀ k, k < l.length → Vb c (l.getD k Ww)) := fun k hk => pdOk (hall k hk)
 have J0 : Hid (CarJ c l R [] 0) := by
  have h : R = c.carR none l := by rw [HR.out]; unfold Qf.carryV; rw [← hpe.out]; exact if_neg (by simp)
  rw [h]; exact CarJ.zero c l
 clear HR hpe hall
 go_upto_region 6 with (go_at_call 16; (with_reducible refine Calls.mono (NCA _ (hP.ext E)) ?_); rintro e w2 ⟨v', rfl, h2, PO0⟩)
 obtain ⟨FO, mO, rfl⟩ := (show ∃ F m, v' = .slice F l.length m from by obtain ⟨_, _, _, h, _⟩ := PO0; exact Z5 h)
 clear k0 k1 kl
 have hz1 := E.size
 have hlb := B1.lt
 replace E := E.trans h2
 replace B1 := B1.ext h2
 clear C
 have PO1 : PersOwn w2 w1.heap.size (.slice FO l.length mO) l.length (fun i => if i < 0 then ([] : List Pd).getD i Ww else l.getD i Ww) := by simpa using PO0
 have hz2 := h2.size
 clear PO0 h2 NCA
 go_loopw [8] (fun iv wr => ∃ (k : Nat) (L : List Pd), k ≤ l.length ∧ iv = .int .i64 k ∧ PersOwn wr w1.heap.size (.slice FO l.length mO) l.length (fun i => if i < k then L.getD i Ww else l.getD i Ww) ∧ Hid (CarJ c l R L k) ∧ Qa w wr ∧ Qb wr b1 25 #[.slice A c.nk ca, .slice A' c.ny cb] ∧ w1.heap.size ≤ wr.heap.size) (fun iv _ => l.length - (intOf iv).toNat)
 case atStart => exact ⟨0, [], Nat.zero_le _, rfl, PO1, J0, E, B1, hz2⟩
 case round =>
  clear J0 PO1 B1 E
  obtain ⟨k, L, hk, rfl, ⟨ro, rd, rc, hO, hLo0⟩, hJ, E, B1, hzr⟩ := hrel
  have hLo := Lib.hid hLo0
  clear hLo0
  obtain ⟨wo, rfl⟩ := Qg wr
  obtain ⟨k0, k1⟩ := B1.c2
  have kl := B1.lt
  by_cases hlt : k < l.length
  ·obtain ⟨gq, cq, hv1, hgq, hgz⟩ := Ku hO (by omega)
   injection hv1 with hv2 _ hv3
   subst hv2
   subst hv3
   have hok := hside.out k hlt
   obtain ⟨G, hG⟩ := Qg (l.getD k Ww)
   rw [← hG] at hok
   have hlo := hok.o
   clear hok
   obtain ⟨g, hg⟩ := Qg (fun i => if i < k then L.getD i Ww else l.getD i Ww)
   have hg' : ∀ i, (if i < k then L.getD i Ww else l.getD i Ww) = g i := fun i => by rw [hg]
   simp only [hg'] at hO
   have hL : Hid (∀ i, i < l.length → Ui wo w1.heap.size (g i) (ro i) (rd i) (rc i)) := fun i hi => by rw [← hg']; exact hLo.out i hi
   have hgl : Hid ((∀ i, i < k → g i = L.getD i Ww) ∧ ∀ i, k < i → g i = l.getD i Ww) := ⟨fun i hi => by rw [← hg', if_pos hi], fun i hi => by rw [← hg', if_neg (by omega)]⟩
   have hgk : g k = G := by rw [← hg', if_neg (by omega), hG]
   replace hG := Lib.hid hG
   clear hg hg' hLo
   by_cases h0 : 0 < k
   rotate_left
   ·have hk0 : k = 0 := by omega
    have hLn : L.getLast? = none := by
     have := hJ.out.len
     rw [hk0] at this
     rw [List.length_eq_zero_iff.1 this]; rfl
    have hq : (L.getLast?.any fun q => !c.behV q (l.getD k Ww)) = false := by rw [hLn]; rfl
    have hel : L.getLast?.elim (l.getD k Ww).o (·.c) = G.o := by rw [hLn, hG.out]; rfl
    clear hk0 hLn
    replace hq := Lib.hid hq
    replace hel := Lib.hid hel
    have hgk2 : g k = ⟨G.h, G.a, G.b, G.o, G.d, G.c⟩ := hgk
    clear hgk
    replace hgk2 := Lib.hid hgk2
    have PK := hL.out (k) hlt
    rw [hgk2.out] at PK
    have cs := fun (j : Nat) (hj : j < 12) => pers_cell hO hlt hj
    simp only [hgk2.out] at cs
    generalize hvo : ro (k) = u1 at *
    generalize hvd : rd (k) = u2 at *
    generalize hvc : rc (k) = u3 at *
    clear hvo hvd hvc
    have PA := Qbr PK
    obtain ⟨y1, z1, e1, _⟩ := id PA.o
    subst e1
    obtain ⟨y2, z2, _, e2, _⟩ := id PA.d
    subst e2
    obtain ⟨y3, z3, e3, _⟩ := id PA.c
    subst e3
    have p0 : wo.cell? ⟨gq, (k) * 12, none⟩ = some (.string G.h) := cs 0 (by decide)
    have p1 : wo.cell? ⟨gq, (k) * 12 + 1, none⟩ = some (.int .i64 G.a.y) := cs 1 (by decide)
    have p2 : wo.cell? ⟨gq, (k) * 12 + 2, none⟩ = some (.int .i64 G.a.m) := cs 2 (by decide)
    have p3 : wo.cell? ⟨gq, (k) * 12 + 3, none⟩ = some (.bool G.a.s) := cs 3 (by decide)
    have p4 : wo.cell? ⟨gq, (k) * 12 + 4, none⟩ = some (.int .i64 G.a.d) := cs 4 (by decide)
    have p5 : wo.cell? ⟨gq, (k) * 12 + 5, none⟩ = some (.int .i64 G.b.y) := cs 5 (by decide)
    have p6 : wo.cell? ⟨gq, (k) * 12 + 6, none⟩ = some (.int .i64 G.b.m) := cs 6 (by decide)
    have p7 : wo.cell? ⟨gq, (k) * 12 + 7, none⟩ = some (.bool G.b.s) := cs 7 (by decide)
    have p8 : wo.cell? ⟨gq, (k) * 12 + 8, none⟩ = some (.int .i64 G.b.d) := cs 8 (by decide)
    have p9 : wo.cell? ⟨gq, (k) * 12 + 9, none⟩ = some (.slice y1 (G.o).length z1) := cs 9 (by decide)
    have p10 : wo.cell? ⟨gq, (k) * 12 + 10, none⟩ = some (.slice y2 G.d.length z2) := cs 10 (by decide)
    have p11 : wo.cell? ⟨gq, (k) * 12 + 11, none⟩ = some (.slice y3 G.c.length z3) := cs 11 (by decide)
    clear cs
    have NB := fun w h => Qed ⟨G.h, G.a, G.b, G.o, G.d, G.c⟩ (.slice y1 (G.o).length z1) (.slice y2 G.d.length z2) (.slice y3 G.c.length z3) w h (show (G.o).length * 24 ≤ 140737488351232 by omega)
    dsimp only at NB
    obtain ⟨SV, hSV⟩ := Qg (Zm (G.o) G.d)
    have hsl : (Zm (G.o) G.d).1.length ≤ 64 := Gu _ _ (by omega)
    rw [← hSV] at hsl
    simp only [← hSV] at NB
    replace hSV := Lib.hid hSV
    obtain ⟨S, se⟩ := SV
    simp only at NB hsl
    go_upto_region 13 with (go_at_call 30; (with_reducible refine Calls.mono (NB _ PA) ?_); rintro e w6 ⟨vr, rfl, h6, SR⟩; obtain ⟨FR, mR, rfl⟩ := Z5 SR)
    clear NB p0 p1 p2 p3 p4 p5 p6 p7 p8 p9 p10 p11
    have hs2 : (Zm (L.getLast?.elim (l.getD (k) Ww).o (·.c)) (l.getD (k) Ww).d) = (S, se) := by rw [hel.out, ← hG.out]; exact hSV.out.symm
    by_cases es : se = 0
    rotate_left
    ·have g0 : (se == 0) = false := beq_eq_false_iff_ne.2 es
     have g0n : (se != 0) = true := by rw [bne, g0]; rfl
     obtain rfl := hJ.out.sum hlt hq.out (by rw [hs2]) es
     clear hs2 hSV es
     go_wp2
     go_ret2
     exact ⟨_, rfl, E.trans h6, persAt_nil _⟩
    subst es
    have J' := Lib.hid (hJ.out.step hlt hq.out (by rw [hs2]) (by rw [hs2]; exact hsl))
    obtain ⟨he1, he2⟩ := last_of (x := carP L.getLast? (l.getD (k) Ww)) hJ.out.len
    have hx : carP L.getLast? (l.getD (k) Ww) = ⟨G.h, G.a, G.b, G.o, G.d, S⟩ := by unfold carP; rw [hs2, hel.out, ← hG.out]
    have hO6 := Q5 hO h6
    have hL6 : ∀ i, i < l.length → Ui w6 w1.heap.size (g i) (ro i) (rd i) (rc i) := fun i hi => (hL.out i hi).ext h6
    have hsz6 := E.size
    have SR6 : Zn w6 w1.heap.size (.slice FR S.length mR) S := Yc SR (by omega)
    have fz := World.ownsRow.frozenAt hO6 ((k) * 12 + 11)
    have xz := pers_cell hO6 hlt (j := 11) (by decide)
    have xl := K7 hO6
    have xz' : w6.cell? ⟨gq, (k) * 12 + 11, none⟩ = some (rc (k)) := xz
    clear xz
    obtain ⟨hO7, hL7⟩ := pers_c hO6 hL6 hlt SR6
    have E7 := (E.trans h6).setCell (p := ⟨gq, (k) * 12 + 11, none⟩) (show w.heap.size ≤ gq by omega) (.slice FR S.length mR)
    have B7 := Qh (Qb.ext B1 h6) (show b1 ≠ gq by omega) ((k) * 12 + 11) (.slice FR S.length mR)
    have hs7 : (w6.setCell ⟨gq, (k) * 12 + 11, none⟩ (.slice FR S.length mR)).heap.size = w6.heap.size := by simp [World.setCell]
    go_upto_region 7 with (fail)
    generalize w6.setCell _ _ = w7 at *
    have D7 : PersOwn w7 w1.heap.size (.slice (some ⟨gq, 0, none⟩) l.length mO) l.length (fun i => if i < k + 1 then (L ++ [carP L.getLast? (l.getD (k) Ww)]).getD i Ww else l.getD i Ww) := PersOwn.congr ⟨_, _, _, hO7, hL7⟩ (fun i hi => by
     by_cases e : i = k
     ·subst e
      rw [if_pos rfl, if_pos (by omega), he2, hx, hgk2.out]
     ·rw [if_neg e]
      by_cases e2 : i < k
      ·rw [if_pos (show i < k + 1 by omega), ← he1 i e2]; exact hgl.out.1 i e2
      ·rw [if_neg (show ¬ i < k + 1 by omega)]; exact hgl.out.2 i (by omega))
    clear fz xz' xl hO7 hL7 hO6 hL6 hL
    go_wp2
    exact ⟨⟨k + 1, _, by omega, by go_num, D7, J', E7, B7, by have := h6.size; omega⟩, by simp [intOf]; omega⟩
   obtain ⟨k', hkk⟩ : ∃ j, k = j + 1 := ⟨k - 1, by omega⟩
   subst hkk
   have hlt' : k' < l.length := by omega
   have hLq := hJ.out.lastq
   have hgp : g k' = L.getD k' Ww := hgl.out.1 k' (by omega)
   have hcl := hJ.out.cl k' (by omega)
   have hany : Hid ((L.getLast?.any fun q => !c.behV q (l.getD (k' + 1) Ww)) = !c.behV (L.getD k' Ww) G) := by unfold Hid; rw [hLq, hG.out]; rfl
   have hlast : Hid (L.getLast?.elim (l.getD (k' + 1) Ww).o (·.c) = (L.getD k' Ww).c) := by unfold Hid; rw [hLq]; rfl
   clear hLq
   have hgl' := hgl
   generalize hGP : L.getD k' Ww = GP at hgp hcl hany hlast
   replace hGP := Lib.hid hGP
   have PK := hL.out (k' + 1) hlt
   rw [hgk] at PK
   have PP := hL.out k' hlt'
   rw [hgp] at PP
   have cs := fun (j : Nat) (hj : j < 12) => pers_cell hO hlt hj
   simp only [hgk] at cs
   have ds := fun (j : Nat) (hj : j < 12) => pers_cell hO hlt' hj
   simp only [hgp] at ds
   have PAk := Qbr PK
   have PAp := Qbr PP
   generalize hn1 : ro (k' + 1) = u1 at cs PAk
   generalize hn2 : rd (k' + 1) = u2 at cs PAk
   generalize hn3 : rc (k' + 1) = u3 at cs PAk
   generalize hn4 : ro k' = u4 at ds PAp
   generalize hn5 : rd k' = u5 at ds PAp
   generalize hn6 : rc k' = u6 at ds PAp
   clear PK PP hn1 hn2 hn3 hn4 hn5 hn6
   obtain ⟨y1, z1, e1, _⟩ := id PAk.o
   subst e1
   obtain ⟨y2, z2, _, e2, _⟩ := id PAk.d
   subst e2
   obtain ⟨y3, z3, e3, _⟩ := id PAk.c
   subst e3
   obtain ⟨y4, z4, e4, _⟩ := id PAp.o
   subst e4
   obtain ⟨y5, z5, _, e5, _⟩ := id PAp.d
   subst e5
   obtain ⟨y6, z6, e6, _⟩ := id PAp.c
   subst e6
   have p0 : wo.cell? ⟨gq, (k' + 1) * 12, none⟩ = some (.string G.h) := cs 0 (by decide)
   have p1 : wo.cell? ⟨gq, (k' + 1) * 12 + 1, none⟩ = some (.int .i64 G.a.y) := cs 1 (by decide)
   have p2 : wo.cell? ⟨gq, (k' + 1) * 12 + 2, none⟩ = some (.int .i64 G.a.m) := cs 2 (by decide)
   have p3 : wo.cell? ⟨gq, (k' + 1) * 12 + 3, none⟩ = some (.bool G.a.s) := cs 3 (by decide)
   have p4 : wo.cell? ⟨gq, (k' + 1) * 12 + 4, none⟩ = some (.int .i64 G.a.d) := cs 4 (by decide)
   have p5 : wo.cell? ⟨gq, (k' + 1) * 12 + 5, none⟩ = some (.int .i64 G.b.y) := cs 5 (by decide)
   have p6 : wo.cell? ⟨gq, (k' + 1) * 12 + 6, none⟩ = some (.int .i64 G.b.m) := cs 6 (by decide)
   have p7 : wo.cell? ⟨gq, (k' + 1) * 12 + 7, none⟩ = some (.bool G.b.s) := cs 7 (by decide)
   have p8 : wo.cell? ⟨gq, (k' + 1) * 12 + 8, none⟩ = some (.int .i64 G.b.d) := cs 8 (by decide)
   have p9 : wo.cell? ⟨gq, (k' + 1) * 12 + 9, none⟩ = some (.slice y1 G.o.length z1) := cs 9 (by decide)
   have p10 : wo.cell? ⟨gq, (k' + 1) * 12 + 10, none⟩ = some (.slice y2 G.d.length z2) := cs 10 (by decide)
   have p11 : wo.cell? ⟨gq, (k' + 1) * 12 + 11, none⟩ = some (.slice y3 G.c.length z3) := cs 11 (by decide)
   have q0 : wo.cell? ⟨gq, k' * 12, none⟩ = some (.string GP.h) := ds 0 (by decide)
   have q1 : wo.cell? ⟨gq, k' * 12 + 1, none⟩ = some (.int .i64 GP.a.y) := ds 1 (by decide)
   have q2 : wo.cell? ⟨gq, k' * 12 + 2, none⟩ = some (.int .i64 GP.a.m) := ds 2 (by decide)
   have q3 : wo.cell? ⟨gq, k' * 12 + 3, none⟩ = some (.bool GP.a.s) := ds 3 (by decide)
   have q4 : wo.cell? ⟨gq, k' * 12 + 4, none⟩ = some (.int .i64 GP.a.d) := ds 4 (by decide)
   have q5 : wo.cell? ⟨gq, k' * 12 + 5, none⟩ = some (.int .i64 GP.b.y) := ds 5 (by decide)
   have q6 : wo.cell? ⟨gq, k' * 12 + 6, none⟩ = some (.int .i64 GP.b.m) := ds 6 (by decide)
   have q7 : wo.cell? ⟨gq, k' * 12 + 7, none⟩ = some (.bool GP.b.s) := ds 7 (by decide)
   have q8 : wo.cell? ⟨gq, k' * 12 + 8, none⟩ = some (.int .i64 GP.b.d) := ds 8 (by decide)
   have q9 : wo.cell? ⟨gq, k' * 12 + 9, none⟩ = some (.slice y4 GP.o.length z4) := ds 9 (by decide)
   have q10 : wo.cell? ⟨gq, k' * 12 + 10, none⟩ = some (.slice y5 GP.d.length z5) := ds 10 (by decide)
   have q11 : wo.cell? ⟨gq, k' * 12 + 11, none⟩ = some (.slice y6 GP.c.length z6) := ds 11 (by decide)
   clear cs
   replace ds := Lib.hid ds
   have C := hC.ext E
   have NBH := fun w h1 h2 h3 => behindR_any A A' ca cb c GP G (.slice y4 GP.o.length z4) (.slice y5 GP.d.length z5) (.slice y6 GP.c.length z6) (.slice y1 G.o.length z1) (.slice y2 G.d.length z2) (.slice y3 G.c.length z3) w h1 hv h2 h3
   go_upto_region 9 with (fail)
   cases hbh : c.behV GP G
   ·rw [hbh] at NBH
    have hb1 : (L.getLast?.any fun q => !c.behV q (l.getD (k' + 1) Ww)) = true := by rw [hany.out, hbh]; rfl
    obtain rfl := hJ.out.follow hlt hb1
    clear hany hlast hbh hb1 hJ hside ds
    refine Q8 wo Qm (by kernel_rfl) (by repeat (first | exact Qa.refl _ | (refine Qa.alloc ?_ _) | (refine Qa.trans ?_ (by assumption)))) ?_
    intro hne hrx hry
    try simp only []
    try simp only [List.append_eq, List.cons_append, List.nil_append]
    skip
    repeat (first
     | go_big_quiet_skip
     | (go_big_quiet_want; go_big_quiet_op; go_big_quiet_on)
     | (go_big_quiet_want; go_big_quiet_op; apply Exists.intro; refine ⟨fun u => ?_, ?_⟩
        ·first
          | (go_at_call 51; (with_reducible refine Calls.mono (NBH _ (C.ext u.e) (PAp.ext u.e) (PAk.ext u.e)) ?_); rintro e w' ⟨rfl, hb⟩; exact ⟨rfl, u.back hb⟩)
        go_big_quiet_on))
    clear hne hry hrx
    refine wpQuiet_nil ?_
    intro w5 h5
    obtain ⟨hcw5, hfw5, hzw5⟩ := Qa.rules h5
    try simp only [World.size_alloc] at hzw5
    obtain ⟨hcbw5, hfbw5, hzbw5⟩ := Qa.rules (show Qa wo w5 from (by repeat (first | exact Qa.refl _ | (refine Qa.alloc ?_ _) | (refine Qa.trans ?_ (by assumption)))))
    clear hcw5 hfw5
    go_wp2
    go_ret2
    exact ⟨_, rfl, E.trans h5, persAt_nil _⟩
   ·rw [hbh] at NBH
    have hq : Hid ((L.getLast?.any fun q => !c.behV q (l.getD (k' + 1) Ww)) = false) := by unfold Hid; rw [hany.out, hbh]; rfl
    clear hany hbh
    refine Q8 wo Qm (by kernel_rfl) (by repeat (first | exact Qa.refl _ | (refine Qa.alloc ?_ _) | (refine Qa.trans ?_ (by assumption)))) ?_
    intro hne hrx hry
    try simp only []
    try simp only [List.append_eq, List.cons_append, List.nil_append]
    skip
    repeat (first
     | go_big_quiet_skip
     | (go_big_quiet_want; go_big_quiet_op; go_big_quiet_on)
     | (go_big_quiet_want; go_big_quiet_op; apply Exists.intro; refine ⟨fun u => ?_, ?_⟩
        ·first
          | (go_at_call 51; (with_reducible refine Calls.mono (NBH _ (C.ext u.e) (PAp.ext u.e) (PAk.ext u.e)) ?_); rintro e w' ⟨rfl, hb⟩; exact ⟨rfl, u.back hb⟩)
        go_big_quiet_on))
    clear hne hry hrx
    refine wpQuiet_nil ?_
    intro w5 h5
    obtain ⟨hcw5, hfw5, hzw5⟩ := Qa.rules h5
    try simp only [World.size_alloc] at hzw5
    obtain ⟨hcbw5, hfbw5, hzbw5⟩ := Qa.rules (show Qa wo w5 from (by repeat (first | exact Qa.refl _ | (refine Qa.alloc ?_ _) | (refine Qa.trans ?_ (by assumption)))))
    clear hcw5 hfw5
    have q11' := (Qa.cell h5 (p := ⟨gq, k' * 12 + 11, none⟩) (by omega)).trans (ds.out 11 (by decide))
    replace q11' : w5.cell? ⟨gq, k' * 12 + 11, none⟩ = some (.slice y6 GP.c.length z6) := q11'
    clear p0 q0 p1 q1 p2 q2 p3 q3 p4 q4 p5 q5 p6 q6 p7 q7 p8 q8 p9 q9 p10 q10 p11 NBH ds PAk
    have LK := PAp.c.ext h5
    clear PAp
    have hO5 := Q5 hO h5
    have hL5 : ∀ i, i < l.length → Ui w5 w1.heap.size (g i) (ro i) (rd i) (rc i) := fun i hi => (hL.out i hi).ext h5
    replace E := E.trans h5
    replace B1 := B1.ext h5
    have hz5 := h5.size
    generalize hOL : GP.c = OL at *
    have NCK := fun w h => Vo (.slice y6 OL.length z6) OL w h (by omega)
    have gl5 := K7 hO5
    obtain ⟨k0, k1⟩ := B1.c2
    have kl := B1.lt
    go_upto_region 12 with (go_at_call 20; (with_reducible refine Calls.mono (NCK _ LK) ?_); rintro e w6 ⟨v1, rfl, h6, SK⟩; obtain ⟨F7, m7, rfl⟩ := Z5 SK; have hO6 := Q5 hO5 h6; have fz := World.ownsRow.frozenAt hO6 ((k' + 1) * 12 + 9); have xz : w6.cell? ⟨gq, (k' + 1) * 12 + 9, none⟩ = some (ro (k' + 1)) := pers_cell hO6 hlt (j := 9) (by decide); have xl := K7 hO6)
    have hL6 : ∀ i, i < l.length → Ui w6 w1.heap.size (g i) (ro i) (rd i) (rc i) := fun i hi => (hL5 i hi).ext h6
    have SK6 : Zn w6 w1.heap.size (.slice F7 OL.length m7) OL := Yc SK (by omega)
    obtain ⟨hO7, hL7⟩ := pers_o hO6 hL6 hlt SK6
    have E7 := (E.trans h6).setCell (p := ⟨gq, (k' + 1) * 12 + 9, none⟩) (show w.heap.size ≤ gq by omega) (.slice F7 OL.length m7)
    have B7 := Qh (Qb.ext B1 h6) (show b1 ≠ gq by omega) ((k' + 1) * 12 + 9) (.slice F7 OL.length m7)
    have hs6 := h6.size
    have hs7 : (w6.setCell ⟨gq, (k' + 1) * 12 + 9, none⟩ (.slice F7 OL.length m7)).heap.size = w6.heap.size := by simp [World.setCell]
    generalize w6.setCell _ _ = w7 at *
    clear fz xz xl hO6 hL6 SK SK6 h6 NCK LK hO5 hL5 hO hL q11' gl5 k0 k1 kl
    obtain ⟨g2, hg2⟩ : ∃ g2 : Nat → Pd, ∀ i, (if i = k' + 1 then (⟨(g (k' + 1)).h, (g (k' + 1)).a, (g (k' + 1)).b, OL, (g (k' + 1)).d, (g (k' + 1)).c⟩ : Pd) else g i) = g2 i := ⟨_, fun _ => rfl⟩
    obtain ⟨ro2, hr2⟩ : ∃ r2 : Nat → Value, ∀ i, (if i = k' + 1 then (.slice F7 OL.length m7 : Value) else ro i) = r2 i := ⟨_, fun _ => rfl⟩
    simp only [hg2, hr2] at hO7 hL7
    have hgk2 : Hid (g2 (k' + 1) = ⟨G.h, G.a, G.b, OL, G.d, G.c⟩) := by unfold Hid; rw [← hg2, if_pos rfl, hgk]
    have hgl2 : Hid ((∀ i, i < k' + 1 → g2 i = L.getD i Ww) ∧ ∀ i, k' + 1 < i → g2 i = l.getD i Ww) := ⟨fun i hi => by rw [← hg2, if_neg (by omega)]; exact hgl'.out.1 i hi, fun i hi => by rw [← hg2, if_neg (by omega)]; exact hgl'.out.2 i hi⟩
    clear hg2 hr2 hgl hgl' hgk hgp
    have hO := hO7
    have hL := Lib.hid hL7
    have hgl := hgl2
    clear hO7 hL7 hgl2 E B1
    have E := E7
    have B1 := B7
    clear E7 B7
    obtain ⟨k0, k1⟩ := B1.c2
    have kl := B1.lt
    have hgl9 := K7 hO
    have PK := hL.out (k' + 1) hlt
    rw [hgk2.out] at PK
    have cs := fun (j : Nat) (hj : j < 12) => pers_cell hO hlt hj
    simp only [hgk2.out] at cs
    generalize hvo : ro2 (k' + 1) = u1 at *
    generalize hvd : rd (k' + 1) = u2 at *
    generalize hvc : rc (k' + 1) = u3 at *
    clear hvo hvd hvc
    have PA := Qbr PK
    obtain ⟨y1, z1, e1, _⟩ := id PA.o
    subst e1
    obtain ⟨y2, z2, _, e2, _⟩ := id PA.d
    subst e2
    obtain ⟨y3, z3, e3, _⟩ := id PA.c
    subst e3
    have p0 : w7.cell? ⟨gq, (k' + 1) * 12, none⟩ = some (.string G.h) := cs 0 (by decide)
    have p1 : w7.cell? ⟨gq, (k' + 1) * 12 + 1, none⟩ = some (.int .i64 G.a.y) := cs 1 (by decide)
    have p2 : w7.cell? ⟨gq, (k' + 1) * 12 + 2, none⟩ = some (.int .i64 G.a.m) := cs 2 (by decide)
    have p3 : w7.cell? ⟨gq, (k' + 1) * 12 + 3, none⟩ = some (.bool G.a.s) := cs 3 (by decide)
    have p4 : w7.cell? ⟨gq, (k' + 1) * 12 + 4, none⟩ = some (.int .i64 G.a.d) := cs 4 (by decide)
    have p5 : w7.cell? ⟨gq, (k' + 1) * 12 + 5, none⟩ = some (.int .i64 G.b.y) := cs 5 (by decide)
    have p6 : w7.cell? ⟨gq, (k' + 1) * 12 + 6, none⟩ = some (.int .i64 G.b.m) := cs 6 (by decide)
    have p7 : w7.cell? ⟨gq, (k' + 1) * 12 + 7, none⟩ = some (.bool G.b.s) := cs 7 (by decide)
    have p8 : w7.cell? ⟨gq, (k' + 1) * 12 + 8, none⟩ = some (.int .i64 G.b.d) := cs 8 (by decide)
    have p9 : w7.cell? ⟨gq, (k' + 1) * 12 + 9, none⟩ = some (.slice y1 (OL).length z1) := cs 9 (by decide)
    have p10 : w7.cell? ⟨gq, (k' + 1) * 12 + 10, none⟩ = some (.slice y2 G.d.length z2) := cs 10 (by decide)
    have p11 : w7.cell? ⟨gq, (k' + 1) * 12 + 11, none⟩ = some (.slice y3 G.c.length z3) := cs 11 (by decide)
    clear cs
    have NB := fun w h => Qed ⟨G.h, G.a, G.b, OL, G.d, G.c⟩ (.slice y1 (OL).length z1) (.slice y2 G.d.length z2) (.slice y3 G.c.length z3) w h (show (OL).length * 24 ≤ 140737488351232 by omega)
    dsimp only at NB
    obtain ⟨SV, hSV⟩ := Qg (Zm (OL) G.d)
    have hsl : (Zm (OL) G.d).1.length ≤ 64 := Gu _ _ (by omega)
    rw [← hSV] at hsl
    simp only [← hSV] at NB
    replace hSV := Lib.hid hSV
    obtain ⟨S, se⟩ := SV
    simp only at NB hsl
    go_upto_region 13 with (go_at_call 30; (with_reducible refine Calls.mono (NB _ PA) ?_); rintro e w6 ⟨vr, rfl, h6, SR⟩; obtain ⟨FR, mR, rfl⟩ := Z5 SR)
    clear NB p0 p1 p2 p3 p4 p5 p6 p7 p8 p9 p10 p11
    have hs2 : (Zm (L.getLast?.elim (l.getD (k' + 1) Ww).o (·.c)) (l.getD (k' + 1) Ww).d) = (S, se) := by rw [hlast.out, ← hG.out]; exact hSV.out.symm
    by_cases es : se = 0
    rotate_left
    ·have g0 : (se == 0) = false := beq_eq_false_iff_ne.2 es
     have g0n : (se != 0) = true := by rw [bne, g0]; rfl
     obtain rfl := hJ.out.sum hlt hq.out (by rw [hs2]) es
     clear hs2 hSV es
     go_wp2
     go_ret2
     exact ⟨_, rfl, E.trans h6, persAt_nil _⟩
    subst es
    have J' := Lib.hid (hJ.out.step hlt hq.out (by rw [hs2]) (by rw [hs2]; exact hsl))
    obtain ⟨he1, he2⟩ := last_of (x := carP L.getLast? (l.getD (k' + 1) Ww)) hJ.out.len
    have hx : carP L.getLast? (l.getD (k' + 1) Ww) = ⟨G.h, G.a, G.b, OL, G.d, S⟩ := by unfold carP; rw [hs2, hlast.out, ← hG.out]
    have hO6 := Q5 hO h6
    have hL6 : ∀ i, i < l.length → Ui w6 w1.heap.size (g2 i) (ro2 i) (rd i) (rc i) := fun i hi => (hL.out i hi).ext h6
    have hsz6 := E.size
    have SR6 : Zn w6 w1.heap.size (.slice FR S.length mR) S := Yc SR (by omega)
    have fz := World.ownsRow.frozenAt hO6 ((k' + 1) * 12 + 11)
    have xz := pers_cell hO6 hlt (j := 11) (by decide)
    have xl := K7 hO6
    have xz' : w6.cell? ⟨gq, (k' + 1) * 12 + 11, none⟩ = some (rc (k' + 1)) := xz
    clear xz
    obtain ⟨hO7, hL7⟩ := pers_c hO6 hL6 hlt SR6
    have E7 := (E.trans h6).setCell (p := ⟨gq, (k' + 1) * 12 + 11, none⟩) (show w.heap.size ≤ gq by omega) (.slice FR S.length mR)
    have B7 := Qh (Qb.ext B1 h6) (show b1 ≠ gq by omega) ((k' + 1) * 12 + 11) (.slice FR S.length mR)
    have hs7 : (w6.setCell ⟨gq, (k' + 1) * 12 + 11, none⟩ (.slice FR S.length mR)).heap.size = w6.heap.size := by simp [World.setCell]
    go_upto_region 7 with (fail)
    generalize w6.setCell _ _ = w7 at *
    have D7 : PersOwn w7 w1.heap.size (.slice (some ⟨gq, 0, none⟩) l.length mO) l.length (fun i => if i < k' + 1 + 1 then (L ++ [carP L.getLast? (l.getD (k' + 1) Ww)]).getD i Ww else l.getD i Ww) := PersOwn.congr ⟨_, _, _, hO7, hL7⟩ (fun i hi => by
     by_cases e : i = k' + 1
     ·subst e
      rw [if_pos rfl, if_pos (by omega), he2, hx, hgk2.out]
     ·rw [if_neg e]
      by_cases e2 : i < k' + 1
      ·rw [if_pos (show i < k' + 1 + 1 by omega), ← he1 i e2]; exact hgl.out.1 i e2
      ·rw [if_neg (show ¬ i < k' + 1 + 1 by omega)]; exact hgl.out.2 i (by omega))
    clear fz xz' xl hO7 hL7 hO6 hL6 hL
    go_wp2
    exact ⟨⟨k' + 1 + 1, _, by omega, by go_num, D7, J', E7, B7, by have := h6.size; omega⟩, by simp [intOf]; omega⟩
  ·obtain rfl : k = l.length := by omega
   obtain rfl := hJ.out.done
   have hL' := hJ.out.len
   clear hJ hside
   go_wp2
   go_ret2
   refine ⟨_, rfl, E, ?_⟩
   have h : PersOwn wo w1.heap.size (.slice FO l.length mO) L.length (fun i => L.getD i Ww) := by
    rw [hL']
    have ef : Q0 (fun i => Yl (if i < l.length then L.getD i Ww else l.getD i Ww) (ro i) (rd i) (rc i)) l.length = Q0 (fun i => Yl (L.getD i Ww) (ro i) (rd i) (rc i)) l.length := Vv _ (fun i hi => by rw [if_pos hi])
    refine ⟨ro, rd, rc, by rw [← ef]; exact hO, fun i hi => ?_⟩
    have := hLo.out i hi
    rwa [if_pos hi] at this
   exact persAt_own h
end Go.Proofs.YtneiofnlmblglaaGreatDoor