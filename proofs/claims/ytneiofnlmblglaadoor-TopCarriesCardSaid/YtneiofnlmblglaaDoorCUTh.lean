/- Carry of the program. -/
import Derived.Test.YtneiofnlmblglaaDoorU12
import Derived.Test.YtneiofnlmblglaaDoorU10
set_option maxRecDepth 100000
set_option maxHeartbeats 4000000
namespace Go.Proofs.YtneiofnlmblglaaDoor
open Go Go.RowKit Go.Shelf
attribute [local go_sem] Zi
theorem archE_ok {c : Qc} {l : List Pd} (h : c.archE l = 0) : c.valid = true ∧ l.length ≤ 32 ∧ ∀ k, k < l.length → c.perOk (l.getD k Qk) = true := by
 unfold Qc.archE at h
 cases hv : c.valid
 ·unfold Qc.chk at h; rw [hv] at h; simp at h
 ·have hck : c.chk = 0 := by unfold Qc.chk; rw [hv]; rfl
  rw [if_neg (by rw [hck]; decide)] at h
  split at h
  ·exact absurd h (by decide)
  ·rename_i hl
   refine ⟨rfl, by omega, fun k hk => ?_⟩
   unfold Qc.persE at h
   split at h
   ·rename_i ha
    have := List.all_eq_true.1 ha (l.getD k Qk) (by rw [List.getD_eq_getElem?_getD, List.getElem?_eq_getElem hk]; exact List.getElem_mem hk)
    exact this
   ·exact absurd h (by decide)
/-- What the loop of Carry has made: k periods, the last one, and that what is left makes the whole. -/
structure CarJ (c : Qc) (l : List Pd) (R : List Pd × Int) (L : List Pd) (k : Nat) : Prop where
 len : L.length = k
 run : R = Y5 L (c.carR L.getLast? (l.drop k))
 same : ∀ q, L.getLast? = some q → q.h = (l.getD (k - 1) Qk).h ∧ q.b = (l.getD (k - 1) Qk).b
 cl : ∀ i, i < k → (L.getD i Qk).c.length ≤ 64
theorem CarJ.zero (c : Qc) (l : List Pd) : CarJ c l (c.carR none l) [] 0 := ⟨rfl, (Ej).symm, fun q h => (by cases h), fun i h => absurd h (by omega)⟩
section
variable {c : Qc} {l : List Pd} {R : List Pd × Int} {L : List Pd} {k : Nat}
theorem drop_cons {l : List Pd} {k : Nat} (hk : k < l.length) : l.drop k = l.getD k Qk :: l.drop (k + 1) := by
 rw [List.drop_eq_getElem_cons hk, List.getD_eq_getElem?_getD, List.getElem?_eq_getElem hk]; rfl
theorem CarJ.done (h : CarJ c l R L l.length) : R = (L, 0) := by
 rw [h.run, List.drop_length]; exact Ei
theorem CarJ.any (h : CarJ c l R L k) (h0 : 0 < k) : (L.getLast?.any fun q => !c.behV q (l.getD k Qk)) = !c.behV (l.getD (k - 1) Qk) (l.getD k Qk) := by
 cases hq : L.getLast? with
 | none => rw [List.getLast?_eq_none_iff] at hq; subst hq; have := h.len; simp at this; omega
 | some q =>
  obtain ⟨h1, h2⟩ := h.same q hq
  simp only [Option.any_some, Qc.behV, h1, h2]
theorem CarJ.follow (h : CarJ c l R L k) (hk : k < l.length) (hb : (L.getLast?.any fun q => !c.behV q (l.getD k Qk)) = true) : R = ([], 84) := by
 rw [h.run, drop_cons hk]; exact Eh hb
theorem CarJ.sum (h : CarJ c l R L k) (hk : k < l.length) (hb : (L.getLast?.any fun q => !c.behV q (l.getD k Qk)) = false) {e : Int} (he : (Qs (L.getLast?.elim (l.getD k Qk).o (·.c)) (l.getD k Qk).d).2 = e) (h0 : e ≠ 0) : R = ([], e) := by
 rw [h.run, drop_cons hk, ← he]; exact El hb (by rw [he]; exact h0)
theorem CarJ.step (h : CarJ c l R L k) (hk : k < l.length) (hb : (L.getLast?.any fun q => !c.behV q (l.getD k Qk)) = false) (he : (Qs (L.getLast?.elim (l.getD k Qk).o (·.c)) (l.getD k Qk).d).2 = 0) (hs : (Qs (L.getLast?.elim (l.getD k Qk).o (·.c)) (l.getD k Qk).d).1.length ≤ 64) :
  CarJ c l R (L ++ [Jp L.getLast? (l.getD k Qk)]) (k + 1) := by
 refine ⟨by simp [h.len], ?_, fun q hq => ?_, fun i hi => ?_⟩
 ·rw [h.run, drop_cons hk, Ek hb he]; simp
 ·simp at hq; subst hq; exact ⟨rfl, rfl⟩
 ·by_cases e : i = k
  ·subst e
   rw [← h.len] at *
   simp [List.getD_eq_getElem?_getD]
   exact hs
  ·have hi' : i < L.length := by rw [h.len]; omega
   have := h.cl i (by omega)
   simpa [List.getD_eq_getElem?_getD, List.getElem?_append_left hi'] using this
theorem CarJ.last (h : CarJ c l R L k) (h0 : 0 < k) : L.getLast?.elim (l.getD k Qk).o (·.c) = (L.getD (k - 1) Qk).c := by
 have hl := h.len
 simp only [List.getLast?_eq_getElem?, hl, List.getD_eq_getElem?_getD]
 rw [List.getElem?_eq_getElem (show k - 1 < L.length by omega)]; rfl
end
theorem persAt_nil (w : World) : Ym w (.slice none 0 0) [] := ⟨none, 0, fun _ => .slice none 0 0, fun _ => .slice none 0 0, fun _ => .slice none 0 0, rfl, Qo.nil, Nat.le_refl _, Nat.zero_le _, fun _ => ⟨rfl, rfl⟩, fun i h => absurd h (by simp)⟩
theorem pers_push2 {W w1 : World} {b k : Nat} {v v' uo ud uc : Value} {g0 g : Nat → Pd} {vo vd vc : Nat → Value} {ob : Obj} (e : ∀ i, i < k → g0 i = g i) (hO : W.ownsRow b 31 12 v k (Qz (fun i => Qq (g0 i) (vo i) (vd i) (vc i)) k)) (hL : ∀ i, i < k → Zj W b (g0 i) (vo i) (vd i) (vc i)) (hl : Zj W b (g k) uo ud uc)
  (hown : w1.ownsRow b 31 12 v' (k + 1) (Qz (fun i => Qq (g0 i) (vo i) (vd i) (vc i)) k ++ Qq (g k) uo ud uc)) (hgrow : (W.alloc ob).grownBy w1 v.ownBlock) : Yc w1 b v' (k + 1) g := by
 have ef : Qz (fun i => Qq (g0 i) (vo i) (vd i) (vc i)) k = Qz (fun i => Qq (g i) (vo i) (vd i) (vc i)) k := Uj k (fun i hi => by rw [e i hi])
 rw [ef] at hO hown
 exact Qds hO (fun i hi => by rw [← e i hi]; exact hL i hi) hl hown hgrow
theorem last_of {L : List Pd} {x : Pd} {k : Nat} (h : L.length = k) : (∀ i, i < k → L.getD i Qk = (L ++ [x]).getD i Qk) ∧ (L ++ [x]).getD k Qk = x := by
 subst h
 refine ⟨fun i hi => ?_, ?_⟩
 ·simp [List.getD_eq_getElem?_getD, List.getElem?_append_left hi]
 ·simp [List.getD_eq_getElem?_getD]
theorem carry_any (A A' : Option Addr) (ca cb : Nat) (c : Qc) (l : List Pd) (v : Value) (w : World) (hC : Q8 w A ca A' cb c) (hP : Ym w v l) :
  Calls Tryd.prog 10 #[.agg #[.slice A c.nk ca, .slice A' c.ny cb], v] w fun e w' => ∃ v', e = .returned (.tuple #[v', .int .i64 (c.carryV l).2]) ∧ Qa w w' ∧ Ym w' v' (c.carryV l).1 := by
 obtain ⟨i0, hi, hz0, hz1, hz2⟩ := info_parts Sh
 obtain ⟨D, cap, vo, vd, vc, rfl, hD, hcap, hmax, _, hat0⟩ := id hP
 have hn : l.length ≤ 9223372036854775807 := Nat.le_trans hcap (Nat.le_trans hmax (by decide))
 have NV := fun w h1 h2 => Ak A A' ca cb c (.slice D l.length cap) l w h1 h2
 obtain ⟨pe, hpe⟩ := Qg (c.archE l)
 simp only [← hpe] at NV
 replace hpe := Lib.hid hpe
 obtain ⟨R, hR0⟩ := Qg (c.carryV l)
 rw [← hR0]
 have HR := Lib.hid hR0
 clear hR0
 have hat := Lib.hid hat0
 clear hat0 hcap hmax
 go_enter Tryd.func10, Tryd.ntmps10
 go_upto_region 1 with (fail)
 obtain ⟨v, hv⟩ := Qg (w.alloc (.cells #[.slice A c.nk ca, .slice A' c.ny cb] 25))
 rw [← hv]
 have E : Qa w v := by rw [hv]; exact (Qa.refl _).alloc _
 have B1 : Qb v w.heap.size 25 #[.slice A c.nk ca, .slice A' c.ny cb] := by rw [hv]; exact (Qb.new _ _ _)
 clear hv
 obtain ⟨b1, hb1⟩ := Qg (w.heap.size)
 rw [← hb1] at B1 ⊢
 have hbr : w.heap.size ≤ b1 := by omega
 clear hb1
 have C := hC.ext E
 clear hC
 obtain ⟨k0, k1⟩ := B1.c2
 have kl := B1.lt
 go_upto_region 2 with (go_at_call 26; (with_reducible refine Calls.mono (NV _ C (hP.ext E)) ?_); rintro e w1 ⟨rfl, hx⟩; replace E := E.trans hx; replace C := C.ext hx; replace B1 := B1.ext hx; clear hx; clear k0 k1 kl; obtain ⟨k0, k1⟩ := B1.c2; have kl := B1.lt)
 obtain ⟨vb1, hv⟩ := Qg (w1.alloc (.cells #[.slice A c.nk ca, .slice A' c.ny cb] 52))
 rw [← hv]
 have hx : Qa w1 vb1 := by rw [hv]; exact (Qa.refl _).alloc _
 have B6 : Qb vb1 w1.heap.size 52 #[.slice A c.nk ca, .slice A' c.ny cb] := by rw [hv]; exact Qb.new _ _ _
 clear hv
 generalize w1.heap.size = bb1 at *
 clear k0 k1 kl
 replace E := E.trans hx
 replace C := C.ext hx
 replace B1 := B1.ext hx
 clear hx
 obtain ⟨k0, k1⟩ := B1.c2
 have kl := B1.lt
 obtain ⟨q0, q1⟩ := B6.c2
 have ql := B6.lt
 clear NV
 by_cases e0 : pe = 0
 rotate_left
 ·have g0 : (pe == 0) = false := beq_eq_false_iff_ne.2 e0
  have g0n : (pe != 0) = true := by rw [bne, g0]; rfl
  obtain rfl : R = ([], pe) := by rw [HR.out]; unfold Qc.carryV; rw [← hpe.out]; exact if_pos e0
  clear HR e0 hpe
  go_wp2
  go_ret2
  exact ⟨_, rfl, E, persAt_nil _⟩
 subst e0
 obtain ⟨hv, h32, hall⟩ := archE_ok hpe.out.symm
 have hside : Hid (∀ k, k < l.length → Ud c (l.getD k Qk)) := fun k hk => K8 (hall k hk)
 have J0 : Hid (CarJ c l R [] 0) := by
  have h : R = c.carR none l := by rw [HR.out]; unfold Qc.carryV; rw [← hpe.out]; exact if_neg (by simp)
  rw [h]; exact CarJ.zero c l
 clear HR hpe hall
 go_upto_region 6 with (fail)
 go_loopw [8, 25] (fun ov iv wr => ∃ (k : Nat) (L : List Pd), k ≤ l.length ∧ iv = .int .i64 k ∧ Yc wr vb1.heap.size ov k (fun i => L.getD i Qk) ∧ Hid (CarJ c l R L k) ∧ Qa vb1 wr) (fun _ i _ => l.length - (intOf i).toNat)
 case atStart => exact ⟨0, [], Nat.zero_le _, rfl, Dy _ _ _, J0, Qa.refl _⟩
 case round =>
  clear J0
  obtain ⟨k, L, hk, rfl, ⟨ro, rd, rc, hO, hLo0⟩, hJ, hE⟩ := hrel
  have hLo := Lib.hid hLo0
  clear hLo0
  obtain ⟨wo, rfl⟩ := Qg wr
  obtain ⟨FO, mO, rfl⟩ := Zo hO
  clear k0 k1 kl q0 q1 ql
  have C2 := C.ext hE
  have Q6 := B6.ext hE
  by_cases hlt : k < l.length
  ·obtain ⟨b, off, rfl, hb, hc⟩ := (hD.ext (E.trans hE)) (by omega)
   have c0 : wo.cell? ⟨b, off + k * 12, none⟩ = some (.string (l.getD k Qk).h) := by simpa [Qq] using hc k 0 _ hlt rfl
   have c1 : wo.cell? ⟨b, off + k * 12 + 1, none⟩ = some (.int .i64 (l.getD k Qk).a.y) := by simpa [Qq] using hc k 1 _ hlt rfl
   have c2 : wo.cell? ⟨b, off + k * 12 + 2, none⟩ = some (.int .i64 (l.getD k Qk).a.m) := by simpa [Qq] using hc k 2 _ hlt rfl
   have c3 : wo.cell? ⟨b, off + k * 12 + 3, none⟩ = some (.bool (l.getD k Qk).a.s) := by simpa [Qq] using hc k 3 _ hlt rfl
   have c4 : wo.cell? ⟨b, off + k * 12 + 4, none⟩ = some (.int .i64 (l.getD k Qk).a.d) := by simpa [Qq] using hc k 4 _ hlt rfl
   have c5 : wo.cell? ⟨b, off + k * 12 + 5, none⟩ = some (.int .i64 (l.getD k Qk).b.y) := by simpa [Qq] using hc k 5 _ hlt rfl
   have c6 : wo.cell? ⟨b, off + k * 12 + 6, none⟩ = some (.int .i64 (l.getD k Qk).b.m) := by simpa [Qq] using hc k 6 _ hlt rfl
   have c7 : wo.cell? ⟨b, off + k * 12 + 7, none⟩ = some (.bool (l.getD k Qk).b.s) := by simpa [Qq] using hc k 7 _ hlt rfl
   have c8 : wo.cell? ⟨b, off + k * 12 + 8, none⟩ = some (.int .i64 (l.getD k Qk).b.d) := by simpa [Qq] using hc k 8 _ hlt rfl
   have c9 : wo.cell? ⟨b, off + k * 12 + 9, none⟩ = some (vo k) := by simpa [Qq] using hc k 9 _ hlt rfl
   have c10 : wo.cell? ⟨b, off + k * 12 + 10, none⟩ = some (vd k) := by simpa [Qq] using hc k 10 _ hlt rfl
   have c11 : wo.cell? ⟨b, off + k * 12 + 11, none⟩ = some (vc k) := by simpa [Qq] using hc k 11 _ hlt rfl
   clear hc
   have P1 := (hat.out k hlt).ext (E.trans hE)
   have hok := hside.out k hlt
   obtain ⟨G, hG⟩ := Qg (l.getD k Qk)
   rw [← hG] at P1 hok c0 c1 c2 c3 c4 c5 c6 c7 c8
   replace hG := Lib.hid hG
   have hlo := hok.o
   have hld := hok.d
   have hll : Hid (∀ i, i < G.d.length → (G.d.getD i Qv).l.length ≤ 1000000) := fun i hi => Nat.le_trans (hok.l i hi) (by decide)
   clear hok
   generalize vo k = v1 at *
   generalize vd k = v2 at *
   generalize vc k = v3 at *
   obtain ⟨t1, s1, e1, _⟩ := id P1.o
   subst e1
   obtain ⟨t2, s2, _, e2, _⟩ := id P1.d
   subst e2
   obtain ⟨t3, s3, e3, _⟩ := id P1.c
   subst e3
   have NCO := fun w h => Wf (.slice t1 G.o.length s1) G.o w h (by omega)
   have NT := fun w h => Lr (.slice t2 G.d.length s2) G.d w h (by omega) hll.out
   go_upto_region 8 with (fail)
   obtain ⟨w2, hv⟩ := Qg (wo.alloc (.cells #[.string G.h, .int .i64 G.a.y, .int .i64 G.a.m, .bool G.a.s, .int .i64 G.a.d, .int .i64 G.b.y, .int .i64 G.b.m, .bool G.b.s, .int .i64 G.b.d, .slice t1 G.o.length s1, .slice t2 G.d.length s2, .slice t3 G.c.length s3] 31))
   rw [← hv]
   have h2 : Qa wo w2 := by rw [hv]; exact (Qa.refl _).alloc _
   have BP : Qb w2 wo.heap.size 31 #[.string G.h, .int .i64 G.a.y, .int .i64 G.a.m, .bool G.a.s, .int .i64 G.a.d, .int .i64 G.b.y, .int .i64 G.b.m, .bool G.b.s, .int .i64 G.b.d, .slice t1 G.o.length s1, .slice t2 G.d.length s2, .slice t3 G.c.length s3] := by rw [hv]; exact Qb.new _ _ _
   clear hv
   generalize wo.heap.size = bp at *
   clear c0 c1 c2 c3 c4 c5 c6 c7 c8 c9 c10 c11
   obtain ⟨p0, p1, p2, p3, p4, p5, p6, p7, p8, p9, p10, p11⟩ := BP.c12
   have pl := BP.lt
   go_upto_region 9 with (go_at_call 24; (with_reducible refine Calls.mono (NCO _ (P1.o.ext h2)) ?_); rintro e w3 ⟨v1, rfl, h3, S1⟩; obtain ⟨F1, m1, rfl⟩ := Zo S1; clear p0 p1 p2 p3 p4 p5 p6 p7 p8 p9 p10 p11 pl)
   have HE := (hE.trans h2).trans h3
   have BP3 := BP.ext h3
   have X3 := h2.trans h3
   clear NCO
   by_cases h0 : 0 < k
   rotate_left
   ·have hk0 : k = 0 := by omega
    have hLn : L.getLast? = none := by
     have := hJ.out.len
     rw [hk0] at this
     rw [List.length_eq_zero_iff.1 this]; rfl
    have hq : (L.getLast?.any fun q => !c.behV q (l.getD k Qk)) = false := by rw [hLn]; rfl
    have hel : L.getLast?.elim (l.getD k Qk).o (·.c) = G.o := by rw [hLn, hG.out]; rfl
    clear hk0 hLn
    replace hq := Lib.hid hq
    replace hel := Lib.hid hel
    have NB := fun w h1 h2 => N8 (.slice F1 G.o.length m1) (.slice t2 G.d.length s2) G.o G.d w h1 h2 (by omega)
    have hsl : (Qs G.o G.d).1.length ≤ 64 := Ni _ _ (by omega)
    obtain ⟨SV, hSV⟩ := Qg (Qs G.o G.d)
    rw [← hSV] at hsl
    simp only [← hSV] at NB
    replace hSV := Lib.hid hSV
    obtain ⟨S, se⟩ := SV
    simp only at NB hsl
    have BPc := BP3
    obtain ⟨p0, p1, p2, p3, p4, p5, p6, p7, p8, p9, p10, p11⟩ := Qb.c12 BPc
    have pl := Qb.lt BPc
    have LA := Xp S1
    go_upto_region 14 with (go_at_call 17; (with_reducible refine Calls.mono (NB _ LA (P1.d.ext X3)) ?_); rintro e w6 ⟨vr, rfl, h6, SR⟩; obtain ⟨FR, mR, rfl⟩ := Zo SR)
    clear NB LA p0 p1 p2 p3 p4 p5 p6 p7 p8 p9 p10 p11 pl
    have hs2 : (Qs (L.getLast?.elim (l.getD k Qk).o (·.c)) (l.getD k Qk).d) = (S, se) := by rw [hel.out, ← hG.out]; exact hSV.out.symm
    by_cases es : se = 0
    rotate_left
    ·have g0 : (se == 0) = false := beq_eq_false_iff_ne.2 es
     have g0n : (se != 0) = true := by rw [bne, g0]; rfl
     obtain rfl := hJ.out.sum hlt hq.out (by rw [hs2]) es
     clear hs2 hSV es
     go_wp2
     go_ret2
     exact ⟨_, rfl, (E.trans (hE.trans X3)).trans h6, persAt_nil _⟩
    subst es
    have J' := Lib.hid (hJ.out.step hlt hq.out (by rw [hs2]) (by rw [hs2]; exact hsl))
    obtain ⟨he1, he2⟩ := last_of (x := Jp L.getLast? (l.getD k Qk)) hJ.out.len
    have hx : Jp L.getLast? (l.getD k Qk) = ⟨G.h, G.a, G.b, G.o, G.d, S⟩ := by unfold Jp; rw [hs2, hel.out, ← hG.out]
    replace he2 := he2.trans hx
    have XW := (X3).trans h6
    have BPw := BPc.ext h6
    have OA := Zp hO XW
    have S1w := Zp S1 h6
    go_upto_region 16 with (fail)
    refine Q5 16 [14, 15] (fun x => Qa w6 x) Qr rfl ?_
    intro vz hvz
    have HC := hvz
    refine Qp (g := 5) [0, 1, 2, 3, 4, 5, 6, 7, 8, 9, 11] [_, _, _, _, _, _, _, _, _, _, _] ⟨rfl, rfl, rfl, rfl, rfl, rfl, rfl, rfl, rfl, rfl, rfl, trivial⟩ (by kernel_rfl) (by kernel_rfl) HC ?_
    simp only [Qd, Qe, Qf]
    apply Exists.intro
    refine ⟨fun u hu => ?_, ?_⟩
    ·obtain ⟨p0, p1, p2, p3, p4, p5, p6, p7, p8, p9, p10, p11⟩ := Qb.c12 (Qb.ext BPw hu)
     have pl := Qb.lt (Qb.ext BPw hu)
     repeat (first | go_big_quiet_skip | (go_big_quiet_want; go_big_quiet_op; go_big_quiet_on))
     refine wpQuiet_nil ?_
     rfl
    refine Qj 10 rfl (by kernel_rfl) ?_
    simp only [Qd, Qe, Qf]
    go_wp2_with (go_at_call 25; (with_reducible refine Calls.mono (NT _ (P1.d.ext (XW.trans HC))) ?_); rintro e wd ⟨v2, rfl, hb, D2⟩; obtain ⟨F2, m2, rfl⟩ := Xy D2)
    have hzd := HC.size
    replace HC := HC.trans hb
    have HC0 := HC
    refine Qi HC ?_
    refine Qp (g := 3) [12] [_] ⟨rfl, trivial⟩ (by kernel_rfl) (by kernel_rfl) HC ?_
    simp only [Qd, Qe, Qf]
    apply Exists.intro
    refine ⟨fun u hu => ?_, ?_⟩
    ·obtain ⟨p0, p1, p2, p3, p4, p5, p6, p7, p8, p9, p10, p11⟩ := Qb.c12 (Qb.ext BPw hu)
     have pl := Qb.lt (Qb.ext BPw hu)
     repeat (first | go_big_quiet_skip | (go_big_quiet_want; go_big_quiet_op; go_big_quiet_on))
     refine wpQuiet_nil ?_
     rfl
    refine Qj 13 rfl (by kernel_rfl) ?_
    simp only [Qd, Qe, Qf]
    go_wp2
    have OA' := Zp OA HC0
    replace HC := HC.alloc (.cells #[.string G.h, .int .i64 G.a.y, .int .i64 G.a.m, .bool G.a.s, .int .i64 G.a.d, .int .i64 G.b.y, .int .i64 G.b.m, .bool G.b.s, .int .i64 G.b.d, .slice F1 G.o.length m1, .slice F2 G.d.length m2, .slice FR S.length mR] 31)
    refine Qi HC ?_
    refine Qn 14 rfl (by kernel_rfl) ?_
    simp only [Qd, Qe, Qf]
    go_wp2_with (at_builtin; refine wpList_append_own_at _ rfl _ _ 37 rfl vb1.heap.size 31 i0 (.agg #[.string ⟨#[]⟩, .int .i64 0, .int .i64 0, .bool false, .int .i64 0, .int .i64 0, .int .i64 0, .bool false, .int .i64 0, .slice none 0 0, .slice none 0 0, .slice none 0 0]) 12 152 Tryd.underlying37 hi hz0 hz1 hz2 rfl (by decide) _ _ _ rfl (OA'.alloc _) ⟨wd.heap.size, 0, none⟩ 1 1 (Qq ⟨G.h, G.a, G.b, G.o, G.d, S⟩ (.slice F1 G.o.length m1) (.slice F2 G.d.length m2) (.slice FR S.length mR)) rfl rfl (U4 _ _ _) (Lq _ _ _ _ _ _ _ _ _ _) (by unfold maxLen; omega) (by omega) (by have := hE.size; have := XW.size; have := HC0.size; simp; omega) ?_; intro o' w8 hown hgrow _ _)
    refine Qm ?_
    refine Qn 15 rfl (by kernel_rfl) ?_
    simp only [Qd, Qe, Qf]
    go_wp2
    refine Qm ?_
    refine Qt (by kernel_rfl) ?_
    skip
    have hsz6 := XW.size
    have hszo := hE.size
    have hsx := Qa.size X3
    have hsz2 := h2.size
    have E8 : Qa vb1 w8 := ((hE.trans (XW.trans HC0)).alloc _).grown hgrow (fun q hq => (hO.lt q hq).1)
    have PN : Zj wd vb1.heap.size ⟨G.h, G.a, G.b, G.o, G.d, S⟩ (.slice F1 G.o.length m1) (.slice F2 G.d.length m2) (.slice FR S.length mR) := ⟨Yi (Zp S1w HC0) (by omega), Jh.le D2 (by omega), Yi (Zp SR HC0) (by omega)⟩
    have D8 : Yc w8 vb1.heap.size o' (k + 1) (fun i => (L ++ [Jp L.getLast? (l.getD k Qk)]).getD i Qk) := pers_push2 he1 OA' (fun i hi => (hLo.out i hi).ext (XW.trans HC0)) (by rw [he2]; exact PN) (by rw [he2]; exact hown) hgrow
    go_wp2
    exact ⟨⟨k + 1, _, by omega, by go_num, D8, J', E8⟩, by simp [intOf]; omega⟩
   obtain ⟨k', hkk⟩ : ∃ j, k = j + 1 := ⟨k - 1, by omega⟩
   subst hkk
   have hj1 : k' + 1 - 1 = k' := by omega
   have hlt' : k' < l.length := by omega
   obtain ⟨b', off', hDD, hb', hc⟩ := (hD.ext (E.trans HE)) (by omega)
   obtain ⟨hbb, hoo⟩ : b = b' ∧ off = off' := by simpa using hDD
   subst hbb
   subst hoo
   clear hDD
   have e0 : w3.cell? ⟨b, off + k' * 12, none⟩ = some (.string (l.getD k' Qk).h) := by simpa [Qq] using hc k' 0 _ hlt' rfl
   have e1 : w3.cell? ⟨b, off + k' * 12 + 1, none⟩ = some (.int .i64 (l.getD k' Qk).a.y) := by simpa [Qq] using hc k' 1 _ hlt' rfl
   have e2 : w3.cell? ⟨b, off + k' * 12 + 2, none⟩ = some (.int .i64 (l.getD k' Qk).a.m) := by simpa [Qq] using hc k' 2 _ hlt' rfl
   have e3 : w3.cell? ⟨b, off + k' * 12 + 3, none⟩ = some (.bool (l.getD k' Qk).a.s) := by simpa [Qq] using hc k' 3 _ hlt' rfl
   have e4 : w3.cell? ⟨b, off + k' * 12 + 4, none⟩ = some (.int .i64 (l.getD k' Qk).a.d) := by simpa [Qq] using hc k' 4 _ hlt' rfl
   have e5 : w3.cell? ⟨b, off + k' * 12 + 5, none⟩ = some (.int .i64 (l.getD k' Qk).b.y) := by simpa [Qq] using hc k' 5 _ hlt' rfl
   have e6 : w3.cell? ⟨b, off + k' * 12 + 6, none⟩ = some (.int .i64 (l.getD k' Qk).b.m) := by simpa [Qq] using hc k' 6 _ hlt' rfl
   have e7 : w3.cell? ⟨b, off + k' * 12 + 7, none⟩ = some (.bool (l.getD k' Qk).b.s) := by simpa [Qq] using hc k' 7 _ hlt' rfl
   have e8 : w3.cell? ⟨b, off + k' * 12 + 8, none⟩ = some (.int .i64 (l.getD k' Qk).b.d) := by simpa [Qq] using hc k' 8 _ hlt' rfl
   have e9 : w3.cell? ⟨b, off + k' * 12 + 9, none⟩ = some (vo k') := by simpa [Qq] using hc k' 9 _ hlt' rfl
   have e10 : w3.cell? ⟨b, off + k' * 12 + 10, none⟩ = some (vd k') := by simpa [Qq] using hc k' 10 _ hlt' rfl
   have e11 : w3.cell? ⟨b, off + k' * 12 + 11, none⟩ = some (vc k') := by simpa [Qq] using hc k' 11 _ hlt' rfl
   clear hc
   have PK := (hat.out k' hlt').ext (E.trans HE)
   obtain ⟨GK, hGK⟩ := Qg (l.getD k' Qk)
   rw [← hGK] at PK e0 e1 e2 e3 e4 e5 e6 e7 e8
   replace hGK := Lib.hid hGK
   generalize vo k' = u1 at *
   generalize vd k' = u2 at *
   generalize vc k' = u3 at *
   obtain ⟨t4, s4, e4, _⟩ := id PK.o
   subst e4
   obtain ⟨t5, s5, _, e5, _⟩ := id PK.d
   subst e5
   obtain ⟨t6, s6, e6, _⟩ := id PK.c
   subst e6
   have CB := C2.ext X3
   have Q6c := Q6.ext X3
   have PGc := P1.ext X3
   obtain ⟨q0, q1⟩ := Q6c.c2
   have ql := Q6c.lt
   obtain ⟨p0, p1, p2, p3, p4, p5, p6, p7, p8, p9, p10, p11⟩ := BP3.c12
   have pl := BP3.lt
   have NBH := fun w h1 h2 h3 => Ra A A' ca cb c GK G (.slice t4 GK.o.length s4) (.slice t5 GK.d.length s5) (.slice t6 GK.c.length s6) (.slice t1 G.o.length s1) (.slice t2 G.d.length s2) (.slice t3 G.c.length s3) w h1 hv h2 h3
   have hany : Hid ((L.getLast?.any fun q => !c.behV q (l.getD (k' + 1) Qk)) = !c.behV GK G) := by
    have h := hJ.out.any (by omega)
    rw [hj1, ← hGK.out, ← hG.out] at h
    unfold Hid
    rw [← hG.out]
    exact h
   have hlast : Hid (L.getLast?.elim (l.getD (k' + 1) Qk).o (·.c) = (L.getD k' Qk).c) := by
    have h := hJ.out.last (by omega)
    rw [hj1] at h
    exact h
   have hcl := hJ.out.cl k' (by omega)
   go_upto_region 10 with (fail)
   cases hbh : c.behV GK G
   ·rw [hbh] at NBH
    have hb1 : (L.getLast?.any fun q => !c.behV q (l.getD (k' + 1) Qk)) = true := by rw [hany.out, hbh]; rfl
    obtain rfl := hJ.out.follow hlt hb1
    clear hany hlast hbh hb1 hJ hat hside
    refine Zr w3 Qr (by kernel_rfl) (by repeat (first | exact Qa.refl _ | (refine Qa.alloc ?_ _) | (refine Qa.trans ?_ (by assumption)))) ?_
    intro hne hrx hry
    try simp only []
    try simp only [List.append_eq, List.cons_append, List.nil_append]
    skip
    repeat (first
     | go_big_quiet_skip
     | (go_big_quiet_want; go_big_quiet_op; go_big_quiet_on)
     | (go_big_quiet_want; go_big_quiet_op; apply Exists.intro; refine ⟨fun u => ?_, ?_⟩
        ·first
          | (go_at_call 27; (with_reducible refine Calls.mono (NBH _ (CB.ext u.e) (PK.ext u.e) (PGc.ext u.e)) ?_); rintro e w' ⟨rfl, hb⟩; exact ⟨rfl, u.back hb⟩)
        go_big_quiet_on))
    clear hne hry hrx
    refine wpQuiet_nil ?_
    intro w5 h5
    obtain ⟨hcw5, hfw5, hzw5⟩ := Qa.rules h5
    try simp only [World.size_alloc] at hzw5
    obtain ⟨hcbw5, hfbw5, hzbw5⟩ := Qa.rules (show Qa w3 w5 from (by repeat (first | exact Qa.refl _ | (refine Qa.alloc ?_ _) | (refine Qa.trans ?_ (by assumption)))))
    clear hcw5 hfw5
    go_wp2
    go_ret2
    exact ⟨_, rfl, (E.trans HE).trans h5, persAt_nil _⟩
   ·rw [hbh] at NBH
    have hq : Hid ((L.getLast?.any fun q => !c.behV q (l.getD (k' + 1) Qk)) = false) := by unfold Hid; rw [hany.out, hbh]; rfl
    clear hany hbh
    refine Zr w3 Qr (by kernel_rfl) (by repeat (first | exact Qa.refl _ | (refine Qa.alloc ?_ _) | (refine Qa.trans ?_ (by assumption)))) ?_
    intro hne hrx hry
    try simp only []
    try simp only [List.append_eq, List.cons_append, List.nil_append]
    skip
    repeat (first
     | go_big_quiet_skip
     | (go_big_quiet_want; go_big_quiet_op; go_big_quiet_on)
     | (go_big_quiet_want; go_big_quiet_op; apply Exists.intro; refine ⟨fun u => ?_, ?_⟩
        ·first
          | (go_at_call 27; (with_reducible refine Calls.mono (NBH _ (CB.ext u.e) (PK.ext u.e) (PGc.ext u.e)) ?_); rintro e w' ⟨rfl, hb⟩; exact ⟨rfl, u.back hb⟩)
        go_big_quiet_on))
    clear hne hry hrx
    refine wpQuiet_nil ?_
    intro w5 h5
    obtain ⟨hcw5, hfw5, hzw5⟩ := Qa.rules h5
    try simp only [World.size_alloc] at hzw5
    obtain ⟨hcbw5, hfbw5, hzbw5⟩ := Qa.rules (show Qa w3 w5 from (by repeat (first | exact Qa.refl _ | (refine Qa.alloc ?_ _) | (refine Qa.trans ?_ (by assumption)))))
    clear hcw5 hfw5
    clear e0 e1 e2 e3 e4 e5 e6 e7 e8 e9 e10 e11 q0 q1 ql p0 p1 p2 p3 p4 p5 p6 p7 p8 p9 p10 p11 pl NBH
    have hO5 := Zp hO (X3.trans h5)
    obtain ⟨gq, cq, hv1, hgq, _⟩ := Mv hO5 (by omega)
    injection hv1 with hv2 _ hv3
    subst hv2
    subst hv3
    have hcc : w5.cell? ⟨gq, k' * 12 + 11, none⟩ = some (rc k') := by
     rw [World.ownsRow.cellAt hO5 (k' * 12 + 11) (by omega), Wr (f := fun i => Qq (L.getD i Qk) (ro i) (rd i) (rc i)) (sz := 12) (fun _ => rfl) (show k' < k' + 1 by omega) (by decide)]
     rfl
    have LK := Xp (Zp (hLo.out k' (by omega)).c (X3.trans h5))
    generalize hrk : rc k' = vk at hcc LK
    obtain ⟨t7, s7, e7, _⟩ := id LK
    subst e7
    generalize hOL : (L.getD k' Qk).c = OL at *
    have NCK := fun w h => Wf (.slice t7 OL.length s7) OL w h (by omega)
    go_upto_region 13 with (go_at_call 24; (with_reducible refine Calls.mono (NCK _ LK) ?_); rintro e w5' ⟨v1, rfl, hk5, SK⟩; obtain ⟨F7, m7, rfl⟩ := Zo SK)
    have X5 := (X3.trans h5).trans hk5
    have BP5 := (BP3.ext h5).ext hk5
    clear NCK LK hcc hrk
    have NB := fun w h1 h2 => N8 (.slice F7 OL.length m7) (.slice t2 G.d.length s2) OL G.d w h1 h2 (by omega)
    have hsl : (Qs OL G.d).1.length ≤ 64 := Ni _ _ (by omega)
    obtain ⟨SV, hSV⟩ := Qg (Qs OL G.d)
    rw [← hSV] at hsl
    simp only [← hSV] at NB
    replace hSV := Lib.hid hSV
    obtain ⟨S, se⟩ := SV
    simp only at NB hsl
    have BPc := BP5
    obtain ⟨p0, p1, p2, p3, p4, p5, p6, p7, p8, p9, p10, p11⟩ := Qb.c12 BPc
    have pl := Qb.lt BPc
    have LA := Xp SK
    go_upto_region 14 with (go_at_call 17; (with_reducible refine Calls.mono (NB _ LA (P1.d.ext X5)) ?_); rintro e w6 ⟨vr, rfl, h6, SR⟩; obtain ⟨FR, mR, rfl⟩ := Zo SR)
    clear NB LA p0 p1 p2 p3 p4 p5 p6 p7 p8 p9 p10 p11 pl
    have hs2 : (Qs (L.getLast?.elim (l.getD (k' + 1) Qk).o (·.c)) (l.getD (k' + 1) Qk).d) = (S, se) := by rw [hlast.out, ← hG.out]; exact hSV.out.symm
    by_cases es : se = 0
    rotate_left
    ·have g0 : (se == 0) = false := beq_eq_false_iff_ne.2 es
     have g0n : (se != 0) = true := by rw [bne, g0]; rfl
     obtain rfl := hJ.out.sum hlt hq.out (by rw [hs2]) es
     clear hs2 hSV es
     go_wp2
     go_ret2
     exact ⟨_, rfl, (E.trans (hE.trans X5)).trans h6, persAt_nil _⟩
    subst es
    have J' := Lib.hid (hJ.out.step hlt hq.out (by rw [hs2]) (by rw [hs2]; exact hsl))
    obtain ⟨he1, he2⟩ := last_of (x := Jp L.getLast? (l.getD (k' + 1) Qk)) hJ.out.len
    have hx : Jp L.getLast? (l.getD (k' + 1) Qk) = ⟨G.h, G.a, G.b, OL, G.d, S⟩ := by unfold Jp; rw [hs2, hlast.out, ← hG.out]
    replace he2 := he2.trans hx
    have XW := (X5).trans h6
    have BPw := BPc.ext h6
    have OA := Zp hO XW
    have S1w := Zp SK h6
    go_upto_region 16 with (fail)
    refine Q5 16 [14, 15] (fun x => Qa w6 x) Qr rfl ?_
    intro vz hvz
    have HC := hvz
    refine Qp (g := 5) [0, 1, 2, 3, 4, 5, 6, 7, 8, 9, 11] [_, _, _, _, _, _, _, _, _, _, _] ⟨rfl, rfl, rfl, rfl, rfl, rfl, rfl, rfl, rfl, rfl, rfl, trivial⟩ (by kernel_rfl) (by kernel_rfl) HC ?_
    simp only [Qd, Qe, Qf]
    apply Exists.intro
    refine ⟨fun u hu => ?_, ?_⟩
    ·obtain ⟨p0, p1, p2, p3, p4, p5, p6, p7, p8, p9, p10, p11⟩ := Qb.c12 (Qb.ext BPw hu)
     have pl := Qb.lt (Qb.ext BPw hu)
     repeat (first | go_big_quiet_skip | (go_big_quiet_want; go_big_quiet_op; go_big_quiet_on))
     refine wpQuiet_nil ?_
     rfl
    refine Qj 10 rfl (by kernel_rfl) ?_
    simp only [Qd, Qe, Qf]
    go_wp2_with (go_at_call 25; (with_reducible refine Calls.mono (NT _ (P1.d.ext (XW.trans HC))) ?_); rintro e wd ⟨v2, rfl, hb, D2⟩; obtain ⟨F2, m2, rfl⟩ := Xy D2)
    have hzd := HC.size
    replace HC := HC.trans hb
    have HC0 := HC
    refine Qi HC ?_
    refine Qp (g := 3) [12] [_] ⟨rfl, trivial⟩ (by kernel_rfl) (by kernel_rfl) HC ?_
    simp only [Qd, Qe, Qf]
    apply Exists.intro
    refine ⟨fun u hu => ?_, ?_⟩
    ·obtain ⟨p0, p1, p2, p3, p4, p5, p6, p7, p8, p9, p10, p11⟩ := Qb.c12 (Qb.ext BPw hu)
     have pl := Qb.lt (Qb.ext BPw hu)
     repeat (first | go_big_quiet_skip | (go_big_quiet_want; go_big_quiet_op; go_big_quiet_on))
     refine wpQuiet_nil ?_
     rfl
    refine Qj 13 rfl (by kernel_rfl) ?_
    simp only [Qd, Qe, Qf]
    go_wp2
    have OA' := Zp OA HC0
    replace HC := HC.alloc (.cells #[.string G.h, .int .i64 G.a.y, .int .i64 G.a.m, .bool G.a.s, .int .i64 G.a.d, .int .i64 G.b.y, .int .i64 G.b.m, .bool G.b.s, .int .i64 G.b.d, .slice F7 OL.length m7, .slice F2 G.d.length m2, .slice FR S.length mR] 31)
    refine Qi HC ?_
    refine Qn 14 rfl (by kernel_rfl) ?_
    simp only [Qd, Qe, Qf]
    go_wp2_with (at_builtin; refine wpList_append_own_at _ rfl _ _ 37 rfl vb1.heap.size 31 i0 (.agg #[.string ⟨#[]⟩, .int .i64 0, .int .i64 0, .bool false, .int .i64 0, .int .i64 0, .int .i64 0, .bool false, .int .i64 0, .slice none 0 0, .slice none 0 0, .slice none 0 0]) 12 152 Tryd.underlying37 hi hz0 hz1 hz2 rfl (by decide) _ _ _ rfl (OA'.alloc _) ⟨wd.heap.size, 0, none⟩ 1 1 (Qq ⟨G.h, G.a, G.b, OL, G.d, S⟩ (.slice F7 OL.length m7) (.slice F2 G.d.length m2) (.slice FR S.length mR)) rfl rfl (U4 _ _ _) (Lq _ _ _ _ _ _ _ _ _ _) (by unfold maxLen; omega) (by omega) (by have := hE.size; have := XW.size; have := HC0.size; simp; omega) ?_; intro o' w8 hown hgrow _ _)
    refine Qm ?_
    refine Qn 15 rfl (by kernel_rfl) ?_
    simp only [Qd, Qe, Qf]
    go_wp2
    refine Qm ?_
    refine Qt (by kernel_rfl) ?_
    skip
    have hsz6 := XW.size
    have hszo := hE.size
    have hsx := Qa.size X5
    have hsz2 := h2.size
    have E8 : Qa vb1 w8 := ((hE.trans (XW.trans HC0)).alloc _).grown hgrow (fun q hq => (hO.lt q hq).1)
    have PN : Zj wd vb1.heap.size ⟨G.h, G.a, G.b, OL, G.d, S⟩ (.slice F7 OL.length m7) (.slice F2 G.d.length m2) (.slice FR S.length mR) := ⟨Yi (Zp S1w HC0) (by omega), Jh.le D2 (by omega), Yi (Zp SR HC0) (by omega)⟩
    have D8 : Yc w8 vb1.heap.size o' ((k' + 1) + 1) (fun i => (L ++ [Jp L.getLast? (l.getD (k' + 1) Qk)]).getD i Qk) := pers_push2 he1 OA' (fun i hi => (hLo.out i hi).ext (XW.trans HC0)) (by rw [he2]; exact PN) (by rw [he2]; exact hown) hgrow
    go_wp2
    exact ⟨⟨(k' + 1) + 1, _, by omega, by go_num, D8, J', E8⟩, by simp [intOf]; omega⟩
  ·obtain rfl : k = l.length := by omega
   obtain rfl := hJ.out.done
   have hL := hJ.out.len
   clear hJ hat hside
   go_wp2
   go_ret2
   refine ⟨_, rfl, E.trans hE, ?_⟩
   have h : Yc wo vb1.heap.size (.slice FO l.length mO) L.length (fun i => L.getD i Qk) := by rw [hL]; exact ⟨ro, rd, rc, hO, hLo.out⟩
   exact Qdr h
end Go.Proofs.YtneiofnlmblglaaDoor