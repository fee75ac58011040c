/- archive of the program, all of the reference. -/
import Derived.Test.YtneiofnlmblglaaGreatDoorCQTf
import Derived.Test.YtneiofnlmblglaaGreatDoorCQZm
set_option maxRecDepth 100000
set_option maxHeartbeats 4000000
namespace Go.Proofs.YtneiofnlmblglaaGreatDoor
open Go Go.RowKit Go.Shelf
attribute [local go_sem] Zt
theorem archive_any (A A' : Option Addr) (ca cb : Nat) (c : Qf) (v : Value) (l : List Pd) (w : World) (hC : Qv w A ca A' cb c) (hP : U5 w v l) :
  Calls Tryz.prog 46 #[.agg #[.slice A c.nk ca, .slice A' c.ny cb], v] w fun e w' => e = .returned (.tuple #[.agg #[.slice A c.nk ca, .slice A' c.ny cb], .int .i64 (c.archE l)]) ∧ Qa w w' := by
 have NO := fun w h => Ml A A' ca cb c w h
 obtain ⟨D, cap, _, _, _, hv9, _⟩ := id hP
 subst hv9
 have NP := fun w h1 h2 => Qc5 A A' ca cb c (.slice D l.length cap) l w h1 h2
 obtain ⟨R, hR0⟩ := Qg (c.archE l)
 rw [← hR0]
 have HR := Lib.hid hR0
 clear hR0
 go_enter Tryz.func46, Tryz.ntmps46
 go_upto_region 1 with (fail)
 obtain ⟨v, hv⟩ := Qg ((w.alloc (.cells #[.slice A c.nk ca, .slice A' c.ny cb] 25)).alloc (.cells #[.slice none 0 0, .slice none 0 0] 61))
 rw [← hv]
 have E : Qa w v := by rw [hv]; exact ((Qa.refl _).alloc _).alloc _
 have B1 : Qb v w.heap.size 25 #[.slice A c.nk ca, .slice A' c.ny cb] := by rw [hv]; exact (Qb.new _ _ _).alloc _
 have B2 : Qb v (w.heap.size + 1) 61 #[.slice none 0 0, .slice none 0 0] := by rw [hv]; exact Qb.at _ _ _ _ (by simp)
 clear hv
 obtain ⟨b2, hb2⟩ := Qg (w.heap.size + 1)
 rw [← hb2] at B2 ⊢
 obtain ⟨b1, hb1⟩ := Qg (w.heap.size)
 rw [← hb1] at B1 ⊢
 have hbr : w.heap.size ≤ b2 := by omega
 have hbr1 : w.heap.size ≤ b1 := by omega
 have hn21 : b2 ≠ b1 := by omega
 clear hb1 hb2
 obtain ⟨k0, k1⟩ := B1.c2
 have lk := B1.lt
 obtain ⟨ck, hck⟩ := Qg (c.chk)
 simp only [← hck] at NO
 replace hck := Lib.hid hck
 go_upto_region 2 with (go_at_call 65; (with_reducible refine Calls.mono (NO _ (hC.ext E)) ?_); rintro e w1 ⟨rfl, h1⟩)
 obtain ⟨v3, hv⟩ := Qg (w1.alloc (.cells #[.slice A c.nk ca, .slice A' c.ny cb] 61))
 rw [← hv]
 have h3 : Qa w1 v3 := by rw [hv]; exact (Qa.refl _).alloc _
 have H3 : Qb v3 w1.heap.size 61 #[.slice A c.nk ca, .slice A' c.ny cb] := by rw [hv]; exact Qb.new _ _ _
 clear hv
 generalize w1.heap.size = b9 at *
 replace E := (E.trans h1).trans h3
 replace B2 := (B2.ext h1).ext h3
 have C := hC.ext E
 have P := hP.ext E
 clear hC hP k0 k1 lk B1 NO h1 h3
 by_cases e0 : ck = 0
 rotate_left
 ·have g0 : (ck == 0) = false := beq_eq_false_iff_ne.2 e0
  have g0n : (ck != 0) = true := by rw [bne, g0]; rfl
  have hr : R = ck := by rw [HR.out, hck.out]; unfold Qf.archE; rw [if_pos (by rw [← hck.out]; exact e0)]
  clear HR e0 hck NP
  obtain ⟨k0, k1⟩ := H3.c2
  have lk := H3.lt
  have f0 := B2.frozen 0
  have f1 := B2.frozen 1
  obtain ⟨x0, x1⟩ := B2.c2
  have lx := B2.lt
  have H4 := Ql B2 (.slice A c.nk ca) (.slice A' c.ny cb)
  have EF := (E.setCell (p := ⟨b2, 0, none⟩) hbr (.slice A c.nk ca)).setCell (p := ⟨b2, 1, none⟩) hbr (.slice A' c.ny cb)
  obtain ⟨y0, y1⟩ := H4.c2
  go_wp2
  refine bodyPost_ret (v := .tuple #[.agg #[.slice A c.nk ca, .slice A' c.ny cb], .int .i64 ck]) (by simp [results, Tryz.results46, go_sem, y0, y1]) rfl ⟨by rw [hr], EF⟩
 ·subst e0
  by_cases hlim : 32 < l.length
  ·have hr : R = 3 := by rw [HR.out]; unfold Qf.archE; rw [if_neg (by rw [← hck.out]; simp), if_pos hlim]
   have g1 : decide (32 < l.length) = true := decide_eq_true hlim
   clear HR hck NP
   obtain ⟨k0, k1⟩ := H3.c2
   have lk := H3.lt
   have f0 := B2.frozen 0
   have f1 := B2.frozen 1
   obtain ⟨x0, x1⟩ := B2.c2
   have lx := B2.lt
   have H4 := Ql B2 (.slice A c.nk ca) (.slice A' c.ny cb)
   have EF := (E.setCell (p := ⟨b2, 0, none⟩) hbr (.slice A c.nk ca)).setCell (p := ⟨b2, 1, none⟩) hbr (.slice A' c.ny cb)
   obtain ⟨y0, y1⟩ := H4.c2
   go_wp2
   refine bodyPost_ret (v := .tuple #[.agg #[.slice A c.nk ca, .slice A' c.ny cb], .int .i64 3]) (by simp [results, Tryz.results46, go_sem, y0, y1]) rfl ⟨by rw [hr], EF⟩
  have hr : Hid (R = c.persE l) := by unfold Hid; rw [HR.out]; unfold Qf.archE; rw [if_neg (by rw [← hck.out]; simp), if_neg hlim]
  have g1 : decide (32 < l.length) = false := decide_eq_false hlim
  clear HR hck
  obtain ⟨k0, k1⟩ := H3.c2
  have lk := H3.lt
  go_upto_region 6 with (fail)
  clear k0 k1 lk
  refine Q3 6 [4, 5] (fun x => Qa v3 x) Qm rfl ?_
  intro vz hvz
  have HC := hvz
  refine Qp (g := 3) [0, 1, 2] [_, _, _] ⟨rfl, rfl, rfl, trivial⟩ (by kernel_rfl) (by kernel_rfl) HC ?_
  simp only [Qc, Qd, Qe]
  apply Exists.intro
  refine ⟨fun u hu => ?_, ?_⟩
  ·obtain ⟨k0, k1⟩ := (H3.ext hu).c2
   have lk := (H3.ext hu).lt
   repeat (first | go_big_quiet_skip | (go_big_quiet_want; go_big_quiet_op; go_big_quiet_on))
   refine wpQuiet_nil ?_
   rfl
  refine Qj 3 rfl (by kernel_rfl) ?_
  simp only [Qc, Qd, Qe]
  go_wp2_with (go_at_call 66; (with_reducible refine Calls.mono (NP _ (C.ext HC) (P.ext HC)) ?_); rintro e va ⟨rfl, h4⟩)
  replace HC := HC.trans h4
  clear h4
  refine Qi HC ?_
  refine Qn 4 rfl (by kernel_rfl) ?_
  simp only [Qc, Qd, Qe]
  replace B2 := B2.ext HC
  replace E := E.trans HC
  have f0 := B2.frozen 0
  have f1 := B2.frozen 1
  obtain ⟨x0, x1⟩ := B2.c2
  have lx := B2.lt
  have H4 := Ql B2 (.slice A c.nk ca) (.slice A' c.ny cb)
  have EF := (E.setCell (p := ⟨b2, 0, none⟩) hbr (.slice A c.nk ca)).setCell (p := ⟨b2, 1, none⟩) hbr (.slice A' c.ny cb)
  obtain ⟨y0, y1⟩ := H4.c2
  go_wp2
  refine Qo ?_
  refine Qn 5 rfl (by kernel_rfl) ?_
  simp only [Qc, Qd, Qe]
  go_wp2
  refine Qo ?_
  refine Qs (by kernel_rfl) ?_
  go_wp2
  refine bodyPost_ret (v := .tuple #[.agg #[.slice A c.nk ca, .slice A' c.ny cb], .int .i64 (c.persE l)]) (by simp [results, Tryz.results46, go_sem, y0, y1]) rfl ⟨by rw [hr.out], EF⟩
theorem allR_any (A A' : Option Addr) (ca cb : Nat) (c : Qf) (l : List Pd) (v : Value) (w : World) (hC : Qv w A ca A' cb c) (hP : U5 w v l) :
  Calls Tryz.prog 50 #[.agg #[.slice A c.nk ca, .slice A' c.ny cb], v] w fun e w' => e = .returned (.int .i64 (c.archE l)) ∧ Qa w w' := by
 obtain ⟨D, cap, vo, vd, vc, rfl, hD, hcap, hmax, _, hat0⟩ := hP
 have hn : l.length ≤ 9223372036854775807 := Nat.le_trans hcap (Nat.le_trans hmax (by decide))
 clear hcap hmax
 obtain ⟨R, hR0⟩ := Qg (c.archE l)
 rw [← hR0]
 have HR := Lib.hid hR0
 clear hR0
 have NV := fun v (h : Qv v A ca A' cb c) => Pq A A' ca cb c v h
 cases hv : c.valid
 ·have hr : R = 70 := by
   rw [HR.out]; unfold Qf.archE Qf.chk; rw [hv]; rfl
  rw [hv] at NV
  clear HR hv hat0 hD
  go_enter Tryz.func50, Tryz.ntmps50
  go_upto_region 1 with (fail)
  obtain ⟨v, hv⟩ := Qg (w.alloc (.cells #[.slice A c.nk ca, .slice A' c.ny cb] 25))
  rw [← hv]
  have E : Qa w v := by rw [hv]; exact (Qa.refl _).alloc _
  have B1 : Qb v w.heap.size 25 #[.slice A c.nk ca, .slice A' c.ny cb] := by rw [hv]; exact (Qb.new _ _ _)
  clear hv
  obtain ⟨b1, hb1⟩ := Qg (w.heap.size)
  rw [← hb1] at B1 ⊢
  have hbr : w.heap.size ≤ b1 := by omega
  clear hb1
  have C := hC.ext E
  clear hC
  obtain ⟨k0, k1⟩ := B1.c2
  have kl := B1.lt
  go_wp2_with (go_at_call 31; (with_reducible refine Calls.mono (NV _ C) ?_); rintro e w1 ⟨rfl, hx⟩)
  go_ret
  exact ⟨by rw [hr]; rfl, E.trans hx⟩
 have NP := fun v p a b d h1 h2 => Qfh A A' ca cb c p a b d v h1 hv h2
 have hck : c.chk = 0 := by unfold Qf.chk; rw [hv]; rfl
 rw [hv] at NV
 clear hv
 by_cases hlim : 32 < l.length
 ·have hr : R = 3 := by rw [HR.out]; unfold Qf.archE; rw [if_neg (by rw [hck]; simp), if_pos hlim]
  have g1 : decide (32 < l.length) = true := decide_eq_true hlim
  clear HR hck NP hat0 hD
  go_enter Tryz.func50, Tryz.ntmps50
  go_upto_region 1 with (fail)
  obtain ⟨v, hv⟩ := Qg (w.alloc (.cells #[.slice A c.nk ca, .slice A' c.ny cb] 25))
  rw [← hv]
  have E : Qa w v := by rw [hv]; exact (Qa.refl _).alloc _
  have B1 : Qb v w.heap.size 25 #[.slice A c.nk ca, .slice A' c.ny cb] := by rw [hv]; exact (Qb.new _ _ _)
  clear hv
  obtain ⟨b1, hb1⟩ := Qg (w.heap.size)
  rw [← hb1] at B1 ⊢
  have hbr : w.heap.size ≤ b1 := by omega
  clear hb1
  have C := hC.ext E
  clear hC
  obtain ⟨k0, k1⟩ := B1.c2
  have kl := B1.lt
  go_wp2_with (go_at_call 31; (with_reducible refine Calls.mono (NV _ C) ?_); rintro e w1 ⟨rfl, hx⟩)
  go_ret
  exact ⟨by rw [hr]; rfl, E.trans hx⟩
 have hR : Hid (R = c.persE l) := by unfold Hid; rw [HR.out]; unfold Qf.archE; rw [if_neg (by rw [hck]; simp), if_neg hlim]
 have g1 : decide (32 < l.length) = false := decide_eq_false hlim
 clear HR hck
 have hno : Hid (∀ k, k < l.length → c.perOk (l.getD k Ww) = false → R = 83) := fun k hk h => by rw [hR.out]; unfold Qf.persE; rw [if_neg (by rw [Qdi hk h]; decide)]
 have hyes : Hid ((∀ k, k < l.length → c.perOk (l.getD k Ww) = true) → R = 0) := fun h => by rw [hR.out]; unfold Qf.persE; rw [if_pos (Ij h)]
 clear hR
 obtain ⟨g, hg⟩ := Qg (fun i => l.getD i Ww)
 have hg' : ∀ i, l.getD i Ww = g i := fun i => by rw [hg]
 simp only [hg'] at hD hat0 hno hyes
 clear hg hg'
 generalize l.length = n at *
 have hat := Lib.hid hat0
 clear hat0
 go_enter Tryz.func50, Tryz.ntmps50
 go_upto_region 1 with (fail)
 obtain ⟨v, hv⟩ := Qg (w.alloc (.cells #[.slice A c.nk ca, .slice A' c.ny cb] 25))
 rw [← hv]
 have E : Qa w v := by rw [hv]; exact (Qa.refl _).alloc _
 have B1 : Qb v w.heap.size 25 #[.slice A c.nk ca, .slice A' c.ny cb] := by rw [hv]; exact (Qb.new _ _ _)
 clear hv
 obtain ⟨b1, hb1⟩ := Qg (w.heap.size)
 rw [← hb1] at B1 ⊢
 have hbr : w.heap.size ≤ b1 := by omega
 clear hb1
 have C := hC.ext E
 clear hC
 obtain ⟨k0, k1⟩ := B1.c2
 have kl := B1.lt
 go_upto_region 6 with (go_at_call 31; (with_reducible refine Calls.mono (NV _ C) ?_); rintro e w1 ⟨rfl, hx⟩; replace E := E.trans hx; replace C := C.ext hx; replace B1 := B1.ext hx; clear hx k0 k1 kl; obtain ⟨k0, k1⟩ := B1.c2; have kl := B1.lt)
 clear NV g1
 go_loopw [5] (fun i wr => ∃ k : Nat, k ≤ n ∧ i = .int .i64 k ∧ Hid (∀ j, j < k → c.perOk (g j) = true) ∧ Qa w1 wr) (fun i _ => n - (intOf i).toNat)
 case atStart => exact ⟨0, Nat.zero_le _, rfl, fun j h => absurd h (by omega), Qa.refl _⟩
 case round =>
  obtain ⟨k, hk, rfl, hall, hE⟩ := hrel
  obtain ⟨wo, rfl⟩ := Qg wr
  clear k0 k1 kl
  have B1o := B1.ext hE
  obtain ⟨k0, k1⟩ := B1o.c2
  have kl := B1o.lt
  by_cases hlt : k < n
  ·obtain ⟨b, off, rfl, hb, hc⟩ := (hD.ext (E.trans hE)) (by omega)
   have c0 : wo.cell? ⟨b, off + k * 12, none⟩ = some (.string (g k).h) := by simpa [Yl] using hc k 0 _ hlt rfl
   have c1 : wo.cell? ⟨b, off + k * 12 + 1, none⟩ = some (.int .i64 (g k).a.y) := by simpa [Yl] using hc k 1 _ hlt rfl
   have c2 : wo.cell? ⟨b, off + k * 12 + 2, none⟩ = some (.int .i64 (g k).a.m) := by simpa [Yl] using hc k 2 _ hlt rfl
   have c3 : wo.cell? ⟨b, off + k * 12 + 3, none⟩ = some (.bool (g k).a.s) := by simpa [Yl] using hc k 3 _ hlt rfl
   have c4 : wo.cell? ⟨b, off + k * 12 + 4, none⟩ = some (.int .i64 (g k).a.d) := by simpa [Yl] using hc k 4 _ hlt rfl
   have c5 : wo.cell? ⟨b, off + k * 12 + 5, none⟩ = some (.int .i64 (g k).b.y) := by simpa [Yl] using hc k 5 _ hlt rfl
   have c6 : wo.cell? ⟨b, off + k * 12 + 6, none⟩ = some (.int .i64 (g k).b.m) := by simpa [Yl] using hc k 6 _ hlt rfl
   have c7 : wo.cell? ⟨b, off + k * 12 + 7, none⟩ = some (.bool (g k).b.s) := by simpa [Yl] using hc k 7 _ hlt rfl
   have c8 : wo.cell? ⟨b, off + k * 12 + 8, none⟩ = some (.int .i64 (g k).b.d) := by simpa [Yl] using hc k 8 _ hlt rfl
   have c9 : wo.cell? ⟨b, off + k * 12 + 9, none⟩ = some (vo k) := by simpa [Yl] using hc k 9 _ hlt rfl
   have c10 : wo.cell? ⟨b, off + k * 12 + 10, none⟩ = some (vd k) := by simpa [Yl] using hc k 10 _ hlt rfl
   have c11 : wo.cell? ⟨b, off + k * 12 + 11, none⟩ = some (vc k) := by simpa [Yl] using hc k 11 _ hlt rfl
   clear hc
   have P1 := (hat.out k hlt).ext (E.trans hE)
   have hall' : Hid (c.perOk (g k) = true → ∀ j, j < k + 1 → c.perOk (g j) = true) := fun h j hj => by
    by_cases e2 : j = k
    ·subst e2; exact h
    ·exact hall.out j (by omega)
   have hbad := fun h => hno.out k hlt h
   have C2 := C.ext hE
   clear hat hD hno hyes hall
   generalize vo k = v1 at *
   generalize vd k = v2 at *
   generalize vc k = v3 at *
   obtain ⟨t1, s1, e1, _⟩ := id P1.o
   subst e1
   obtain ⟨t2, s2, _, e2, _⟩ := id P1.d
   subst e2
   obtain ⟨t3, s3, e3, _⟩ := id P1.c
   subst e3
   have NS := fun w h1 h2 => NP w (g k) (.slice t1 (g k).o.length s1) (.slice t2 (g k).d.length s2) (.slice t3 (g k).c.length s3) h1 h2
   clear NP
   cases hq : c.perOk (g k)
   ·have hr := hbad hq
    rw [hq] at NS
    clear hbad hall' hq
    go_upto_region 8 with (fail)
    refine Q8 wo Qm (by kernel_rfl) (by repeat (first | exact Qa.refl _ | (refine Qa.alloc ?_ _) | (refine Qa.trans ?_ (by assumption)))) ?_
    intro hne hrx hry
    try simp only []
    try simp only [List.append_eq, List.cons_append, List.nil_append]
    skip
    repeat (first
     | go_big_quiet_skip
     | (go_big_quiet_want; go_big_quiet_op; go_big_quiet_on)
     | (go_big_quiet_want; go_big_quiet_op; apply Exists.intro; refine ⟨fun u => ?_, ?_⟩
        ·first
          | (go_at_call 32; (with_reducible refine Calls.mono (NS _ (C2.ext u.e) (P1.ext u.e)) ?_); rintro e w' ⟨rfl, hb⟩; exact ⟨rfl, u.back hb⟩)
        go_big_quiet_on))
    clear hne hry hrx
    refine wpQuiet_nil ?_
    intro w2 h2
    obtain ⟨hcw2, hfw2, hzw2⟩ := Qa.rules h2
    try simp only [World.size_alloc] at hzw2
    obtain ⟨hcbw2, hfbw2, hzbw2⟩ := Qa.rules (show Qa wo w2 from (by repeat (first | exact Qa.refl _ | (refine Qa.alloc ?_ _) | (refine Qa.trans ?_ (by assumption)))))
    clear hcw2 hfw2
    go_wp2
    go_ret
    exact ⟨by rw [hr]; rfl, (E.trans hE).trans h2⟩
   ·have hall2 := Lib.hid (hall'.out hq)
    rw [hq] at NS
    clear hbad hall' hq
    go_upto_region 8 with (fail)
    refine Q8 wo Qm (by kernel_rfl) (by repeat (first | exact Qa.refl _ | (refine Qa.alloc ?_ _) | (refine Qa.trans ?_ (by assumption)))) ?_
    intro hne hrx hry
    try simp only []
    try simp only [List.append_eq, List.cons_append, List.nil_append]
    skip
    repeat (first
     | go_big_quiet_skip
     | (go_big_quiet_want; go_big_quiet_op; go_big_quiet_on)
     | (go_big_quiet_want; go_big_quiet_op; apply Exists.intro; refine ⟨fun u => ?_, ?_⟩
        ·first
          | (go_at_call 32; (with_reducible refine Calls.mono (NS _ (C2.ext u.e) (P1.ext u.e)) ?_); rintro e w' ⟨rfl, hb⟩; exact ⟨rfl, u.back hb⟩)
        go_big_quiet_on))
    clear hne hry hrx
    refine wpQuiet_nil ?_
    intro w2 h2
    obtain ⟨hcw2, hfw2, hzw2⟩ := Qa.rules h2
    try simp only [World.size_alloc] at hzw2
    obtain ⟨hcbw2, hfbw2, hzbw2⟩ := Qa.rules (show Qa wo w2 from (by repeat (first | exact Qa.refl _ | (refine Qa.alloc ?_ _) | (refine Qa.trans ?_ (by assumption)))))
    clear hcw2 hfw2
    go_wp2
    exact ⟨⟨k + 1, by omega, by go_num, hall2, hE.trans h2⟩, by simp [intOf]; omega⟩
  ·obtain rfl : k = n := by omega
   have hr := hyes.out hall.out
   clear hno hyes hall hat
   go_wp2
   go_ret
   exact ⟨by rw [hr]; rfl, E.trans hE⟩
end Go.Proofs.YtneiofnlmblglaaGreatDoor