/- Walks of the program's functions and plain facts, packed; proved: the lemmas below; no conditions but those that each states. -/
import Derived.Test.YtoflcheopfppoaaGreatDoorJ5
import Derived.Test.YtoflcheopfppoaaGreatDoorJ4
import Derived.Test.YtoflcheopfppoaaGreatDoorJ3
set_option maxRecDepth 100000
set_option maxHeartbeats 4000000
namespace Go.Proofs.YtoflcheopfppoaaGreatDoor
section
open Go Go.RowKit Go.Shelf
attribute [local go_sem] Zq
def Yl (f : Nat → Tk) (i : Nat) : List Value := [.int .i64 (f i).a.n, .int .i64 (f i).a.d, .int .i64 (f i).r.n, .int .i64 (f i).r.d]
theorem Qbd (a b : Rt) : (J2 a b).1.In := by
 unfold J2
 by_cases h : a.ok && b.ok
 ·rw [if_pos h]
  obtain ⟨h1, h2⟩ := Bool.and_eq_true_iff.1 h
  by_cases h0 : b.n = 0
  ·rw [if_pos h0]; exact Yx
  ·rw [if_neg h0]; exact Od (Nat.mul_pos (by have := Zo h1; omega) (by omega))
 ·rw [if_neg h]; exact Yx
theorem Qee (T : Option Addr) (n cap : Nat) (f : Nat → Tk) (p1 i : Nat) (hi : i < n) (ha : (f i).a.In) (hr : (f i).r.In) (w : World) (hB : Qb w p1 109 #[.slice T n cap]) (hT : Qo w T n 4 (Yl f)) (hn : n ≤ 1000000) (hZ : Zu w) :
  Calls Tryz.prog 136 #[.int .i64 (i : Int), .pointer (some ⟨p1, 0, none⟩)] w fun e w' => e = .returned (.tuple #[.agg #[.int .i64 (J2 (f i).a (f i).r).1.n, .int .i64 (J2 (f i).a (f i).r).1.d], .int .i64 (J2 (f i).a (f i).r).2]) ∧ Qa w w' := by
 have ND := fun w z => Qbc (f i).a (f i).r ha hr w z
 generalize J2 (f i).a (f i).r = R at *
 obtain ⟨⟨Rn, Rd⟩, Re⟩ := R
 obtain ⟨b, off, rfl, _, _⟩ := hT (by omega)
 go_enter Tryz.func136, Tryz.ntmps136
 go_upto_region 1 with (fail)
 obtain ⟨v, hv⟩ := Qg (w.alloc (.cells #[.int .i64 0, .int .i64 0] 65))
 rw [← hv]
 have E : Qa w v := by rw [hv]; exact (Qa.refl _).alloc _
 have B1 : Qb v w.heap.size 65 #[.int .i64 0, .int .i64 0] := by rw [hv]; exact (Qb.new _ _ _)
 clear hv
 obtain ⟨b1, hb1⟩ := Qg (w.heap.size)
 rw [← hb1] at B1 ⊢
 have hbr : w.heap.size ≤ b1 := by omega
 clear hb1
 have Z0 := hZ.ext E
 have HB := hB.ext E
 have RT := hT.ext E
 clear hB hT hZ
 refine Q1 15 [13, 14] (fun x => Qa v x) Qq rfl ?_
 intro vz hvz
 have HC := hvz
 refine Qr (g := 5) [0, 1, 2, 3, 4, 5, 6, 7, 8, 9] [_, _, _, _, _, _, _, _, _, _] ⟨rfl, rfl, rfl, rfl, rfl, rfl, rfl, rfl, rfl, rfl, trivial⟩ (by kernel_rfl) (by kernel_rfl) HC ?_
 simp only [Qc, Qd, Qe]
 apply Exists.intro
 refine ⟨fun u hu => ?_, ?_⟩
 ·have k0 := (HB.ext hu).c1
  have lk := (HB.ext hu).lt
  obtain ⟨b', off', hTe, hb, hc⟩ := (RT.ext hu) (by omega)
  obtain ⟨rfl, rfl⟩ : b = b' ∧ off = off' := by simpa using hTe
  have c0 : u.cell? ⟨b, off + i * 4, none⟩ = some (.int .i64 (f i).a.n) := by simpa [Yl] using hc i 0 _ hi rfl
  have c1 : u.cell? ⟨b, off + i * 4 + 1, none⟩ = some (.int .i64 (f i).a.d) := by simpa [Yl] using hc i 1 _ hi rfl
  have c2 : u.cell? ⟨b, off + i * 4 + 2, none⟩ = some (.int .i64 (f i).r.n) := by simpa [Yl] using hc i 2 _ hi rfl
  have c3 : u.cell? ⟨b, off + i * 4 + 3, none⟩ = some (.int .i64 (f i).r.d) := by simpa [Yl] using hc i 3 _ hi rfl
  clear hc
  repeat (first | go_big_quiet_skip | (go_big_quiet_want; go_big_quiet_op; go_big_quiet_on))
  refine wpQuiet_nil ?_
  rfl
 refine Qk 10 rfl (by kernel_rfl) ?_
 simp only [Qc, Qd, Qe]
 go_wp2_with (go_at_call 137; (with_reducible refine Calls.mono (ND _ (Z0.ext HC)) ?_); rintro e wa ⟨rfl, h4⟩)
 replace HC := HC.trans h4
 clear h4
 refine Qh HC ?_
 refine Qr (g := 2) [11, 12] [_, _] ⟨rfl, rfl, trivial⟩ (by kernel_rfl) (by kernel_rfl) HC ?_
 simp only [Qc, Qd, Qe]
 apply Exists.intro
 refine ⟨fun u hu => ?_, ?_⟩
 ·have k0 := (HB.ext hu).c1
  have lk := (HB.ext hu).lt
  obtain ⟨b', off', hTe, hb, hc⟩ := (RT.ext hu) (by omega)
  obtain ⟨rfl, rfl⟩ : b = b' ∧ off = off' := by simpa using hTe
  have c0 : u.cell? ⟨b, off + i * 4, none⟩ = some (.int .i64 (f i).a.n) := by simpa [Yl] using hc i 0 _ hi rfl
  have c1 : u.cell? ⟨b, off + i * 4 + 1, none⟩ = some (.int .i64 (f i).a.d) := by simpa [Yl] using hc i 1 _ hi rfl
  have c2 : u.cell? ⟨b, off + i * 4 + 2, none⟩ = some (.int .i64 (f i).r.n) := by simpa [Yl] using hc i 2 _ hi rfl
  have c3 : u.cell? ⟨b, off + i * 4 + 3, none⟩ = some (.int .i64 (f i).r.d) := by simpa [Yl] using hc i 3 _ hi rfl
  clear hc
  repeat (first | go_big_quiet_skip | (go_big_quiet_want; go_big_quiet_op; go_big_quiet_on))
  refine wpQuiet_nil ?_
  rfl
 refine Qm 13 rfl (by kernel_rfl) ?_
 simp only [Qc, Qd, Qe]
 replace B1 := B1.ext HC
 replace E := E.trans HC
 have f0 := B1.frozen 0
 have f1 := B1.frozen 1
 obtain ⟨x0, x1⟩ := B1.c2
 have lx := B1.lt
 have H4 := Qn B1 (.int .i64 Rn) (.int .i64 Rd)
 have EF := (E.setCell (p := ⟨b1, 0, none⟩) hbr (.int .i64 Rn)).setCell (p := ⟨b1, 1, none⟩) hbr (.int .i64 Rd)
 obtain ⟨y0, y1⟩ := H4.c2
 go_wp2
 refine Ql ?_
 refine Qm 14 rfl (by kernel_rfl) ?_
 simp only [Qc, Qd, Qe]
 go_wp2
 refine Ql ?_
 refine Qs (by kernel_rfl) ?_
 go_wp2
 refine bodyPost_ret (v := .tuple #[.agg #[.int .i64 Rn, .int .i64 Rd], .int .i64 Re]) (by simp [results, Tryz.results136, go_sem, y0, y1]) rfl ⟨rfl, EF⟩
theorem D4 (T : Option Addr) (n cap : Nat) (f : Nat → Tk) (w : World) (hin : ∀ i, i < n → (f i).a.In ∧ (f i).r.In) (hT : Qo w T n 4 (Yl f)) (hn : n ≤ 9223372036854775807) (hZ : Zu w) :
  Calls Tryz.prog 87 #[.slice T n cap] w fun e w' => e = .returned (.tuple #[.agg #[.int .i64 (Jg f n).1.n, .int .i64 (Jg f n).1.d], .int .i64 (Jg f n).2]) ∧ Qa w w' := by
 obtain ⟨R, hR0⟩ := Qg (Jg f n)
 rw [← hR0]
 have HR := Lib.hid hR0
 clear hR0
 go_enter Tryz.func87, Tryz.ntmps87
 go_upto_region 1 with (fail)
 obtain ⟨v, hv⟩ := Qg ((w.alloc (.cells #[.slice T n cap] 109)).alloc (.cells #[.int .i64 0, .int .i64 0] 65))
 rw [← hv]
 have E : Qa w v := by rw [hv]; exact ((Qa.refl _).alloc _).alloc _
 have B1 : Qb v w.heap.size 109 #[.slice T n cap] := by rw [hv]; exact (Qb.new _ _ _).alloc _
 have B2 : Qb v (w.heap.size + 1) 65 #[.int .i64 0, .int .i64 0] := by rw [hv]; exact Qb.at _ _ _ _ (by simp)
 clear hv
 obtain ⟨b2, hb2⟩ := Qg (w.heap.size + 1)
 rw [← hb2] at B2 ⊢
 obtain ⟨b1, hb1⟩ := Qg (w.heap.size)
 rw [← hb1] at B1 ⊢
 have hbr : w.heap.size ≤ b2 := by omega
 have hbr1 : w.heap.size ≤ b1 := by omega
 have hn21 : b2 ≠ b1 := by omega
 clear hb1 hb2
 have RT := hT.ext E
 have Z0 := hZ.ext E
 clear hT hZ
 have k0 := B1.c1
 have lk := B1.lt
 by_cases h64 : 64 < n
 ·have g1 : decide ((64 : Int) < (n : Int)) = true := decide_eq_true (by omega)
  have hr := HR.out
  rw [show Jg f n = (Zd, 3) by unfold Jg; rw [if_pos h64]] at hr
  subst hr
  clear HR
  clear h64
  have f0 := B2.frozen 0
  have f1 := B2.frozen 1
  obtain ⟨x0, x1⟩ := B2.c2
  have lx := B2.lt
  have H4 := Qn B2 (.int .i64 0) (.int .i64 0)
  have EF := (E.setCell (p := ⟨b2, 0, none⟩) hbr (.int .i64 0)).setCell (p := ⟨b2, 1, none⟩) hbr (.int .i64 0)
  obtain ⟨y0, y1⟩ := H4.c2
  go_wp2
  refine bodyPost_ret (v := .tuple #[.agg #[.int .i64 0, .int .i64 0], .int .i64 3]) (by simp [results, Tryz.results87, go_sem, y0, y1]) rfl ⟨rfl, EF⟩
 ·have g1 : decide ((64 : Int) < (n : Int)) = false := decide_eq_false (by omega)
  go_upto_region 4 with (fail)
  clear k0 lk
  go_loopw [12] (fun i wr => ∃ k : Nat, k ≤ n ∧ i = .int .i64 k ∧ Hid (∀ j, j < k → Ve (f j) = true) ∧ Qa v wr) (fun i _ => n - (intOf i).toNat)
  case atStart => exact ⟨0, Nat.zero_le _, rfl, (fun j h => absurd h (by omega)), Qa.refl _⟩
  case round =>
   obtain ⟨k, hk, rfl, hall, hE⟩ := hrel
   obtain ⟨wo, rfl⟩ := Qg wr
   by_cases hlt : k < n
   ·obtain ⟨b, off, rfl, hb, hc⟩ := (RT.ext hE) (by omega)
    have c0 : wo.cell? ⟨b, off + k * 4, none⟩ = some (.int .i64 (f k).a.n) := by simpa [Yl] using hc k 0 _ hlt rfl
    have c1 : wo.cell? ⟨b, off + k * 4 + 1, none⟩ = some (.int .i64 (f k).a.d) := by simpa [Yl] using hc k 1 _ hlt rfl
    have c2 : wo.cell? ⟨b, off + k * 4 + 2, none⟩ = some (.int .i64 (f k).r.n) := by simpa [Yl] using hc k 2 _ hlt rfl
    have c3 : wo.cell? ⟨b, off + k * 4 + 3, none⟩ = some (.int .i64 (f k).r.d) := by simpa [Yl] using hc k 3 _ hlt rfl
    obtain ⟨ia, ir⟩ := hin k hlt
    have NN := fun w b h => Nq (some ⟨b, 0, none⟩) 1 1 (fun _ => (f k).a) w h (by decide) (fun i hi => ia)
    rw [Fx] at NN
    have NP := fun w => Oa (f k).r ir w
    have hno : Hid (Ve (f k) = false → R = (Zd, 81)) := fun h => by
     rw [HR.out]; unfold Jg
     rw [if_neg h64, if_neg (by rw [Bool.not_eq_true]; exact List.all_eq_false.2 ⟨k, by simpa using hlt, by simp [h]⟩)]
    have hyes : Hid (Ve (f k) = true → ∀ j, j < k + 1 → Ve (f j) = true) := fun h j hj => by
     by_cases e : j = k
     ·subst e; exact h
     ·exact hall.out j (by omega)
    have htk : Hid (Ve (f k) = ((f k).a.nn && (f k).r.pos)) := rfl
    clear hc hin RT hall HR h64
    go_upto_region 6 with (fail)
    obtain ⟨v3, hv⟩ := Qg (wo.alloc (.cells #[.int .i64 (f k).a.n, .int .i64 (f k).a.d, .int .i64 (f k).r.n, .int .i64 (f k).r.d] 108))
    rw [← hv]
    have E3 : Qa wo v3 := by rw [hv]; exact (Qa.refl _).alloc _
    have H3 : Qb v3 wo.heap.size 108 #[.int .i64 (f k).a.n, .int .i64 (f k).a.d, .int .i64 (f k).r.n, .int .i64 (f k).r.d] := by rw [hv]; exact Qb.new _ _ _
    clear hv c0 c1 c2 c3
    replace hE := hE.trans E3
    generalize wo.heap.size = b3 at *
    clear E3
    obtain ⟨q0, q1, q2, q3⟩ := H3.c4
    have lq := H3.lt
    generalize (f k).a.nn = nn at *
    generalize (f k).r.pos = pp at *
    cases nn
    ·have hr := hno.out (by rw [htk.out]; rfl)
     subst hr
     clear hno hyes htk
     go_upto_region 7 with (go_at_call 70; (with_reducible refine Calls.mono (NN _ _ (Uw (Qb.new _ _ _))) ?_); rintro e w2 ⟨rfl, h2⟩; clear q0 q1 q2 q3 lq; obtain ⟨q0, q1, q2, q3⟩ := ((H3.alloc (.cells #[.int .i64 (f k).a.n, .int .i64 (f k).a.d] 65)).ext h2).c4; have lq := ((H3.alloc (.cells #[.int .i64 (f k).a.n, .int .i64 (f k).a.d] 65)).ext h2).lt)
     replace E := ((E.trans hE).alloc _).trans h2
     replace B2 := ((B2.ext hE).alloc _).ext h2
     have f0 := B2.frozen 0
     have f1 := B2.frozen 1
     obtain ⟨x0, x1⟩ := B2.c2
     have lx := B2.lt
     have H4 := Qn B2 (.int .i64 0) (.int .i64 0)
     have EF := (E.setCell (p := ⟨b2, 0, none⟩) hbr (.int .i64 0)).setCell (p := ⟨b2, 1, none⟩) hbr (.int .i64 0)
     obtain ⟨y0, y1⟩ := H4.c2
     go_wp2
     refine bodyPost_ret (v := .tuple #[.agg #[.int .i64 0, .int .i64 0], .int .i64 81]) (by simp [results, Tryz.results87, go_sem, y0, y1]) rfl ⟨rfl, EF⟩
    ·cases pp
     ·have hr := hno.out (by rw [htk.out]; rfl)
      subst hr
      clear hno hyes htk
      go_upto_region 7 with (first | (go_at_call 70; (with_reducible refine Calls.mono (NN _ _ (Uw (Qb.new _ _ _))) ?_); rintro e w2 ⟨rfl, h2⟩; clear q0 q1 q2 q3 lq; obtain ⟨q0, q1, q2, q3⟩ := ((H3.alloc (.cells #[.int .i64 (f k).a.n, .int .i64 (f k).a.d] 65)).ext h2).c4; have lq := ((H3.alloc (.cells #[.int .i64 (f k).a.n, .int .i64 (f k).a.d] 65)).ext h2).lt) | (go_at_call 67; (with_reducible refine Calls.mono (NP _) ?_); rintro e w3 ⟨rfl, h3⟩))
      replace E := (((E.trans hE).alloc _).trans h2).trans h3
      replace B2 := (((B2.ext hE).alloc _).ext h2).ext h3
      have f0 := B2.frozen 0
      have f1 := B2.frozen 1
      obtain ⟨x0, x1⟩ := B2.c2
      have lx := B2.lt
      have H4 := Qn B2 (.int .i64 0) (.int .i64 0)
      have EF := (E.setCell (p := ⟨b2, 0, none⟩) hbr (.int .i64 0)).setCell (p := ⟨b2, 1, none⟩) hbr (.int .i64 0)
      obtain ⟨y0, y1⟩ := H4.c2
      go_wp2
      refine bodyPost_ret (v := .tuple #[.agg #[.int .i64 0, .int .i64 0], .int .i64 81]) (by simp [results, Tryz.results87, go_sem, y0, y1]) rfl ⟨rfl, EF⟩
     ·have hx := Lib.hid (hyes.out (by rw [htk.out]; rfl))
      clear hno hyes htk
      go_wp2_with (first | (go_at_call 70; (with_reducible refine Calls.mono (NN _ _ (Uw (Qb.new _ _ _))) ?_); rintro e w2 ⟨rfl, h2⟩; clear q0 q1 q2 q3 lq; obtain ⟨q0, q1, q2, q3⟩ := ((H3.alloc (.cells #[.int .i64 (f k).a.n, .int .i64 (f k).a.d] 65)).ext h2).c4; have lq := ((H3.alloc (.cells #[.int .i64 (f k).a.n, .int .i64 (f k).a.d] 65)).ext h2).lt) | (go_at_call 67; (with_reducible refine Calls.mono (NP _) ?_); rintro e w3 ⟨rfl, h3⟩))
      exact ⟨⟨k + 1, by omega, by go_num, hx, (((hE.alloc _).trans h2).trans h3)⟩, by simp [intOf]; omega⟩
   ·obtain rfl : k = n := by omega
    have B1e := B1.ext hE
    have RTe := RT.ext hE
    have Ze := Z0.ext hE
    have NT := Qge (fun i => J2 (f i).a (f i).r) k b1 wo (fun i hi u hu => Qee T k cap f b1 i hi (hin i hi).1 (hin i hi).2 u (B1e.ext hu) (RTe.ext hu) (by omega) (Ze.ext hu)) (fun i hi => Qbd _ _) (by omega) Ze
    rw [show Wc (fun i => J2 (f i).a (f i).r) k = R from by rw [HR.out]; unfold Jg; rw [if_neg h64, if_pos (List.all_eq_true.2 fun j hj => hall.out j (by simpa using hj))]] at NT
    clear HR hall hin h64 RT
    replace E := E.trans hE
    replace B2 := B2.ext hE
    have k0 := B1e.c1
    have lk := B1e.lt
    clear hE
    obtain ⟨⟨Rn, Rd⟩, Re⟩ := R
    go_wp2_with (first | (go_at_call 135; (with_reducible refine Calls.mono (NT) ?_); rintro e wt ⟨rfl, ht⟩; replace E := E.trans ht; replace B2 := B2.ext ht; have f0 := B2.frozen 0; have f1 := B2.frozen 1; obtain ⟨x0, x1⟩ := B2.c2; have lx := B2.lt))
    have H4 := Qn B2 (.int .i64 Rn) (.int .i64 Rd)
    have EF := (E.setCell (p := ⟨b2, 0, none⟩) hbr (.int .i64 Rn)).setCell (p := ⟨b2, 1, none⟩) hbr (.int .i64 Rd)
    obtain ⟨y0, y1⟩ := H4.c2
    go_wp2
    refine bodyPost_ret (v := .tuple #[.agg #[.int .i64 Rn, .int .i64 Rd], .int .i64 Re]) (by simp [results, Tryz.results87, go_sem, y0, y1]) rfl ⟨rfl, EF⟩
end
section
/-! ### Days and schematic days -/
theorem Qeq {c : Qf} {d : Dt} (hv : c.valid = true) : c.numV d = 0 ↔ c.has d = false := by
 unfold Qf.numV Qf.inE
 rw [if_pos hv]
 cases h : c.has d
 ·simp
 ·have := (Be h).1
  simp; omega
theorem Kv {c : Qf} {d : Dt} (hv : c.valid = true) (h : c.numV d ≠ 0) : c.has d = true ∧ c.numV d = (c.num d).1 ∧ 1 ≤ c.numV d := by
 have hh : c.has d = true := by
  cases e : c.has d
  ·exact absurd ((Qeq hv).2 e) h
  ·rfl
 have e : c.numV d = (c.num d).1 := by unfold Qf.numV Qf.inE; rw [if_pos hv, hh]; rfl
 exact ⟨hh, e, by rw [e]; exact (Be hh).1⟩
theorem Mh {c : Qf} {a b : Dt} (hv : c.valid = true) (ha : c.has a = true) (hb : c.has b = true) : c.schV a b = 30 * ((c.num b).2 - (c.num a).2) + b.d - a.d := by
 unfold Qf.schV Qf.in2E; rw [if_pos hv, ha, hb]; rfl
theorem Bh {c : Qf} (h : c.valid = true) : c.ny ≤ 400 := by
 simp only [Qf.valid, Bool.and_eq_true, decide_eq_true_eq] at h
 exact h.1.2
theorem Vc {c : Qf} {d : Dt} (hv : c.valid = true) (h : c.has d = true) : 0 ≤ (c.num d).2 ∧ (c.num d).2 ≤ 5200 ∧ 1 ≤ d.d ∧ d.d ≤ 30 := by
 obtain ⟨i, x, hx, _, hn, h1, h2⟩ := Nt h
 have hl := Nh c c.ny
 have hny := Bh hv
 have hi := (List.getElem?_eq_some_iff.1 hx).1
 have hil : c.items.length ≤ 13 * c.ny := hl
 have := Uq (c.yr x.y) x.n x.s
 have e : x.len c = (c.yr x.y).len x.n x.s := rfl
 rw [hn]
 simp only
 omega
/-- From a day to a later one (or the same) the schematic days are no fewer than none. -/
theorem sch_bd {c : Qf} {a b : Dt} (hv : c.valid = true) (ha : c.numV a ≠ 0) (hb : c.numV b ≠ 0) (h : c.numV a ≤ c.numV b) : 0 ≤ c.schV a b ∧ c.schV a b ≤ 1099511627775 := by
 obtain ⟨ka, ea, _⟩ := Kv hv ha
 obtain ⟨kb, eb, _⟩ := Kv hv hb
 obtain ⟨_, _, o3, o4⟩ := Ua ka kb
 have na := Vc hv ka
 have nb := Vc hv kb
 rw [Mh hv ka kb]
 rw [ea, eb] at h
 refine ⟨?_, by omega⟩
 rcases Int.lt_or_eq_of_le h with h1 | h1
 ·have := o3 h1; omega
 ·have := o4 h1; omega
theorem Qfx {c : Qf} {a : Dt} (hv : c.valid = true) (ha : c.numV a ≠ 0) : c.schV a a = 0 := by
 obtain ⟨ka, _, _⟩ := Kv hv ha
 rw [Mh hv ka ka]; omega
/-! ### Ratios that exist are what comes out -/
theorem Qfl {n d : Int} {x : Rt} (hd : 1 ≤ d) (hx : x.ok = true) (h : Xs x n d) : Jq n d = (x, 0) := by
 obtain ⟨x1, x2, x3, x4, x5⟩ := Zo hx
 unfold Xs at h
 unfold Jq
 rw [if_neg (by omega)]
 have e : x.n.natAbs * d.natAbs = n.natAbs * x.d.natAbs := by rw [← Int.natAbs_mul, ← Int.natAbs_mul, h]
 rw [Rk (p := x.n.natAbs) (q := x.d.natAbs) (by omega) (by omega) x5 e, if_pos (by omega)]
 have hs : (n < 0) = (x.n < 0) := by
  refine propext ⟨fun hn => ?_, fun hn => ?_⟩
  ·have : n * x.d < 0 := Int.mul_neg_of_neg_of_pos hn (by omega)
   rcases Int.lt_or_le x.n 0 with h0 | h0
   ·exact h0
   ·have := Int.mul_nonneg h0 (show 0 ≤ d by omega)
    omega
  ·have : x.n * d < 0 := Int.mul_neg_of_neg_of_pos hn (by omega)
   rcases Int.lt_or_le n 0 with h0 | h0
   ·exact h0
   ·have := Int.mul_nonneg h0 (show 0 ≤ x.d by omega)
    omega
 rw [decide_eq_false (show ¬ d < 0 by omega)]
 simp only [hs, Bool.bne_false]
 by_cases h0 : x.n < 0
 ·rw [decide_eq_true h0]
  simp only [if_true]
  rw [show -((x.n.natAbs : Nat) : Int) = x.n by omega, show ((x.d.natAbs : Nat) : Int) = x.d by omega]
 ·rw [decide_eq_false h0]
  simp only [Bool.false_eq_true, if_false]
  rw [show ((x.n.natAbs : Nat) : Int) = x.n by omega, show ((x.d.natAbs : Nat) : Int) = x.d by omega]
theorem Qcv {x : Rt} {N D : Int} (hx : 1 ≤ x.d) (hD : 1 ≤ D) (h : x.val = (N : Rat) / (D : Rat)) : Xs x N D := by
 have h1 := Xd hx
 have h2 := Xd hD
 unfold Rt.val at h
 have a1 : (x.d : Rat) ≠ 0 := by grind
 have a2 : (D : Rat) ≠ 0 := by grind
 have h3 : (x.n : Rat) * (D : Rat) = (N : Rat) * (x.d : Rat) := by grind
 unfold Xs
 exact_mod_cast h3
theorem Ey {a b x : Rt} (ha : a.ok = true) (hb : b.ok = true) (hx : x.ok = true) (h : x.val = a.val + b.val) : Q4 a b = (x, 0) := by
 have hd := (Xu ha hb).2.2.1
 unfold Q4
 rw [ha, hb]
 refine Qfl hd hx (Qcv (Zo hx).1 hd ?_)
 have h1 := Xd (Zo ha).1
 have h2 := Xd (Zo hb).1
 have a1 : (a.d : Rat) ≠ 0 := by grind
 have a2 : (b.d : Rat) ≠ 0 := by grind
 rw [h, Rat.intCast_add, Rat.intCast_mul, Rat.intCast_mul, Rat.intCast_mul]
 unfold Rt.val
 grind
theorem D6 {r : Rt} (h : r.ok = true) : 0 ≤ r.n ↔ (0 : Rat) ≤ r.val := by
 have h1 := Xd (Zo h).1
 have e : r.val < 0 ↔ r.n < 0 := by
  unfold Rt.val
  rw [Rat.div_lt_iff h1, Rat.zero_mul]
  constructor
  ·intro h; exact_mod_cast h
  ·intro h; exact_mod_cast h
 rw [← Rat.not_lt, e]
 omega
theorem Kc : (Zy 0).ok = true := Ef (by decide) (by decide)
theorem Xz : (Zy 0).val = 0 := by rw [Qfm]; rfl
/-- No interest is borne by nothing, or in no days. -/
theorem Qcs {p r : Rt} {k : Int} (hp : p.nn = true) (hr : r.nn = true) (h1 : 0 ≤ k) (h2 : k ≤ 1099511627776) (h : p.n = 0 ∨ k = 0) : Z5 p r k = (Zy 0, 0) := by
 obtain ⟨p1, p2⟩ := J4 hp
 obtain ⟨r1, r2⟩ := J4 hr
 have pd := (Zo p1).1
 have rd := (Zo r1).1
 unfold Z5 Xt
 rw [hp, hr]
 simp only [Bool.and_self, if_true]
 rw [if_neg (by omega)]
 have hz : upTo (fun i => (Y6 p r k i).n.natAbs) 4 = 0 := by
  refine (Th 4).2 ?_
  rcases h with h | h
  ·exact ⟨0, by decide, by show p.n.natAbs = 0; omega⟩
  ·exact ⟨2, by decide, by show k.natAbs = 0; omega⟩
 have hq : 1 ≤ upTo (fun i => (Y6 p r k i).d.natAbs) 4 := by
  refine V9 4 fun i hi => ?_
  have h3 : i = 0 ∨ i = 1 ∨ i = 2 ∨ i = 3 := by omega
  rcases h3 with rfl | rfl | rfl | rfl
  ·show 1 ≤ p.d.natAbs; omega
  ·show 1 ≤ r.d.natAbs; omega
  ·exact Nat.le_refl _
  ·show 1 ≤ (360 : Int).natAbs; decide
 rw [hz]
 exact Og hq
theorem Qcq {p r : Rt} {k : Int} (h : (Z5 p r k).2 = 0) : (Z5 p r k).1.nn = true := by
 obtain ⟨h1, h2, h3, _, h5, h6⟩ := Qcr h
 have hD := intV_d (J4 h1).1 (J4 h2).1
 have hn : 0 ≤ p.n * r.n * k := Int.mul_nonneg (Int.mul_nonneg (J4 h1).2 (J4 h2).2) h3
 unfold Rt.nn
 rw [h5]
 simp only [Bool.true_and, decide_eq_true_eq]
 unfold Xs at h6
 rcases Int.lt_or_le (Z5 p r k).1.n 0 with h0 | h0
 ·have := Int.mul_neg_of_neg_of_pos h0 hD
  have := Int.mul_nonneg hn (show 0 ≤ (Z5 p r k).1.d by have := (Zo h5).1; omega)
  omega
 ·exact h0
theorem V0 {r : Rt} (h : r.ok = true) (h2 : (0 : Rat) ≤ r.val) : r.nn = true := by
 unfold Rt.nn; rw [h]; simpa using (D6 h).2 h2
theorem Kt {r : Rt} (h : r.nn = true) : (0 : Rat) ≤ r.val := (D6 (J4 h).1).1 (J4 h).2
theorem Ho {a b : Rt} (h : (Q4 a b).2 = 0) (ha : a.nn = true) (hb : b.nn = true) : (Q4 a b).1.nn = true := by
 have h1 := Kt ha
 have h2 := Kt hb
 exact V0 (Hq h).2.2.1 (by rw [Hu h]; grind)
structure Db.Nn (x : Db) : Prop where
 p : x.p.nn = true
 i : x.i.nn = true
 s : x.s.nn = true
/-- What a payment does. -/
theorem Cd {x n : Rt} (hx : x.nn = true) (hn : n.nn = true) (h : (Qz x n).2 = 0) :
  (Qz x n).1.1.nn = true ∧ (Qz x n).1.2.nn = true ∧ (Qz x n).1.1.val - (Qz x n).1.2.val = x.val - n.val ∧ ((Qz x n).1.1 = Zy 0 ∨ (Qz x n).1.2 = Zy 0) ∧ (n = Zy 0 → (Qz x n).1.1 = x) := by
 have x1 := (J4 hx).1
 have n1 := (J4 hn).1
 have gx := Kt hx
 have gn := Kt hn
 have hc := cmp_lt n1 x1
 unfold Qz at h ⊢
 by_cases hl : (Xb n x).1 < 0
 ·rw [if_pos hl] at h ⊢
  simp only at h ⊢
  have hv := Oy h
  have hlt := hc.1 hl
  refine ⟨V0 (K4 h).2.2.1 (by rw [hv]; grind), V0 Kc (by rw [Xz]; exact Rat.le_refl), by rw [hv, Xz]; grind, .inr trivial, fun e => ?_⟩
  refine Ml (K4 h).2.2.1 x1 ?_
  rw [hv, e, Xz]; grind
 ·rw [if_neg hl] at h ⊢
  simp only at h ⊢
  have hv := Oy h
  have hle : x.val ≤ n.val := Rat.not_lt.1 (fun hh => hl (hc.2 hh))
  refine ⟨V0 Kc (by rw [Xz]; exact Rat.le_refl), V0 (K4 h).2.2.1 (by rw [hv]; grind), by rw [hv, Xz]; grind, .inl trivial, fun e => ?_⟩
  refine (Ml x1 Kc ?_).symm
  rw [e, Xz] at hle
  rw [Xz]
  grind
theorem Tq {c : Qf} {r : Rt} {x : Db} {a b : Dt} (h : (Zh c r x a b).2 = 0) (hx : x.Nn) : (Zh c r x a b).1.Nn ∧ (Zh c r x a b).1.p = x.p ∧ (Zh c r x a b).1.s = x.s := by
 unfold Zh at *
 by_cases h1 : (Z5 x.p r (c.schV a b)).2 ≠ 0
 ·rw [if_pos h1] at h; exact absurd h h1
 ·rw [if_neg h1] at h ⊢
  by_cases h2 : (Q4 x.i (Z5 x.p r (c.schV a b)).1).2 ≠ 0
  ·rw [if_pos h2] at h; exact absurd h h2
  ·rw [if_neg h2] at h ⊢
   exact ⟨⟨hx.p, Ho (Decidable.not_not.1 h2) hx.i (Qcq (Decidable.not_not.1 h1)), hx.s⟩, rfl, rfl⟩
theorem Bz {x : Db} {n : Rt} (h : (Yb x n).2 = 0) (hx : x.Nn) (hn : n.nn = true) :
  (Yb x n).1.Nn ∧ (x.p.val + x.i.val - x.s.val) - ((Yb x n).1.p.val + (Yb x n).1.i.val - (Yb x n).1.s.val) = n.val ∧
   ((Yb x n).1.i ≠ Zy 0 → (Yb x n).1.p = x.p) ∧ ((Yb x n).1.s ≠ x.s → (Yb x n).1.p = Zy 0 ∧ (Yb x n).1.i = Zy 0) := by
 unfold Yb at *
 by_cases h1 : (Qz x.i n).2 ≠ 0
 ·rw [if_pos h1] at h; exact absurd h h1
 ·rw [if_neg h1] at h ⊢
  by_cases h2 : (Qz x.p (Qz x.i n).1.2).2 ≠ 0
  ·rw [if_pos h2] at h; exact absurd h h2
  ·rw [if_neg h2] at h ⊢
   by_cases h3 : (Q4 x.s (Qz x.p (Qz x.i n).1.2).1.2).2 ≠ 0
   ·rw [if_pos h3] at h; exact absurd h h3
   ·rw [if_neg h3] at h ⊢
    replace h1 := Decidable.not_not.1 h1
    replace h2 := Decidable.not_not.1 h2
    replace h3 := Decidable.not_not.1 h3
    obtain ⟨a1, a2, a3, a4, a5⟩ := Cd hx.i hn h1
    generalize (Qz x.i n).1.1 = i' at *
    generalize (Qz x.i n).1.2 = m1 at *
    obtain ⟨b1, b2, b3, b4, b5⟩ := Cd hx.p a2 h2
    generalize (Qz x.p m1).1.1 = p' at *
    generalize (Qz x.p m1).1.2 = m2 at *
    have s1 := Ho h3 hx.s b2
    have s2 := Hu h3
    refine ⟨⟨b1, a1, s1⟩, ?_, fun hi => ?_, fun hs => ?_⟩
    ·simp only; rw [s2]; grind
    ·simp only at hi ⊢
     rcases a4 with e | e
     ·exact absurd e hi
     ·exact b5 e
    ·simp only at hs ⊢
     have hm2 : m2 ≠ Zy 0 := fun e => hs (Ml (Hq h3).2.2.1 (J4 hx.s).1 (by rw [s2, e, Xz]; grind))
     have hp : p' = Zy 0 := by
      rcases b4 with e | e
      ·exact e
      ·exact absurd e hm2
     refine ⟨hp, ?_⟩
     rcases a4 with e | e
     ·exact e
     ·exfalso
      have gp := Kt hx.p
      have g2 := Kt b2
      rw [hp, e, Xz] at b3
      refine hm2 (Ml (J4 b2).1 Kc ?_)
      rw [Xz]
      grind
/-! ### The payments, one after the other -/
def Zz (c : Qf) (l : Ln) (f : Nat → Z8) : Nat → Db × Int
 | 0 => (start l, 0)
 | k + 1 => if (Zz c l f k).2 ≠ 0 then Zz c l f k
  else if (Zh c l.r (Zz c l f k).1 (Jf l f k) (f k).on).2 ≠ 0 then Zh c l.r (Zz c l f k).1 (Jf l f k) (f k).on
  else Yb (Zh c l.r (Zz c l f k).1 (Jf l f k) (f k).on).1 (f k).n
theorem Qfu (c : Qf) (l : Ln) (f : Nat → Z8) (on : Dt) (n : Nat) (h : ∀ j, j < n → c.numV (f j).on ≤ c.numV on) :
  ∀ m k, k + m = n → (Zz c l f k).2 = 0 → Xl c l.r f on k m (Zz c l f k).1 (Jf l f k) = if (Zz c l f n).2 ≠ 0 then Zz c l f n else Zh c l.r (Zz c l f n).1 (Jf l f n) on := by
 have hstay : ∀ m k, (Zz c l f k).2 ≠ 0 → Zz c l f (k + m) = Zz c l f k := by
  intro m
  induction m with
  | zero => intro k _; rfl
  | succ m ih =>
   intro k hk
   rw [← Nat.add_assoc, Zz, if_pos (by rw [ih k hk]; exact hk), ih k hk]
 intro m
 induction m with
 | zero =>
  intro k hk h0
  obtain rfl : k = n := by omega
  rw [if_neg (by rw [h0]; decide)]; rfl
 | succ m ih =>
  intro k hk h0
  have hd := h k (by omega)
  rw [Xl, if_neg (by omega)]
  have hs : Zz c l f (k + 1) = if (Zh c l.r (Zz c l f k).1 (Jf l f k) (f k).on).2 ≠ 0 then Zh c l.r (Zz c l f k).1 (Jf l f k) (f k).on
    else Yb (Zh c l.r (Zz c l f k).1 (Jf l f k) (f k).on).1 (f k).n := by rw [Zz, if_neg (by rw [h0]; decide)]
  by_cases h1 : (Zh c l.r (Zz c l f k).1 (Jf l f k) (f k).on).2 ≠ 0
  ·rw [if_pos h1] at hs ⊢
   have e := hstay m (k + 1) (by rw [hs]; exact h1)
   rw [show k + 1 + m = n by omega] at e
   rw [e, hs, if_pos h1]
  ·rw [if_neg h1] at hs ⊢
   rw [← hs]
   by_cases h2 : (Zz c l f (k + 1)).2 ≠ 0
   ·rw [if_pos h2]
    have e := hstay m (k + 1) h2
    rw [show k + 1 + m = n by omega] at e
    rw [e, if_pos h2]
   ·rw [if_neg h2]
    exact ih (k + 1) (by omega) (Decidable.not_not.1 h2)
theorem Qft {c : Qf} {l : Ln} {f : Nat → Z8} {on : Dt} {n : Nat} (h : ∀ j, j < n → c.numV (f j).on ≤ c.numV on) :
  Xl c l.r f on 0 n (start l) l.f = if (Zz c l f n).2 ≠ 0 then Zz c l f n else Zh c l.r (Zz c l f n).1 (Jf l f n) on :=
 Qfu c l f on n h n 0 (by omega) rfl
theorem Fi {c : Qf} {l : Ln} {f : Nat → Z8} {n : Nat} (h : c.loanOk l f n = true) : l.p.pos = true ∧ l.r.shr = true ∧ c.numV l.f ≠ 0 ∧ ∀ i, i < n → (f i).n.pos = true ∧ c.numV (Jf l f i) ≤ c.numV (f i).on := by
 simp only [Qf.loanOk, Bool.and_eq_true, decide_eq_true_eq, List.all_eq_true, List.mem_range] at h
 exact ⟨h.1.1.1, h.1.1.2, h.1.2, fun i hi => h.2 i hi⟩
theorem Ri {r : Rt} (h : r.pos = true) : r.nn = true := by
 simp only [Rt.pos, Rt.nn, Bool.and_eq_true, decide_eq_true_eq] at *
 exact ⟨h.1, by omega⟩
theorem shr_nn {r : Rt} (h : r.shr = true) : r.nn = true := by
 simp only [Rt.shr, Rt.nn, Bool.and_eq_true, decide_eq_true_eq] at *
 exact ⟨h.1.1, h.1.2⟩
theorem Qep {c : Qf} {d : Dt} (hv : c.valid = true) : 0 ≤ c.numV d := by
 by_cases h : c.numV d = 0
 ·omega
 ·have := (Kv hv h).2.2; omega
theorem Qc8 {c : Qf} {l : Ln} {f : Nat → Z8} {n : Nat} (hv : c.valid = true) (h : c.loanOk l f n = true) : ∀ i, i ≤ n → (1 ≤ c.numV (Jf l f i) ∧ c.numV l.f ≤ c.numV (Jf l f i) ∧ ∀ j, j < i → c.numV (f j).on ≤ c.numV (Jf l f i)) := by
 obtain ⟨_, _, h3, h4⟩ := Fi h
 intro i
 induction i with
 | zero => intro _; exact ⟨(Kv hv h3).2.2, Int.le_refl _, fun j hj => absurd hj (by omega)⟩
 | succ i ih =>
  intro hi
  obtain ⟨k1, k2, k3⟩ := ih (by omega)
  have h5 := (h4 i (by omega)).2
  show 1 ≤ c.numV (f i).on ∧ c.numV l.f ≤ c.numV (f i).on ∧ _
  refine ⟨by omega, by omega, fun j hj => ?_⟩
  show c.numV (f j).on ≤ c.numV (f i).on
  by_cases e : j = i
  ·rw [e]; exact Int.le_refl _
  ·have := k3 j (by omega); omega
theorem Ez {c : Qf} {l : Ln} {f : Nat → Z8} {n : Nat} (h : c.loanOk l f n = true) : ∀ i, i ≤ n → (Zz c l f i).2 = 0 → (Zz c l f i).1.Nn := by
 obtain ⟨h1, _, _, h4⟩ := Fi h
 have hz := V0 Kc (by rw [Xz]; exact Rat.le_refl)
 intro i
 induction i with
 | zero => intro _ _; exact ⟨Ri h1, hz, hz⟩
 | succ i ih =>
  intro hi h0
  rw [Zz] at h0 ⊢
  by_cases a0 : (Zz c l f i).2 ≠ 0
  ·rw [if_pos a0] at h0; exact absurd h0 a0
  ·rw [if_neg a0] at h0 ⊢
   have k := ih (by omega) (Decidable.not_not.1 a0)
   by_cases a1 : (Zh c l.r (Zz c l f i).1 (Jf l f i) (f i).on).2 ≠ 0
   ·rw [if_pos a1] at h0; exact absurd h0 a1
   ·rw [if_neg a1] at h0 ⊢
    exact (Bz h0 (Tq (Decidable.not_not.1 a1) k).1 (Ri (h4 i (by omega)).1)).1
theorem Et {c : Qf} {r : Rt} {x : Db} {a b : Dt} (hx : x.Nn) (hr : r.nn = true) (h1 : 0 ≤ c.schV a b) (h2 : c.schV a b ≤ 1099511627776) (h : x.p.n = 0 ∨ c.schV a b = 0) : Zh c r x a b = (x, 0) := by
 unfold Zh
 rw [Qcs hx.p hr h1 h2 h, if_neg (by decide), Ey (x := x.i) (J4 hx.i).1 Kc (J4 hx.i).1 (by rw [Xz]; grind), if_neg (by simp)]
/-! ### What the laws say -/
theorem Bp {c : Qf} {l : Ln} {f : Nat → Z8} {n : Nat} {on : Dt} (hd : ∀ j, j < n → c.numV (f j).on ≤ c.numV on) (h : (c.owedV l f n on).2 = 0) :
  (Zz c l f n).2 = 0 ∧ (Zh c l.r (Zz c l f n).1 (Jf l f n) on).2 = 0 ∧ (c.owedV l f n on).1 = (Zh c l.r (Zz c l f n).1 (Jf l f n) on).1 ∧ c.loanE l f n = 0 ∧ c.numV on ≠ 0 ∧ c.numV l.f ≤ c.numV on := by
 unfold Qf.owedV at *
 by_cases h1 : c.loanE l f n ≠ 0
 ·rw [if_pos h1] at h; exact absurd h h1
 ·rw [if_neg h1] at h ⊢
  by_cases h2 : c.numV on = 0
  ·rw [if_pos h2] at h; exact absurd h (by decide)
  ·rw [if_neg h2] at h ⊢
   by_cases h3 : c.numV on < c.numV l.f
   ·rw [if_pos h3] at h; exact absurd h (by decide)
   ·rw [if_neg h3] at h ⊢
    rw [Qft hd] at h ⊢
    by_cases h4 : (Zz c l f n).2 ≠ 0
    ·rw [if_pos h4, if_pos h4] at h; exact absurd h h4
    ·rw [if_neg h4] at h ⊢
     by_cases h5 : (Zh c l.r (Zz c l f n).1 (Jf l f n) on).2 ≠ 0
     ·rw [if_pos h5] at h; exact absurd h h5
     ·rw [if_neg h5]
      exact ⟨Decidable.not_not.1 h4, Decidable.not_not.1 h5, rfl, Decidable.not_not.1 h1, h2, by omega⟩
theorem Qc7 {c : Qf} {l : Ln} {f : Nat → Z8} {n : Nat} (h : c.loanE l f n = 0) : c.valid = true ∧ n ≤ 64 ∧ c.loanOk l f n = true := by
 unfold Qf.loanE at h
 cases hv : c.valid
 ·rw [hv, if_neg (by decide)] at h; exact absurd h (by decide)
 ·rw [hv, if_pos rfl] at h
  by_cases hn : 64 < n
  ·rw [if_pos hn] at h; exact absurd h (by decide)
  ·rw [if_neg hn] at h
   cases hl : c.loanOk l f n
   ·rw [hl] at h; exact absurd h (by decide)
   ·exact ⟨rfl, by omega, rfl⟩
/-- Principal plus interest minus surplus. -/
def Ue (x : Db) : Rt × Bool := if (Q4 x.p x.i).2 ≠ 0 then (Zd, false) else ((Zs (Q4 x.p x.i).1 x.s).1, decide ((Zs (Q4 x.p x.i).1 x.s).2 = 0))
theorem Al {x : Db} (h : (Ue x).2 = true) : (Ue x).1.val = x.p.val + x.i.val - x.s.val ∧ (Ue x).1.ok = true := by
 unfold Ue at *
 by_cases h1 : (Q4 x.p x.i).2 ≠ 0
 ·rw [if_pos h1] at h; exact absurd h (by decide)
 ·rw [if_neg h1] at h ⊢
  have h2 := of_decide_eq_true h
  exact ⟨by rw [Oy h2, Hu (Decidable.not_not.1 h1)], (K4 h2).2.2.1⟩
theorem kept {c : Qf} {l : Ln} {f : Nat → Z8} {n i : Nat} (hE : c.loanE l f n = 0) (hi : i < n) (h1 : (c.owedV l f i (f i).on).2 = 0) (h2 : (c.owedV l f (i + 1) (f i).on).2 = 0) :
  (c.owedV l f i (f i).on).1.Nn ∧ (c.owedV l f (i + 1) (f i).on).1.Nn ∧
  ((Ue (c.owedV l f i (f i).on).1).2 = true → (Ue (c.owedV l f (i + 1) (f i).on).1).2 = true → (Zs (Ue (c.owedV l f i (f i).on).1).1 (Ue (c.owedV l f (i + 1) (f i).on).1).1).2 = 0 → (Zs (Ue (c.owedV l f i (f i).on).1).1 (Ue (c.owedV l f (i + 1) (f i).on).1).1).1 = (f i).n) ∧
  (0 < (c.owedV l f (i + 1) (f i).on).1.i.n → (c.owedV l f (i + 1) (f i).on).1.p = (c.owedV l f i (f i).on).1.p) ∧
  ((c.owedV l f (i + 1) (f i).on).1.s ≠ (c.owedV l f i (f i).on).1.s → ¬ 0 < (c.owedV l f (i + 1) (f i).on).1.p.n ∧ ¬ 0 < (c.owedV l f (i + 1) (f i).on).1.i.n) := by
 obtain ⟨hv, _, hl⟩ := Qc7 hE
 have hs := Qc8 hv hl
 obtain ⟨_, hr, _, h4⟩ := Fi hl
 have ho : c.numV (f i).on ≠ 0 := by have := (hs (i + 1) (by omega)).1; show c.numV (Jf l f (i + 1)) ≠ 0; omega
 have hd1 : ∀ j, j < i → c.numV (f j).on ≤ c.numV (f i).on := fun j hj => (hs (i + 1) (by omega)).2.2 j (by omega)
 have hd2 : ∀ j, j < i + 1 → c.numV (f j).on ≤ c.numV (f i).on := fun j hj => (hs (i + 1) (by omega)).2.2 j hj
 obtain ⟨a1, a2, a3, _⟩ := Bp hd1 h1
 obtain ⟨b1, b2, b3, _⟩ := Bp hd2 h2
 have k := Ez hl i (by omega) a1
 have k1 := Tq a2 k
 have hb : Zz c l f (i + 1) = Yb (Zh c l.r (Zz c l f i).1 (Jf l f i) (f i).on).1 (f i).n := by
  rw [Zz, if_neg (by rw [a1]; decide), if_neg (by rw [a2]; decide)]
 rw [a3, b3]
 rw [hb] at b1 b2 ⊢
 have hp := Ri (h4 i hi).1
 obtain ⟨p1, p2, p3, p4⟩ := Bz b1 k1.1 hp
 generalize (Zh c l.r (Zz c l f i).1 (Jf l f i) (f i).on).1 = X at *
 generalize (Yb X (f i).n).1 = Y at *
 have hz := Qfx hv ho
 have hst : Zh c l.r Y (Jf l f (i + 1)) (f i).on = (Y, 0) := Et p1 (shr_nn hr) (by show 0 ≤ c.schV (f i).on (f i).on; omega) (by show c.schV (f i).on (f i).on ≤ _; omega) (.inr hz)
 rw [hst]
 simp only
 refine ⟨k1.1, p1, fun t1 t2 t3 => ?_, fun hi0 => p3 (fun e => by rw [e] at hi0; exact absurd hi0 (by decide)), fun hs0 => ?_⟩
 ·obtain ⟨v1, _⟩ := Al t1
  obtain ⟨v2, _⟩ := Al t2
  refine Ml (K4 t3).2.2.1 (J4 hp).1 ?_
  rw [Oy t3, v1, v2, p2]
 ·obtain ⟨e1, e2⟩ := p4 hs0
  rw [e1, e2]
  exact ⟨by decide, by decide⟩
end
section
open Go Go.RowKit Go.Shelf
attribute [local go_sem] Zq
section
variable {W : World} {b : Nat} {t : TypeId} {v0 v1 v2 v3 v4 v5 v6 v7 v8 v9 v10 : Value}
theorem Qb.c11 (h : Qb W b t #[v0, v1, v2, v3, v4, v5, v6, v7, v8, v9, v10]) : W.cell? ⟨b, 0, none⟩ = some v0 ∧ W.cell? ⟨b, 1, none⟩ = some v1 ∧ W.cell? ⟨b, 2, none⟩ = some v2 ∧ W.cell? ⟨b, 3, none⟩ = some v3 ∧ W.cell? ⟨b, 4, none⟩ = some v4 ∧ W.cell? ⟨b, 5, none⟩ = some v5 ∧ W.cell? ⟨b, 6, none⟩ = some v6 ∧ W.cell? ⟨b, 7, none⟩ = some v7 ∧ W.cell? ⟨b, 8, none⟩ = some v8 ∧ W.cell? ⟨b, 9, none⟩ = some v9 ∧ W.cell? ⟨b, 10, none⟩ = some v10 := ⟨h.cell 0, h.cell 1, h.cell 2, h.cell 3, h.cell 4, h.cell 5, h.cell 6, h.cell 7, h.cell 8, h.cell 9, h.cell 10⟩
end
def Zj (f : Nat → Cw) (i : Nat) : List Value := [.int .i64 (f i).w, .int .i64 (f i).s.n, .int .i64 (f i).s.d, .int .i64 (f i).f.y, .int .i64 (f i).f.m, .bool (f i).f.s, .int .i64 (f i).f.d, .int .i64 (f i).t.y, .int .i64 (f i).t.m, .bool (f i).t.s, .int .i64 (f i).t.d]
theorem C6 (c : Qf) (a b : Dt) : -1000000 ≤ c.schV a b ∧ c.schV a b ≤ 1000000 := by
 by_cases h : c.in2E a b = 0
 ·have hv : c.valid = true := by
   rcases U6 c a b with ⟨_, hE⟩ | ⟨hv, _, _⟩ | ⟨hv, _, _⟩
   ·rw [hE] at h; exact absurd h (by decide)
   ·exact hv
   ·exact hv
  have hh : (c.has a && c.has b) = true := by
   rcases U6 c a b with ⟨_, hE⟩ | ⟨_, _, hE⟩ | ⟨_, hh, _⟩
   ·rw [hE] at h; exact absurd h (by decide)
   ·rw [hE] at h; exact absurd h (by decide)
   ·exact hh
  obtain ⟨h1, h2⟩ := Bool.and_eq_true_iff.1 hh
  rw [Mh hv h1 h2]
  have := Vc hv h1
  have := Vc hv h2
  omega
 ·unfold Qf.schV; rw [if_neg h]; exact ⟨by decide, by decide⟩
theorem Qbu {c : Qf} {x : Cw} (hs : x.s.In) (h1 : -9223372036854775808 ≤ x.w) (h2 : x.w ≤ 9223372036854775807) (h3 : -1000000 ≤ c.schV x.f x.t ∧ c.schV x.f x.t ≤ 1000000) : ∀ i, i < 3 → (Wj c x i).In := fun i hi => by
 have h4 : i = 0 ∨ i = 1 ∨ i = 2 := by omega
 rcases h4 with rfl | rfl | rfl
 ·show (Zy x.w).In
  unfold Rt.In Zy; simp only; omega
 ·exact hs
 ·show (Zy (c.schV x.f x.t + 1)).In
  unfold Rt.In Zy; simp only; omega
theorem rows3 {w : World} {b : Nat} {t : TypeId} {c : Qf} {x : Cw} (h : Qb w b t #[.int .i64 x.w, .int .i64 1, .int .i64 x.s.n, .int .i64 x.s.d, .int .i64 (c.schV x.f x.t + 1), .int .i64 1]) : Qo w (some ⟨b, 0, none⟩) 3 2 (Yz (Wj c x)) := V5 (f := Yz (Wj c x)) (n := 3) (fun _ => rfl) h
theorem Qfi (f : Nat → Rt) (n : Nat) : (Yi f n).1.In := by
 unfold Yi
 split
 ·exact Yx
 ·split
  ·rename_i h
   exact Od (V9 n fun i hi => by have := Zo (List.all_eq_true.1 h i (by simpa using hi)); omega)
  ·exact Yx
theorem Iw (A A' : Option Addr) (ca cb : Nat) (c : Qf) (T : Option Addr) (n cap : Nat) (f : Nat → Cw) (p1 p2 i : Nat) (hi : i < n) (hs : (f i).s.In) (hw1 : -9223372036854775808 ≤ (f i).w) (hw2 : (f i).w ≤ 9223372036854775807) (w : World) (hC : Zg w A ca A' cb c) (hB : Qb w p1 113 #[.slice T n cap]) (hK : Qb w p2 130 #[.slice A c.nk ca, .slice A' c.ny cb]) (hT : Qo w T n 11 (Zj f)) (hn : n ≤ 1000000) (hZ : Zu w) :
  Calls Tryz.prog 138 #[.int .i64 (i : Int), .pointer (some ⟨p1, 0, none⟩), .pointer (some ⟨p2, 0, none⟩)] w fun e w' => e = .returned (.tuple #[.agg #[.int .i64 (Yi (Wj c (f i)) 3).1.n, .int .i64 (Yi (Wj c (f i)) 3).1.d], .int .i64 (Yi (Wj c (f i)) 3).2]) ∧ Qa w w' := by
 have hsm := C6 c (f i).f (f i).t
 have NP := fun w b h z => Ci (some ⟨b, 0, none⟩) 3 3 (Wj c (f i)) w h (by decide) (Qbu hs hw1 hw2 hsm) z
 have hw : IntKind.i64.wrap (c.schV (f i).f (f i).t + 1) = c.schV (f i).f (f i).t + 1 := Zr (by omega) (by omega)
 generalize Yi (Wj c (f i)) 3 = R at *
 obtain ⟨⟨Rn, Rd⟩, Re⟩ := R
 obtain ⟨b, off, rfl, _, _⟩ := hT (by omega)
 clear hsm hs hw1 hw2
 go_enter Tryz.func138, Tryz.ntmps138
 go_upto_region 1 with (fail)
 obtain ⟨v, hv⟩ := Qg (w.alloc (.cells #[.int .i64 0, .int .i64 0] 65))
 rw [← hv]
 have E : Qa w v := by rw [hv]; exact (Qa.refl _).alloc _
 have B1 : Qb v w.heap.size 65 #[.int .i64 0, .int .i64 0] := by rw [hv]; exact (Qb.new _ _ _)
 clear hv
 obtain ⟨b1, hb1⟩ := Qg (w.heap.size)
 rw [← hb1] at B1 ⊢
 have hbr : w.heap.size ≤ b1 := by omega
 clear hb1
 have Z0 := hZ.ext E
 have C := hC.ext E
 have HB := hB.ext E
 have HK := hK.ext E
 have RT := hT.ext E
 clear hB hT hZ hC hK
 refine Q1 31 [29, 30] (fun x => Qa v x) Qq rfl ?_
 intro vz hvz
 have HC := hvz
 refine Qr (g := 10) [0, 1, 2, 3, 4, 6, 7, 8, 9, 10, 11, 12, 13, 14, 15, 16, 17, 18, 19, 20, 21] [_, _, _, _, _, _, _, _, _, _, _, _, _, _, _, _, _, _, _, _, _] ⟨rfl, rfl, rfl, rfl, rfl, rfl, rfl, rfl, rfl, rfl, rfl, rfl, rfl, rfl, rfl, rfl, rfl, rfl, rfl, rfl, rfl, trivial⟩ (by kernel_rfl) (by kernel_rfl) HC ?_
 simp only [Qc, Qd, Qe]
 apply Exists.intro
 refine ⟨fun u hu => ?_, ?_⟩
 ·have k0 := (HB.ext hu).c1
  have lk := (HB.ext hu).lt
  obtain ⟨p0, p1'⟩ := (HK.ext hu).c2
  have lp := (HK.ext hu).lt
  obtain ⟨b', off', hTe, hb, hc⟩ := (RT.ext hu) (by omega)
  obtain ⟨rfl, rfl⟩ : b = b' ∧ off = off' := by simpa using hTe
  have c0 : u.cell? ⟨b, off + i * 11, none⟩ = some (.int .i64 (f i).w) := by simpa [Zj] using hc i 0 _ hi rfl
  have c1 : u.cell? ⟨b, off + i * 11 + 1, none⟩ = some (.int .i64 (f i).s.n) := by simpa [Zj] using hc i 1 _ hi rfl
  have c2 : u.cell? ⟨b, off + i * 11 + 2, none⟩ = some (.int .i64 (f i).s.d) := by simpa [Zj] using hc i 2 _ hi rfl
  have c3 : u.cell? ⟨b, off + i * 11 + 3, none⟩ = some (.int .i64 (f i).f.y) := by simpa [Zj] using hc i 3 _ hi rfl
  have c4 : u.cell? ⟨b, off + i * 11 + 4, none⟩ = some (.int .i64 (f i).f.m) := by simpa [Zj] using hc i 4 _ hi rfl
  have c5 : u.cell? ⟨b, off + i * 11 + 5, none⟩ = some (.bool (f i).f.s) := by simpa [Zj] using hc i 5 _ hi rfl
  have c6 : u.cell? ⟨b, off + i * 11 + 6, none⟩ = some (.int .i64 (f i).f.d) := by simpa [Zj] using hc i 6 _ hi rfl
  have c7 : u.cell? ⟨b, off + i * 11 + 7, none⟩ = some (.int .i64 (f i).t.y) := by simpa [Zj] using hc i 7 _ hi rfl
  have c8 : u.cell? ⟨b, off + i * 11 + 8, none⟩ = some (.int .i64 (f i).t.m) := by simpa [Zj] using hc i 8 _ hi rfl
  have c9 : u.cell? ⟨b, off + i * 11 + 9, none⟩ = some (.bool (f i).t.s) := by simpa [Zj] using hc i 9 _ hi rfl
  have c10 : u.cell? ⟨b, off + i * 11 + 10, none⟩ = some (.int .i64 (f i).t.d) := by simpa [Zj] using hc i 10 _ hi rfl
  clear hc
  repeat (first | go_big_quiet_skip | (go_big_quiet_want; go_big_quiet_op; go_big_quiet_on))
  refine wpQuiet_nil ?_
  rfl
 refine Qk 5 rfl (by kernel_rfl) ?_
 simp only [Qc, Qd, Qe]
 go_wp2_with (go_at_call 72; (with_reducible refine Calls.mono (Xm _ _) ?_); rintro e wa ⟨rfl, h4⟩)
 replace HC := HC.trans h4
 clear h4
 refine Qh HC ?_
 refine Qk 22 rfl (by kernel_rfl) ?_
 simp only [Qc, Qd, Qe]
 go_wp2_with (go_at_call 92; (with_reducible refine Calls.mono (Mu A A' ca cb c (f i).f (f i).t _ (C.ext HC)) ?_); rintro e wa ⟨rfl, h4⟩)
 replace HC := HC.trans h4
 clear h4
 refine Qh HC ?_
 refine Qr (g := 7) [23] [_] ⟨rfl, trivial⟩ (by kernel_rfl) (by kernel_rfl) HC ?_
 simp only [Qc, Qd, Qe]
 apply Exists.intro
 refine ⟨fun u hu => ?_, ?_⟩
 ·have k0 := (HB.ext hu).c1
  have lk := (HB.ext hu).lt
  obtain ⟨p0, p1'⟩ := (HK.ext hu).c2
  have lp := (HK.ext hu).lt
  obtain ⟨b', off', hTe, hb, hc⟩ := (RT.ext hu) (by omega)
  obtain ⟨rfl, rfl⟩ : b = b' ∧ off = off' := by simpa using hTe
  have c0 : u.cell? ⟨b, off + i * 11, none⟩ = some (.int .i64 (f i).w) := by simpa [Zj] using hc i 0 _ hi rfl
  have c1 : u.cell? ⟨b, off + i * 11 + 1, none⟩ = some (.int .i64 (f i).s.n) := by simpa [Zj] using hc i 1 _ hi rfl
  have c2 : u.cell? ⟨b, off + i * 11 + 2, none⟩ = some (.int .i64 (f i).s.d) := by simpa [Zj] using hc i 2 _ hi rfl
  have c3 : u.cell? ⟨b, off + i * 11 + 3, none⟩ = some (.int .i64 (f i).f.y) := by simpa [Zj] using hc i 3 _ hi rfl
  have c4 : u.cell? ⟨b, off + i * 11 + 4, none⟩ = some (.int .i64 (f i).f.m) := by simpa [Zj] using hc i 4 _ hi rfl
  have c5 : u.cell? ⟨b, off + i * 11 + 5, none⟩ = some (.bool (f i).f.s) := by simpa [Zj] using hc i 5 _ hi rfl
  have c6 : u.cell? ⟨b, off + i * 11 + 6, none⟩ = some (.int .i64 (f i).f.d) := by simpa [Zj] using hc i 6 _ hi rfl
  have c7 : u.cell? ⟨b, off + i * 11 + 7, none⟩ = some (.int .i64 (f i).t.y) := by simpa [Zj] using hc i 7 _ hi rfl
  have c8 : u.cell? ⟨b, off + i * 11 + 8, none⟩ = some (.int .i64 (f i).t.m) := by simpa [Zj] using hc i 8 _ hi rfl
  have c9 : u.cell? ⟨b, off + i * 11 + 9, none⟩ = some (.bool (f i).t.s) := by simpa [Zj] using hc i 9 _ hi rfl
  have c10 : u.cell? ⟨b, off + i * 11 + 10, none⟩ = some (.int .i64 (f i).t.d) := by simpa [Zj] using hc i 10 _ hi rfl
  clear hc
  repeat (first | go_big_quiet_skip | (go_big_quiet_want; go_big_quiet_op; go_big_quiet_on))
  refine wpQuiet_nil ?_
  rfl
 refine Qk 24 rfl (by kernel_rfl) ?_
 simp only [Qc, Qd, Qe]
 go_wp2_with (go_at_call 72; (with_reducible refine Calls.mono (Xm _ _) ?_); rintro e wa ⟨rfl, h4⟩)
 replace HC := HC.trans h4
 clear h4
 refine Qh HC ?_
 refine Qk 25 rfl (by kernel_rfl) ?_
 simp only [Qc, Qd, Qe]
 go_wp2
 obtain ⟨b6, wb, hbq, hwb, Q6, HC', hx, _⟩ := Qp HC 65 #[.int .i64 (f i).w, .int .i64 1, .int .i64 (f i).s.n, .int .i64 (f i).s.d, .int .i64 (c.schV (f i).f (f i).t + 1), .int .i64 1]
 rw [← hbq, ← hwb]
 clear hbq hwb hx
 replace HC := HC'
 clear HC'
 refine Qh HC ?_
 refine Qk 26 rfl (by kernel_rfl) ?_
 simp only [Qc, Qd, Qe]
 go_wp2_with (go_at_call 71; (with_reducible refine Calls.mono (NP _ _ (rows3 Q6) (Z0.ext HC)) ?_); rintro e wa ⟨rfl, h4⟩)
 replace HC := HC.trans h4
 clear h4 Q6
 refine Qh HC ?_
 refine Qr (g := 2) [27, 28] [_, _] ⟨rfl, rfl, trivial⟩ (by kernel_rfl) (by kernel_rfl) HC ?_
 simp only [Qc, Qd, Qe]
 apply Exists.intro
 refine ⟨fun u hu => ?_, ?_⟩
 ·have k0 := (HB.ext hu).c1
  have lk := (HB.ext hu).lt
  obtain ⟨p0, p1'⟩ := (HK.ext hu).c2
  have lp := (HK.ext hu).lt
  obtain ⟨b', off', hTe, hb, hc⟩ := (RT.ext hu) (by omega)
  obtain ⟨rfl, rfl⟩ : b = b' ∧ off = off' := by simpa using hTe
  have c0 : u.cell? ⟨b, off + i * 11, none⟩ = some (.int .i64 (f i).w) := by simpa [Zj] using hc i 0 _ hi rfl
  have c1 : u.cell? ⟨b, off + i * 11 + 1, none⟩ = some (.int .i64 (f i).s.n) := by simpa [Zj] using hc i 1 _ hi rfl
  have c2 : u.cell? ⟨b, off + i * 11 + 2, none⟩ = some (.int .i64 (f i).s.d) := by simpa [Zj] using hc i 2 _ hi rfl
  have c3 : u.cell? ⟨b, off + i * 11 + 3, none⟩ = some (.int .i64 (f i).f.y) := by simpa [Zj] using hc i 3 _ hi rfl
  have c4 : u.cell? ⟨b, off + i * 11 + 4, none⟩ = some (.int .i64 (f i).f.m) := by simpa [Zj] using hc i 4 _ hi rfl
  have c5 : u.cell? ⟨b, off + i * 11 + 5, none⟩ = some (.bool (f i).f.s) := by simpa [Zj] using hc i 5 _ hi rfl
  have c6 : u.cell? ⟨b, off + i * 11 + 6, none⟩ = some (.int .i64 (f i).f.d) := by simpa [Zj] using hc i 6 _ hi rfl
  have c7 : u.cell? ⟨b, off + i * 11 + 7, none⟩ = some (.int .i64 (f i).t.y) := by simpa [Zj] using hc i 7 _ hi rfl
  have c8 : u.cell? ⟨b, off + i * 11 + 8, none⟩ = some (.int .i64 (f i).t.m) := by simpa [Zj] using hc i 8 _ hi rfl
  have c9 : u.cell? ⟨b, off + i * 11 + 9, none⟩ = some (.bool (f i).t.s) := by simpa [Zj] using hc i 9 _ hi rfl
  have c10 : u.cell? ⟨b, off + i * 11 + 10, none⟩ = some (.int .i64 (f i).t.d) := by simpa [Zj] using hc i 10 _ hi rfl
  clear hc
  repeat (first | go_big_quiet_skip | (go_big_quiet_want; go_big_quiet_op; go_big_quiet_on))
  refine wpQuiet_nil ?_
  rfl
 refine Qm 29 rfl (by kernel_rfl) ?_
 simp only [Qc, Qd, Qe]
 replace B1 := B1.ext HC
 replace E := E.trans HC
 have f0 := B1.frozen 0
 have f1 := B1.frozen 1
 obtain ⟨x0, x1⟩ := B1.c2
 have lx := B1.lt
 have H4 := Qn B1 (.int .i64 Rn) (.int .i64 Rd)
 have EF := (E.setCell (p := ⟨b1, 0, none⟩) hbr (.int .i64 Rn)).setCell (p := ⟨b1, 1, none⟩) hbr (.int .i64 Rd)
 obtain ⟨y0, y1⟩ := H4.c2
 go_wp2
 refine Ql ?_
 refine Qm 30 rfl (by kernel_rfl) ?_
 simp only [Qc, Qd, Qe]
 go_wp2
 refine Ql ?_
 refine Qs (by kernel_rfl) ?_
 go_wp2
 refine bodyPost_ret (v := .tuple #[.agg #[.int .i64 Rn, .int .i64 Rd], .int .i64 Re]) (by simp [results, Tryz.results138, go_sem, y0, y1]) rfl ⟨rfl, EF⟩
theorem Iz (A A' : Option Addr) (ca cb : Nat) (c : Qf) (T : Option Addr) (n cap : Nat) (f : Nat → Cw) (w : World) (hC : Zg w A ca A' cb c) (hin : ∀ i, i < n → (f i).s.In ∧ -9223372036854775808 ≤ (f i).w ∧ (f i).w ≤ 9223372036854775807) (hT : Qo w T n 11 (Zj f)) (hn : n ≤ 9223372036854775807) (hZ : Zu w) :
  Calls Tryz.prog 88 #[.agg #[.slice A c.nk ca, .slice A' c.ny cb], .slice T n cap] w fun e w' => e = .returned (.tuple #[.agg #[.int .i64 (c.availV f n).1.n, .int .i64 (c.availV f n).1.d], .int .i64 (c.availV f n).2]) ∧ Qa w w' := by
 obtain ⟨R, hR0⟩ := Qg (c.availV f n)
 rw [← hR0]
 have HR := Lib.hid hR0
 clear hR0
 go_enter Tryz.func88, Tryz.ntmps88
 go_upto_region 1 with (fail)
 obtain ⟨v, hv⟩ := Qg (((w.alloc (.cells #[.slice A c.nk ca, .slice A' c.ny cb] 130)).alloc (.cells #[.slice T n cap] 113)).alloc (.cells #[.int .i64 0, .int .i64 0] 65))
 rw [← hv]
 have E : Qa w v := by rw [hv]; exact (((Qa.refl _).alloc _).alloc _).alloc _
 have B1 : Qb v w.heap.size 130 #[.slice A c.nk ca, .slice A' c.ny cb] := by rw [hv]; exact ((Qb.new _ _ _).alloc _).alloc _
 have B2 : Qb v (w.heap.size + 1) 113 #[.slice T n cap] := by rw [hv]; exact (Qb.at _ _ _ _ (by simp)).alloc _
 have B3 : Qb v (w.heap.size + 1 + 1) 65 #[.int .i64 0, .int .i64 0] := by rw [hv]; exact Qb.at _ _ _ _ (by simp)
 clear hv
 obtain ⟨b3, hb3⟩ := Qg (w.heap.size + 1 + 1)
 rw [← hb3] at B3 ⊢
 obtain ⟨b2, hb2⟩ := Qg (w.heap.size + 1)
 rw [← hb2] at B2 ⊢
 obtain ⟨b1, hb1⟩ := Qg (w.heap.size)
 rw [← hb1] at B1 ⊢
 have hbr : w.heap.size ≤ b3 := by omega
 have hbr1 : w.heap.size ≤ b1 := by omega
 have hbr2 : w.heap.size ≤ b2 := by omega
 have hn21 : b2 ≠ b1 := by omega
 have hn31 : b3 ≠ b1 := by omega
 have hn32 : b3 ≠ b2 := by omega
 clear hb1 hb2 hb3
 have RT := hT.ext E
 have Z0 := hZ.ext E
 have C := hC.ext E
 clear hT hZ hC
 have s0 := B2.c1
 have ls := B2.lt
 by_cases h64 : 64 < n
 ·have g1 : decide ((64 : Int) < (n : Int)) = true := decide_eq_true (by omega)
  have hr := HR.out
  rw [show c.availV f n = (Zd, 3) by unfold Qf.availV; rw [if_pos h64]] at hr
  subst hr
  clear HR
  clear h64
  have f0 := B3.frozen 0
  have f1 := B3.frozen 1
  obtain ⟨x0, x1⟩ := B3.c2
  have lx := B3.lt
  have H4 := Qn B3 (.int .i64 0) (.int .i64 0)
  have EF := (E.setCell (p := ⟨b3, 0, none⟩) hbr (.int .i64 0)).setCell (p := ⟨b3, 1, none⟩) hbr (.int .i64 0)
  obtain ⟨y0, y1⟩ := H4.c2
  go_wp2
  refine bodyPost_ret (v := .tuple #[.agg #[.int .i64 0, .int .i64 0], .int .i64 3]) (by simp [results, Tryz.results88, go_sem, y0, y1]) rfl ⟨rfl, EF⟩
 ·have g1 : decide ((64 : Int) < (n : Int)) = false := decide_eq_false (by omega)
  go_upto_region 4 with (fail)
  clear s0 ls
  go_loopw [14] (fun i wr => ∃ k : Nat, k ≤ n ∧ i = .int .i64 k ∧ Hid (∀ j, j < k → c.crewOk (f j) = true) ∧ Qa v wr) (fun i _ => n - (intOf i).toNat)
  case atStart => exact ⟨0, Nat.zero_le _, rfl, (fun j h => absurd h (by omega)), Qa.refl _⟩
  case round =>
   obtain ⟨k, hk, rfl, hall, hE⟩ := hrel
   obtain ⟨wo, rfl⟩ := Qg wr
   by_cases hlt : k < n
   ·obtain ⟨b, off, rfl, hb, hc⟩ := (RT.ext hE) (by omega)
    have c0 : wo.cell? ⟨b, off + k * 11, none⟩ = some (.int .i64 (f k).w) := by simpa [Zj] using hc k 0 _ hlt rfl
    have c1 : wo.cell? ⟨b, off + k * 11 + 1, none⟩ = some (.int .i64 (f k).s.n) := by simpa [Zj] using hc k 1 _ hlt rfl
    have c2 : wo.cell? ⟨b, off + k * 11 + 2, none⟩ = some (.int .i64 (f k).s.d) := by simpa [Zj] using hc k 2 _ hlt rfl
    have c3 : wo.cell? ⟨b, off + k * 11 + 3, none⟩ = some (.int .i64 (f k).f.y) := by simpa [Zj] using hc k 3 _ hlt rfl
    have c4 : wo.cell? ⟨b, off + k * 11 + 4, none⟩ = some (.int .i64 (f k).f.m) := by simpa [Zj] using hc k 4 _ hlt rfl
    have c5 : wo.cell? ⟨b, off + k * 11 + 5, none⟩ = some (.bool (f k).f.s) := by simpa [Zj] using hc k 5 _ hlt rfl
    have c6 : wo.cell? ⟨b, off + k * 11 + 6, none⟩ = some (.int .i64 (f k).f.d) := by simpa [Zj] using hc k 6 _ hlt rfl
    have c7 : wo.cell? ⟨b, off + k * 11 + 7, none⟩ = some (.int .i64 (f k).t.y) := by simpa [Zj] using hc k 7 _ hlt rfl
    have c8 : wo.cell? ⟨b, off + k * 11 + 8, none⟩ = some (.int .i64 (f k).t.m) := by simpa [Zj] using hc k 8 _ hlt rfl
    have c9 : wo.cell? ⟨b, off + k * 11 + 9, none⟩ = some (.bool (f k).t.s) := by simpa [Zj] using hc k 9 _ hlt rfl
    have c10 : wo.cell? ⟨b, off + k * 11 + 10, none⟩ = some (.int .i64 (f k).t.d) := by simpa [Zj] using hc k 10 _ hlt rfl
    obtain ⟨is, _⟩ := hin k hlt
    have NS := fun w => Mi (f k).s is w
    have NSP := fun w h => Rx A A' ca cb c (f k).f (f k).t w h
    have hno : Hid (c.crewOk (f k) = false → R = (Zd, 81)) := fun h => by
     rw [HR.out]; unfold Qf.availV
     rw [if_neg h64, if_neg (by rw [Bool.not_eq_true]; exact List.all_eq_false.2 ⟨k, by simpa using hlt, by simp [h]⟩)]
    have hyes : Hid (c.crewOk (f k) = true → ∀ j, j < k + 1 → c.crewOk (f j) = true) := fun h j hj => by
     by_cases e : j = k
     ·subst e; exact h
     ·exact hall.out j (by omega)
    have hck : Hid (c.crewOk (f k) = (decide (0 ≤ (f k).w) && decide ((f k).w ≤ 4096) && (f k).s.shr && (decide (0 < c.numV (f k).f) && decide (c.numV (f k).f ≤ c.numV (f k).t)))) := rfl
    clear hc hin RT hall HR h64
    go_upto_region 6 with (fail)
    obtain ⟨v3, hv⟩ := Qg (wo.alloc (.cells #[.int .i64 (f k).w, .int .i64 (f k).s.n, .int .i64 (f k).s.d, .int .i64 (f k).f.y, .int .i64 (f k).f.m, .bool (f k).f.s, .int .i64 (f k).f.d, .int .i64 (f k).t.y, .int .i64 (f k).t.m, .bool (f k).t.s, .int .i64 (f k).t.d] 112))
    rw [← hv]
    have E3 : Qa wo v3 := by rw [hv]; exact (Qa.refl _).alloc _
    have H3 : Qb v3 wo.heap.size 112 #[.int .i64 (f k).w, .int .i64 (f k).s.n, .int .i64 (f k).s.d, .int .i64 (f k).f.y, .int .i64 (f k).f.m, .bool (f k).f.s, .int .i64 (f k).f.d, .int .i64 (f k).t.y, .int .i64 (f k).t.m, .bool (f k).t.s, .int .i64 (f k).t.d] := by rw [hv]; exact Qb.new _ _ _
    clear hv c0 c1 c2 c3 c4 c5 c6 c7 c8 c9 c10
    replace hE := hE.trans E3
    generalize wo.heap.size = b4 at *
    clear E3
    obtain ⟨q0, q1, q2, q3, q4, q5, q6, q7, q8, q9, q10⟩ := H3.c11
    have lq := H3.lt
    obtain ⟨k0, k1⟩ := (B1.ext hE).c2
    have lk := (B1.ext hE).lt
    generalize (decide (0 < c.numV (f k).f) && decide (c.numV (f k).f ≤ c.numV (f k).t)) = sp at *
    generalize (f k).s.shr = sh at *
    by_cases w0 : (f k).w < 0
    ·have gw : decide ((f k).w < 0) = true := decide_eq_true w0
     have hr := hno.out (by rw [hck.out, decide_eq_false (by omega)]; rfl)
     subst hr
     clear hno hyes hck w0
     replace E := E.trans hE
     replace B3 := B3.ext hE
     have f0 := B3.frozen 0
     have f1 := B3.frozen 1
     obtain ⟨x0, x1⟩ := B3.c2
     have lx := B3.lt
     have H4 := Qn B3 (.int .i64 0) (.int .i64 0)
     have EF := (E.setCell (p := ⟨b3, 0, none⟩) hbr (.int .i64 0)).setCell (p := ⟨b3, 1, none⟩) hbr (.int .i64 0)
     obtain ⟨y0, y1⟩ := H4.c2
     go_wp2
     refine bodyPost_ret (v := .tuple #[.agg #[.int .i64 0, .int .i64 0], .int .i64 81]) (by simp [results, Tryz.results88, go_sem, y0, y1]) rfl ⟨rfl, EF⟩
    ·have gw : decide ((f k).w < 0) = false := decide_eq_false w0
     by_cases w1 : 4096 < (f k).w
     ·have gw1 : decide (4096 < (f k).w) = true := decide_eq_true w1
      have hr := hno.out (by rw [hck.out, decide_eq_false (show ¬ (f k).w ≤ 4096 by omega), Bool.and_false]; rfl)
      subst hr
      clear hno hyes hck w0 w1
      replace E := E.trans hE
      replace B3 := B3.ext hE
      have f0 := B3.frozen 0
      have f1 := B3.frozen 1
      obtain ⟨x0, x1⟩ := B3.c2
      have lx := B3.lt
      have H4 := Qn B3 (.int .i64 0) (.int .i64 0)
      have EF := (E.setCell (p := ⟨b3, 0, none⟩) hbr (.int .i64 0)).setCell (p := ⟨b3, 1, none⟩) hbr (.int .i64 0)
      obtain ⟨y0, y1⟩ := H4.c2
      go_wp2
      refine bodyPost_ret (v := .tuple #[.agg #[.int .i64 0, .int .i64 0], .int .i64 81]) (by simp [results, Tryz.results88, go_sem, y0, y1]) rfl ⟨rfl, EF⟩
     ·have gw1 : decide (4096 < (f k).w) = false := decide_eq_false w1
      cases sh
      ·have hr := hno.out (by rw [hck.out, Bool.and_false]; rfl)
       subst hr
       clear hno hyes hck w0 w1
       go_upto_region 7 with (go_at_call 90; (with_reducible refine Calls.mono (NS _) ?_); rintro e w2 ⟨rfl, h2⟩; clear q0 q1 q2 q3 q4 q5 q6 q7 q8 q9 q10 lq k0 k1 lk; obtain ⟨q0, q1, q2, q3, q4, q5, q6, q7, q8, q9, q10⟩ := (H3.ext h2).c11; have lq := (H3.ext h2).lt; obtain ⟨k0, k1⟩ := ((B1.ext hE).ext h2).c2; have lk := ((B1.ext hE).ext h2).lt)
       replace E := (E.trans hE).trans h2
       replace B3 := (B3.ext hE).ext h2
       have f0 := B3.frozen 0
       have f1 := B3.frozen 1
       obtain ⟨x0, x1⟩ := B3.c2
       have lx := B3.lt
       have H4 := Qn B3 (.int .i64 0) (.int .i64 0)
       have EF := (E.setCell (p := ⟨b3, 0, none⟩) hbr (.int .i64 0)).setCell (p := ⟨b3, 1, none⟩) hbr (.int .i64 0)
       obtain ⟨y0, y1⟩ := H4.c2
       go_wp2
       refine bodyPost_ret (v := .tuple #[.agg #[.int .i64 0, .int .i64 0], .int .i64 81]) (by simp [results, Tryz.results88, go_sem, y0, y1]) rfl ⟨rfl, EF⟩
      ·cases sp
       ·have hr := hno.out (by rw [hck.out, Bool.and_false])
        subst hr
        clear hno hyes hck w0 w1
        go_upto_region 7 with (first | (go_at_call 90; (with_reducible refine Calls.mono (NS _) ?_); rintro e w2 ⟨rfl, h2⟩; clear q0 q1 q2 q3 q4 q5 q6 q7 q8 q9 q10 lq k0 k1 lk; obtain ⟨q0, q1, q2, q3, q4, q5, q6, q7, q8, q9, q10⟩ := (H3.ext h2).c11; have lq := (H3.ext h2).lt; obtain ⟨k0, k1⟩ := ((B1.ext hE).ext h2).c2; have lk := ((B1.ext hE).ext h2).lt) | (go_at_call 91; (with_reducible refine Calls.mono (NSP _ ((C.ext hE).ext h2)) ?_); rintro e w3 ⟨rfl, h3⟩))
        replace E := ((E.trans hE).trans h2).trans h3
        replace B3 := ((B3.ext hE).ext h2).ext h3
        have f0 := B3.frozen 0
        have f1 := B3.frozen 1
        obtain ⟨x0, x1⟩ := B3.c2
        have lx := B3.lt
        have H4 := Qn B3 (.int .i64 0) (.int .i64 0)
        have EF := (E.setCell (p := ⟨b3, 0, none⟩) hbr (.int .i64 0)).setCell (p := ⟨b3, 1, none⟩) hbr (.int .i64 0)
        obtain ⟨y0, y1⟩ := H4.c2
        go_wp2
        refine bodyPost_ret (v := .tuple #[.agg #[.int .i64 0, .int .i64 0], .int .i64 81]) (by simp [results, Tryz.results88, go_sem, y0, y1]) rfl ⟨rfl, EF⟩
       ·have hx := Lib.hid (hyes.out (by rw [hck.out, decide_eq_true (show 0 ≤ (f k).w by omega), decide_eq_true (show (f k).w ≤ 4096 by omega)]; rfl))
        clear hno hyes hck w0 w1
        go_wp2_with (first | (go_at_call 90; (with_reducible refine Calls.mono (NS _) ?_); rintro e w2 ⟨rfl, h2⟩; clear q0 q1 q2 q3 q4 q5 q6 q7 q8 q9 q10 lq k0 k1 lk; obtain ⟨q0, q1, q2, q3, q4, q5, q6, q7, q8, q9, q10⟩ := (H3.ext h2).c11; have lq := (H3.ext h2).lt; obtain ⟨k0, k1⟩ := ((B1.ext hE).ext h2).c2; have lk := ((B1.ext hE).ext h2).lt) | (go_at_call 91; (with_reducible refine Calls.mono (NSP _ ((C.ext hE).ext h2)) ?_); rintro e w3 ⟨rfl, h3⟩))
        exact ⟨⟨k + 1, by omega, by go_num, hx, (hE.trans h2).trans h3⟩, by simp [intOf]; omega⟩
   ·obtain rfl : k = n := by omega
    have B2e := B2.ext hE
    have B1e := B1.ext hE
    have RTe := RT.ext hE
    have Ze := Z0.ext hE
    have Ce := C.ext hE
    have NT := Qgd (fun i => Yi (Wj c (f i)) 3) k b2 b1 wo (fun i hi u hu => Iw A A' ca cb c T k cap f b2 b1 i hi (hin i hi).1 (hin i hi).2.1 (hin i hi).2.2 u (Ce.ext hu) (B2e.ext hu) (B1e.ext hu) (RTe.ext hu) (by omega) (Ze.ext hu)) (fun i hi => Qfi _ _) (by omega) Ze
    rw [show Wc (fun i => Yi (Wj c (f i)) 3) k = R from by rw [HR.out]; unfold Qf.availV; rw [if_neg h64, if_pos (List.all_eq_true.2 fun j hj => hall.out j (by simpa using hj))]] at NT
    clear HR hall hin h64 RT
    replace E := E.trans hE
    replace B3 := B3.ext hE
    have s0 := B2e.c1
    have ls := B2e.lt
    clear hE
    obtain ⟨⟨Rn, Rd⟩, Re⟩ := R
    go_wp2_with (first | (go_at_call 135; (with_reducible refine Calls.mono (NT) ?_); rintro e wt ⟨rfl, ht⟩; replace E := E.trans ht; replace B3 := B3.ext ht; have f0 := B3.frozen 0; have f1 := B3.frozen 1; obtain ⟨x0, x1⟩ := B3.c2; have lx := B3.lt))
    have H4 := Qn B3 (.int .i64 Rn) (.int .i64 Rd)
    have EF := (E.setCell (p := ⟨b3, 0, none⟩) hbr (.int .i64 Rn)).setCell (p := ⟨b3, 1, none⟩) hbr (.int .i64 Rd)
    obtain ⟨y0, y1⟩ := H4.c2
    go_wp2
    refine bodyPost_ret (v := .tuple #[.agg #[.int .i64 Rn, .int .i64 Rd], .int .i64 Re]) (by simp [results, Tryz.results88, go_sem, y0, y1]) rfl ⟨rfl, EF⟩
theorem R5 (g : Nat → Rt × Int) : ∀ m k s, s.In → (Xw g k m s).1.In
 | 0, _, _, h => h
 | m + 1, k, s, h => by
  rw [Xw]
  split
  ·exact Yx
  ·split
   ·exact Yx
   ·exact R5 g m (k + 1) _ (Vq _ _)
theorem Qef (t : Nat → Tk) (n : Nat) : (Jg t n).1.In := by
 unfold Jg
 split
 ·exact Yx
 ·split
  ·exact R5 _ _ _ _ Uc
  ·exact Yx
theorem Iy (c : Qf) (f : Nat → Cw) (n : Nat) : (c.availV f n).1.In := by
 unfold Qf.availV
 split
 ·exact Yx
 ·split
  ·exact R5 _ _ _ _ Uc
  ·exact Yx
theorem Qbe {a b : Rt} (ha : a.nn = true) (hb : b.pos = true) (h : (J2 a b).2 = 0) : (J2 a b).1.nn = true := by
 obtain ⟨a1, a2⟩ := J4 ha
 obtain ⟨b1, b2⟩ : b.ok = true ∧ 0 < b.n := by simpa [Rt.pos] using hb
 unfold J2 at h ⊢
 rw [a1, b1] at h ⊢
 simp only [Bool.and_self, if_true] at h ⊢
 rw [if_neg (by omega)] at h ⊢
 have hQ : 1 ≤ a.d.natAbs * b.n.natAbs := Nat.mul_pos (by have := Zo a1; omega) (by omega)
 rw [decide_eq_false (show ¬ a.n < 0 by omega), decide_eq_false (show ¬ b.n < 0 by omega)] at h ⊢
 obtain ⟨o1, o2⟩ := Oe hQ h
 unfold Rt.nn
 rw [show (false != false) = false from rfl] at o1 o2 ⊢
 rw [o1, Bool.true_and, decide_eq_true_eq]
 rw [if_neg (by decide)] at o2
 have hd := (Zo o1).1
 rcases Int.lt_or_le (Jk false (a.n.natAbs * b.d.natAbs) (a.d.natAbs * b.n.natAbs)).1.n 0 with h0 | h0
 ·have h3 := Int.mul_neg_of_neg_of_pos h0 (show (0 : Int) < ((a.d.natAbs * b.n.natAbs : Nat) : Int) by omega)
  have h4 := Int.mul_nonneg (show (0 : Int) ≤ ((a.n.natAbs * b.d.natAbs : Nat) : Int) from Int.natCast_nonneg _) (show 0 ≤ (Jk false (a.n.natAbs * b.d.natAbs) (a.d.natAbs * b.n.natAbs)).1.d by omega)
  omega
 ·exact h0
theorem Am (g : Nat → Rt × Int) (n : Nat) (hg : ∀ i, i < n → (g i).2 = 0 → (g i).1.nn = true) : ∀ m k s, k + m = n → s.nn = true → (Xw g k m s).2 = 0 → (Xw g k m s).1.nn = true
 | 0, _, _, _, h, _ => h
 | m + 1, k, s, hk, h, h0 => by
  rw [Xw] at h0 ⊢
  by_cases e1 : (g k).2 ≠ 0
  ·rw [if_pos e1] at h0; exact absurd h0 e1
  ·rw [if_neg e1] at h0 ⊢
   by_cases e2 : (Q4 s (g k).1).2 ≠ 0
   ·rw [if_pos e2] at h0; exact absurd h0 e2
   ·rw [if_neg e2] at h0 ⊢
    exact Am g n hg m (k + 1) _ (by omega) (Ho (Decidable.not_not.1 e2) h (hg k (by omega) (Decidable.not_not.1 e1))) h0
theorem Qbv (t : Nat → Tk) (n : Nat) : (Jg t n).2 = 0 → (Jg t n).1.nn = true := fun h => by
 unfold Jg at h ⊢
 by_cases h64 : 64 < n
 ·rw [if_pos h64] at h; exact absurd h (by decide)
 ·rw [if_neg h64] at h ⊢
  by_cases ha : (List.range n).all (fun i => Ve (t i)) = true
  ·rw [if_pos ha] at h ⊢
   refine Am _ n (fun i hi h0 => ?_) n 0 (Zy 0) (by omega) (V0 Kc (by rw [Xz]; exact Rat.le_refl)) h
   have hok := List.all_eq_true.1 ha i (by simpa using hi)
   unfold Ve at hok
   obtain ⟨o1, o2⟩ := Bool.and_eq_true_iff.1 hok
   exact Qbe o1 o2 h0
  ·rw [if_neg ha] at h; exact absurd h (by decide)
theorem few_bd {c : Qf} {a b : Dt} {s : Rt} {Nn Nd : Int} (hv : c.valid = true) (hsp : (decide (0 < c.numV a) && decide (c.numV a ≤ c.numV b)) = true) (hs : s.shr = true) (h0 : s.n ≠ 0) (hN : (Rt.mk Nn Nd).nn = true) :
  (0 ≤ c.schV a b ∧ c.schV a b ≤ 1000000) ∧ (1 ≤ s.n * (c.schV a b + 1) ∧ s.n * (c.schV a b + 1) ≤ 1048577048576) ∧ 1 ≤ s.n * (c.schV a b + 1) * Nd ∧ s.n * (c.schV a b + 1) * Nd ≤ 1099512727287627776 ∧ 0 ≤ Nn * s.d ∧ Nn * s.d ≤ 1152921504606846976 ∧ True ∧ True := by
 obtain ⟨h1, h2⟩ := Bool.and_eq_true_iff.1 hsp
 have h1 := of_decide_eq_true h1
 have h2 := of_decide_eq_true h2
 have z1 := sch_bd hv (by omega) (by omega) h2
 have z2 := C6 c a b
 obtain ⟨N1, N2⟩ := J4 hN
 obtain ⟨n1, n2, n3, n4, _⟩ := Zo N1
 simp only at N2 n1 n2 n3 n4
 simp only [Rt.shr, Bool.and_eq_true, decide_eq_true_eq] at hs
 obtain ⟨s1, s2, s3, s4, _⟩ := Zo hs.1.1
 generalize c.schV a b = z at *
 have m1 := Ks (a := s.n) (b := z + 1) (A := 1048576) (B := 1000001) (by omega) (by omega) (by omega) (by omega)
 have m2 := Int.mul_pos (show 0 < s.n by omega) (show 0 < z + 1 by omega)
 have m3 := Ks (a := s.n * (z + 1)) (b := Nd) (A := 1048577048576) (B := 1048576) (by omega) (by omega) (by omega) (by omega)
 have m4 := Int.mul_pos m2 (show 0 < Nd by omega)
 have m5 := Ks (a := Nn) (b := s.d) (A := 1099511627776) (B := 1048576) (by omega) (by omega) (by omega) (by omega)
 have m6 := Int.mul_nonneg N2 (show 0 ≤ s.d by omega)
 exact ⟨⟨z1.1, z2.2⟩, ⟨by omega, m1.2⟩, by omega, m3.2, m6, m5.2, trivial, trivial⟩
theorem I3 (A A' : Option Addr) (ca cb : Nat) (c : Qf) (T : Option Addr) (nt capt : Nat) (t : Nat → Tk) (S : Option Addr) (n cap : Nat) (f : Nat → Cw) (w : World) (hC : Zg w A ca A' cb c) (hint : ∀ i, i < nt → (t i).a.In ∧ (t i).r.In) (hT : Qo w T nt 4 (Yl t)) (hnt : nt ≤ 9223372036854775807) (hin : ∀ i, i < n → (f i).s.In ∧ -9223372036854775808 ≤ (f i).w ∧ (f i).w ≤ 9223372036854775807) (hS : Qo w S n 11 (Zj f)) (hn : n ≤ 9223372036854775807) (hZ : Zu w) :
  Calls Tryz.prog 40 #[.agg #[.slice A c.nk ca, .slice A' c.ny cb], .slice T nt capt, .slice S n cap] w fun e w' => e = .returned (.tuple #[.agg #[.int .i64 (c.balV t nt f n).1.n, .int .i64 (c.balV t nt f n).1.d], .int .i64 (c.balV t nt f n).2]) ∧ Qa w w' := by
 have NO := fun w h => L9 A A' ca cb c w h
 have NN := fun w h z => D4 T nt capt t w hint h hnt z
 have NA := fun w h1 h2 z => Iz A A' ca cb c S n cap f w h1 hin h2 hn z
 obtain ⟨R, hR0⟩ := Qg (c.balV t nt f n)
 rw [← hR0]
 have HR := Lib.hid hR0
 clear hR0
 go_enter Tryz.func40, Tryz.ntmps40
 go_upto_region 1 with (fail)
 obtain ⟨v, hv⟩ := Qg ((w.alloc (.cells #[.slice A c.nk ca, .slice A' c.ny cb] 25)).alloc (.cells #[.int .i64 0, .int .i64 0] 65))
 rw [← hv]
 have E : Qa w v := by rw [hv]; exact ((Qa.refl _).alloc _).alloc _
 have B1 : Qb v w.heap.size 25 #[.slice A c.nk ca, .slice A' c.ny cb] := by rw [hv]; exact (Qb.new _ _ _).alloc _
 have B2 : Qb v (w.heap.size + 1) 65 #[.int .i64 0, .int .i64 0] := by rw [hv]; exact Qb.at _ _ _ _ (by simp)
 clear hv
 obtain ⟨b2, hb2⟩ := Qg (w.heap.size + 1)
 rw [← hb2] at B2 ⊢
 obtain ⟨b1, hb1⟩ := Qg (w.heap.size)
 rw [← hb1] at B1 ⊢
 have hbr : w.heap.size ≤ b2 := by omega
 have hbr1 : w.heap.size ≤ b1 := by omega
 have hn21 : b2 ≠ b1 := by omega
 clear hb1 hb2
 have RT := hT.ext E
 have RS := hS.ext E
 have Z0 := hZ.ext E
 have C := hC.ext E
 clear hT hS hZ
 obtain ⟨k0, k1⟩ := B1.c2
 have lk := B1.lt
 cases hv : c.valid
 ·have hr : R = (Zd, 70) := by rw [HR.out]; unfold Qf.balV; rw [hv]; rfl
  have hc : c.chk = 70 := by unfold Qf.chk; rw [hv]; rfl
  simp only [hc] at NO
  subst hr
  clear HR hc hv NN NA
  go_upto_region 2 with (go_at_call 64; (with_reducible refine Calls.mono (NO _ (hC.ext E)) ?_); rintro e w1 ⟨rfl, h1⟩)
  obtain ⟨v3, hv⟩ := Qg (w1.alloc (.cells #[.slice A c.nk ca, .slice A' c.ny cb] 130))
  rw [← hv]
  have h3 : Qa w1 v3 := by rw [hv]; exact (Qa.refl _).alloc _
  have H3 : Qb v3 w1.heap.size 130 #[.slice A c.nk ca, .slice A' c.ny cb] := by rw [hv]; exact Qb.new _ _ _
  clear hv
  generalize w1.heap.size = b3 at *
  replace E := (E.trans h1).trans h3
  replace B2 := (B2.ext h1).ext h3
  have f0 := B2.frozen 0
  have f1 := B2.frozen 1
  obtain ⟨x0, x1⟩ := B2.c2
  have lx := B2.lt
  have H4 := Qn B2 (.int .i64 0) (.int .i64 0)
  have EF := (E.setCell (p := ⟨b2, 0, none⟩) hbr (.int .i64 0)).setCell (p := ⟨b2, 1, none⟩) hbr (.int .i64 0)
  obtain ⟨y0, y1⟩ := H4.c2
  go_wp2
  refine bodyPost_ret (v := .tuple #[.agg #[.int .i64 0, .int .i64 0], .int .i64 70]) (by simp [results, Tryz.results40, go_sem, y0, y1]) rfl ⟨rfl, EF⟩
 ·have hc : c.chk = 0 := by unfold Qf.chk; rw [hv]; rfl
  simp only [hc] at NO
  have HR2 : Hid (R = if (Jg t nt).2 ≠ 0 then (Zd, (Jg t nt).2) else if (c.availV f n).2 ≠ 0 then (Zd, (c.availV f n).2) else Zs (c.availV f n).1 (Jg t nt).1) := by unfold Hid; rw [HR.out]; unfold Qf.balV; rw [hv]; rfl
  have hni := Qef t nt
  have hai := Iy c f n
  clear HR hc hv
  go_upto_region 4 with (go_at_call 64; (with_reducible refine Calls.mono (NO _ (hC.ext E)) ?_); rintro e w1 ⟨rfl, h1⟩)
  obtain ⟨v3, hv⟩ := Qg (w1.alloc (.cells #[.slice A c.nk ca, .slice A' c.ny cb] 130))
  rw [← hv]
  have h3 : Qa w1 v3 := by rw [hv]; exact (Qa.refl _).alloc _
  have H3 : Qb v3 w1.heap.size 130 #[.slice A c.nk ca, .slice A' c.ny cb] := by rw [hv]; exact Qb.new _ _ _
  clear hv
  generalize w1.heap.size = b3 at *
  replace E := (E.trans h1).trans h3
  replace B2 := (B2.ext h1).ext h3
  replace RT := (RT.ext h1).ext h3
  replace RS := (RS.ext h1).ext h3
  replace Z0 := (Z0.ext h1).ext h3
  replace C := (C.ext h1).ext h3
  clear h1 h3 k0 k1 lk B1 NO
  generalize Jg t nt = N at *
  obtain ⟨⟨Nn, Nd⟩, Ne⟩ := N
  simp only [] at HR2 NN hni
  go_upto_region 5 with (go_at_call 87; (with_reducible refine Calls.mono (NN _ RT Z0) ?_); rintro e w4 ⟨rfl, h4⟩)
  obtain ⟨v4, hv⟩ := Qg (w4.alloc (.cells #[.int .i64 Nn, .int .i64 Nd] 65))
  rw [← hv]
  have h5 : Qa w4 v4 := by rw [hv]; exact (Qa.refl _).alloc _
  have H4 : Qb v4 w4.heap.size 65 #[.int .i64 Nn, .int .i64 Nd] := by rw [hv]; exact Qb.new _ _ _
  clear hv
  generalize w4.heap.size = b4 at *
  replace E := (E.trans h4).trans h5
  replace B2 := (B2.ext h4).ext h5
  replace H3 := (H3.ext h4).ext h5
  replace RS := (RS.ext h4).ext h5
  replace Z0 := (Z0.ext h4).ext h5
  replace C := (C.ext h4).ext h5
  clear h4 h5 NN RT
  by_cases e0 : Ne = 0
  rotate_left
  ·have g0 : (Ne == 0) = false := beq_eq_false_iff_ne.2 e0
   have g0n : (Ne != 0) = true := by rw [bne, g0]; rfl
   have hr := HR2.out
   rw [if_pos e0] at hr
   subst hr
   clear HR2 e0 NA
   have f0 := B2.frozen 0
   have f1 := B2.frozen 1
   obtain ⟨x0, x1⟩ := B2.c2
   have lx := B2.lt
   have H9 := Qn B2 (.int .i64 0) (.int .i64 0)
   have EF := (E.setCell (p := ⟨b2, 0, none⟩) hbr (.int .i64 0)).setCell (p := ⟨b2, 1, none⟩) hbr (.int .i64 0)
   obtain ⟨y0, y1⟩ := H9.c2
   go_wp2
   refine bodyPost_ret (v := .tuple #[.agg #[.int .i64 0, .int .i64 0], .int .i64 Ne]) (by simp [results, Tryz.results40, go_sem, y0, y1]) rfl ⟨rfl, EF⟩
  subst e0
  obtain ⟨k0, k1⟩ := H3.c2
  have lk := H3.lt
  generalize c.availV f n = M at *
  obtain ⟨⟨Mn, Md⟩, Me⟩ := M
  simp only [] at HR2 NA hai
  go_upto_region 8 with (go_at_call 88; (with_reducible refine Calls.mono (NA _ C RS Z0) ?_); rintro e w6 ⟨rfl, h6⟩)
  obtain ⟨v6, hv⟩ := Qg (w6.alloc (.cells #[.int .i64 Mn, .int .i64 Md] 65))
  rw [← hv]
  have h7 : Qa w6 v6 := by rw [hv]; exact (Qa.refl _).alloc _
  have H6 : Qb v6 w6.heap.size 65 #[.int .i64 Mn, .int .i64 Md] := by rw [hv]; exact Qb.new _ _ _
  clear hv
  generalize w6.heap.size = b6 at *
  replace E := (E.trans h6).trans h7
  replace B2 := (B2.ext h6).ext h7
  replace H4 := (H4.ext h6).ext h7
  replace Z0 := (Z0.ext h6).ext h7
  clear h6 h7 NA RS C k0 k1 lk H3
  by_cases e0 : Me = 0
  rotate_left
  ·have g0 : (Me == 0) = false := beq_eq_false_iff_ne.2 e0
   have g0n : (Me != 0) = true := by rw [bne, g0]; rfl
   have hr := HR2.out
   rw [if_neg (by simp), if_pos e0] at hr
   subst hr
   clear HR2 e0
   have f0 := B2.frozen 0
   have f1 := B2.frozen 1
   obtain ⟨x0, x1⟩ := B2.c2
   have lx := B2.lt
   have H9 := Qn B2 (.int .i64 0) (.int .i64 0)
   have EF := (E.setCell (p := ⟨b2, 0, none⟩) hbr (.int .i64 0)).setCell (p := ⟨b2, 1, none⟩) hbr (.int .i64 0)
   obtain ⟨y0, y1⟩ := H9.c2
   go_wp2
   refine bodyPost_ret (v := .tuple #[.agg #[.int .i64 0, .int .i64 0], .int .i64 Me]) (by simp [results, Tryz.results40, go_sem, y0, y1]) rfl ⟨rfl, EF⟩
  subst e0
  have NS := fun w z => Mj ⟨Mn, Md⟩ ⟨Nn, Nd⟩ hai hni w z
  have hr := HR2.out
  rw [if_neg (by simp), if_neg (by simp)] at hr
  rw [← hr] at NS
  clear HR2 hr
  obtain ⟨⟨Rn, Rd⟩, Re⟩ := R
  obtain ⟨k0, k1⟩ := H4.c2
  have lk := H4.lt
  obtain ⟨p0, p1⟩ := H6.c2
  have lp := H6.lt
  go_wp2_with (first | (go_at_call 89; (with_reducible refine Calls.mono (NS _ Z0) ?_); rintro e wt ⟨rfl, ht⟩; replace E := E.trans ht; replace B2 := B2.ext ht; have f0 := B2.frozen 0; have f1 := B2.frozen 1; obtain ⟨x0, x1⟩ := B2.c2; have lx := B2.lt))
  have H9 := Qn B2 (.int .i64 Rn) (.int .i64 Rd)
  have EF := (E.setCell (p := ⟨b2, 0, none⟩) hbr (.int .i64 Rn)).setCell (p := ⟨b2, 1, none⟩) hbr (.int .i64 Rd)
  obtain ⟨y0, y1⟩ := H9.c2
  go_wp2
  refine bodyPost_ret (v := .tuple #[.agg #[.int .i64 Rn, .int .i64 Rd], .int .i64 Re]) (by simp [results, Tryz.results40, go_sem, y0, y1]) rfl ⟨rfl, EF⟩
theorem Qbw (A A' : Option Addr) (ca cb : Nat) (c : Qf) (T : Option Addr) (nt capt : Nat) (t : Nat → Tk) (s : Rt) (hs : s.In) (d d2 : Dt) (w : World) (hC : Zg w A ca A' cb c) (hint : ∀ i, i < nt → (t i).a.In ∧ (t i).r.In) (hT : Qo w T nt 4 (Yl t)) (hnt : nt ≤ 9223372036854775807) (hZ : Zu w) :
  Calls Tryz.prog 41 #[.agg #[.slice A c.nk ca, .slice A' c.ny cb], .slice T nt capt, .agg #[.int .i64 s.n, .int .i64 s.d], .agg #[.int .i64 d.y, .int .i64 d.m, .bool d.s, .int .i64 d.d], .agg #[.int .i64 d2.y, .int .i64 d2.m, .bool d2.s, .int .i64 d2.d]] w fun e w' => e = .returned (.tuple #[.int .i64 (c.fewV t nt s d d2).1, .int .i64 (c.fewV t nt s d d2).2]) ∧ Qa w w' := by
 have NO := fun w h => L9 A A' ca cb c w h
 have NN := fun w h z => D4 T nt capt t w hint h hnt z
 have NS := fun w => Mi s hs w
 have NSP := fun w h => Rx A A' ca cb c d d2 w h
 have NB := fun w h => Mu A A' ca cb c d d2 w h
 obtain ⟨R, hR0⟩ := Qg (c.fewV t nt s d d2)
 rw [← hR0]
 have HR := Lib.hid hR0
 clear hR0
 go_enter Tryz.func41, Tryz.ntmps41
 go_upto_region 1 with (fail)
 obtain ⟨v, hv⟩ := Qg ((((w.alloc (.cells #[.slice A c.nk ca, .slice A' c.ny cb] 25)).alloc (.cells #[.int .i64 s.n, .int .i64 s.d] 65)).alloc (.cells #[.int .i64 d.y, .int .i64 d.m, .bool d.s, .int .i64 d.d] 51)).alloc (.cells #[.int .i64 d2.y, .int .i64 d2.m, .bool d2.s, .int .i64 d2.d] 51))
 rw [← hv]
 have E : Qa w v := by rw [hv]; exact ((((Qa.refl _).alloc _).alloc _).alloc _).alloc _
 have B1 : Qb v w.heap.size 25 #[.slice A c.nk ca, .slice A' c.ny cb] := by rw [hv]; exact (((Qb.new _ _ _).alloc _).alloc _).alloc _
 have B2 : Qb v (w.heap.size + 1) 65 #[.int .i64 s.n, .int .i64 s.d] := by rw [hv]; exact ((Qb.at _ _ _ _ (by simp)).alloc _).alloc _
 have B3 : Qb v (w.heap.size + 1 + 1) 51 #[.int .i64 d.y, .int .i64 d.m, .bool d.s, .int .i64 d.d] := by rw [hv]; exact (Qb.at _ _ _ _ (by simp)).alloc _
 have B4 : Qb v (w.heap.size + 1 + 1 + 1) 51 #[.int .i64 d2.y, .int .i64 d2.m, .bool d2.s, .int .i64 d2.d] := by rw [hv]; exact Qb.at _ _ _ _ (by simp)
 clear hv
 obtain ⟨b4, hb4⟩ := Qg (w.heap.size + 1 + 1 + 1)
 rw [← hb4] at B4 ⊢
 obtain ⟨b3, hb3⟩ := Qg (w.heap.size + 1 + 1)
 rw [← hb3] at B3 ⊢
 obtain ⟨b2, hb2⟩ := Qg (w.heap.size + 1)
 rw [← hb2] at B2 ⊢
 obtain ⟨b1, hb1⟩ := Qg (w.heap.size)
 rw [← hb1] at B1 ⊢
 have hbr : w.heap.size ≤ b4 := by omega
 have hbr1 : w.heap.size ≤ b1 := by omega
 have hbr2 : w.heap.size ≤ b2 := by omega
 have hbr3 : w.heap.size ≤ b3 := by omega
 have hn21 : b2 ≠ b1 := by omega
 have hn31 : b3 ≠ b1 := by omega
 have hn32 : b3 ≠ b2 := by omega
 have hn41 : b4 ≠ b1 := by omega
 have hn42 : b4 ≠ b2 := by omega
 have hn43 : b4 ≠ b3 := by omega
 clear hb1 hb2 hb3 hb4
 have RT := hT.ext E
 have Z0 := hZ.ext E
 have C := hC.ext E
 clear hT hZ
 obtain ⟨k0, k1⟩ := B1.c2
 have lk := B1.lt
 cases hv : c.valid
 ·have hr : R = (0, 70) := by rw [HR.out]; unfold Qf.fewV; rw [hv]; rfl
  have hc : c.chk = 70 := by unfold Qf.chk; rw [hv]; rfl
  simp only [hc] at NO
  subst hr
  clear HR hc hv NN
  go_wp2_with (go_at_call 64; (with_reducible refine Calls.mono (NO _ (hC.ext E)) ?_); rintro e w1 ⟨rfl, h1⟩)
  go_ret2
  exact ⟨rfl, (E.trans h1).alloc _⟩
 ·have hc : c.chk = 0 := by unfold Qf.chk; rw [hv]; rfl
  simp only [hc] at NO
  have HR2 : Hid (R = if (Jg t nt).2 ≠ 0 then (0, (Jg t nt).2) else if s.shr && decide (s.n ≠ 0) && (decide (0 < c.numV d) && decide (c.numV d ≤ c.numV d2)) then (if 4096 < c.fewN t nt s d d2 then (0, 8) else (c.fewN t nt s d d2, 0)) else (0, 81)) := by unfold Hid; rw [HR.out]; unfold Qf.fewV; rw [hv]; rfl
  have hni := Qbv t nt
  clear HR hc
  go_upto_region 4 with (go_at_call 64; (with_reducible refine Calls.mono (NO _ (hC.ext E)) ?_); rintro e w1 ⟨rfl, h1⟩)
  obtain ⟨v3, hv⟩ := Qg (w1.alloc (.cells #[.slice A c.nk ca, .slice A' c.ny cb] 130))
  rw [← hv]
  have h3 : Qa w1 v3 := by rw [hv]; exact (Qa.refl _).alloc _
  have H3 : Qb v3 w1.heap.size 130 #[.slice A c.nk ca, .slice A' c.ny cb] := by rw [hv]; exact Qb.new _ _ _
  clear hv
  generalize w1.heap.size = b3' at *
  replace E := (E.trans h1).trans h3
  replace B2 := (B2.ext h1).ext h3
  replace B3 := (B3.ext h1).ext h3
  replace B4 := (B4.ext h1).ext h3
  replace RT := (RT.ext h1).ext h3
  replace Z0 := (Z0.ext h1).ext h3
  replace C := (C.ext h1).ext h3
  clear h1 h3 k0 k1 lk B1 NO
  have hfn : Hid (c.fewN t nt s d d2 = ((Jg t nt).1.n * s.d + s.n * (c.schV d d2 + 1) * (Jg t nt).1.d - 1) / (s.n * (c.schV d d2 + 1) * (Jg t nt).1.d)) := rfl
  generalize c.fewN t nt s d d2 = q at *
  generalize Jg t nt = N at *
  obtain ⟨⟨Nn, Nd⟩, Ne⟩ := N
  simp only [] at HR2 NN hni hfn
  go_upto_region 5 with (go_at_call 87; (with_reducible refine Calls.mono (NN _ RT Z0) ?_); rintro e w4 ⟨rfl, h4⟩)
  obtain ⟨v4, hv⟩ := Qg (w4.alloc (.cells #[.int .i64 Nn, .int .i64 Nd] 65))
  rw [← hv]
  have h5 : Qa w4 v4 := by rw [hv]; exact (Qa.refl _).alloc _
  have H4 : Qb v4 w4.heap.size 65 #[.int .i64 Nn, .int .i64 Nd] := by rw [hv]; exact Qb.new _ _ _
  clear hv
  generalize w4.heap.size = b4' at *
  replace E := (E.trans h4).trans h5
  replace B2 := (B2.ext h4).ext h5
  replace B3 := (B3.ext h4).ext h5
  replace B4 := (B4.ext h4).ext h5
  replace H3 := (H3.ext h4).ext h5
  replace C := (C.ext h4).ext h5
  clear h4 h5 NN RT Z0
  by_cases e0 : Ne = 0
  rotate_left
  ·have g0 : (Ne == 0) = false := beq_eq_false_iff_ne.2 e0
   have g0n : (Ne != 0) = true := by rw [bne, g0]; rfl
   have hr := HR2.out
   rw [if_pos e0] at hr
   subst hr
   clear HR2 e0
   go_wp2
   go_ret2
   exact ⟨rfl, E⟩
  subst e0
  have HR3 : Hid (R = if s.shr && decide (s.n ≠ 0) && (decide (0 < c.numV d) && decide (c.numV d ≤ c.numV d2)) then (if 4096 < q then (0, 8) else (q, 0)) else (0, 81)) := by unfold Hid; rw [HR2.out, if_neg (by simp)]
  clear HR2
  obtain ⟨k0, k1⟩ := H3.c2
  have lk := H3.lt
  obtain ⟨s0, s1⟩ := B2.c2
  have ls := B2.lt
  obtain ⟨d0, d1, d2', d3⟩ := B3.c4
  have ld := B3.lt
  obtain ⟨u0, u1, u2, u3⟩ := B4.c4
  have lu := B4.lt
  cases g1 : s.shr
  ·have hr := HR3.out
   rw [g1, Bool.false_and, Bool.false_and, if_neg (by decide)] at hr
   simp only [g1] at NS
   subst hr
   clear HR3 g1
   go_wp2_with (go_at_call 90; (with_reducible refine Calls.mono (NS _) ?_); rintro e w5 ⟨rfl, h5⟩; clear k0 k1 lk d0 d1 d2' d3 ld u0 u1 u2 u3 lu s0 s1 ls; obtain ⟨k0, k1⟩ := (H3.ext h5).c2; have lk := (H3.ext h5).lt; obtain ⟨s0, s1⟩ := (B2.ext h5).c2; have ls := (B2.ext h5).lt; obtain ⟨d0, d1, d2', d3⟩ := (B3.ext h5).c4; have ld := (B3.ext h5).lt; obtain ⟨u0, u1, u2, u3⟩ := (B4.ext h5).c4; have lu := (B4.ext h5).lt)
   go_ret2
   exact ⟨rfl, E.trans h5⟩
  ·simp only [g1] at NS
   by_cases g2 : s.n = 0
   ·have hr := HR3.out
    rw [g1, decide_eq_false (fun h => h g2), Bool.and_false, Bool.false_and, if_neg (by decide)] at hr
    subst hr
    have g2b : (s.n == 0) = true := by rw [g2]; rfl
    clear HR3 g1 g2
    go_wp2_with (go_at_call 90; (with_reducible refine Calls.mono (NS _) ?_); rintro e w5 ⟨rfl, h5⟩; clear k0 k1 lk d0 d1 d2' d3 ld u0 u1 u2 u3 lu s0 s1 ls; obtain ⟨k0, k1⟩ := (H3.ext h5).c2; have lk := (H3.ext h5).lt; obtain ⟨s0, s1⟩ := (B2.ext h5).c2; have ls := (B2.ext h5).lt; obtain ⟨d0, d1, d2', d3⟩ := (B3.ext h5).c4; have ld := (B3.ext h5).lt; obtain ⟨u0, u1, u2, u3⟩ := (B4.ext h5).c4; have lu := (B4.ext h5).lt)
    go_ret2
    exact ⟨rfl, E.trans h5⟩
   ·have g2b : (s.n == 0) = false := beq_eq_false_iff_ne.2 g2
    cases hsp : (decide (0 < c.numV d) && decide (c.numV d ≤ c.numV d2))
    ·have hr := HR3.out
     rw [hsp, Bool.and_false, if_neg (by decide)] at hr
     simp only [hsp] at NSP
     subst hr
     clear HR3 g1 g2 hsp
     go_wp2_with (first | (go_at_call 90; (with_reducible refine Calls.mono (NS _) ?_); rintro e w5 ⟨rfl, h5⟩; clear k0 k1 lk d0 d1 d2' d3 ld u0 u1 u2 u3 lu s0 s1 ls; obtain ⟨k0, k1⟩ := (H3.ext h5).c2; have lk := (H3.ext h5).lt; obtain ⟨s0, s1⟩ := (B2.ext h5).c2; have ls := (B2.ext h5).lt; obtain ⟨d0, d1, d2', d3⟩ := (B3.ext h5).c4; have ld := (B3.ext h5).lt; obtain ⟨u0, u1, u2, u3⟩ := (B4.ext h5).c4; have lu := (B4.ext h5).lt) | (go_at_call 91; (with_reducible refine Calls.mono (NSP _ (C.ext h5)) ?_); rintro e w6 ⟨rfl, h6⟩))
     go_ret2
     exact ⟨rfl, (E.trans h5).trans h6⟩
    ·have hr := HR3.out
     rw [hsp, g1, decide_eq_true g2, Bool.and_true, Bool.and_true, if_pos rfl] at hr
     have hbd := few_bd hv hsp g1 g2 (hni rfl)
     simp only [hsp] at NSP
     clear HR3 hsp g1 hv
     replace hr := Lib.hid hr
     generalize c.schV d d2 = z at *
     obtain ⟨x1, x2, x3, x4, x5, x6, x7, x8⟩ := hbd
     have v1 : IntKind.i64.wrap (z + 1) = z + 1 := Zr (by omega) (by omega)
     have v2 : IntKind.i64.wrap (s.n * (z + 1)) = s.n * (z + 1) := Zr (by omega) (by omega)
     have v3' : IntKind.i64.wrap (s.n * (z + 1) * Nd) = s.n * (z + 1) * Nd := Zr (by omega) (by omega)
     have v4' : IntKind.i64.wrap (Nn * s.d) = Nn * s.d := Zr (by omega) (by omega)
     have v5 : IntKind.i64.wrap (Nn * s.d + s.n * (z + 1) * Nd) = Nn * s.d + s.n * (z + 1) * Nd := Zr (by omega) (by omega)
     have v6 : IntKind.i64.wrap (Nn * s.d + s.n * (z + 1) * Nd - 1) = Nn * s.d + s.n * (z + 1) * Nd - 1 := Zr (by omega) (by omega)
     have v7 : IntKind.i64.wrap ((Nn * s.d + s.n * (z + 1) * Nd - 1).tdiv (s.n * (z + 1) * Nd)) = q := by
      rw [Int.tdiv_eq_ediv_of_nonneg (by omega), ← hfn.out]
      have h1 : 0 ≤ q := by rw [hfn.out]; exact Int.ediv_nonneg (by omega) (by omega)
      have h2 : q ≤ Nn * s.d + s.n * (z + 1) * Nd - 1 := by rw [hfn.out]; exact Int.ediv_le_self _ (by omega)
      exact Zr (by omega) (by omega)
     have v8 : (s.n * (z + 1) * Nd == 0) = false := beq_eq_false_iff_ne.2 (by omega)
     have v9 : s.n * (z + 1) * Nd ≠ 0 := by omega
     clear x1 x2 x3 x4 x5 x6 x7 x8 hfn hni g2
     go_upto_region 9 with (first | (go_at_call 90; (with_reducible refine Calls.mono (NS _) ?_); rintro e w5 ⟨rfl, h5⟩; clear k0 k1 lk d0 d1 d2' d3 ld u0 u1 u2 u3 lu s0 s1 ls; obtain ⟨k0, k1⟩ := (H3.ext h5).c2; have lk := (H3.ext h5).lt; obtain ⟨s0, s1⟩ := (B2.ext h5).c2; have ls := (B2.ext h5).lt; obtain ⟨d0, d1, d2', d3⟩ := (B3.ext h5).c4; have ld := (B3.ext h5).lt; obtain ⟨u0, u1, u2, u3⟩ := (B4.ext h5).c4; have lu := (B4.ext h5).lt) | (go_at_call 91; (with_reducible refine Calls.mono (NSP _ (C.ext h5)) ?_); rintro e w6 ⟨rfl, h6⟩))
     replace E := (E.trans h5).trans h6
     replace C := (C.ext h5).ext h6
     replace B2 := (B2.ext h5).ext h6
     replace B3 := (B3.ext h5).ext h6
     replace B4 := (B4.ext h5).ext h6
     replace H3 := (H3.ext h5).ext h6
     replace H4 := (H4.ext h5).ext h6
     clear h5 h6 k0 k1 lk s0 s1 ls d0 d1 d2' d3 ld u0 u1 u2 u3 lu NS NSP
     obtain ⟨k0, k1⟩ := H3.c2
     have lk := H3.lt
     obtain ⟨s0, s1⟩ := B2.c2
     have ls := B2.lt
     obtain ⟨d0, d1, d2', d3⟩ := B3.c4
     have ld := B3.lt
     obtain ⟨u0, u1, u2, u3⟩ := B4.c4
     have lu := B4.lt
     obtain ⟨t0, t1⟩ := H4.c2
     have lt := H4.lt
     refine Zb w6 Qq (by kernel_rfl) (by repeat (first | exact Qa.refl _ | (refine Qa.alloc ?_ _) | (refine Qa.trans ?_ (by assumption)))) ?_
     intro hne hrx hry
     try simp only []
     try simp only [List.append_eq, List.cons_append, List.nil_append]
     skip
     repeat (first
      | go_big_quiet_skip
      | (go_big_quiet_want; go_big_quiet_op; go_big_quiet_on)
      | (go_big_quiet_want; go_big_quiet_op; apply Exists.intro; refine ⟨fun u => ?_, ?_⟩
         ·first
           | (go_at_call 92; (with_reducible refine Calls.mono (NB _ (C.ext u.e)) ?_); rintro e w' ⟨rfl, hb⟩; exact ⟨rfl, u.back hb⟩)
         go_big_quiet_on))
     clear hne hry hrx
     refine wpQuiet_nil ?_
     intro w7 h7
     obtain ⟨hcw7, hfw7, hzw7⟩ := Qa.rules h7
     try simp only [World.size_alloc] at hzw7
     obtain ⟨hcbw7, hfbw7, hzbw7⟩ := Qa.rules (show Qa w6 w7 from (by repeat (first | exact Qa.refl _ | (refine Qa.alloc ?_ _) | (refine Qa.trans ?_ (by assumption)))))
     clear hcw7 hfw7
     by_cases c1 : 4096 < q
     ·have gg : decide (4096 < q) = true := decide_eq_true c1
      have hr' := hr.out
      rw [if_pos c1] at hr'
      subst hr'
      clear hr c1
      go_wp2
      go_ret2
      exact ⟨rfl, E.trans h7⟩
     ·have gg : decide (4096 < q) = false := decide_eq_false c1
      have hr' := hr.out
      rw [if_neg c1] at hr'
      subst hr'
      clear hr c1
      go_wp2
      go_ret2
      exact ⟨rfl, E.trans h7⟩
end
section
structure Yf where
 e : Int
 r : Int
 l : Int
 deriving DecidableEq
def Kp : Yf := ⟨0, 0, 0⟩
def nOk (n : Int) : Bool := decide (0 ≤ n) && decide (n ≤ 1048576)
def Yf.ok (h : Yf) : Bool := nOk h.e && nOk h.r && nOk h.l
def Zc (n : Int) (d : Rt) : Int := n - d.n * n / d.d
def Km (b d : Rt) (h : Yf) : Yf := ⟨Zc h.e d + (Zc h.l d + 1) / 2, Zc h.r d + Zc h.l d / 2, b.n * Zc h.e d / b.d⟩
def Kl (b d : Rt) : Nat → Yf → Yf × Int
 | 0, h => (h, 0)
 | m + 1, h => if (Km b d h).ok then Kl b d m (Km b d h) else (Kp, 6)
def W7 (h : Yf) (b d : Rt) (y : Int) : Yf × Int := if h.ok then (if b.shr && d.shr then (if y < 0 ∨ 40 < y then (Kp, 8) else Kl b d y.toNat h) else (Kp, 2)) else (Kp, 82)
theorem Fq {n : Int} : nOk n = true ↔ 0 ≤ n ∧ n ≤ 1048576 := by simp [nOk]
theorem Ru {r : Rt} (h : r.shr = true) : 0 ≤ r.n ∧ r.n ≤ r.d ∧ 1 ≤ r.d ∧ r.d ≤ 1048576 := by
 simp only [Rt.shr, Bool.and_eq_true, decide_eq_true_eq] at h
 have := Zo h.1.1
 omega
theorem Mb {n : Int} {r : Rt} (h : r.shr = true) (h1 : 0 ≤ n) (h2 : n ≤ 1048576) : 0 ≤ r.n * n ∧ r.n * n ≤ 1099511627776 ∧ 0 ≤ r.n * n / r.d ∧ r.n * n / r.d ≤ n := by
 obtain ⟨r1, r2, r3, r4⟩ := Ru h
 have m0 := Int.mul_nonneg r1 h1
 have m1 := Ks (a := r.n) (b := n) (A := 1048576) (B := 1048576) (by omega) (by omega) h1 h2
 refine ⟨m0, by omega, Int.ediv_nonneg m0 (by omega), Int.ediv_le_of_le_mul (by omega) ?_⟩
 rw [Int.mul_comm n]
 exact Int.mul_le_mul_of_nonneg_right r2 h1
theorem Gz {n : Int} {d : Rt} (h : d.shr = true) (h1 : 0 ≤ n) (h2 : n ≤ 1048576) : 0 ≤ Zc n d ∧ Zc n d ≤ 1048576 := by
 have := Mb h h1 h2
 unfold Zc; omega
end
end Go.Proofs.YtoflcheopfppoaaGreatDoor
