/- Walks of the program's functions and plain facts, packed; proved: the lemmas below; no conditions but those that each states. -/
import Derived.Laws.EntriesVeiled
import Derived.Test.YtoflcheopfppoaaGreatDoorJ7
import Derived.Sort.Walk0
import Derived.Test.YtoflcheopfppoaaGreatDoorJ6
set_option maxRecDepth 100000
set_option maxHeartbeats 4000000
namespace Go.Proofs.YtoflcheopfppoaaGreatDoor
section
open Go Go.RowKit Go.Shelf
attribute [local go_sem] Zq
section
variable {W w : World} {b : Nat} {t : TypeId} {v0 v1 v2 v3 v4 v5 : Value}
theorem Yv (h : Qb W b t #[v0, v1, v2, v3, v4, v5]) (u0 u1 u2 u3 u4 u5 : Value) : Qb ((((((W.setCell ⟨b, 0, none⟩ u0).setCell ⟨b, 1, none⟩ u1).setCell ⟨b, 2, none⟩ u2).setCell ⟨b, 3, none⟩ u3).setCell ⟨b, 4, none⟩ u4).setCell ⟨b, 5, none⟩ u5) b t #[u0, u1, u2, u3, u4, u5] := by unfold Qb at h ⊢; simp [World.setCell, Array.getElem?_modify, h]
theorem Yu (h : Qa w W) (hb : w.heap.size ≤ b) (u0 u1 u2 u3 u4 u5 : Value) : Qa w ((((((W.setCell ⟨b, 0, none⟩ u0).setCell ⟨b, 1, none⟩ u1).setCell ⟨b, 2, none⟩ u2).setCell ⟨b, 3, none⟩ u3).setCell ⟨b, 4, none⟩ u4).setCell ⟨b, 5, none⟩ u5) :=
 (((((h.setCell (p := ⟨b, 0, none⟩) hb u0).setCell (p := ⟨b, 1, none⟩) hb u1).setCell (p := ⟨b, 2, none⟩) hb u2).setCell (p := ⟨b, 3, none⟩) hb u3).setCell (p := ⟨b, 4, none⟩) hb u4).setCell (p := ⟨b, 5, none⟩) hb u5
theorem Nv {b' : Nat} {cs : Array Value} (h : Qb W b t cs) (hne : b ≠ b') (u0 u1 u2 u3 u4 u5 : Value) : Qb ((((((W.setCell ⟨b', 0, none⟩ u0).setCell ⟨b', 1, none⟩ u1).setCell ⟨b', 2, none⟩ u2).setCell ⟨b', 3, none⟩ u3).setCell ⟨b', 4, none⟩ u4).setCell ⟨b', 5, none⟩ u5) b t cs :=
 Qi (Qi (Qi (Qi (Qi (Qi h hne 0 u0) hne 1 u1) hne 2 u2) hne 3 u3) hne 4 u4) hne 5 u5
end
structure X0 (W : World) (b : Nat) (t : TypeId) (cs : Array Value) : Prop where
 out : Qb W b t cs
def cut0 (A : Act) (S : World → Prop) : Exit → Act → World → Prop := fun e a' w' => e = .normal ∧ S w' ∧ a' = A
theorem O8 {P : Program} {c : Code} {Q : Exit → Act → World → Prop} {a : Act} {w : World} {A : Act} (S : World → Prop) (h1 : c.wp P (cut0 A S) a w) (h2 : ∀ w', S w' → Q .normal A w') : c.wp P Q a w :=
 Code.wp_mono (fun e a' w' ⟨he, hs, ha⟩ => by subst he; subst ha; exact h2 w' hs) h1
def restJ (c : Qf) (r : Rt) (f : Nat → Z8) (on : Dt) (k m : Nat) : Nat → Db → Rt → Db × Int
 | 0, X, lf => Oj c r f on k m X lf
 | 1, X, lf => Ol c r f on k m X lf
 | _, X, lf => Om c r f on k m X lf
theorem Qey (A A' : Option Addr) (ca cb : Nat) (c : Qf) (B : Option Addr) (n cap : Nat) (l : Ln) (f : Nat → Z8) (hp : l.p.In) (hr : l.r.In) (hin : ∀ i, i < n → (f i).n.In) (w : World) (hC : Zg w A ca A' cb c) (hB : Qo w B n 6 (Ye f)) (hn : n ≤ 9223372036854775807) (hZ : Zu w) (on : Dt) :
  Calls Tryz.prog 66 #[.agg #[.slice A c.nk ca, .slice A' c.ny cb], .agg #[.int .i64 l.p.n, .int .i64 l.p.d, .int .i64 l.r.n, .int .i64 l.r.d, .int .i64 l.f.y, .int .i64 l.f.m, .bool l.f.s, .int .i64 l.f.d], .slice B n cap, .agg #[.int .i64 on.y, .int .i64 on.m, .bool on.s, .int .i64 on.d]] w fun e w' => e = .returned (.tuple #[.agg #[.int .i64 (J7 c l.r f on 0 n (start l) l.f).1.p.n, .int .i64 (J7 c l.r f on 0 n (start l) l.f).1.p.d, .int .i64 (J7 c l.r f on 0 n (start l) l.f).1.i.n, .int .i64 (J7 c l.r f on 0 n (start l) l.f).1.i.d, .int .i64 (J7 c l.r f on 0 n (start l) l.f).1.s.n, .int .i64 (J7 c l.r f on 0 n (start l) l.f).1.s.d], .int .i64 (J7 c l.r f on 0 n (start l) l.f).2]) ∧ Qa w w' := by
 obtain ⟨V, hV0⟩ := Qg (J7 c l.r f on 0 n (start l) l.f)
 rw [← hV0]
 replace hV0 := Lib.hid hV0
 go_enter Tryz.func66, Tryz.ntmps66
 go_upto_region 1 with (fail)
 obtain ⟨v, hv⟩ := Qg ((((w.alloc (.cells #[.slice A c.nk ca, .slice A' c.ny cb] 130)).alloc (.cells #[.int .i64 l.p.n, .int .i64 l.p.d, .int .i64 l.r.n, .int .i64 l.r.d, .int .i64 l.f.y, .int .i64 l.f.m, .bool l.f.s, .int .i64 l.f.d] 67)).alloc (.cells #[.int .i64 on.y, .int .i64 on.m, .bool on.s, .int .i64 on.d] 51)).alloc (.cells #[.int .i64 0, .int .i64 0, .int .i64 0, .int .i64 0, .int .i64 0, .int .i64 0] 72))
 rw [← hv]
 have E : Qa w v := by rw [hv]; exact ((((Qa.refl _).alloc _).alloc _).alloc _).alloc _
 have B1 : Qb v w.heap.size 130 #[.slice A c.nk ca, .slice A' c.ny cb] := by rw [hv]; exact (((Qb.new _ _ _).alloc _).alloc _).alloc _
 have B2 : Qb v (w.heap.size + 1) 67 #[.int .i64 l.p.n, .int .i64 l.p.d, .int .i64 l.r.n, .int .i64 l.r.d, .int .i64 l.f.y, .int .i64 l.f.m, .bool l.f.s, .int .i64 l.f.d] := by rw [hv]; exact ((Qb.at _ _ _ _ (by simp)).alloc _).alloc _
 have B3 : Qb v (w.heap.size + 1 + 1) 51 #[.int .i64 on.y, .int .i64 on.m, .bool on.s, .int .i64 on.d] := by rw [hv]; exact (Qb.at _ _ _ _ (by simp)).alloc _
 have B4 : Qb v (w.heap.size + 1 + 1 + 1) 72 #[.int .i64 0, .int .i64 0, .int .i64 0, .int .i64 0, .int .i64 0, .int .i64 0] := by rw [hv]; exact Qb.at _ _ _ _ (by simp)
 clear hv
 obtain ⟨b4, hb4⟩ := Qg (w.heap.size + 1 + 1 + 1)
 rw [← hb4] at B4 ⊢
 obtain ⟨b3, hb3⟩ := Qg (w.heap.size + 1 + 1)
 rw [← hb3] at B3 ⊢
 obtain ⟨b2, hb2⟩ := Qg (w.heap.size + 1)
 rw [← hb2] at B2 ⊢
 obtain ⟨b1, hb1⟩ := Qg (w.heap.size)
 rw [← hb1] at B1 ⊢
 have hbr : w.heap.size ≤ b4 := by omega
 have hbr1 : w.heap.size ≤ b1 := by omega
 have hbr2 : w.heap.size ≤ b2 := by omega
 have hbr3 : w.heap.size ≤ b3 := by omega
 have hn21 : b2 ≠ b1 := by omega
 have hn31 : b3 ≠ b1 := by omega
 have hn32 : b3 ≠ b2 := by omega
 have hn41 : b4 ≠ b1 := by omega
 have hn42 : b4 ≠ b2 := by omega
 have hn43 : b4 ≠ b3 := by omega
 clear hb1 hb2 hb3 hb4
 have C := hC.ext E
 have RB := hB.ext E
 have Z0 := hZ.ext E
 clear hC hB hZ
 have hv4 := B4.lt
 apply Vf (S := fun w' b => Qa v w' ∧ v.heap.size ≤ b ∧ Qb w' b 72 #[.int .i64 l.p.n, .int .i64 l.p.d, .int .i64 0, .int .i64 1, .int .i64 0, .int .i64 1])
 ·refine Q1 7 [6] (fun x => Qa v x) Qq rfl ?_
  intro vz hvz
  have HC := hvz
  refine Qr (g := 5) [0, 1] [_, _] ⟨rfl, rfl, trivial⟩ (by kernel_rfl) (by kernel_rfl) HC ?_
  simp only [Qc, Qd, Qe]
  apply Exists.intro
  refine ⟨fun u hu => ?_, ?_⟩
  ·obtain ⟨p0, p1, p2, p3, p4, p5, p6, p7⟩ := (B2.ext hu).c8
   have lp := (B2.ext hu).lt
   repeat (first | go_big_quiet_skip | (go_big_quiet_want; go_big_quiet_op; go_big_quiet_on))
   refine wpQuiet_nil ?_
   rfl
  refine Q8 2 5 rfl rfl (by kernel_rfl) ?_ ?_
  ·simp only [Qc, Qd, Qe]
   go_wp2_with (go_at_call 72; (with_reducible refine Calls.mono (Xm _ _) ?_); rintro e wa ⟨rfl, h4⟩)
   replace HC := HC.trans h4
   try replace Q := Q.ext h4
   clear h4
   refine Qh HC ?_
   refine Q8 3 5 rfl rfl (by kernel_rfl) ?_ ?_
   ·simp only [Qc, Qd, Qe]
    go_wp2_with (go_at_call 72; (with_reducible refine Calls.mono (Xm _ _) ?_); rintro e wa ⟨rfl, h4⟩)
    replace HC := HC.trans h4
    try replace Q := Q.ext h4
    clear h4
    refine Qh HC ?_
    refine Qr (g := 2) [4] [_] ⟨rfl, trivial⟩ (by kernel_rfl) (by kernel_rfl) HC ?_
    simp only [Qc, Qd, Qe]
    apply Exists.intro
    refine ⟨fun u hu => ?_, ?_⟩
    ·obtain ⟨p0, p1, p2, p3, p4, p5, p6, p7⟩ := (B2.ext hu).c8
     have lp := (B2.ext hu).lt
     repeat (first | go_big_quiet_skip | (go_big_quiet_want; go_big_quiet_op; go_big_quiet_on))
     refine wpQuiet_nil ?_
     rfl
    refine Qk 5 rfl (by kernel_rfl) ?_
    simp only [Qc, Qd, Qe]
    go_wp2
    obtain ⟨bq, hbq, Q, HC', hge⟩ := Xc HC 72 #[.int .i64 0, .int .i64 0, .int .i64 0, .int .i64 0, .int .i64 0, .int .i64 0]
    rw [← hbq]
    clear hbq
    replace HC := HC'
    clear HC'
    refine Qh HC ?_
    refine Qm 6 rfl (by kernel_rfl) ?_
    simp only [Qc, Qd, Qe]
    have z0 := Q.frozen 0
    have z1 := Q.frozen 1
    have z2 := Q.frozen 2
    have z3 := Q.frozen 3
    have z4 := Q.frozen 4
    have z5 := Q.frozen 5
    obtain ⟨x0, x1, x2, x3, x4, x5⟩ := Q.c6
    have lx := Q.lt
    have Q2 := Yv Q (.int .i64 l.p.n) (.int .i64 l.p.d) (.int .i64 0) (.int .i64 1) (.int .i64 0) (.int .i64 1)
    have HE2 := Yu HC hge (.int .i64 l.p.n) (.int .i64 l.p.d) (.int .i64 0) (.int .i64 1) (.int .i64 0) (.int .i64 1)
    go_wp2
    refine Ql ?_
    refine Qs (by kernel_rfl) ?_
    exact J8 bq ⟨HE2, hge, Q2⟩ rfl
   ·simp only [Qc, Qd, Qe]
    go_wp2
    obtain ⟨bq, hbq, Q, HC', hge⟩ := Xc HC 72 #[.int .i64 0, .int .i64 0, .int .i64 0, .int .i64 0, .int .i64 0, .int .i64 0]
    rw [← hbq]
    clear hbq
    replace HC := HC'
    clear HC'
    refine Qh HC ?_
    refine Qk 3 rfl (by kernel_rfl) ?_
    simp only [Qc, Qd, Qe]
    go_wp2_with (go_at_call 72; (with_reducible refine Calls.mono (Xm _ _) ?_); rintro e wa ⟨rfl, h4⟩)
    replace HC := HC.trans h4
    try replace Q := Q.ext h4
    clear h4
    refine Qh HC ?_
    refine Qr (g := 1) [4] [_] ⟨rfl, trivial⟩ (by kernel_rfl) (by kernel_rfl) HC ?_
    simp only [Qc, Qd, Qe]
    apply Exists.intro
    refine ⟨fun u hu => ?_, ?_⟩
    ·obtain ⟨p0, p1, p2, p3, p4, p5, p6, p7⟩ := (B2.ext hu).c8
     have lp := (B2.ext hu).lt
     repeat (first | go_big_quiet_skip | (go_big_quiet_want; go_big_quiet_op; go_big_quiet_on))
     refine wpQuiet_nil ?_
     rfl
    refine Qm 6 rfl (by kernel_rfl) ?_
    simp only [Qc, Qd, Qe]
    have z0 := Q.frozen 0
    have z1 := Q.frozen 1
    have z2 := Q.frozen 2
    have z3 := Q.frozen 3
    have z4 := Q.frozen 4
    have z5 := Q.frozen 5
    obtain ⟨x0, x1, x2, x3, x4, x5⟩ := Q.c6
    have lx := Q.lt
    have Q2 := Yv Q (.int .i64 l.p.n) (.int .i64 l.p.d) (.int .i64 0) (.int .i64 1) (.int .i64 0) (.int .i64 1)
    have HE2 := Yu HC hge (.int .i64 l.p.n) (.int .i64 l.p.d) (.int .i64 0) (.int .i64 1) (.int .i64 0) (.int .i64 1)
    go_wp2
    refine Ql ?_
    refine Qs (by kernel_rfl) ?_
    exact J8 bq ⟨HE2, hge, Q2⟩ rfl
  ·simp only [Qc, Qd, Qe]
   go_wp2
   obtain ⟨bq, hbq, Q, HC', hge⟩ := Xc HC 72 #[.int .i64 0, .int .i64 0, .int .i64 0, .int .i64 0, .int .i64 0, .int .i64 0]
   rw [← hbq]
   clear hbq
   replace HC := HC'
   clear HC'
   refine Qh HC ?_
   refine Qk 2 rfl (by kernel_rfl) ?_
   simp only [Qc, Qd, Qe]
   go_wp2_with (go_at_call 72; (with_reducible refine Calls.mono (Xm _ _) ?_); rintro e wa ⟨rfl, h4⟩)
   replace HC := HC.trans h4
   try replace Q := Q.ext h4
   clear h4
   refine Qh HC ?_
   refine Qk 3 rfl (by kernel_rfl) ?_
   simp only [Qc, Qd, Qe]
   go_wp2_with (go_at_call 72; (with_reducible refine Calls.mono (Xm _ _) ?_); rintro e wa ⟨rfl, h4⟩)
   replace HC := HC.trans h4
   try replace Q := Q.ext h4
   clear h4
   refine Qh HC ?_
   refine Qr (g := 1) [4] [_] ⟨rfl, trivial⟩ (by kernel_rfl) (by kernel_rfl) HC ?_
   simp only [Qc, Qd, Qe]
   apply Exists.intro
   refine ⟨fun u hu => ?_, ?_⟩
   ·obtain ⟨p0, p1, p2, p3, p4, p5, p6, p7⟩ := (B2.ext hu).c8
    have lp := (B2.ext hu).lt
    repeat (first | go_big_quiet_skip | (go_big_quiet_want; go_big_quiet_op; go_big_quiet_on))
    refine wpQuiet_nil ?_
    rfl
   refine Qm 6 rfl (by kernel_rfl) ?_
   simp only [Qc, Qd, Qe]
   have z0 := Q.frozen 0
   have z1 := Q.frozen 1
   have z2 := Q.frozen 2
   have z3 := Q.frozen 3
   have z4 := Q.frozen 4
   have z5 := Q.frozen 5
   obtain ⟨x0, x1, x2, x3, x4, x5⟩ := Q.c6
   have lx := Q.lt
   have Q2 := Yv Q (.int .i64 l.p.n) (.int .i64 l.p.d) (.int .i64 0) (.int .i64 1) (.int .i64 0) (.int .i64 1)
   have HE2 := Yu HC hge (.int .i64 l.p.n) (.int .i64 l.p.d) (.int .i64 0) (.int .i64 1) (.int .i64 0) (.int .i64 1)
   go_wp2
   refine Ql ?_
   refine Qs (by kernel_rfl) ?_
   exact J8 bq ⟨HE2, hge, Q2⟩ rfl
 rintro bd w1 ⟨HE, gd, Hd⟩
 obtain ⟨p0, p1, p2, p3, p4, p5, p6, p7⟩ := (B2.ext HE).c8
 have lp := (B2.ext HE).lt
 go_upto_region 6 with (fail)
 obtain ⟨w2, hw2⟩ := Qg (((w1.alloc (.cells #[.int .i64 l.f.y, .int .i64 l.f.m, .bool l.f.s, .int .i64 l.f.d] 51)).alloc (.cells #[.int .i64 0] 29)).alloc (.cells #[.func (.func 117) #[] #[.pointer (some ⟨w1.heap.size + 1, 0, none⟩)]] 200))
 rw [← hw2]
 have h12 : Qa w1 w2 := by rw [hw2]; exact (((Qa.refl _).alloc _).alloc _).alloc _
 have Hf : Qb w2 w1.heap.size 51 #[.int .i64 l.f.y, .int .i64 l.f.m, .bool l.f.s, .int .i64 l.f.d] := by rw [hw2]; exact ((Qb.new _ _ _).alloc _).alloc _
 have He : Qb w2 (w1.heap.size + 1) 29 #[.int .i64 0] := by rw [hw2]; exact (Qb.at _ _ _ _ (by simp)).alloc _
 have Ht : Qb w2 (w1.heap.size + 1 + 1) 200 #[.func (.func 117) #[] #[.pointer (some ⟨w1.heap.size + 1, 0, none⟩)]] := by rw [hw2]; exact Qb.at _ _ _ _ (by simp)
 clear hw2 p0 p1 p2 p3 p4 p5 p6 p7 lp
 have hw1 := HE.size
 have hdw := Hd.lt
 replace Hd := Hd.ext h12
 replace HE := HE.trans h12
 clear h12
 obtain ⟨bt, hbt⟩ := Qg (w1.heap.size + 1 + 1)
 rw [← hbt] at Ht ⊢
 obtain ⟨be, hbe⟩ := Qg (w1.heap.size + 1)
 rw [← hbe] at Ht He ⊢
 obtain ⟨bf, hbf⟩ := Qg (w1.heap.size)
 rw [← hbf] at Hf ⊢
 have g2 : v.heap.size ≤ bf := by omega
 have g3 : v.heap.size ≤ be := by omega
 have n1 : bd ≠ bf := by omega
 have n2 : bd ≠ be := by omega
 have n3 : bf ≠ be := by omega
 have n4 : bt ∉ [bd, bf, be] := by simp; omega
 have hb1v := B1.lt
 have hb2v := B2.lt
 have n5 : b2 ∉ [bd, bf, be] := by simp; omega
 have n6 : b1 ∉ [bd, bf, be] := by simp; omega
 have hbe4 : be ≠ b4 := by omega
 have ntd : bt ≠ bd := by omega
 have gS : ∀ k, k ∈ [bd, bf, be] → v.heap.size ≤ k := fun k hk => by simp at hk; omega
 clear hbt hbe hbf hw1 hdw
 replace gS := Lib.hid gS
 replace n4 := Lib.hid n4
 replace n5 := Lib.hid n5
 replace n6 := Lib.hid n6
 obtain ⟨k0, k1⟩ := (B1.ext HE).c2
 have lk := (B1.ext HE).lt
 obtain ⟨o0, o1, o2, o3⟩ := (B3.ext HE).c4
 have lo := (B3.ext HE).lt
 have ND := fun d w h => Wi A A' ca cb c d w h
 go_upto_region 8 with (go_at_call 48; (with_reducible refine Calls.mono (ND on _ (C.ext HE)) ?_); rintro e w3 ⟨rfl, h4⟩)
 replace HE := HE.trans h4
 replace Hd := Hd.ext h4
 replace Hf := Hf.ext h4
 replace He := He.ext h4
 replace Ht := Ht.ext h4
 clear h4 k0 k1 lk o0 o1 o2 o3 lo
 obtain ⟨L0, hL0⟩ := Qg (c.numV on)
 rw [← hL0]
 replace hL0 := Lib.hid hL0
 have hX0 : (start l).In := ⟨hp, Uc, Uc⟩
 go_loopw [35] (fun iv wr => ∃ k : Nat, k ≤ n ∧ iv = .int .i64 (k : Int) ∧ ∃ X fr ee, Db.In X ∧ Qa v wr ∧ Qb wr bt 200 #[.func (.func 117) #[] #[.pointer (some ⟨be, 0, none⟩)]] ∧ Qb wr bd 72 #[.int .i64 X.p.n, .int .i64 X.p.d, .int .i64 X.i.n, .int .i64 X.i.d, .int .i64 X.s.n, .int .i64 X.s.d] ∧ Qb wr bf 51 #[.int .i64 fr.y, .int .i64 fr.m, .bool fr.s, .int .i64 fr.d] ∧ Qb wr be 29 #[.int .i64 ee] ∧ Hid (ee = 0 → V = J7 c l.r f on k (n - k) X fr) ∧ Hid (ee ≠ 0 → V = (Jz, ee))) (fun iv _ => n - (intOf iv).toNat)
 case atStart => exact ⟨0, Nat.zero_le _, rfl, start l, l.f, 0, hX0, HE, Ht, Hd, Hf, He, fun _ => hV0.out, fun h => absurd rfl h⟩
 case round =>
  clear HE Ht Hd Hf He hX0 hV0
  obtain ⟨k, hk, rfl, X, fr, ee, hX, HE, Ht, Hd, Hf, He, h1, h2⟩ := hrel
  obtain ⟨wo, rfl⟩ := Qg wr
  by_cases hlt : k < n
  ·obtain ⟨m, hm⟩ : ∃ m, n - k = m + 1 := ⟨n - k - 1, by omega⟩
   have hm2 : n - (k + 1) = m := by omega
   rw [hm] at h1
   obtain ⟨b, off, rfl, hb, hc⟩ := (RB.ext HE) (by omega)
   have c0 : wo.cell? ⟨b, off + k * 6, none⟩ = some (.int .i64 (f k).on.y) := by simpa [Ye] using hc k 0 _ hlt rfl
   have c1 : wo.cell? ⟨b, off + k * 6 + 1, none⟩ = some (.int .i64 (f k).on.m) := by simpa [Ye] using hc k 1 _ hlt rfl
   have c2 : wo.cell? ⟨b, off + k * 6 + 2, none⟩ = some (.bool (f k).on.s) := by simpa [Ye] using hc k 2 _ hlt rfl
   have c3 : wo.cell? ⟨b, off + k * 6 + 3, none⟩ = some (.int .i64 (f k).on.d) := by simpa [Ye] using hc k 3 _ hlt rfl
   have c4 : wo.cell? ⟨b, off + k * 6 + 4, none⟩ = some (.int .i64 (f k).n.n) := by simpa [Ye] using hc k 4 _ hlt rfl
   have c5 : wo.cell? ⟨b, off + k * 6 + 5, none⟩ = some (.int .i64 (f k).n.d) := by simpa [Ye] using hc k 5 _ hlt rfl
   have hfin := hin k hlt
   clear hc RB hin hm
   go_upto_region 10 with (fail)
   obtain ⟨v3, hv⟩ := Qg (wo.alloc (.cells #[.int .i64 (f k).on.y, .int .i64 (f k).on.m, .bool (f k).on.s, .int .i64 (f k).on.d, .int .i64 (f k).n.n, .int .i64 (f k).n.d] 78))
   rw [← hv]
   have E3 : Qa wo v3 := by rw [hv]; exact (Qa.refl _).alloc _
   have H3 : Qb v3 wo.heap.size 78 #[.int .i64 (f k).on.y, .int .i64 (f k).on.m, .bool (f k).on.s, .int .i64 (f k).on.d, .int .i64 (f k).n.n, .int .i64 (f k).n.d] := by rw [hv]; exact Qb.new _ _ _
   clear hv c0 c1 c2 c3 c4 c5 hb
   have h17v : wo.heap.size < v3.heap.size := H3.lt
   have ht17 := Ht.lt
   have hd17 := Hd.lt
   have hf17 := Hf.lt
   have he17 := He.lt
   obtain ⟨b17, hb17⟩ := Qg (wo.heap.size)
   rw [← hb17] at H3 ⊢
   have n17 : b17 ∉ [bd, bf, be] := by simp; omega
   replace n17 := Lib.hid n17
   clear hb17 ht17 hd17 hf17 he17 h17v
   replace HE := HE.trans E3
   replace Ht := Ht.ext E3
   replace Hd := Hd.ext E3
   replace Hf := Hf.ext E3
   replace He := He.ext E3
   clear E3
   by_cases h0 : ee = 0
   rotate_left
   ·have g0 : (ee == 0) = false := beq_eq_false_iff_ne.2 h0
    have hV := Lib.hid (h2.out h0)
    clear h1 h2 h0
    have g0n : (ee != 0) = true := by rw [bne, g0]; rfl
    have e0 := He.c1
    have le := He.lt
    go_upto_region 25 with (fail)
    clear e0 le
    apply O8 (S := fun w' => Qa w w' ∧ Qb w' b4 72 #[.int .i64 0, .int .i64 0, .int .i64 0, .int .i64 0, .int .i64 0, .int .i64 0])
    ·refine Q1 4 [3] (fun x => X0 x be 29 #[.int .i64 ee]) Qq rfl ?_
     intro vz hvz
     replace He := He.ext hvz
     replace HE := HE.trans hvz
     clear hvz
     refine Qr (g := 2) [0, 1] [_, _] ⟨rfl, rfl, trivial⟩ (by kernel_rfl) (by kernel_rfl) (X0.mk He) ?_
     simp only [Qc, Qd, Qe]
     apply Exists.intro
     refine ⟨fun u hu => ?_, ?_⟩
     ·have e0 := hu.out.c1
      have le := hu.out.lt
      repeat (first | go_big_quiet_skip | (go_big_quiet_want; go_big_quiet_op; go_big_quiet_on))
      refine wpQuiet_nil ?_
      rfl
     refine Qk 2 rfl (by kernel_rfl) ?_
     simp only [Qc, Qd, Qe]
     have R4 := B4.ext HE
     have z0 := R4.frozen 0
     have z1 := R4.frozen 1
     have z2 := R4.frozen 2
     have z3 := R4.frozen 3
     have z4 := R4.frozen 4
     have z5 := R4.frozen 5
     obtain ⟨x0, x1, x2, x3, x4, x5⟩ := R4.c6
     have lx := R4.lt
     go_wp2
     have R6 := Yv R4 (.int .i64 0) (.int .i64 0) (.int .i64 0) (.int .i64 0) (.int .i64 0) (.int .i64 0)
     have EF := Yu (E.trans HE) hbr (.int .i64 0) (.int .i64 0) (.int .i64 0) (.int .i64 0) (.int .i64 0) (.int .i64 0)
     replace He := Nv He hbe4 (.int .i64 0) (.int .i64 0) (.int .i64 0) (.int .i64 0) (.int .i64 0) (.int .i64 0)
     clear z0 z1 z2 z3 z4 z5 x0 x1 x2 x3 x4 x5 lx R4
     generalize World.setCell _ _ _ = wq at *
     refine Qh (X0.mk He) ?_
     refine Qm 3 rfl (by kernel_rfl) ?_
     simp only [Qc, Qd, Qe]
     go_wp2
     refine Ql ?_
     refine Qs (by kernel_rfl) ?_
     exact ⟨rfl, ⟨EF, R6⟩, rfl⟩
    rintro w9 ⟨EF, R6⟩
    obtain ⟨y0, y1, y2, y3, y4, y5⟩ := R6.c6
    go_wp2
    refine bodyPost_ret (v := .tuple #[.agg #[.int .i64 0, .int .i64 0, .int .i64 0, .int .i64 0, .int .i64 0, .int .i64 0], .int .i64 ee]) (by simp [results, Tryz.results66, go_sem, y0, y1, y2, y3, y4, y5]) rfl ⟨by rw [hV.out]; rfl, EF⟩
   subst h0
   have e0 := He.c1
   have le := He.lt
   obtain ⟨k0, k1⟩ := (B1.ext HE).c2
   have lk := (B1.ext HE).lt
   obtain ⟨q0, q1, q2, q3, q4, q5⟩ := H3.c6
   have lq := H3.lt
   have h1' := Lib.hid (h1.out rfl)
   clear h1 h2
   have hdd := fun w h => Wi A A' ca cb c (f k).on w h
   by_cases hday : L0 < c.numV (f k).on
   ·have gd1 : decide (L0 < c.numV (f k).on) = true := decide_eq_true hday
    have hVA : Hid (V = Ut (Zh c l.r X fr on)) := by unfold Hid; rw [h1'.out, Qfs (by rw [← hL0.out]; exact hday)]
    clear h1' hday
    generalize c.numV (f k).on = L1 at *
    go_upto_region 22 with (go_at_call 48; (with_reducible refine Calls.mono (hdd _ (C.ext HE)) ?_); rintro e w5 ⟨rfl, h4⟩)
    replace HE := HE.trans h4
    replace Ht := Ht.ext h4
    replace Hd := Hd.ext h4
    replace Hf := Hf.ext h4
    replace He := He.ext h4
    clear h4 e0 le k0 k1 lk q0 q1 q2 q3 q4 q5 lq H3 hdd
    have e0 := He.c1
    have le := He.lt
    have B3e := B3.ext HE
    obtain ⟨o0, o1, o2, o3⟩ := B3e.c4
    have lo := B3e.lt
    have NA := Hm A A' ca cb c l hr X hX fr on bt bd b2 b1 bf be v _ HE C Z0 Ht Hd (B2.ext HE) (B1.ext HE) Hf He g3 n1 n2 n3 n4.out n5.out n6.out
    go_upto_region 24 with (first | (go_at_call 118; (with_reducible refine Calls.mono (NA) ?_); rintro e wk ⟨rfl, hO, hf, he, Y, hYin, hd, hY⟩) | (go_at_fn 118; (with_reducible refine Calls.mono (NA) ?_); rintro e wk ⟨rfl, hO, hf, he, Y, hYin, hd, hY⟩))
    replace HE := hO.ext HE gS.out
    replace Ht := hO.held Ht n4.out
    clear hO Hd Hf He NA
    have Hd := hd
    have Hf := hf
    have He := he
    clear hd hf he
    clear e0 le o0 o1 o2 o3 lo B3e
    generalize Zh c l.r X fr on = a at *
    obtain ⟨aX, ae⟩ := a
    simp only [] at He hY hVA
    by_cases h0 : ae = 0
    ·subst h0
     have hy := hY rfl
     subst hy
     have hV : Hid (V = (Y, 0)) := by unfold Hid; rw [hVA.out]; exact D8 rfl
     clear hVA hY
     have e0 := He.c1
     have le := He.lt
     have R4 := B4.ext HE
     obtain ⟨d0, d1, d2, d3, d4, d5⟩ := Hd.c6
     have ld := Hd.lt
     have z0 := R4.frozen 0
     have z1 := R4.frozen 1
     have z2 := R4.frozen 2
     have z3 := R4.frozen 3
     have z4 := R4.frozen 4
     have z5 := R4.frozen 5
     obtain ⟨x0, x1, x2, x3, x4, x5⟩ := R4.c6
     have lx := R4.lt
     have R6 := Yv R4 (.int .i64 Y.p.n) (.int .i64 Y.p.d) (.int .i64 Y.i.n) (.int .i64 Y.i.d) (.int .i64 Y.s.n) (.int .i64 Y.s.d)
     have EF := Yu (E.trans HE) hbr (.int .i64 Y.p.n) (.int .i64 Y.p.d) (.int .i64 Y.i.n) (.int .i64 Y.i.d) (.int .i64 Y.s.n) (.int .i64 Y.s.d)
     obtain ⟨y0, y1, y2, y3, y4, y5⟩ := R6.c6
     go_wp2
     refine bodyPost_ret (v := .tuple #[.agg #[.int .i64 Y.p.n, .int .i64 Y.p.d, .int .i64 Y.i.n, .int .i64 Y.i.d, .int .i64 Y.s.n, .int .i64 Y.s.d], .int .i64 0]) (by simp [results, Tryz.results66, go_sem, y0, y1, y2, y3, y4, y5]) rfl ⟨by rw [hV.out], EF⟩
    ·have g0 : (ae == 0) = false := beq_eq_false_iff_ne.2 h0
     have hV : Hid (V = (Jz, ae)) := by unfold Hid; rw [hVA.out]; exact Ku h0
     clear hVA hY h0
     have g0n : (ae != 0) = true := by rw [bne, g0]; rfl
     have e0 := He.c1
     have le := He.lt
     go_upto_region 25 with (fail)
     clear e0 le
     apply O8 (S := fun w' => Qa w w' ∧ Qb w' b4 72 #[.int .i64 0, .int .i64 0, .int .i64 0, .int .i64 0, .int .i64 0, .int .i64 0])
     ·refine Q1 4 [3] (fun x => X0 x be 29 #[.int .i64 ae]) Qq rfl ?_
      intro vz hvz
      replace He := He.ext hvz
      replace HE := HE.trans hvz
      clear hvz
      refine Qr (g := 2) [0, 1] [_, _] ⟨rfl, rfl, trivial⟩ (by kernel_rfl) (by kernel_rfl) (X0.mk He) ?_
      simp only [Qc, Qd, Qe]
      apply Exists.intro
      refine ⟨fun u hu => ?_, ?_⟩
      ·have e0 := hu.out.c1
       have le := hu.out.lt
       repeat (first | go_big_quiet_skip | (go_big_quiet_want; go_big_quiet_op; go_big_quiet_on))
       refine wpQuiet_nil ?_
       rfl
      refine Qk 2 rfl (by kernel_rfl) ?_
      simp only [Qc, Qd, Qe]
      have R4 := B4.ext HE
      have z0 := R4.frozen 0
      have z1 := R4.frozen 1
      have z2 := R4.frozen 2
      have z3 := R4.frozen 3
      have z4 := R4.frozen 4
      have z5 := R4.frozen 5
      obtain ⟨x0, x1, x2, x3, x4, x5⟩ := R4.c6
      have lx := R4.lt
      go_wp2
      have R6 := Yv R4 (.int .i64 0) (.int .i64 0) (.int .i64 0) (.int .i64 0) (.int .i64 0) (.int .i64 0)
      have EF := Yu (E.trans HE) hbr (.int .i64 0) (.int .i64 0) (.int .i64 0) (.int .i64 0) (.int .i64 0) (.int .i64 0)
      replace He := Nv He hbe4 (.int .i64 0) (.int .i64 0) (.int .i64 0) (.int .i64 0) (.int .i64 0) (.int .i64 0)
      clear z0 z1 z2 z3 z4 z5 x0 x1 x2 x3 x4 x5 lx R4
      generalize World.setCell _ _ _ = wq at *
      refine Qh (X0.mk He) ?_
      refine Qm 3 rfl (by kernel_rfl) ?_
      simp only [Qc, Qd, Qe]
      go_wp2
      refine Ql ?_
      refine Qs (by kernel_rfl) ?_
      exact ⟨rfl, ⟨EF, R6⟩, rfl⟩
     rintro w9 ⟨EF, R6⟩
     obtain ⟨y0, y1, y2, y3, y4, y5⟩ := R6.c6
     go_wp2
     refine bodyPost_ret (v := .tuple #[.agg #[.int .i64 0, .int .i64 0, .int .i64 0, .int .i64 0, .int .i64 0, .int .i64 0], .int .i64 ae]) (by simp [results, Tryz.results66, go_sem, y0, y1, y2, y3, y4, y5]) rfl ⟨by rw [hV.out]; rfl, EF⟩
   ·have gd1 : decide (L0 < c.numV (f k).on) = false := decide_eq_false hday
    have hE1 : Hid ((Zh c l.r X fr (f k).on).2 ≠ 0 → V = (Jz, (Zh c l.r X fr (f k).on).2)) := fun h => by rw [h1'.out, Qfq (by rw [← hL0.out]; exact hday) h]
    have hE2 : Hid ((Zh c l.r X fr (f k).on).2 = 0 → V = Oj c l.r f on k m (Zh c l.r X fr (f k).on).1 (f k).n) := fun h => by rw [h1'.out, Qfr (by rw [← hL0.out]; exact hday) h]
    clear h1' hday
    generalize c.numV (f k).on = L1 at *
    go_upto_region 11 with (go_at_call 48; (with_reducible refine Calls.mono (hdd _ (C.ext HE)) ?_); rintro e w5 ⟨rfl, h4⟩)
    replace HE := HE.trans h4
    replace Ht := Ht.ext h4
    replace Hd := Hd.ext h4
    replace Hf := Hf.ext h4
    replace He := He.ext h4
    replace H3 := H3.ext h4
    clear h4 e0 le k0 k1 lk q0 q1 q2 q3 q4 q5 lq hdd
    obtain ⟨q0, q1, q2, q3, q4, q5⟩ := H3.c6
    have lq := H3.lt
    have NA := Hm A A' ca cb c l hr X hX fr (f k).on bt bd b2 b1 bf be v _ HE C Z0 Ht Hd (B2.ext HE) (B1.ext HE) Hf He g3 n1 n2 n3 n4.out n5.out n6.out
    go_upto_region 12 with (first | (go_at_call 118; (with_reducible refine Calls.mono (NA) ?_); rintro e wk ⟨rfl, hO, hf, he, Y, hYin, hd, hY⟩) | (go_at_fn 118; (with_reducible refine Calls.mono (NA) ?_); rintro e wk ⟨rfl, hO, hf, he, Y, hYin, hd, hY⟩))
    replace HE := hO.ext HE gS.out
    replace Ht := hO.held Ht n4.out
    replace H3 := hO.held H3 (n17.out)
    clear hO Hd Hf He NA
    have Hd := hd
    have Hf := hf
    have He := he
    clear hd hf he
    clear q0 q1 q2 q3 q4 q5 lq hX
    generalize Zh c l.r X fr (f k).on = a at *
    obtain ⟨aX, ae⟩ := a
    simp only [] at He hY hE1 hE2
    obtain ⟨q0, q1, q2, q3, q4, q5⟩ := H3.c6
    have lq := H3.lt
    go_upto_region 14 with (fail)
    obtain ⟨v4, hv⟩ := Qg ((wk.alloc (.cells #[.int .i64 (f k).n.n, .int .i64 (f k).n.d] 65)).alloc (.cells #[.pointer (some ⟨bd, 2, none⟩), .pointer (some ⟨bd, 0, none⟩)] 202))
    rw [← hv]
    have E4 : Qa wk v4 := by rw [hv]; exact ((Qa.refl _).alloc _).alloc _
    have H8 : Qb v4 wk.heap.size 65 #[.int .i64 (f k).n.n, .int .i64 (f k).n.d] := by rw [hv]; exact (Qb.new _ _ _).alloc _
    have Hs : Qb v4 (wk.heap.size + 1) 202 #[.pointer (some ⟨bd, 2, none⟩), .pointer (some ⟨bd, 0, none⟩)] := by rw [hv]; exact Qb.at _ _ _ _ (by simp)
    clear hv q0 q1 q2 q3 q4 q5 lq H3 n17
    obtain ⟨bs, hbs⟩ := Qg (wk.heap.size + 1)
    rw [← hbs] at Hs ⊢
    obtain ⟨b18, hb18⟩ := Qg (wk.heap.size)
    rw [← hb18] at H8 ⊢
    have hl1 := Ht.lt
    have hl2 := Hd.lt
    have hl3 := Hf.lt
    have hl4 := He.lt
    have hl5 := HE.size
    have n8 : b18 ≠ be := by omega
    have n8d : b18 ≠ bd := by omega
    have ns : bs ≠ be := by omega
    have nsd : bs ≠ bd := by omega
    have nt8 : bt ≠ b18 := by omega
    have nf8 : bf ≠ b18 := by omega
    have ns8 : bs ≠ b18 := by omega
    have g18 : v.heap.size ≤ b18 := by omega
    clear hl1 hl2 hl3 hl4 hl5 hbs hb18
    replace HE := HE.trans E4
    replace Ht := Ht.ext E4
    replace Hd := Hd.ext E4
    replace Hf := Hf.ext E4
    replace He := He.ext E4
    clear E4
    go_loopw [59] (fun jv wr => ∃ j : Nat, j ≤ 2 ∧ jv = .int .i64 (j : Int) ∧ ∃ X lf ee, Db.In X ∧ Rt.In lf ∧ Qa v wr ∧ Qb wr bt 200 #[.func (.func 117) #[] #[.pointer (some ⟨be, 0, none⟩)]] ∧ Qb wr bd 72 #[.int .i64 X.p.n, .int .i64 X.p.d, .int .i64 X.i.n, .int .i64 X.i.d, .int .i64 X.s.n, .int .i64 X.s.d] ∧ Qb wr bf 51 #[.int .i64 (f k).on.y, .int .i64 (f k).on.m, .bool (f k).on.s, .int .i64 (f k).on.d] ∧ Qb wr be 29 #[.int .i64 ee] ∧ Qb wr b18 65 #[.int .i64 lf.n, .int .i64 lf.d] ∧ Qb wr bs 202 #[.pointer (some ⟨bd, 2, none⟩), .pointer (some ⟨bd, 0, none⟩)] ∧ Hid (ee = 0 → V = restJ c l.r f on k m j X lf) ∧ Hid (ee ≠ 0 → V = (Jz, ee))) (fun jv _ => 2 - (intOf jv).toNat)
    case atStart => exact ⟨0, by decide, rfl, Y, (f k).n, ae, hYin, hfin, HE, Ht, Hd, Hf, He, H8, Hs, fun h => by rw [hE2.out h, ← hY h]; rfl, fun h => hE1.out h⟩
    case round =>
     clear HE Ht Hd Hf He H8 Hs hE1 hE2 hY hYin hfin
     obtain ⟨j, hj, rfl, X, lf, ee, hX, hlf, HE, Ht, Hd, Hf, He, H8, Hs, h1, h2⟩ := hrel
     obtain ⟨wi, rfl⟩ := Qg wr
     have e0 := He.c1
     have le := He.lt
     by_cases hj2 : j < 2
     ·obtain ⟨s0, s1⟩ := Hs.c2
      have ls := Hs.lt
      by_cases h0 : ee = 0
      ·subst h0
       have hj3 : j = 0 ∨ j = 1 := by omega
       rcases hj3 with rfl | rfl
       ·skip
        have NP := fun w h z => Qe5 X lf hX.i hlf bd w h z
        have hpin := N8 (x := X.i) (n := lf)
        have hpV : Hid (V = if (Qz X.i lf).2 ≠ 0 then (Jz, (Qz X.i lf).2) else Ol c l.r f on k m ⟨X.p, (Qz X.i lf).1.1, X.s⟩ (Qz X.i lf).1.2) := h1.out rfl
        clear h1 h2
        generalize Qz X.i lf = P at *
        obtain ⟨⟨⟨Pn, Pd⟩, ⟨Ln, Ld⟩⟩, Le⟩ := P
        simp only [] at hpin hpV NP
        go_upto_region 17 with (fail)
        clear e0 le s0 s1 ls
        refine Q1 8 [7] (fun x => Qb x bt 200 #[.func (.func 117) #[] #[.pointer (some ⟨be, 0, none⟩)]] ∧ Qb x b18 65 #[.int .i64 lf.n, .int .i64 lf.d]) Qq rfl ?_
        intro vz hvz
        replace HE := HE.trans hvz
        replace Ht := Ht.ext hvz
        replace Hd := Hd.ext hvz
        replace Hf := Hf.ext hvz
        replace He := He.ext hvz
        replace H8 := H8.ext hvz
        replace Hs := Hs.ext hvz
        clear hvz
        refine Qr (g := 5) [0, 1, 2] [_, _, _] ⟨rfl, rfl, rfl, trivial⟩ (by kernel_rfl) (by kernel_rfl) ⟨Ht, H8⟩ ?_
        simp only [Qc, Qd, Qe]
        apply Exists.intro
        refine ⟨fun u hu => ?_, ?_⟩
        ·have t0 := hu.1.c1
         have lt := hu.1.lt
         obtain ⟨r0, r1⟩ := hu.2.c2
         have lr := hu.2.lt
         repeat (first | go_big_quiet_skip | (go_big_quiet_want; go_big_quiet_op; go_big_quiet_on))
         refine wpQuiet_nil ?_
         rfl
        refine Qk 3 rfl (by kernel_rfl) ?_
        simp only [Qc, Qd, Qe]
        go_wp2_with (go_at_call 119; (with_reducible refine Calls.mono (NP _ Hd (Z0.ext HE)) ?_); rintro e wp ⟨rfl, hO, hd⟩)
        replace HE := hO.ext HE (fun k hk => by rw [List.mem_singleton.1 hk]; exact gd)
        replace Ht := hO.held Ht (by simp only [List.mem_singleton]; exact fun e => n4.out (by rw [e]; simp))
        replace Hf := hO.held Hf (by simp only [List.mem_singleton]; exact Ne.symm n1)
        replace He := hO.held He (by simp only [List.mem_singleton]; exact Ne.symm n2)
        replace H8 := hO.held H8 (by simp only [List.mem_singleton]; exact n8d)
        replace Hs := hO.held Hs (by simp only [List.mem_singleton]; exact nsd)
        clear hO Hd
        have Hd := hd
        clear hd
        refine Qh ⟨Ht, H8⟩ ?_
        refine Qr (g := 2) [4, 5] [_, _] ⟨rfl, rfl, trivial⟩ (by kernel_rfl) (by kernel_rfl) ⟨Ht, H8⟩ ?_
        simp only [Qc, Qd, Qe]
        apply Exists.intro
        refine ⟨fun u hu => ?_, ?_⟩
        ·have t0 := hu.1.c1
         have lt := hu.1.lt
         obtain ⟨r0, r1⟩ := hu.2.c2
         have lr := hu.2.lt
         repeat (first | go_big_quiet_skip | (go_big_quiet_want; go_big_quiet_op; go_big_quiet_on))
         refine wpQuiet_nil ?_
         rfl
        refine Qk 6 rfl (by kernel_rfl) ?_
        simp only [Qc, Qd, Qe]
        go_wp2_with (first | (go_at_call 117; (with_reducible refine Calls.mono (Y8 ⟨Ln, Ld⟩ Le 0 be _ He) ?_); rintro e we ⟨rfl, h5, He2⟩) | (go_at_fn 117; (with_reducible refine Calls.mono (Y8 ⟨Ln, Ld⟩ Le 0 be _ He) ?_); rintro e we ⟨rfl, h5, He2⟩))
        try rw [if_pos rfl] at He2
        replace HE := h5.ext HE (fun k hk => by rw [List.mem_singleton.1 hk]; exact g3)
        replace Ht := h5.held Ht (by simp only [List.mem_singleton]; exact fun e => n4.out (by rw [e]; simp))
        replace Hf := h5.held Hf (by simp only [List.mem_singleton]; exact n3)
        replace H8 := h5.held H8 (by simp only [List.mem_singleton]; exact n8)
        replace Hs := h5.held Hs (by simp only [List.mem_singleton]; exact ns)
        replace Hd := h5.held Hd (by simp only [List.mem_singleton]; exact n2)
        have He := He2
        clear h5 He2
        refine Qh ⟨Ht, H8⟩ ?_
        refine Qm 7 rfl (by kernel_rfl) ?_
        simp only [Qc, Qd, Qe]
        have z0 := H8.frozen 0
        have z1 := H8.frozen 1
        obtain ⟨x0, x1⟩ := H8.c2
        have lx := H8.lt
        have HE := (HE.setCell (p := ⟨b18, 0, none⟩) g18 (.int .i64 Ln)).setCell (p := ⟨b18, 1, none⟩) g18 (.int .i64 Ld)
        have H82 := Qn H8 (.int .i64 Ln) (.int .i64 Ld)
        have Ht := Qi (Qi Ht nt8 0 (.int .i64 Ln)) nt8 1 (.int .i64 Ld)
        have Hd := Qi (Qi Hd (Ne.symm n8d) 0 (.int .i64 Ln)) (Ne.symm n8d) 1 (.int .i64 Ld)
        have Hf := Qi (Qi Hf nf8 0 (.int .i64 Ln)) nf8 1 (.int .i64 Ld)
        have He := Qi (Qi He (Ne.symm n8) 0 (.int .i64 Ln)) (Ne.symm n8) 1 (.int .i64 Ld)
        have Hs := Qi (Qi Hs ns8 0 (.int .i64 Ln)) ns8 1 (.int .i64 Ld)
        have H8 := H82
        go_wp2
        refine Ql ?_
        refine Qs (by kernel_rfl) ?_
        generalize World.setCell _ _ _ = wq at *
        clear z0 z1 x0 x1 lx H82
        go_wp2
        exact ⟨⟨1, by decide, by rfl, ⟨X.p, ⟨Pn, Pd⟩, X.s⟩, ⟨Ln, Ld⟩, Le, ⟨hX.p, hpin.1, hX.s⟩, hpin.2, HE, Ht, Hd, Hf, He, H8, Hs, fun h => by rw [hpV.out, if_neg (by simpa using h)]; rfl, fun h => by rw [hpV.out, if_pos h]⟩, by simp [intOf]⟩
       ·skip
        have NP := fun w h z => Qe6 X lf hX.p hlf bd w h z
        have hpin := N8 (x := X.p) (n := lf)
        have hpV : Hid (V = if (Qz X.p lf).2 ≠ 0 then (Jz, (Qz X.p lf).2) else Om c l.r f on k m ⟨(Qz X.p lf).1.1, X.i, X.s⟩ (Qz X.p lf).1.2) := h1.out rfl
        clear h1 h2
        generalize Qz X.p lf = P at *
        obtain ⟨⟨⟨Pn, Pd⟩, ⟨Ln, Ld⟩⟩, Le⟩ := P
        simp only [] at hpin hpV NP
        go_upto_region 17 with (fail)
        clear e0 le s0 s1 ls
        refine Q1 8 [7] (fun x => Qb x bt 200 #[.func (.func 117) #[] #[.pointer (some ⟨be, 0, none⟩)]] ∧ Qb x b18 65 #[.int .i64 lf.n, .int .i64 lf.d]) Qq rfl ?_
        intro vz hvz
        replace HE := HE.trans hvz
        replace Ht := Ht.ext hvz
        replace Hd := Hd.ext hvz
        replace Hf := Hf.ext hvz
        replace He := He.ext hvz
        replace H8 := H8.ext hvz
        replace Hs := Hs.ext hvz
        clear hvz
        refine Qr (g := 5) [0, 1, 2] [_, _, _] ⟨rfl, rfl, rfl, trivial⟩ (by kernel_rfl) (by kernel_rfl) ⟨Ht, H8⟩ ?_
        simp only [Qc, Qd, Qe]
        apply Exists.intro
        refine ⟨fun u hu => ?_, ?_⟩
        ·have t0 := hu.1.c1
         have lt := hu.1.lt
         obtain ⟨r0, r1⟩ := hu.2.c2
         have lr := hu.2.lt
         repeat (first | go_big_quiet_skip | (go_big_quiet_want; go_big_quiet_op; go_big_quiet_on))
         refine wpQuiet_nil ?_
         rfl
        refine Qk 3 rfl (by kernel_rfl) ?_
        simp only [Qc, Qd, Qe]
        go_wp2_with (go_at_call 119; (with_reducible refine Calls.mono (NP _ Hd (Z0.ext HE)) ?_); rintro e wp ⟨rfl, hO, hd⟩)
        replace HE := hO.ext HE (fun k hk => by rw [List.mem_singleton.1 hk]; exact gd)
        replace Ht := hO.held Ht (by simp only [List.mem_singleton]; exact fun e => n4.out (by rw [e]; simp))
        replace Hf := hO.held Hf (by simp only [List.mem_singleton]; exact Ne.symm n1)
        replace He := hO.held He (by simp only [List.mem_singleton]; exact Ne.symm n2)
        replace H8 := hO.held H8 (by simp only [List.mem_singleton]; exact n8d)
        replace Hs := hO.held Hs (by simp only [List.mem_singleton]; exact nsd)
        clear hO Hd
        have Hd := hd
        clear hd
        refine Qh ⟨Ht, H8⟩ ?_
        refine Qr (g := 2) [4, 5] [_, _] ⟨rfl, rfl, trivial⟩ (by kernel_rfl) (by kernel_rfl) ⟨Ht, H8⟩ ?_
        simp only [Qc, Qd, Qe]
        apply Exists.intro
        refine ⟨fun u hu => ?_, ?_⟩
        ·have t0 := hu.1.c1
         have lt := hu.1.lt
         obtain ⟨r0, r1⟩ := hu.2.c2
         have lr := hu.2.lt
         repeat (first | go_big_quiet_skip | (go_big_quiet_want; go_big_quiet_op; go_big_quiet_on))
         refine wpQuiet_nil ?_
         rfl
        refine Qk 6 rfl (by kernel_rfl) ?_
        simp only [Qc, Qd, Qe]
        go_wp2_with (first | (go_at_call 117; (with_reducible refine Calls.mono (Y8 ⟨Ln, Ld⟩ Le 0 be _ He) ?_); rintro e we ⟨rfl, h5, He2⟩) | (go_at_fn 117; (with_reducible refine Calls.mono (Y8 ⟨Ln, Ld⟩ Le 0 be _ He) ?_); rintro e we ⟨rfl, h5, He2⟩))
        try rw [if_pos rfl] at He2
        replace HE := h5.ext HE (fun k hk => by rw [List.mem_singleton.1 hk]; exact g3)
        replace Ht := h5.held Ht (by simp only [List.mem_singleton]; exact fun e => n4.out (by rw [e]; simp))
        replace Hf := h5.held Hf (by simp only [List.mem_singleton]; exact n3)
        replace H8 := h5.held H8 (by simp only [List.mem_singleton]; exact n8)
        replace Hs := h5.held Hs (by simp only [List.mem_singleton]; exact ns)
        replace Hd := h5.held Hd (by simp only [List.mem_singleton]; exact n2)
        have He := He2
        clear h5 He2
        refine Qh ⟨Ht, H8⟩ ?_
        refine Qm 7 rfl (by kernel_rfl) ?_
        simp only [Qc, Qd, Qe]
        have z0 := H8.frozen 0
        have z1 := H8.frozen 1
        obtain ⟨x0, x1⟩ := H8.c2
        have lx := H8.lt
        have HE := (HE.setCell (p := ⟨b18, 0, none⟩) g18 (.int .i64 Ln)).setCell (p := ⟨b18, 1, none⟩) g18 (.int .i64 Ld)
        have H82 := Qn H8 (.int .i64 Ln) (.int .i64 Ld)
        have Ht := Qi (Qi Ht nt8 0 (.int .i64 Ln)) nt8 1 (.int .i64 Ld)
        have Hd := Qi (Qi Hd (Ne.symm n8d) 0 (.int .i64 Ln)) (Ne.symm n8d) 1 (.int .i64 Ld)
        have Hf := Qi (Qi Hf nf8 0 (.int .i64 Ln)) nf8 1 (.int .i64 Ld)
        have He := Qi (Qi He (Ne.symm n8) 0 (.int .i64 Ln)) (Ne.symm n8) 1 (.int .i64 Ld)
        have Hs := Qi (Qi Hs ns8 0 (.int .i64 Ln)) ns8 1 (.int .i64 Ld)
        have H8 := H82
        go_wp2
        refine Ql ?_
        refine Qs (by kernel_rfl) ?_
        generalize World.setCell _ _ _ = wq at *
        clear z0 z1 x0 x1 lx H82
        go_wp2
        exact ⟨⟨2, by decide, by rfl, ⟨⟨Pn, Pd⟩, X.i, X.s⟩, ⟨Ln, Ld⟩, Le, ⟨hpin.1, hX.i, hX.s⟩, hpin.2, HE, Ht, Hd, Hf, He, H8, Hs, fun h => by rw [hpV.out, if_neg (by simpa using h)]; rfl, fun h => by rw [hpV.out, if_pos h]⟩, by simp [intOf]⟩
      ·have g0 : (ee == 0) = false := beq_eq_false_iff_ne.2 h0
       have hj3 : j = 0 ∨ j = 1 := by omega
       rcases hj3 with rfl | rfl
       ·go_wp2
        exact ⟨⟨1, by decide, rfl, X, lf, ee, hX, hlf, HE, Ht, Hd, Hf, He, H8, Hs, fun h => absurd h h0, h2⟩, by simp [intOf]⟩
       ·go_wp2
        exact ⟨⟨2, by decide, rfl, X, lf, ee, hX, hlf, HE, Ht, Hd, Hf, He, H8, Hs, fun h => absurd h h0, h2⟩, by simp [intOf]⟩
     ·obtain rfl : j = 2 := by omega
      by_cases h0 : ee = 0
      ·subst h0
       have NA := fun w z => Lf X.s lf hX.s hlf w z
       have hSin := Vq X.s lf
       have hpV : Hid (V = if (Q4 X.s lf).2 ≠ 0 then (Jz, (Q4 X.s lf).2) else J7 c l.r f on (k + 1) m ⟨X.p, X.i, (Q4 X.s lf).1⟩ (f k).on) := h1.out rfl
       clear h1 h2
       generalize Q4 X.s lf = S at *
       obtain ⟨⟨Sn, Sd⟩, Se⟩ := S
       simp only [] at hSin hpV NA
       go_upto_region 20 with (fail)
       clear e0 le
       refine Q1 10 [9] (fun x => Qb x bt 200 #[.func (.func 117) #[] #[.pointer (some ⟨be, 0, none⟩)]] ∧ Qb x bd 72 #[.int .i64 X.p.n, .int .i64 X.p.d, .int .i64 X.i.n, .int .i64 X.i.d, .int .i64 X.s.n, .int .i64 X.s.d] ∧ Qb x b18 65 #[.int .i64 lf.n, .int .i64 lf.d]) Qq rfl ?_
       intro vz hvz
       replace HE := HE.trans hvz
       replace Ht := Ht.ext hvz
       replace Hd := Hd.ext hvz
       replace Hf := Hf.ext hvz
       replace He := He.ext hvz
       replace H8 := H8.ext hvz
       clear hvz
       refine Qr (g := 6) [0, 1, 2, 3] [_, _, _, _] ⟨rfl, rfl, rfl, rfl, trivial⟩ (by kernel_rfl) (by kernel_rfl) ⟨Ht, Hd, H8⟩ ?_
       simp only [Qc, Qd, Qe]
       apply Exists.intro
       refine ⟨fun u hu => ?_, ?_⟩
       ·have t0 := hu.1.c1
        have lt := hu.1.lt
        obtain ⟨d0, d1, d2, d3, d4, d5⟩ := hu.2.1.c6
        have ld := hu.2.1.lt
        obtain ⟨r0, r1⟩ := hu.2.2.c2
        have lr := hu.2.2.lt
        repeat (first | go_big_quiet_skip | (go_big_quiet_want; go_big_quiet_op; go_big_quiet_on))
        refine wpQuiet_nil ?_
        rfl
       refine Qk 4 rfl (by kernel_rfl) ?_
       simp only [Qc, Qd, Qe]
       go_wp2_with (go_at_call 86; (with_reducible refine Calls.mono (NA _ (Z0.ext HE)) ?_); rintro e wc ⟨rfl, h4⟩)
       replace HE := HE.trans h4
       replace Ht := Ht.ext h4
       replace Hd := Hd.ext h4
       replace Hf := Hf.ext h4
       replace He := He.ext h4
       replace H8 := H8.ext h4
       clear h4
       refine Qh ⟨Ht, Hd, H8⟩ ?_
       refine Qr (g := 3) [5, 6] [_, _] ⟨rfl, rfl, trivial⟩ (by kernel_rfl) (by kernel_rfl) ⟨Ht, Hd, H8⟩ ?_
       simp only [Qc, Qd, Qe]
       apply Exists.intro
       refine ⟨fun u hu => ?_, ?_⟩
       ·have t0 := hu.1.c1
        have lt := hu.1.lt
        obtain ⟨d0, d1, d2, d3, d4, d5⟩ := hu.2.1.c6
        have ld := hu.2.1.lt
        obtain ⟨r0, r1⟩ := hu.2.2.c2
        have lr := hu.2.2.lt
        repeat (first | go_big_quiet_skip | (go_big_quiet_want; go_big_quiet_op; go_big_quiet_on))
        refine wpQuiet_nil ?_
        rfl
       refine Qk 7 rfl (by kernel_rfl) ?_
       simp only [Qc, Qd, Qe]
       go_wp2_with (first | (go_at_call 117; (with_reducible refine Calls.mono (Y8 ⟨Sn, Sd⟩ Se 0 be _ He) ?_); rintro e we ⟨rfl, h5, He2⟩) | (go_at_fn 117; (with_reducible refine Calls.mono (Y8 ⟨Sn, Sd⟩ Se 0 be _ He) ?_); rintro e we ⟨rfl, h5, He2⟩))
       try rw [if_pos rfl] at He2
       replace HE := h5.ext HE (fun k hk => by rw [List.mem_singleton.1 hk]; exact g3)
       replace Ht := h5.held Ht (by simp only [List.mem_singleton]; exact fun e => n4.out (by rw [e]; simp))
       replace Hf := h5.held Hf (by simp only [List.mem_singleton]; exact n3)
       replace H8 := h5.held H8 (by simp only [List.mem_singleton]; exact n8)
       replace Hd := h5.held Hd (by simp only [List.mem_singleton]; exact n2)
       have He := He2
       clear h5 He2
       refine Qh ⟨Ht, Hd, H8⟩ ?_
       refine Qr (g := 1) [8] [_] ⟨rfl, trivial⟩ (by kernel_rfl) (by kernel_rfl) ⟨Ht, Hd, H8⟩ ?_
       simp only [Qc, Qd, Qe]
       apply Exists.intro
       refine ⟨fun u hu => ?_, ?_⟩
       ·have t0 := hu.1.c1
        have lt := hu.1.lt
        obtain ⟨d0, d1, d2, d3, d4, d5⟩ := hu.2.1.c6
        have ld := hu.2.1.lt
        obtain ⟨r0, r1⟩ := hu.2.2.c2
        have lr := hu.2.2.lt
        repeat (first | go_big_quiet_skip | (go_big_quiet_want; go_big_quiet_op; go_big_quiet_on))
        refine wpQuiet_nil ?_
        rfl
       refine Qm 9 rfl (by kernel_rfl) ?_
       simp only [Qc, Qd, Qe]
       have z4 := Hd.frozen 4
       have z5 := Hd.frozen 5
       obtain ⟨x0, x1, x2, x3, x4, x5⟩ := Hd.c6
       have lx := Hd.lt
       have HE := (HE.setCell (p := ⟨bd, 4, none⟩) gd (.int .i64 Sn)).setCell (p := ⟨bd, 5, none⟩) gd (.int .i64 Sd)
       have Hd2 := Qcc Hd (.int .i64 Sn) (.int .i64 Sd)
       have Ht := Qi (Qi Ht ntd 4 (.int .i64 Sn)) ntd 5 (.int .i64 Sd)
       have Hf := Qi (Qi Hf (Ne.symm n1) 4 (.int .i64 Sn)) (Ne.symm n1) 5 (.int .i64 Sd)
       have He := Qi (Qi He (Ne.symm n2) 4 (.int .i64 Sn)) (Ne.symm n2) 5 (.int .i64 Sd)
       have Hd := Hd2
       go_wp2
       refine Ql ?_
       refine Qs (by kernel_rfl) ?_
       generalize World.setCell _ _ _ = wq at *
       clear z4 z5 x0 x1 x2 x3 x4 x5 lx Hd2
       go_wp2
       exact ⟨⟨k + 1, by omega, by go_num, ⟨X.p, X.i, ⟨Sn, Sd⟩⟩, (f k).on, Se, ⟨hX.p, hX.i, hSin⟩, HE, Ht, Hd, Hf, He, fun h => by rw [hpV.out, if_neg (by simpa using h), hm2], fun h => by rw [hpV.out, if_pos h]⟩, by simp [intOf]; omega⟩
      ·have g0 : (ee == 0) = false := beq_eq_false_iff_ne.2 h0
       go_wp2
       exact ⟨⟨k + 1, by omega, by go_num, X, (f k).on, ee, hX, HE, Ht, Hd, Hf, He, fun h => absurd h h0, h2⟩, by simp [intOf]; omega⟩
  ·obtain rfl : k = n := by omega
   by_cases h0 : ee = 0
   ·subst h0
    have hVA : Hid (V = Ut (Zh c l.r X fr on)) := by
     have := h1.out rfl
     rw [Nat.sub_self] at this
     exact this
    clear h1 h2
    have e0 := He.c1
    have le := He.lt
    have B3e := B3.ext HE
    obtain ⟨o0, o1, o2, o3⟩ := B3e.c4
    have lo := B3e.lt
    have NA := Hm A A' ca cb c l hr X hX fr on bt bd b2 b1 bf be v _ HE C Z0 Ht Hd (B2.ext HE) (B1.ext HE) Hf He g3 n1 n2 n3 n4.out n5.out n6.out
    go_upto_region 24 with (first | (go_at_call 118; (with_reducible refine Calls.mono (NA) ?_); rintro e wk ⟨rfl, hO, hf, he, Y, hYin, hd, hY⟩) | (go_at_fn 118; (with_reducible refine Calls.mono (NA) ?_); rintro e wk ⟨rfl, hO, hf, he, Y, hYin, hd, hY⟩))
    replace HE := hO.ext HE gS.out
    replace Ht := hO.held Ht n4.out
    clear hO Hd Hf He NA
    have Hd := hd
    have Hf := hf
    have He := he
    clear hd hf he
    clear e0 le o0 o1 o2 o3 lo B3e
    generalize Zh c l.r X fr on = a at *
    obtain ⟨aX, ae⟩ := a
    simp only [] at He hY hVA
    by_cases h0 : ae = 0
    ·subst h0
     have hy := hY rfl
     subst hy
     have hV : Hid (V = (Y, 0)) := by unfold Hid; rw [hVA.out]; exact D8 rfl
     clear hVA hY
     have e0 := He.c1
     have le := He.lt
     have R4 := B4.ext HE
     obtain ⟨d0, d1, d2, d3, d4, d5⟩ := Hd.c6
     have ld := Hd.lt
     have z0 := R4.frozen 0
     have z1 := R4.frozen 1
     have z2 := R4.frozen 2
     have z3 := R4.frozen 3
     have z4 := R4.frozen 4
     have z5 := R4.frozen 5
     obtain ⟨x0, x1, x2, x3, x4, x5⟩ := R4.c6
     have lx := R4.lt
     have R6 := Yv R4 (.int .i64 Y.p.n) (.int .i64 Y.p.d) (.int .i64 Y.i.n) (.int .i64 Y.i.d) (.int .i64 Y.s.n) (.int .i64 Y.s.d)
     have EF := Yu (E.trans HE) hbr (.int .i64 Y.p.n) (.int .i64 Y.p.d) (.int .i64 Y.i.n) (.int .i64 Y.i.d) (.int .i64 Y.s.n) (.int .i64 Y.s.d)
     obtain ⟨y0, y1, y2, y3, y4, y5⟩ := R6.c6
     go_wp2
     refine bodyPost_ret (v := .tuple #[.agg #[.int .i64 Y.p.n, .int .i64 Y.p.d, .int .i64 Y.i.n, .int .i64 Y.i.d, .int .i64 Y.s.n, .int .i64 Y.s.d], .int .i64 0]) (by simp [results, Tryz.results66, go_sem, y0, y1, y2, y3, y4, y5]) rfl ⟨by rw [hV.out], EF⟩
    ·have g0 : (ae == 0) = false := beq_eq_false_iff_ne.2 h0
     have hV : Hid (V = (Jz, ae)) := by unfold Hid; rw [hVA.out]; exact Ku h0
     clear hVA hY h0
     have g0n : (ae != 0) = true := by rw [bne, g0]; rfl
     have e0 := He.c1
     have le := He.lt
     go_upto_region 25 with (fail)
     clear e0 le
     apply O8 (S := fun w' => Qa w w' ∧ Qb w' b4 72 #[.int .i64 0, .int .i64 0, .int .i64 0, .int .i64 0, .int .i64 0, .int .i64 0])
     ·refine Q1 4 [3] (fun x => X0 x be 29 #[.int .i64 ae]) Qq rfl ?_
      intro vz hvz
      replace He := He.ext hvz
      replace HE := HE.trans hvz
      clear hvz
      refine Qr (g := 2) [0, 1] [_, _] ⟨rfl, rfl, trivial⟩ (by kernel_rfl) (by kernel_rfl) (X0.mk He) ?_
      simp only [Qc, Qd, Qe]
      apply Exists.intro
      refine ⟨fun u hu => ?_, ?_⟩
      ·have e0 := hu.out.c1
       have le := hu.out.lt
       repeat (first | go_big_quiet_skip | (go_big_quiet_want; go_big_quiet_op; go_big_quiet_on))
       refine wpQuiet_nil ?_
       rfl
      refine Qk 2 rfl (by kernel_rfl) ?_
      simp only [Qc, Qd, Qe]
      have R4 := B4.ext HE
      have z0 := R4.frozen 0
      have z1 := R4.frozen 1
      have z2 := R4.frozen 2
      have z3 := R4.frozen 3
      have z4 := R4.frozen 4
      have z5 := R4.frozen 5
      obtain ⟨x0, x1, x2, x3, x4, x5⟩ := R4.c6
      have lx := R4.lt
      go_wp2
      have R6 := Yv R4 (.int .i64 0) (.int .i64 0) (.int .i64 0) (.int .i64 0) (.int .i64 0) (.int .i64 0)
      have EF := Yu (E.trans HE) hbr (.int .i64 0) (.int .i64 0) (.int .i64 0) (.int .i64 0) (.int .i64 0) (.int .i64 0)
      replace He := Nv He hbe4 (.int .i64 0) (.int .i64 0) (.int .i64 0) (.int .i64 0) (.int .i64 0) (.int .i64 0)
      clear z0 z1 z2 z3 z4 z5 x0 x1 x2 x3 x4 x5 lx R4
      generalize World.setCell _ _ _ = wq at *
      refine Qh (X0.mk He) ?_
      refine Qm 3 rfl (by kernel_rfl) ?_
      simp only [Qc, Qd, Qe]
      go_wp2
      refine Ql ?_
      refine Qs (by kernel_rfl) ?_
      exact ⟨rfl, ⟨EF, R6⟩, rfl⟩
     rintro w9 ⟨EF, R6⟩
     obtain ⟨y0, y1, y2, y3, y4, y5⟩ := R6.c6
     go_wp2
     refine bodyPost_ret (v := .tuple #[.agg #[.int .i64 0, .int .i64 0, .int .i64 0, .int .i64 0, .int .i64 0, .int .i64 0], .int .i64 ae]) (by simp [results, Tryz.results66, go_sem, y0, y1, y2, y3, y4, y5]) rfl ⟨by rw [hV.out]; rfl, EF⟩
   ·have g0 : (ee == 0) = false := beq_eq_false_iff_ne.2 h0
    have hV := Lib.hid (h2.out h0)
    clear h1 h2 h0
    have g0n : (ee != 0) = true := by rw [bne, g0]; rfl
    have e0 := He.c1
    have le := He.lt
    go_upto_region 25 with (fail)
    clear e0 le
    apply O8 (S := fun w' => Qa w w' ∧ Qb w' b4 72 #[.int .i64 0, .int .i64 0, .int .i64 0, .int .i64 0, .int .i64 0, .int .i64 0])
    ·refine Q1 4 [3] (fun x => X0 x be 29 #[.int .i64 ee]) Qq rfl ?_
     intro vz hvz
     replace He := He.ext hvz
     replace HE := HE.trans hvz
     clear hvz
     refine Qr (g := 2) [0, 1] [_, _] ⟨rfl, rfl, trivial⟩ (by kernel_rfl) (by kernel_rfl) (X0.mk He) ?_
     simp only [Qc, Qd, Qe]
     apply Exists.intro
     refine ⟨fun u hu => ?_, ?_⟩
     ·have e0 := hu.out.c1
      have le := hu.out.lt
      repeat (first | go_big_quiet_skip | (go_big_quiet_want; go_big_quiet_op; go_big_quiet_on))
      refine wpQuiet_nil ?_
      rfl
     refine Qk 2 rfl (by kernel_rfl) ?_
     simp only [Qc, Qd, Qe]
     have R4 := B4.ext HE
     have z0 := R4.frozen 0
     have z1 := R4.frozen 1
     have z2 := R4.frozen 2
     have z3 := R4.frozen 3
     have z4 := R4.frozen 4
     have z5 := R4.frozen 5
     obtain ⟨x0, x1, x2, x3, x4, x5⟩ := R4.c6
     have lx := R4.lt
     go_wp2
     have R6 := Yv R4 (.int .i64 0) (.int .i64 0) (.int .i64 0) (.int .i64 0) (.int .i64 0) (.int .i64 0)
     have EF := Yu (E.trans HE) hbr (.int .i64 0) (.int .i64 0) (.int .i64 0) (.int .i64 0) (.int .i64 0) (.int .i64 0)
     replace He := Nv He hbe4 (.int .i64 0) (.int .i64 0) (.int .i64 0) (.int .i64 0) (.int .i64 0) (.int .i64 0)
     clear z0 z1 z2 z3 z4 z5 x0 x1 x2 x3 x4 x5 lx R4
     generalize World.setCell _ _ _ = wq at *
     refine Qh (X0.mk He) ?_
     refine Qm 3 rfl (by kernel_rfl) ?_
     simp only [Qc, Qd, Qe]
     go_wp2
     refine Ql ?_
     refine Qs (by kernel_rfl) ?_
     exact ⟨rfl, ⟨EF, R6⟩, rfl⟩
    rintro w9 ⟨EF, R6⟩
    obtain ⟨y0, y1, y2, y3, y4, y5⟩ := R6.c6
    go_wp2
    refine bodyPost_ret (v := .tuple #[.agg #[.int .i64 0, .int .i64 0, .int .i64 0, .int .i64 0, .int .i64 0, .int .i64 0], .int .i64 ee]) (by simp [results, Tryz.results66, go_sem, y0, y1, y2, y3, y4, y5]) rfl ⟨by rw [hV.out]; rfl, EF⟩
theorem Lc {c : Qf} {r : Rt} {x : Db} {a b : Dt} (h : x.In) : (Zh c r x a b).1.In := by
 unfold Zh
 split
 ·exact h
 ·split
  ·exact h
  ·exact ⟨h.p, Vq _ _, h.s⟩
theorem Bw {x : Db} {n : Rt} (h : x.In) : (Yb x n).1.In := by
 unfold Yb
 split
 ·exact h
 ·split
  ·exact h
  ·split
   ·exact h
   ·exact ⟨N8.1, N8.1, Vq _ _⟩
theorem Bn (c : Qf) (r : Rt) (f : Nat → Z8) (on : Dt) : ∀ m k x a, Db.In x → (Xl c r f on k m x a).1.In
 | 0, _, _, _, h => Lc h
 | m + 1, k, x, a, h => by
  rw [Xl]
  split
  ·exact Lc h
  ·split
   ·exact Lc h
   ·split
    ·exact Bw (Lc h)
    ·exact Bn c r f on m (k + 1) _ _ (Bw (Lc h))
theorem Qew (c : Qf) (l : Ln) (f : Nat → Z8) (n : Nat) (on : Dt) (hp : l.p.In) : (c.owedV l f n on).1.p.In ∧ (c.owedV l f n on).1.i.In := by
 have h0 : Jz.In := ⟨Yx, Yx, Yx⟩
 have h1 : (start l).In := ⟨hp, Uc, Uc⟩
 have H : (c.owedV l f n on).1.In := by
  unfold Qf.owedV
  split
  ·exact h0
  ·split
   ·exact h0
   ·split
    ·exact h0
    ·split
     ·exact h0
     ·exact Bn c l.r f on n 0 _ _ h1
 exact ⟨H.p, H.i⟩
theorem Bm (A A' : Option Addr) (ca cb : Nat) (c : Qf) (B : Option Addr) (n cap : Nat) (l : Ln) (f : Nat → Z8) (hp : l.p.In) (hr : l.r.In) (hin : ∀ i, i < n → (f i).n.In) (w : World) (hC : Zg w A ca A' cb c) (hB : Qo w B n 6 (Ye f)) (hn : n ≤ 9223372036854775807) (hZ : Zu w) (on : Dt) :
  Calls Tryz.prog 23 #[.agg #[.slice A c.nk ca, .slice A' c.ny cb], .agg #[.int .i64 l.p.n, .int .i64 l.p.d, .int .i64 l.r.n, .int .i64 l.r.d, .int .i64 l.f.y, .int .i64 l.f.m, .bool l.f.s, .int .i64 l.f.d], .slice B n cap, .agg #[.int .i64 on.y, .int .i64 on.m, .bool on.s, .int .i64 on.d]] w fun e w' => e = .returned (.tuple #[.agg #[.int .i64 (c.owedV l f n on).1.p.n, .int .i64 (c.owedV l f n on).1.p.d, .int .i64 (c.owedV l f n on).1.i.n, .int .i64 (c.owedV l f n on).1.i.d, .int .i64 (c.owedV l f n on).1.s.n, .int .i64 (c.owedV l f n on).1.s.d], .int .i64 (c.owedV l f n on).2]) ∧ Qa w w' := by
 have NO := fun w h => L9 A A' ca cb c w h
 have NC := fun hv w h1 h2 => Qal A A' ca cb c B n cap l f hp hr hin w h1 h2 hn hv
 have NW := fun w h1 h2 z => Qey A A' ca cb c B n cap l f hp hr hin w h1 h2 hn z on
 have ND := fun d w h => Wi A A' ca cb c d w h
 obtain ⟨R, hR0⟩ := Qg (c.owedV l f n on)
 rw [← hR0]
 have HR := Lib.hid hR0
 clear hR0
 go_enter Tryz.func23, Tryz.ntmps23
 go_upto_region 1 with (fail)
 obtain ⟨v, hv⟩ := Qg ((((w.alloc (.cells #[.slice A c.nk ca, .slice A' c.ny cb] 25)).alloc (.cells #[.int .i64 l.p.n, .int .i64 l.p.d, .int .i64 l.r.n, .int .i64 l.r.d, .int .i64 l.f.y, .int .i64 l.f.m, .bool l.f.s, .int .i64 l.f.d] 67)).alloc (.cells #[.int .i64 on.y, .int .i64 on.m, .bool on.s, .int .i64 on.d] 51)).alloc (.cells #[.int .i64 0, .int .i64 0, .int .i64 0, .int .i64 0, .int .i64 0, .int .i64 0] 72))
 rw [← hv]
 have E : Qa w v := by rw [hv]; exact ((((Qa.refl _).alloc _).alloc _).alloc _).alloc _
 have B1 : Qb v w.heap.size 25 #[.slice A c.nk ca, .slice A' c.ny cb] := by rw [hv]; exact (((Qb.new _ _ _).alloc _).alloc _).alloc _
 have B2 : Qb v (w.heap.size + 1) 67 #[.int .i64 l.p.n, .int .i64 l.p.d, .int .i64 l.r.n, .int .i64 l.r.d, .int .i64 l.f.y, .int .i64 l.f.m, .bool l.f.s, .int .i64 l.f.d] := by rw [hv]; exact ((Qb.at _ _ _ _ (by simp)).alloc _).alloc _
 have B3 : Qb v (w.heap.size + 1 + 1) 51 #[.int .i64 on.y, .int .i64 on.m, .bool on.s, .int .i64 on.d] := by rw [hv]; exact (Qb.at _ _ _ _ (by simp)).alloc _
 have B4 : Qb v (w.heap.size + 1 + 1 + 1) 72 #[.int .i64 0, .int .i64 0, .int .i64 0, .int .i64 0, .int .i64 0, .int .i64 0] := by rw [hv]; exact Qb.at _ _ _ _ (by simp)
 clear hv
 obtain ⟨b4, hb4⟩ := Qg (w.heap.size + 1 + 1 + 1)
 rw [← hb4] at B4 ⊢
 obtain ⟨b3, hb3⟩ := Qg (w.heap.size + 1 + 1)
 rw [← hb3] at B3 ⊢
 obtain ⟨b2, hb2⟩ := Qg (w.heap.size + 1)
 rw [← hb2] at B2 ⊢
 obtain ⟨b1, hb1⟩ := Qg (w.heap.size)
 rw [← hb1] at B1 ⊢
 have hbr : w.heap.size ≤ b4 := by omega
 have hbr1 : w.heap.size ≤ b1 := by omega
 have hbr2 : w.heap.size ≤ b2 := by omega
 have hbr3 : w.heap.size ≤ b3 := by omega
 have hn21 : b2 ≠ b1 := by omega
 have hn31 : b3 ≠ b1 := by omega
 have hn32 : b3 ≠ b2 := by omega
 have hn41 : b4 ≠ b1 := by omega
 have hn42 : b4 ≠ b2 := by omega
 have hn43 : b4 ≠ b3 := by omega
 clear hb1 hb2 hb3 hb4
 have RB := hB.ext E
 have Z0 := hZ.ext E
 have C := hC.ext E
 clear hB hZ
 obtain ⟨k0, k1⟩ := B1.c2
 have lk := B1.lt
 cases hv : c.valid
 ·have hr9 : R = (Jz, 70) := by rw [HR.out]; unfold Qf.owedV Qf.loanE; rw [hv]; rfl
  have hc : c.chk = 70 := by unfold Qf.chk; rw [hv]; rfl
  simp only [hc] at NO
  subst hr9
  clear HR hc hv NC NW ND
  go_upto_region 2 with (go_at_call 64; (with_reducible refine Calls.mono (NO _ (hC.ext E)) ?_); rintro e w1 ⟨rfl, h1⟩)
  obtain ⟨v3, hv⟩ := Qg (w1.alloc (.cells #[.slice A c.nk ca, .slice A' c.ny cb] 130))
  rw [← hv]
  have h3 : Qa w1 v3 := by rw [hv]; exact (Qa.refl _).alloc _
  have H3 : Qb v3 w1.heap.size 130 #[.slice A c.nk ca, .slice A' c.ny cb] := by rw [hv]; exact Qb.new _ _ _
  clear hv
  generalize w1.heap.size = b9 at *
  replace E := (E.trans h1).trans h3
  replace B4 := (B4.ext h1).ext h3
  have z0 := B4.frozen 0
  have z1 := B4.frozen 1
  have z2 := B4.frozen 2
  have z3 := B4.frozen 3
  have z4 := B4.frozen 4
  have z5 := B4.frozen 5
  obtain ⟨x0, x1, x2, x3, x4, x5⟩ := B4.c6
  have lx := B4.lt
  have H9 := Yv B4 (.int .i64 0) (.int .i64 0) (.int .i64 0) (.int .i64 0) (.int .i64 0) (.int .i64 0)
  have EF := Yu E hbr (.int .i64 0) (.int .i64 0) (.int .i64 0) (.int .i64 0) (.int .i64 0) (.int .i64 0)
  obtain ⟨y0, y1, y2, y3, y4, y5⟩ := H9.c6
  go_wp2
  refine bodyPost_ret (v := .tuple #[.agg #[.int .i64 0, .int .i64 0, .int .i64 0, .int .i64 0, .int .i64 0, .int .i64 0], .int .i64 70]) (by simp [results, Tryz.results23, go_sem, y0, y1, y2, y3, y4, y5]) rfl ⟨rfl, EF⟩
 ·have hc : c.chk = 0 := by unfold Qf.chk; rw [hv]; rfl
  simp only [hc] at NO
  replace NC := NC hv
  clear hv hc
  go_upto_region 4 with (go_at_call 64; (with_reducible refine Calls.mono (NO _ (hC.ext E)) ?_); rintro e w1 ⟨rfl, h1⟩)
  obtain ⟨v3, hv⟩ := Qg (w1.alloc (.cells #[.slice A c.nk ca, .slice A' c.ny cb] 130))
  rw [← hv]
  have h3 : Qa w1 v3 := by rw [hv]; exact (Qa.refl _).alloc _
  have H3 : Qb v3 w1.heap.size 130 #[.slice A c.nk ca, .slice A' c.ny cb] := by rw [hv]; exact Qb.new _ _ _
  clear hv
  generalize w1.heap.size = b9 at *
  replace E := (E.trans h1).trans h3
  replace B2 := (B2.ext h1).ext h3
  replace B3 := (B3.ext h1).ext h3
  replace B4 := (B4.ext h1).ext h3
  replace RB := (RB.ext h1).ext h3
  replace Z0 := (Z0.ext h1).ext h3
  replace C := (C.ext h1).ext h3
  clear h1 h3 k0 k1 lk B1 NO
  obtain ⟨k0, k1⟩ := H3.c2
  have lk := H3.lt
  obtain ⟨p0, p1, p2, p3, p4, p5, p6, p7⟩ := B2.c8
  have lp := B2.lt
  have HE := Lib.hid (show c.loanE l f n = c.loanE l f n from rfl)
  obtain ⟨q, hq⟩ := Qg (c.loanE l f n)
  simp only [← hq] at NC
  replace hq := Lib.hid hq
  clear HE
  go_upto_region 5 with (go_at_call 65; (with_reducible refine Calls.mono (NC _ C RB) ?_); rintro e w2 ⟨rfl, h1⟩)
  replace E := E.trans h1
  replace B2 := B2.ext h1
  replace B3 := B3.ext h1
  replace B4 := B4.ext h1
  replace H3 := H3.ext h1
  replace RB := RB.ext h1
  replace Z0 := Z0.ext h1
  replace C := C.ext h1
  clear h1 k0 k1 lk p0 p1 p2 p3 p4 p5 p6 p7 lp NC
  by_cases e0 : q = 0
  rotate_left
  ·have g0 : (q == 0) = false := beq_eq_false_iff_ne.2 e0
   have g0n : (q != 0) = true := by rw [bne, g0]; rfl
   have hr9 : R = (Jz, q) := by rw [HR.out, hq.out]; unfold Qf.owedV; rw [if_pos (by rw [← hq.out]; exact e0)]
   subst hr9
   clear HR e0 hq NW ND
   have z0 := B4.frozen 0
   have z1 := B4.frozen 1
   have z2 := B4.frozen 2
   have z3 := B4.frozen 3
   have z4 := B4.frozen 4
   have z5 := B4.frozen 5
   obtain ⟨x0, x1, x2, x3, x4, x5⟩ := B4.c6
   have lx := B4.lt
   have H9 := Yv B4 (.int .i64 0) (.int .i64 0) (.int .i64 0) (.int .i64 0) (.int .i64 0) (.int .i64 0)
   have EF := Yu E hbr (.int .i64 0) (.int .i64 0) (.int .i64 0) (.int .i64 0) (.int .i64 0) (.int .i64 0)
   obtain ⟨y0, y1, y2, y3, y4, y5⟩ := H9.c6
   go_wp2
   refine bodyPost_ret (v := .tuple #[.agg #[.int .i64 0, .int .i64 0, .int .i64 0, .int .i64 0, .int .i64 0, .int .i64 0], .int .i64 q]) (by simp [results, Tryz.results23, go_sem, y0, y1, y2, y3, y4, y5]) rfl ⟨rfl, EF⟩
  subst e0
  obtain ⟨k0, k1⟩ := H3.c2
  have lk := H3.lt
  obtain ⟨p0, p1, p2, p3, p4, p5, p6, p7⟩ := B2.c8
  have lp := B2.lt
  obtain ⟨o0, o1, o2, o3⟩ := B3.c4
  have lo := B3.lt
  have HR2 : Hid (R = if c.numV on = 0 then (Jz, 71) else if c.numV on < c.numV l.f then (Jz, 8) else J7 c l.r f on 0 n (start l) l.f) := by
   unfold Hid
   by_cases d0 : c.numV on = 0
   ·rw [HR.out, if_pos d0]; unfold Qf.owedV; rw [← hq.out, if_neg (by simp), if_pos d0]
   ·by_cases d1 : c.numV on < c.numV l.f
    ·rw [HR.out, if_neg d0, if_pos d1]; unfold Qf.owedV; rw [← hq.out, if_neg (by simp), if_neg d0, if_pos d1]
    ·rw [HR.out, if_neg d0, if_neg d1]; exact Qex hq.out.symm d0 d1
  clear HR hq
  generalize J7 c l.r f on 0 n (start l) l.f = Q at *
  have ND1 := fun w h => ND on w h
  have ND2 := fun w h => ND l.f w h
  clear ND
  generalize c.numV on = N at *
  generalize c.numV l.f = M at *
  go_upto_region 8 with (go_at_call 48; (with_reducible refine Calls.mono (ND1 _ C) ?_); rintro e w3 ⟨rfl, hd⟩)
  replace E := E.trans hd
  replace B2 := B2.ext hd
  replace B3 := B3.ext hd
  replace B4 := B4.ext hd
  replace H3 := H3.ext hd
  replace RB := RB.ext hd
  replace Z0 := Z0.ext hd
  replace C := C.ext hd
  clear hd k0 k1 lk p0 p1 p2 p3 p4 p5 p6 p7 lp o0 o1 o2 o3 lo ND1
  by_cases d0 : N = 0
  ·subst d0
   have hr9 := HR2.out
   rw [if_pos rfl] at hr9
   subst hr9
   clear HR2 NW ND2
   have z0 := B4.frozen 0
   have z1 := B4.frozen 1
   have z2 := B4.frozen 2
   have z3 := B4.frozen 3
   have z4 := B4.frozen 4
   have z5 := B4.frozen 5
   obtain ⟨x0, x1, x2, x3, x4, x5⟩ := B4.c6
   have lx := B4.lt
   have H9 := Yv B4 (.int .i64 0) (.int .i64 0) (.int .i64 0) (.int .i64 0) (.int .i64 0) (.int .i64 0)
   have EF := Yu E hbr (.int .i64 0) (.int .i64 0) (.int .i64 0) (.int .i64 0) (.int .i64 0) (.int .i64 0)
   obtain ⟨y0, y1, y2, y3, y4, y5⟩ := H9.c6
   go_wp2
   refine bodyPost_ret (v := .tuple #[.agg #[.int .i64 0, .int .i64 0, .int .i64 0, .int .i64 0, .int .i64 0, .int .i64 0], .int .i64 71]) (by simp [results, Tryz.results23, go_sem, y0, y1, y2, y3, y4, y5]) rfl ⟨rfl, EF⟩
  have d0b : (N == 0) = false := beq_eq_false_iff_ne.2 d0
  have HR3 : Hid (R = if N < M then (Jz, 8) else Q) := by unfold Hid; rw [HR2.out, if_neg d0]
  clear HR2 d0
  obtain ⟨k0, k1⟩ := H3.c2
  have lk := H3.lt
  obtain ⟨p0, p1, p2, p3, p4, p5, p6, p7⟩ := B2.c8
  have lp := B2.lt
  obtain ⟨o0, o1, o2, o3⟩ := B3.c4
  have lo := B3.lt
  have DAYARM := ND2 _ C
  by_cases d1 : N < M
  ·have d1b : decide (N < M) = true := decide_eq_true d1
   have hr9 := HR3.out
   rw [if_pos d1] at hr9
   subst hr9
   clear HR3 NW d1
   go_upto_region 11 with (go_at_call 48; (with_reducible refine Calls.mono (ND2 _ C) ?_); rintro e w4 ⟨rfl, hd⟩)
   replace E := E.trans hd
   replace B4 := B4.ext hd
   have z0 := B4.frozen 0
   have z1 := B4.frozen 1
   have z2 := B4.frozen 2
   have z3 := B4.frozen 3
   have z4 := B4.frozen 4
   have z5 := B4.frozen 5
   obtain ⟨x0, x1, x2, x3, x4, x5⟩ := B4.c6
   have lx := B4.lt
   have H9 := Yv B4 (.int .i64 0) (.int .i64 0) (.int .i64 0) (.int .i64 0) (.int .i64 0) (.int .i64 0)
   have EF := Yu E hbr (.int .i64 0) (.int .i64 0) (.int .i64 0) (.int .i64 0) (.int .i64 0) (.int .i64 0)
   obtain ⟨y0, y1, y2, y3, y4, y5⟩ := H9.c6
   go_wp2
   refine bodyPost_ret (v := .tuple #[.agg #[.int .i64 0, .int .i64 0, .int .i64 0, .int .i64 0, .int .i64 0, .int .i64 0], .int .i64 8]) (by simp [results, Tryz.results23, go_sem, y0, y1, y2, y3, y4, y5]) rfl ⟨rfl, EF⟩
  ·have d1b : decide (N < M) = false := decide_eq_false d1
   have hr9 := HR3.out
   rw [if_neg d1] at hr9
   subst hr9
   clear HR3 d1
   go_upto_region 12 with (go_at_call 48; (with_reducible refine Calls.mono (ND2 _ C) ?_); rintro e w4 ⟨rfl, hd⟩)
   replace E := E.trans hd
   replace B2 := B2.ext hd
   replace B3 := B3.ext hd
   replace B4 := B4.ext hd
   replace H3 := H3.ext hd
   replace RB := RB.ext hd
   replace Z0 := Z0.ext hd
   replace C := C.ext hd
   clear hd k0 k1 lk p0 p1 p2 p3 p4 p5 p6 p7 lp o0 o1 o2 o3 lo ND2 DAYARM
   obtain ⟨k0, k1⟩ := H3.c2
   have lk := H3.lt
   obtain ⟨p0, p1, p2, p3, p4, p5, p6, p7⟩ := B2.c8
   have lp := B2.lt
   obtain ⟨o0, o1, o2, o3⟩ := B3.c4
   have lo := B3.lt
   obtain ⟨⟨⟨Pn, Pd⟩, ⟨In_, Id⟩, ⟨Sn, Sd⟩⟩, Re⟩ := R
   go_wp2_with (go_at_call 66; (with_reducible refine Calls.mono (NW _ C RB Z0) ?_); rintro e w5 ⟨rfl, h1⟩; replace E := E.trans h1; replace B4 := B4.ext h1; have z0 := B4.frozen 0; have z1 := B4.frozen 1; have z2 := B4.frozen 2; have z3 := B4.frozen 3; have z4 := B4.frozen 4; have z5 := B4.frozen 5; obtain ⟨x0, x1, x2, x3, x4, x5⟩ := B4.c6; have lx := B4.lt)
   have H9 := Yv B4 (.int .i64 Pn) (.int .i64 Pd) (.int .i64 In_) (.int .i64 Id) (.int .i64 Sn) (.int .i64 Sd)
   have EF := Yu E hbr (.int .i64 Pn) (.int .i64 Pd) (.int .i64 In_) (.int .i64 Id) (.int .i64 Sn) (.int .i64 Sd)
   obtain ⟨y0, y1, y2, y3, y4, y5⟩ := H9.c6
   go_wp2
   refine bodyPost_ret (v := .tuple #[.agg #[.int .i64 Pn, .int .i64 Pd, .int .i64 In_, .int .i64 Id, .int .i64 Sn, .int .i64 Sd], .int .i64 Re]) (by simp [results, Tryz.results23, go_sem, y0, y1, y2, y3, y4, y5]) rfl ⟨rfl, EF⟩
theorem Qfz (A A' : Option Addr) (ca cb : Nat) (c : Qf) (B : Option Addr) (n cap : Nat) (l : Ln) (f : Nat → Z8) (hp : l.p.In) (hr : l.r.In) (hin : ∀ i, i < n → (f i).n.In) (w : World) (hC : Zg w A ca A' cb c) (hB : Qo w B n 6 (Ye f)) (hn : n ≤ 9223372036854775807) (hZ : Zu w) (on : Dt) :
  Calls Tryz.prog 39 #[.agg #[.slice A c.nk ca, .slice A' c.ny cb], .agg #[.int .i64 l.p.n, .int .i64 l.p.d, .int .i64 l.r.n, .int .i64 l.r.d, .int .i64 l.f.y, .int .i64 l.f.m, .bool l.f.s, .int .i64 l.f.d], .slice B n cap, .agg #[.int .i64 on.y, .int .i64 on.m, .bool on.s, .int .i64 on.d]] w fun e w' => e = .returned (.tuple #[.agg #[.int .i64 (c.settleV l f n on).1.n, .int .i64 (c.settleV l f n on).1.d], .int .i64 (c.settleV l f n on).2]) ∧ Qa w w' := by
 have NO := fun w h1 h2 z => Bm A A' ca cb c B n cap l f hp hr hin w h1 h2 hn z on
 have hoi := Qew c l f n on hp
 obtain ⟨R, hR0⟩ := Qg (c.settleV l f n on)
 rw [← hR0]
 have HR := Lib.hid hR0
 clear hR0
 go_enter Tryz.func39, Tryz.ntmps39
 go_upto_region 1 with (fail)
 obtain ⟨v, hv⟩ := Qg ((((w.alloc (.cells #[.slice A c.nk ca, .slice A' c.ny cb] 25)).alloc (.cells #[.int .i64 l.p.n, .int .i64 l.p.d, .int .i64 l.r.n, .int .i64 l.r.d, .int .i64 l.f.y, .int .i64 l.f.m, .bool l.f.s, .int .i64 l.f.d] 67)).alloc (.cells #[.int .i64 on.y, .int .i64 on.m, .bool on.s, .int .i64 on.d] 51)).alloc (.cells #[.int .i64 0, .int .i64 0] 65))
 rw [← hv]
 have E : Qa w v := by rw [hv]; exact ((((Qa.refl _).alloc _).alloc _).alloc _).alloc _
 have B1 : Qb v w.heap.size 25 #[.slice A c.nk ca, .slice A' c.ny cb] := by rw [hv]; exact (((Qb.new _ _ _).alloc _).alloc _).alloc _
 have B2 : Qb v (w.heap.size + 1) 67 #[.int .i64 l.p.n, .int .i64 l.p.d, .int .i64 l.r.n, .int .i64 l.r.d, .int .i64 l.f.y, .int .i64 l.f.m, .bool l.f.s, .int .i64 l.f.d] := by rw [hv]; exact ((Qb.at _ _ _ _ (by simp)).alloc _).alloc _
 have B3 : Qb v (w.heap.size + 1 + 1) 51 #[.int .i64 on.y, .int .i64 on.m, .bool on.s, .int .i64 on.d] := by rw [hv]; exact (Qb.at _ _ _ _ (by simp)).alloc _
 have B4 : Qb v (w.heap.size + 1 + 1 + 1) 65 #[.int .i64 0, .int .i64 0] := by rw [hv]; exact Qb.at _ _ _ _ (by simp)
 clear hv
 obtain ⟨b4, hb4⟩ := Qg (w.heap.size + 1 + 1 + 1)
 rw [← hb4] at B4 ⊢
 obtain ⟨b3, hb3⟩ := Qg (w.heap.size + 1 + 1)
 rw [← hb3] at B3 ⊢
 obtain ⟨b2, hb2⟩ := Qg (w.heap.size + 1)
 rw [← hb2] at B2 ⊢
 obtain ⟨b1, hb1⟩ := Qg (w.heap.size)
 rw [← hb1] at B1 ⊢
 have hbr : w.heap.size ≤ b4 := by omega
 have hbr1 : w.heap.size ≤ b1 := by omega
 have hbr2 : w.heap.size ≤ b2 := by omega
 have hbr3 : w.heap.size ≤ b3 := by omega
 have hn21 : b2 ≠ b1 := by omega
 have hn31 : b3 ≠ b1 := by omega
 have hn32 : b3 ≠ b2 := by omega
 have hn41 : b4 ≠ b1 := by omega
 have hn42 : b4 ≠ b2 := by omega
 have hn43 : b4 ≠ b3 := by omega
 clear hb1 hb2 hb3 hb4
 have RB := hB.ext E
 have Z0 := hZ.ext E
 have C := hC.ext E
 clear hB hZ hC
 obtain ⟨k0, k1⟩ := B1.c2
 have lk := B1.lt
 obtain ⟨p0, p1, p2, p3, p4, p5, p6, p7⟩ := B2.c8
 have lp := B2.lt
 obtain ⟨o0, o1, o2, o3⟩ := B3.c4
 have lo := B3.lt
 have HR2 : Hid (R = if (c.owedV l f n on).2 ≠ 0 then (Zd, (c.owedV l f n on).2) else Q4 (c.owedV l f n on).1.p (c.owedV l f n on).1.i) := HR
 clear HR
 generalize c.owedV l f n on = Q at *
 obtain ⟨⟨⟨Pn, Pd⟩, ⟨In_, Id⟩, ⟨Sn, Sd⟩⟩, Re⟩ := Q
 obtain ⟨hi1, hi2⟩ := hoi
 simp only [] at HR2 NO hi1 hi2
 go_upto_region 2 with (go_at_call 23; (with_reducible refine Calls.mono (NO _ C RB Z0) ?_); rintro e w1 ⟨rfl, h1⟩)
 obtain ⟨v3, hv⟩ := Qg (w1.alloc (.cells #[.int .i64 Pn, .int .i64 Pd, .int .i64 In_, .int .i64 Id, .int .i64 Sn, .int .i64 Sd] 72))
 rw [← hv]
 have h3 : Qa w1 v3 := by rw [hv]; exact (Qa.refl _).alloc _
 have H3 : Qb v3 w1.heap.size 72 #[.int .i64 Pn, .int .i64 Pd, .int .i64 In_, .int .i64 Id, .int .i64 Sn, .int .i64 Sd] := by rw [hv]; exact Qb.new _ _ _
 clear hv
 generalize w1.heap.size = b9 at *
 replace E := (E.trans h1).trans h3
 replace B4 := (B4.ext h1).ext h3
 replace Z0 := (Z0.ext h1).ext h3
 clear h1 h3 k0 k1 lk B1 NO p0 p1 p2 p3 p4 p5 p6 p7 lp o0 o1 o2 o3 lo B2 B3 C RB
 by_cases e0 : Re = 0
 rotate_left
 ·have g0 : (Re == 0) = false := beq_eq_false_iff_ne.2 e0
  have g0n : (Re != 0) = true := by rw [bne, g0]; rfl
  have hr9 := HR2.out
  rw [if_pos e0] at hr9
  subst hr9
  clear HR2 e0
  have f0 := B4.frozen 0
  have f1 := B4.frozen 1
  obtain ⟨x0, x1⟩ := B4.c2
  have lx := B4.lt
  have H9 := Qn B4 (.int .i64 0) (.int .i64 0)
  have EF := (E.setCell (p := ⟨b4, 0, none⟩) hbr (.int .i64 0)).setCell (p := ⟨b4, 1, none⟩) hbr (.int .i64 0)
  obtain ⟨y0, y1⟩ := H9.c2
  go_wp2
  refine bodyPost_ret (v := .tuple #[.agg #[.int .i64 0, .int .i64 0], .int .i64 Re]) (by simp [results, Tryz.results39, go_sem, y0, y1]) rfl ⟨rfl, EF⟩
 subst e0
 have NS := fun w z => Lf ⟨Pn, Pd⟩ ⟨In_, Id⟩ hi1 hi2 w z
 have hr9 := HR2.out
 rw [if_neg (by simp)] at hr9
 rw [← hr9] at NS
 clear HR2 hr9
 obtain ⟨⟨Rn, Rd⟩, Rc⟩ := R
 obtain ⟨k0, k1, k2, k3, k4, k5⟩ := H3.c6
 have lk := H3.lt
 go_wp2_with (first | (go_at_call 86; (with_reducible refine Calls.mono (NS _ Z0) ?_); rintro e wt ⟨rfl, ht⟩; replace E := E.trans ht; replace B4 := B4.ext ht; have f0 := B4.frozen 0; have f1 := B4.frozen 1; obtain ⟨x0, x1⟩ := B4.c2; have lx := B4.lt))
 have H9 := Qn B4 (.int .i64 Rn) (.int .i64 Rd)
 have EF := (E.setCell (p := ⟨b4, 0, none⟩) hbr (.int .i64 Rn)).setCell (p := ⟨b4, 1, none⟩) hbr (.int .i64 Rd)
 obtain ⟨y0, y1⟩ := H9.c2
 go_wp2
 refine bodyPost_ret (v := .tuple #[.agg #[.int .i64 Rn, .int .i64 Rd], .int .i64 Rc]) (by simp [results, Tryz.results39, go_sem, y0, y1]) rfl ⟨rfl, EF⟩
def Zl (f : Nat → Lt) (i : Nat) : List Value := [.string (f i).g, .int .i64 (f i).n]
theorem geq_s (x y : ByteArray) (w : World) : (binOp .geq 9 (.string x) (.string y)).run Tryz.prog w = .ok (.bool (!Yd x y)) w := by
 have h : (binOp .geq 9 (.string x) (.string y)).run Tryz.prog w = .ok (.bool (!Op.bytesLess x.toList y.toList)) w := rfl
 rw [h, bytesLess_eq]; rfl
theorem Lk (T : Option Addr) (n cap : Nat) (f : Nat → Lt) (w : World) (hT : Qo w T n 2 (Zl f)) (hcap : n ≤ cap) (hn : n ≤ 9223372036854775807) :
  Calls Tryz.prog 68 #[.slice T n cap] w fun e w' => e = .returned (.int .i64 (Jt f n)) ∧ Qa w w' := by
 have hge := geq_s
 go_enter Tryz.func68, Tryz.ntmps68
 by_cases h64 : 64 < n
 ·have g1 : decide ((64 : Int) < (n : Int)) = true := decide_eq_true (by omega)
  rw [Qdf h64]
  go_wp2
  go_ret
  exact ⟨rfl, Qa.refl _⟩
 ·have g1 : decide ((64 : Int) < (n : Int)) = false := decide_eq_false (by omega)
  go_upto_region 4 with (fail)
  go_loopw [10] (fun i wr => ∃ k : Nat, k ≤ n ∧ i = .int .i64 k ∧ Hid (∀ j, j < k → U9 f j = true) ∧ Qa w wr) (fun i _ => n - (intOf i).toNat)
  case atStart => exact ⟨0, Nat.zero_le _, rfl, (fun j h => absurd h (by omega)), Qa.refl _⟩
  case round =>
   obtain ⟨k, hk, rfl, hall, hE⟩ := hrel
   obtain ⟨wo, rfl⟩ := Qg wr
   obtain ⟨hcwo, hfwo, hzwo⟩ := Qa.rules hE
   try simp only [World.size_alloc] at hzwo
   obtain ⟨hcbwo, hfbwo, hzbwo⟩ := Qa.rules (show Qa w wo from (by repeat (first | exact Qa.refl _ | (refine Qa.alloc ?_ _) | (refine Qa.trans ?_ (by assumption)))))
   clear hcwo hfwo
   by_cases hlt : k < n
   ·obtain ⟨b, off, rfl, hb, hc⟩ := hT (by omega)
    have hbo : b < wo.heap.size := Nat.lt_of_lt_of_le hb hE.size
    have c0 : w.cell? ⟨b, off + k * 2, none⟩ = some (.string (f k).g) := by simpa using hc k 0 _ hlt rfl
    have c1 : w.cell? ⟨b, off + k * 2 + 1, none⟩ = some (.int .i64 (f k).n) := hc k 1 _ hlt rfl
    have hd0 : 0 < k → w.cell? ⟨b, off + (IntKind.i64.wrap ((k : Int) - 1)).toNat * 2, none⟩ = some (.string (f (k - 1)).g) := fun h => by
     rw [show (IntKind.i64.wrap ((k : Int) - 1)).toNat = k - 1 from by rw [IntKind.wrap_i64]; omega]
     simpa using hc (k - 1) 0 _ (by omega) rfl
    have hin : 0 < k → (0 ≤ IntKind.i64.wrap ((k : Int) - 1) ∧ IntKind.i64.wrap ((k : Int) - 1) < (n : Int)) := fun h => by rw [IntKind.wrap_i64]; omega
    have HK : Hid (U9 f k = _) := Qda f k
    clear hc
    go_upto_region 6 with (fail)
    refine Zb wo Qq (by kernel_rfl) (by repeat (first | exact Qa.refl _ | (refine Qa.alloc ?_ _) | (refine Qa.trans ?_ (by assumption)))) ?_
    intro hne hrx hry
    try simp only []
    try simp only [List.append_eq, List.cons_append, List.nil_append]
    have hrx0 := fun u o => hrx u (wo.heap.size) o (by first | omega | (simp; done) | (simp; omega))
    skip
    repeat (first
     | go_big_quiet_skip
     | ((with_reducible apply Wr)
        ·exact rfl
        ·exact rfl
        ·exact rfl
        intro K hK
        unfold Q0; go_big_quiet_op; (with_reducible refine hK _ ?_); clear hK K)
     | ((with_reducible apply Wu)
        ·exact rfl
        ·exact rfl
        ·exact rfl
        intro K hK
        unfold Q0; go_big_quiet_op; (with_reducible refine hK _ ?_); clear hK K)
     | (go_big_quiet_want; go_big_quiet_op; go_big_quiet_on)
     | (go_big_quiet_want; go_big_quiet_op; apply Exists.intro; refine ⟨fun u => ?_, ?_⟩
        ·first
          | (go_at_call 120; refine (U7 _ _).mono ?_; rintro e w' ⟨rfl, rfl⟩; exact ⟨rfl, u, rfl⟩)
        go_big_quiet_on)
     | ((with_reducible apply Ws)
        ·first | exact Je rfl rfl rfl | exact Jd rfl rfl rfl | exact Jc rfl rfl rfl | exact Jb rfl rfl rfl
        ·exact rfl
        ·exact rfl
        ·exact rfl
        intro K hK
        unfold Q0; go_big_quiet_op; (with_reducible refine hK _ ?_); clear hK K)
     | ((with_reducible apply Wv)
        ·first | exact Je rfl rfl rfl | exact Jd rfl rfl rfl | exact Jc rfl rfl rfl | exact Jb rfl rfl rfl
        ·exact rfl
        ·exact rfl
        ·exact rfl
        intro K hK
        unfold Q0; go_big_quiet_op; (with_reducible refine hK _ ?_); clear hK K)
     | ((with_reducible apply Xv)
        ·first | exact Je rfl rfl rfl | exact Jd rfl rfl rfl | exact Jc rfl rfl rfl | exact Jb rfl rfl rfl
        apply Exists.intro
        refine And.intro (fun hgb => ?_) ?_
        ·intro u
         try simp at hgb
         go_simp
         try simp only [if_pos hsl]
         try simp only [if_pos (hin (by omega))]
         try (simp only [hd0 (by omega)]; go_simp)
         try (rw [hlook _ (Qa.trans (by repeat (first | exact Qa.refl _ | (refine Qa.alloc ?_ _) | (refine Qa.trans ?_ (by assumption)))) u.e) (hlk0 hgb)]; go_simp)
         first
          | (with_reducible exact rfl)
          | (go_at_call 120; refine (U7 _ _).mono ?_; rintro e w' ⟨rfl, rfl⟩; exact ⟨rfl, u, rfl⟩)
        intro K hK
        unfold Q0; go_big_quiet_op; (with_reducible refine hK _ ?_); clear hK K))
    clear hne hry hrx hrx0
    refine wpQuiet_nil ?_
    intro wn hwn
    obtain ⟨hcwn, hfwn, hzwn⟩ := Qa.rules hwn
    try simp only [World.size_alloc] at hzwn
    have hk0wn := fun o => hcwn (wo.heap.size) o (by first | omega | (simp; done) | (simp; omega))
    have hj0wn := fun o => hfwn (wo.heap.size) o (by first | omega | (simp; done) | (simp; omega))
    have hl0wn : wo.heap.size < wn.heap.size := (by first | omega | (simp; done) | (simp; omega))
    obtain ⟨hcbwn, hfbwn, hzbwn⟩ := Qa.rules (show Qa wo wn from (by repeat (first | exact Qa.refl _ | (refine Qa.alloc ?_ _) | (refine Qa.trans ?_ (by assumption)))))
    clear hcwn hfwn
    generalize hg : (!Ja (f k).g || (decide (0 < k) && !Yd (f (k - 1)).g (f k).g) || ((f k).n == 0) || decide (1099511627776 < (f k).n) || decide ((f k).n < -1099511627776)) = g at *
    have E2 : Qa w wn := hE.trans (((Qa.refl _).alloc _).trans hwn)
    cases g
    ·go_wp2
     exact ⟨⟨k + 1, by omega, by go_num, fun j hj => by
      by_cases e : j = k
      ·subst e; exact HK.out
      ·exact hall.out j (by omega), E2⟩, by simp [intOf]; omega⟩
    ·go_wp2
     go_ret
     exact ⟨Uv (Qdd hlt HK.out h64).symm, E2⟩
   ·obtain rfl : k = n := by omega
    go_wp2
    go_ret
    exact ⟨Uv (Qdc hall.out h64).symm, hE⟩
theorem Qam (T : Option Addr) (n cap : Nat) (f : Nat → Lt) (S : Option Addr) (m cm : Nat) (g : Nat → Lt) (w : World) (hT : Qo w T n 2 (Zl f)) (hcap : n ≤ cap) (hn : n ≤ 9223372036854775807) (hS : Qo w S m 2 (Zl g)) (hcm : m ≤ cm) (hm : m ≤ 9223372036854775807) :
  Calls Tryz.prog 110 #[.slice T n cap, .slice S m cm] w fun e w' => e = .returned (.int .i64 (V8 f n g m)) ∧ Qa w w' := by
 have N1 := Lk T n cap f w hT hcap hn
 have N2 := fun w h => Lk S m cm g w h hcm hm
 unfold V8
 generalize Jt f n = a at *
 generalize Jt g m = b at *
 by_cases e0 : a = 0
 ·subst e0
  rw [if_neg (by simp)]
  go_enter Tryz.func110, Tryz.ntmps110
  go_wp2_with (first | (go_at_call 68; (with_reducible refine Calls.mono (N1) ?_); rintro e w1 ⟨rfl, h1⟩) | (go_at_call 68; (with_reducible refine Calls.mono (N2 _ (hS.ext h1)) ?_); rintro e w2 ⟨rfl, h2⟩))
  go_ret
  exact ⟨rfl, h1.trans h2⟩
 ·have g0 : (a == 0) = false := beq_eq_false_iff_ne.2 e0
  have g0n : (a != 0) = true := by rw [bne, g0]; rfl
  rw [if_pos e0]
  go_enter Tryz.func110, Tryz.ntmps110
  go_wp2_with (go_at_call 68; (with_reducible refine Calls.mono (N1) ?_); rintro e w1 ⟨rfl, h1⟩)
  go_ret
  exact ⟨rfl, h1⟩
theorem Qd4 (x y : Lt) (w : World) : Calls Tryz.prog 114 #[.agg #[.string x.g, .int .i64 x.n], .agg #[.string y.g, .int .i64 y.n]] w fun e w' => e = .returned (.string (W9 x y)) ∧ Qa w w' := by
 have hne : ∀ (s : ByteArray) (w : World), (binOp .neq 9 (.string s) (.string { data := #[] })).run Tryz.prog w = .ok (.bool (!(s.toList == ([] : List UInt8)))) w := fun s w => by
  have h : (binOp .neq 9 (.string s) (.string { data := #[] })).run Tryz.prog w = .ok (.bool (!(s.toList == ByteArray.toList { data := #[] }))) w := rfl
  rw [h, Lib.toList_data { data := #[] }]
 unfold W9
 by_cases h : x.g.size = 0
 ·rw [if_pos h]
  have g0 : (x.g.toList == ([] : List UInt8)) = true := by
   have : x.g.toList = [] := by rw [← List.length_eq_zero_iff, Lib.toList_data]; simpa using h
   rw [this]; rfl
  clear h
  go_enter Tryz.func114, Tryz.ntmps114
  go_wp2
  go_ret
  exact ⟨rfl, (by repeat (first | exact Qa.refl _ | (refine Qa.alloc ?_ _) | (refine Qa.trans ?_ (by assumption))))⟩
 ·rw [if_neg h]
  have g0 : (x.g.toList == ([] : List UInt8)) = false := by
   rw [beq_eq_false_iff_ne]; intro hh
   apply h
   have := congrArg List.length hh
   rw [Lib.toList_data] at this
   simpa using this
  clear h
  go_enter Tryz.func114, Tryz.ntmps114
  go_wp2
  go_ret
  exact ⟨rfl, (by repeat (first | exact Qa.refl _ | (refine Qa.alloc ?_ _) | (refine Qa.trans ?_ (by assumption))))⟩
theorem Mw (x y : Lt) (w : World) : Calls Tryz.prog 112 #[.agg #[.string x.g, .int .i64 x.n], .agg #[.string y.g, .int .i64 y.n]] w fun e w' => e = .returned (.bool (Yd x.g y.g)) ∧ Qa w w' := by
 go_enter Tryz.func112, Tryz.ntmps112
 go_wp2
 go_ret
 exact ⟨Yc (bytesLess_eq _ _), (by repeat (first | exact Qa.refl _ | (refine Qa.alloc ?_ _) | (refine Qa.trans ?_ (by assumption))))⟩
theorem Ym {w w' : World} {base size n : Nat} {e : TypeId} {v : Value} {xs : List Value} (h : w.ownsRow base e size v n xs) (x : Qa w w') : w'.ownsRow base e size v n xs := h.kept (Nb x) (by
 rcases h.2 with ⟨rfl, _⟩ | ⟨g, cap, cur, rfl, _⟩
 ·exact .inl rfl
 ·exact .inr (by simp [Value.ownBlock]))
theorem Qb3 (W : World) (b j : Nat) (v : Value) : W.grownBy (W.setCell ⟨b, j, none⟩ v) (some b) :=
 ⟨rfl, rfl, rfl, (KeepsWalks.setCell W _ v).size, fun k _ hk => Below.heap_setCell _ _ _ k (fun e => hk (by rw [e]))⟩
theorem Px : (Tryz.prog.info? 85).map (fun i => (i.zero, i.size, i.bytes)) = some (some (.agg #[.string ⟨#[]⟩, .int .i64 0]), 2, 24) := by kernel_rfl
theorem Qag (s : ByteArray) (n : Int) : ∀ u ∈ [Value.string s, .int .i64 n], u.oneCell' = true := by simp [Value.oneCell']
theorem Ko {w : World} {b : Nat} {t : TypeId} {cs : Array Value} (h : Qb w b t cs) : ∀ j u, cs.toList[j]? = some u → w.cell? ((⟨b, 0, none⟩ : Addr).add j) = some u := fun j u hj => by
 have e : (⟨b, 0, none⟩ : Addr).add j = ⟨b, j, none⟩ := by unfold Addr.add; split <;> simp_all
 rw [e, h.cell j]
 simpa using hj
/-- What a step leaves that writes only the box bo and rows of its own from B0 on. -/
structure Xf (B0 bo : Nat) (w w' : World) : Prop where
 ext : ∀ W0 : World, Qa W0 w → W0.heap.size ≤ bo → W0.heap.size ≤ B0 → Qa W0 w'
 held : ∀ b t cs, Qb w b t cs → b ≠ bo → b < B0 → Qb w' b t cs
namespace Xf
variable {B0 bo : Nat} {w w' w'' : World}
theorem refl : Xf B0 bo w w := ⟨fun _ h _ _ => h, fun _ _ _ h _ _ => h⟩
theorem of_ext (x : Qa w w') : Xf B0 bo w w' := ⟨fun _ h _ _ => h.trans x, fun _ _ _ h _ _ => h.ext x⟩
theorem trans (h : Xf B0 bo w w') (k : Xf B0 bo w' w'') : Xf B0 bo w w'' := ⟨fun W0 h0 h1 h2 => k.ext W0 (h.ext W0 h0 h1 h2) h1 h2, fun b t cs h0 h1 h2 => k.held b t cs (h.held b t cs h0 h1 h2) h1 h2⟩
theorem grown {v : Value} {e : TypeId} {s n : Nat} {xs : List Value} (ho : w.ownsRow B0 e s v n xs) (hg : w.grownBy w' v.ownBlock) : Xf B0 bo w w' :=
 ⟨fun _ h0 _ h2 => h0.grown hg (fun q hq => Nat.le_trans h2 (V4 ho q hq).1), fun b _ _ h _ hb => h.kept hg (fun e => by have := (V4 ho b e.symm).1; omega)⟩
theorem set (j : Nat) (u : Value) : Xf B0 bo w (w.setCell ⟨bo, j, none⟩ u) :=
 ⟨fun _ h0 h1 _ => h0.setCell (p := ⟨bo, j, none⟩) h1 u, fun _ _ _ h hne _ => Qi h hne j u⟩
end Xf
theorem Qch {W : World} {b : Nat} {t : TypeId} {v0 : Value} (h : Qb W b t #[v0]) (u : Value) : Qb (W.setCell ⟨b, 0, none⟩ u) b t #[u] := by unfold Qb at h ⊢; simp [World.setCell, Array.getElem?_modify, h]
theorem Nz {W : World} {b : Nat} {t e : TypeId} {cs : Array Value} (h : Qb W b t cs) (hte : t ≠ e) {base size k : Nat} {v : Value} {xs : List Value} (hr : W.ownsRow base e size v k xs) (j : Nat) (u : Value) : (W.setCell ⟨b, j, none⟩ u).ownsRow base e size v k xs :=
 hr.kept (Qb3 W b j u) (.inr (Ne.symm (h.not_row hte hr)))
def J3 (l : Lt) : List Value := [.string l.g, .int .i64 l.n]
theorem Qe4 (sg : Int) (x y : Lt) (B0 bs bo : Nat) (F : Option Addr) (k cap : Nat) (xs : List Value) (w : World) (HS : Qb w bs 3 #[.int .i64 sg]) (HO : Qb w bo 52 #[.slice F k cap]) (hO : w.ownsRow B0 85 2 (.slice F k cap) k xs) (hk : k ≤ 1000) (_hlen : xs.length = k * 2) (hb0 : B0 ≤ w.heap.size) (hw1 : -9223372036854775808 ≤ sg * y.n) (hw2 : sg * y.n ≤ 9223372036854775807) (hw3 : -9223372036854775808 ≤ x.n + sg * y.n) (hw4 : x.n + sg * y.n ≤ 9223372036854775807) :
  Calls Tryz.prog 113 #[.agg #[.string x.g, .int .i64 x.n], .agg #[.string y.g, .int .i64 y.n], .pointer (some ⟨bs, 0, none⟩), .pointer (some ⟨bo, 0, none⟩)] w fun e w' => e = .returned (.bool (Xq sg x y)) ∧ Xf B0 bo w w' ∧ (Xq sg x y = true → ∃ F' k' cap', Qb w' bo 52 #[.slice F' k' cap'] ∧ w'.ownsRow B0 85 2 (.slice F' k' cap') k' (xs ++ (U8 sg (x, y)).flatMap J3)) := by
 obtain ⟨i0, hi, hz0, hz1, hz2⟩ := info_parts Px
 obtain ⟨N, hN⟩ := Qg (Ki sg x y)
 have hm : IntKind.i64.wrap (sg * y.n) = sg * y.n := Zr hw1 hw2
 have hadd : IntKind.i64.wrap (x.n + sg * y.n) = N := by rw [hN]; exact Zr hw3 hw4
 have hxs : Hid (xs ++ (U8 sg (x, y)).flatMap J3 = if N = 0 then xs else xs ++ [.string (W9 x y), .int .i64 N]) := by
  unfold Hid U8 J3
  rw [hN]
  by_cases h : Ki sg x y = 0
  ·rw [if_pos h, if_pos h]; simp
  ·rw [if_neg h, if_neg h]; simp
 have hok : Xq sg x y = !(decide (1099511627776 < N) || decide (N < -1099511627776)) := by rw [hN]; rfl
 rw [hok]
 clear hok hN hw1 hw2 hw3 hw4
 go_enter Tryz.func113, Tryz.ntmps113
 go_upto_region 1 with (fail)
 obtain ⟨v, hv⟩ := Qg ((w.alloc (.cells #[.string x.g, .int .i64 x.n] 85)).alloc (.cells #[.string y.g, .int .i64 y.n] 85))
 rw [← hv]
 have E : Qa w v := by rw [hv]; exact ((Qa.refl _).alloc _).alloc _
 have B1 : Qb v w.heap.size 85 #[.string x.g, .int .i64 x.n] := by rw [hv]; exact (Qb.new _ _ _).alloc _
 have B2 : Qb v (w.heap.size + 1) 85 #[.string y.g, .int .i64 y.n] := by rw [hv]; exact Qb.at _ _ _ _ (by simp)
 clear hv
 obtain ⟨b2, hb2⟩ := Qg (w.heap.size + 1)
 rw [← hb2] at B2 ⊢
 obtain ⟨b1, hb1⟩ := Qg (w.heap.size)
 rw [← hb1] at B1 ⊢
 have hbr : w.heap.size ≤ b2 := by omega
 have hbr1 : w.heap.size ≤ b1 := by omega
 have hn21 : b2 ≠ b1 := by omega
 clear hb1 hb2
 have hrl : ∀ q, (Value.slice F k cap).ownBlock = some q → q < w.heap.size := fun q h => (hO.lt q h).2
 replace HS := HS.ext E
 replace HO := HO.ext E
 replace hO := Ym hO E
 obtain ⟨p0, p1⟩ := B1.c2
 have lp := B1.lt
 obtain ⟨r0, r1⟩ := B2.c2
 have lr := B2.lt
 have s0 := HS.c1
 have ls := HS.lt
 by_cases g1 : 1099511627776 < N
 ·have d1 : decide (1099511627776 < N) = true := decide_eq_true g1
  clear g1
  go_wp2
  go_ret
  exact ⟨Yc (by rw [d1]; rfl), .of_ext E, fun h => by rw [d1] at h; cases h⟩
 ·have d1 : decide (1099511627776 < N) = false := decide_eq_false g1
  by_cases g2 : N < -1099511627776
  ·have d2 : decide (N < -1099511627776) = true := decide_eq_true g2
   clear g1 g2
   go_wp2
   go_ret
   exact ⟨Yc (by rw [d1, d2]; rfl), .of_ext E, fun h => by rw [d1, d2] at h; cases h⟩
  ·have d2 : decide (N < -1099511627776) = false := decide_eq_false g2
   clear g1 g2
   by_cases g3 : N = 0
   ·subst g3
    go_wp2
    go_ret
    refine ⟨rfl, .of_ext E, ?_⟩
    exact ⟨_, _, _, HO, by rw [hxs.out, if_pos trivial]; exact hO⟩
   ·have d3 : (N == 0) = false := beq_eq_false_iff_ne.2 g3
    have d3n : (N != 0) = true := by rw [bne, d3]; rfl
    rw [if_neg g3] at hxs
    clear g3
    go_upto_region 5 with (fail)
    clear p0 p1 lp r0 r1 lr s0 ls
    refine Q1 9 [8] (fun u => Qb u bo 52 #[.slice F k cap] ∧ Qb u b1 85 #[.string x.g, .int .i64 x.n] ∧ Qb u b2 85 #[.string y.g, .int .i64 y.n]) Qq rfl ?_
    intro vz hvz
    have HC := hvz
    replace HO := HO.ext hvz
    replace B1 := B1.ext hvz
    replace B2 := B2.ext hvz
    refine Qr (g := 5) [0, 1, 2, 4] [_, _, _, _] ⟨rfl, rfl, rfl, rfl, trivial⟩ (by kernel_rfl) (by kernel_rfl) ⟨HO, B1, B2⟩ ?_
    simp only [Qc, Qd, Qe]
    apply Exists.intro
    refine ⟨fun u hu => ?_, ?_⟩
    ·have o0 := hu.1.c1
     have lo := hu.1.lt
     obtain ⟨p0, p1⟩ := hu.2.1.c2
     have lp := hu.2.1.lt
     obtain ⟨r0, r1⟩ := hu.2.2.c2
     have lr := hu.2.2.lt
     repeat (first | go_big_quiet_skip | (go_big_quiet_want; go_big_quiet_op; go_big_quiet_on))
     refine wpQuiet_nil ?_
     rfl
    refine Qk 3 rfl (by kernel_rfl) ?_
    simp only [Qc, Qd, Qe]
    go_wp2_with (go_at_call 114; (with_reducible refine Calls.mono (Qd4 x y _) ?_); rintro e wa ⟨rfl, h4⟩)
    replace HC := HC.trans h4
    replace HO := HO.ext h4
    replace B1 := B1.ext h4
    replace B2 := B2.ext h4
    clear h4
    refine Qh ⟨HO, B1, B2⟩ ?_
    refine Qr (g := 3) [5] [_] ⟨rfl, trivial⟩ (by kernel_rfl) (by kernel_rfl) ⟨HO, B1, B2⟩ ?_
    simp only [Qc, Qd, Qe]
    apply Exists.intro
    refine ⟨fun u hu => ?_, ?_⟩
    ·have o0 := hu.1.c1
     have lo := hu.1.lt
     obtain ⟨p0, p1⟩ := hu.2.1.c2
     have lp := hu.2.1.lt
     obtain ⟨r0, r1⟩ := hu.2.2.c2
     have lr := hu.2.2.lt
     repeat (first | go_big_quiet_skip | (go_big_quiet_want; go_big_quiet_op; go_big_quiet_on))
     refine wpQuiet_nil ?_
     rfl
    refine Qk 6 rfl (by kernel_rfl) ?_
    simp only [Qc, Qd, Qe]
    go_wp2
    obtain ⟨bq, wb, hbq, hwb, Q6, HC', hx, hge⟩ := Qp HC 85 #[.string (W9 x y), .int .i64 N]
    rw [← hbq, ← hwb]
    clear hbq hwb
    replace HC := HC'
    replace HO := HO.ext hx
    replace B1 := B1.ext hx
    replace B2 := B2.ext hx
    clear hx HC'
    refine Qh ⟨HO, B1, B2⟩ ?_
    refine Qk 7 rfl (by kernel_rfl) ?_
    simp only [Qc, Qd, Qe]
    go_wp2_with (at_builtin; refine wpList_append_own_at _ rfl _ _ 52 rfl B0 85 i0 (.agg #[.string ⟨#[]⟩, .int .i64 0]) 2 24 Tryz.underlying52 hi hz0 hz1 hz2 rfl (by decide) _ _ _ rfl (Ym hO HC) ⟨bq, 0, none⟩ 1 1 [.string (W9 x y), .int .i64 N] rfl rfl (Ko Q6) (Qag _ _) (by unfold maxLen; omega) (by omega) (by have := HC.size; have := E.size; omega) ?_; intro vn wn hown hgrow _ _)
    obtain ⟨Fn, mn, rfl⟩ := Wq hown
    replace B1 := B1.kept hgrow (fun e => by have := hrl b1 e.symm; omega)
    replace B2 := B2.kept hgrow (fun e => by have := hrl b2 e.symm; omega)
    replace HO := HO.kept hgrow (HO.not_row (by decide) (Ym hO HC))
    have HP := (Xf.of_ext (E.trans HC)).trans (Xf.grown (bo := bo) (Ym hO HC) hgrow)
    clear hgrow Q6
    refine Qh ⟨HO, B1, B2⟩ ?_
    refine Qm 8 rfl (by kernel_rfl) ?_
    simp only [Qc, Qd, Qe]
    have z0 := HO.frozen 0
    have o0 := HO.c1
    have lo := HO.lt
    go_wp2
    have HP2 := HP.trans (Xf.set 0 (.slice Fn (k + 1) mn))
    have HO2 := Qch HO (.slice Fn (k + 1) mn)
    have hown2 := Nz HO (by decide) hown 0 (.slice Fn (k + 1) mn)
    clear HP hown HO B1 B2
    generalize World.setCell _ _ _ = wq at *
    clear z0 o0 lo
    refine Ql ?_
    refine Qs (by kernel_rfl) ?_
    go_wp2
    go_ret
    refine ⟨Yc (by rw [d1, d2]; rfl), HP2, fun _ => ?_⟩
    exact ⟨_, _, _, HO2, by rw [hxs.out]; exact hown2⟩
end
end Go.Proofs.YtoflcheopfppoaaGreatDoor
