/- Walks of the program's functions and plain facts, packed; proved: the lemmas below; no conditions but those that each states. -/
import Derived.Laws.EntriesVeiled
import Derived.Test.YtneiofnlmblglaaDoorU5
import Derived.Test.YtneiofnlmblglaaDoorU4
import Derived.Sort.Walk0
import Derived.Lib.Strings
set_option maxRecDepth 100000
set_option maxHeartbeats 4000000
namespace Go.Proofs.YtneiofnlmblglaaDoor
section
open Go Go.RowKit Go.Shelf
attribute [local go_sem] Zi
section
variable {W w : World} {b : Nat} {t : TypeId} {v0 v1 v2 v3 v4 v5 : Value}
theorem Yg (h : Qb W b t #[v0, v1, v2, v3, v4, v5]) (u0 u1 u2 u3 u4 u5 : Value) : Qb ((((((W.setCell ⟨b, 0, none⟩ u0).setCell ⟨b, 1, none⟩ u1).setCell ⟨b, 2, none⟩ u2).setCell ⟨b, 3, none⟩ u3).setCell ⟨b, 4, none⟩ u4).setCell ⟨b, 5, none⟩ u5) b t #[u0, u1, u2, u3, u4, u5] := by unfold Qb at h ⊢; simp [World.setCell, Array.getElem?_modify, h]
theorem Yf (h : Qa w W) (hb : w.heap.size ≤ b) (u0 u1 u2 u3 u4 u5 : Value) : Qa w ((((((W.setCell ⟨b, 0, none⟩ u0).setCell ⟨b, 1, none⟩ u1).setCell ⟨b, 2, none⟩ u2).setCell ⟨b, 3, none⟩ u3).setCell ⟨b, 4, none⟩ u4).setCell ⟨b, 5, none⟩ u5) :=
 (((((h.setCell (p := ⟨b, 0, none⟩) hb u0).setCell (p := ⟨b, 1, none⟩) hb u1).setCell (p := ⟨b, 2, none⟩) hb u2).setCell (p := ⟨b, 3, none⟩) hb u3).setCell (p := ⟨b, 4, none⟩) hb u4).setCell (p := ⟨b, 5, none⟩) hb u5
theorem Ms {b' : Nat} {cs : Array Value} (h : Qb W b t cs) (hne : b ≠ b') (u0 u1 u2 u3 u4 u5 : Value) : Qb ((((((W.setCell ⟨b', 0, none⟩ u0).setCell ⟨b', 1, none⟩ u1).setCell ⟨b', 2, none⟩ u2).setCell ⟨b', 3, none⟩ u3).setCell ⟨b', 4, none⟩ u4).setCell ⟨b', 5, none⟩ u5) b t cs :=
 Qh (Qh (Qh (Qh (Qh (Qh h hne 0 u0) hne 1 u1) hne 2 u2) hne 3 u3) hne 4 u4) hne 5 u5
end
structure Xk (W : World) (b : Nat) (t : TypeId) (cs : Array Value) : Prop where
 out : Qb W b t cs
def cut0 (A : Act) (S : World → Prop) : Exit → Act → World → Prop := fun e a' w' => e = .normal ∧ S w' ∧ a' = A
theorem Np {P : Program} {c : Code} {Q : Exit → Act → World → Prop} {a : Act} {w : World} {A : Act} (S : World → Prop) (h1 : c.wp P (cut0 A S) a w) (h2 : ∀ w', S w' → Q .normal A w') : c.wp P Q a w :=
 Code.wp_mono (fun e a' w' ⟨he, hs, ha⟩ => by subst he; subst ha; exact h2 w' hs) h1
def restJ (c : Qc) (r : Rt) (f : Nat → Zy) (on : Dt) (k m : Nat) : Nat → Db → Rt → Db × Int
 | 0, X, lf => M4 c r f on k m X lf
 | 1, X, lf => M5 c r f on k m X lf
 | _, X, lf => M6 c r f on k m X lf
theorem Qdg (A A' : Option Addr) (ca cb : Nat) (c : Qc) (B : Option Addr) (n cap : Nat) (l : Ln) (f : Nat → Zy) (hp : l.p.In) (hr : l.r.In) (hin : ∀ i, i < n → (f i).n.In) (w : World) (hC : Q8 w A ca A' cb c) (hB : Qo w B n 6 (J5 f)) (hn : n ≤ 9223372036854775807) (hZ : Zl w) (on : Dt) :
  Calls Tryd.prog 58 #[.agg #[.slice A c.nk ca, .slice A' c.ny cb], .agg #[.int .i64 l.p.n, .int .i64 l.p.d, .int .i64 l.r.n, .int .i64 l.r.d, .int .i64 l.f.y, .int .i64 l.f.m, .bool l.f.s, .int .i64 l.f.d], .slice B n cap, .agg #[.int .i64 on.y, .int .i64 on.m, .bool on.s, .int .i64 on.d]] w fun e w' => e = .returned (.tuple #[.agg #[.int .i64 (Jv c l.r f on 0 n (start l) l.f).1.p.n, .int .i64 (Jv c l.r f on 0 n (start l) l.f).1.p.d, .int .i64 (Jv c l.r f on 0 n (start l) l.f).1.i.n, .int .i64 (Jv c l.r f on 0 n (start l) l.f).1.i.d, .int .i64 (Jv c l.r f on 0 n (start l) l.f).1.s.n, .int .i64 (Jv c l.r f on 0 n (start l) l.f).1.s.d], .int .i64 (Jv c l.r f on 0 n (start l) l.f).2]) ∧ Qa w w' := by
 obtain ⟨V, hV0⟩ := Qg (Jv c l.r f on 0 n (start l) l.f)
 rw [← hV0]
 replace hV0 := Lib.hid hV0
 go_enter Tryd.func58, Tryd.ntmps58
 go_upto_region 1 with (fail)
 obtain ⟨v, hv⟩ := Qg ((((w.alloc (.cells #[.slice A c.nk ca, .slice A' c.ny cb] 52)).alloc (.cells #[.int .i64 l.p.n, .int .i64 l.p.d, .int .i64 l.r.n, .int .i64 l.r.d, .int .i64 l.f.y, .int .i64 l.f.m, .bool l.f.s, .int .i64 l.f.d] 79)).alloc (.cells #[.int .i64 on.y, .int .i64 on.m, .bool on.s, .int .i64 on.d] 27)).alloc (.cells #[.int .i64 0, .int .i64 0, .int .i64 0, .int .i64 0, .int .i64 0, .int .i64 0] 84))
 rw [← hv]
 have E : Qa w v := by rw [hv]; exact ((((Qa.refl _).alloc _).alloc _).alloc _).alloc _
 have B1 : Qb v w.heap.size 52 #[.slice A c.nk ca, .slice A' c.ny cb] := by rw [hv]; exact (((Qb.new _ _ _).alloc _).alloc _).alloc _
 have B2 : Qb v (w.heap.size + 1) 79 #[.int .i64 l.p.n, .int .i64 l.p.d, .int .i64 l.r.n, .int .i64 l.r.d, .int .i64 l.f.y, .int .i64 l.f.m, .bool l.f.s, .int .i64 l.f.d] := by rw [hv]; exact ((Qb.at _ _ _ _ (by simp)).alloc _).alloc _
 have B3 : Qb v (w.heap.size + 1 + 1) 27 #[.int .i64 on.y, .int .i64 on.m, .bool on.s, .int .i64 on.d] := by rw [hv]; exact (Qb.at _ _ _ _ (by simp)).alloc _
 have B4 : Qb v (w.heap.size + 1 + 1 + 1) 84 #[.int .i64 0, .int .i64 0, .int .i64 0, .int .i64 0, .int .i64 0, .int .i64 0] := by rw [hv]; exact Qb.at _ _ _ _ (by simp)
 clear hv
 obtain ⟨b4, hb4⟩ := Qg (w.heap.size + 1 + 1 + 1)
 rw [← hb4] at B4 ⊢
 obtain ⟨b3, hb3⟩ := Qg (w.heap.size + 1 + 1)
 rw [← hb3] at B3 ⊢
 obtain ⟨b2, hb2⟩ := Qg (w.heap.size + 1)
 rw [← hb2] at B2 ⊢
 obtain ⟨b1, hb1⟩ := Qg (w.heap.size)
 rw [← hb1] at B1 ⊢
 have hbr : w.heap.size ≤ b4 := by omega
 have hbr1 : w.heap.size ≤ b1 := by omega
 have hbr2 : w.heap.size ≤ b2 := by omega
 have hbr3 : w.heap.size ≤ b3 := by omega
 have hn21 : b2 ≠ b1 := by omega
 have hn31 : b3 ≠ b1 := by omega
 have hn32 : b3 ≠ b2 := by omega
 have hn41 : b4 ≠ b1 := by omega
 have hn42 : b4 ≠ b2 := by omega
 have hn43 : b4 ≠ b3 := by omega
 clear hb1 hb2 hb3 hb4
 have C := hC.ext E
 have RB := hB.ext E
 have Z0 := hZ.ext E
 clear hC hB hZ
 have hv4 := B4.lt
 apply Ut (S := fun w' b => Qa v w' ∧ v.heap.size ≤ b ∧ Qb w' b 84 #[.int .i64 l.p.n, .int .i64 l.p.d, .int .i64 0, .int .i64 1, .int .i64 0, .int .i64 1])
 ·refine Q5 7 [6] (fun x => Qa v x) Qr rfl ?_
  intro vz hvz
  have HC := hvz
  refine Qp (g := 5) [0, 1] [_, _] ⟨rfl, rfl, trivial⟩ (by kernel_rfl) (by kernel_rfl) HC ?_
  simp only [Qd, Qe, Qf]
  apply Exists.intro
  refine ⟨fun u hu => ?_, ?_⟩
  ·obtain ⟨p0, p1, p2, p3, p4, p5, p6, p7⟩ := (B2.ext hu).c8
   have lp := (B2.ext hu).lt
   repeat (first | go_big_quiet_skip | (go_big_quiet_want; go_big_quiet_op; go_big_quiet_on))
   refine wpQuiet_nil ?_
   rfl
  refine Zn 2 5 rfl rfl (by kernel_rfl) ?_ ?_
  ·simp only [Qd, Qe, Qf]
   go_wp2_with (go_at_call 48; (with_reducible refine Calls.mono (Y9 _ _) ?_); rintro e wa ⟨rfl, h4⟩)
   replace HC := HC.trans h4
   try replace Q := Q.ext h4
   clear h4
   refine Qi HC ?_
   refine Zn 3 5 rfl rfl (by kernel_rfl) ?_ ?_
   ·simp only [Qd, Qe, Qf]
    go_wp2_with (go_at_call 48; (with_reducible refine Calls.mono (Y9 _ _) ?_); rintro e wa ⟨rfl, h4⟩)
    replace HC := HC.trans h4
    try replace Q := Q.ext h4
    clear h4
    refine Qi HC ?_
    refine Qp (g := 2) [4] [_] ⟨rfl, trivial⟩ (by kernel_rfl) (by kernel_rfl) HC ?_
    simp only [Qd, Qe, Qf]
    apply Exists.intro
    refine ⟨fun u hu => ?_, ?_⟩
    ·obtain ⟨p0, p1, p2, p3, p4, p5, p6, p7⟩ := (B2.ext hu).c8
     have lp := (B2.ext hu).lt
     repeat (first | go_big_quiet_skip | (go_big_quiet_want; go_big_quiet_op; go_big_quiet_on))
     refine wpQuiet_nil ?_
     rfl
    refine Qj 5 rfl (by kernel_rfl) ?_
    simp only [Qd, Qe, Qf]
    go_wp2
    obtain ⟨bq, hbq, Q, HC', hge⟩ := Yx HC 84 #[.int .i64 0, .int .i64 0, .int .i64 0, .int .i64 0, .int .i64 0, .int .i64 0]
    rw [← hbq]
    clear hbq
    replace HC := HC'
    clear HC'
    refine Qi HC ?_
    refine Qn 6 rfl (by kernel_rfl) ?_
    simp only [Qd, Qe, Qf]
    have z0 := Q.frozen 0
    have z1 := Q.frozen 1
    have z2 := Q.frozen 2
    have z3 := Q.frozen 3
    have z4 := Q.frozen 4
    have z5 := Q.frozen 5
    obtain ⟨x0, x1, x2, x3, x4, x5⟩ := Q.c6
    have lx := Q.lt
    have Q2 := Yg Q (.int .i64 l.p.n) (.int .i64 l.p.d) (.int .i64 0) (.int .i64 1) (.int .i64 0) (.int .i64 1)
    have HE2 := Yf HC hge (.int .i64 l.p.n) (.int .i64 l.p.d) (.int .i64 0) (.int .i64 1) (.int .i64 0) (.int .i64 1)
    go_wp2
    refine Qm ?_
    refine Qt (by kernel_rfl) ?_
    exact Jw bq ⟨HE2, hge, Q2⟩ rfl
   ·simp only [Qd, Qe, Qf]
    go_wp2
    obtain ⟨bq, hbq, Q, HC', hge⟩ := Yx HC 84 #[.int .i64 0, .int .i64 0, .int .i64 0, .int .i64 0, .int .i64 0, .int .i64 0]
    rw [← hbq]
    clear hbq
    replace HC := HC'
    clear HC'
    refine Qi HC ?_
    refine Qj 3 rfl (by kernel_rfl) ?_
    simp only [Qd, Qe, Qf]
    go_wp2_with (go_at_call 48; (with_reducible refine Calls.mono (Y9 _ _) ?_); rintro e wa ⟨rfl, h4⟩)
    replace HC := HC.trans h4
    try replace Q := Q.ext h4
    clear h4
    refine Qi HC ?_
    refine Qp (g := 1) [4] [_] ⟨rfl, trivial⟩ (by kernel_rfl) (by kernel_rfl) HC ?_
    simp only [Qd, Qe, Qf]
    apply Exists.intro
    refine ⟨fun u hu => ?_, ?_⟩
    ·obtain ⟨p0, p1, p2, p3, p4, p5, p6, p7⟩ := (B2.ext hu).c8
     have lp := (B2.ext hu).lt
     repeat (first | go_big_quiet_skip | (go_big_quiet_want; go_big_quiet_op; go_big_quiet_on))
     refine wpQuiet_nil ?_
     rfl
    refine Qn 6 rfl (by kernel_rfl) ?_
    simp only [Qd, Qe, Qf]
    have z0 := Q.frozen 0
    have z1 := Q.frozen 1
    have z2 := Q.frozen 2
    have z3 := Q.frozen 3
    have z4 := Q.frozen 4
    have z5 := Q.frozen 5
    obtain ⟨x0, x1, x2, x3, x4, x5⟩ := Q.c6
    have lx := Q.lt
    have Q2 := Yg Q (.int .i64 l.p.n) (.int .i64 l.p.d) (.int .i64 0) (.int .i64 1) (.int .i64 0) (.int .i64 1)
    have HE2 := Yf HC hge (.int .i64 l.p.n) (.int .i64 l.p.d) (.int .i64 0) (.int .i64 1) (.int .i64 0) (.int .i64 1)
    go_wp2
    refine Qm ?_
    refine Qt (by kernel_rfl) ?_
    exact Jw bq ⟨HE2, hge, Q2⟩ rfl
  ·simp only [Qd, Qe, Qf]
   go_wp2
   obtain ⟨bq, hbq, Q, HC', hge⟩ := Yx HC 84 #[.int .i64 0, .int .i64 0, .int .i64 0, .int .i64 0, .int .i64 0, .int .i64 0]
   rw [← hbq]
   clear hbq
   replace HC := HC'
   clear HC'
   refine Qi HC ?_
   refine Qj 2 rfl (by kernel_rfl) ?_
   simp only [Qd, Qe, Qf]
   go_wp2_with (go_at_call 48; (with_reducible refine Calls.mono (Y9 _ _) ?_); rintro e wa ⟨rfl, h4⟩)
   replace HC := HC.trans h4
   try replace Q := Q.ext h4
   clear h4
   refine Qi HC ?_
   refine Qj 3 rfl (by kernel_rfl) ?_
   simp only [Qd, Qe, Qf]
   go_wp2_with (go_at_call 48; (with_reducible refine Calls.mono (Y9 _ _) ?_); rintro e wa ⟨rfl, h4⟩)
   replace HC := HC.trans h4
   try replace Q := Q.ext h4
   clear h4
   refine Qi HC ?_
   refine Qp (g := 1) [4] [_] ⟨rfl, trivial⟩ (by kernel_rfl) (by kernel_rfl) HC ?_
   simp only [Qd, Qe, Qf]
   apply Exists.intro
   refine ⟨fun u hu => ?_, ?_⟩
   ·obtain ⟨p0, p1, p2, p3, p4, p5, p6, p7⟩ := (B2.ext hu).c8
    have lp := (B2.ext hu).lt
    repeat (first | go_big_quiet_skip | (go_big_quiet_want; go_big_quiet_op; go_big_quiet_on))
    refine wpQuiet_nil ?_
    rfl
   refine Qn 6 rfl (by kernel_rfl) ?_
   simp only [Qd, Qe, Qf]
   have z0 := Q.frozen 0
   have z1 := Q.frozen 1
   have z2 := Q.frozen 2
   have z3 := Q.frozen 3
   have z4 := Q.frozen 4
   have z5 := Q.frozen 5
   obtain ⟨x0, x1, x2, x3, x4, x5⟩ := Q.c6
   have lx := Q.lt
   have Q2 := Yg Q (.int .i64 l.p.n) (.int .i64 l.p.d) (.int .i64 0) (.int .i64 1) (.int .i64 0) (.int .i64 1)
   have HE2 := Yf HC hge (.int .i64 l.p.n) (.int .i64 l.p.d) (.int .i64 0) (.int .i64 1) (.int .i64 0) (.int .i64 1)
   go_wp2
   refine Qm ?_
   refine Qt (by kernel_rfl) ?_
   exact Jw bq ⟨HE2, hge, Q2⟩ rfl
 rintro bd w1 ⟨HE, gd, Hd⟩
 obtain ⟨p0, p1, p2, p3, p4, p5, p6, p7⟩ := (B2.ext HE).c8
 have lp := (B2.ext HE).lt
 go_upto_region 6 with (fail)
 obtain ⟨w2, hw2⟩ := Qg (((w1.alloc (.cells #[.int .i64 l.f.y, .int .i64 l.f.m, .bool l.f.s, .int .i64 l.f.d] 27)).alloc (.cells #[.int .i64 0] 33)).alloc (.cells #[.func (.func 78) #[] #[.pointer (some ⟨w1.heap.size + 1, 0, none⟩)]] 147))
 rw [← hw2]
 have h12 : Qa w1 w2 := by rw [hw2]; exact (((Qa.refl _).alloc _).alloc _).alloc _
 have Hf : Qb w2 w1.heap.size 27 #[.int .i64 l.f.y, .int .i64 l.f.m, .bool l.f.s, .int .i64 l.f.d] := by rw [hw2]; exact ((Qb.new _ _ _).alloc _).alloc _
 have He : Qb w2 (w1.heap.size + 1) 33 #[.int .i64 0] := by rw [hw2]; exact (Qb.at _ _ _ _ (by simp)).alloc _
 have Ht : Qb w2 (w1.heap.size + 1 + 1) 147 #[.func (.func 78) #[] #[.pointer (some ⟨w1.heap.size + 1, 0, none⟩)]] := by rw [hw2]; exact Qb.at _ _ _ _ (by simp)
 clear hw2 p0 p1 p2 p3 p4 p5 p6 p7 lp
 have hw1 := HE.size
 have hdw := Hd.lt
 replace Hd := Hd.ext h12
 replace HE := HE.trans h12
 clear h12
 obtain ⟨bt, hbt⟩ := Qg (w1.heap.size + 1 + 1)
 rw [← hbt] at Ht ⊢
 obtain ⟨be, hbe⟩ := Qg (w1.heap.size + 1)
 rw [← hbe] at Ht He ⊢
 obtain ⟨bf, hbf⟩ := Qg (w1.heap.size)
 rw [← hbf] at Hf ⊢
 have g2 : v.heap.size ≤ bf := by omega
 have g3 : v.heap.size ≤ be := by omega
 have n1 : bd ≠ bf := by omega
 have n2 : bd ≠ be := by omega
 have n3 : bf ≠ be := by omega
 have n4 : bt ∉ [bd, bf, be] := by simp; omega
 have hb1v := B1.lt
 have hb2v := B2.lt
 have n5 : b2 ∉ [bd, bf, be] := by simp; omega
 have n6 : b1 ∉ [bd, bf, be] := by simp; omega
 have hbe4 : be ≠ b4 := by omega
 have ntd : bt ≠ bd := by omega
 have gS : ∀ k, k ∈ [bd, bf, be] → v.heap.size ≤ k := fun k hk => by simp at hk; omega
 clear hbt hbe hbf hw1 hdw
 replace gS := Lib.hid gS
 replace n4 := Lib.hid n4
 replace n5 := Lib.hid n5
 replace n6 := Lib.hid n6
 obtain ⟨k0, k1⟩ := (B1.ext HE).c2
 have lk := (B1.ext HE).lt
 obtain ⟨o0, o1, o2, o3⟩ := (B3.ext HE).c4
 have lo := (B3.ext HE).lt
 have ND := fun d w h => Xc A A' ca cb c d w h
 go_upto_region 8 with (go_at_call 22; (with_reducible refine Calls.mono (ND on _ (C.ext HE)) ?_); rintro e w3 ⟨rfl, h4⟩)
 replace HE := HE.trans h4
 replace Hd := Hd.ext h4
 replace Hf := Hf.ext h4
 replace He := He.ext h4
 replace Ht := Ht.ext h4
 clear h4 k0 k1 lk o0 o1 o2 o3 lo
 obtain ⟨L0, hL0⟩ := Qg (c.numV on)
 rw [← hL0]
 replace hL0 := Lib.hid hL0
 have hX0 : (start l).In := ⟨hp, Wl, Wl⟩
 go_loopw [35] (fun iv wr => ∃ k : Nat, k ≤ n ∧ iv = .int .i64 (k : Int) ∧ ∃ X fr ee, Db.In X ∧ Qa v wr ∧ Qb wr bt 147 #[.func (.func 78) #[] #[.pointer (some ⟨be, 0, none⟩)]] ∧ Qb wr bd 84 #[.int .i64 X.p.n, .int .i64 X.p.d, .int .i64 X.i.n, .int .i64 X.i.d, .int .i64 X.s.n, .int .i64 X.s.d] ∧ Qb wr bf 27 #[.int .i64 fr.y, .int .i64 fr.m, .bool fr.s, .int .i64 fr.d] ∧ Qb wr be 33 #[.int .i64 ee] ∧ Hid (ee = 0 → V = Jv c l.r f on k (n - k) X fr) ∧ Hid (ee ≠ 0 → V = (Jq, ee))) (fun iv _ => n - (intOf iv).toNat)
 case atStart => exact ⟨0, Nat.zero_le _, rfl, start l, l.f, 0, hX0, HE, Ht, Hd, Hf, He, fun _ => hV0.out, fun h => absurd rfl h⟩
 case round =>
  clear HE Ht Hd Hf He hX0 hV0
  obtain ⟨k, hk, rfl, X, fr, ee, hX, HE, Ht, Hd, Hf, He, h1, h2⟩ := hrel
  obtain ⟨wo, rfl⟩ := Qg wr
  by_cases hlt : k < n
  ·obtain ⟨m, hm⟩ : ∃ m, n - k = m + 1 := ⟨n - k - 1, by omega⟩
   have hm2 : n - (k + 1) = m := by omega
   rw [hm] at h1
   obtain ⟨b, off, rfl, hb, hc⟩ := (RB.ext HE) (by omega)
   have c0 : wo.cell? ⟨b, off + k * 6, none⟩ = some (.int .i64 (f k).on.y) := by simpa [J5] using hc k 0 _ hlt rfl
   have c1 : wo.cell? ⟨b, off + k * 6 + 1, none⟩ = some (.int .i64 (f k).on.m) := by simpa [J5] using hc k 1 _ hlt rfl
   have c2 : wo.cell? ⟨b, off + k * 6 + 2, none⟩ = some (.bool (f k).on.s) := by simpa [J5] using hc k 2 _ hlt rfl
   have c3 : wo.cell? ⟨b, off + k * 6 + 3, none⟩ = some (.int .i64 (f k).on.d) := by simpa [J5] using hc k 3 _ hlt rfl
   have c4 : wo.cell? ⟨b, off + k * 6 + 4, none⟩ = some (.int .i64 (f k).n.n) := by simpa [J5] using hc k 4 _ hlt rfl
   have c5 : wo.cell? ⟨b, off + k * 6 + 5, none⟩ = some (.int .i64 (f k).n.d) := by simpa [J5] using hc k 5 _ hlt rfl
   have hfin := hin k hlt
   clear hc RB hin hm
   go_upto_region 10 with (fail)
   obtain ⟨v3, hv⟩ := Qg (wo.alloc (.cells #[.int .i64 (f k).on.y, .int .i64 (f k).on.m, .bool (f k).on.s, .int .i64 (f k).on.d, .int .i64 (f k).n.n, .int .i64 (f k).n.d] 124))
   rw [← hv]
   have E3 : Qa wo v3 := by rw [hv]; exact (Qa.refl _).alloc _
   have H3 : Qb v3 wo.heap.size 124 #[.int .i64 (f k).on.y, .int .i64 (f k).on.m, .bool (f k).on.s, .int .i64 (f k).on.d, .int .i64 (f k).n.n, .int .i64 (f k).n.d] := by rw [hv]; exact Qb.new _ _ _
   clear hv c0 c1 c2 c3 c4 c5 hb
   have h17v : wo.heap.size < v3.heap.size := H3.lt
   have ht17 := Ht.lt
   have hd17 := Hd.lt
   have hf17 := Hf.lt
   have he17 := He.lt
   obtain ⟨b17, hb17⟩ := Qg (wo.heap.size)
   rw [← hb17] at H3 ⊢
   have n17 : b17 ∉ [bd, bf, be] := by simp; omega
   replace n17 := Lib.hid n17
   clear hb17 ht17 hd17 hf17 he17 h17v
   replace HE := HE.trans E3
   replace Ht := Ht.ext E3
   replace Hd := Hd.ext E3
   replace Hf := Hf.ext E3
   replace He := He.ext E3
   clear E3
   by_cases h0 : ee = 0
   rotate_left
   ·have g0 : (ee == 0) = false := beq_eq_false_iff_ne.2 h0
    have hV := Lib.hid (h2.out h0)
    clear h1 h2 h0
    have g0n : (ee != 0) = true := by rw [bne, g0]; rfl
    have e0 := He.c1
    have le := He.lt
    go_upto_region 25 with (fail)
    clear e0 le
    apply Np (S := fun w' => Qa w w' ∧ Qb w' b4 84 #[.int .i64 0, .int .i64 0, .int .i64 0, .int .i64 0, .int .i64 0, .int .i64 0])
    ·refine Q5 4 [3] (fun x => Xk x be 33 #[.int .i64 ee]) Qr rfl ?_
     intro vz hvz
     replace He := He.ext hvz
     replace HE := HE.trans hvz
     clear hvz
     refine Qp (g := 2) [0, 1] [_, _] ⟨rfl, rfl, trivial⟩ (by kernel_rfl) (by kernel_rfl) (Xk.mk He) ?_
     simp only [Qd, Qe, Qf]
     apply Exists.intro
     refine ⟨fun u hu => ?_, ?_⟩
     ·have e0 := hu.out.c1
      have le := hu.out.lt
      repeat (first | go_big_quiet_skip | (go_big_quiet_want; go_big_quiet_op; go_big_quiet_on))
      refine wpQuiet_nil ?_
      rfl
     refine Qj 2 rfl (by kernel_rfl) ?_
     simp only [Qd, Qe, Qf]
     have R4 := B4.ext HE
     have z0 := R4.frozen 0
     have z1 := R4.frozen 1
     have z2 := R4.frozen 2
     have z3 := R4.frozen 3
     have z4 := R4.frozen 4
     have z5 := R4.frozen 5
     obtain ⟨x0, x1, x2, x3, x4, x5⟩ := R4.c6
     have lx := R4.lt
     go_wp2
     have R6 := Yg R4 (.int .i64 0) (.int .i64 0) (.int .i64 0) (.int .i64 0) (.int .i64 0) (.int .i64 0)
     have EF := Yf (E.trans HE) hbr (.int .i64 0) (.int .i64 0) (.int .i64 0) (.int .i64 0) (.int .i64 0) (.int .i64 0)
     replace He := Ms He hbe4 (.int .i64 0) (.int .i64 0) (.int .i64 0) (.int .i64 0) (.int .i64 0) (.int .i64 0)
     clear z0 z1 z2 z3 z4 z5 x0 x1 x2 x3 x4 x5 lx R4
     generalize World.setCell _ _ _ = wq at *
     refine Qi (Xk.mk He) ?_
     refine Qn 3 rfl (by kernel_rfl) ?_
     simp only [Qd, Qe, Qf]
     go_wp2
     refine Qm ?_
     refine Qt (by kernel_rfl) ?_
     exact ⟨rfl, ⟨EF, R6⟩, rfl⟩
    rintro w9 ⟨EF, R6⟩
    obtain ⟨y0, y1, y2, y3, y4, y5⟩ := R6.c6
    go_wp2
    refine bodyPost_ret (v := .tuple #[.agg #[.int .i64 0, .int .i64 0, .int .i64 0, .int .i64 0, .int .i64 0, .int .i64 0], .int .i64 ee]) (by simp [results, Tryd.results58, go_sem, y0, y1, y2, y3, y4, y5]) rfl ⟨by rw [hV.out]; rfl, EF⟩
   subst h0
   have e0 := He.c1
   have le := He.lt
   obtain ⟨k0, k1⟩ := (B1.ext HE).c2
   have lk := (B1.ext HE).lt
   obtain ⟨q0, q1, q2, q3, q4, q5⟩ := H3.c6
   have lq := H3.lt
   have h1' := Lib.hid (h1.out rfl)
   clear h1 h2
   have hdd := fun w h => Xc A A' ca cb c (f k).on w h
   by_cases hday : L0 < c.numV (f k).on
   ·have gd1 : decide (L0 < c.numV (f k).on) = true := decide_eq_true hday
    have hVA : Hid (V = Wv (Zd c l.r X fr on)) := by unfold Hid; rw [h1'.out, Qd6 (by rw [← hL0.out]; exact hday)]
    clear h1' hday
    generalize c.numV (f k).on = L1 at *
    go_upto_region 22 with (go_at_call 22; (with_reducible refine Calls.mono (hdd _ (C.ext HE)) ?_); rintro e w5 ⟨rfl, h4⟩)
    replace HE := HE.trans h4
    replace Ht := Ht.ext h4
    replace Hd := Hd.ext h4
    replace Hf := Hf.ext h4
    replace He := He.ext h4
    clear h4 e0 le k0 k1 lk q0 q1 q2 q3 q4 q5 lq H3 hdd
    have e0 := He.c1
    have le := He.lt
    have B3e := B3.ext HE
    obtain ⟨o0, o1, o2, o3⟩ := B3e.c4
    have lo := B3e.lt
    have NA := Nu A A' ca cb c l hr X hX fr on bt bd b2 b1 bf be v _ HE C Z0 Ht Hd (B2.ext HE) (B1.ext HE) Hf He g3 n1 n2 n3 n4.out n5.out n6.out
    go_upto_region 24 with (first | (go_at_call 79; (with_reducible refine Calls.mono (NA) ?_); rintro e wk ⟨rfl, hO, hf, he, Y, hYin, hd, hY⟩) | (go_at_fn 79; (with_reducible refine Calls.mono (NA) ?_); rintro e wk ⟨rfl, hO, hf, he, Y, hYin, hd, hY⟩))
    replace HE := hO.ext HE gS.out
    replace Ht := hO.held Ht n4.out
    clear hO Hd Hf He NA
    have Hd := hd
    have Hf := hf
    have He := he
    clear hd hf he
    clear e0 le o0 o1 o2 o3 lo B3e
    generalize Zd c l.r X fr on = a at *
    obtain ⟨aX, ae⟩ := a
    simp only [] at He hY hVA
    by_cases h0 : ae = 0
    ·subst h0
     have hy := hY rfl
     subst hy
     have hV : Hid (V = (Y, 0)) := by unfold Hid; rw [hVA.out]; exact P4 rfl
     clear hVA hY
     have e0 := He.c1
     have le := He.lt
     have R4 := B4.ext HE
     obtain ⟨d0, d1, d2, d3, d4, d5⟩ := Hd.c6
     have ld := Hd.lt
     have z0 := R4.frozen 0
     have z1 := R4.frozen 1
     have z2 := R4.frozen 2
     have z3 := R4.frozen 3
     have z4 := R4.frozen 4
     have z5 := R4.frozen 5
     obtain ⟨x0, x1, x2, x3, x4, x5⟩ := R4.c6
     have lx := R4.lt
     have R6 := Yg R4 (.int .i64 Y.p.n) (.int .i64 Y.p.d) (.int .i64 Y.i.n) (.int .i64 Y.i.d) (.int .i64 Y.s.n) (.int .i64 Y.s.d)
     have EF := Yf (E.trans HE) hbr (.int .i64 Y.p.n) (.int .i64 Y.p.d) (.int .i64 Y.i.n) (.int .i64 Y.i.d) (.int .i64 Y.s.n) (.int .i64 Y.s.d)
     obtain ⟨y0, y1, y2, y3, y4, y5⟩ := R6.c6
     go_wp2
     refine bodyPost_ret (v := .tuple #[.agg #[.int .i64 Y.p.n, .int .i64 Y.p.d, .int .i64 Y.i.n, .int .i64 Y.i.d, .int .i64 Y.s.n, .int .i64 Y.s.d], .int .i64 0]) (by simp [results, Tryd.results58, go_sem, y0, y1, y2, y3, y4, y5]) rfl ⟨by rw [hV.out], EF⟩
    ·have g0 : (ae == 0) = false := beq_eq_false_iff_ne.2 h0
     have hV : Hid (V = (Jq, ae)) := by unfold Hid; rw [hVA.out]; exact V0 h0
     clear hVA hY h0
     have g0n : (ae != 0) = true := by rw [bne, g0]; rfl
     have e0 := He.c1
     have le := He.lt
     go_upto_region 25 with (fail)
     clear e0 le
     apply Np (S := fun w' => Qa w w' ∧ Qb w' b4 84 #[.int .i64 0, .int .i64 0, .int .i64 0, .int .i64 0, .int .i64 0, .int .i64 0])
     ·refine Q5 4 [3] (fun x => Xk x be 33 #[.int .i64 ae]) Qr rfl ?_
      intro vz hvz
      replace He := He.ext hvz
      replace HE := HE.trans hvz
      clear hvz
      refine Qp (g := 2) [0, 1] [_, _] ⟨rfl, rfl, trivial⟩ (by kernel_rfl) (by kernel_rfl) (Xk.mk He) ?_
      simp only [Qd, Qe, Qf]
      apply Exists.intro
      refine ⟨fun u hu => ?_, ?_⟩
      ·have e0 := hu.out.c1
       have le := hu.out.lt
       repeat (first | go_big_quiet_skip | (go_big_quiet_want; go_big_quiet_op; go_big_quiet_on))
       refine wpQuiet_nil ?_
       rfl
      refine Qj 2 rfl (by kernel_rfl) ?_
      simp only [Qd, Qe, Qf]
      have R4 := B4.ext HE
      have z0 := R4.frozen 0
      have z1 := R4.frozen 1
      have z2 := R4.frozen 2
      have z3 := R4.frozen 3
      have z4 := R4.frozen 4
      have z5 := R4.frozen 5
      obtain ⟨x0, x1, x2, x3, x4, x5⟩ := R4.c6
      have lx := R4.lt
      go_wp2
      have R6 := Yg R4 (.int .i64 0) (.int .i64 0) (.int .i64 0) (.int .i64 0) (.int .i64 0) (.int .i64 0)
      have EF := Yf (E.trans HE) hbr (.int .i64 0) (.int .i64 0) (.int .i64 0) (.int .i64 0) (.int .i64 0) (.int .i64 0)
      replace He := Ms He hbe4 (.int .i64 0) (.int .i64 0) (.int .i64 0) (.int .i64 0) (.int .i64 0) (.int .i64 0)
      clear z0 z1 z2 z3 z4 z5 x0 x1 x2 x3 x4 x5 lx R4
      generalize World.setCell _ _ _ = wq at *
      refine Qi (Xk.mk He) ?_
      refine Qn 3 rfl (by kernel_rfl) ?_
      simp only [Qd, Qe, Qf]
      go_wp2
      refine Qm ?_
      refine Qt (by kernel_rfl) ?_
      exact ⟨rfl, ⟨EF, R6⟩, rfl⟩
     rintro w9 ⟨EF, R6⟩
     obtain ⟨y0, y1, y2, y3, y4, y5⟩ := R6.c6
     go_wp2
     refine bodyPost_ret (v := .tuple #[.agg #[.int .i64 0, .int .i64 0, .int .i64 0, .int .i64 0, .int .i64 0, .int .i64 0], .int .i64 ae]) (by simp [results, Tryd.results58, go_sem, y0, y1, y2, y3, y4, y5]) rfl ⟨by rw [hV.out]; rfl, EF⟩
   ·have gd1 : decide (L0 < c.numV (f k).on) = false := decide_eq_false hday
    have hE1 : Hid ((Zd c l.r X fr (f k).on).2 ≠ 0 → V = (Jq, (Zd c l.r X fr (f k).on).2)) := fun h => by rw [h1'.out, Qd4 (by rw [← hL0.out]; exact hday) h]
    have hE2 : Hid ((Zd c l.r X fr (f k).on).2 = 0 → V = M4 c l.r f on k m (Zd c l.r X fr (f k).on).1 (f k).n) := fun h => by rw [h1'.out, Qd5 (by rw [← hL0.out]; exact hday) h]
    clear h1' hday
    generalize c.numV (f k).on = L1 at *
    go_upto_region 11 with (go_at_call 22; (with_reducible refine Calls.mono (hdd _ (C.ext HE)) ?_); rintro e w5 ⟨rfl, h4⟩)
    replace HE := HE.trans h4
    replace Ht := Ht.ext h4
    replace Hd := Hd.ext h4
    replace Hf := Hf.ext h4
    replace He := He.ext h4
    replace H3 := H3.ext h4
    clear h4 e0 le k0 k1 lk q0 q1 q2 q3 q4 q5 lq hdd
    obtain ⟨q0, q1, q2, q3, q4, q5⟩ := H3.c6
    have lq := H3.lt
    have NA := Nu A A' ca cb c l hr X hX fr (f k).on bt bd b2 b1 bf be v _ HE C Z0 Ht Hd (B2.ext HE) (B1.ext HE) Hf He g3 n1 n2 n3 n4.out n5.out n6.out
    go_upto_region 12 with (first | (go_at_call 79; (with_reducible refine Calls.mono (NA) ?_); rintro e wk ⟨rfl, hO, hf, he, Y, hYin, hd, hY⟩) | (go_at_fn 79; (with_reducible refine Calls.mono (NA) ?_); rintro e wk ⟨rfl, hO, hf, he, Y, hYin, hd, hY⟩))
    replace HE := hO.ext HE gS.out
    replace Ht := hO.held Ht n4.out
    replace H3 := hO.held H3 (n17.out)
    clear hO Hd Hf He NA
    have Hd := hd
    have Hf := hf
    have He := he
    clear hd hf he
    clear q0 q1 q2 q3 q4 q5 lq hX
    generalize Zd c l.r X fr (f k).on = a at *
    obtain ⟨aX, ae⟩ := a
    simp only [] at He hY hE1 hE2
    obtain ⟨q0, q1, q2, q3, q4, q5⟩ := H3.c6
    have lq := H3.lt
    go_upto_region 14 with (fail)
    obtain ⟨v4, hv⟩ := Qg ((wk.alloc (.cells #[.int .i64 (f k).n.n, .int .i64 (f k).n.d] 61)).alloc (.cells #[.pointer (some ⟨bd, 2, none⟩), .pointer (some ⟨bd, 0, none⟩)] 149))
    rw [← hv]
    have E4 : Qa wk v4 := by rw [hv]; exact ((Qa.refl _).alloc _).alloc _
    have H8 : Qb v4 wk.heap.size 61 #[.int .i64 (f k).n.n, .int .i64 (f k).n.d] := by rw [hv]; exact (Qb.new _ _ _).alloc _
    have Hs : Qb v4 (wk.heap.size + 1) 149 #[.pointer (some ⟨bd, 2, none⟩), .pointer (some ⟨bd, 0, none⟩)] := by rw [hv]; exact Qb.at _ _ _ _ (by simp)
    clear hv q0 q1 q2 q3 q4 q5 lq H3 n17
    obtain ⟨bs, hbs⟩ := Qg (wk.heap.size + 1)
    rw [← hbs] at Hs ⊢
    obtain ⟨b18, hb18⟩ := Qg (wk.heap.size)
    rw [← hb18] at H8 ⊢
    have hl1 := Ht.lt
    have hl2 := Hd.lt
    have hl3 := Hf.lt
    have hl4 := He.lt
    have hl5 := HE.size
    have n8 : b18 ≠ be := by omega
    have n8d : b18 ≠ bd := by omega
    have ns : bs ≠ be := by omega
    have nsd : bs ≠ bd := by omega
    have nt8 : bt ≠ b18 := by omega
    have nf8 : bf ≠ b18 := by omega
    have ns8 : bs ≠ b18 := by omega
    have g18 : v.heap.size ≤ b18 := by omega
    clear hl1 hl2 hl3 hl4 hl5 hbs hb18
    replace HE := HE.trans E4
    replace Ht := Ht.ext E4
    replace Hd := Hd.ext E4
    replace Hf := Hf.ext E4
    replace He := He.ext E4
    clear E4
    go_loopw [59] (fun jv wr => ∃ j : Nat, j ≤ 2 ∧ jv = .int .i64 (j : Int) ∧ ∃ X lf ee, Db.In X ∧ Rt.In lf ∧ Qa v wr ∧ Qb wr bt 147 #[.func (.func 78) #[] #[.pointer (some ⟨be, 0, none⟩)]] ∧ Qb wr bd 84 #[.int .i64 X.p.n, .int .i64 X.p.d, .int .i64 X.i.n, .int .i64 X.i.d, .int .i64 X.s.n, .int .i64 X.s.d] ∧ Qb wr bf 27 #[.int .i64 (f k).on.y, .int .i64 (f k).on.m, .bool (f k).on.s, .int .i64 (f k).on.d] ∧ Qb wr be 33 #[.int .i64 ee] ∧ Qb wr b18 61 #[.int .i64 lf.n, .int .i64 lf.d] ∧ Qb wr bs 149 #[.pointer (some ⟨bd, 2, none⟩), .pointer (some ⟨bd, 0, none⟩)] ∧ Hid (ee = 0 → V = restJ c l.r f on k m j X lf) ∧ Hid (ee ≠ 0 → V = (Jq, ee))) (fun jv _ => 2 - (intOf jv).toNat)
    case atStart => exact ⟨0, by decide, rfl, Y, (f k).n, ae, hYin, hfin, HE, Ht, Hd, Hf, He, H8, Hs, fun h => by rw [hE2.out h, ← hY h]; rfl, fun h => hE1.out h⟩
    case round =>
     clear HE Ht Hd Hf He H8 Hs hE1 hE2 hY hYin hfin
     obtain ⟨j, hj, rfl, X, lf, ee, hX, hlf, HE, Ht, Hd, Hf, He, H8, Hs, h1, h2⟩ := hrel
     obtain ⟨wi, rfl⟩ := Qg wr
     have e0 := He.c1
     have le := He.lt
     by_cases hj2 : j < 2
     ·obtain ⟨s0, s1⟩ := Hs.c2
      have ls := Hs.lt
      by_cases h0 : ee = 0
      ·subst h0
       have hj3 : j = 0 ∨ j = 1 := by omega
       rcases hj3 with rfl | rfl
       ·skip
        have NP := fun w h z => Qdj X lf hX.i hlf bd w h z
        have hpin := Mw (x := X.i) (n := lf)
        have hpV : Hid (V = if (Qy X.i lf).2 ≠ 0 then (Jq, (Qy X.i lf).2) else M5 c l.r f on k m ⟨X.p, (Qy X.i lf).1.1, X.s⟩ (Qy X.i lf).1.2) := h1.out rfl
        clear h1 h2
        generalize Qy X.i lf = P at *
        obtain ⟨⟨⟨Pn, Pd⟩, ⟨Ln, Ld⟩⟩, Le⟩ := P
        simp only [] at hpin hpV NP
        go_upto_region 17 with (fail)
        clear e0 le s0 s1 ls
        refine Q5 8 [7] (fun x => Qb x bt 147 #[.func (.func 78) #[] #[.pointer (some ⟨be, 0, none⟩)]] ∧ Qb x b18 61 #[.int .i64 lf.n, .int .i64 lf.d]) Qr rfl ?_
        intro vz hvz
        replace HE := HE.trans hvz
        replace Ht := Ht.ext hvz
        replace Hd := Hd.ext hvz
        replace Hf := Hf.ext hvz
        replace He := He.ext hvz
        replace H8 := H8.ext hvz
        replace Hs := Hs.ext hvz
        clear hvz
        refine Qp (g := 5) [0, 1, 2] [_, _, _] ⟨rfl, rfl, rfl, trivial⟩ (by kernel_rfl) (by kernel_rfl) ⟨Ht, H8⟩ ?_
        simp only [Qd, Qe, Qf]
        apply Exists.intro
        refine ⟨fun u hu => ?_, ?_⟩
        ·have t0 := hu.1.c1
         have lt := hu.1.lt
         obtain ⟨r0, r1⟩ := hu.2.c2
         have lr := hu.2.lt
         repeat (first | go_big_quiet_skip | (go_big_quiet_want; go_big_quiet_op; go_big_quiet_on))
         refine wpQuiet_nil ?_
         rfl
        refine Qj 3 rfl (by kernel_rfl) ?_
        simp only [Qd, Qe, Qf]
        go_wp2_with (go_at_call 80; (with_reducible refine Calls.mono (NP _ Hd (Z0.ext HE)) ?_); rintro e wp ⟨rfl, hO, hd⟩)
        replace HE := hO.ext HE (fun k hk => by rw [List.mem_singleton.1 hk]; exact gd)
        replace Ht := hO.held Ht (by simp only [List.mem_singleton]; exact fun e => n4.out (by rw [e]; simp))
        replace Hf := hO.held Hf (by simp only [List.mem_singleton]; exact Ne.symm n1)
        replace He := hO.held He (by simp only [List.mem_singleton]; exact Ne.symm n2)
        replace H8 := hO.held H8 (by simp only [List.mem_singleton]; exact n8d)
        replace Hs := hO.held Hs (by simp only [List.mem_singleton]; exact nsd)
        clear hO Hd
        have Hd := hd
        clear hd
        refine Qi ⟨Ht, H8⟩ ?_
        refine Qp (g := 2) [4, 5] [_, _] ⟨rfl, rfl, trivial⟩ (by kernel_rfl) (by kernel_rfl) ⟨Ht, H8⟩ ?_
        simp only [Qd, Qe, Qf]
        apply Exists.intro
        refine ⟨fun u hu => ?_, ?_⟩
        ·have t0 := hu.1.c1
         have lt := hu.1.lt
         obtain ⟨r0, r1⟩ := hu.2.c2
         have lr := hu.2.lt
         repeat (first | go_big_quiet_skip | (go_big_quiet_want; go_big_quiet_op; go_big_quiet_on))
         refine wpQuiet_nil ?_
         rfl
        refine Qj 6 rfl (by kernel_rfl) ?_
        simp only [Qd, Qe, Qf]
        go_wp2_with (first | (go_at_call 78; (with_reducible refine Calls.mono (Yt ⟨Ln, Ld⟩ Le 0 be _ He) ?_); rintro e we ⟨rfl, h5, He2⟩) | (go_at_fn 78; (with_reducible refine Calls.mono (Yt ⟨Ln, Ld⟩ Le 0 be _ He) ?_); rintro e we ⟨rfl, h5, He2⟩))
        try rw [if_pos rfl] at He2
        replace HE := h5.ext HE (fun k hk => by rw [List.mem_singleton.1 hk]; exact g3)
        replace Ht := h5.held Ht (by simp only [List.mem_singleton]; exact fun e => n4.out (by rw [e]; simp))
        replace Hf := h5.held Hf (by simp only [List.mem_singleton]; exact n3)
        replace H8 := h5.held H8 (by simp only [List.mem_singleton]; exact n8)
        replace Hs := h5.held Hs (by simp only [List.mem_singleton]; exact ns)
        replace Hd := h5.held Hd (by simp only [List.mem_singleton]; exact n2)
        have He := He2
        clear h5 He2
        refine Qi ⟨Ht, H8⟩ ?_
        refine Qn 7 rfl (by kernel_rfl) ?_
        simp only [Qd, Qe, Qf]
        have z0 := H8.frozen 0
        have z1 := H8.frozen 1
        obtain ⟨x0, x1⟩ := H8.c2
        have lx := H8.lt
        have HE := (HE.setCell (p := ⟨b18, 0, none⟩) g18 (.int .i64 Ln)).setCell (p := ⟨b18, 1, none⟩) g18 (.int .i64 Ld)
        have H82 := Ql H8 (.int .i64 Ln) (.int .i64 Ld)
        have Ht := Qh (Qh Ht nt8 0 (.int .i64 Ln)) nt8 1 (.int .i64 Ld)
        have Hd := Qh (Qh Hd (Ne.symm n8d) 0 (.int .i64 Ln)) (Ne.symm n8d) 1 (.int .i64 Ld)
        have Hf := Qh (Qh Hf nf8 0 (.int .i64 Ln)) nf8 1 (.int .i64 Ld)
        have He := Qh (Qh He (Ne.symm n8) 0 (.int .i64 Ln)) (Ne.symm n8) 1 (.int .i64 Ld)
        have Hs := Qh (Qh Hs ns8 0 (.int .i64 Ln)) ns8 1 (.int .i64 Ld)
        have H8 := H82
        go_wp2
        refine Qm ?_
        refine Qt (by kernel_rfl) ?_
        generalize World.setCell _ _ _ = wq at *
        clear z0 z1 x0 x1 lx H82
        go_wp2
        exact ⟨⟨1, by decide, by rfl, ⟨X.p, ⟨Pn, Pd⟩, X.s⟩, ⟨Ln, Ld⟩, Le, ⟨hX.p, hpin.1, hX.s⟩, hpin.2, HE, Ht, Hd, Hf, He, H8, Hs, fun h => by rw [hpV.out, if_neg (by simpa using h)]; rfl, fun h => by rw [hpV.out, if_pos h]⟩, by simp [intOf]⟩
       ·skip
        have NP := fun w h z => Qdk X lf hX.p hlf bd w h z
        have hpin := Mw (x := X.p) (n := lf)
        have hpV : Hid (V = if (Qy X.p lf).2 ≠ 0 then (Jq, (Qy X.p lf).2) else M6 c l.r f on k m ⟨(Qy X.p lf).1.1, X.i, X.s⟩ (Qy X.p lf).1.2) := h1.out rfl
        clear h1 h2
        generalize Qy X.p lf = P at *
        obtain ⟨⟨⟨Pn, Pd⟩, ⟨Ln, Ld⟩⟩, Le⟩ := P
        simp only [] at hpin hpV NP
        go_upto_region 17 with (fail)
        clear e0 le s0 s1 ls
        refine Q5 8 [7] (fun x => Qb x bt 147 #[.func (.func 78) #[] #[.pointer (some ⟨be, 0, none⟩)]] ∧ Qb x b18 61 #[.int .i64 lf.n, .int .i64 lf.d]) Qr rfl ?_
        intro vz hvz
        replace HE := HE.trans hvz
        replace Ht := Ht.ext hvz
        replace Hd := Hd.ext hvz
        replace Hf := Hf.ext hvz
        replace He := He.ext hvz
        replace H8 := H8.ext hvz
        replace Hs := Hs.ext hvz
        clear hvz
        refine Qp (g := 5) [0, 1, 2] [_, _, _] ⟨rfl, rfl, rfl, trivial⟩ (by kernel_rfl) (by kernel_rfl) ⟨Ht, H8⟩ ?_
        simp only [Qd, Qe, Qf]
        apply Exists.intro
        refine ⟨fun u hu => ?_, ?_⟩
        ·have t0 := hu.1.c1
         have lt := hu.1.lt
         obtain ⟨r0, r1⟩ := hu.2.c2
         have lr := hu.2.lt
         repeat (first | go_big_quiet_skip | (go_big_quiet_want; go_big_quiet_op; go_big_quiet_on))
         refine wpQuiet_nil ?_
         rfl
        refine Qj 3 rfl (by kernel_rfl) ?_
        simp only [Qd, Qe, Qf]
        go_wp2_with (go_at_call 80; (with_reducible refine Calls.mono (NP _ Hd (Z0.ext HE)) ?_); rintro e wp ⟨rfl, hO, hd⟩)
        replace HE := hO.ext HE (fun k hk => by rw [List.mem_singleton.1 hk]; exact gd)
        replace Ht := hO.held Ht (by simp only [List.mem_singleton]; exact fun e => n4.out (by rw [e]; simp))
        replace Hf := hO.held Hf (by simp only [List.mem_singleton]; exact Ne.symm n1)
        replace He := hO.held He (by simp only [List.mem_singleton]; exact Ne.symm n2)
        replace H8 := hO.held H8 (by simp only [List.mem_singleton]; exact n8d)
        replace Hs := hO.held Hs (by simp only [List.mem_singleton]; exact nsd)
        clear hO Hd
        have Hd := hd
        clear hd
        refine Qi ⟨Ht, H8⟩ ?_
        refine Qp (g := 2) [4, 5] [_, _] ⟨rfl, rfl, trivial⟩ (by kernel_rfl) (by kernel_rfl) ⟨Ht, H8⟩ ?_
        simp only [Qd, Qe, Qf]
        apply Exists.intro
        refine ⟨fun u hu => ?_, ?_⟩
        ·have t0 := hu.1.c1
         have lt := hu.1.lt
         obtain ⟨r0, r1⟩ := hu.2.c2
         have lr := hu.2.lt
         repeat (first | go_big_quiet_skip | (go_big_quiet_want; go_big_quiet_op; go_big_quiet_on))
         refine wpQuiet_nil ?_
         rfl
        refine Qj 6 rfl (by kernel_rfl) ?_
        simp only [Qd, Qe, Qf]
        go_wp2_with (first | (go_at_call 78; (with_reducible refine Calls.mono (Yt ⟨Ln, Ld⟩ Le 0 be _ He) ?_); rintro e we ⟨rfl, h5, He2⟩) | (go_at_fn 78; (with_reducible refine Calls.mono (Yt ⟨Ln, Ld⟩ Le 0 be _ He) ?_); rintro e we ⟨rfl, h5, He2⟩))
        try rw [if_pos rfl] at He2
        replace HE := h5.ext HE (fun k hk => by rw [List.mem_singleton.1 hk]; exact g3)
        replace Ht := h5.held Ht (by simp only [List.mem_singleton]; exact fun e => n4.out (by rw [e]; simp))
        replace Hf := h5.held Hf (by simp only [List.mem_singleton]; exact n3)
        replace H8 := h5.held H8 (by simp only [List.mem_singleton]; exact n8)
        replace Hs := h5.held Hs (by simp only [List.mem_singleton]; exact ns)
        replace Hd := h5.held Hd (by simp only [List.mem_singleton]; exact n2)
        have He := He2
        clear h5 He2
        refine Qi ⟨Ht, H8⟩ ?_
        refine Qn 7 rfl (by kernel_rfl) ?_
        simp only [Qd, Qe, Qf]
        have z0 := H8.frozen 0
        have z1 := H8.frozen 1
        obtain ⟨x0, x1⟩ := H8.c2
        have lx := H8.lt
        have HE := (HE.setCell (p := ⟨b18, 0, none⟩) g18 (.int .i64 Ln)).setCell (p := ⟨b18, 1, none⟩) g18 (.int .i64 Ld)
        have H82 := Ql H8 (.int .i64 Ln) (.int .i64 Ld)
        have Ht := Qh (Qh Ht nt8 0 (.int .i64 Ln)) nt8 1 (.int .i64 Ld)
        have Hd := Qh (Qh Hd (Ne.symm n8d) 0 (.int .i64 Ln)) (Ne.symm n8d) 1 (.int .i64 Ld)
        have Hf := Qh (Qh Hf nf8 0 (.int .i64 Ln)) nf8 1 (.int .i64 Ld)
        have He := Qh (Qh He (Ne.symm n8) 0 (.int .i64 Ln)) (Ne.symm n8) 1 (.int .i64 Ld)
        have Hs := Qh (Qh Hs ns8 0 (.int .i64 Ln)) ns8 1 (.int .i64 Ld)
        have H8 := H82
        go_wp2
        refine Qm ?_
        refine Qt (by kernel_rfl) ?_
        generalize World.setCell _ _ _ = wq at *
        clear z0 z1 x0 x1 lx H82
        go_wp2
        exact ⟨⟨2, by decide, by rfl, ⟨⟨Pn, Pd⟩, X.i, X.s⟩, ⟨Ln, Ld⟩, Le, ⟨hpin.1, hX.i, hX.s⟩, hpin.2, HE, Ht, Hd, Hf, He, H8, Hs, fun h => by rw [hpV.out, if_neg (by simpa using h)]; rfl, fun h => by rw [hpV.out, if_pos h]⟩, by simp [intOf]⟩
      ·have g0 : (ee == 0) = false := beq_eq_false_iff_ne.2 h0
       have hj3 : j = 0 ∨ j = 1 := by omega
       rcases hj3 with rfl | rfl
       ·go_wp2
        exact ⟨⟨1, by decide, rfl, X, lf, ee, hX, hlf, HE, Ht, Hd, Hf, He, H8, Hs, fun h => absurd h h0, h2⟩, by simp [intOf]⟩
       ·go_wp2
        exact ⟨⟨2, by decide, rfl, X, lf, ee, hX, hlf, HE, Ht, Hd, Hf, He, H8, Hs, fun h => absurd h h0, h2⟩, by simp [intOf]⟩
     ·obtain rfl : j = 2 := by omega
      by_cases h0 : ee = 0
      ·subst h0
       have NA := fun w z => Ki X.s lf hX.s hlf w z
       have hSin := U0 X.s lf
       have hpV : Hid (V = if (Q7 X.s lf).2 ≠ 0 then (Jq, (Q7 X.s lf).2) else Jv c l.r f on (k + 1) m ⟨X.p, X.i, (Q7 X.s lf).1⟩ (f k).on) := h1.out rfl
       clear h1 h2
       generalize Q7 X.s lf = S at *
       obtain ⟨⟨Sn, Sd⟩, Se⟩ := S
       simp only [] at hSin hpV NA
       go_upto_region 20 with (fail)
       clear e0 le
       refine Q5 10 [9] (fun x => Qb x bt 147 #[.func (.func 78) #[] #[.pointer (some ⟨be, 0, none⟩)]] ∧ Qb x bd 84 #[.int .i64 X.p.n, .int .i64 X.p.d, .int .i64 X.i.n, .int .i64 X.i.d, .int .i64 X.s.n, .int .i64 X.s.d] ∧ Qb x b18 61 #[.int .i64 lf.n, .int .i64 lf.d]) Qr rfl ?_
       intro vz hvz
       replace HE := HE.trans hvz
       replace Ht := Ht.ext hvz
       replace Hd := Hd.ext hvz
       replace Hf := Hf.ext hvz
       replace He := He.ext hvz
       replace H8 := H8.ext hvz
       clear hvz
       refine Qp (g := 6) [0, 1, 2, 3] [_, _, _, _] ⟨rfl, rfl, rfl, rfl, trivial⟩ (by kernel_rfl) (by kernel_rfl) ⟨Ht, Hd, H8⟩ ?_
       simp only [Qd, Qe, Qf]
       apply Exists.intro
       refine ⟨fun u hu => ?_, ?_⟩
       ·have t0 := hu.1.c1
        have lt := hu.1.lt
        obtain ⟨d0, d1, d2, d3, d4, d5⟩ := hu.2.1.c6
        have ld := hu.2.1.lt
        obtain ⟨r0, r1⟩ := hu.2.2.c2
        have lr := hu.2.2.lt
        repeat (first | go_big_quiet_skip | (go_big_quiet_want; go_big_quiet_op; go_big_quiet_on))
        refine wpQuiet_nil ?_
        rfl
       refine Qj 4 rfl (by kernel_rfl) ?_
       simp only [Qd, Qe, Qf]
       go_wp2_with (go_at_call 59; (with_reducible refine Calls.mono (NA _ (Z0.ext HE)) ?_); rintro e wc ⟨rfl, h4⟩)
       replace HE := HE.trans h4
       replace Ht := Ht.ext h4
       replace Hd := Hd.ext h4
       replace Hf := Hf.ext h4
       replace He := He.ext h4
       replace H8 := H8.ext h4
       clear h4
       refine Qi ⟨Ht, Hd, H8⟩ ?_
       refine Qp (g := 3) [5, 6] [_, _] ⟨rfl, rfl, trivial⟩ (by kernel_rfl) (by kernel_rfl) ⟨Ht, Hd, H8⟩ ?_
       simp only [Qd, Qe, Qf]
       apply Exists.intro
       refine ⟨fun u hu => ?_, ?_⟩
       ·have t0 := hu.1.c1
        have lt := hu.1.lt
        obtain ⟨d0, d1, d2, d3, d4, d5⟩ := hu.2.1.c6
        have ld := hu.2.1.lt
        obtain ⟨r0, r1⟩ := hu.2.2.c2
        have lr := hu.2.2.lt
        repeat (first | go_big_quiet_skip | (go_big_quiet_want; go_big_quiet_op; go_big_quiet_on))
        refine wpQuiet_nil ?_
        rfl
       refine Qj 7 rfl (by kernel_rfl) ?_
       simp only [Qd, Qe, Qf]
       go_wp2_with (first | (go_at_call 78; (with_reducible refine Calls.mono (Yt ⟨Sn, Sd⟩ Se 0 be _ He) ?_); rintro e we ⟨rfl, h5, He2⟩) | (go_at_fn 78; (with_reducible refine Calls.mono (Yt ⟨Sn, Sd⟩ Se 0 be _ He) ?_); rintro e we ⟨rfl, h5, He2⟩))
       try rw [if_pos rfl] at He2
       replace HE := h5.ext HE (fun k hk => by rw [List.mem_singleton.1 hk]; exact g3)
       replace Ht := h5.held Ht (by simp only [List.mem_singleton]; exact fun e => n4.out (by rw [e]; simp))
       replace Hf := h5.held Hf (by simp only [List.mem_singleton]; exact n3)
       replace H8 := h5.held H8 (by simp only [List.mem_singleton]; exact n8)
       replace Hd := h5.held Hd (by simp only [List.mem_singleton]; exact n2)
       have He := He2
       clear h5 He2
       refine Qi ⟨Ht, Hd, H8⟩ ?_
       refine Qp (g := 1) [8] [_] ⟨rfl, trivial⟩ (by kernel_rfl) (by kernel_rfl) ⟨Ht, Hd, H8⟩ ?_
       simp only [Qd, Qe, Qf]
       apply Exists.intro
       refine ⟨fun u hu => ?_, ?_⟩
       ·have t0 := hu.1.c1
        have lt := hu.1.lt
        obtain ⟨d0, d1, d2, d3, d4, d5⟩ := hu.2.1.c6
        have ld := hu.2.1.lt
        obtain ⟨r0, r1⟩ := hu.2.2.c2
        have lr := hu.2.2.lt
        repeat (first | go_big_quiet_skip | (go_big_quiet_want; go_big_quiet_op; go_big_quiet_on))
        refine wpQuiet_nil ?_
        rfl
       refine Qn 9 rfl (by kernel_rfl) ?_
       simp only [Qd, Qe, Qf]
       have z4 := Hd.frozen 4
       have z5 := Hd.frozen 5
       obtain ⟨x0, x1, x2, x3, x4, x5⟩ := Hd.c6
       have lx := Hd.lt
       have HE := (HE.setCell (p := ⟨bd, 4, none⟩) gd (.int .i64 Sn)).setCell (p := ⟨bd, 5, none⟩) gd (.int .i64 Sd)
       have Hd2 := Qa6 Hd (.int .i64 Sn) (.int .i64 Sd)
       have Ht := Qh (Qh Ht ntd 4 (.int .i64 Sn)) ntd 5 (.int .i64 Sd)
       have Hf := Qh (Qh Hf (Ne.symm n1) 4 (.int .i64 Sn)) (Ne.symm n1) 5 (.int .i64 Sd)
       have He := Qh (Qh He (Ne.symm n2) 4 (.int .i64 Sn)) (Ne.symm n2) 5 (.int .i64 Sd)
       have Hd := Hd2
       go_wp2
       refine Qm ?_
       refine Qt (by kernel_rfl) ?_
       generalize World.setCell _ _ _ = wq at *
       clear z4 z5 x0 x1 x2 x3 x4 x5 lx Hd2
       go_wp2
       exact ⟨⟨k + 1, by omega, by go_num, ⟨X.p, X.i, ⟨Sn, Sd⟩⟩, (f k).on, Se, ⟨hX.p, hX.i, hSin⟩, HE, Ht, Hd, Hf, He, fun h => by rw [hpV.out, if_neg (by simpa using h), hm2], fun h => by rw [hpV.out, if_pos h]⟩, by simp [intOf]; omega⟩
      ·have g0 : (ee == 0) = false := beq_eq_false_iff_ne.2 h0
       go_wp2
       exact ⟨⟨k + 1, by omega, by go_num, X, (f k).on, ee, hX, HE, Ht, Hd, Hf, He, fun h => absurd h h0, h2⟩, by simp [intOf]; omega⟩
  ·obtain rfl : k = n := by omega
   by_cases h0 : ee = 0
   ·subst h0
    have hVA : Hid (V = Wv (Zd c l.r X fr on)) := by
     have := h1.out rfl
     rw [Nat.sub_self] at this
     exact this
    clear h1 h2
    have e0 := He.c1
    have le := He.lt
    have B3e := B3.ext HE
    obtain ⟨o0, o1, o2, o3⟩ := B3e.c4
    have lo := B3e.lt
    have NA := Nu A A' ca cb c l hr X hX fr on bt bd b2 b1 bf be v _ HE C Z0 Ht Hd (B2.ext HE) (B1.ext HE) Hf He g3 n1 n2 n3 n4.out n5.out n6.out
    go_upto_region 24 with (first | (go_at_call 79; (with_reducible refine Calls.mono (NA) ?_); rintro e wk ⟨rfl, hO, hf, he, Y, hYin, hd, hY⟩) | (go_at_fn 79; (with_reducible refine Calls.mono (NA) ?_); rintro e wk ⟨rfl, hO, hf, he, Y, hYin, hd, hY⟩))
    replace HE := hO.ext HE gS.out
    replace Ht := hO.held Ht n4.out
    clear hO Hd Hf He NA
    have Hd := hd
    have Hf := hf
    have He := he
    clear hd hf he
    clear e0 le o0 o1 o2 o3 lo B3e
    generalize Zd c l.r X fr on = a at *
    obtain ⟨aX, ae⟩ := a
    simp only [] at He hY hVA
    by_cases h0 : ae = 0
    ·subst h0
     have hy := hY rfl
     subst hy
     have hV : Hid (V = (Y, 0)) := by unfold Hid; rw [hVA.out]; exact P4 rfl
     clear hVA hY
     have e0 := He.c1
     have le := He.lt
     have R4 := B4.ext HE
     obtain ⟨d0, d1, d2, d3, d4, d5⟩ := Hd.c6
     have ld := Hd.lt
     have z0 := R4.frozen 0
     have z1 := R4.frozen 1
     have z2 := R4.frozen 2
     have z3 := R4.frozen 3
     have z4 := R4.frozen 4
     have z5 := R4.frozen 5
     obtain ⟨x0, x1, x2, x3, x4, x5⟩ := R4.c6
     have lx := R4.lt
     have R6 := Yg R4 (.int .i64 Y.p.n) (.int .i64 Y.p.d) (.int .i64 Y.i.n) (.int .i64 Y.i.d) (.int .i64 Y.s.n) (.int .i64 Y.s.d)
     have EF := Yf (E.trans HE) hbr (.int .i64 Y.p.n) (.int .i64 Y.p.d) (.int .i64 Y.i.n) (.int .i64 Y.i.d) (.int .i64 Y.s.n) (.int .i64 Y.s.d)
     obtain ⟨y0, y1, y2, y3, y4, y5⟩ := R6.c6
     go_wp2
     refine bodyPost_ret (v := .tuple #[.agg #[.int .i64 Y.p.n, .int .i64 Y.p.d, .int .i64 Y.i.n, .int .i64 Y.i.d, .int .i64 Y.s.n, .int .i64 Y.s.d], .int .i64 0]) (by simp [results, Tryd.results58, go_sem, y0, y1, y2, y3, y4, y5]) rfl ⟨by rw [hV.out], EF⟩
    ·have g0 : (ae == 0) = false := beq_eq_false_iff_ne.2 h0
     have hV : Hid (V = (Jq, ae)) := by unfold Hid; rw [hVA.out]; exact V0 h0
     clear hVA hY h0
     have g0n : (ae != 0) = true := by rw [bne, g0]; rfl
     have e0 := He.c1
     have le := He.lt
     go_upto_region 25 with (fail)
     clear e0 le
     apply Np (S := fun w' => Qa w w' ∧ Qb w' b4 84 #[.int .i64 0, .int .i64 0, .int .i64 0, .int .i64 0, .int .i64 0, .int .i64 0])
     ·refine Q5 4 [3] (fun x => Xk x be 33 #[.int .i64 ae]) Qr rfl ?_
      intro vz hvz
      replace He := He.ext hvz
      replace HE := HE.trans hvz
      clear hvz
      refine Qp (g := 2) [0, 1] [_, _] ⟨rfl, rfl, trivial⟩ (by kernel_rfl) (by kernel_rfl) (Xk.mk He) ?_
      simp only [Qd, Qe, Qf]
      apply Exists.intro
      refine ⟨fun u hu => ?_, ?_⟩
      ·have e0 := hu.out.c1
       have le := hu.out.lt
       repeat (first | go_big_quiet_skip | (go_big_quiet_want; go_big_quiet_op; go_big_quiet_on))
       refine wpQuiet_nil ?_
       rfl
      refine Qj 2 rfl (by kernel_rfl) ?_
      simp only [Qd, Qe, Qf]
      have R4 := B4.ext HE
      have z0 := R4.frozen 0
      have z1 := R4.frozen 1
      have z2 := R4.frozen 2
      have z3 := R4.frozen 3
      have z4 := R4.frozen 4
      have z5 := R4.frozen 5
      obtain ⟨x0, x1, x2, x3, x4, x5⟩ := R4.c6
      have lx := R4.lt
      go_wp2
      have R6 := Yg R4 (.int .i64 0) (.int .i64 0) (.int .i64 0) (.int .i64 0) (.int .i64 0) (.int .i64 0)
      have EF := Yf (E.trans HE) hbr (.int .i64 0) (.int .i64 0) (.int .i64 0) (.int .i64 0) (.int .i64 0) (.int .i64 0)
      replace He := Ms He hbe4 (.int .i64 0) (.int .i64 0) (.int .i64 0) (.int .i64 0) (.int .i64 0) (.int .i64 0)
      clear z0 z1 z2 z3 z4 z5 x0 x1 x2 x3 x4 x5 lx R4
      generalize World.setCell _ _ _ = wq at *
      refine Qi (Xk.mk He) ?_
      refine Qn 3 rfl (by kernel_rfl) ?_
      simp only [Qd, Qe, Qf]
      go_wp2
      refine Qm ?_
      refine Qt (by kernel_rfl) ?_
      exact ⟨rfl, ⟨EF, R6⟩, rfl⟩
     rintro w9 ⟨EF, R6⟩
     obtain ⟨y0, y1, y2, y3, y4, y5⟩ := R6.c6
     go_wp2
     refine bodyPost_ret (v := .tuple #[.agg #[.int .i64 0, .int .i64 0, .int .i64 0, .int .i64 0, .int .i64 0, .int .i64 0], .int .i64 ae]) (by simp [results, Tryd.results58, go_sem, y0, y1, y2, y3, y4, y5]) rfl ⟨by rw [hV.out]; rfl, EF⟩
   ·have g0 : (ee == 0) = false := beq_eq_false_iff_ne.2 h0
    have hV := Lib.hid (h2.out h0)
    clear h1 h2 h0
    have g0n : (ee != 0) = true := by rw [bne, g0]; rfl
    have e0 := He.c1
    have le := He.lt
    go_upto_region 25 with (fail)
    clear e0 le
    apply Np (S := fun w' => Qa w w' ∧ Qb w' b4 84 #[.int .i64 0, .int .i64 0, .int .i64 0, .int .i64 0, .int .i64 0, .int .i64 0])
    ·refine Q5 4 [3] (fun x => Xk x be 33 #[.int .i64 ee]) Qr rfl ?_
     intro vz hvz
     replace He := He.ext hvz
     replace HE := HE.trans hvz
     clear hvz
     refine Qp (g := 2) [0, 1] [_, _] ⟨rfl, rfl, trivial⟩ (by kernel_rfl) (by kernel_rfl) (Xk.mk He) ?_
     simp only [Qd, Qe, Qf]
     apply Exists.intro
     refine ⟨fun u hu => ?_, ?_⟩
     ·have e0 := hu.out.c1
      have le := hu.out.lt
      repeat (first | go_big_quiet_skip | (go_big_quiet_want; go_big_quiet_op; go_big_quiet_on))
      refine wpQuiet_nil ?_
      rfl
     refine Qj 2 rfl (by kernel_rfl) ?_
     simp only [Qd, Qe, Qf]
     have R4 := B4.ext HE
     have z0 := R4.frozen 0
     have z1 := R4.frozen 1
     have z2 := R4.frozen 2
     have z3 := R4.frozen 3
     have z4 := R4.frozen 4
     have z5 := R4.frozen 5
     obtain ⟨x0, x1, x2, x3, x4, x5⟩ := R4.c6
     have lx := R4.lt
     go_wp2
     have R6 := Yg R4 (.int .i64 0) (.int .i64 0) (.int .i64 0) (.int .i64 0) (.int .i64 0) (.int .i64 0)
     have EF := Yf (E.trans HE) hbr (.int .i64 0) (.int .i64 0) (.int .i64 0) (.int .i64 0) (.int .i64 0) (.int .i64 0)
     replace He := Ms He hbe4 (.int .i64 0) (.int .i64 0) (.int .i64 0) (.int .i64 0) (.int .i64 0) (.int .i64 0)
     clear z0 z1 z2 z3 z4 z5 x0 x1 x2 x3 x4 x5 lx R4
     generalize World.setCell _ _ _ = wq at *
     refine Qi (Xk.mk He) ?_
     refine Qn 3 rfl (by kernel_rfl) ?_
     simp only [Qd, Qe, Qf]
     go_wp2
     refine Qm ?_
     refine Qt (by kernel_rfl) ?_
     exact ⟨rfl, ⟨EF, R6⟩, rfl⟩
    rintro w9 ⟨EF, R6⟩
    obtain ⟨y0, y1, y2, y3, y4, y5⟩ := R6.c6
    go_wp2
    refine bodyPost_ret (v := .tuple #[.agg #[.int .i64 0, .int .i64 0, .int .i64 0, .int .i64 0, .int .i64 0, .int .i64 0], .int .i64 ee]) (by simp [results, Tryd.results58, go_sem, y0, y1, y2, y3, y4, y5]) rfl ⟨by rw [hV.out]; rfl, EF⟩
theorem Kh {c : Qc} {r : Rt} {x : Db} {a b : Dt} (h : x.In) : (Zd c r x a b).1.In := by
 unfold Zd
 split
 ·exact h
 ·split
  ·exact h
  ·exact ⟨h.p, U0 _ _, h.s⟩
theorem Dm {x : Db} {n : Rt} (h : x.In) : (Jz x n).1.In := by
 unfold Jz
 split
 ·exact h
 ·split
  ·exact h
  ·split
   ·exact h
   ·exact ⟨Mw.1, Mw.1, U0 _ _⟩
theorem Di (c : Qc) (r : Rt) (f : Nat → Zy) (on : Dt) : ∀ m k x a, Db.In x → (Y7 c r f on k m x a).1.In
 | 0, _, _, _, h => Kh h
 | m + 1, k, x, a, h => by
  rw [Y7]
  split
  ·exact Kh h
  ·split
   ·exact Kh h
   ·split
    ·exact Dm (Kh h)
    ·exact Di c r f on m (k + 1) _ _ (Dm (Kh h))
theorem Qde (c : Qc) (l : Ln) (f : Nat → Zy) (n : Nat) (on : Dt) (hp : l.p.In) : (c.owedV l f n on).1.p.In ∧ (c.owedV l f n on).1.i.In := by
 have h0 : Jq.In := ⟨Yj, Yj, Yj⟩
 have h1 : (start l).In := ⟨hp, Wl, Wl⟩
 have H : (c.owedV l f n on).1.In := by
  unfold Qc.owedV
  split
  ·exact h0
  ·split
   ·exact h0
   ·split
    ·exact h0
    ·split
     ·exact h0
     ·exact Di c l.r f on n 0 _ _ h1
 exact ⟨H.p, H.i⟩
theorem Dh (A A' : Option Addr) (ca cb : Nat) (c : Qc) (B : Option Addr) (n cap : Nat) (l : Ln) (f : Nat → Zy) (hp : l.p.In) (hr : l.r.In) (hin : ∀ i, i < n → (f i).n.In) (w : World) (hC : Q8 w A ca A' cb c) (hB : Qo w B n 6 (J5 f)) (hn : n ≤ 9223372036854775807) (hZ : Zl w) (on : Dt) :
  Calls Tryd.prog 34 #[.agg #[.slice A c.nk ca, .slice A' c.ny cb], .agg #[.int .i64 l.p.n, .int .i64 l.p.d, .int .i64 l.r.n, .int .i64 l.r.d, .int .i64 l.f.y, .int .i64 l.f.m, .bool l.f.s, .int .i64 l.f.d], .slice B n cap, .agg #[.int .i64 on.y, .int .i64 on.m, .bool on.s, .int .i64 on.d]] w fun e w' => e = .returned (.tuple #[.agg #[.int .i64 (c.owedV l f n on).1.p.n, .int .i64 (c.owedV l f n on).1.p.d, .int .i64 (c.owedV l f n on).1.i.n, .int .i64 (c.owedV l f n on).1.i.d, .int .i64 (c.owedV l f n on).1.s.n, .int .i64 (c.owedV l f n on).1.s.d], .int .i64 (c.owedV l f n on).2]) ∧ Qa w w' := by
 have NO := fun w h => K0 A A' ca cb c w h
 have NC := fun hv w h1 h2 => Eu A A' ca cb c B n cap l f hp hr hin w h1 h2 hn hv
 have NW := fun w h1 h2 z => Qdg A A' ca cb c B n cap l f hp hr hin w h1 h2 hn z on
 have ND := fun d w h => Xc A A' ca cb c d w h
 obtain ⟨R, hR0⟩ := Qg (c.owedV l f n on)
 rw [← hR0]
 have HR := Lib.hid hR0
 clear hR0
 go_enter Tryd.func34, Tryd.ntmps34
 go_upto_region 1 with (fail)
 obtain ⟨v, hv⟩ := Qg ((((w.alloc (.cells #[.slice A c.nk ca, .slice A' c.ny cb] 25)).alloc (.cells #[.int .i64 l.p.n, .int .i64 l.p.d, .int .i64 l.r.n, .int .i64 l.r.d, .int .i64 l.f.y, .int .i64 l.f.m, .bool l.f.s, .int .i64 l.f.d] 79)).alloc (.cells #[.int .i64 on.y, .int .i64 on.m, .bool on.s, .int .i64 on.d] 27)).alloc (.cells #[.int .i64 0, .int .i64 0, .int .i64 0, .int .i64 0, .int .i64 0, .int .i64 0] 84))
 rw [← hv]
 have E : Qa w v := by rw [hv]; exact ((((Qa.refl _).alloc _).alloc _).alloc _).alloc _
 have B1 : Qb v w.heap.size 25 #[.slice A c.nk ca, .slice A' c.ny cb] := by rw [hv]; exact (((Qb.new _ _ _).alloc _).alloc _).alloc _
 have B2 : Qb v (w.heap.size + 1) 79 #[.int .i64 l.p.n, .int .i64 l.p.d, .int .i64 l.r.n, .int .i64 l.r.d, .int .i64 l.f.y, .int .i64 l.f.m, .bool l.f.s, .int .i64 l.f.d] := by rw [hv]; exact ((Qb.at _ _ _ _ (by simp)).alloc _).alloc _
 have B3 : Qb v (w.heap.size + 1 + 1) 27 #[.int .i64 on.y, .int .i64 on.m, .bool on.s, .int .i64 on.d] := by rw [hv]; exact (Qb.at _ _ _ _ (by simp)).alloc _
 have B4 : Qb v (w.heap.size + 1 + 1 + 1) 84 #[.int .i64 0, .int .i64 0, .int .i64 0, .int .i64 0, .int .i64 0, .int .i64 0] := by rw [hv]; exact Qb.at _ _ _ _ (by simp)
 clear hv
 obtain ⟨b4, hb4⟩ := Qg (w.heap.size + 1 + 1 + 1)
 rw [← hb4] at B4 ⊢
 obtain ⟨b3, hb3⟩ := Qg (w.heap.size + 1 + 1)
 rw [← hb3] at B3 ⊢
 obtain ⟨b2, hb2⟩ := Qg (w.heap.size + 1)
 rw [← hb2] at B2 ⊢
 obtain ⟨b1, hb1⟩ := Qg (w.heap.size)
 rw [← hb1] at B1 ⊢
 have hbr : w.heap.size ≤ b4 := by omega
 have hbr1 : w.heap.size ≤ b1 := by omega
 have hbr2 : w.heap.size ≤ b2 := by omega
 have hbr3 : w.heap.size ≤ b3 := by omega
 have hn21 : b2 ≠ b1 := by omega
 have hn31 : b3 ≠ b1 := by omega
 have hn32 : b3 ≠ b2 := by omega
 have hn41 : b4 ≠ b1 := by omega
 have hn42 : b4 ≠ b2 := by omega
 have hn43 : b4 ≠ b3 := by omega
 clear hb1 hb2 hb3 hb4
 have RB := hB.ext E
 have Z0 := hZ.ext E
 have C := hC.ext E
 clear hB hZ
 obtain ⟨k0, k1⟩ := B1.c2
 have lk := B1.lt
 cases hv : c.valid
 ·have hr9 : R = (Jq, 70) := by rw [HR.out]; unfold Qc.owedV Qc.loanE; rw [hv]; rfl
  have hc : c.chk = 70 := by unfold Qc.chk; rw [hv]; rfl
  simp only [hc] at NO
  subst hr9
  clear HR hc hv NC NW ND
  go_upto_region 2 with (go_at_call 41; (with_reducible refine Calls.mono (NO _ (hC.ext E)) ?_); rintro e w1 ⟨rfl, h1⟩)
  obtain ⟨v3, hv⟩ := Qg (w1.alloc (.cells #[.slice A c.nk ca, .slice A' c.ny cb] 52))
  rw [← hv]
  have h3 : Qa w1 v3 := by rw [hv]; exact (Qa.refl _).alloc _
  have H3 : Qb v3 w1.heap.size 52 #[.slice A c.nk ca, .slice A' c.ny cb] := by rw [hv]; exact Qb.new _ _ _
  clear hv
  generalize w1.heap.size = b9 at *
  replace E := (E.trans h1).trans h3
  replace B4 := (B4.ext h1).ext h3
  have z0 := B4.frozen 0
  have z1 := B4.frozen 1
  have z2 := B4.frozen 2
  have z3 := B4.frozen 3
  have z4 := B4.frozen 4
  have z5 := B4.frozen 5
  obtain ⟨x0, x1, x2, x3, x4, x5⟩ := B4.c6
  have lx := B4.lt
  have H9 := Yg B4 (.int .i64 0) (.int .i64 0) (.int .i64 0) (.int .i64 0) (.int .i64 0) (.int .i64 0)
  have EF := Yf E hbr (.int .i64 0) (.int .i64 0) (.int .i64 0) (.int .i64 0) (.int .i64 0) (.int .i64 0)
  obtain ⟨y0, y1, y2, y3, y4, y5⟩ := H9.c6
  go_wp2
  refine bodyPost_ret (v := .tuple #[.agg #[.int .i64 0, .int .i64 0, .int .i64 0, .int .i64 0, .int .i64 0, .int .i64 0], .int .i64 70]) (by simp [results, Tryd.results34, go_sem, y0, y1, y2, y3, y4, y5]) rfl ⟨rfl, EF⟩
 ·have hc : c.chk = 0 := by unfold Qc.chk; rw [hv]; rfl
  simp only [hc] at NO
  replace NC := NC hv
  clear hv hc
  go_upto_region 4 with (go_at_call 41; (with_reducible refine Calls.mono (NO _ (hC.ext E)) ?_); rintro e w1 ⟨rfl, h1⟩)
  obtain ⟨v3, hv⟩ := Qg (w1.alloc (.cells #[.slice A c.nk ca, .slice A' c.ny cb] 52))
  rw [← hv]
  have h3 : Qa w1 v3 := by rw [hv]; exact (Qa.refl _).alloc _
  have H3 : Qb v3 w1.heap.size 52 #[.slice A c.nk ca, .slice A' c.ny cb] := by rw [hv]; exact Qb.new _ _ _
  clear hv
  generalize w1.heap.size = b9 at *
  replace E := (E.trans h1).trans h3
  replace B2 := (B2.ext h1).ext h3
  replace B3 := (B3.ext h1).ext h3
  replace B4 := (B4.ext h1).ext h3
  replace RB := (RB.ext h1).ext h3
  replace Z0 := (Z0.ext h1).ext h3
  replace C := (C.ext h1).ext h3
  clear h1 h3 k0 k1 lk B1 NO
  obtain ⟨k0, k1⟩ := H3.c2
  have lk := H3.lt
  obtain ⟨p0, p1, p2, p3, p4, p5, p6, p7⟩ := B2.c8
  have lp := B2.lt
  have HE := Lib.hid (show c.loanE l f n = c.loanE l f n from rfl)
  obtain ⟨q, hq⟩ := Qg (c.loanE l f n)
  simp only [← hq] at NC
  replace hq := Lib.hid hq
  clear HE
  go_upto_region 5 with (go_at_call 57; (with_reducible refine Calls.mono (NC _ C RB) ?_); rintro e w2 ⟨rfl, h1⟩)
  replace E := E.trans h1
  replace B2 := B2.ext h1
  replace B3 := B3.ext h1
  replace B4 := B4.ext h1
  replace H3 := H3.ext h1
  replace RB := RB.ext h1
  replace Z0 := Z0.ext h1
  replace C := C.ext h1
  clear h1 k0 k1 lk p0 p1 p2 p3 p4 p5 p6 p7 lp NC
  by_cases e0 : q = 0
  rotate_left
  ·have g0 : (q == 0) = false := beq_eq_false_iff_ne.2 e0
   have g0n : (q != 0) = true := by rw [bne, g0]; rfl
   have hr9 : R = (Jq, q) := by rw [HR.out, hq.out]; unfold Qc.owedV; rw [if_pos (by rw [← hq.out]; exact e0)]
   subst hr9
   clear HR e0 hq NW ND
   have z0 := B4.frozen 0
   have z1 := B4.frozen 1
   have z2 := B4.frozen 2
   have z3 := B4.frozen 3
   have z4 := B4.frozen 4
   have z5 := B4.frozen 5
   obtain ⟨x0, x1, x2, x3, x4, x5⟩ := B4.c6
   have lx := B4.lt
   have H9 := Yg B4 (.int .i64 0) (.int .i64 0) (.int .i64 0) (.int .i64 0) (.int .i64 0) (.int .i64 0)
   have EF := Yf E hbr (.int .i64 0) (.int .i64 0) (.int .i64 0) (.int .i64 0) (.int .i64 0) (.int .i64 0)
   obtain ⟨y0, y1, y2, y3, y4, y5⟩ := H9.c6
   go_wp2
   refine bodyPost_ret (v := .tuple #[.agg #[.int .i64 0, .int .i64 0, .int .i64 0, .int .i64 0, .int .i64 0, .int .i64 0], .int .i64 q]) (by simp [results, Tryd.results34, go_sem, y0, y1, y2, y3, y4, y5]) rfl ⟨rfl, EF⟩
  subst e0
  obtain ⟨k0, k1⟩ := H3.c2
  have lk := H3.lt
  obtain ⟨p0, p1, p2, p3, p4, p5, p6, p7⟩ := B2.c8
  have lp := B2.lt
  obtain ⟨o0, o1, o2, o3⟩ := B3.c4
  have lo := B3.lt
  have HR2 : Hid (R = if c.numV on = 0 then (Jq, 71) else if c.numV on < c.numV l.f then (Jq, 8) else Jv c l.r f on 0 n (start l) l.f) := by
   unfold Hid
   by_cases d0 : c.numV on = 0
   ·rw [HR.out, if_pos d0]; unfold Qc.owedV; rw [← hq.out, if_neg (by simp), if_pos d0]
   ·by_cases d1 : c.numV on < c.numV l.f
    ·rw [HR.out, if_neg d0, if_pos d1]; unfold Qc.owedV; rw [← hq.out, if_neg (by simp), if_neg d0, if_pos d1]
    ·rw [HR.out, if_neg d0, if_neg d1]; exact Qdf hq.out.symm d0 d1
  clear HR hq
  generalize Jv c l.r f on 0 n (start l) l.f = Q at *
  have ND1 := fun w h => ND on w h
  have ND2 := fun w h => ND l.f w h
  clear ND
  generalize c.numV on = N at *
  generalize c.numV l.f = M at *
  go_upto_region 8 with (go_at_call 22; (with_reducible refine Calls.mono (ND1 _ C) ?_); rintro e w3 ⟨rfl, hd⟩)
  replace E := E.trans hd
  replace B2 := B2.ext hd
  replace B3 := B3.ext hd
  replace B4 := B4.ext hd
  replace H3 := H3.ext hd
  replace RB := RB.ext hd
  replace Z0 := Z0.ext hd
  replace C := C.ext hd
  clear hd k0 k1 lk p0 p1 p2 p3 p4 p5 p6 p7 lp o0 o1 o2 o3 lo ND1
  by_cases d0 : N = 0
  ·subst d0
   have hr9 := HR2.out
   rw [if_pos rfl] at hr9
   subst hr9
   clear HR2 NW ND2
   have z0 := B4.frozen 0
   have z1 := B4.frozen 1
   have z2 := B4.frozen 2
   have z3 := B4.frozen 3
   have z4 := B4.frozen 4
   have z5 := B4.frozen 5
   obtain ⟨x0, x1, x2, x3, x4, x5⟩ := B4.c6
   have lx := B4.lt
   have H9 := Yg B4 (.int .i64 0) (.int .i64 0) (.int .i64 0) (.int .i64 0) (.int .i64 0) (.int .i64 0)
   have EF := Yf E hbr (.int .i64 0) (.int .i64 0) (.int .i64 0) (.int .i64 0) (.int .i64 0) (.int .i64 0)
   obtain ⟨y0, y1, y2, y3, y4, y5⟩ := H9.c6
   go_wp2
   refine bodyPost_ret (v := .tuple #[.agg #[.int .i64 0, .int .i64 0, .int .i64 0, .int .i64 0, .int .i64 0, .int .i64 0], .int .i64 71]) (by simp [results, Tryd.results34, go_sem, y0, y1, y2, y3, y4, y5]) rfl ⟨rfl, EF⟩
  have d0b : (N == 0) = false := beq_eq_false_iff_ne.2 d0
  have HR3 : Hid (R = if N < M then (Jq, 8) else Q) := by unfold Hid; rw [HR2.out, if_neg d0]
  clear HR2 d0
  obtain ⟨k0, k1⟩ := H3.c2
  have lk := H3.lt
  obtain ⟨p0, p1, p2, p3, p4, p5, p6, p7⟩ := B2.c8
  have lp := B2.lt
  obtain ⟨o0, o1, o2, o3⟩ := B3.c4
  have lo := B3.lt
  have DAYARM := ND2 _ C
  by_cases d1 : N < M
  ·have d1b : decide (N < M) = true := decide_eq_true d1
   have hr9 := HR3.out
   rw [if_pos d1] at hr9
   subst hr9
   clear HR3 NW d1
   go_upto_region 11 with (go_at_call 22; (with_reducible refine Calls.mono (ND2 _ C) ?_); rintro e w4 ⟨rfl, hd⟩)
   replace E := E.trans hd
   replace B4 := B4.ext hd
   have z0 := B4.frozen 0
   have z1 := B4.frozen 1
   have z2 := B4.frozen 2
   have z3 := B4.frozen 3
   have z4 := B4.frozen 4
   have z5 := B4.frozen 5
   obtain ⟨x0, x1, x2, x3, x4, x5⟩ := B4.c6
   have lx := B4.lt
   have H9 := Yg B4 (.int .i64 0) (.int .i64 0) (.int .i64 0) (.int .i64 0) (.int .i64 0) (.int .i64 0)
   have EF := Yf E hbr (.int .i64 0) (.int .i64 0) (.int .i64 0) (.int .i64 0) (.int .i64 0) (.int .i64 0)
   obtain ⟨y0, y1, y2, y3, y4, y5⟩ := H9.c6
   go_wp2
   refine bodyPost_ret (v := .tuple #[.agg #[.int .i64 0, .int .i64 0, .int .i64 0, .int .i64 0, .int .i64 0, .int .i64 0], .int .i64 8]) (by simp [results, Tryd.results34, go_sem, y0, y1, y2, y3, y4, y5]) rfl ⟨rfl, EF⟩
  ·have d1b : decide (N < M) = false := decide_eq_false d1
   have hr9 := HR3.out
   rw [if_neg d1] at hr9
   subst hr9
   clear HR3 d1
   go_upto_region 12 with (go_at_call 22; (with_reducible refine Calls.mono (ND2 _ C) ?_); rintro e w4 ⟨rfl, hd⟩)
   replace E := E.trans hd
   replace B2 := B2.ext hd
   replace B3 := B3.ext hd
   replace B4 := B4.ext hd
   replace H3 := H3.ext hd
   replace RB := RB.ext hd
   replace Z0 := Z0.ext hd
   replace C := C.ext hd
   clear hd k0 k1 lk p0 p1 p2 p3 p4 p5 p6 p7 lp o0 o1 o2 o3 lo ND2 DAYARM
   obtain ⟨k0, k1⟩ := H3.c2
   have lk := H3.lt
   obtain ⟨p0, p1, p2, p3, p4, p5, p6, p7⟩ := B2.c8
   have lp := B2.lt
   obtain ⟨o0, o1, o2, o3⟩ := B3.c4
   have lo := B3.lt
   obtain ⟨⟨⟨Pn, Pd⟩, ⟨In_, Id⟩, ⟨Sn, Sd⟩⟩, Re⟩ := R
   go_wp2_with (go_at_call 58; (with_reducible refine Calls.mono (NW _ C RB Z0) ?_); rintro e w5 ⟨rfl, h1⟩; replace E := E.trans h1; replace B4 := B4.ext h1; have z0 := B4.frozen 0; have z1 := B4.frozen 1; have z2 := B4.frozen 2; have z3 := B4.frozen 3; have z4 := B4.frozen 4; have z5 := B4.frozen 5; obtain ⟨x0, x1, x2, x3, x4, x5⟩ := B4.c6; have lx := B4.lt)
   have H9 := Yg B4 (.int .i64 Pn) (.int .i64 Pd) (.int .i64 In_) (.int .i64 Id) (.int .i64 Sn) (.int .i64 Sd)
   have EF := Yf E hbr (.int .i64 Pn) (.int .i64 Pd) (.int .i64 In_) (.int .i64 Id) (.int .i64 Sn) (.int .i64 Sd)
   obtain ⟨y0, y1, y2, y3, y4, y5⟩ := H9.c6
   go_wp2
   refine bodyPost_ret (v := .tuple #[.agg #[.int .i64 Pn, .int .i64 Pd, .int .i64 In_, .int .i64 Id, .int .i64 Sn, .int .i64 Sd], .int .i64 Re]) (by simp [results, Tryd.results34, go_sem, y0, y1, y2, y3, y4, y5]) rfl ⟨rfl, EF⟩
theorem Qec (A A' : Option Addr) (ca cb : Nat) (c : Qc) (B : Option Addr) (n cap : Nat) (l : Ln) (f : Nat → Zy) (hp : l.p.In) (hr : l.r.In) (hin : ∀ i, i < n → (f i).n.In) (w : World) (hC : Q8 w A ca A' cb c) (hB : Qo w B n 6 (J5 f)) (hn : n ≤ 9223372036854775807) (hZ : Zl w) (on : Dt) :
  Calls Tryd.prog 36 #[.agg #[.slice A c.nk ca, .slice A' c.ny cb], .agg #[.int .i64 l.p.n, .int .i64 l.p.d, .int .i64 l.r.n, .int .i64 l.r.d, .int .i64 l.f.y, .int .i64 l.f.m, .bool l.f.s, .int .i64 l.f.d], .slice B n cap, .agg #[.int .i64 on.y, .int .i64 on.m, .bool on.s, .int .i64 on.d]] w fun e w' => e = .returned (.tuple #[.agg #[.int .i64 (c.settleV l f n on).1.n, .int .i64 (c.settleV l f n on).1.d], .int .i64 (c.settleV l f n on).2]) ∧ Qa w w' := by
 have NO := fun w h1 h2 z => Dh A A' ca cb c B n cap l f hp hr hin w h1 h2 hn z on
 have hoi := Qde c l f n on hp
 obtain ⟨R, hR0⟩ := Qg (c.settleV l f n on)
 rw [← hR0]
 have HR := Lib.hid hR0
 clear hR0
 go_enter Tryd.func36, Tryd.ntmps36
 go_upto_region 1 with (fail)
 obtain ⟨v, hv⟩ := Qg ((((w.alloc (.cells #[.slice A c.nk ca, .slice A' c.ny cb] 25)).alloc (.cells #[.int .i64 l.p.n, .int .i64 l.p.d, .int .i64 l.r.n, .int .i64 l.r.d, .int .i64 l.f.y, .int .i64 l.f.m, .bool l.f.s, .int .i64 l.f.d] 79)).alloc (.cells #[.int .i64 on.y, .int .i64 on.m, .bool on.s, .int .i64 on.d] 27)).alloc (.cells #[.int .i64 0, .int .i64 0] 61))
 rw [← hv]
 have E : Qa w v := by rw [hv]; exact ((((Qa.refl _).alloc _).alloc _).alloc _).alloc _
 have B1 : Qb v w.heap.size 25 #[.slice A c.nk ca, .slice A' c.ny cb] := by rw [hv]; exact (((Qb.new _ _ _).alloc _).alloc _).alloc _
 have B2 : Qb v (w.heap.size + 1) 79 #[.int .i64 l.p.n, .int .i64 l.p.d, .int .i64 l.r.n, .int .i64 l.r.d, .int .i64 l.f.y, .int .i64 l.f.m, .bool l.f.s, .int .i64 l.f.d] := by rw [hv]; exact ((Qb.at _ _ _ _ (by simp)).alloc _).alloc _
 have B3 : Qb v (w.heap.size + 1 + 1) 27 #[.int .i64 on.y, .int .i64 on.m, .bool on.s, .int .i64 on.d] := by rw [hv]; exact (Qb.at _ _ _ _ (by simp)).alloc _
 have B4 : Qb v (w.heap.size + 1 + 1 + 1) 61 #[.int .i64 0, .int .i64 0] := by rw [hv]; exact Qb.at _ _ _ _ (by simp)
 clear hv
 obtain ⟨b4, hb4⟩ := Qg (w.heap.size + 1 + 1 + 1)
 rw [← hb4] at B4 ⊢
 obtain ⟨b3, hb3⟩ := Qg (w.heap.size + 1 + 1)
 rw [← hb3] at B3 ⊢
 obtain ⟨b2, hb2⟩ := Qg (w.heap.size + 1)
 rw [← hb2] at B2 ⊢
 obtain ⟨b1, hb1⟩ := Qg (w.heap.size)
 rw [← hb1] at B1 ⊢
 have hbr : w.heap.size ≤ b4 := by omega
 have hbr1 : w.heap.size ≤ b1 := by omega
 have hbr2 : w.heap.size ≤ b2 := by omega
 have hbr3 : w.heap.size ≤ b3 := by omega
 have hn21 : b2 ≠ b1 := by omega
 have hn31 : b3 ≠ b1 := by omega
 have hn32 : b3 ≠ b2 := by omega
 have hn41 : b4 ≠ b1 := by omega
 have hn42 : b4 ≠ b2 := by omega
 have hn43 : b4 ≠ b3 := by omega
 clear hb1 hb2 hb3 hb4
 have RB := hB.ext E
 have Z0 := hZ.ext E
 have C := hC.ext E
 clear hB hZ hC
 obtain ⟨k0, k1⟩ := B1.c2
 have lk := B1.lt
 obtain ⟨p0, p1, p2, p3, p4, p5, p6, p7⟩ := B2.c8
 have lp := B2.lt
 obtain ⟨o0, o1, o2, o3⟩ := B3.c4
 have lo := B3.lt
 have HR2 : Hid (R = if (c.owedV l f n on).2 ≠ 0 then (Zc, (c.owedV l f n on).2) else Q7 (c.owedV l f n on).1.p (c.owedV l f n on).1.i) := HR
 clear HR
 generalize c.owedV l f n on = Q at *
 obtain ⟨⟨⟨Pn, Pd⟩, ⟨In_, Id⟩, ⟨Sn, Sd⟩⟩, Re⟩ := Q
 obtain ⟨hi1, hi2⟩ := hoi
 simp only [] at HR2 NO hi1 hi2
 go_upto_region 2 with (go_at_call 34; (with_reducible refine Calls.mono (NO _ C RB Z0) ?_); rintro e w1 ⟨rfl, h1⟩)
 obtain ⟨v3, hv⟩ := Qg (w1.alloc (.cells #[.int .i64 Pn, .int .i64 Pd, .int .i64 In_, .int .i64 Id, .int .i64 Sn, .int .i64 Sd] 84))
 rw [← hv]
 have h3 : Qa w1 v3 := by rw [hv]; exact (Qa.refl _).alloc _
 have H3 : Qb v3 w1.heap.size 84 #[.int .i64 Pn, .int .i64 Pd, .int .i64 In_, .int .i64 Id, .int .i64 Sn, .int .i64 Sd] := by rw [hv]; exact Qb.new _ _ _
 clear hv
 generalize w1.heap.size = b9 at *
 replace E := (E.trans h1).trans h3
 replace B4 := (B4.ext h1).ext h3
 replace Z0 := (Z0.ext h1).ext h3
 clear h1 h3 k0 k1 lk B1 NO p0 p1 p2 p3 p4 p5 p6 p7 lp o0 o1 o2 o3 lo B2 B3 C RB
 by_cases e0 : Re = 0
 rotate_left
 ·have g0 : (Re == 0) = false := beq_eq_false_iff_ne.2 e0
  have g0n : (Re != 0) = true := by rw [bne, g0]; rfl
  have hr9 := HR2.out
  rw [if_pos e0] at hr9
  subst hr9
  clear HR2 e0
  have f0 := B4.frozen 0
  have f1 := B4.frozen 1
  obtain ⟨x0, x1⟩ := B4.c2
  have lx := B4.lt
  have H9 := Ql B4 (.int .i64 0) (.int .i64 0)
  have EF := (E.setCell (p := ⟨b4, 0, none⟩) hbr (.int .i64 0)).setCell (p := ⟨b4, 1, none⟩) hbr (.int .i64 0)
  obtain ⟨y0, y1⟩ := H9.c2
  go_wp2
  refine bodyPost_ret (v := .tuple #[.agg #[.int .i64 0, .int .i64 0], .int .i64 Re]) (by simp [results, Tryd.results36, go_sem, y0, y1]) rfl ⟨rfl, EF⟩
 subst e0
 have NS := fun w z => Ki ⟨Pn, Pd⟩ ⟨In_, Id⟩ hi1 hi2 w z
 have hr9 := HR2.out
 rw [if_neg (by simp)] at hr9
 rw [← hr9] at NS
 clear HR2 hr9
 obtain ⟨⟨Rn, Rd⟩, Rc⟩ := R
 obtain ⟨k0, k1, k2, k3, k4, k5⟩ := H3.c6
 have lk := H3.lt
 go_wp2_with (first | (go_at_call 59; (with_reducible refine Calls.mono (NS _ Z0) ?_); rintro e wt ⟨rfl, ht⟩; replace E := E.trans ht; replace B4 := B4.ext ht; have f0 := B4.frozen 0; have f1 := B4.frozen 1; obtain ⟨x0, x1⟩ := B4.c2; have lx := B4.lt))
 have H9 := Ql B4 (.int .i64 Rn) (.int .i64 Rd)
 have EF := (E.setCell (p := ⟨b4, 0, none⟩) hbr (.int .i64 Rn)).setCell (p := ⟨b4, 1, none⟩) hbr (.int .i64 Rd)
 obtain ⟨y0, y1⟩ := H9.c2
 go_wp2
 refine bodyPost_ret (v := .tuple #[.agg #[.int .i64 Rn, .int .i64 Rd], .int .i64 Rc]) (by simp [results, Tryd.results36, go_sem, y0, y1]) rfl ⟨rfl, EF⟩
end
section
structure Tk where
 a : Rt
 r : Rt
structure Cw where
 w : Int
 s : Rt
 f : Dt
 t : Dt
/-- The sum of g k .. from s on; the first error ends it. -/
def Xi (g : Nat → Rt × Int) : Nat → Nat → Rt → Rt × Int
 | _, 0, s => (s, 0)
 | k, m + 1, s => if (g k).2 ≠ 0 then (Zc, (g k).2) else if (Q7 s (g k).1).2 ≠ 0 then (Zc, (Q7 s (g k).1).2) else Xi g (k + 1) m (Q7 s (g k).1).1
def Xw (g : Nat → Rt × Int) (n : Nat) : Rt × Int := Xi g 0 n (Zs 0)
def Ur (x : Tk) : Bool := x.a.nn && x.r.pos
def Z9 (t : Nat → Tk) (n : Nat) : Rt × Int := if 64 < n then (Zc, 3) else if (List.range n).all (fun i => Ur (t i)) then Xw (fun i => Js (t i).a (t i).r) n else (Zc, 81)
def Qc.crewOk (c : Qc) (x : Cw) : Bool := decide (0 ≤ x.w) && decide (x.w ≤ 4096) && x.s.shr && (decide (0 < c.numV x.f) && decide (c.numV x.f ≤ c.numV x.t))
def Xz (c : Qc) (x : Cw) : Nat → Rt
 | 0 => Zs x.w
 | 1 => x.s
 | _ => Zs (c.schV x.f x.t + 1)
def Qc.availV (c : Qc) (w : Nat → Cw) (n : Nat) : Rt × Int := if 64 < n then (Zc, 3) else if (List.range n).all (fun i => c.crewOk (w i)) then Xw (fun i => J8 (Xz c (w i)) 3) n else (Zc, 81)
def Qc.balV (c : Qc) (t : Nat → Tk) (n : Nat) (w : Nat → Cw) (m : Nat) : Rt × Int :=
 if !c.valid then (Zc, 70) else if (Z9 t n).2 ≠ 0 then (Zc, (Z9 t n).2) else if (c.availV w m).2 ≠ 0 then (Zc, (c.availV w m).2) else Zq (c.availV w m).1 (Z9 t n).1
def Qc.fewN (c : Qc) (t : Nat → Tk) (n : Nat) (s : Rt) (f u : Dt) : Int := ((Z9 t n).1.n * s.d + s.n * (c.schV f u + 1) * (Z9 t n).1.d - 1) / (s.n * (c.schV f u + 1) * (Z9 t n).1.d)
def Qc.fewV (c : Qc) (t : Nat → Tk) (n : Nat) (s : Rt) (f u : Dt) : Int × Int :=
 if !c.valid then (0, 70) else if (Z9 t n).2 ≠ 0 then (0, (Z9 t n).2)
 else if s.shr && decide (s.n ≠ 0) && (decide (0 < c.numV f) && decide (c.numV f ≤ c.numV u)) then (if 4096 < c.fewN t n s f u then (0, 8) else (c.fewN t n s f u, 0)) else (0, 81)
structure Lt where
 g : ByteArray
 n : Int
 deriving DecidableEq
/-- The Vf of goods: byte by byte. -/
def Z2 (x y : ByteArray) : Bool := decide (x.toList < y.toList)
def Xo (f : Nat → Lt) (k : Nat) : Bool := Zw (f k).g && (decide (k = 0) || Z2 (f (k - 1)).g (f k).g) && decide ((f k).n ≠ 0 ∧ (f k).n ≤ 1099511627776 ∧ -1099511627776 ≤ (f k).n)
def Mk (f : Nat → Lt) (n : Nat) : Bool := (List.range n).all (Xo f)
def Jm (f : Nat → Lt) (n : Nat) : Int := if 64 < n then 3 else if Mk f n then 0 else 51
theorem Qb7 (f : Nat → Lt) (k : Nat) : Xo f k = !(!Zw (f k).g || (decide (0 < k) && !Z2 (f (k - 1)).g (f k).g) || ((f k).n == 0) || decide (1099511627776 < (f k).n) || decide ((f k).n < -1099511627776)) := by
 unfold Xo
 rw [Bool.eq_iff_iff]
 cases Zw (f k).g <;> cases Z2 (f (k - 1)).g (f k).g <;> simp <;> omega
theorem Pe {f : Nat → Lt} {n : Nat} (h : ∀ j, j < n → Xo f j = true) (h64 : ¬ 64 < n) : Jm f n = 0 := by
 unfold Jm Mk
 rw [if_neg h64, if_pos (List.all_eq_true.2 fun j hj => h j (by simpa using hj))]
theorem Qb9 {f : Nat → Lt} {n k : Nat} (hk : k < n) (h : Xo f k = false) (h64 : ¬ 64 < n) : Jm f n = 51 := by
 unfold Jm Mk
 rw [if_neg h64, if_neg (by rw [Bool.not_eq_true]; exact List.all_eq_false.2 ⟨k, by simpa using hk, by simp [h]⟩)]
theorem Qcb {f : Nat → Lt} {n : Nat} (h64 : 64 < n) : Jm f n = 3 := by unfold Jm; rw [if_pos h64]
/-- The good of two lots of which one may be zero. -/
def Yz (x y : Lt) : ByteArray := if x.g.size = 0 then y.g else x.g
def Uh (sg : Int) (x y : Lt) : Int := x.n + sg * y.n
def Yv (sg : Int) (x y : Lt) : Bool := !(decide (1099511627776 < Uh sg x y) || decide (Uh sg x y < -1099511627776))
def Yu : Lt := ⟨⟨#[]⟩, 0⟩
/-- The pairs that a merge passes on. -/
def Zz : Nat → List Lt → List Lt → List (Lt × Lt)
 | 0, _, _ => []
 | _ + 1, [], [] => []
 | m + 1, x :: a, [] => (x, Yu) :: Zz m a []
 | m + 1, [], y :: b => (Yu, y) :: Zz m [] b
 | m + 1, x :: a, y :: b =>
  if Z2 x.g y.g then (x, Yu) :: Zz m a (y :: b)
  else if Z2 y.g x.g then (Yu, y) :: Zz m (x :: a) b
  else (x, y) :: Zz m a b
def X4 (sg : Int) (p : Lt × Lt) : List Lt := if Uh sg p.1 p.2 = 0 then [] else [⟨Yz p.1 p.2, Uh sg p.1 p.2⟩]
def Yp (sg : Int) (L : List (Lt × Lt)) : List Lt := L.flatMap (X4 sg)
def Yd (sg : Int) (L : List (Lt × Lt)) : Bool := L.all fun p => Yv sg p.1 p.2
def Jf (f : Nat → Lt) (n : Nat) : List Lt := (List.range n).map f
def Xq (f : Nat → Lt) (n : Nat) (g : Nat → Lt) (m : Nat) : List (Lt × Lt) := Zz (n + m) (Jf f n) (Jf g m)
def Wz (f : Nat → Lt) (n : Nat) (g : Nat → Lt) (m : Nat) : Int := if Jm f n ≠ 0 then Jm f n else Jm g m
def J7 (sg : Int) (f : Nat → Lt) (n : Nat) (g : Nat → Lt) (m : Nat) : Int :=
 if Wz f n g m ≠ 0 then Wz f n g m else if Yd sg (Xq f n g m) then (if 64 < (Yp sg (Xq f n g m)).length then 3 else 0) else 6
def Y6 (sg : Int) (f : Nat → Lt) (n : Nat) (g : Nat → Lt) (m : Nat) : List Lt := if J7 sg f n g m = 0 then Yp sg (Xq f n g m) else []
end
section
open Go Go.RowKit Go.Shelf
attribute [local go_sem] Zi
def Zh (f : Nat → Lt) (i : Nat) : List Value := [.string (f i).g, .int .i64 (f i).n]
theorem geq_s (x y : ByteArray) (w : World) : (binOp .geq 9 (.string x) (.string y)).run Tryd.prog w = .ok (.bool (!Z2 x y)) w := by
 have h : (binOp .geq 9 (.string x) (.string y)).run Tryd.prog w = .ok (.bool (!Op.bytesLess x.toList y.toList)) w := rfl
 rw [h, bytesLess_eq]; rfl
theorem Kq (T : Option Addr) (n cap : Nat) (f : Nat → Lt) (w : World) (hT : Qo w T n 2 (Zh f)) (hcap : n ≤ cap) (hn : n ≤ 9223372036854775807) :
  Calls Tryd.prog 89 #[.slice T n cap] w fun e w' => e = .returned (.int .i64 (Jm f n)) ∧ Qa w w' := by
 have hge := geq_s
 go_enter Tryd.func89, Tryd.ntmps89
 by_cases h64 : 64 < n
 ·have g1 : decide ((64 : Int) < (n : Int)) = true := decide_eq_true (by omega)
  rw [Qcb h64]
  go_wp2
  go_ret
  exact ⟨rfl, Qa.refl _⟩
 ·have g1 : decide ((64 : Int) < (n : Int)) = false := decide_eq_false (by omega)
  go_upto_region 4 with (fail)
  go_loopw [10] (fun i wr => ∃ k : Nat, k ≤ n ∧ i = .int .i64 k ∧ Hid (∀ j, j < k → Xo f j = true) ∧ Qa w wr) (fun i _ => n - (intOf i).toNat)
  case atStart => exact ⟨0, Nat.zero_le _, rfl, (fun j h => absurd h (by omega)), Qa.refl _⟩
  case round =>
   obtain ⟨k, hk, rfl, hall, hE⟩ := hrel
   obtain ⟨wo, rfl⟩ := Qg wr
   obtain ⟨hcwo, hfwo, hzwo⟩ := Qa.rules hE
   try simp only [World.size_alloc] at hzwo
   obtain ⟨hcbwo, hfbwo, hzbwo⟩ := Qa.rules (show Qa w wo from (by repeat (first | exact Qa.refl _ | (refine Qa.alloc ?_ _) | (refine Qa.trans ?_ (by assumption)))))
   clear hcwo hfwo
   by_cases hlt : k < n
   ·obtain ⟨b, off, rfl, hb, hc⟩ := hT (by omega)
    have hbo : b < wo.heap.size := Nat.lt_of_lt_of_le hb hE.size
    have c0 : w.cell? ⟨b, off + k * 2, none⟩ = some (.string (f k).g) := by simpa using hc k 0 _ hlt rfl
    have c1 : w.cell? ⟨b, off + k * 2 + 1, none⟩ = some (.int .i64 (f k).n) := hc k 1 _ hlt rfl
    have hd0 : 0 < k → w.cell? ⟨b, off + (IntKind.i64.wrap ((k : Int) - 1)).toNat * 2, none⟩ = some (.string (f (k - 1)).g) := fun h => by
     rw [show (IntKind.i64.wrap ((k : Int) - 1)).toNat = k - 1 from by rw [IntKind.wrap_i64]; omega]
     simpa using hc (k - 1) 0 _ (by omega) rfl
    have hin : 0 < k → (0 ≤ IntKind.i64.wrap ((k : Int) - 1) ∧ IntKind.i64.wrap ((k : Int) - 1) < (n : Int)) := fun h => by rw [IntKind.wrap_i64]; omega
    have HK : Hid (Xo f k = _) := Qb7 f k
    clear hc
    go_upto_region 6 with (fail)
    refine Zr wo Qr (by kernel_rfl) (by repeat (first | exact Qa.refl _ | (refine Qa.alloc ?_ _) | (refine Qa.trans ?_ (by assumption)))) ?_
    intro hne hrx hry
    try simp only []
    try simp only [List.append_eq, List.cons_append, List.nil_append]
    have hrx0 := fun u o => hrx u (wo.heap.size) o (by first | omega | (simp; done) | (simp; omega))
    skip
    repeat (first
     | go_big_quiet_skip
     | ((with_reducible apply X8)
        ·exact rfl
        ·exact rfl
        ·exact rfl
        intro K hK
        unfold Q3; go_big_quiet_op; (with_reducible refine hK _ ?_); clear hK K)
     | ((with_reducible apply Wb)
        ·exact rfl
        ·exact rfl
        ·exact rfl
        intro K hK
        unfold Q3; go_big_quiet_op; (with_reducible refine hK _ ?_); clear hK K)
     | (go_big_quiet_want; go_big_quiet_op; go_big_quiet_on)
     | (go_big_quiet_want; go_big_quiet_op; apply Exists.intro; refine ⟨fun u => ?_, ?_⟩
        ·first
          | (go_at_call 74; refine (Ul _ _).mono ?_; rintro e w' ⟨rfl, rfl⟩; exact ⟨rfl, u, rfl⟩)
        go_big_quiet_on)
     | ((with_reducible apply X9)
        ·first | exact Z7 rfl rfl rfl | exact Z6 rfl rfl rfl | exact Z5 rfl rfl rfl | exact Z4 rfl rfl rfl
        ·exact rfl
        ·exact rfl
        ·exact rfl
        intro K hK
        unfold Q3; go_big_quiet_op; (with_reducible refine hK _ ?_); clear hK K)
     | ((with_reducible apply Wc)
        ·first | exact Z7 rfl rfl rfl | exact Z6 rfl rfl rfl | exact Z5 rfl rfl rfl | exact Z4 rfl rfl rfl
        ·exact rfl
        ·exact rfl
        ·exact rfl
        intro K hK
        unfold Q3; go_big_quiet_op; (with_reducible refine hK _ ?_); clear hK K)
     | ((with_reducible apply Xh)
        ·first | exact Z7 rfl rfl rfl | exact Z6 rfl rfl rfl | exact Z5 rfl rfl rfl | exact Z4 rfl rfl rfl
        apply Exists.intro
        refine And.intro (fun hgb => ?_) ?_
        ·intro u
         try simp at hgb
         go_simp
         try simp only [if_pos hsl]
         try simp only [if_pos (hin (by omega))]
         try (simp only [hd0 (by omega)]; go_simp)
         try (rw [hlook _ (Qa.trans (by repeat (first | exact Qa.refl _ | (refine Qa.alloc ?_ _) | (refine Qa.trans ?_ (by assumption)))) u.e) (hlk0 hgb)]; go_simp)
         first
          | (with_reducible exact rfl)
          | (go_at_call 74; refine (Ul _ _).mono ?_; rintro e w' ⟨rfl, rfl⟩; exact ⟨rfl, u, rfl⟩)
        intro K hK
        unfold Q3; go_big_quiet_op; (with_reducible refine hK _ ?_); clear hK K))
    clear hne hry hrx hrx0
    refine wpQuiet_nil ?_
    intro wn hwn
    obtain ⟨hcwn, hfwn, hzwn⟩ := Qa.rules hwn
    try simp only [World.size_alloc] at hzwn
    have hk0wn := fun o => hcwn (wo.heap.size) o (by first | omega | (simp; done) | (simp; omega))
    have hj0wn := fun o => hfwn (wo.heap.size) o (by first | omega | (simp; done) | (simp; omega))
    have hl0wn : wo.heap.size < wn.heap.size := (by first | omega | (simp; done) | (simp; omega))
    obtain ⟨hcbwn, hfbwn, hzbwn⟩ := Qa.rules (show Qa wo wn from (by repeat (first | exact Qa.refl _ | (refine Qa.alloc ?_ _) | (refine Qa.trans ?_ (by assumption)))))
    clear hcwn hfwn
    generalize hg : (!Zw (f k).g || (decide (0 < k) && !Z2 (f (k - 1)).g (f k).g) || ((f k).n == 0) || decide (1099511627776 < (f k).n) || decide ((f k).n < -1099511627776)) = g at *
    have E2 : Qa w wn := hE.trans (((Qa.refl _).alloc _).trans hwn)
    cases g
    ·go_wp2
     exact ⟨⟨k + 1, by omega, by go_num, fun j hj => by
      by_cases e : j = k
      ·subst e; exact HK.out
      ·exact hall.out j (by omega), E2⟩, by simp [intOf]; omega⟩
    ·go_wp2
     go_ret
     exact ⟨Wx (Qb9 hlt HK.out h64).symm, E2⟩
   ·obtain rfl : k = n := by omega
    go_wp2
    go_ret
    exact ⟨Wx (Pe hall.out h64).symm, hE⟩
theorem Ev (T : Option Addr) (n cap : Nat) (f : Nat → Lt) (S : Option Addr) (m cm : Nat) (g : Nat → Lt) (w : World) (hT : Qo w T n 2 (Zh f)) (hcap : n ≤ cap) (hn : n ≤ 9223372036854775807) (hS : Qo w S m 2 (Zh g)) (hcm : m ≤ cm) (hm : m ≤ 9223372036854775807) :
  Calls Tryd.prog 91 #[.slice T n cap, .slice S m cm] w fun e w' => e = .returned (.int .i64 (Wz f n g m)) ∧ Qa w w' := by
 have N1 := Kq T n cap f w hT hcap hn
 have N2 := fun w h => Kq S m cm g w h hcm hm
 unfold Wz
 generalize Jm f n = a at *
 generalize Jm g m = b at *
 by_cases e0 : a = 0
 ·subst e0
  rw [if_neg (by simp)]
  go_enter Tryd.func91, Tryd.ntmps91
  go_wp2_with (first | (go_at_call 89; (with_reducible refine Calls.mono (N1) ?_); rintro e w1 ⟨rfl, h1⟩) | (go_at_call 89; (with_reducible refine Calls.mono (N2 _ (hS.ext h1)) ?_); rintro e w2 ⟨rfl, h2⟩))
  go_ret
  exact ⟨rfl, h1.trans h2⟩
 ·have g0 : (a == 0) = false := beq_eq_false_iff_ne.2 e0
  have g0n : (a != 0) = true := by rw [bne, g0]; rfl
  rw [if_pos e0]
  go_enter Tryd.func91, Tryd.ntmps91
  go_wp2_with (go_at_call 89; (with_reducible refine Calls.mono (N1) ?_); rintro e w1 ⟨rfl, h1⟩)
  go_ret
  exact ⟨rfl, h1⟩
theorem Qcn (x y : Lt) (w : World) : Calls Tryd.prog 95 #[.agg #[.string x.g, .int .i64 x.n], .agg #[.string y.g, .int .i64 y.n]] w fun e w' => e = .returned (.string (Yz x y)) ∧ Qa w w' := by
 have hne : ∀ (s : ByteArray) (w : World), (binOp .neq 9 (.string s) (.string { data := #[] })).run Tryd.prog w = .ok (.bool (!(s.toList == ([] : List UInt8)))) w := fun s w => by
  have h : (binOp .neq 9 (.string s) (.string { data := #[] })).run Tryd.prog w = .ok (.bool (!(s.toList == ByteArray.toList { data := #[] }))) w := rfl
  rw [h, Lib.toList_data { data := #[] }]
 unfold Yz
 by_cases h : x.g.size = 0
 ·rw [if_pos h]
  have g0 : (x.g.toList == ([] : List UInt8)) = true := by
   have : x.g.toList = [] := by rw [← List.length_eq_zero_iff, Lib.toList_data]; simpa using h
   rw [this]; rfl
  clear h
  go_enter Tryd.func95, Tryd.ntmps95
  go_wp2
  go_ret
  exact ⟨rfl, (by repeat (first | exact Qa.refl _ | (refine Qa.alloc ?_ _) | (refine Qa.trans ?_ (by assumption))))⟩
 ·rw [if_neg h]
  have g0 : (x.g.toList == ([] : List UInt8)) = false := by
   rw [beq_eq_false_iff_ne]; intro hh
   apply h
   have := congrArg List.length hh
   rw [Lib.toList_data] at this
   simpa using this
  clear h
  go_enter Tryd.func95, Tryd.ntmps95
  go_wp2
  go_ret
  exact ⟨rfl, (by repeat (first | exact Qa.refl _ | (refine Qa.alloc ?_ _) | (refine Qa.trans ?_ (by assumption))))⟩
theorem Lo (x y : Lt) (w : World) : Calls Tryd.prog 93 #[.agg #[.string x.g, .int .i64 x.n], .agg #[.string y.g, .int .i64 y.n]] w fun e w' => e = .returned (.bool (Z2 x.g y.g)) ∧ Qa w w' := by
 go_enter Tryd.func93, Tryd.ntmps93
 go_wp2
 go_ret
 exact ⟨J1 (bytesLess_eq _ _), (by repeat (first | exact Qa.refl _ | (refine Qa.alloc ?_ _) | (refine Qa.trans ?_ (by assumption))))⟩
end
section
structure Dl where
 on : Dt
 i : Bool
 w : ByteArray
 l : List Lt
structure Pd where
 h : ByteArray
 a : Dt
 b : Dt
 o : List Lt
 d : List Dl
 c : List Lt
def Q4 (l : List Lt) (i : Nat) : Lt := l.getD i Yu
def Qv : Dl := ⟨⟨0, 0, false, 0⟩, false, ⟨#[]⟩, []⟩
def Pd.dl (p : Pd) (i : Nat) : Dl := p.d.getD i Qv
def Ya (l : List Lt) : Int := Jm (Q4 l) l.length
def X1 (l : List Lt) : Bool := decide (0 < l.length) && decide (Ya l = 0) && !(l.any fun x => decide (x.n < 0))
def Qc.spanV (c : Qc) (a b : Dt) : Bool := decide (0 < c.numV a) && decide (c.numV a ≤ c.numV b)
def Qc.lastD (c : Qc) (p : Pd) : Nat → Int
 | 0 => c.numV p.a
 | k + 1 => c.numV (p.dl k).on
def Qc.dealOk (c : Qc) (p : Pd) (k : Nat) : Bool :=
 !(decide (c.numV (p.dl k).on < c.lastD p k) || decide (c.numV p.b < c.numV (p.dl k).on) || !Zw (p.dl k).w || decide ((p.dl k).w = p.h) || !X1 (p.dl k).l)
def Qc.perHead (c : Qc) (p : Pd) : Bool := Zw p.h && c.spanV p.a p.b && decide (Ya p.o = 0) && decide (Ya p.c = 0) && decide (p.d.length ≤ 64)
def Qc.perOk (c : Qc) (p : Pd) : Bool := c.perHead p && (List.range p.d.length).all (c.dealOk p)
def Qc.perE (c : Qc) (p : Pd) : Int := if c.valid then (if c.perOk p then 0 else 83) else 70
def Ys (i : Bool) : Int := if i then 1 else -1
def Je (sg : Int) (a b : List Lt) : Int := J7 sg (Q4 a) a.length (Q4 b) b.length
def J3 (sg : Int) (a b : List Lt) : List Lt := Y6 sg (Q4 a) a.length (Q4 b) b.length
def Qs : List Lt → List Dl → List Lt × Int
 | s, [] => (s, 0)
 | s, d :: ds => if Je (Ys d.i) s d.l ≠ 0 then ([], Je (Ys d.i) s d.l) else Qs (J3 (Ys d.i) s d.l) ds
def Qc.closeV (c : Qc) (p : Pd) : List Lt × Int := if c.perE p ≠ 0 then ([], c.perE p) else Qs p.o p.d
theorem Xf {l : List Lt} {i : Nat} (h : i < l.length) : Q4 l i = l[i] := by simp [Q4, List.getD_eq_getElem?_getD, h]
theorem Mj (l : List Lt) : Jf (Q4 l) l.length = l := by
 refine List.ext_getElem (by simp [Jf]) fun i h1 h2 => ?_
 simp [Jf, Xf h2]
theorem Pd.dl_get {p : Pd} {i : Nat} (h : i < p.d.length) : p.dl i = p.d[i] := by simp [Pd.dl, List.getD_eq_getElem?_getD, h]
theorem Iv (c : Qc) (p : Pd) (k : Nat) : c.dealOk p k = !(decide (c.numV (p.dl k).on < c.lastD p k) || decide (c.numV p.b < c.numV (p.dl k).on) || !Zw (p.dl k).w || decide ((p.dl k).w = p.h) || !X1 (p.dl k).l) := rfl
theorem Qdm {c : Qc} {p : Pd} (h0 : c.perHead p = true) (h : ∀ k, k < p.d.length → c.dealOk p k = true) : c.perOk p = true := by
 unfold Qc.perOk
 rw [h0, Bool.true_and]
 exact List.all_eq_true.2 fun j hj => h j (by simpa using hj)
theorem Qdn {c : Qc} {p : Pd} (h0 : c.perHead p = false) : c.perOk p = false := by unfold Qc.perOk; rw [h0]; rfl
theorem Qaz {l : List Lt} : X1 l = true ↔ 0 < l.length ∧ Ya l = 0 ∧ ∀ x ∈ l, 0 ≤ x.n := by
 simp [X1, and_assoc]
theorem Ih (sg : Int) (f : Nat → Lt) (n : Nat) (g : Nat → Lt) (m : Nat) : (Y6 sg f n g m).length ≤ 64 := by
 unfold Y6
 split
 ·rename_i h
  unfold J7 at h
  split at h
  ·contradiction
  ·split at h
   ·split at h
    ·omega
    ·omega
   ·omega
 ·simp
/-- The balance after k deals: what is left to do makes the whole. -/
theorem Qei (s : List Lt) (d : List Dl) {k : Nat} (hk : k < d.length) : Qs s (d.drop k) = if Je (Ys d[k].i) s d[k].l ≠ 0 then ([], Je (Ys d[k].i) s d[k].l) else Qs (J3 (Ys d[k].i) s d[k].l) (d.drop (k + 1)) := by
 rw [List.drop_eq_getElem_cons hk]; rfl
def sorted (l : List Lt) : Prop := l.Pairwise fun x y => Z2 x.g y.g = true
theorem Bz {x y : ByteArray} (h : x.toList = y.toList) : x = y := by
 have hx := Go.Lib.toList_data x
 have hy := Go.Lib.toList_data y
 rw [hx, hy] at h
 cases x; cases y
 simp only [ByteArray.mk.injEq]
 exact Array.ext' h
end
end Go.Proofs.YtneiofnlmblglaaDoor
