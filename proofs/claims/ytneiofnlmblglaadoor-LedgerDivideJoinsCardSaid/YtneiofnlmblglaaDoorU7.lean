/- Walks of the program's functions and plain facts, packed; proved: the lemmas below; no conditions but those that each states. -/
import Derived.Test.YtneiofnlmblglaaDoorU4
import Derived.Test.YtneiofnlmblglaaDoorU5
import Derived.Test.YtneiofnlmblglaaDoorU6
set_option maxRecDepth 100000
set_option maxHeartbeats 4000000
namespace Go.Proofs.YtneiofnlmblglaaDoor
section
open Go Go.RowKit Go.Shelf
attribute [local go_sem] Zi
theorem Q0 {W w : World} (h : Qa W w) (t : TypeId) (cs : Array Value) : ∃ b w', b = w.heap.size ∧ w' = w.alloc (.cells cs t) ∧ Qb w' b t cs ∧ Qa W w' ∧ Qa w w' ∧ W.heap.size ≤ b := ⟨_, _, rfl, rfl, Qb.new w t cs, h.alloc _, (Qa.refl w).alloc _, h.size⟩
def Rz (A : Nat → Nat → Nat → Act) (S : World → Nat → Nat → Nat → Prop) : Exit → Act → World → Prop := fun e a' w' => e = .normal ∧ ∃ p q r, S w' p q r ∧ a' = A p q r
theorem Im {A : Nat → Nat → Nat → Act} {S : World → Nat → Nat → Nat → Prop} {w' : World} (p q r : Nat) {a' : Act} (h : S w' p q r) (ha : a' = A p q r) : Rz A S .normal a' w' := ⟨rfl, p, q, r, h, ha⟩
theorem Qfa {P : Program} {c : Code} {Q : Exit → Act → World → Prop} {a : Act} {w : World} {A : Nat → Nat → Nat → Act} (S : World → Nat → Nat → Nat → Prop) (h1 : c.wp P (Rz A S) a w) (h2 : ∀ p q r w', S w' p q r → Q .normal (A p q r) w') : c.wp P Q a w :=
 Code.wp_mono (fun e a' w' ⟨he, p, q, r, hs, ha⟩ => by subst he; subst ha; exact h2 p q r w' hs) h1
theorem P3 {W : World} {b : Nat} {n m : Int} {v0 v1 : Value} (h : Qb W b 164 #[.int .u64 n, .int .u64 m]) (h' : Qb W b 169 #[v0, v1]) : False := by
 have e := (show W.heap[b]? = _ from h).symm.trans h'
 simp at e
def Ww (x y : Nat) : Nat → Nat
 | 0 => x
 | _ => y
theorem Dr (x y : Nat) : upTo (Ww x y) 2 = x * y := by show 1 * x * y = x * y; rw [Nat.one_mul]
theorem Dq {x y : Nat} (hx : 1 ≤ x) (hy : 1 ≤ y) : ∀ i, i < 2 → 1 ≤ Ww x y i := fun i hi => by
 have : i = 0 ∨ i = 1 := by omega
 rcases this with rfl | rfl
 ·exact hx
 ·exact hy
theorem Dp {x y : Nat} (hx : x < 18446744073709551616) (hy : y < 18446744073709551616) : ∀ i, i < 2 → Ww x y i < 18446744073709551616 := fun i hi => by
 have : i = 0 ∨ i = 1 := by omega
 rcases this with rfl | rfl
 ·exact hx
 ·exact hy
theorem Cn {w : World} {b : Nat} {t : TypeId} {n m : Nat} (h : Qb w b t #[.int .u64 (n : Int), .int .u64 (m : Int)]) : Qo w (some ⟨b, 0, none⟩) 2 1 (Za (Ww n m)) := Up (f := Za (Ww n m)) (n := 2) (fun _ => rfl) h
theorem I8 (a b : Rt) (ha : a.ok = true) (hb : b.ok = true) (ba bb : Nat) (w : World) (hA : Qb w ba 61 #[.int .i64 a.n, .int .i64 a.d]) (hB : Qb w bb 61 #[.int .i64 b.n, .int .i64 b.d]) (hZ : Zl w) :
  Calls Tryd.prog 100 #[.pointer (some ⟨bb, 0, none⟩), .pointer (some ⟨ba, 0, none⟩)] w fun e w' => e = .returned (.tuple #[.agg #[.int .i64 (if b.n = 0 then (Zc, 9) else Jc (decide (a.n < 0) != decide (b.n < 0)) (a.n.natAbs * b.d.natAbs) (a.d.natAbs * b.n.natAbs)).1.n, .int .i64 (if b.n = 0 then (Zc, 9) else Jc (decide (a.n < 0) != decide (b.n < 0)) (a.n.natAbs * b.d.natAbs) (a.d.natAbs * b.n.natAbs)).1.d], .int .i64 (if b.n = 0 then (Zc, 9) else Jc (decide (a.n < 0) != decide (b.n < 0)) (a.n.natAbs * b.d.natAbs) (a.d.natAbs * b.n.natAbs)).2]) ∧ Qa w w' := by
 obtain ⟨a1, a2, a3, a4, _⟩ := Zk ha
 obtain ⟨b1', b2', b3', b4', _⟩ := Zk hb
 have N1 := fun w => Wm a.n (by omega) (by omega) w
 have N2 := fun w => Wm b.d (by omega) (by omega) w
 have N3 := fun w => Wm a.d (by omega) (by omega) w
 have N4 := fun w => Wm b.n (by omega) (by omega) w
 obtain ⟨R, hR0⟩ := Qg (if b.n = 0 then (Zc, 9) else Jc (decide (a.n < 0) != decide (b.n < 0)) (a.n.natAbs * b.d.natAbs) (a.d.natAbs * b.n.natAbs))
 rw [← hR0]
 have HR := Lib.hid hR0
 clear hR0
 go_enter Tryd.func100, Tryd.ntmps100
 go_upto_region 1 with (fail)
 obtain ⟨v, hv⟩ := Qg (w.alloc (.cells #[.int .i64 0, .int .i64 0] 61))
 rw [← hv]
 have E : Qa w v := by rw [hv]; exact (Qa.refl _).alloc _
 have B1 : Qb v w.heap.size 61 #[.int .i64 0, .int .i64 0] := by rw [hv]; exact (Qb.new _ _ _)
 clear hv
 obtain ⟨b1, hb1⟩ := Qg (w.heap.size)
 rw [← hb1] at B1 ⊢
 have hbr : w.heap.size ≤ b1 := by omega
 clear hb1
 have Z0 := hZ.ext E
 have HA := hA.ext E
 have HB := hB.ext E
 clear hA hB hZ
 obtain ⟨k0, k1⟩ := HA.c2
 have lk := HA.lt
 obtain ⟨p0, p1⟩ := HB.c2
 have lp := HB.lt
 by_cases hb0 : b.n = 0
 ·have g0 : (b.n == 0) = true := by rw [hb0]; rfl
  have hr : R = (Zc, 9) := by rw [HR.out, if_pos hb0]
  subst hr
  clear HR hb0
  have f0 := B1.frozen 0
  have f1 := B1.frozen 1
  obtain ⟨x0, x1⟩ := B1.c2
  have lx := B1.lt
  have H4 := Ql B1 (.int .i64 0) (.int .i64 0)
  have EF := (E.setCell (p := ⟨b1, 0, none⟩) hbr (.int .i64 0)).setCell (p := ⟨b1, 1, none⟩) hbr (.int .i64 0)
  obtain ⟨y0, y1⟩ := H4.c2
  go_wp2
  refine bodyPost_ret (v := .tuple #[.agg #[.int .i64 0, .int .i64 0], .int .i64 9]) (by simp [results, Tryd.results100, go_sem, y0, y1]) rfl ⟨rfl, EF⟩
 ·have g0 : (b.n == 0) = false := beq_eq_false_iff_ne.2 hb0
  have hr := HR.out
  rw [if_neg hb0] at hr
  clear HR
  by_cases ha0 : a.n = 0
  ·have g1 : (a.n == 0) = true := by rw [ha0]; rfl
   rw [show a.n.natAbs * b.d.natAbs = 0 by rw [ha0]; simp, M3 (Nat.mul_pos (by omega) (by omega))] at hr
   subst hr
   clear hb0 ha0
   obtain ⟨z0, z1, lz⟩ := Z0
   have f0 := B1.frozen 0
   have f1 := B1.frozen 1
   obtain ⟨x0, x1⟩ := B1.c2
   have lx := B1.lt
   have H4 := Ql B1 (.int .i64 0) (.int .i64 1)
   have EF := (E.setCell (p := ⟨b1, 0, none⟩) hbr (.int .i64 0)).setCell (p := ⟨b1, 1, none⟩) hbr (.int .i64 1)
   obtain ⟨y0, y1⟩ := H4.c2
   go_wp2
   refine bodyPost_ret (v := .tuple #[.agg #[.int .i64 0, .int .i64 1], .int .i64 0]) (by simp [results, Tryd.results100, go_sem, y0, y1]) rfl ⟨rfl, EF⟩
  ·have g1 : (a.n == 0) = false := beq_eq_false_iff_ne.2 ha0
   have NR := fun w b6 b13 neg (hneg : neg = (decide (a.n < 0) != decide (b.n < 0))) h h' => Gk (some ⟨b6, 0, none⟩) (some ⟨b13, 0, none⟩) 2 2 2 2 (Ww a.n.natAbs b.d.natAbs) (Ww a.d.natAbs b.n.natAbs) neg w h h' (fun h => by cases h) (fun h => by cases h) (by decide) (by decide) (Dq (by omega) (by omega)) (Dp (by omega) (by omega)) (Dq (by omega) (by omega)) (Dp (by omega) (by omega))
   have NR2 : ∀ (w : World) (b6 b13 : Nat), Qo w (some ⟨b6, 0, none⟩) 2 1 (Za (Ww a.n.natAbs b.d.natAbs)) → Qo w (some ⟨b13, 0, none⟩) 2 1 (Za (Ww a.d.natAbs b.n.natAbs)) → Calls Tryd.prog 98 #[.agg #[.slice (some ⟨b6, 0, none⟩) 2 2, .slice (some ⟨b13, 0, none⟩) 2 2], .bool (!(decide (a.n < 0) == decide (b.n < 0)))] w fun e w' => e = .returned (.tuple #[.agg #[.int .i64 R.1.n, .int .i64 R.1.d], .int .i64 R.2]) ∧ Qa w w' := fun w b6 b13 h h' => by
    have := NR w b6 b13 _ rfl h h'
    rw [Dr, Dr] at this
    have hr' : R = Jc (!(decide (a.n < 0) == decide (b.n < 0))) (a.n.natAbs * b.d.natAbs) (a.d.natAbs * b.n.natAbs) := hr
    rw [hr']
    exact this
   clear NR hr hb0 ha0 a1 a2 a3 a4 b1' b2' b3' b4'
   obtain ⟨⟨Rn, Rd⟩, Re⟩ := R
   go_upto_region 5 with (fail)
   clear k0 k1 lk p0 p1 lp
   apply Qfa (S := fun w' b6 b13 b15 => Qa v w' ∧ Qb w' b6 164 #[.int .u64 (a.n.natAbs : Int), .int .u64 (b.d.natAbs : Int)] ∧ Qb w' b13 164 #[.int .u64 (a.d.natAbs : Int), .int .u64 (b.n.natAbs : Int)] ∧ Qb w' b15 169 #[.slice (some ⟨b6, 0, none⟩) 2 2, .slice (some ⟨b13, 0, none⟩) 2 2])
   ·refine Q5 17 [16] (fun x => Qa v x) Qr rfl ?_
    intro vz hvz
    have HC := hvz
    have mz0 := trivial
    all_goals try
     (clear mz0
      refine Qp (g := 9) [0, 1, 3, 4, 7, 8, 10, 11] [_, _, _, _, _, _, _, _] ⟨rfl, rfl, rfl, rfl, rfl, rfl, rfl, rfl, trivial⟩ (by kernel_rfl) (by kernel_rfl) HC ?_
      simp only [Qd, Qe, Qf]
      apply Exists.intro
      refine ⟨fun u hu => ?_, ?_⟩
      ·obtain ⟨k0, k1⟩ := (HA.ext hu).c2
       have lk := (HA.ext hu).lt
       obtain ⟨p0, p1⟩ := (HB.ext hu).c2
       have lp := (HB.ext hu).lt
       repeat (first | go_big_quiet_skip | (go_big_quiet_want; go_big_quiet_op; go_big_quiet_on))
       refine wpQuiet_nil ?_
       rfl
      have mz1 := trivial)
    all_goals try
     (clear mz1
      refine Zn 2 15 rfl rfl (by kernel_rfl) ?_ ?_ <;> first
       | (simp only [Qd, Qe, Qf]
          go_wp2_with (go_at_call 97; (with_reducible refine Calls.mono (N1 _) ?_); rintro e wa ⟨rfl, h4⟩)
          replace HC := HC.trans h4
          try replace Q6 := Q6.ext h4
          try replace Q13 := Q13.ext h4
          try replace Q15 := Q15.ext h4
          clear h4
          have mz2 := trivial
          refine Qi HC ?_)
       | (simp only [Qd, Qe, Qf]
          go_wp2
          obtain ⟨b15, wb, hbq, hwb, Q15, HC', hx, hgeb15⟩ := Q0 HC 169 #[.slice none 0 0, .slice none 0 0]
          rw [← hbq, ← hwb]
          clear hbq hwb
          replace HC := HC'
          clear HC'
          try replace Q6 := Q6.ext hx
          try replace Q13 := Q13.ext hx
          clear hx
          have mz3 := trivial
          refine Qi HC ?_))
    all_goals try
     (clear mz2
      refine Zn 5 15 rfl rfl (by kernel_rfl) ?_ ?_ <;> first
       | (simp only [Qd, Qe, Qf]
          go_wp2_with (go_at_call 97; (with_reducible refine Calls.mono (N2 _) ?_); rintro e wa ⟨rfl, h4⟩)
          replace HC := HC.trans h4
          try replace Q6 := Q6.ext h4
          try replace Q13 := Q13.ext h4
          try replace Q15 := Q15.ext h4
          clear h4
          have mz4 := trivial
          refine Qi HC ?_)
       | (simp only [Qd, Qe, Qf]
          go_wp2
          obtain ⟨b15, wb, hbq, hwb, Q15, HC', hx, hgeb15⟩ := Q0 HC 169 #[.slice none 0 0, .slice none 0 0]
          rw [← hbq, ← hwb]
          clear hbq hwb
          replace HC := HC'
          clear HC'
          try replace Q6 := Q6.ext hx
          try replace Q13 := Q13.ext hx
          clear hx
          have mz5 := trivial
          refine Qi HC ?_))
    all_goals try
     (clear mz3
      refine Qj 2 rfl (by kernel_rfl) ?_
      simp only [Qd, Qe, Qf]
      go_wp2_with (go_at_call 97; (with_reducible refine Calls.mono (N1 _) ?_); rintro e wa ⟨rfl, h4⟩)
      replace HC := HC.trans h4
      try replace Q6 := Q6.ext h4
      try replace Q13 := Q13.ext h4
      try replace Q15 := Q15.ext h4
      clear h4
      have mz5 := trivial
      refine Qi HC ?_)
    all_goals try
     (clear mz4
      refine Fj 6 9 15 rfl rfl rfl (by kernel_rfl) ?_ ?_ ?_ <;> first
       | (simp only [Qd, Qe, Qf]
          go_wp2_with (go_at_call 97; (with_reducible refine Calls.mono (N3 _) ?_); rintro e wa ⟨rfl, h4⟩)
          replace HC := HC.trans h4
          try replace Q6 := Q6.ext h4
          try replace Q13 := Q13.ext h4
          try replace Q15 := Q15.ext h4
          clear h4
          have mz7 := trivial
          refine Qi HC ?_)
       | (simp only [Qd, Qe, Qf]
          go_wp2
          obtain ⟨b6, wb, hbq, hwb, Q6, HC', hx, hgeb6⟩ := Q0 HC 164 #[.int .u64 (a.n.natAbs : Int), .int .u64 (b.d.natAbs : Int)]
          rw [← hbq, ← hwb]
          clear hbq hwb
          replace HC := HC'
          clear HC'
          try replace Q13 := Q13.ext hx
          try replace Q15 := Q15.ext hx
          clear hx
          have mz6 := trivial
          refine Qi HC ?_)
       | (simp only [Qd, Qe, Qf]
          go_wp2
          obtain ⟨b15, wb, hbq, hwb, Q15, HC', hx, hgeb15⟩ := Q0 HC 169 #[.slice none 0 0, .slice none 0 0]
          rw [← hbq, ← hwb]
          clear hbq hwb
          replace HC := HC'
          clear HC'
          try replace Q6 := Q6.ext hx
          try replace Q13 := Q13.ext hx
          clear hx
          have mz8 := trivial
          refine Qi HC ?_))
    all_goals try
     (clear mz5
      refine Qj 5 rfl (by kernel_rfl) ?_
      simp only [Qd, Qe, Qf]
      go_wp2_with (go_at_call 97; (with_reducible refine Calls.mono (N2 _) ?_); rintro e wa ⟨rfl, h4⟩)
      replace HC := HC.trans h4
      try replace Q6 := Q6.ext h4
      try replace Q13 := Q13.ext h4
      try replace Q15 := Q15.ext h4
      clear h4
      have mz8 := trivial
      refine Qi HC ?_)
    all_goals try
     (clear mz6
      refine Zn 9 15 rfl rfl (by kernel_rfl) ?_ ?_ <;> first
       | (simp only [Qd, Qe, Qf]
          go_wp2_with (go_at_call 97; (with_reducible refine Calls.mono (N3 _) ?_); rintro e wa ⟨rfl, h4⟩)
          replace HC := HC.trans h4
          try replace Q6 := Q6.ext h4
          try replace Q13 := Q13.ext h4
          try replace Q15 := Q15.ext h4
          clear h4
          have mz9 := trivial
          refine Qi HC ?_)
       | (simp only [Qd, Qe, Qf]
          go_wp2
          obtain ⟨b15, wb, hbq, hwb, Q15, HC', hx, hgeb15⟩ := Q0 HC 169 #[.slice none 0 0, .slice none 0 0]
          rw [← hbq, ← hwb]
          clear hbq hwb
          replace HC := HC'
          clear HC'
          try replace Q6 := Q6.ext hx
          try replace Q13 := Q13.ext hx
          clear hx
          have mz10 := trivial
          refine Qi HC ?_))
    all_goals try
     (clear mz7
      refine Fj 6 12 15 rfl rfl rfl (by kernel_rfl) ?_ ?_ ?_ <;> first
       | (simp only [Qd, Qe, Qf]
          go_wp2_with (go_at_call 97; (with_reducible refine Calls.mono (N4 _) ?_); rintro e wa ⟨rfl, h4⟩)
          replace HC := HC.trans h4
          try replace Q6 := Q6.ext h4
          try replace Q13 := Q13.ext h4
          try replace Q15 := Q15.ext h4
          clear h4
          have mz11 := trivial
          refine Qi HC ?_)
       | (simp only [Qd, Qe, Qf]
          go_wp2
          obtain ⟨b6, wb, hbq, hwb, Q6, HC', hx, hgeb6⟩ := Q0 HC 164 #[.int .u64 (a.n.natAbs : Int), .int .u64 (b.d.natAbs : Int)]
          rw [← hbq, ← hwb]
          clear hbq hwb
          replace HC := HC'
          clear HC'
          try replace Q13 := Q13.ext hx
          try replace Q15 := Q15.ext hx
          clear hx
          have mz9 := trivial
          refine Qi HC ?_)
       | (simp only [Qd, Qe, Qf]
          go_wp2
          obtain ⟨b15, wb, hbq, hwb, Q15, HC', hx, hgeb15⟩ := Q0 HC 169 #[.slice none 0 0, .slice none 0 0]
          rw [← hbq, ← hwb]
          clear hbq hwb
          replace HC := HC'
          clear HC'
          try replace Q6 := Q6.ext hx
          try replace Q13 := Q13.ext hx
          clear hx
          have mz12 := trivial
          refine Qi HC ?_))
    all_goals try
     (clear mz8
      refine Zn 6 9 rfl rfl (by kernel_rfl) ?_ ?_ <;> first
       | (simp only [Qd, Qe, Qf]
          go_wp2_with (go_at_call 97; (with_reducible refine Calls.mono (N3 _) ?_); rintro e wa ⟨rfl, h4⟩)
          replace HC := HC.trans h4
          try replace Q6 := Q6.ext h4
          try replace Q13 := Q13.ext h4
          try replace Q15 := Q15.ext h4
          clear h4
          have mz12 := trivial
          refine Qi HC ?_)
       | (simp only [Qd, Qe, Qf]
          go_wp2
          obtain ⟨b6, wb, hbq, hwb, Q6, HC', hx, hgeb6⟩ := Q0 HC 164 #[.int .u64 (a.n.natAbs : Int), .int .u64 (b.d.natAbs : Int)]
          rw [← hbq, ← hwb]
          clear hbq hwb
          replace HC := HC'
          clear HC'
          try replace Q13 := Q13.ext hx
          try replace Q15 := Q15.ext hx
          clear hx
          have mz10 := trivial
          refine Qi HC ?_))
    all_goals try
     (clear mz9
      refine Zn 12 15 rfl rfl (by kernel_rfl) ?_ ?_ <;> first
       | (simp only [Qd, Qe, Qf]
          go_wp2_with (go_at_call 97; (with_reducible refine Calls.mono (N4 _) ?_); rintro e wa ⟨rfl, h4⟩)
          replace HC := HC.trans h4
          try replace Q6 := Q6.ext h4
          try replace Q13 := Q13.ext h4
          try replace Q15 := Q15.ext h4
          clear h4
          have mz13 := trivial
          refine Qi HC ?_)
       | (simp only [Qd, Qe, Qf]
          go_wp2
          obtain ⟨b15, wb, hbq, hwb, Q15, HC', hx, hgeb15⟩ := Q0 HC 169 #[.slice none 0 0, .slice none 0 0]
          rw [← hbq, ← hwb]
          clear hbq hwb
          replace HC := HC'
          clear HC'
          try replace Q6 := Q6.ext hx
          try replace Q13 := Q13.ext hx
          clear hx
          have mz14 := trivial
          refine Qi HC ?_))
    all_goals try
     (clear mz10
      refine Qj 9 rfl (by kernel_rfl) ?_
      simp only [Qd, Qe, Qf]
      go_wp2_with (go_at_call 97; (with_reducible refine Calls.mono (N3 _) ?_); rintro e wa ⟨rfl, h4⟩)
      replace HC := HC.trans h4
      try replace Q6 := Q6.ext h4
      try replace Q13 := Q13.ext h4
      try replace Q15 := Q15.ext h4
      clear h4
      have mz14 := trivial
      refine Qi HC ?_)
    all_goals try
     (clear mz11
      refine Fj 6 13 15 rfl rfl rfl (by kernel_rfl) ?_ ?_ ?_ <;> first
       | (simp only [Qd, Qe, Qf]
          go_wp2
          obtain ⟨b6, wb, hbq, hwb, Q6, HC', hx, hgeb6⟩ := Q0 HC 164 #[.int .u64 (a.n.natAbs : Int), .int .u64 (b.d.natAbs : Int)]
          rw [← hbq, ← hwb]
          clear hbq hwb
          replace HC := HC'
          clear HC'
          try replace Q13 := Q13.ext hx
          try replace Q15 := Q15.ext hx
          clear hx
          have mz13 := trivial
          refine Qi HC ?_)
       | (simp only [Qd, Qe, Qf]
          go_wp2
          obtain ⟨b13, wb, hbq, hwb, Q13, HC', hx, hgeb13⟩ := Q0 HC 164 #[.int .u64 (a.d.natAbs : Int), .int .u64 (b.n.natAbs : Int)]
          rw [← hbq, ← hwb]
          clear hbq hwb
          replace HC := HC'
          clear HC'
          try replace Q6 := Q6.ext hx
          try replace Q15 := Q15.ext hx
          clear hx
          have mz15 := trivial
          refine Qi HC ?_)
       | (simp only [Qd, Qe, Qf]
          go_wp2
          obtain ⟨b15, wb, hbq, hwb, Q15, HC', hx, hgeb15⟩ := Q0 HC 169 #[.slice none 0 0, .slice none 0 0]
          rw [← hbq, ← hwb]
          clear hbq hwb
          replace HC := HC'
          clear HC'
          try replace Q6 := Q6.ext hx
          try replace Q13 := Q13.ext hx
          clear hx
          have mz16 := trivial
          refine Qi HC ?_))
    all_goals try
     (clear mz12
      refine Zn 6 12 rfl rfl (by kernel_rfl) ?_ ?_ <;> first
       | (simp only [Qd, Qe, Qf]
          go_wp2_with (go_at_call 97; (with_reducible refine Calls.mono (N4 _) ?_); rintro e wa ⟨rfl, h4⟩)
          replace HC := HC.trans h4
          try replace Q6 := Q6.ext h4
          try replace Q13 := Q13.ext h4
          try replace Q15 := Q15.ext h4
          clear h4
          have mz16 := trivial
          refine Qi HC ?_)
       | (simp only [Qd, Qe, Qf]
          go_wp2
          obtain ⟨b6, wb, hbq, hwb, Q6, HC', hx, hgeb6⟩ := Q0 HC 164 #[.int .u64 (a.n.natAbs : Int), .int .u64 (b.d.natAbs : Int)]
          rw [← hbq, ← hwb]
          clear hbq hwb
          replace HC := HC'
          clear HC'
          try replace Q13 := Q13.ext hx
          try replace Q15 := Q15.ext hx
          clear hx
          have mz14 := trivial
          refine Qi HC ?_))
    all_goals try
     (clear mz13
      refine Zn 13 15 rfl rfl (by kernel_rfl) ?_ ?_ <;> first
       | (simp only [Qd, Qe, Qf]
          go_wp2
          obtain ⟨b13, wb, hbq, hwb, Q13, HC', hx, hgeb13⟩ := Q0 HC 164 #[.int .u64 (a.d.natAbs : Int), .int .u64 (b.n.natAbs : Int)]
          rw [← hbq, ← hwb]
          clear hbq hwb
          replace HC := HC'
          clear HC'
          try replace Q6 := Q6.ext hx
          try replace Q15 := Q15.ext hx
          clear hx
          have mz17 := trivial
          refine Qi HC ?_)
       | (simp only [Qd, Qe, Qf]
          go_wp2
          obtain ⟨b15, wb, hbq, hwb, Q15, HC', hx, hgeb15⟩ := Q0 HC 169 #[.slice none 0 0, .slice none 0 0]
          rw [← hbq, ← hwb]
          clear hbq hwb
          replace HC := HC'
          clear HC'
          try replace Q6 := Q6.ext hx
          try replace Q13 := Q13.ext hx
          clear hx
          have mz18 := trivial
          refine Qi HC ?_))
    all_goals try
     (clear mz14
      refine Qj 12 rfl (by kernel_rfl) ?_
      simp only [Qd, Qe, Qf]
      go_wp2_with (go_at_call 97; (with_reducible refine Calls.mono (N4 _) ?_); rintro e wa ⟨rfl, h4⟩)
      replace HC := HC.trans h4
      try replace Q6 := Q6.ext h4
      try replace Q13 := Q13.ext h4
      try replace Q15 := Q15.ext h4
      clear h4
      have mz18 := trivial
      refine Qi HC ?_)
    all_goals try
     (clear mz15
      refine Zn 6 15 rfl rfl (by kernel_rfl) ?_ ?_ <;> first
       | (simp only [Qd, Qe, Qf]
          go_wp2
          obtain ⟨b6, wb, hbq, hwb, Q6, HC', hx, hgeb6⟩ := Q0 HC 164 #[.int .u64 (a.n.natAbs : Int), .int .u64 (b.d.natAbs : Int)]
          rw [← hbq, ← hwb]
          clear hbq hwb
          replace HC := HC'
          clear HC'
          try replace Q13 := Q13.ext hx
          try replace Q15 := Q15.ext hx
          clear hx
          have mz17 := trivial
          refine Qi HC ?_)
       | (simp only [Qd, Qe, Qf]
          go_wp2
          obtain ⟨b15, wb, hbq, hwb, Q15, HC', hx, hgeb15⟩ := Q0 HC 169 #[.slice none 0 0, .slice none 0 0]
          rw [← hbq, ← hwb]
          clear hbq hwb
          replace HC := HC'
          clear HC'
          try replace Q6 := Q6.ext hx
          try replace Q13 := Q13.ext hx
          clear hx
          have mz19 := trivial
          refine Qi HC ?_))
    all_goals try
     (clear mz16
      refine Zn 6 13 rfl rfl (by kernel_rfl) ?_ ?_ <;> first
       | (simp only [Qd, Qe, Qf]
          go_wp2
          obtain ⟨b6, wb, hbq, hwb, Q6, HC', hx, hgeb6⟩ := Q0 HC 164 #[.int .u64 (a.n.natAbs : Int), .int .u64 (b.d.natAbs : Int)]
          rw [← hbq, ← hwb]
          clear hbq hwb
          replace HC := HC'
          clear HC'
          try replace Q13 := Q13.ext hx
          try replace Q15 := Q15.ext hx
          clear hx
          have mz18 := trivial
          refine Qi HC ?_)
       | (simp only [Qd, Qe, Qf]
          go_wp2
          obtain ⟨b13, wb, hbq, hwb, Q13, HC', hx, hgeb13⟩ := Q0 HC 164 #[.int .u64 (a.d.natAbs : Int), .int .u64 (b.n.natAbs : Int)]
          rw [← hbq, ← hwb]
          clear hbq hwb
          replace HC := HC'
          clear HC'
          try replace Q6 := Q6.ext hx
          try replace Q15 := Q15.ext hx
          clear hx
          have mz19 := trivial
          refine Qi HC ?_))
    all_goals try
     (clear mz17
      refine Qp (g := 2) [14] [_] ⟨rfl, trivial⟩ (by kernel_rfl) (by kernel_rfl) HC ?_
      simp only [Qd, Qe, Qf]
      apply Exists.intro
      refine ⟨fun u hu => ?_, ?_⟩
      ·obtain ⟨k0, k1⟩ := (HA.ext hu).c2
       have lk := (HA.ext hu).lt
       obtain ⟨p0, p1⟩ := (HB.ext hu).c2
       have lp := (HB.ext hu).lt
       repeat (first | go_big_quiet_skip | (go_big_quiet_want; go_big_quiet_op; go_big_quiet_on))
       refine wpQuiet_nil ?_
       rfl
      have mz20 := trivial)
    all_goals try
     (clear mz18
      refine Qj 13 rfl (by kernel_rfl) ?_
      simp only [Qd, Qe, Qf]
      go_wp2
      obtain ⟨b13, wb, hbq, hwb, Q13, HC', hx, hgeb13⟩ := Q0 HC 164 #[.int .u64 (a.d.natAbs : Int), .int .u64 (b.n.natAbs : Int)]
      rw [← hbq, ← hwb]
      clear hbq hwb
      replace HC := HC'
      clear HC'
      try replace Q6 := Q6.ext hx
      try replace Q15 := Q15.ext hx
      clear hx
      have mz21 := trivial
      refine Qi HC ?_)
    all_goals try
     (clear mz19
      refine Qj 6 rfl (by kernel_rfl) ?_
      simp only [Qd, Qe, Qf]
      go_wp2
      obtain ⟨b6, wb, hbq, hwb, Q6, HC', hx, hgeb6⟩ := Q0 HC 164 #[.int .u64 (a.n.natAbs : Int), .int .u64 (b.d.natAbs : Int)]
      rw [← hbq, ← hwb]
      clear hbq hwb
      replace HC := HC'
      clear HC'
      try replace Q13 := Q13.ext hx
      try replace Q15 := Q15.ext hx
      clear hx
      have mz21 := trivial
      refine Qi HC ?_)
    all_goals try
     (clear mz20
      refine Qj 15 rfl (by kernel_rfl) ?_
      simp only [Qd, Qe, Qf]
      go_wp2
      obtain ⟨b15, wb, hbq, hwb, Q15, HC', hx, hgeb15⟩ := Q0 HC 169 #[.slice none 0 0, .slice none 0 0]
      rw [← hbq, ← hwb]
      clear hbq hwb
      replace HC := HC'
      clear HC'
      try replace Q6 := Q6.ext hx
      try replace Q13 := Q13.ext hx
      clear hx
      have mz22 := trivial
      refine Qi HC ?_)
    all_goals try
     (clear mz21
      refine Qp (g := 1) [14] [_] ⟨rfl, trivial⟩ (by kernel_rfl) (by kernel_rfl) HC ?_
      simp only [Qd, Qe, Qf]
      apply Exists.intro
      refine ⟨fun u hu => ?_, ?_⟩
      ·obtain ⟨k0, k1⟩ := (HA.ext hu).c2
       have lk := (HA.ext hu).lt
       obtain ⟨p0, p1⟩ := (HB.ext hu).c2
       have lp := (HB.ext hu).lt
       repeat (first | go_big_quiet_skip | (go_big_quiet_want; go_big_quiet_op; go_big_quiet_on))
       refine wpQuiet_nil ?_
       rfl
      have mz22 := trivial)
    all_goals try
     (clear mz22
      refine Qn 16 rfl (by kernel_rfl) ?_
      simp only [Qd, Qe, Qf]
      have z0 := Q15.frozen 0
      have z1 := Q15.frozen 1
      obtain ⟨x0, x1⟩ := Q15.c2
      have lx := Q15.lt
      have n6 : b6 ≠ b15 := fun e => P3 (e ▸ Q6) Q15
      have n13 : b13 ≠ b15 := fun e => P3 (e ▸ Q13) Q15
      have S15 := Ql Q15 (.slice (some ⟨b6, 0, none⟩) 2 2) (.slice (some ⟨b13, 0, none⟩) 2 2)
      have S6 := Qh (Qh Q6 n6 0 (.slice (some ⟨b6, 0, none⟩) 2 2)) n6 1 (.slice (some ⟨b13, 0, none⟩) 2 2)
      have S13 := Qh (Qh Q13 n13 0 (.slice (some ⟨b6, 0, none⟩) 2 2)) n13 1 (.slice (some ⟨b13, 0, none⟩) 2 2)
      have HE2 := (HC.setCell (p := ⟨b15, 0, none⟩) hgeb15 (.slice (some ⟨b6, 0, none⟩) 2 2)).setCell (p := ⟨b15, 1, none⟩) hgeb15 (.slice (some ⟨b13, 0, none⟩) 2 2)
      go_wp2
      have mz23 := trivial
      refine Qm ?_)
    all_goals try
     (clear mz23
      refine Qt (by kernel_rfl) ?_
      exact Im b6 b13 b15 ⟨HE2, S6, S13, S15⟩ rfl)
   rintro b6 b13 b15 w5 ⟨E5, S6, S13, S15⟩
   clear N1 N2 N3 N4
   obtain ⟨k0, k1⟩ := (HA.ext E5).c2
   have lk := (HA.ext E5).lt
   obtain ⟨p0, p1⟩ := (HB.ext E5).c2
   have lp := (HB.ext E5).lt
   obtain ⟨r0, r1⟩ := S15.c2
   have lr := S15.lt
   replace E := E.trans E5
   replace B1 := B1.ext E5
   go_wp2_with (first | (go_at_call 98; (with_reducible refine Calls.mono (NR2 _ _ _ (Cn S6) (Cn S13)) ?_); rintro e wt ⟨rfl, ht⟩; replace E := E.trans ht; replace B1 := B1.ext ht; have f0 := B1.frozen 0; have f1 := B1.frozen 1; obtain ⟨x0, x1⟩ := B1.c2; have lx := B1.lt))
   have H4 := Ql B1 (.int .i64 Rn) (.int .i64 Rd)
   have EF := (E.setCell (p := ⟨b1, 0, none⟩) hbr (.int .i64 Rn)).setCell (p := ⟨b1, 1, none⟩) hbr (.int .i64 Rd)
   obtain ⟨y0, y1⟩ := H4.c2
   go_wp2
   refine bodyPost_ret (v := .tuple #[.agg #[.int .i64 Rn, .int .i64 Rd], .int .i64 Re]) (by simp [results, Tryd.results100, go_sem, y0, y1]) rfl ⟨rfl, EF⟩
theorem Ed (a b : Rt) (hia : a.In) (hib : b.In) (ba bb : Nat) (w : World) (hA : Qb w ba 61 #[.int .i64 a.n, .int .i64 a.d]) (hB : Qb w bb 61 #[.int .i64 b.n, .int .i64 b.d]) (hZ : Zl w) :
  Calls Tryd.prog 81 #[.agg #[.int .i64 a.n, .int .i64 a.d], .agg #[.int .i64 b.n, .int .i64 b.d], .func (.func 100) #[] #[.pointer (some ⟨bb, 0, none⟩), .pointer (some ⟨ba, 0, none⟩)]] w fun e w' => e = .returned (.tuple #[.agg #[.int .i64 (Js a b).1.n, .int .i64 (Js a b).1.d], .int .i64 (Js a b).2]) ∧ Qa w w' := by
 have NA := fun w => Wi a.n a.d hia.1 hia.2.1 hia.2.2.1 hia.2.2.2 w
 have NB := fun w => Wi b.n b.d hib.1 hib.2.1 hib.2.2.1 hib.2.2.2 w
 rw [show Rt.ok ⟨a.n, a.d⟩ = a.ok from rfl] at NA
 rw [show Rt.ok ⟨b.n, b.d⟩ = b.ok from rfl] at NB
 have NC := fun ha hb w h1 h2 z => I8 a b ha hb ba bb w h1 h2 z
 have HV : Hid (Js a b = if a.ok && b.ok then (if b.n = 0 then (Zc, 9) else Jc (decide (a.n < 0) != decide (b.n < 0)) (a.n.natAbs * b.d.natAbs) (a.d.natAbs * b.n.natAbs)) else (Zc, 2)) := rfl
 obtain ⟨R, hR0⟩ := Qg (Js a b)
 rw [← hR0]
 have HR := Lib.hid hR0
 clear hR0
 rw [show Js a b = R from HR.out.symm] at HV
 clear HR
 go_enter Tryd.func81, Tryd.ntmps81
 go_upto_region 1 with (fail)
 obtain ⟨v, hv⟩ := Qg (((w.alloc (.cells #[.int .i64 a.n, .int .i64 a.d] 61)).alloc (.cells #[.int .i64 b.n, .int .i64 b.d] 61)).alloc (.cells #[.int .i64 0, .int .i64 0] 61))
 rw [← hv]
 have E : Qa w v := by rw [hv]; exact (((Qa.refl _).alloc _).alloc _).alloc _
 have B1 : Qb v w.heap.size 61 #[.int .i64 a.n, .int .i64 a.d] := by rw [hv]; exact ((Qb.new _ _ _).alloc _).alloc _
 have B2 : Qb v (w.heap.size + 1) 61 #[.int .i64 b.n, .int .i64 b.d] := by rw [hv]; exact (Qb.at _ _ _ _ (by simp)).alloc _
 have B3 : Qb v (w.heap.size + 1 + 1) 61 #[.int .i64 0, .int .i64 0] := by rw [hv]; exact Qb.at _ _ _ _ (by simp)
 clear hv
 obtain ⟨b3, hb3⟩ := Qg (w.heap.size + 1 + 1)
 rw [← hb3] at B3 ⊢
 obtain ⟨b2, hb2⟩ := Qg (w.heap.size + 1)
 rw [← hb2] at B2 ⊢
 obtain ⟨b1, hb1⟩ := Qg (w.heap.size)
 rw [← hb1] at B1 ⊢
 have hbr : w.heap.size ≤ b3 := by omega
 have hbr1 : w.heap.size ≤ b1 := by omega
 have hbr2 : w.heap.size ≤ b2 := by omega
 have hn21 : b2 ≠ b1 := by omega
 have hn31 : b3 ≠ b1 := by omega
 have hn32 : b3 ≠ b2 := by omega
 clear hb1 hb2 hb3
 obtain ⟨k0, k1⟩ := B1.c2
 have lk := B1.lt
 obtain ⟨p0, p1⟩ := B2.c2
 have lp := B2.lt
 cases ha : a.ok
 ·simp only [ha] at NA
  have hr := HV.out
  rw [ha, Bool.false_and, if_neg (by decide)] at hr
  subst hr
  clear HV NC NB
  go_upto_region 2 with (go_at_call 71; (with_reducible refine Calls.mono (NA _) ?_); rintro e w2 ⟨rfl, h⟩)
  replace E := E.trans h
  replace B3 := B3.ext h
  have f0 := B3.frozen 0
  have f1 := B3.frozen 1
  obtain ⟨x0, x1⟩ := B3.c2
  have lx := B3.lt
  have H4 := Ql B3 (.int .i64 0) (.int .i64 0)
  have EF := (E.setCell (p := ⟨b3, 0, none⟩) hbr (.int .i64 0)).setCell (p := ⟨b3, 1, none⟩) hbr (.int .i64 0)
  obtain ⟨y0, y1⟩ := H4.c2
  go_wp2
  refine bodyPost_ret (v := .tuple #[.agg #[.int .i64 0, .int .i64 0], .int .i64 2]) (by simp [results, Tryd.results81, go_sem, y0, y1]) rfl ⟨rfl, EF⟩
 ·simp only [ha] at NA
  cases hb : b.ok
  ·simp only [hb] at NB
   have hr := HV.out
   rw [hb, Bool.and_false, if_neg (by decide)] at hr
   subst hr
   clear HV NC
   go_upto_region 2 with (first | (go_at_call 71; (with_reducible refine Calls.mono (NA _) ?_); rintro e w1 ⟨rfl, h1⟩; clear p0 p1 lp; obtain ⟨p0, p1⟩ := (B2.ext h1).c2; have lp := (B2.ext h1).lt) | (go_at_call 71; (with_reducible refine Calls.mono (NB _) ?_); rintro e w2 ⟨rfl, h⟩))
   replace E := (E.trans h1).trans h
   replace B3 := (B3.ext h1).ext h
   have f0 := B3.frozen 0
   have f1 := B3.frozen 1
   obtain ⟨x0, x1⟩ := B3.c2
   have lx := B3.lt
   have H4 := Ql B3 (.int .i64 0) (.int .i64 0)
   have EF := (E.setCell (p := ⟨b3, 0, none⟩) hbr (.int .i64 0)).setCell (p := ⟨b3, 1, none⟩) hbr (.int .i64 0)
   obtain ⟨y0, y1⟩ := H4.c2
   go_wp2
   refine bodyPost_ret (v := .tuple #[.agg #[.int .i64 0, .int .i64 0], .int .i64 2]) (by simp [results, Tryd.results81, go_sem, y0, y1]) rfl ⟨rfl, EF⟩
  ·simp only [hb] at NB
   replace NC := NC ha hb
   have hr := HV.out
   rw [ha, hb, Bool.and_true, if_pos rfl] at hr
   rw [← hr] at NC
   clear HV hr ha hb
   obtain ⟨⟨Rn, Rd⟩, Re⟩ := R
   go_upto_region 3 with (first | (go_at_call 71; (with_reducible refine Calls.mono (NA _) ?_); rintro e w1 ⟨rfl, h1⟩; clear p0 p1 lp; obtain ⟨p0, p1⟩ := (B2.ext h1).c2; have lp := (B2.ext h1).lt) | (go_at_call 71; (with_reducible refine Calls.mono (NB _) ?_); rintro e w2 ⟨rfl, h⟩))
   have e2 := (E.trans h1).trans h
   replace B3 := (B3.ext h1).ext h
   replace NC := NC w2 (hA.ext e2) (hB.ext e2) (hZ.ext e2)
   replace E := e2
   go_wp2_with (first | (go_at_call 100; (with_reducible refine Calls.mono (NC) ?_); rintro e wt ⟨rfl, ht⟩; replace E := E.trans ht; replace B3 := B3.ext ht; have f0 := B3.frozen 0; have f1 := B3.frozen 1; obtain ⟨x0, x1⟩ := B3.c2; have lx := B3.lt) | (go_at_fn 100; (with_reducible refine Calls.mono (NC) ?_); rintro e wt ⟨rfl, ht⟩; replace E := E.trans ht; replace B3 := B3.ext ht; have f0 := B3.frozen 0; have f1 := B3.frozen 1; obtain ⟨x0, x1⟩ := B3.c2; have lx := B3.lt))
   have H4 := Ql B3 (.int .i64 Rn) (.int .i64 Rd)
   have EF := (E.setCell (p := ⟨b3, 0, none⟩) hbr (.int .i64 Rn)).setCell (p := ⟨b3, 1, none⟩) hbr (.int .i64 Rd)
   obtain ⟨y0, y1⟩ := H4.c2
   go_wp2
   refine bodyPost_ret (v := .tuple #[.agg #[.int .i64 Rn, .int .i64 Rd], .int .i64 Re]) (by simp [results, Tryd.results81, go_sem, y0, y1]) rfl ⟨rfl, EF⟩
theorem Qab (a b : Rt) (hia : a.In) (hib : b.In) (w : World) (hZ : Zl w) :
  Calls Tryd.prog 86 #[.agg #[.int .i64 a.n, .int .i64 a.d], .agg #[.int .i64 b.n, .int .i64 b.d]] w fun e w' => e = .returned (.tuple #[.agg #[.int .i64 (Js a b).1.n, .int .i64 (Js a b).1.d], .int .i64 (Js a b).2]) ∧ Qa w w' := by
 have NC := fun ba bb w h1 h2 z => Ed a b hia hib ba bb w h1 h2 z
 obtain ⟨R, hR0⟩ := Qg (Js a b)
 rw [← hR0]
 have HR := Lib.hid hR0
 clear hR0
 rw [show Js a b = R from HR.out.symm] at NC
 clear HR
 go_enter Tryd.func86, Tryd.ntmps86
 go_upto_region 1 with (fail)
 obtain ⟨v, hv⟩ := Qg (((w.alloc (.cells #[.int .i64 a.n, .int .i64 a.d] 61)).alloc (.cells #[.int .i64 b.n, .int .i64 b.d] 61)).alloc (.cells #[.int .i64 0, .int .i64 0] 61))
 rw [← hv]
 have E : Qa w v := by rw [hv]; exact (((Qa.refl _).alloc _).alloc _).alloc _
 have B1 : Qb v w.heap.size 61 #[.int .i64 a.n, .int .i64 a.d] := by rw [hv]; exact ((Qb.new _ _ _).alloc _).alloc _
 have B2 : Qb v (w.heap.size + 1) 61 #[.int .i64 b.n, .int .i64 b.d] := by rw [hv]; exact (Qb.at _ _ _ _ (by simp)).alloc _
 have B3 : Qb v (w.heap.size + 1 + 1) 61 #[.int .i64 0, .int .i64 0] := by rw [hv]; exact Qb.at _ _ _ _ (by simp)
 clear hv
 obtain ⟨b3, hb3⟩ := Qg (w.heap.size + 1 + 1)
 rw [← hb3] at B3 ⊢
 obtain ⟨b2, hb2⟩ := Qg (w.heap.size + 1)
 rw [← hb2] at B2 ⊢
 obtain ⟨b1, hb1⟩ := Qg (w.heap.size)
 rw [← hb1] at B1 ⊢
 have hbr : w.heap.size ≤ b3 := by omega
 have hbr1 : w.heap.size ≤ b1 := by omega
 have hbr2 : w.heap.size ≤ b2 := by omega
 have hn21 : b2 ≠ b1 := by omega
 have hn31 : b3 ≠ b1 := by omega
 have hn32 : b3 ≠ b2 := by omega
 clear hb1 hb2 hb3
 have Z0 := hZ.ext E
 obtain ⟨k0, k1⟩ := B1.c2
 have lk := B1.lt
 obtain ⟨p0, p1⟩ := B2.c2
 have lp := B2.lt
 obtain ⟨⟨Rn, Rd⟩, Re⟩ := R
 go_wp2_with (first | (go_at_call 81; (with_reducible refine Calls.mono (NC _ _ _ B1 B2 Z0) ?_); rintro e wt ⟨rfl, ht⟩; replace E := E.trans ht; replace B3 := B3.ext ht; have f0 := B3.frozen 0; have f1 := B3.frozen 1; obtain ⟨x0, x1⟩ := B3.c2; have lx := B3.lt))
 have H4 := Ql B3 (.int .i64 Rn) (.int .i64 Rd)
 have EF := (E.setCell (p := ⟨b3, 0, none⟩) hbr (.int .i64 Rn)).setCell (p := ⟨b3, 1, none⟩) hbr (.int .i64 Rd)
 obtain ⟨y0, y1⟩ := H4.c2
 go_wp2
 refine bodyPost_ret (v := .tuple #[.agg #[.int .i64 Rn, .int .i64 Rd], .int .i64 Re]) (by simp [results, Tryd.results86, go_sem, y0, y1]) rfl ⟨rfl, EF⟩
theorem Qeq (g : Nat → Rt × Int) (n : Nat) (p1 : Nat) (w : World) (hg : ∀ i, i < n → ∀ u, Qa w u → Calls Tryd.prog 85 #[.int .i64 (i : Int), .pointer (some ⟨p1, 0, none⟩)] u fun e u' => e = .returned (.tuple #[.agg #[.int .i64 (g i).1.n, .int .i64 (g i).1.d], .int .i64 (g i).2]) ∧ Qa u u') (hin : ∀ i, i < n → (g i).1.In) (hn : n ≤ 1000000) (hZ : Zl w) :
  Calls Tryd.prog 84 #[.int .i64 (n : Int), .func (.func 85) #[] #[.pointer (some ⟨p1, 0, none⟩)]] w fun e w' => e = .returned (.tuple #[.agg #[.int .i64 (Xw g n).1.n, .int .i64 (Xw g n).1.d], .int .i64 (Xw g n).2]) ∧ Qa w w' := by
 obtain ⟨V, hV0⟩ := Qg (Xw g n)
 rw [← hV0]
 replace hV0 := Lib.hid hV0
 go_enter Tryd.func84, Tryd.ntmps84
 go_upto_region 1 with (fail)
 obtain ⟨v, hv⟩ := Qg (w.alloc (.cells #[.int .i64 0, .int .i64 0] 61))
 rw [← hv]
 have E : Qa w v := by rw [hv]; exact (Qa.refl _).alloc _
 have B1 : Qb v w.heap.size 61 #[.int .i64 0, .int .i64 0] := by rw [hv]; exact (Qb.new _ _ _)
 clear hv
 obtain ⟨b1, hb1⟩ := Qg (w.heap.size)
 rw [← hb1] at B1 ⊢
 have hbr : w.heap.size ≤ b1 := by omega
 clear hb1
 have Z0 := hZ.ext E
 go_upto_region 3 with (go_at_call 48; (with_reducible refine Calls.mono (Y9 _ _) ?_); rintro e w1 ⟨rfl, h1⟩)
 obtain ⟨v1, hv⟩ := Qg (w1.alloc (.cells #[.int .i64 0, .int .i64 1] 61))
 rw [← hv]
 have HE : Qa v v1 := by rw [hv]; exact h1.alloc _
 have H6 : Qb v1 w1.heap.size 61 #[.int .i64 0, .int .i64 1] := by rw [hv]; exact Qb.new _ _ _
 clear hv
 obtain ⟨b6, hb6⟩ := Qg (w1.heap.size)
 rw [← hb6] at H6 ⊢
 have g6 : v.heap.size ≤ b6 := by have := h1.size; omega
 clear hb6 h1
 go_loopw [12] (fun iv wr => ∃ k : Nat, k ≤ n ∧ iv = .int .i64 (k : Int) ∧ ∃ s, Rt.In s ∧ Qa v wr ∧ Qb wr b6 61 #[.int .i64 s.n, .int .i64 s.d] ∧ Hid (V = Xi g k (n - k) s)) (fun iv _ => n - (intOf iv).toNat)
 case atStart => exact ⟨0, Nat.zero_le _, rfl, Zs 0, Wl, HE, H6, hV0.out⟩
 case round =>
  clear HE H6 hV0
  obtain ⟨k, hk, rfl, s, hs, HE, H6, hV⟩ := hrel
  obtain ⟨wo, rfl⟩ := Qg wr
  by_cases hlt : k < n
  ·obtain ⟨m, hm⟩ : ∃ m, n - k = m + 1 := ⟨n - k - 1, by omega⟩
   have hm2 : n - (k + 1) = m := by omega
   have hV' : Hid (V = if (g k).2 ≠ 0 then (Zc, (g k).2) else if (Q7 s (g k).1).2 ≠ 0 then (Zc, (Q7 s (g k).1).2) else Xi g (k + 1) m (Q7 s (g k).1).1) := by
    unfold Hid; rw [hV.out, hm]; rfl
   have NG := hg k hlt wo (E.trans HE)
   have hgi := hin k hlt
   clear hV hm hg hin
   generalize g k = G at *
   obtain ⟨⟨Gn, Gd⟩, Ge⟩ := G
   simp only [] at hV' NG hgi
   go_upto_region 6 with (first | (go_at_call 85; (with_reducible refine Calls.mono (NG) ?_); rintro e w8 ⟨rfl, h8⟩) | (go_at_fn 85; (with_reducible refine Calls.mono (NG) ?_); rintro e w8 ⟨rfl, h8⟩))
   obtain ⟨v2, hv⟩ := Qg (w8.alloc (.cells #[.int .i64 Gn, .int .i64 Gd] 61))
   rw [← hv]
   have E2 : Qa w8 v2 := by rw [hv]; exact (Qa.refl _).alloc _
   have H8 : Qb v2 w8.heap.size 61 #[.int .i64 Gn, .int .i64 Gd] := by rw [hv]; exact Qb.new _ _ _
   clear hv
   have hz := h8.size
   have h6l := H6.lt
   have hzv := HE.size
   obtain ⟨b8, hb8⟩ := Qg (w8.heap.size)
   rw [← hb8] at H8 ⊢
   have n68 : b6 ≠ b8 := by omega
   have g8 : v.heap.size ≤ b8 := by omega
   clear hb8 hz h6l hzv
   replace HE := (HE.trans h8).trans E2
   replace H6 := (H6.ext h8).ext E2
   clear h8 E2 NG
   by_cases h0 : Ge = 0
   ·subst h0
    have NA := fun w z => Ki s ⟨Gn, Gd⟩ hs hgi w z
    have hSi := U0 s ⟨Gn, Gd⟩
    generalize Q7 s ⟨Gn, Gd⟩ = S at *
    obtain ⟨⟨Sn, Sd⟩, Se⟩ := S
    simp only [] at hV' NA hSi
    obtain ⟨p0, p1⟩ := H6.c2
    have lp := H6.lt
    obtain ⟨q0, q1⟩ := H8.c2
    have lq := H8.lt
    go_upto_region 8 with (go_at_call 59; (with_reducible refine Calls.mono (NA _ (Z0.ext HE)) ?_); rintro e w9 ⟨rfl, h9⟩; replace HE := HE.trans h9; replace H6 := H6.ext h9; replace H8 := H8.ext h9; clear q0 q1 lq p0 p1 lp; have f0 := H8.frozen 0; have f1 := H8.frozen 1; obtain ⟨x0, x1⟩ := H8.c2; have lx := H8.lt)
    have H8b := Ql H8 (.int .i64 Sn) (.int .i64 Sd)
    have H6b := Qh (Qh H6 n68 0 (.int .i64 Sn)) n68 1 (.int .i64 Sd)
    have HEb := (HE.setCell (p := ⟨b8, 0, none⟩) g8 (.int .i64 Sn)).setCell (p := ⟨b8, 1, none⟩) g8 (.int .i64 Sd)
    generalize World.setCell _ _ _ = v3 at *
    clear f0 f1 x0 x1 lx H6 H8 HE
    have HE := HEb
    have H6 := H6b
    have H8 := H8b
    clear HEb H6b H8b
    by_cases h1 : Se = 0
    ·subst h1
     obtain ⟨q0, q1⟩ := H8.c2
     have lq := H8.lt
     have f0 := H6.frozen 0
     have f1 := H6.frozen 1
     obtain ⟨x0, x1⟩ := H6.c2
     have lx := H6.lt
     have H6b := Ql H6 (.int .i64 Sn) (.int .i64 Sd)
     have HEb := (HE.setCell (p := ⟨b6, 0, none⟩) g6 (.int .i64 Sn)).setCell (p := ⟨b6, 1, none⟩) g6 (.int .i64 Sd)
     have hV2 : Hid (V = Xi g (k + 1) m ⟨Sn, Sd⟩) := by unfold Hid; rw [hV'.out, if_neg (by simp), if_neg (by simp)]
     rw [← hm2] at hV2
     clear hV' hm2
     go_wp2
     exact ⟨⟨k + 1, by omega, by go_num, ⟨Sn, Sd⟩, hSi, HEb, H6b, hV2⟩, by simp [intOf]; omega⟩
    ·have g0 : (Se == 0) = false := beq_eq_false_iff_ne.2 h1
     have g0n : (Se != 0) = true := by rw [bne, g0]; rfl
     have hr := hV'.out
     rw [if_neg (by simp), if_pos h1] at hr
     subst hr
     clear hV' h1
     replace B1 := B1.ext HE
     replace E := E.trans HE
     have f0 := B1.frozen 0
     have f1 := B1.frozen 1
     obtain ⟨x0, x1⟩ := B1.c2
     have lx := B1.lt
     have H4 := Ql B1 (.int .i64 0) (.int .i64 0)
     have EF := (E.setCell (p := ⟨b1, 0, none⟩) hbr (.int .i64 0)).setCell (p := ⟨b1, 1, none⟩) hbr (.int .i64 0)
     obtain ⟨y0, y1⟩ := H4.c2
     go_wp2
     refine bodyPost_ret (v := .tuple #[.agg #[.int .i64 0, .int .i64 0], .int .i64 Se]) (by simp [results, Tryd.results84, go_sem, y0, y1]) rfl ⟨rfl, EF⟩
   ·have g0 : (Ge == 0) = false := beq_eq_false_iff_ne.2 h0
    have g0n : (Ge != 0) = true := by rw [bne, g0]; rfl
    have hr := hV'.out
    rw [if_pos h0] at hr
    subst hr
    clear hV' h0
    replace B1 := B1.ext HE
    replace E := E.trans HE
    have f0 := B1.frozen 0
    have f1 := B1.frozen 1
    obtain ⟨x0, x1⟩ := B1.c2
    have lx := B1.lt
    have H4 := Ql B1 (.int .i64 0) (.int .i64 0)
    have EF := (E.setCell (p := ⟨b1, 0, none⟩) hbr (.int .i64 0)).setCell (p := ⟨b1, 1, none⟩) hbr (.int .i64 0)
    obtain ⟨y0, y1⟩ := H4.c2
    go_wp2
    refine bodyPost_ret (v := .tuple #[.agg #[.int .i64 0, .int .i64 0], .int .i64 Ge]) (by simp [results, Tryd.results84, go_sem, y0, y1]) rfl ⟨rfl, EF⟩
  ·obtain rfl : k = n := by omega
   have hr := hV.out
   rw [Nat.sub_self] at hr
   have hr2 : V = (s, 0) := hr
   subst hr2
   clear hV hr
   obtain ⟨p0, p1⟩ := H6.c2
   have lp := H6.lt
   replace B1 := B1.ext HE
   replace E := E.trans HE
   have f0 := B1.frozen 0
   have f1 := B1.frozen 1
   obtain ⟨x0, x1⟩ := B1.c2
   have lx := B1.lt
   have H4 := Ql B1 (.int .i64 s.n) (.int .i64 s.d)
   have EF := (E.setCell (p := ⟨b1, 0, none⟩) hbr (.int .i64 s.n)).setCell (p := ⟨b1, 1, none⟩) hbr (.int .i64 s.d)
   obtain ⟨y0, y1⟩ := H4.c2
   go_wp2
   refine bodyPost_ret (v := .tuple #[.agg #[.int .i64 s.n, .int .i64 s.d], .int .i64 0]) (by simp [results, Tryd.results84, go_sem, y0, y1]) rfl ⟨rfl, EF⟩
theorem Qep (g : Nat → Rt × Int) (n : Nat) (p1 p2 : Nat) (w : World) (hg : ∀ i, i < n → ∀ u, Qa w u → Calls Tryd.prog 87 #[.int .i64 (i : Int), .pointer (some ⟨p1, 0, none⟩), .pointer (some ⟨p2, 0, none⟩)] u fun e u' => e = .returned (.tuple #[.agg #[.int .i64 (g i).1.n, .int .i64 (g i).1.d], .int .i64 (g i).2]) ∧ Qa u u') (hin : ∀ i, i < n → (g i).1.In) (hn : n ≤ 1000000) (hZ : Zl w) :
  Calls Tryd.prog 84 #[.int .i64 (n : Int), .func (.func 87) #[] #[.pointer (some ⟨p1, 0, none⟩), .pointer (some ⟨p2, 0, none⟩)]] w fun e w' => e = .returned (.tuple #[.agg #[.int .i64 (Xw g n).1.n, .int .i64 (Xw g n).1.d], .int .i64 (Xw g n).2]) ∧ Qa w w' := by
 obtain ⟨V, hV0⟩ := Qg (Xw g n)
 rw [← hV0]
 replace hV0 := Lib.hid hV0
 go_enter Tryd.func84, Tryd.ntmps84
 go_upto_region 1 with (fail)
 obtain ⟨v, hv⟩ := Qg (w.alloc (.cells #[.int .i64 0, .int .i64 0] 61))
 rw [← hv]
 have E : Qa w v := by rw [hv]; exact (Qa.refl _).alloc _
 have B1 : Qb v w.heap.size 61 #[.int .i64 0, .int .i64 0] := by rw [hv]; exact (Qb.new _ _ _)
 clear hv
 obtain ⟨b1, hb1⟩ := Qg (w.heap.size)
 rw [← hb1] at B1 ⊢
 have hbr : w.heap.size ≤ b1 := by omega
 clear hb1
 have Z0 := hZ.ext E
 go_upto_region 3 with (go_at_call 48; (with_reducible refine Calls.mono (Y9 _ _) ?_); rintro e w1 ⟨rfl, h1⟩)
 obtain ⟨v1, hv⟩ := Qg (w1.alloc (.cells #[.int .i64 0, .int .i64 1] 61))
 rw [← hv]
 have HE : Qa v v1 := by rw [hv]; exact h1.alloc _
 have H6 : Qb v1 w1.heap.size 61 #[.int .i64 0, .int .i64 1] := by rw [hv]; exact Qb.new _ _ _
 clear hv
 obtain ⟨b6, hb6⟩ := Qg (w1.heap.size)
 rw [← hb6] at H6 ⊢
 have g6 : v.heap.size ≤ b6 := by have := h1.size; omega
 clear hb6 h1
 go_loopw [12] (fun iv wr => ∃ k : Nat, k ≤ n ∧ iv = .int .i64 (k : Int) ∧ ∃ s, Rt.In s ∧ Qa v wr ∧ Qb wr b6 61 #[.int .i64 s.n, .int .i64 s.d] ∧ Hid (V = Xi g k (n - k) s)) (fun iv _ => n - (intOf iv).toNat)
 case atStart => exact ⟨0, Nat.zero_le _, rfl, Zs 0, Wl, HE, H6, hV0.out⟩
 case round =>
  clear HE H6 hV0
  obtain ⟨k, hk, rfl, s, hs, HE, H6, hV⟩ := hrel
  obtain ⟨wo, rfl⟩ := Qg wr
  by_cases hlt : k < n
  ·obtain ⟨m, hm⟩ : ∃ m, n - k = m + 1 := ⟨n - k - 1, by omega⟩
   have hm2 : n - (k + 1) = m := by omega
   have hV' : Hid (V = if (g k).2 ≠ 0 then (Zc, (g k).2) else if (Q7 s (g k).1).2 ≠ 0 then (Zc, (Q7 s (g k).1).2) else Xi g (k + 1) m (Q7 s (g k).1).1) := by
    unfold Hid; rw [hV.out, hm]; rfl
   have NG := hg k hlt wo (E.trans HE)
   have hgi := hin k hlt
   clear hV hm hg hin
   generalize g k = G at *
   obtain ⟨⟨Gn, Gd⟩, Ge⟩ := G
   simp only [] at hV' NG hgi
   go_upto_region 6 with (first | (go_at_call 87; (with_reducible refine Calls.mono (NG) ?_); rintro e w8 ⟨rfl, h8⟩) | (go_at_fn 87; (with_reducible refine Calls.mono (NG) ?_); rintro e w8 ⟨rfl, h8⟩))
   obtain ⟨v2, hv⟩ := Qg (w8.alloc (.cells #[.int .i64 Gn, .int .i64 Gd] 61))
   rw [← hv]
   have E2 : Qa w8 v2 := by rw [hv]; exact (Qa.refl _).alloc _
   have H8 : Qb v2 w8.heap.size 61 #[.int .i64 Gn, .int .i64 Gd] := by rw [hv]; exact Qb.new _ _ _
   clear hv
   have hz := h8.size
   have h6l := H6.lt
   have hzv := HE.size
   obtain ⟨b8, hb8⟩ := Qg (w8.heap.size)
   rw [← hb8] at H8 ⊢
   have n68 : b6 ≠ b8 := by omega
   have g8 : v.heap.size ≤ b8 := by omega
   clear hb8 hz h6l hzv
   replace HE := (HE.trans h8).trans E2
   replace H6 := (H6.ext h8).ext E2
   clear h8 E2 NG
   by_cases h0 : Ge = 0
   ·subst h0
    have NA := fun w z => Ki s ⟨Gn, Gd⟩ hs hgi w z
    have hSi := U0 s ⟨Gn, Gd⟩
    generalize Q7 s ⟨Gn, Gd⟩ = S at *
    obtain ⟨⟨Sn, Sd⟩, Se⟩ := S
    simp only [] at hV' NA hSi
    obtain ⟨p0, p1⟩ := H6.c2
    have lp := H6.lt
    obtain ⟨q0, q1⟩ := H8.c2
    have lq := H8.lt
    go_upto_region 8 with (go_at_call 59; (with_reducible refine Calls.mono (NA _ (Z0.ext HE)) ?_); rintro e w9 ⟨rfl, h9⟩; replace HE := HE.trans h9; replace H6 := H6.ext h9; replace H8 := H8.ext h9; clear q0 q1 lq p0 p1 lp; have f0 := H8.frozen 0; have f1 := H8.frozen 1; obtain ⟨x0, x1⟩ := H8.c2; have lx := H8.lt)
    have H8b := Ql H8 (.int .i64 Sn) (.int .i64 Sd)
    have H6b := Qh (Qh H6 n68 0 (.int .i64 Sn)) n68 1 (.int .i64 Sd)
    have HEb := (HE.setCell (p := ⟨b8, 0, none⟩) g8 (.int .i64 Sn)).setCell (p := ⟨b8, 1, none⟩) g8 (.int .i64 Sd)
    generalize World.setCell _ _ _ = v3 at *
    clear f0 f1 x0 x1 lx H6 H8 HE
    have HE := HEb
    have H6 := H6b
    have H8 := H8b
    clear HEb H6b H8b
    by_cases h1 : Se = 0
    ·subst h1
     obtain ⟨q0, q1⟩ := H8.c2
     have lq := H8.lt
     have f0 := H6.frozen 0
     have f1 := H6.frozen 1
     obtain ⟨x0, x1⟩ := H6.c2
     have lx := H6.lt
     have H6b := Ql H6 (.int .i64 Sn) (.int .i64 Sd)
     have HEb := (HE.setCell (p := ⟨b6, 0, none⟩) g6 (.int .i64 Sn)).setCell (p := ⟨b6, 1, none⟩) g6 (.int .i64 Sd)
     have hV2 : Hid (V = Xi g (k + 1) m ⟨Sn, Sd⟩) := by unfold Hid; rw [hV'.out, if_neg (by simp), if_neg (by simp)]
     rw [← hm2] at hV2
     clear hV' hm2
     go_wp2
     exact ⟨⟨k + 1, by omega, by go_num, ⟨Sn, Sd⟩, hSi, HEb, H6b, hV2⟩, by simp [intOf]; omega⟩
    ·have g0 : (Se == 0) = false := beq_eq_false_iff_ne.2 h1
     have g0n : (Se != 0) = true := by rw [bne, g0]; rfl
     have hr := hV'.out
     rw [if_neg (by simp), if_pos h1] at hr
     subst hr
     clear hV' h1
     replace B1 := B1.ext HE
     replace E := E.trans HE
     have f0 := B1.frozen 0
     have f1 := B1.frozen 1
     obtain ⟨x0, x1⟩ := B1.c2
     have lx := B1.lt
     have H4 := Ql B1 (.int .i64 0) (.int .i64 0)
     have EF := (E.setCell (p := ⟨b1, 0, none⟩) hbr (.int .i64 0)).setCell (p := ⟨b1, 1, none⟩) hbr (.int .i64 0)
     obtain ⟨y0, y1⟩ := H4.c2
     go_wp2
     refine bodyPost_ret (v := .tuple #[.agg #[.int .i64 0, .int .i64 0], .int .i64 Se]) (by simp [results, Tryd.results84, go_sem, y0, y1]) rfl ⟨rfl, EF⟩
   ·have g0 : (Ge == 0) = false := beq_eq_false_iff_ne.2 h0
    have g0n : (Ge != 0) = true := by rw [bne, g0]; rfl
    have hr := hV'.out
    rw [if_pos h0] at hr
    subst hr
    clear hV' h0
    replace B1 := B1.ext HE
    replace E := E.trans HE
    have f0 := B1.frozen 0
    have f1 := B1.frozen 1
    obtain ⟨x0, x1⟩ := B1.c2
    have lx := B1.lt
    have H4 := Ql B1 (.int .i64 0) (.int .i64 0)
    have EF := (E.setCell (p := ⟨b1, 0, none⟩) hbr (.int .i64 0)).setCell (p := ⟨b1, 1, none⟩) hbr (.int .i64 0)
    obtain ⟨y0, y1⟩ := H4.c2
    go_wp2
    refine bodyPost_ret (v := .tuple #[.agg #[.int .i64 0, .int .i64 0], .int .i64 Ge]) (by simp [results, Tryd.results84, go_sem, y0, y1]) rfl ⟨rfl, EF⟩
  ·obtain rfl : k = n := by omega
   have hr := hV.out
   rw [Nat.sub_self] at hr
   have hr2 : V = (s, 0) := hr
   subst hr2
   clear hV hr
   obtain ⟨p0, p1⟩ := H6.c2
   have lp := H6.lt
   replace B1 := B1.ext HE
   replace E := E.trans HE
   have f0 := B1.frozen 0
   have f1 := B1.frozen 1
   obtain ⟨x0, x1⟩ := B1.c2
   have lx := B1.lt
   have H4 := Ql B1 (.int .i64 s.n) (.int .i64 s.d)
   have EF := (E.setCell (p := ⟨b1, 0, none⟩) hbr (.int .i64 s.n)).setCell (p := ⟨b1, 1, none⟩) hbr (.int .i64 s.d)
   obtain ⟨y0, y1⟩ := H4.c2
   go_wp2
   refine bodyPost_ret (v := .tuple #[.agg #[.int .i64 s.n, .int .i64 s.d], .int .i64 0]) (by simp [results, Tryd.results84, go_sem, y0, y1]) rfl ⟨rfl, EF⟩
def J9 (f : Nat → Tk) (i : Nat) : List Value := [.int .i64 (f i).a.n, .int .i64 (f i).a.d, .int .i64 (f i).r.n, .int .i64 (f i).r.d]
theorem Qac (a b : Rt) : (Js a b).1.In := by
 unfold Js
 by_cases h : a.ok && b.ok
 ·rw [if_pos h]
  obtain ⟨h1, h2⟩ := Bool.and_eq_true_iff.1 h
  by_cases h0 : b.n = 0
  ·rw [if_pos h0]; exact Yj
  ·rw [if_neg h0]; exact M1 (Nat.mul_pos (by have := Zk h1; omega) (by omega))
 ·rw [if_neg h]; exact Yj
theorem Qcw (T : Option Addr) (n cap : Nat) (f : Nat → Tk) (p1 i : Nat) (hi : i < n) (ha : (f i).a.In) (hr : (f i).r.In) (w : World) (hB : Qb w p1 91 #[.slice T n cap]) (hT : Qo w T n 4 (J9 f)) (hn : n ≤ 1000000) (hZ : Zl w) :
  Calls Tryd.prog 85 #[.int .i64 (i : Int), .pointer (some ⟨p1, 0, none⟩)] w fun e w' => e = .returned (.tuple #[.agg #[.int .i64 (Js (f i).a (f i).r).1.n, .int .i64 (Js (f i).a (f i).r).1.d], .int .i64 (Js (f i).a (f i).r).2]) ∧ Qa w w' := by
 have ND := fun w z => Qab (f i).a (f i).r ha hr w z
 generalize Js (f i).a (f i).r = R at *
 obtain ⟨⟨Rn, Rd⟩, Re⟩ := R
 obtain ⟨b, off, rfl, _, _⟩ := hT (by omega)
 go_enter Tryd.func85, Tryd.ntmps85
 go_upto_region 1 with (fail)
 obtain ⟨v, hv⟩ := Qg (w.alloc (.cells #[.int .i64 0, .int .i64 0] 61))
 rw [← hv]
 have E : Qa w v := by rw [hv]; exact (Qa.refl _).alloc _
 have B1 : Qb v w.heap.size 61 #[.int .i64 0, .int .i64 0] := by rw [hv]; exact (Qb.new _ _ _)
 clear hv
 obtain ⟨b1, hb1⟩ := Qg (w.heap.size)
 rw [← hb1] at B1 ⊢
 have hbr : w.heap.size ≤ b1 := by omega
 clear hb1
 have Z0 := hZ.ext E
 have HB := hB.ext E
 have RT := hT.ext E
 clear hB hT hZ
 refine Q5 15 [13, 14] (fun x => Qa v x) Qr rfl ?_
 intro vz hvz
 have HC := hvz
 refine Qp (g := 5) [0, 1, 2, 3, 4, 5, 6, 7, 8, 9] [_, _, _, _, _, _, _, _, _, _] ⟨rfl, rfl, rfl, rfl, rfl, rfl, rfl, rfl, rfl, rfl, trivial⟩ (by kernel_rfl) (by kernel_rfl) HC ?_
 simp only [Qd, Qe, Qf]
 apply Exists.intro
 refine ⟨fun u hu => ?_, ?_⟩
 ·have k0 := (HB.ext hu).c1
  have lk := (HB.ext hu).lt
  obtain ⟨b', off', hTe, hb, hc⟩ := (RT.ext hu) (by omega)
  obtain ⟨rfl, rfl⟩ : b = b' ∧ off = off' := by simpa using hTe
  have c0 : u.cell? ⟨b, off + i * 4, none⟩ = some (.int .i64 (f i).a.n) := by simpa [J9] using hc i 0 _ hi rfl
  have c1 : u.cell? ⟨b, off + i * 4 + 1, none⟩ = some (.int .i64 (f i).a.d) := by simpa [J9] using hc i 1 _ hi rfl
  have c2 : u.cell? ⟨b, off + i * 4 + 2, none⟩ = some (.int .i64 (f i).r.n) := by simpa [J9] using hc i 2 _ hi rfl
  have c3 : u.cell? ⟨b, off + i * 4 + 3, none⟩ = some (.int .i64 (f i).r.d) := by simpa [J9] using hc i 3 _ hi rfl
  clear hc
  repeat (first | go_big_quiet_skip | (go_big_quiet_want; go_big_quiet_op; go_big_quiet_on))
  refine wpQuiet_nil ?_
  rfl
 refine Qj 10 rfl (by kernel_rfl) ?_
 simp only [Qd, Qe, Qf]
 go_wp2_with (go_at_call 86; (with_reducible refine Calls.mono (ND _ (Z0.ext HC)) ?_); rintro e wa ⟨rfl, h4⟩)
 replace HC := HC.trans h4
 clear h4
 refine Qi HC ?_
 refine Qp (g := 2) [11, 12] [_, _] ⟨rfl, rfl, trivial⟩ (by kernel_rfl) (by kernel_rfl) HC ?_
 simp only [Qd, Qe, Qf]
 apply Exists.intro
 refine ⟨fun u hu => ?_, ?_⟩
 ·have k0 := (HB.ext hu).c1
  have lk := (HB.ext hu).lt
  obtain ⟨b', off', hTe, hb, hc⟩ := (RT.ext hu) (by omega)
  obtain ⟨rfl, rfl⟩ : b = b' ∧ off = off' := by simpa using hTe
  have c0 : u.cell? ⟨b, off + i * 4, none⟩ = some (.int .i64 (f i).a.n) := by simpa [J9] using hc i 0 _ hi rfl
  have c1 : u.cell? ⟨b, off + i * 4 + 1, none⟩ = some (.int .i64 (f i).a.d) := by simpa [J9] using hc i 1 _ hi rfl
  have c2 : u.cell? ⟨b, off + i * 4 + 2, none⟩ = some (.int .i64 (f i).r.n) := by simpa [J9] using hc i 2 _ hi rfl
  have c3 : u.cell? ⟨b, off + i * 4 + 3, none⟩ = some (.int .i64 (f i).r.d) := by simpa [J9] using hc i 3 _ hi rfl
  clear hc
  repeat (first | go_big_quiet_skip | (go_big_quiet_want; go_big_quiet_op; go_big_quiet_on))
  refine wpQuiet_nil ?_
  rfl
 refine Qn 13 rfl (by kernel_rfl) ?_
 simp only [Qd, Qe, Qf]
 replace B1 := B1.ext HC
 replace E := E.trans HC
 have f0 := B1.frozen 0
 have f1 := B1.frozen 1
 obtain ⟨x0, x1⟩ := B1.c2
 have lx := B1.lt
 have H4 := Ql B1 (.int .i64 Rn) (.int .i64 Rd)
 have EF := (E.setCell (p := ⟨b1, 0, none⟩) hbr (.int .i64 Rn)).setCell (p := ⟨b1, 1, none⟩) hbr (.int .i64 Rd)
 obtain ⟨y0, y1⟩ := H4.c2
 go_wp2
 refine Qm ?_
 refine Qn 14 rfl (by kernel_rfl) ?_
 simp only [Qd, Qe, Qf]
 go_wp2
 refine Qm ?_
 refine Qt (by kernel_rfl) ?_
 go_wp2
 refine bodyPost_ret (v := .tuple #[.agg #[.int .i64 Rn, .int .i64 Rd], .int .i64 Re]) (by simp [results, Tryd.results85, go_sem, y0, y1]) rfl ⟨rfl, EF⟩
theorem Px (T : Option Addr) (n cap : Nat) (f : Nat → Tk) (w : World) (hin : ∀ i, i < n → (f i).a.In ∧ (f i).r.In) (hT : Qo w T n 4 (J9 f)) (hn : n ≤ 9223372036854775807) (hZ : Zl w) :
  Calls Tryd.prog 60 #[.slice T n cap] w fun e w' => e = .returned (.tuple #[.agg #[.int .i64 (Z9 f n).1.n, .int .i64 (Z9 f n).1.d], .int .i64 (Z9 f n).2]) ∧ Qa w w' := by
 obtain ⟨R, hR0⟩ := Qg (Z9 f n)
 rw [← hR0]
 have HR := Lib.hid hR0
 clear hR0
 go_enter Tryd.func60, Tryd.ntmps60
 go_upto_region 1 with (fail)
 obtain ⟨v, hv⟩ := Qg ((w.alloc (.cells #[.slice T n cap] 91)).alloc (.cells #[.int .i64 0, .int .i64 0] 61))
 rw [← hv]
 have E : Qa w v := by rw [hv]; exact ((Qa.refl _).alloc _).alloc _
 have B1 : Qb v w.heap.size 91 #[.slice T n cap] := by rw [hv]; exact (Qb.new _ _ _).alloc _
 have B2 : Qb v (w.heap.size + 1) 61 #[.int .i64 0, .int .i64 0] := by rw [hv]; exact Qb.at _ _ _ _ (by simp)
 clear hv
 obtain ⟨b2, hb2⟩ := Qg (w.heap.size + 1)
 rw [← hb2] at B2 ⊢
 obtain ⟨b1, hb1⟩ := Qg (w.heap.size)
 rw [← hb1] at B1 ⊢
 have hbr : w.heap.size ≤ b2 := by omega
 have hbr1 : w.heap.size ≤ b1 := by omega
 have hn21 : b2 ≠ b1 := by omega
 clear hb1 hb2
 have RT := hT.ext E
 have Z0 := hZ.ext E
 clear hT hZ
 have k0 := B1.c1
 have lk := B1.lt
 by_cases h64 : 64 < n
 ·have g1 : decide ((64 : Int) < (n : Int)) = true := decide_eq_true (by omega)
  have hr := HR.out
  rw [show Z9 f n = (Zc, 3) by unfold Z9; rw [if_pos h64]] at hr
  subst hr
  clear HR
  clear h64
  have f0 := B2.frozen 0
  have f1 := B2.frozen 1
  obtain ⟨x0, x1⟩ := B2.c2
  have lx := B2.lt
  have H4 := Ql B2 (.int .i64 0) (.int .i64 0)
  have EF := (E.setCell (p := ⟨b2, 0, none⟩) hbr (.int .i64 0)).setCell (p := ⟨b2, 1, none⟩) hbr (.int .i64 0)
  obtain ⟨y0, y1⟩ := H4.c2
  go_wp2
  refine bodyPost_ret (v := .tuple #[.agg #[.int .i64 0, .int .i64 0], .int .i64 3]) (by simp [results, Tryd.results60, go_sem, y0, y1]) rfl ⟨rfl, EF⟩
 ·have g1 : decide ((64 : Int) < (n : Int)) = false := decide_eq_false (by omega)
  go_upto_region 4 with (fail)
  clear k0 lk
  go_loopw [12] (fun i wr => ∃ k : Nat, k ≤ n ∧ i = .int .i64 k ∧ Hid (∀ j, j < k → Ur (f j) = true) ∧ Qa v wr) (fun i _ => n - (intOf i).toNat)
  case atStart => exact ⟨0, Nat.zero_le _, rfl, (fun j h => absurd h (by omega)), Qa.refl _⟩
  case round =>
   obtain ⟨k, hk, rfl, hall, hE⟩ := hrel
   obtain ⟨wo, rfl⟩ := Qg wr
   by_cases hlt : k < n
   ·obtain ⟨b, off, rfl, hb, hc⟩ := (RT.ext hE) (by omega)
    have c0 : wo.cell? ⟨b, off + k * 4, none⟩ = some (.int .i64 (f k).a.n) := by simpa [J9] using hc k 0 _ hlt rfl
    have c1 : wo.cell? ⟨b, off + k * 4 + 1, none⟩ = some (.int .i64 (f k).a.d) := by simpa [J9] using hc k 1 _ hlt rfl
    have c2 : wo.cell? ⟨b, off + k * 4 + 2, none⟩ = some (.int .i64 (f k).r.n) := by simpa [J9] using hc k 2 _ hlt rfl
    have c3 : wo.cell? ⟨b, off + k * 4 + 3, none⟩ = some (.int .i64 (f k).r.d) := by simpa [J9] using hc k 3 _ hlt rfl
    obtain ⟨ia, ir⟩ := hin k hlt
    have NN := fun w b h => Mp (some ⟨b, 0, none⟩) 1 1 (fun _ => (f k).a) w h (by decide) (fun i hi => ia)
    rw [Hv] at NN
    have NP := fun w => My (f k).r ir w
    have hno : Hid (Ur (f k) = false → R = (Zc, 81)) := fun h => by
     rw [HR.out]; unfold Z9
     rw [if_neg h64, if_neg (by rw [Bool.not_eq_true]; exact List.all_eq_false.2 ⟨k, by simpa using hlt, by simp [h]⟩)]
    have hyes : Hid (Ur (f k) = true → ∀ j, j < k + 1 → Ur (f j) = true) := fun h j hj => by
     by_cases e : j = k
     ·subst e; exact h
     ·exact hall.out j (by omega)
    have htk : Hid (Ur (f k) = ((f k).a.nn && (f k).r.pos)) := rfl
    clear hc hin RT hall HR h64
    go_upto_region 6 with (fail)
    obtain ⟨v3, hv⟩ := Qg (wo.alloc (.cells #[.int .i64 (f k).a.n, .int .i64 (f k).a.d, .int .i64 (f k).r.n, .int .i64 (f k).r.d] 90))
    rw [← hv]
    have E3 : Qa wo v3 := by rw [hv]; exact (Qa.refl _).alloc _
    have H3 : Qb v3 wo.heap.size 90 #[.int .i64 (f k).a.n, .int .i64 (f k).a.d, .int .i64 (f k).r.n, .int .i64 (f k).r.d] := by rw [hv]; exact Qb.new _ _ _
    clear hv c0 c1 c2 c3
    replace hE := hE.trans E3
    generalize wo.heap.size = b3 at *
    clear E3
    obtain ⟨q0, q1, q2, q3⟩ := H3.c4
    have lq := H3.lt
    generalize (f k).a.nn = nn at *
    generalize (f k).r.pos = pp at *
    cases nn
    ·have hr := hno.out (by rw [htk.out]; rfl)
     subst hr
     clear hno hyes htk
     go_upto_region 7 with (go_at_call 46; (with_reducible refine Calls.mono (NN _ _ (Wy (Qb.new _ _ _))) ?_); rintro e w2 ⟨rfl, h2⟩; clear q0 q1 q2 q3 lq; obtain ⟨q0, q1, q2, q3⟩ := ((H3.alloc (.cells #[.int .i64 (f k).a.n, .int .i64 (f k).a.d] 61)).ext h2).c4; have lq := ((H3.alloc (.cells #[.int .i64 (f k).a.n, .int .i64 (f k).a.d] 61)).ext h2).lt)
     replace E := ((E.trans hE).alloc _).trans h2
     replace B2 := ((B2.ext hE).alloc _).ext h2
     have f0 := B2.frozen 0
     have f1 := B2.frozen 1
     obtain ⟨x0, x1⟩ := B2.c2
     have lx := B2.lt
     have H4 := Ql B2 (.int .i64 0) (.int .i64 0)
     have EF := (E.setCell (p := ⟨b2, 0, none⟩) hbr (.int .i64 0)).setCell (p := ⟨b2, 1, none⟩) hbr (.int .i64 0)
     obtain ⟨y0, y1⟩ := H4.c2
     go_wp2
     refine bodyPost_ret (v := .tuple #[.agg #[.int .i64 0, .int .i64 0], .int .i64 81]) (by simp [results, Tryd.results60, go_sem, y0, y1]) rfl ⟨rfl, EF⟩
    ·cases pp
     ·have hr := hno.out (by rw [htk.out]; rfl)
      subst hr
      clear hno hyes htk
      go_upto_region 7 with (first | (go_at_call 46; (with_reducible refine Calls.mono (NN _ _ (Wy (Qb.new _ _ _))) ?_); rintro e w2 ⟨rfl, h2⟩; clear q0 q1 q2 q3 lq; obtain ⟨q0, q1, q2, q3⟩ := ((H3.alloc (.cells #[.int .i64 (f k).a.n, .int .i64 (f k).a.d] 61)).ext h2).c4; have lq := ((H3.alloc (.cells #[.int .i64 (f k).a.n, .int .i64 (f k).a.d] 61)).ext h2).lt) | (go_at_call 56; (with_reducible refine Calls.mono (NP _) ?_); rintro e w3 ⟨rfl, h3⟩))
      replace E := (((E.trans hE).alloc _).trans h2).trans h3
      replace B2 := (((B2.ext hE).alloc _).ext h2).ext h3
      have f0 := B2.frozen 0
      have f1 := B2.frozen 1
      obtain ⟨x0, x1⟩ := B2.c2
      have lx := B2.lt
      have H4 := Ql B2 (.int .i64 0) (.int .i64 0)
      have EF := (E.setCell (p := ⟨b2, 0, none⟩) hbr (.int .i64 0)).setCell (p := ⟨b2, 1, none⟩) hbr (.int .i64 0)
      obtain ⟨y0, y1⟩ := H4.c2
      go_wp2
      refine bodyPost_ret (v := .tuple #[.agg #[.int .i64 0, .int .i64 0], .int .i64 81]) (by simp [results, Tryd.results60, go_sem, y0, y1]) rfl ⟨rfl, EF⟩
     ·have hx := Lib.hid (hyes.out (by rw [htk.out]; rfl))
      clear hno hyes htk
      go_wp2_with (first | (go_at_call 46; (with_reducible refine Calls.mono (NN _ _ (Wy (Qb.new _ _ _))) ?_); rintro e w2 ⟨rfl, h2⟩; clear q0 q1 q2 q3 lq; obtain ⟨q0, q1, q2, q3⟩ := ((H3.alloc (.cells #[.int .i64 (f k).a.n, .int .i64 (f k).a.d] 61)).ext h2).c4; have lq := ((H3.alloc (.cells #[.int .i64 (f k).a.n, .int .i64 (f k).a.d] 61)).ext h2).lt) | (go_at_call 56; (with_reducible refine Calls.mono (NP _) ?_); rintro e w3 ⟨rfl, h3⟩))
      exact ⟨⟨k + 1, by omega, by go_num, hx, (((hE.alloc _).trans h2).trans h3)⟩, by simp [intOf]; omega⟩
   ·obtain rfl : k = n := by omega
    have B1e := B1.ext hE
    have RTe := RT.ext hE
    have Ze := Z0.ext hE
    have NT := Qeq (fun i => Js (f i).a (f i).r) k b1 wo (fun i hi u hu => Qcw T k cap f b1 i hi (hin i hi).1 (hin i hi).2 u (B1e.ext hu) (RTe.ext hu) (by omega) (Ze.ext hu)) (fun i hi => Qac _ _) (by omega) Ze
    rw [show Xw (fun i => Js (f i).a (f i).r) k = R from by rw [HR.out]; unfold Z9; rw [if_neg h64, if_pos (List.all_eq_true.2 fun j hj => hall.out j (by simpa using hj))]] at NT
    clear HR hall hin h64 RT
    replace E := E.trans hE
    replace B2 := B2.ext hE
    have k0 := B1e.c1
    have lk := B1e.lt
    clear hE
    obtain ⟨⟨Rn, Rd⟩, Re⟩ := R
    go_wp2_with (first | (go_at_call 84; (with_reducible refine Calls.mono (NT) ?_); rintro e wt ⟨rfl, ht⟩; replace E := E.trans ht; replace B2 := B2.ext ht; have f0 := B2.frozen 0; have f1 := B2.frozen 1; obtain ⟨x0, x1⟩ := B2.c2; have lx := B2.lt))
    have H4 := Ql B2 (.int .i64 Rn) (.int .i64 Rd)
    have EF := (E.setCell (p := ⟨b2, 0, none⟩) hbr (.int .i64 Rn)).setCell (p := ⟨b2, 1, none⟩) hbr (.int .i64 Rd)
    obtain ⟨y0, y1⟩ := H4.c2
    go_wp2
    refine bodyPost_ret (v := .tuple #[.agg #[.int .i64 Rn, .int .i64 Rd], .int .i64 Re]) (by simp [results, Tryd.results60, go_sem, y0, y1]) rfl ⟨rfl, EF⟩
section
variable {W : World} {b : Nat} {t : TypeId} {v0 v1 v2 v3 v4 v5 v6 v7 v8 v9 v10 : Value}
theorem Qb.c11 (h : Qb W b t #[v0, v1, v2, v3, v4, v5, v6, v7, v8, v9, v10]) : W.cell? ⟨b, 0, none⟩ = some v0 ∧ W.cell? ⟨b, 1, none⟩ = some v1 ∧ W.cell? ⟨b, 2, none⟩ = some v2 ∧ W.cell? ⟨b, 3, none⟩ = some v3 ∧ W.cell? ⟨b, 4, none⟩ = some v4 ∧ W.cell? ⟨b, 5, none⟩ = some v5 ∧ W.cell? ⟨b, 6, none⟩ = some v6 ∧ W.cell? ⟨b, 7, none⟩ = some v7 ∧ W.cell? ⟨b, 8, none⟩ = some v8 ∧ W.cell? ⟨b, 9, none⟩ = some v9 ∧ W.cell? ⟨b, 10, none⟩ = some v10 := ⟨h.cell 0, h.cell 1, h.cell 2, h.cell 3, h.cell 4, h.cell 5, h.cell 6, h.cell 7, h.cell 8, h.cell 9, h.cell 10⟩
end
def Zg (f : Nat → Cw) (i : Nat) : List Value := [.int .i64 (f i).w, .int .i64 (f i).s.n, .int .i64 (f i).s.d, .int .i64 (f i).f.y, .int .i64 (f i).f.m, .bool (f i).f.s, .int .i64 (f i).f.d, .int .i64 (f i).t.y, .int .i64 (f i).t.m, .bool (f i).t.s, .int .i64 (f i).t.d]
theorem Bj (c : Qc) (a b : Dt) : -1000000 ≤ c.schV a b ∧ c.schV a b ≤ 1000000 := by
 by_cases h : c.in2E a b = 0
 ·have hv : c.valid = true := by
   rcases Va c a b with ⟨_, hE⟩ | ⟨hv, _, _⟩ | ⟨hv, _, _⟩
   ·rw [hE] at h; exact absurd h (by decide)
   ·exact hv
   ·exact hv
  have hh : (c.has a && c.has b) = true := by
   rcases Va c a b with ⟨_, hE⟩ | ⟨_, _, hE⟩ | ⟨_, hh, _⟩
   ·rw [hE] at h; exact absurd h (by decide)
   ·rw [hE] at h; exact absurd h (by decide)
   ·exact hh
  obtain ⟨h1, h2⟩ := Bool.and_eq_true_iff.1 hh
  rw [Lf hv h1 h2]
  have := Un hv h1
  have := Un hv h2
  omega
 ·unfold Qc.schV; rw [if_neg h]; exact ⟨by decide, by decide⟩
theorem Qat {c : Qc} {x : Cw} (hs : x.s.In) (h1 : -9223372036854775808 ≤ x.w) (h2 : x.w ≤ 9223372036854775807) (h3 : -1000000 ≤ c.schV x.f x.t ∧ c.schV x.f x.t ≤ 1000000) : ∀ i, i < 3 → (Xz c x i).In := fun i hi => by
 have h4 : i = 0 ∨ i = 1 ∨ i = 2 := by omega
 rcases h4 with rfl | rfl | rfl
 ·show (Zs x.w).In
  unfold Rt.In Zs; simp only; omega
 ·exact hs
 ·show (Zs (c.schV x.f x.t + 1)).In
  unfold Rt.In Zs; simp only; omega
theorem rows3 {w : World} {b : Nat} {t : TypeId} {c : Qc} {x : Cw} (h : Qb w b t #[.int .i64 x.w, .int .i64 1, .int .i64 x.s.n, .int .i64 x.s.d, .int .i64 (c.schV x.f x.t + 1), .int .i64 1]) : Qo w (some ⟨b, 0, none⟩) 3 2 (Yk (Xz c x)) := Up (f := Yk (Xz c x)) (n := 3) (fun _ => rfl) h
theorem Qdx (f : Nat → Rt) (n : Nat) : (J8 f n).1.In := by
 unfold J8
 split
 ·exact Yj
 ·split
  ·rename_i h
   exact M1 (Vi n fun i hi => by have := Zk (List.all_eq_true.1 h i (by simpa using hi)); omega)
  ·exact Yj
theorem Aq (A A' : Option Addr) (ca cb : Nat) (c : Qc) (T : Option Addr) (n cap : Nat) (f : Nat → Cw) (p1 p2 i : Nat) (hi : i < n) (hs : (f i).s.In) (hw1 : -9223372036854775808 ≤ (f i).w) (hw2 : (f i).w ≤ 9223372036854775807) (w : World) (hC : Q8 w A ca A' cb c) (hB : Qb w p1 95 #[.slice T n cap]) (hK : Qb w p2 52 #[.slice A c.nk ca, .slice A' c.ny cb]) (hT : Qo w T n 11 (Zg f)) (hn : n ≤ 1000000) (hZ : Zl w) :
  Calls Tryd.prog 87 #[.int .i64 (i : Int), .pointer (some ⟨p1, 0, none⟩), .pointer (some ⟨p2, 0, none⟩)] w fun e w' => e = .returned (.tuple #[.agg #[.int .i64 (J8 (Xz c (f i)) 3).1.n, .int .i64 (J8 (Xz c (f i)) 3).1.d], .int .i64 (J8 (Xz c (f i)) 3).2]) ∧ Qa w w' := by
 have hsm := Bj c (f i).f (f i).t
 have NP := fun w b h z => D0 (some ⟨b, 0, none⟩) 3 3 (Xz c (f i)) w h (by decide) (Qat hs hw1 hw2 hsm) z
 have hw : IntKind.i64.wrap (c.schV (f i).f (f i).t + 1) = c.schV (f i).f (f i).t + 1 := Zm (by omega) (by omega)
 generalize J8 (Xz c (f i)) 3 = R at *
 obtain ⟨⟨Rn, Rd⟩, Re⟩ := R
 obtain ⟨b, off, rfl, _, _⟩ := hT (by omega)
 clear hsm hs hw1 hw2
 go_enter Tryd.func87, Tryd.ntmps87
 go_upto_region 1 with (fail)
 obtain ⟨v, hv⟩ := Qg (w.alloc (.cells #[.int .i64 0, .int .i64 0] 61))
 rw [← hv]
 have E : Qa w v := by rw [hv]; exact (Qa.refl _).alloc _
 have B1 : Qb v w.heap.size 61 #[.int .i64 0, .int .i64 0] := by rw [hv]; exact (Qb.new _ _ _)
 clear hv
 obtain ⟨b1, hb1⟩ := Qg (w.heap.size)
 rw [← hb1] at B1 ⊢
 have hbr : w.heap.size ≤ b1 := by omega
 clear hb1
 have Z0 := hZ.ext E
 have C := hC.ext E
 have HB := hB.ext E
 have HK := hK.ext E
 have RT := hT.ext E
 clear hB hT hZ hC hK
 refine Q5 31 [29, 30] (fun x => Qa v x) Qr rfl ?_
 intro vz hvz
 have HC := hvz
 refine Qp (g := 10) [0, 1, 2, 3, 4, 6, 7, 8, 9, 10, 11, 12, 13, 14, 15, 16, 17, 18, 19, 20, 21] [_, _, _, _, _, _, _, _, _, _, _, _, _, _, _, _, _, _, _, _, _] ⟨rfl, rfl, rfl, rfl, rfl, rfl, rfl, rfl, rfl, rfl, rfl, rfl, rfl, rfl, rfl, rfl, rfl, rfl, rfl, rfl, rfl, trivial⟩ (by kernel_rfl) (by kernel_rfl) HC ?_
 simp only [Qd, Qe, Qf]
 apply Exists.intro
 refine ⟨fun u hu => ?_, ?_⟩
 ·have k0 := (HB.ext hu).c1
  have lk := (HB.ext hu).lt
  obtain ⟨p0, p1'⟩ := (HK.ext hu).c2
  have lp := (HK.ext hu).lt
  obtain ⟨b', off', hTe, hb, hc⟩ := (RT.ext hu) (by omega)
  obtain ⟨rfl, rfl⟩ : b = b' ∧ off = off' := by simpa using hTe
  have c0 : u.cell? ⟨b, off + i * 11, none⟩ = some (.int .i64 (f i).w) := by simpa [Zg] using hc i 0 _ hi rfl
  have c1 : u.cell? ⟨b, off + i * 11 + 1, none⟩ = some (.int .i64 (f i).s.n) := by simpa [Zg] using hc i 1 _ hi rfl
  have c2 : u.cell? ⟨b, off + i * 11 + 2, none⟩ = some (.int .i64 (f i).s.d) := by simpa [Zg] using hc i 2 _ hi rfl
  have c3 : u.cell? ⟨b, off + i * 11 + 3, none⟩ = some (.int .i64 (f i).f.y) := by simpa [Zg] using hc i 3 _ hi rfl
  have c4 : u.cell? ⟨b, off + i * 11 + 4, none⟩ = some (.int .i64 (f i).f.m) := by simpa [Zg] using hc i 4 _ hi rfl
  have c5 : u.cell? ⟨b, off + i * 11 + 5, none⟩ = some (.bool (f i).f.s) := by simpa [Zg] using hc i 5 _ hi rfl
  have c6 : u.cell? ⟨b, off + i * 11 + 6, none⟩ = some (.int .i64 (f i).f.d) := by simpa [Zg] using hc i 6 _ hi rfl
  have c7 : u.cell? ⟨b, off + i * 11 + 7, none⟩ = some (.int .i64 (f i).t.y) := by simpa [Zg] using hc i 7 _ hi rfl
  have c8 : u.cell? ⟨b, off + i * 11 + 8, none⟩ = some (.int .i64 (f i).t.m) := by simpa [Zg] using hc i 8 _ hi rfl
  have c9 : u.cell? ⟨b, off + i * 11 + 9, none⟩ = some (.bool (f i).t.s) := by simpa [Zg] using hc i 9 _ hi rfl
  have c10 : u.cell? ⟨b, off + i * 11 + 10, none⟩ = some (.int .i64 (f i).t.d) := by simpa [Zg] using hc i 10 _ hi rfl
  clear hc
  repeat (first | go_big_quiet_skip | (go_big_quiet_want; go_big_quiet_op; go_big_quiet_on))
  refine wpQuiet_nil ?_
  rfl
 refine Qj 5 rfl (by kernel_rfl) ?_
 simp only [Qd, Qe, Qf]
 go_wp2_with (go_at_call 48; (with_reducible refine Calls.mono (Y9 _ _) ?_); rintro e wa ⟨rfl, h4⟩)
 replace HC := HC.trans h4
 clear h4
 refine Qi HC ?_
 refine Qj 22 rfl (by kernel_rfl) ?_
 simp only [Qd, Qe, Qf]
 go_wp2_with (go_at_call 65; (with_reducible refine Calls.mono (Lm A A' ca cb c (f i).f (f i).t _ (C.ext HC)) ?_); rintro e wa ⟨rfl, h4⟩)
 replace HC := HC.trans h4
 clear h4
 refine Qi HC ?_
 refine Qp (g := 7) [23] [_] ⟨rfl, trivial⟩ (by kernel_rfl) (by kernel_rfl) HC ?_
 simp only [Qd, Qe, Qf]
 apply Exists.intro
 refine ⟨fun u hu => ?_, ?_⟩
 ·have k0 := (HB.ext hu).c1
  have lk := (HB.ext hu).lt
  obtain ⟨p0, p1'⟩ := (HK.ext hu).c2
  have lp := (HK.ext hu).lt
  obtain ⟨b', off', hTe, hb, hc⟩ := (RT.ext hu) (by omega)
  obtain ⟨rfl, rfl⟩ : b = b' ∧ off = off' := by simpa using hTe
  have c0 : u.cell? ⟨b, off + i * 11, none⟩ = some (.int .i64 (f i).w) := by simpa [Zg] using hc i 0 _ hi rfl
  have c1 : u.cell? ⟨b, off + i * 11 + 1, none⟩ = some (.int .i64 (f i).s.n) := by simpa [Zg] using hc i 1 _ hi rfl
  have c2 : u.cell? ⟨b, off + i * 11 + 2, none⟩ = some (.int .i64 (f i).s.d) := by simpa [Zg] using hc i 2 _ hi rfl
  have c3 : u.cell? ⟨b, off + i * 11 + 3, none⟩ = some (.int .i64 (f i).f.y) := by simpa [Zg] using hc i 3 _ hi rfl
  have c4 : u.cell? ⟨b, off + i * 11 + 4, none⟩ = some (.int .i64 (f i).f.m) := by simpa [Zg] using hc i 4 _ hi rfl
  have c5 : u.cell? ⟨b, off + i * 11 + 5, none⟩ = some (.bool (f i).f.s) := by simpa [Zg] using hc i 5 _ hi rfl
  have c6 : u.cell? ⟨b, off + i * 11 + 6, none⟩ = some (.int .i64 (f i).f.d) := by simpa [Zg] using hc i 6 _ hi rfl
  have c7 : u.cell? ⟨b, off + i * 11 + 7, none⟩ = some (.int .i64 (f i).t.y) := by simpa [Zg] using hc i 7 _ hi rfl
  have c8 : u.cell? ⟨b, off + i * 11 + 8, none⟩ = some (.int .i64 (f i).t.m) := by simpa [Zg] using hc i 8 _ hi rfl
  have c9 : u.cell? ⟨b, off + i * 11 + 9, none⟩ = some (.bool (f i).t.s) := by simpa [Zg] using hc i 9 _ hi rfl
  have c10 : u.cell? ⟨b, off + i * 11 + 10, none⟩ = some (.int .i64 (f i).t.d) := by simpa [Zg] using hc i 10 _ hi rfl
  clear hc
  repeat (first | go_big_quiet_skip | (go_big_quiet_want; go_big_quiet_op; go_big_quiet_on))
  refine wpQuiet_nil ?_
  rfl
 refine Qj 24 rfl (by kernel_rfl) ?_
 simp only [Qd, Qe, Qf]
 go_wp2_with (go_at_call 48; (with_reducible refine Calls.mono (Y9 _ _) ?_); rintro e wa ⟨rfl, h4⟩)
 replace HC := HC.trans h4
 clear h4
 refine Qi HC ?_
 refine Qj 25 rfl (by kernel_rfl) ?_
 simp only [Qd, Qe, Qf]
 go_wp2
 obtain ⟨b6, wb, hbq, hwb, Q6, HC', hx, _⟩ := Q0 HC 61 #[.int .i64 (f i).w, .int .i64 1, .int .i64 (f i).s.n, .int .i64 (f i).s.d, .int .i64 (c.schV (f i).f (f i).t + 1), .int .i64 1]
 rw [← hbq, ← hwb]
 clear hbq hwb hx
 replace HC := HC'
 clear HC'
 refine Qi HC ?_
 refine Qj 26 rfl (by kernel_rfl) ?_
 simp only [Qd, Qe, Qf]
 go_wp2_with (go_at_call 47; (with_reducible refine Calls.mono (NP _ _ (rows3 Q6) (Z0.ext HC)) ?_); rintro e wa ⟨rfl, h4⟩)
 replace HC := HC.trans h4
 clear h4 Q6
 refine Qi HC ?_
 refine Qp (g := 2) [27, 28] [_, _] ⟨rfl, rfl, trivial⟩ (by kernel_rfl) (by kernel_rfl) HC ?_
 simp only [Qd, Qe, Qf]
 apply Exists.intro
 refine ⟨fun u hu => ?_, ?_⟩
 ·have k0 := (HB.ext hu).c1
  have lk := (HB.ext hu).lt
  obtain ⟨p0, p1'⟩ := (HK.ext hu).c2
  have lp := (HK.ext hu).lt
  obtain ⟨b', off', hTe, hb, hc⟩ := (RT.ext hu) (by omega)
  obtain ⟨rfl, rfl⟩ : b = b' ∧ off = off' := by simpa using hTe
  have c0 : u.cell? ⟨b, off + i * 11, none⟩ = some (.int .i64 (f i).w) := by simpa [Zg] using hc i 0 _ hi rfl
  have c1 : u.cell? ⟨b, off + i * 11 + 1, none⟩ = some (.int .i64 (f i).s.n) := by simpa [Zg] using hc i 1 _ hi rfl
  have c2 : u.cell? ⟨b, off + i * 11 + 2, none⟩ = some (.int .i64 (f i).s.d) := by simpa [Zg] using hc i 2 _ hi rfl
  have c3 : u.cell? ⟨b, off + i * 11 + 3, none⟩ = some (.int .i64 (f i).f.y) := by simpa [Zg] using hc i 3 _ hi rfl
  have c4 : u.cell? ⟨b, off + i * 11 + 4, none⟩ = some (.int .i64 (f i).f.m) := by simpa [Zg] using hc i 4 _ hi rfl
  have c5 : u.cell? ⟨b, off + i * 11 + 5, none⟩ = some (.bool (f i).f.s) := by simpa [Zg] using hc i 5 _ hi rfl
  have c6 : u.cell? ⟨b, off + i * 11 + 6, none⟩ = some (.int .i64 (f i).f.d) := by simpa [Zg] using hc i 6 _ hi rfl
  have c7 : u.cell? ⟨b, off + i * 11 + 7, none⟩ = some (.int .i64 (f i).t.y) := by simpa [Zg] using hc i 7 _ hi rfl
  have c8 : u.cell? ⟨b, off + i * 11 + 8, none⟩ = some (.int .i64 (f i).t.m) := by simpa [Zg] using hc i 8 _ hi rfl
  have c9 : u.cell? ⟨b, off + i * 11 + 9, none⟩ = some (.bool (f i).t.s) := by simpa [Zg] using hc i 9 _ hi rfl
  have c10 : u.cell? ⟨b, off + i * 11 + 10, none⟩ = some (.int .i64 (f i).t.d) := by simpa [Zg] using hc i 10 _ hi rfl
  clear hc
  repeat (first | go_big_quiet_skip | (go_big_quiet_want; go_big_quiet_op; go_big_quiet_on))
  refine wpQuiet_nil ?_
  rfl
 refine Qn 29 rfl (by kernel_rfl) ?_
 simp only [Qd, Qe, Qf]
 replace B1 := B1.ext HC
 replace E := E.trans HC
 have f0 := B1.frozen 0
 have f1 := B1.frozen 1
 obtain ⟨x0, x1⟩ := B1.c2
 have lx := B1.lt
 have H4 := Ql B1 (.int .i64 Rn) (.int .i64 Rd)
 have EF := (E.setCell (p := ⟨b1, 0, none⟩) hbr (.int .i64 Rn)).setCell (p := ⟨b1, 1, none⟩) hbr (.int .i64 Rd)
 obtain ⟨y0, y1⟩ := H4.c2
 go_wp2
 refine Qm ?_
 refine Qn 30 rfl (by kernel_rfl) ?_
 simp only [Qd, Qe, Qf]
 go_wp2
 refine Qm ?_
 refine Qt (by kernel_rfl) ?_
 go_wp2
 refine bodyPost_ret (v := .tuple #[.agg #[.int .i64 Rn, .int .i64 Rd], .int .i64 Re]) (by simp [results, Tryd.results87, go_sem, y0, y1]) rfl ⟨rfl, EF⟩
theorem Au (A A' : Option Addr) (ca cb : Nat) (c : Qc) (T : Option Addr) (n cap : Nat) (f : Nat → Cw) (w : World) (hC : Q8 w A ca A' cb c) (hin : ∀ i, i < n → (f i).s.In ∧ -9223372036854775808 ≤ (f i).w ∧ (f i).w ≤ 9223372036854775807) (hT : Qo w T n 11 (Zg f)) (hn : n ≤ 9223372036854775807) (hZ : Zl w) :
  Calls Tryd.prog 61 #[.agg #[.slice A c.nk ca, .slice A' c.ny cb], .slice T n cap] w fun e w' => e = .returned (.tuple #[.agg #[.int .i64 (c.availV f n).1.n, .int .i64 (c.availV f n).1.d], .int .i64 (c.availV f n).2]) ∧ Qa w w' := by
 obtain ⟨R, hR0⟩ := Qg (c.availV f n)
 rw [← hR0]
 have HR := Lib.hid hR0
 clear hR0
 go_enter Tryd.func61, Tryd.ntmps61
 go_upto_region 1 with (fail)
 obtain ⟨v, hv⟩ := Qg (((w.alloc (.cells #[.slice A c.nk ca, .slice A' c.ny cb] 52)).alloc (.cells #[.slice T n cap] 95)).alloc (.cells #[.int .i64 0, .int .i64 0] 61))
 rw [← hv]
 have E : Qa w v := by rw [hv]; exact (((Qa.refl _).alloc _).alloc _).alloc _
 have B1 : Qb v w.heap.size 52 #[.slice A c.nk ca, .slice A' c.ny cb] := by rw [hv]; exact ((Qb.new _ _ _).alloc _).alloc _
 have B2 : Qb v (w.heap.size + 1) 95 #[.slice T n cap] := by rw [hv]; exact (Qb.at _ _ _ _ (by simp)).alloc _
 have B3 : Qb v (w.heap.size + 1 + 1) 61 #[.int .i64 0, .int .i64 0] := by rw [hv]; exact Qb.at _ _ _ _ (by simp)
 clear hv
 obtain ⟨b3, hb3⟩ := Qg (w.heap.size + 1 + 1)
 rw [← hb3] at B3 ⊢
 obtain ⟨b2, hb2⟩ := Qg (w.heap.size + 1)
 rw [← hb2] at B2 ⊢
 obtain ⟨b1, hb1⟩ := Qg (w.heap.size)
 rw [← hb1] at B1 ⊢
 have hbr : w.heap.size ≤ b3 := by omega
 have hbr1 : w.heap.size ≤ b1 := by omega
 have hbr2 : w.heap.size ≤ b2 := by omega
 have hn21 : b2 ≠ b1 := by omega
 have hn31 : b3 ≠ b1 := by omega
 have hn32 : b3 ≠ b2 := by omega
 clear hb1 hb2 hb3
 have RT := hT.ext E
 have Z0 := hZ.ext E
 have C := hC.ext E
 clear hT hZ hC
 have s0 := B2.c1
 have ls := B2.lt
 by_cases h64 : 64 < n
 ·have g1 : decide ((64 : Int) < (n : Int)) = true := decide_eq_true (by omega)
  have hr := HR.out
  rw [show c.availV f n = (Zc, 3) by unfold Qc.availV; rw [if_pos h64]] at hr
  subst hr
  clear HR
  clear h64
  have f0 := B3.frozen 0
  have f1 := B3.frozen 1
  obtain ⟨x0, x1⟩ := B3.c2
  have lx := B3.lt
  have H4 := Ql B3 (.int .i64 0) (.int .i64 0)
  have EF := (E.setCell (p := ⟨b3, 0, none⟩) hbr (.int .i64 0)).setCell (p := ⟨b3, 1, none⟩) hbr (.int .i64 0)
  obtain ⟨y0, y1⟩ := H4.c2
  go_wp2
  refine bodyPost_ret (v := .tuple #[.agg #[.int .i64 0, .int .i64 0], .int .i64 3]) (by simp [results, Tryd.results61, go_sem, y0, y1]) rfl ⟨rfl, EF⟩
 ·have g1 : decide ((64 : Int) < (n : Int)) = false := decide_eq_false (by omega)
  go_upto_region 4 with (fail)
  clear s0 ls
  go_loopw [14] (fun i wr => ∃ k : Nat, k ≤ n ∧ i = .int .i64 k ∧ Hid (∀ j, j < k → c.crewOk (f j) = true) ∧ Qa v wr) (fun i _ => n - (intOf i).toNat)
  case atStart => exact ⟨0, Nat.zero_le _, rfl, (fun j h => absurd h (by omega)), Qa.refl _⟩
  case round =>
   obtain ⟨k, hk, rfl, hall, hE⟩ := hrel
   obtain ⟨wo, rfl⟩ := Qg wr
   by_cases hlt : k < n
   ·obtain ⟨b, off, rfl, hb, hc⟩ := (RT.ext hE) (by omega)
    have c0 : wo.cell? ⟨b, off + k * 11, none⟩ = some (.int .i64 (f k).w) := by simpa [Zg] using hc k 0 _ hlt rfl
    have c1 : wo.cell? ⟨b, off + k * 11 + 1, none⟩ = some (.int .i64 (f k).s.n) := by simpa [Zg] using hc k 1 _ hlt rfl
    have c2 : wo.cell? ⟨b, off + k * 11 + 2, none⟩ = some (.int .i64 (f k).s.d) := by simpa [Zg] using hc k 2 _ hlt rfl
    have c3 : wo.cell? ⟨b, off + k * 11 + 3, none⟩ = some (.int .i64 (f k).f.y) := by simpa [Zg] using hc k 3 _ hlt rfl
    have c4 : wo.cell? ⟨b, off + k * 11 + 4, none⟩ = some (.int .i64 (f k).f.m) := by simpa [Zg] using hc k 4 _ hlt rfl
    have c5 : wo.cell? ⟨b, off + k * 11 + 5, none⟩ = some (.bool (f k).f.s) := by simpa [Zg] using hc k 5 _ hlt rfl
    have c6 : wo.cell? ⟨b, off + k * 11 + 6, none⟩ = some (.int .i64 (f k).f.d) := by simpa [Zg] using hc k 6 _ hlt rfl
    have c7 : wo.cell? ⟨b, off + k * 11 + 7, none⟩ = some (.int .i64 (f k).t.y) := by simpa [Zg] using hc k 7 _ hlt rfl
    have c8 : wo.cell? ⟨b, off + k * 11 + 8, none⟩ = some (.int .i64 (f k).t.m) := by simpa [Zg] using hc k 8 _ hlt rfl
    have c9 : wo.cell? ⟨b, off + k * 11 + 9, none⟩ = some (.bool (f k).t.s) := by simpa [Zg] using hc k 9 _ hlt rfl
    have c10 : wo.cell? ⟨b, off + k * 11 + 10, none⟩ = some (.int .i64 (f k).t.d) := by simpa [Zg] using hc k 10 _ hlt rfl
    obtain ⟨is, _⟩ := hin k hlt
    have NS := fun w => Lg (f k).s is w
    have NSP := fun w h => Gx A A' ca cb c (f k).f (f k).t w h
    have hno : Hid (c.crewOk (f k) = false → R = (Zc, 81)) := fun h => by
     rw [HR.out]; unfold Qc.availV
     rw [if_neg h64, if_neg (by rw [Bool.not_eq_true]; exact List.all_eq_false.2 ⟨k, by simpa using hlt, by simp [h]⟩)]
    have hyes : Hid (c.crewOk (f k) = true → ∀ j, j < k + 1 → c.crewOk (f j) = true) := fun h j hj => by
     by_cases e : j = k
     ·subst e; exact h
     ·exact hall.out j (by omega)
    have hck : Hid (c.crewOk (f k) = (decide (0 ≤ (f k).w) && decide ((f k).w ≤ 4096) && (f k).s.shr && (decide (0 < c.numV (f k).f) && decide (c.numV (f k).f ≤ c.numV (f k).t)))) := rfl
    clear hc hin RT hall HR h64
    go_upto_region 6 with (fail)
    obtain ⟨v3, hv⟩ := Qg (wo.alloc (.cells #[.int .i64 (f k).w, .int .i64 (f k).s.n, .int .i64 (f k).s.d, .int .i64 (f k).f.y, .int .i64 (f k).f.m, .bool (f k).f.s, .int .i64 (f k).f.d, .int .i64 (f k).t.y, .int .i64 (f k).t.m, .bool (f k).t.s, .int .i64 (f k).t.d] 94))
    rw [← hv]
    have E3 : Qa wo v3 := by rw [hv]; exact (Qa.refl _).alloc _
    have H3 : Qb v3 wo.heap.size 94 #[.int .i64 (f k).w, .int .i64 (f k).s.n, .int .i64 (f k).s.d, .int .i64 (f k).f.y, .int .i64 (f k).f.m, .bool (f k).f.s, .int .i64 (f k).f.d, .int .i64 (f k).t.y, .int .i64 (f k).t.m, .bool (f k).t.s, .int .i64 (f k).t.d] := by rw [hv]; exact Qb.new _ _ _
    clear hv c0 c1 c2 c3 c4 c5 c6 c7 c8 c9 c10
    replace hE := hE.trans E3
    generalize wo.heap.size = b4 at *
    clear E3
    obtain ⟨q0, q1, q2, q3, q4, q5, q6, q7, q8, q9, q10⟩ := H3.c11
    have lq := H3.lt
    obtain ⟨k0, k1⟩ := (B1.ext hE).c2
    have lk := (B1.ext hE).lt
    generalize (decide (0 < c.numV (f k).f) && decide (c.numV (f k).f ≤ c.numV (f k).t)) = sp at *
    generalize (f k).s.shr = sh at *
    by_cases w0 : (f k).w < 0
    ·have gw : decide ((f k).w < 0) = true := decide_eq_true w0
     have hr := hno.out (by rw [hck.out, decide_eq_false (by omega)]; rfl)
     subst hr
     clear hno hyes hck w0
     replace E := E.trans hE
     replace B3 := B3.ext hE
     have f0 := B3.frozen 0
     have f1 := B3.frozen 1
     obtain ⟨x0, x1⟩ := B3.c2
     have lx := B3.lt
     have H4 := Ql B3 (.int .i64 0) (.int .i64 0)
     have EF := (E.setCell (p := ⟨b3, 0, none⟩) hbr (.int .i64 0)).setCell (p := ⟨b3, 1, none⟩) hbr (.int .i64 0)
     obtain ⟨y0, y1⟩ := H4.c2
     go_wp2
     refine bodyPost_ret (v := .tuple #[.agg #[.int .i64 0, .int .i64 0], .int .i64 81]) (by simp [results, Tryd.results61, go_sem, y0, y1]) rfl ⟨rfl, EF⟩
    ·have gw : decide ((f k).w < 0) = false := decide_eq_false w0
     by_cases w1 : 4096 < (f k).w
     ·have gw1 : decide (4096 < (f k).w) = true := decide_eq_true w1
      have hr := hno.out (by rw [hck.out, decide_eq_false (show ¬ (f k).w ≤ 4096 by omega), Bool.and_false]; rfl)
      subst hr
      clear hno hyes hck w0 w1
      replace E := E.trans hE
      replace B3 := B3.ext hE
      have f0 := B3.frozen 0
      have f1 := B3.frozen 1
      obtain ⟨x0, x1⟩ := B3.c2
      have lx := B3.lt
      have H4 := Ql B3 (.int .i64 0) (.int .i64 0)
      have EF := (E.setCell (p := ⟨b3, 0, none⟩) hbr (.int .i64 0)).setCell (p := ⟨b3, 1, none⟩) hbr (.int .i64 0)
      obtain ⟨y0, y1⟩ := H4.c2
      go_wp2
      refine bodyPost_ret (v := .tuple #[.agg #[.int .i64 0, .int .i64 0], .int .i64 81]) (by simp [results, Tryd.results61, go_sem, y0, y1]) rfl ⟨rfl, EF⟩
     ·have gw1 : decide (4096 < (f k).w) = false := decide_eq_false w1
      cases sh
      ·have hr := hno.out (by rw [hck.out, Bool.and_false]; rfl)
       subst hr
       clear hno hyes hck w0 w1
       go_upto_region 7 with (go_at_call 63; (with_reducible refine Calls.mono (NS _) ?_); rintro e w2 ⟨rfl, h2⟩; clear q0 q1 q2 q3 q4 q5 q6 q7 q8 q9 q10 lq k0 k1 lk; obtain ⟨q0, q1, q2, q3, q4, q5, q6, q7, q8, q9, q10⟩ := (H3.ext h2).c11; have lq := (H3.ext h2).lt; obtain ⟨k0, k1⟩ := ((B1.ext hE).ext h2).c2; have lk := ((B1.ext hE).ext h2).lt)
       replace E := (E.trans hE).trans h2
       replace B3 := (B3.ext hE).ext h2
       have f0 := B3.frozen 0
       have f1 := B3.frozen 1
       obtain ⟨x0, x1⟩ := B3.c2
       have lx := B3.lt
       have H4 := Ql B3 (.int .i64 0) (.int .i64 0)
       have EF := (E.setCell (p := ⟨b3, 0, none⟩) hbr (.int .i64 0)).setCell (p := ⟨b3, 1, none⟩) hbr (.int .i64 0)
       obtain ⟨y0, y1⟩ := H4.c2
       go_wp2
       refine bodyPost_ret (v := .tuple #[.agg #[.int .i64 0, .int .i64 0], .int .i64 81]) (by simp [results, Tryd.results61, go_sem, y0, y1]) rfl ⟨rfl, EF⟩
      ·cases sp
       ·have hr := hno.out (by rw [hck.out, Bool.and_false])
        subst hr
        clear hno hyes hck w0 w1
        go_upto_region 7 with (first | (go_at_call 63; (with_reducible refine Calls.mono (NS _) ?_); rintro e w2 ⟨rfl, h2⟩; clear q0 q1 q2 q3 q4 q5 q6 q7 q8 q9 q10 lq k0 k1 lk; obtain ⟨q0, q1, q2, q3, q4, q5, q6, q7, q8, q9, q10⟩ := (H3.ext h2).c11; have lq := (H3.ext h2).lt; obtain ⟨k0, k1⟩ := ((B1.ext hE).ext h2).c2; have lk := ((B1.ext hE).ext h2).lt) | (go_at_call 64; (with_reducible refine Calls.mono (NSP _ ((C.ext hE).ext h2)) ?_); rintro e w3 ⟨rfl, h3⟩))
        replace E := ((E.trans hE).trans h2).trans h3
        replace B3 := ((B3.ext hE).ext h2).ext h3
        have f0 := B3.frozen 0
        have f1 := B3.frozen 1
        obtain ⟨x0, x1⟩ := B3.c2
        have lx := B3.lt
        have H4 := Ql B3 (.int .i64 0) (.int .i64 0)
        have EF := (E.setCell (p := ⟨b3, 0, none⟩) hbr (.int .i64 0)).setCell (p := ⟨b3, 1, none⟩) hbr (.int .i64 0)
        obtain ⟨y0, y1⟩ := H4.c2
        go_wp2
        refine bodyPost_ret (v := .tuple #[.agg #[.int .i64 0, .int .i64 0], .int .i64 81]) (by simp [results, Tryd.results61, go_sem, y0, y1]) rfl ⟨rfl, EF⟩
       ·have hx := Lib.hid (hyes.out (by rw [hck.out, decide_eq_true (show 0 ≤ (f k).w by omega), decide_eq_true (show (f k).w ≤ 4096 by omega)]; rfl))
        clear hno hyes hck w0 w1
        go_wp2_with (first | (go_at_call 63; (with_reducible refine Calls.mono (NS _) ?_); rintro e w2 ⟨rfl, h2⟩; clear q0 q1 q2 q3 q4 q5 q6 q7 q8 q9 q10 lq k0 k1 lk; obtain ⟨q0, q1, q2, q3, q4, q5, q6, q7, q8, q9, q10⟩ := (H3.ext h2).c11; have lq := (H3.ext h2).lt; obtain ⟨k0, k1⟩ := ((B1.ext hE).ext h2).c2; have lk := ((B1.ext hE).ext h2).lt) | (go_at_call 64; (with_reducible refine Calls.mono (NSP _ ((C.ext hE).ext h2)) ?_); rintro e w3 ⟨rfl, h3⟩))
        exact ⟨⟨k + 1, by omega, by go_num, hx, (hE.trans h2).trans h3⟩, by simp [intOf]; omega⟩
   ·obtain rfl : k = n := by omega
    have B2e := B2.ext hE
    have B1e := B1.ext hE
    have RTe := RT.ext hE
    have Ze := Z0.ext hE
    have Ce := C.ext hE
    have NT := Qep (fun i => J8 (Xz c (f i)) 3) k b2 b1 wo (fun i hi u hu => Aq A A' ca cb c T k cap f b2 b1 i hi (hin i hi).1 (hin i hi).2.1 (hin i hi).2.2 u (Ce.ext hu) (B2e.ext hu) (B1e.ext hu) (RTe.ext hu) (by omega) (Ze.ext hu)) (fun i hi => Qdx _ _) (by omega) Ze
    rw [show Xw (fun i => J8 (Xz c (f i)) 3) k = R from by rw [HR.out]; unfold Qc.availV; rw [if_neg h64, if_pos (List.all_eq_true.2 fun j hj => hall.out j (by simpa using hj))]] at NT
    clear HR hall hin h64 RT
    replace E := E.trans hE
    replace B3 := B3.ext hE
    have s0 := B2e.c1
    have ls := B2e.lt
    clear hE
    obtain ⟨⟨Rn, Rd⟩, Re⟩ := R
    go_wp2_with (first | (go_at_call 84; (with_reducible refine Calls.mono (NT) ?_); rintro e wt ⟨rfl, ht⟩; replace E := E.trans ht; replace B3 := B3.ext ht; have f0 := B3.frozen 0; have f1 := B3.frozen 1; obtain ⟨x0, x1⟩ := B3.c2; have lx := B3.lt))
    have H4 := Ql B3 (.int .i64 Rn) (.int .i64 Rd)
    have EF := (E.setCell (p := ⟨b3, 0, none⟩) hbr (.int .i64 Rn)).setCell (p := ⟨b3, 1, none⟩) hbr (.int .i64 Rd)
    obtain ⟨y0, y1⟩ := H4.c2
    go_wp2
    refine bodyPost_ret (v := .tuple #[.agg #[.int .i64 Rn, .int .i64 Rd], .int .i64 Re]) (by simp [results, Tryd.results61, go_sem, y0, y1]) rfl ⟨rfl, EF⟩
theorem X6 {w w' : World} {base size n : Nat} {e : TypeId} {v : Value} {xs : List Value} (h : w.ownsRow base e size v n xs) (x : Qa w w') : w'.ownsRow base e size v n xs := h.kept (Ly x) (by
 rcases h.2 with ⟨rfl, _⟩ | ⟨g, cap, cur, rfl, _⟩
 ·exact .inl rfl
 ·exact .inr (by simp [Value.ownBlock]))
theorem Qa2 (W : World) (b j : Nat) (v : Value) : W.grownBy (W.setCell ⟨b, j, none⟩ v) (some b) :=
 ⟨rfl, rfl, rfl, (KeepsWalks.setCell W _ v).size, fun k _ hk => Below.heap_setCell _ _ _ k (fun e => hk (by rw [e]))⟩
theorem Sg : (Tryd.prog.info? 71).map (fun i => (i.zero, i.size, i.bytes)) = some (some (.agg #[.string ⟨#[]⟩, .int .i64 0]), 2, 24) := by kernel_rfl
theorem Es (s : ByteArray) (n : Int) : ∀ u ∈ [Value.string s, .int .i64 n], u.oneCell' = true := by simp [Value.oneCell']
theorem Qbb {w : World} {b : Nat} {t : TypeId} {cs : Array Value} (h : Qb w b t cs) : ∀ j u, cs.toList[j]? = some u → w.cell? ((⟨b, 0, none⟩ : Addr).add j) = some u := fun j u hj => by
 have e : (⟨b, 0, none⟩ : Addr).add j = ⟨b, j, none⟩ := by unfold Addr.add; split <;> simp_all
 rw [e, h.cell j]
 simpa using hj
/-- What a step leaves that writes only the box bo and rows of its own from B0 on. -/
structure Y3 (B0 bo : Nat) (w w' : World) : Prop where
 ext : ∀ W0 : World, Qa W0 w → W0.heap.size ≤ bo → W0.heap.size ≤ B0 → Qa W0 w'
 held : ∀ b t cs, Qb w b t cs → b ≠ bo → b < B0 → Qb w' b t cs
namespace Y3
variable {B0 bo : Nat} {w w' w'' : World}
theorem refl : Y3 B0 bo w w := ⟨fun _ h _ _ => h, fun _ _ _ h _ _ => h⟩
theorem of_ext (x : Qa w w') : Y3 B0 bo w w' := ⟨fun _ h _ _ => h.trans x, fun _ _ _ h _ _ => h.ext x⟩
theorem trans (h : Y3 B0 bo w w') (k : Y3 B0 bo w' w'') : Y3 B0 bo w w'' := ⟨fun W0 h0 h1 h2 => k.ext W0 (h.ext W0 h0 h1 h2) h1 h2, fun b t cs h0 h1 h2 => k.held b t cs (h.held b t cs h0 h1 h2) h1 h2⟩
theorem grown {v : Value} {e : TypeId} {s n : Nat} {xs : List Value} (ho : w.ownsRow B0 e s v n xs) (hg : w.grownBy w' v.ownBlock) : Y3 B0 bo w w' :=
 ⟨fun _ h0 _ h2 => h0.grown hg (fun q hq => Nat.le_trans h2 (M8 ho q hq).1), fun b _ _ h _ hb => h.kept hg (fun e => by have := (M8 ho b e.symm).1; omega)⟩
theorem set (j : Nat) (u : Value) : Y3 B0 bo w (w.setCell ⟨bo, j, none⟩ u) :=
 ⟨fun _ h0 h1 _ => h0.setCell (p := ⟨bo, j, none⟩) h1 u, fun _ _ _ h hne _ => Qh h hne j u⟩
end Y3
theorem Qbc {W : World} {b : Nat} {t : TypeId} {v0 : Value} (h : Qb W b t #[v0]) (u : Value) : Qb (W.setCell ⟨b, 0, none⟩ u) b t #[u] := by unfold Qb at h ⊢; simp [World.setCell, Array.getElem?_modify, h]
theorem Y0 {W : World} {b : Nat} {t e : TypeId} {cs : Array Value} (h : Qb W b t cs) (hte : t ≠ e) {base size k : Nat} {v : Value} {xs : List Value} (hr : W.ownsRow base e size v k xs) (j : Nat) (u : Value) : (W.setCell ⟨b, j, none⟩ u).ownsRow base e size v k xs :=
 hr.kept (Qa2 W b j u) (.inr (Ne.symm (h.not_row hte hr)))
def Jr (l : Lt) : List Value := [.string l.g, .int .i64 l.n]
theorem Qdi (sg : Int) (x y : Lt) (B0 bs bo : Nat) (F : Option Addr) (k cap : Nat) (xs : List Value) (w : World) (HS : Qb w bs 3 #[.int .i64 sg]) (HO : Qb w bo 28 #[.slice F k cap]) (hO : w.ownsRow B0 71 2 (.slice F k cap) k xs) (hk : k ≤ 1000) (_hlen : xs.length = k * 2) (hb0 : B0 ≤ w.heap.size) (hw1 : -9223372036854775808 ≤ sg * y.n) (hw2 : sg * y.n ≤ 9223372036854775807) (hw3 : -9223372036854775808 ≤ x.n + sg * y.n) (hw4 : x.n + sg * y.n ≤ 9223372036854775807) :
  Calls Tryd.prog 94 #[.agg #[.string x.g, .int .i64 x.n], .agg #[.string y.g, .int .i64 y.n], .pointer (some ⟨bs, 0, none⟩), .pointer (some ⟨bo, 0, none⟩)] w fun e w' => e = .returned (.bool (Yv sg x y)) ∧ Y3 B0 bo w w' ∧ (Yv sg x y = true → ∃ F' k' cap', Qb w' bo 28 #[.slice F' k' cap'] ∧ w'.ownsRow B0 71 2 (.slice F' k' cap') k' (xs ++ (X4 sg (x, y)).flatMap Jr)) := by
 obtain ⟨i0, hi, hz0, hz1, hz2⟩ := info_parts Sg
 obtain ⟨N, hN⟩ := Qg (Uh sg x y)
 have hm : IntKind.i64.wrap (sg * y.n) = sg * y.n := Zm hw1 hw2
 have hadd : IntKind.i64.wrap (x.n + sg * y.n) = N := by rw [hN]; exact Zm hw3 hw4
 have hxs : Hid (xs ++ (X4 sg (x, y)).flatMap Jr = if N = 0 then xs else xs ++ [.string (Yz x y), .int .i64 N]) := by
  unfold Hid X4 Jr
  rw [hN]
  by_cases h : Uh sg x y = 0
  ·rw [if_pos h, if_pos h]; simp
  ·rw [if_neg h, if_neg h]; simp
 have hok : Yv sg x y = !(decide (1099511627776 < N) || decide (N < -1099511627776)) := by rw [hN]; rfl
 rw [hok]
 clear hok hN hw1 hw2 hw3 hw4
 go_enter Tryd.func94, Tryd.ntmps94
 go_upto_region 1 with (fail)
 obtain ⟨v, hv⟩ := Qg ((w.alloc (.cells #[.string x.g, .int .i64 x.n] 71)).alloc (.cells #[.string y.g, .int .i64 y.n] 71))
 rw [← hv]
 have E : Qa w v := by rw [hv]; exact ((Qa.refl _).alloc _).alloc _
 have B1 : Qb v w.heap.size 71 #[.string x.g, .int .i64 x.n] := by rw [hv]; exact (Qb.new _ _ _).alloc _
 have B2 : Qb v (w.heap.size + 1) 71 #[.string y.g, .int .i64 y.n] := by rw [hv]; exact Qb.at _ _ _ _ (by simp)
 clear hv
 obtain ⟨b2, hb2⟩ := Qg (w.heap.size + 1)
 rw [← hb2] at B2 ⊢
 obtain ⟨b1, hb1⟩ := Qg (w.heap.size)
 rw [← hb1] at B1 ⊢
 have hbr : w.heap.size ≤ b2 := by omega
 have hbr1 : w.heap.size ≤ b1 := by omega
 have hn21 : b2 ≠ b1 := by omega
 clear hb1 hb2
 have hrl : ∀ q, (Value.slice F k cap).ownBlock = some q → q < w.heap.size := fun q h => (hO.lt q h).2
 replace HS := HS.ext E
 replace HO := HO.ext E
 replace hO := X6 hO E
 obtain ⟨p0, p1⟩ := B1.c2
 have lp := B1.lt
 obtain ⟨r0, r1⟩ := B2.c2
 have lr := B2.lt
 have s0 := HS.c1
 have ls := HS.lt
 by_cases g1 : 1099511627776 < N
 ·have d1 : decide (1099511627776 < N) = true := decide_eq_true g1
  clear g1
  go_wp2
  go_ret
  exact ⟨J1 (by rw [d1]; rfl), .of_ext E, fun h => by rw [d1] at h; cases h⟩
 ·have d1 : decide (1099511627776 < N) = false := decide_eq_false g1
  by_cases g2 : N < -1099511627776
  ·have d2 : decide (N < -1099511627776) = true := decide_eq_true g2
   clear g1 g2
   go_wp2
   go_ret
   exact ⟨J1 (by rw [d1, d2]; rfl), .of_ext E, fun h => by rw [d1, d2] at h; cases h⟩
  ·have d2 : decide (N < -1099511627776) = false := decide_eq_false g2
   clear g1 g2
   by_cases g3 : N = 0
   ·subst g3
    go_wp2
    go_ret
    refine ⟨rfl, .of_ext E, ?_⟩
    exact ⟨_, _, _, HO, by rw [hxs.out, if_pos trivial]; exact hO⟩
   ·have d3 : (N == 0) = false := beq_eq_false_iff_ne.2 g3
    have d3n : (N != 0) = true := by rw [bne, d3]; rfl
    rw [if_neg g3] at hxs
    clear g3
    go_upto_region 5 with (fail)
    clear p0 p1 lp r0 r1 lr s0 ls
    refine Q5 9 [8] (fun u => Qb u bo 28 #[.slice F k cap] ∧ Qb u b1 71 #[.string x.g, .int .i64 x.n] ∧ Qb u b2 71 #[.string y.g, .int .i64 y.n]) Qr rfl ?_
    intro vz hvz
    have HC := hvz
    replace HO := HO.ext hvz
    replace B1 := B1.ext hvz
    replace B2 := B2.ext hvz
    refine Qp (g := 5) [0, 1, 2, 4] [_, _, _, _] ⟨rfl, rfl, rfl, rfl, trivial⟩ (by kernel_rfl) (by kernel_rfl) ⟨HO, B1, B2⟩ ?_
    simp only [Qd, Qe, Qf]
    apply Exists.intro
    refine ⟨fun u hu => ?_, ?_⟩
    ·have o0 := hu.1.c1
     have lo := hu.1.lt
     obtain ⟨p0, p1⟩ := hu.2.1.c2
     have lp := hu.2.1.lt
     obtain ⟨r0, r1⟩ := hu.2.2.c2
     have lr := hu.2.2.lt
     repeat (first | go_big_quiet_skip | (go_big_quiet_want; go_big_quiet_op; go_big_quiet_on))
     refine wpQuiet_nil ?_
     rfl
    refine Qj 3 rfl (by kernel_rfl) ?_
    simp only [Qd, Qe, Qf]
    go_wp2_with (go_at_call 95; (with_reducible refine Calls.mono (Qcn x y _) ?_); rintro e wa ⟨rfl, h4⟩)
    replace HC := HC.trans h4
    replace HO := HO.ext h4
    replace B1 := B1.ext h4
    replace B2 := B2.ext h4
    clear h4
    refine Qi ⟨HO, B1, B2⟩ ?_
    refine Qp (g := 3) [5] [_] ⟨rfl, trivial⟩ (by kernel_rfl) (by kernel_rfl) ⟨HO, B1, B2⟩ ?_
    simp only [Qd, Qe, Qf]
    apply Exists.intro
    refine ⟨fun u hu => ?_, ?_⟩
    ·have o0 := hu.1.c1
     have lo := hu.1.lt
     obtain ⟨p0, p1⟩ := hu.2.1.c2
     have lp := hu.2.1.lt
     obtain ⟨r0, r1⟩ := hu.2.2.c2
     have lr := hu.2.2.lt
     repeat (first | go_big_quiet_skip | (go_big_quiet_want; go_big_quiet_op; go_big_quiet_on))
     refine wpQuiet_nil ?_
     rfl
    refine Qj 6 rfl (by kernel_rfl) ?_
    simp only [Qd, Qe, Qf]
    go_wp2
    obtain ⟨bq, wb, hbq, hwb, Q6, HC', hx, hge⟩ := Q0 HC 71 #[.string (Yz x y), .int .i64 N]
    rw [← hbq, ← hwb]
    clear hbq hwb
    replace HC := HC'
    replace HO := HO.ext hx
    replace B1 := B1.ext hx
    replace B2 := B2.ext hx
    clear hx HC'
    refine Qi ⟨HO, B1, B2⟩ ?_
    refine Qj 7 rfl (by kernel_rfl) ?_
    simp only [Qd, Qe, Qf]
    go_wp2_with (at_builtin; refine wpList_append_own_at _ rfl _ _ 28 rfl B0 71 i0 (.agg #[.string ⟨#[]⟩, .int .i64 0]) 2 24 Tryd.underlying28 hi hz0 hz1 hz2 rfl (by decide) _ _ _ rfl (X6 hO HC) ⟨bq, 0, none⟩ 1 1 [.string (Yz x y), .int .i64 N] rfl rfl (Qbb Q6) (Es _ _) (by unfold maxLen; omega) (by omega) (by have := HC.size; have := E.size; omega) ?_; intro vn wn hown hgrow _ _)
    obtain ⟨Fn, mn, rfl⟩ := Zo hown
    replace B1 := B1.kept hgrow (fun e => by have := hrl b1 e.symm; omega)
    replace B2 := B2.kept hgrow (fun e => by have := hrl b2 e.symm; omega)
    replace HO := HO.kept hgrow (HO.not_row (by decide) (X6 hO HC))
    have HP := (Y3.of_ext (E.trans HC)).trans (Y3.grown (bo := bo) (X6 hO HC) hgrow)
    clear hgrow Q6
    refine Qi ⟨HO, B1, B2⟩ ?_
    refine Qn 8 rfl (by kernel_rfl) ?_
    simp only [Qd, Qe, Qf]
    have z0 := HO.frozen 0
    have o0 := HO.c1
    have lo := HO.lt
    go_wp2
    have HP2 := HP.trans (Y3.set 0 (.slice Fn (k + 1) mn))
    have HO2 := Qbc HO (.slice Fn (k + 1) mn)
    have hown2 := Y0 HO (by decide) hown 0 (.slice Fn (k + 1) mn)
    clear HP hown HO B1 B2
    generalize World.setCell _ _ _ = wq at *
    clear z0 o0 lo
    refine Qm ?_
    refine Qt (by kernel_rfl) ?_
    go_wp2
    go_ret
    refine ⟨J1 (by rw [d1, d2]; rfl), HP2, fun _ => ?_⟩
    exact ⟨_, _, _, HO2, by rw [hxs.out]; exact hown2⟩
end
end Go.Proofs.YtneiofnlmblglaaDoor
