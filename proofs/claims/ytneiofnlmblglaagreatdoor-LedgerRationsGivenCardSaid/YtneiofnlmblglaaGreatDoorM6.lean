/- Walks of the program's functions and plain facts, packed; proved: the lemmas below; no conditions but those that each states. -/
import Derived.Test.YtneiofnlmblglaaGreatDoorM4
import Derived.Test.YtneiofnlmblglaaGreatDoorM5
set_option maxRecDepth 100000
set_option maxHeartbeats 4000000
namespace Go.Proofs.YtneiofnlmblglaaGreatDoor
open Go Go.RowKit Go.Shelf
attribute [local go_sem] gv_yes
theorem ex_new2 {W w : World} (h : Ext W w) (t : TypeId) (cs : Array Value) : ∃ b w', b = w.heap.size ∧ w' = w.alloc (.cells cs t) ∧ Held w' b t cs ∧ Ext W w' ∧ Ext w w' ∧ W.heap.size ≤ b := ⟨_, _, rfl, rfl, Held.new w t cs, h.alloc _, (Ext.refl w).alloc _, h.size⟩
def cut3y (A : Nat → Nat → Nat → Act) (S : World → Nat → Nat → Nat → Prop) : Exit → Act → World → Prop := fun e a' w' => e = .normal ∧ ∃ p q r, S w' p q r ∧ a' = A p q r
theorem cut3y_is {A : Nat → Nat → Nat → Act} {S : World → Nat → Nat → Nat → Prop} {w' : World} (p q r : Nat) {a' : Act} (h : S w' p q r) (ha : a' = A p q r) : cut3y A S .normal a' w' := ⟨rfl, p, q, r, h, ha⟩
theorem wp_cut3y {P : Program} {c : Code} {Q : Exit → Act → World → Prop} {a : Act} {w : World} {A : Nat → Nat → Nat → Act} (S : World → Nat → Nat → Nat → Prop) (h1 : c.wp P (cut3y A S) a w) (h2 : ∀ p q r w', S w' p q r → Q .normal (A p q r) w') : c.wp P Q a w :=
 Code.wp_mono (fun e a' w' ⟨he, p, q, r, hs, ha⟩ => by subst he; subst ha; exact h2 p q r w' hs) h1
theorem not_two {W : World} {b : Nat} {n m : Int} {v0 v1 : Value} (h : Held W b 183 #[.int .u64 n, .int .u64 m]) (h' : Held W b 188 #[v0, v1]) : False := by
 have e := (show W.heap[b]? = _ from h).symm.trans h'
 simp at e
def pairN (x y : Nat) : Nat → Nat
 | 0 => x
 | _ => y
theorem pairN_up (x y : Nat) : upTo (pairN x y) 2 = x * y := by show 1 * x * y = x * y; rw [Nat.one_mul]
theorem pairN_pos {x y : Nat} (hx : 1 ≤ x) (hy : 1 ≤ y) : ∀ i, i < 2 → 1 ≤ pairN x y i := fun i hi => by
 have : i = 0 ∨ i = 1 := by omega
 rcases this with rfl | rfl
 ·exact hx
 ·exact hy
theorem pairN_lt {x y : Nat} (hx : x < 18446744073709551616) (hy : y < 18446744073709551616) : ∀ i, i < 2 → pairN x y i < 18446744073709551616 := fun i hi => by
 have : i = 0 ∨ i = 1 := by omega
 rcases this with rfl | rfl
 ·exact hx
 ·exact hy
theorem urow2 {w : World} {b : Nat} {t : TypeId} {n m : Nat} (h : Held w b t #[.int .u64 (n : Int), .int .u64 (m : Int)]) : RowsAt w (some ⟨b, 0, none⟩) 2 1 (u64r (pairN n m)) := rows_flat (f := u64r (pairN n m)) (n := 2) (fun _ => rfl) h
theorem divC_any (a b : Rt) (ha : a.ok = true) (hb : b.ok = true) (ba bb : Nat) (w : World) (hA : Held w ba 73 #[.int .i64 a.n, .int .i64 a.d]) (hB : Held w bb 73 #[.int .i64 b.n, .int .i64 b.d]) (hZ : Zro w) :
  Calls Tryz.prog 137 #[.pointer (some ⟨bb, 0, none⟩), .pointer (some ⟨ba, 0, none⟩)] w fun e w' => e = .returned (.tuple #[.agg #[.int .i64 (if b.n = 0 then (rat0, 9) else quo (decide (a.n < 0) != decide (b.n < 0)) (a.n.natAbs * b.d.natAbs) (a.d.natAbs * b.n.natAbs)).1.n, .int .i64 (if b.n = 0 then (rat0, 9) else quo (decide (a.n < 0) != decide (b.n < 0)) (a.n.natAbs * b.d.natAbs) (a.d.natAbs * b.n.natAbs)).1.d], .int .i64 (if b.n = 0 then (rat0, 9) else quo (decide (a.n < 0) != decide (b.n < 0)) (a.n.natAbs * b.d.natAbs) (a.d.natAbs * b.n.natAbs)).2]) ∧ Ext w w' := by
 obtain ⟨a1, a2, a3, a4, _⟩ := ok_bd ha
 obtain ⟨b1', b2', b3', b4', _⟩ := ok_bd hb
 have N1 := fun w => size_any a.n (by omega) (by omega) w
 have N2 := fun w => size_any b.d (by omega) (by omega) w
 have N3 := fun w => size_any a.d (by omega) (by omega) w
 have N4 := fun w => size_any b.n (by omega) (by omega) w
 obtain ⟨R, hR0⟩ := zgE (if b.n = 0 then (rat0, 9) else quo (decide (a.n < 0) != decide (b.n < 0)) (a.n.natAbs * b.d.natAbs) (a.d.natAbs * b.n.natAbs))
 rw [← hR0]
 have HR := Lib.hid hR0
 clear hR0
 go_enter Tryz.func137, Tryz.ntmps137
 go_upto_region 1 with (fail)
 obtain ⟨v, hv⟩ := zgE (w.alloc (.cells #[.int .i64 0, .int .i64 0] 73))
 rw [← hv]
 have E : Ext w v := by rw [hv]; exact (Ext.refl _).alloc _
 have B1 : Held v w.heap.size 73 #[.int .i64 0, .int .i64 0] := by rw [hv]; exact (Held.new _ _ _)
 clear hv
 obtain ⟨b1, hb1⟩ := zgE (w.heap.size)
 rw [← hb1] at B1 ⊢
 have hbr : w.heap.size ≤ b1 := by omega
 clear hb1
 have Z0 := hZ.ext E
 have HA := hA.ext E
 have HB := hB.ext E
 clear hA hB hZ
 obtain ⟨k0, k1⟩ := HA.c2
 have lk := HA.lt
 obtain ⟨p0, p1⟩ := HB.c2
 have lp := HB.lt
 by_cases hb0 : b.n = 0
 ·have g0 : (b.n == 0) = true := by rw [hb0]; rfl
  have hr : R = (rat0, 9) := by rw [HR.out, if_pos hb0]
  subst hr
  clear HR hb0
  have f0 := B1.frozen 0
  have f1 := B1.frozen 1
  obtain ⟨x0, x1⟩ := B1.c2
  have lx := B1.lt
  have H4 := held_two B1 (.int .i64 0) (.int .i64 0)
  have EF := (E.setCell (p := ⟨b1, 0, none⟩) hbr (.int .i64 0)).setCell (p := ⟨b1, 1, none⟩) hbr (.int .i64 0)
  obtain ⟨y0, y1⟩ := H4.c2
  go_wp2
  refine bodyPost_ret (v := .tuple #[.agg #[.int .i64 0, .int .i64 0], .int .i64 9]) (by simp [results, Tryz.results137, go_sem, y0, y1]) rfl ⟨rfl, EF⟩
 ·have g0 : (b.n == 0) = false := beq_eq_false_iff_ne.2 hb0
  have hr := HR.out
  rw [if_neg hb0] at hr
  clear HR
  by_cases ha0 : a.n = 0
  ·have g1 : (a.n == 0) = true := by rw [ha0]; rfl
   rw [show a.n.natAbs * b.d.natAbs = 0 by rw [ha0]; simp, quo_zero (Nat.mul_pos (by omega) (by omega))] at hr
   subst hr
   clear hb0 ha0
   obtain ⟨z0, z1, lz⟩ := Z0
   have f0 := B1.frozen 0
   have f1 := B1.frozen 1
   obtain ⟨x0, x1⟩ := B1.c2
   have lx := B1.lt
   have H4 := held_two B1 (.int .i64 0) (.int .i64 1)
   have EF := (E.setCell (p := ⟨b1, 0, none⟩) hbr (.int .i64 0)).setCell (p := ⟨b1, 1, none⟩) hbr (.int .i64 1)
   obtain ⟨y0, y1⟩ := H4.c2
   go_wp2
   refine bodyPost_ret (v := .tuple #[.agg #[.int .i64 0, .int .i64 1], .int .i64 0]) (by simp [results, Tryz.results137, go_sem, y0, y1]) rfl ⟨rfl, EF⟩
  ·have g1 : (a.n == 0) = false := beq_eq_false_iff_ne.2 ha0
   have NR := fun w b6 b13 neg (hneg : neg = (decide (a.n < 0) != decide (b.n < 0))) h h' => ratio_any (some ⟨b6, 0, none⟩) (some ⟨b13, 0, none⟩) 2 2 2 2 (pairN a.n.natAbs b.d.natAbs) (pairN a.d.natAbs b.n.natAbs) neg w h h' (fun h => by cases h) (fun h => by cases h) (by decide) (by decide) (pairN_pos (by omega) (by omega)) (pairN_lt (by omega) (by omega)) (pairN_pos (by omega) (by omega)) (pairN_lt (by omega) (by omega))
   have NR2 : ∀ (w : World) (b6 b13 : Nat), RowsAt w (some ⟨b6, 0, none⟩) 2 1 (u64r (pairN a.n.natAbs b.d.natAbs)) → RowsAt w (some ⟨b13, 0, none⟩) 2 1 (u64r (pairN a.d.natAbs b.n.natAbs)) → Calls Tryz.prog 135 #[.agg #[.slice (some ⟨b6, 0, none⟩) 2 2, .slice (some ⟨b13, 0, none⟩) 2 2], .bool (!(decide (a.n < 0) == decide (b.n < 0)))] w fun e w' => e = .returned (.tuple #[.agg #[.int .i64 R.1.n, .int .i64 R.1.d], .int .i64 R.2]) ∧ Ext w w' := fun w b6 b13 h h' => by
    have := NR w b6 b13 _ rfl h h'
    rw [pairN_up, pairN_up] at this
    have hr' : R = quo (!(decide (a.n < 0) == decide (b.n < 0))) (a.n.natAbs * b.d.natAbs) (a.d.natAbs * b.n.natAbs) := hr
    rw [hr']
    exact this
   clear NR hr hb0 ha0 a1 a2 a3 a4 b1' b2' b3' b4'
   obtain ⟨⟨Rn, Rd⟩, Re⟩ := R
   go_upto_region 5 with (fail)
   clear k0 k1 lk p0 p1 lp
   apply wp_cut3y (S := fun w' b6 b13 b15 => Ext v w' ∧ Held w' b6 183 #[.int .u64 (a.n.natAbs : Int), .int .u64 (b.d.natAbs : Int)] ∧ Held w' b13 183 #[.int .u64 (a.d.natAbs : Int), .int .u64 (b.n.natAbs : Int)] ∧ Held w' b15 188 #[.slice (some ⟨b6, 0, none⟩) 2 2, .slice (some ⟨b13, 0, none⟩) 2 2])
   ·refine wp_region_z 17 [16] (fun x => Ext v x) mixed rfl ?_
    intro vz hvz
    have HC := hvz
    refine z_stills (g := 9) [0, 1, 3, 4, 7, 8, 10, 11] [_, _, _, _, _, _, _, _] ⟨rfl, rfl, rfl, rfl, rfl, rfl, rfl, rfl, trivial⟩ (by kernel_rfl) (by kernel_rfl) HC ?_
    simp only [zgA, zgB, zgC]
    apply Exists.intro
    refine ⟨fun u hu => ?_, ?_⟩
    ·obtain ⟨k0, k1⟩ := (HA.ext hu).c2
     have lk := (HA.ext hu).lt
     obtain ⟨p0, p1⟩ := (HB.ext hu).c2
     have lp := (HB.ext hu).lt
     repeat (first | go_big_quiet_skip | (go_big_quiet_want; go_big_quiet_op; go_big_quiet_on))
     refine wpQuiet_nil ?_
     rfl
    refine z_two 2 15 rfl rfl (by kernel_rfl) ?_ ?_
    ·simp only [zgA, zgB, zgC]
     go_wp2_with (go_at_call 134; (with_reducible refine Calls.mono (N1 _) ?_); rintro e wa ⟨rfl, h4⟩)
     replace HC := HC.trans h4
     try replace Q6 := Q6.ext h4
     try replace Q13 := Q13.ext h4
     try replace Q15 := Q15.ext h4
     clear h4
     refine onQ_in HC ?_
     refine z_two 5 15 rfl rfl (by kernel_rfl) ?_ ?_
     ·simp only [zgA, zgB, zgC]
      go_wp2_with (go_at_call 134; (with_reducible refine Calls.mono (N2 _) ?_); rintro e wa ⟨rfl, h4⟩)
      replace HC := HC.trans h4
      try replace Q6 := Q6.ext h4
      try replace Q13 := Q13.ext h4
      try replace Q15 := Q15.ext h4
      clear h4
      refine onQ_in HC ?_
      refine z_three 6 9 15 rfl rfl rfl (by kernel_rfl) ?_ ?_ ?_
      ·simp only [zgA, zgB, zgC]
       go_wp2
       obtain ⟨b6, wb, hbq, hwb, Q6, HC', hx, hgeb6⟩ := ex_new2 HC 183 #[.int .u64 (a.n.natAbs : Int), .int .u64 (b.d.natAbs : Int)]
       rw [← hbq, ← hwb]
       clear hbq hwb
       replace HC := HC'
       clear HC'
       try replace Q13 := Q13.ext hx
       try replace Q15 := Q15.ext hx
       clear hx
       refine onQ_in HC ?_
       refine z_two 9 15 rfl rfl (by kernel_rfl) ?_ ?_
       ·simp only [zgA, zgB, zgC]
        go_wp2_with (go_at_call 134; (with_reducible refine Calls.mono (N3 _) ?_); rintro e wa ⟨rfl, h4⟩)
        replace HC := HC.trans h4
        try replace Q6 := Q6.ext h4
        try replace Q13 := Q13.ext h4
        try replace Q15 := Q15.ext h4
        clear h4
        refine onQ_in HC ?_
        refine z_two 12 15 rfl rfl (by kernel_rfl) ?_ ?_
        ·simp only [zgA, zgB, zgC]
         go_wp2_with (go_at_call 134; (with_reducible refine Calls.mono (N4 _) ?_); rintro e wa ⟨rfl, h4⟩)
         replace HC := HC.trans h4
         try replace Q6 := Q6.ext h4
         try replace Q13 := Q13.ext h4
         try replace Q15 := Q15.ext h4
         clear h4
         refine onQ_in HC ?_
         refine z_two 13 15 rfl rfl (by kernel_rfl) ?_ ?_
         ·simp only [zgA, zgB, zgC]
          go_wp2
          obtain ⟨b13, wb, hbq, hwb, Q13, HC', hx, hgeb13⟩ := ex_new2 HC 183 #[.int .u64 (a.d.natAbs : Int), .int .u64 (b.n.natAbs : Int)]
          rw [← hbq, ← hwb]
          clear hbq hwb
          replace HC := HC'
          clear HC'
          try replace Q6 := Q6.ext hx
          try replace Q15 := Q15.ext hx
          clear hx
          refine onQ_in HC ?_
          refine z_stills (g := 2) [14] [_] ⟨rfl, trivial⟩ (by kernel_rfl) (by kernel_rfl) HC ?_
          simp only [zgA, zgB, zgC]
          apply Exists.intro
          refine ⟨fun u hu => ?_, ?_⟩
          ·obtain ⟨k0, k1⟩ := (HA.ext hu).c2
           have lk := (HA.ext hu).lt
           obtain ⟨p0, p1⟩ := (HB.ext hu).c2
           have lp := (HB.ext hu).lt
           repeat (first | go_big_quiet_skip | (go_big_quiet_want; go_big_quiet_op; go_big_quiet_on))
           refine wpQuiet_nil ?_
           rfl
          refine z_one 15 rfl (by kernel_rfl) ?_
          simp only [zgA, zgB, zgC]
          go_wp2
          obtain ⟨b15, wb, hbq, hwb, Q15, HC', hx, hgeb15⟩ := ex_new2 HC 188 #[.slice none 0 0, .slice none 0 0]
          rw [← hbq, ← hwb]
          clear hbq hwb
          replace HC := HC'
          clear HC'
          try replace Q6 := Q6.ext hx
          try replace Q13 := Q13.ext hx
          clear hx
          refine onQ_in HC ?_
          refine z_end 16 rfl (by kernel_rfl) ?_
          simp only [zgA, zgB, zgC]
          have z0 := Q15.frozen 0
          have z1 := Q15.frozen 1
          obtain ⟨x0, x1⟩ := Q15.c2
          have lx := Q15.lt
          have n6 : b6 ≠ b15 := fun e => not_two (e ▸ Q6) Q15
          have n13 : b13 ≠ b15 := fun e => not_two (e ▸ Q13) Q15
          have S15 := held_two Q15 (.slice (some ⟨b6, 0, none⟩) 2 2) (.slice (some ⟨b13, 0, none⟩) 2 2)
          have S6 := held_oth (held_oth Q6 n6 0 (.slice (some ⟨b6, 0, none⟩) 2 2)) n6 1 (.slice (some ⟨b13, 0, none⟩) 2 2)
          have S13 := held_oth (held_oth Q13 n13 0 (.slice (some ⟨b6, 0, none⟩) 2 2)) n13 1 (.slice (some ⟨b13, 0, none⟩) 2 2)
          have HE2 := (HC.setCell (p := ⟨b15, 0, none⟩) hgeb15 (.slice (some ⟨b6, 0, none⟩) 2 2)).setCell (p := ⟨b15, 1, none⟩) hgeb15 (.slice (some ⟨b13, 0, none⟩) 2 2)
          go_wp2
          refine onQ_last ?_
          refine z_done (by kernel_rfl) ?_
          exact cut3y_is b6 b13 b15 ⟨HE2, S6, S13, S15⟩ rfl
         ·simp only [zgA, zgB, zgC]
          go_wp2
          obtain ⟨b15, wb, hbq, hwb, Q15, HC', hx, hgeb15⟩ := ex_new2 HC 188 #[.slice none 0 0, .slice none 0 0]
          rw [← hbq, ← hwb]
          clear hbq hwb
          replace HC := HC'
          clear HC'
          try replace Q6 := Q6.ext hx
          try replace Q13 := Q13.ext hx
          clear hx
          refine onQ_in HC ?_
          refine z_one 13 rfl (by kernel_rfl) ?_
          simp only [zgA, zgB, zgC]
          go_wp2
          obtain ⟨b13, wb, hbq, hwb, Q13, HC', hx, hgeb13⟩ := ex_new2 HC 183 #[.int .u64 (a.d.natAbs : Int), .int .u64 (b.n.natAbs : Int)]
          rw [← hbq, ← hwb]
          clear hbq hwb
          replace HC := HC'
          clear HC'
          try replace Q6 := Q6.ext hx
          try replace Q15 := Q15.ext hx
          clear hx
          refine onQ_in HC ?_
          refine z_stills (g := 1) [14] [_] ⟨rfl, trivial⟩ (by kernel_rfl) (by kernel_rfl) HC ?_
          simp only [zgA, zgB, zgC]
          apply Exists.intro
          refine ⟨fun u hu => ?_, ?_⟩
          ·obtain ⟨k0, k1⟩ := (HA.ext hu).c2
           have lk := (HA.ext hu).lt
           obtain ⟨p0, p1⟩ := (HB.ext hu).c2
           have lp := (HB.ext hu).lt
           repeat (first | go_big_quiet_skip | (go_big_quiet_want; go_big_quiet_op; go_big_quiet_on))
           refine wpQuiet_nil ?_
           rfl
          refine z_end 16 rfl (by kernel_rfl) ?_
          simp only [zgA, zgB, zgC]
          have z0 := Q15.frozen 0
          have z1 := Q15.frozen 1
          obtain ⟨x0, x1⟩ := Q15.c2
          have lx := Q15.lt
          have n6 : b6 ≠ b15 := fun e => not_two (e ▸ Q6) Q15
          have n13 : b13 ≠ b15 := fun e => not_two (e ▸ Q13) Q15
          have S15 := held_two Q15 (.slice (some ⟨b6, 0, none⟩) 2 2) (.slice (some ⟨b13, 0, none⟩) 2 2)
          have S6 := held_oth (held_oth Q6 n6 0 (.slice (some ⟨b6, 0, none⟩) 2 2)) n6 1 (.slice (some ⟨b13, 0, none⟩) 2 2)
          have S13 := held_oth (held_oth Q13 n13 0 (.slice (some ⟨b6, 0, none⟩) 2 2)) n13 1 (.slice (some ⟨b13, 0, none⟩) 2 2)
          have HE2 := (HC.setCell (p := ⟨b15, 0, none⟩) hgeb15 (.slice (some ⟨b6, 0, none⟩) 2 2)).setCell (p := ⟨b15, 1, none⟩) hgeb15 (.slice (some ⟨b13, 0, none⟩) 2 2)
          go_wp2
          refine onQ_last ?_
          refine z_done (by kernel_rfl) ?_
          exact cut3y_is b6 b13 b15 ⟨HE2, S6, S13, S15⟩ rfl
        ·simp only [zgA, zgB, zgC]
         go_wp2
         obtain ⟨b15, wb, hbq, hwb, Q15, HC', hx, hgeb15⟩ := ex_new2 HC 188 #[.slice none 0 0, .slice none 0 0]
         rw [← hbq, ← hwb]
         clear hbq hwb
         replace HC := HC'
         clear HC'
         try replace Q6 := Q6.ext hx
         try replace Q13 := Q13.ext hx
         clear hx
         refine onQ_in HC ?_
         refine z_one 12 rfl (by kernel_rfl) ?_
         simp only [zgA, zgB, zgC]
         go_wp2_with (go_at_call 134; (with_reducible refine Calls.mono (N4 _) ?_); rintro e wa ⟨rfl, h4⟩)
         replace HC := HC.trans h4
         try replace Q6 := Q6.ext h4
         try replace Q13 := Q13.ext h4
         try replace Q15 := Q15.ext h4
         clear h4
         refine onQ_in HC ?_
         refine z_one 13 rfl (by kernel_rfl) ?_
         simp only [zgA, zgB, zgC]
         go_wp2
         obtain ⟨b13, wb, hbq, hwb, Q13, HC', hx, hgeb13⟩ := ex_new2 HC 183 #[.int .u64 (a.d.natAbs : Int), .int .u64 (b.n.natAbs : Int)]
         rw [← hbq, ← hwb]
         clear hbq hwb
         replace HC := HC'
         clear HC'
         try replace Q6 := Q6.ext hx
         try replace Q15 := Q15.ext hx
         clear hx
         refine onQ_in HC ?_
         refine z_stills (g := 1) [14] [_] ⟨rfl, trivial⟩ (by kernel_rfl) (by kernel_rfl) HC ?_
         simp only [zgA, zgB, zgC]
         apply Exists.intro
         refine ⟨fun u hu => ?_, ?_⟩
         ·obtain ⟨k0, k1⟩ := (HA.ext hu).c2
          have lk := (HA.ext hu).lt
          obtain ⟨p0, p1⟩ := (HB.ext hu).c2
          have lp := (HB.ext hu).lt
          repeat (first | go_big_quiet_skip | (go_big_quiet_want; go_big_quiet_op; go_big_quiet_on))
          refine wpQuiet_nil ?_
          rfl
         refine z_end 16 rfl (by kernel_rfl) ?_
         simp only [zgA, zgB, zgC]
         have z0 := Q15.frozen 0
         have z1 := Q15.frozen 1
         obtain ⟨x0, x1⟩ := Q15.c2
         have lx := Q15.lt
         have n6 : b6 ≠ b15 := fun e => not_two (e ▸ Q6) Q15
         have n13 : b13 ≠ b15 := fun e => not_two (e ▸ Q13) Q15
         have S15 := held_two Q15 (.slice (some ⟨b6, 0, none⟩) 2 2) (.slice (some ⟨b13, 0, none⟩) 2 2)
         have S6 := held_oth (held_oth Q6 n6 0 (.slice (some ⟨b6, 0, none⟩) 2 2)) n6 1 (.slice (some ⟨b13, 0, none⟩) 2 2)
         have S13 := held_oth (held_oth Q13 n13 0 (.slice (some ⟨b6, 0, none⟩) 2 2)) n13 1 (.slice (some ⟨b13, 0, none⟩) 2 2)
         have HE2 := (HC.setCell (p := ⟨b15, 0, none⟩) hgeb15 (.slice (some ⟨b6, 0, none⟩) 2 2)).setCell (p := ⟨b15, 1, none⟩) hgeb15 (.slice (some ⟨b13, 0, none⟩) 2 2)
         go_wp2
         refine onQ_last ?_
         refine z_done (by kernel_rfl) ?_
         exact cut3y_is b6 b13 b15 ⟨HE2, S6, S13, S15⟩ rfl
       ·simp only [zgA, zgB, zgC]
        go_wp2
        obtain ⟨b15, wb, hbq, hwb, Q15, HC', hx, hgeb15⟩ := ex_new2 HC 188 #[.slice none 0 0, .slice none 0 0]
        rw [← hbq, ← hwb]
        clear hbq hwb
        replace HC := HC'
        clear HC'
        try replace Q6 := Q6.ext hx
        try replace Q13 := Q13.ext hx
        clear hx
        refine onQ_in HC ?_
        refine z_one 9 rfl (by kernel_rfl) ?_
        simp only [zgA, zgB, zgC]
        go_wp2_with (go_at_call 134; (with_reducible refine Calls.mono (N3 _) ?_); rintro e wa ⟨rfl, h4⟩)
        replace HC := HC.trans h4
        try replace Q6 := Q6.ext h4
        try replace Q13 := Q13.ext h4
        try replace Q15 := Q15.ext h4
        clear h4
        refine onQ_in HC ?_
        refine z_one 12 rfl (by kernel_rfl) ?_
        simp only [zgA, zgB, zgC]
        go_wp2_with (go_at_call 134; (with_reducible refine Calls.mono (N4 _) ?_); rintro e wa ⟨rfl, h4⟩)
        replace HC := HC.trans h4
        try replace Q6 := Q6.ext h4
        try replace Q13 := Q13.ext h4
        try replace Q15 := Q15.ext h4
        clear h4
        refine onQ_in HC ?_
        refine z_one 13 rfl (by kernel_rfl) ?_
        simp only [zgA, zgB, zgC]
        go_wp2
        obtain ⟨b13, wb, hbq, hwb, Q13, HC', hx, hgeb13⟩ := ex_new2 HC 183 #[.int .u64 (a.d.natAbs : Int), .int .u64 (b.n.natAbs : Int)]
        rw [← hbq, ← hwb]
        clear hbq hwb
        replace HC := HC'
        clear HC'
        try replace Q6 := Q6.ext hx
        try replace Q15 := Q15.ext hx
        clear hx
        refine onQ_in HC ?_
        refine z_stills (g := 1) [14] [_] ⟨rfl, trivial⟩ (by kernel_rfl) (by kernel_rfl) HC ?_
        simp only [zgA, zgB, zgC]
        apply Exists.intro
        refine ⟨fun u hu => ?_, ?_⟩
        ·obtain ⟨k0, k1⟩ := (HA.ext hu).c2
         have lk := (HA.ext hu).lt
         obtain ⟨p0, p1⟩ := (HB.ext hu).c2
         have lp := (HB.ext hu).lt
         repeat (first | go_big_quiet_skip | (go_big_quiet_want; go_big_quiet_op; go_big_quiet_on))
         refine wpQuiet_nil ?_
         rfl
        refine z_end 16 rfl (by kernel_rfl) ?_
        simp only [zgA, zgB, zgC]
        have z0 := Q15.frozen 0
        have z1 := Q15.frozen 1
        obtain ⟨x0, x1⟩ := Q15.c2
        have lx := Q15.lt
        have n6 : b6 ≠ b15 := fun e => not_two (e ▸ Q6) Q15
        have n13 : b13 ≠ b15 := fun e => not_two (e ▸ Q13) Q15
        have S15 := held_two Q15 (.slice (some ⟨b6, 0, none⟩) 2 2) (.slice (some ⟨b13, 0, none⟩) 2 2)
        have S6 := held_oth (held_oth Q6 n6 0 (.slice (some ⟨b6, 0, none⟩) 2 2)) n6 1 (.slice (some ⟨b13, 0, none⟩) 2 2)
        have S13 := held_oth (held_oth Q13 n13 0 (.slice (some ⟨b6, 0, none⟩) 2 2)) n13 1 (.slice (some ⟨b13, 0, none⟩) 2 2)
        have HE2 := (HC.setCell (p := ⟨b15, 0, none⟩) hgeb15 (.slice (some ⟨b6, 0, none⟩) 2 2)).setCell (p := ⟨b15, 1, none⟩) hgeb15 (.slice (some ⟨b13, 0, none⟩) 2 2)
        go_wp2
        refine onQ_last ?_
        refine z_done (by kernel_rfl) ?_
        exact cut3y_is b6 b13 b15 ⟨HE2, S6, S13, S15⟩ rfl
      ·simp only [zgA, zgB, zgC]
       go_wp2_with (go_at_call 134; (with_reducible refine Calls.mono (N3 _) ?_); rintro e wa ⟨rfl, h4⟩)
       replace HC := HC.trans h4
       try replace Q6 := Q6.ext h4
       try replace Q13 := Q13.ext h4
       try replace Q15 := Q15.ext h4
       clear h4
       refine onQ_in HC ?_
       refine z_three 6 12 15 rfl rfl rfl (by kernel_rfl) ?_ ?_ ?_
       ·simp only [zgA, zgB, zgC]
        go_wp2
        obtain ⟨b6, wb, hbq, hwb, Q6, HC', hx, hgeb6⟩ := ex_new2 HC 183 #[.int .u64 (a.n.natAbs : Int), .int .u64 (b.d.natAbs : Int)]
        rw [← hbq, ← hwb]
        clear hbq hwb
        replace HC := HC'
        clear HC'
        try replace Q13 := Q13.ext hx
        try replace Q15 := Q15.ext hx
        clear hx
        refine onQ_in HC ?_
        refine z_two 12 15 rfl rfl (by kernel_rfl) ?_ ?_
        ·simp only [zgA, zgB, zgC]
         go_wp2_with (go_at_call 134; (with_reducible refine Calls.mono (N4 _) ?_); rintro e wa ⟨rfl, h4⟩)
         replace HC := HC.trans h4
         try replace Q6 := Q6.ext h4
         try replace Q13 := Q13.ext h4
         try replace Q15 := Q15.ext h4
         clear h4
         refine onQ_in HC ?_
         refine z_two 13 15 rfl rfl (by kernel_rfl) ?_ ?_
         ·simp only [zgA, zgB, zgC]
          go_wp2
          obtain ⟨b13, wb, hbq, hwb, Q13, HC', hx, hgeb13⟩ := ex_new2 HC 183 #[.int .u64 (a.d.natAbs : Int), .int .u64 (b.n.natAbs : Int)]
          rw [← hbq, ← hwb]
          clear hbq hwb
          replace HC := HC'
          clear HC'
          try replace Q6 := Q6.ext hx
          try replace Q15 := Q15.ext hx
          clear hx
          refine onQ_in HC ?_
          refine z_stills (g := 2) [14] [_] ⟨rfl, trivial⟩ (by kernel_rfl) (by kernel_rfl) HC ?_
          simp only [zgA, zgB, zgC]
          apply Exists.intro
          refine ⟨fun u hu => ?_, ?_⟩
          ·obtain ⟨k0, k1⟩ := (HA.ext hu).c2
           have lk := (HA.ext hu).lt
           obtain ⟨p0, p1⟩ := (HB.ext hu).c2
           have lp := (HB.ext hu).lt
           repeat (first | go_big_quiet_skip | (go_big_quiet_want; go_big_quiet_op; go_big_quiet_on))
           refine wpQuiet_nil ?_
           rfl
          refine z_one 15 rfl (by kernel_rfl) ?_
          simp only [zgA, zgB, zgC]
          go_wp2
          obtain ⟨b15, wb, hbq, hwb, Q15, HC', hx, hgeb15⟩ := ex_new2 HC 188 #[.slice none 0 0, .slice none 0 0]
          rw [← hbq, ← hwb]
          clear hbq hwb
          replace HC := HC'
          clear HC'
          try replace Q6 := Q6.ext hx
          try replace Q13 := Q13.ext hx
          clear hx
          refine onQ_in HC ?_
          refine z_end 16 rfl (by kernel_rfl) ?_
          simp only [zgA, zgB, zgC]
          have z0 := Q15.frozen 0
          have z1 := Q15.frozen 1
          obtain ⟨x0, x1⟩ := Q15.c2
          have lx := Q15.lt
          have n6 : b6 ≠ b15 := fun e => not_two (e ▸ Q6) Q15
          have n13 : b13 ≠ b15 := fun e => not_two (e ▸ Q13) Q15
          have S15 := held_two Q15 (.slice (some ⟨b6, 0, none⟩) 2 2) (.slice (some ⟨b13, 0, none⟩) 2 2)
          have S6 := held_oth (held_oth Q6 n6 0 (.slice (some ⟨b6, 0, none⟩) 2 2)) n6 1 (.slice (some ⟨b13, 0, none⟩) 2 2)
          have S13 := held_oth (held_oth Q13 n13 0 (.slice (some ⟨b6, 0, none⟩) 2 2)) n13 1 (.slice (some ⟨b13, 0, none⟩) 2 2)
          have HE2 := (HC.setCell (p := ⟨b15, 0, none⟩) hgeb15 (.slice (some ⟨b6, 0, none⟩) 2 2)).setCell (p := ⟨b15, 1, none⟩) hgeb15 (.slice (some ⟨b13, 0, none⟩) 2 2)
          go_wp2
          refine onQ_last ?_
          refine z_done (by kernel_rfl) ?_
          exact cut3y_is b6 b13 b15 ⟨HE2, S6, S13, S15⟩ rfl
         ·simp only [zgA, zgB, zgC]
          go_wp2
          obtain ⟨b15, wb, hbq, hwb, Q15, HC', hx, hgeb15⟩ := ex_new2 HC 188 #[.slice none 0 0, .slice none 0 0]
          rw [← hbq, ← hwb]
          clear hbq hwb
          replace HC := HC'
          clear HC'
          try replace Q6 := Q6.ext hx
          try replace Q13 := Q13.ext hx
          clear hx
          refine onQ_in HC ?_
          refine z_one 13 rfl (by kernel_rfl) ?_
          simp only [zgA, zgB, zgC]
          go_wp2
          obtain ⟨b13, wb, hbq, hwb, Q13, HC', hx, hgeb13⟩ := ex_new2 HC 183 #[.int .u64 (a.d.natAbs : Int), .int .u64 (b.n.natAbs : Int)]
          rw [← hbq, ← hwb]
          clear hbq hwb
          replace HC := HC'
          clear HC'
          try replace Q6 := Q6.ext hx
          try replace Q15 := Q15.ext hx
          clear hx
          refine onQ_in HC ?_
          refine z_stills (g := 1) [14] [_] ⟨rfl, trivial⟩ (by kernel_rfl) (by kernel_rfl) HC ?_
          simp only [zgA, zgB, zgC]
          apply Exists.intro
          refine ⟨fun u hu => ?_, ?_⟩
          ·obtain ⟨k0, k1⟩ := (HA.ext hu).c2
           have lk := (HA.ext hu).lt
           obtain ⟨p0, p1⟩ := (HB.ext hu).c2
           have lp := (HB.ext hu).lt
           repeat (first | go_big_quiet_skip | (go_big_quiet_want; go_big_quiet_op; go_big_quiet_on))
           refine wpQuiet_nil ?_
           rfl
          refine z_end 16 rfl (by kernel_rfl) ?_
          simp only [zgA, zgB, zgC]
          have z0 := Q15.frozen 0
          have z1 := Q15.frozen 1
          obtain ⟨x0, x1⟩ := Q15.c2
          have lx := Q15.lt
          have n6 : b6 ≠ b15 := fun e => not_two (e ▸ Q6) Q15
          have n13 : b13 ≠ b15 := fun e => not_two (e ▸ Q13) Q15
          have S15 := held_two Q15 (.slice (some ⟨b6, 0, none⟩) 2 2) (.slice (some ⟨b13, 0, none⟩) 2 2)
          have S6 := held_oth (held_oth Q6 n6 0 (.slice (some ⟨b6, 0, none⟩) 2 2)) n6 1 (.slice (some ⟨b13, 0, none⟩) 2 2)
          have S13 := held_oth (held_oth Q13 n13 0 (.slice (some ⟨b6, 0, none⟩) 2 2)) n13 1 (.slice (some ⟨b13, 0, none⟩) 2 2)
          have HE2 := (HC.setCell (p := ⟨b15, 0, none⟩) hgeb15 (.slice (some ⟨b6, 0, none⟩) 2 2)).setCell (p := ⟨b15, 1, none⟩) hgeb15 (.slice (some ⟨b13, 0, none⟩) 2 2)
          go_wp2
          refine onQ_last ?_
          refine z_done (by kernel_rfl) ?_
          exact cut3y_is b6 b13 b15 ⟨HE2, S6, S13, S15⟩ rfl
        ·simp only [zgA, zgB, zgC]
         go_wp2
         obtain ⟨b15, wb, hbq, hwb, Q15, HC', hx, hgeb15⟩ := ex_new2 HC 188 #[.slice none 0 0, .slice none 0 0]
         rw [← hbq, ← hwb]
         clear hbq hwb
         replace HC := HC'
         clear HC'
         try replace Q6 := Q6.ext hx
         try replace Q13 := Q13.ext hx
         clear hx
         refine onQ_in HC ?_
         refine z_one 12 rfl (by kernel_rfl) ?_
         simp only [zgA, zgB, zgC]
         go_wp2_with (go_at_call 134; (with_reducible refine Calls.mono (N4 _) ?_); rintro e wa ⟨rfl, h4⟩)
         replace HC := HC.trans h4
         try replace Q6 := Q6.ext h4
         try replace Q13 := Q13.ext h4
         try replace Q15 := Q15.ext h4
         clear h4
         refine onQ_in HC ?_
         refine z_one 13 rfl (by kernel_rfl) ?_
         simp only [zgA, zgB, zgC]
         go_wp2
         obtain ⟨b13, wb, hbq, hwb, Q13, HC', hx, hgeb13⟩ := ex_new2 HC 183 #[.int .u64 (a.d.natAbs : Int), .int .u64 (b.n.natAbs : Int)]
         rw [← hbq, ← hwb]
         clear hbq hwb
         replace HC := HC'
         clear HC'
         try replace Q6 := Q6.ext hx
         try replace Q15 := Q15.ext hx
         clear hx
         refine onQ_in HC ?_
         refine z_stills (g := 1) [14] [_] ⟨rfl, trivial⟩ (by kernel_rfl) (by kernel_rfl) HC ?_
         simp only [zgA, zgB, zgC]
         apply Exists.intro
         refine ⟨fun u hu => ?_, ?_⟩
         ·obtain ⟨k0, k1⟩ := (HA.ext hu).c2
          have lk := (HA.ext hu).lt
          obtain ⟨p0, p1⟩ := (HB.ext hu).c2
          have lp := (HB.ext hu).lt
          repeat (first | go_big_quiet_skip | (go_big_quiet_want; go_big_quiet_op; go_big_quiet_on))
          refine wpQuiet_nil ?_
          rfl
         refine z_end 16 rfl (by kernel_rfl) ?_
         simp only [zgA, zgB, zgC]
         have z0 := Q15.frozen 0
         have z1 := Q15.frozen 1
         obtain ⟨x0, x1⟩ := Q15.c2
         have lx := Q15.lt
         have n6 : b6 ≠ b15 := fun e => not_two (e ▸ Q6) Q15
         have n13 : b13 ≠ b15 := fun e => not_two (e ▸ Q13) Q15
         have S15 := held_two Q15 (.slice (some ⟨b6, 0, none⟩) 2 2) (.slice (some ⟨b13, 0, none⟩) 2 2)
         have S6 := held_oth (held_oth Q6 n6 0 (.slice (some ⟨b6, 0, none⟩) 2 2)) n6 1 (.slice (some ⟨b13, 0, none⟩) 2 2)
         have S13 := held_oth (held_oth Q13 n13 0 (.slice (some ⟨b6, 0, none⟩) 2 2)) n13 1 (.slice (some ⟨b13, 0, none⟩) 2 2)
         have HE2 := (HC.setCell (p := ⟨b15, 0, none⟩) hgeb15 (.slice (some ⟨b6, 0, none⟩) 2 2)).setCell (p := ⟨b15, 1, none⟩) hgeb15 (.slice (some ⟨b13, 0, none⟩) 2 2)
         go_wp2
         refine onQ_last ?_
         refine z_done (by kernel_rfl) ?_
         exact cut3y_is b6 b13 b15 ⟨HE2, S6, S13, S15⟩ rfl
       ·simp only [zgA, zgB, zgC]
        go_wp2_with (go_at_call 134; (with_reducible refine Calls.mono (N4 _) ?_); rintro e wa ⟨rfl, h4⟩)
        replace HC := HC.trans h4
        try replace Q6 := Q6.ext h4
        try replace Q13 := Q13.ext h4
        try replace Q15 := Q15.ext h4
        clear h4
        refine onQ_in HC ?_
        refine z_three 6 13 15 rfl rfl rfl (by kernel_rfl) ?_ ?_ ?_
        ·simp only [zgA, zgB, zgC]
         go_wp2
         obtain ⟨b6, wb, hbq, hwb, Q6, HC', hx, hgeb6⟩ := ex_new2 HC 183 #[.int .u64 (a.n.natAbs : Int), .int .u64 (b.d.natAbs : Int)]
         rw [← hbq, ← hwb]
         clear hbq hwb
         replace HC := HC'
         clear HC'
         try replace Q13 := Q13.ext hx
         try replace Q15 := Q15.ext hx
         clear hx
         refine onQ_in HC ?_
         refine z_two 13 15 rfl rfl (by kernel_rfl) ?_ ?_
         ·simp only [zgA, zgB, zgC]
          go_wp2
          obtain ⟨b13, wb, hbq, hwb, Q13, HC', hx, hgeb13⟩ := ex_new2 HC 183 #[.int .u64 (a.d.natAbs : Int), .int .u64 (b.n.natAbs : Int)]
          rw [← hbq, ← hwb]
          clear hbq hwb
          replace HC := HC'
          clear HC'
          try replace Q6 := Q6.ext hx
          try replace Q15 := Q15.ext hx
          clear hx
          refine onQ_in HC ?_
          refine z_stills (g := 2) [14] [_] ⟨rfl, trivial⟩ (by kernel_rfl) (by kernel_rfl) HC ?_
          simp only [zgA, zgB, zgC]
          apply Exists.intro
          refine ⟨fun u hu => ?_, ?_⟩
          ·obtain ⟨k0, k1⟩ := (HA.ext hu).c2
           have lk := (HA.ext hu).lt
           obtain ⟨p0, p1⟩ := (HB.ext hu).c2
           have lp := (HB.ext hu).lt
           repeat (first | go_big_quiet_skip | (go_big_quiet_want; go_big_quiet_op; go_big_quiet_on))
           refine wpQuiet_nil ?_
           rfl
          refine z_one 15 rfl (by kernel_rfl) ?_
          simp only [zgA, zgB, zgC]
          go_wp2
          obtain ⟨b15, wb, hbq, hwb, Q15, HC', hx, hgeb15⟩ := ex_new2 HC 188 #[.slice none 0 0, .slice none 0 0]
          rw [← hbq, ← hwb]
          clear hbq hwb
          replace HC := HC'
          clear HC'
          try replace Q6 := Q6.ext hx
          try replace Q13 := Q13.ext hx
          clear hx
          refine onQ_in HC ?_
          refine z_end 16 rfl (by kernel_rfl) ?_
          simp only [zgA, zgB, zgC]
          have z0 := Q15.frozen 0
          have z1 := Q15.frozen 1
          obtain ⟨x0, x1⟩ := Q15.c2
          have lx := Q15.lt
          have n6 : b6 ≠ b15 := fun e => not_two (e ▸ Q6) Q15
          have n13 : b13 ≠ b15 := fun e => not_two (e ▸ Q13) Q15
          have S15 := held_two Q15 (.slice (some ⟨b6, 0, none⟩) 2 2) (.slice (some ⟨b13, 0, none⟩) 2 2)
          have S6 := held_oth (held_oth Q6 n6 0 (.slice (some ⟨b6, 0, none⟩) 2 2)) n6 1 (.slice (some ⟨b13, 0, none⟩) 2 2)
          have S13 := held_oth (held_oth Q13 n13 0 (.slice (some ⟨b6, 0, none⟩) 2 2)) n13 1 (.slice (some ⟨b13, 0, none⟩) 2 2)
          have HE2 := (HC.setCell (p := ⟨b15, 0, none⟩) hgeb15 (.slice (some ⟨b6, 0, none⟩) 2 2)).setCell (p := ⟨b15, 1, none⟩) hgeb15 (.slice (some ⟨b13, 0, none⟩) 2 2)
          go_wp2
          refine onQ_last ?_
          refine z_done (by kernel_rfl) ?_
          exact cut3y_is b6 b13 b15 ⟨HE2, S6, S13, S15⟩ rfl
         ·simp only [zgA, zgB, zgC]
          go_wp2
          obtain ⟨b15, wb, hbq, hwb, Q15, HC', hx, hgeb15⟩ := ex_new2 HC 188 #[.slice none 0 0, .slice none 0 0]
          rw [← hbq, ← hwb]
          clear hbq hwb
          replace HC := HC'
          clear HC'
          try replace Q6 := Q6.ext hx
          try replace Q13 := Q13.ext hx
          clear hx
          refine onQ_in HC ?_
          refine z_one 13 rfl (by kernel_rfl) ?_
          simp only [zgA, zgB, zgC]
          go_wp2
          obtain ⟨b13, wb, hbq, hwb, Q13, HC', hx, hgeb13⟩ := ex_new2 HC 183 #[.int .u64 (a.d.natAbs : Int), .int .u64 (b.n.natAbs : Int)]
          rw [← hbq, ← hwb]
          clear hbq hwb
          replace HC := HC'
          clear HC'
          try replace Q6 := Q6.ext hx
          try replace Q15 := Q15.ext hx
          clear hx
          refine onQ_in HC ?_
          refine z_stills (g := 1) [14] [_] ⟨rfl, trivial⟩ (by kernel_rfl) (by kernel_rfl) HC ?_
          simp only [zgA, zgB, zgC]
          apply Exists.intro
          refine ⟨fun u hu => ?_, ?_⟩
          ·obtain ⟨k0, k1⟩ := (HA.ext hu).c2
           have lk := (HA.ext hu).lt
           obtain ⟨p0, p1⟩ := (HB.ext hu).c2
           have lp := (HB.ext hu).lt
           repeat (first | go_big_quiet_skip | (go_big_quiet_want; go_big_quiet_op; go_big_quiet_on))
           refine wpQuiet_nil ?_
           rfl
          refine z_end 16 rfl (by kernel_rfl) ?_
          simp only [zgA, zgB, zgC]
          have z0 := Q15.frozen 0
          have z1 := Q15.frozen 1
          obtain ⟨x0, x1⟩ := Q15.c2
          have lx := Q15.lt
          have n6 : b6 ≠ b15 := fun e => not_two (e ▸ Q6) Q15
          have n13 : b13 ≠ b15 := fun e => not_two (e ▸ Q13) Q15
          have S15 := held_two Q15 (.slice (some ⟨b6, 0, none⟩) 2 2) (.slice (some ⟨b13, 0, none⟩) 2 2)
          have S6 := held_oth (held_oth Q6 n6 0 (.slice (some ⟨b6, 0, none⟩) 2 2)) n6 1 (.slice (some ⟨b13, 0, none⟩) 2 2)
          have S13 := held_oth (held_oth Q13 n13 0 (.slice (some ⟨b6, 0, none⟩) 2 2)) n13 1 (.slice (some ⟨b13, 0, none⟩) 2 2)
          have HE2 := (HC.setCell (p := ⟨b15, 0, none⟩) hgeb15 (.slice (some ⟨b6, 0, none⟩) 2 2)).setCell (p := ⟨b15, 1, none⟩) hgeb15 (.slice (some ⟨b13, 0, none⟩) 2 2)
          go_wp2
          refine onQ_last ?_
          refine z_done (by kernel_rfl) ?_
          exact cut3y_is b6 b13 b15 ⟨HE2, S6, S13, S15⟩ rfl
        ·simp only [zgA, zgB, zgC]
         go_wp2
         obtain ⟨b13, wb, hbq, hwb, Q13, HC', hx, hgeb13⟩ := ex_new2 HC 183 #[.int .u64 (a.d.natAbs : Int), .int .u64 (b.n.natAbs : Int)]
         rw [← hbq, ← hwb]
         clear hbq hwb
         replace HC := HC'
         clear HC'
         try replace Q6 := Q6.ext hx
         try replace Q15 := Q15.ext hx
         clear hx
         refine onQ_in HC ?_
         refine z_two 6 15 rfl rfl (by kernel_rfl) ?_ ?_
         ·simp only [zgA, zgB, zgC]
          go_wp2
          obtain ⟨b6, wb, hbq, hwb, Q6, HC', hx, hgeb6⟩ := ex_new2 HC 183 #[.int .u64 (a.n.natAbs : Int), .int .u64 (b.d.natAbs : Int)]
          rw [← hbq, ← hwb]
          clear hbq hwb
          replace HC := HC'
          clear HC'
          try replace Q13 := Q13.ext hx
          try replace Q15 := Q15.ext hx
          clear hx
          refine onQ_in HC ?_
          refine z_stills (g := 2) [14] [_] ⟨rfl, trivial⟩ (by kernel_rfl) (by kernel_rfl) HC ?_
          simp only [zgA, zgB, zgC]
          apply Exists.intro
          refine ⟨fun u hu => ?_, ?_⟩
          ·obtain ⟨k0, k1⟩ := (HA.ext hu).c2
           have lk := (HA.ext hu).lt
           obtain ⟨p0, p1⟩ := (HB.ext hu).c2
           have lp := (HB.ext hu).lt
           repeat (first | go_big_quiet_skip | (go_big_quiet_want; go_big_quiet_op; go_big_quiet_on))
           refine wpQuiet_nil ?_
           rfl
          refine z_one 15 rfl (by kernel_rfl) ?_
          simp only [zgA, zgB, zgC]
          go_wp2
          obtain ⟨b15, wb, hbq, hwb, Q15, HC', hx, hgeb15⟩ := ex_new2 HC 188 #[.slice none 0 0, .slice none 0 0]
          rw [← hbq, ← hwb]
          clear hbq hwb
          replace HC := HC'
          clear HC'
          try replace Q6 := Q6.ext hx
          try replace Q13 := Q13.ext hx
          clear hx
          refine onQ_in HC ?_
          refine z_end 16 rfl (by kernel_rfl) ?_
          simp only [zgA, zgB, zgC]
          have z0 := Q15.frozen 0
          have z1 := Q15.frozen 1
          obtain ⟨x0, x1⟩ := Q15.c2
          have lx := Q15.lt
          have n6 : b6 ≠ b15 := fun e => not_two (e ▸ Q6) Q15
          have n13 : b13 ≠ b15 := fun e => not_two (e ▸ Q13) Q15
          have S15 := held_two Q15 (.slice (some ⟨b6, 0, none⟩) 2 2) (.slice (some ⟨b13, 0, none⟩) 2 2)
          have S6 := held_oth (held_oth Q6 n6 0 (.slice (some ⟨b6, 0, none⟩) 2 2)) n6 1 (.slice (some ⟨b13, 0, none⟩) 2 2)
          have S13 := held_oth (held_oth Q13 n13 0 (.slice (some ⟨b6, 0, none⟩) 2 2)) n13 1 (.slice (some ⟨b13, 0, none⟩) 2 2)
          have HE2 := (HC.setCell (p := ⟨b15, 0, none⟩) hgeb15 (.slice (some ⟨b6, 0, none⟩) 2 2)).setCell (p := ⟨b15, 1, none⟩) hgeb15 (.slice (some ⟨b13, 0, none⟩) 2 2)
          go_wp2
          refine onQ_last ?_
          refine z_done (by kernel_rfl) ?_
          exact cut3y_is b6 b13 b15 ⟨HE2, S6, S13, S15⟩ rfl
         ·simp only [zgA, zgB, zgC]
          go_wp2
          obtain ⟨b15, wb, hbq, hwb, Q15, HC', hx, hgeb15⟩ := ex_new2 HC 188 #[.slice none 0 0, .slice none 0 0]
          rw [← hbq, ← hwb]
          clear hbq hwb
          replace HC := HC'
          clear HC'
          try replace Q6 := Q6.ext hx
          try replace Q13 := Q13.ext hx
          clear hx
          refine onQ_in HC ?_
          refine z_one 6 rfl (by kernel_rfl) ?_
          simp only [zgA, zgB, zgC]
          go_wp2
          obtain ⟨b6, wb, hbq, hwb, Q6, HC', hx, hgeb6⟩ := ex_new2 HC 183 #[.int .u64 (a.n.natAbs : Int), .int .u64 (b.d.natAbs : Int)]
          rw [← hbq, ← hwb]
          clear hbq hwb
          replace HC := HC'
          clear HC'
          try replace Q13 := Q13.ext hx
          try replace Q15 := Q15.ext hx
          clear hx
          refine onQ_in HC ?_
          refine z_stills (g := 1) [14] [_] ⟨rfl, trivial⟩ (by kernel_rfl) (by kernel_rfl) HC ?_
          simp only [zgA, zgB, zgC]
          apply Exists.intro
          refine ⟨fun u hu => ?_, ?_⟩
          ·obtain ⟨k0, k1⟩ := (HA.ext hu).c2
           have lk := (HA.ext hu).lt
           obtain ⟨p0, p1⟩ := (HB.ext hu).c2
           have lp := (HB.ext hu).lt
           repeat (first | go_big_quiet_skip | (go_big_quiet_want; go_big_quiet_op; go_big_quiet_on))
           refine wpQuiet_nil ?_
           rfl
          refine z_end 16 rfl (by kernel_rfl) ?_
          simp only [zgA, zgB, zgC]
          have z0 := Q15.frozen 0
          have z1 := Q15.frozen 1
          obtain ⟨x0, x1⟩ := Q15.c2
          have lx := Q15.lt
          have n6 : b6 ≠ b15 := fun e => not_two (e ▸ Q6) Q15
          have n13 : b13 ≠ b15 := fun e => not_two (e ▸ Q13) Q15
          have S15 := held_two Q15 (.slice (some ⟨b6, 0, none⟩) 2 2) (.slice (some ⟨b13, 0, none⟩) 2 2)
          have S6 := held_oth (held_oth Q6 n6 0 (.slice (some ⟨b6, 0, none⟩) 2 2)) n6 1 (.slice (some ⟨b13, 0, none⟩) 2 2)
          have S13 := held_oth (held_oth Q13 n13 0 (.slice (some ⟨b6, 0, none⟩) 2 2)) n13 1 (.slice (some ⟨b13, 0, none⟩) 2 2)
          have HE2 := (HC.setCell (p := ⟨b15, 0, none⟩) hgeb15 (.slice (some ⟨b6, 0, none⟩) 2 2)).setCell (p := ⟨b15, 1, none⟩) hgeb15 (.slice (some ⟨b13, 0, none⟩) 2 2)
          go_wp2
          refine onQ_last ?_
          refine z_done (by kernel_rfl) ?_
          exact cut3y_is b6 b13 b15 ⟨HE2, S6, S13, S15⟩ rfl
        ·simp only [zgA, zgB, zgC]
         go_wp2
         obtain ⟨b15, wb, hbq, hwb, Q15, HC', hx, hgeb15⟩ := ex_new2 HC 188 #[.slice none 0 0, .slice none 0 0]
         rw [← hbq, ← hwb]
         clear hbq hwb
         replace HC := HC'
         clear HC'
         try replace Q6 := Q6.ext hx
         try replace Q13 := Q13.ext hx
         clear hx
         refine onQ_in HC ?_
         refine z_two 6 13 rfl rfl (by kernel_rfl) ?_ ?_
         ·simp only [zgA, zgB, zgC]
          go_wp2
          obtain ⟨b6, wb, hbq, hwb, Q6, HC', hx, hgeb6⟩ := ex_new2 HC 183 #[.int .u64 (a.n.natAbs : Int), .int .u64 (b.d.natAbs : Int)]
          rw [← hbq, ← hwb]
          clear hbq hwb
          replace HC := HC'
          clear HC'
          try replace Q13 := Q13.ext hx
          try replace Q15 := Q15.ext hx
          clear hx
          refine onQ_in HC ?_
          refine z_one 13 rfl (by kernel_rfl) ?_
          simp only [zgA, zgB, zgC]
          go_wp2
          obtain ⟨b13, wb, hbq, hwb, Q13, HC', hx, hgeb13⟩ := ex_new2 HC 183 #[.int .u64 (a.d.natAbs : Int), .int .u64 (b.n.natAbs : Int)]
          rw [← hbq, ← hwb]
          clear hbq hwb
          replace HC := HC'
          clear HC'
          try replace Q6 := Q6.ext hx
          try replace Q15 := Q15.ext hx
          clear hx
          refine onQ_in HC ?_
          refine z_stills (g := 1) [14] [_] ⟨rfl, trivial⟩ (by kernel_rfl) (by kernel_rfl) HC ?_
          simp only [zgA, zgB, zgC]
          apply Exists.intro
          refine ⟨fun u hu => ?_, ?_⟩
          ·obtain ⟨k0, k1⟩ := (HA.ext hu).c2
           have lk := (HA.ext hu).lt
           obtain ⟨p0, p1⟩ := (HB.ext hu).c2
           have lp := (HB.ext hu).lt
           repeat (first | go_big_quiet_skip | (go_big_quiet_want; go_big_quiet_op; go_big_quiet_on))
           refine wpQuiet_nil ?_
           rfl
          refine z_end 16 rfl (by kernel_rfl) ?_
          simp only [zgA, zgB, zgC]
          have z0 := Q15.frozen 0
          have z1 := Q15.frozen 1
          obtain ⟨x0, x1⟩ := Q15.c2
          have lx := Q15.lt
          have n6 : b6 ≠ b15 := fun e => not_two (e ▸ Q6) Q15
          have n13 : b13 ≠ b15 := fun e => not_two (e ▸ Q13) Q15
          have S15 := held_two Q15 (.slice (some ⟨b6, 0, none⟩) 2 2) (.slice (some ⟨b13, 0, none⟩) 2 2)
          have S6 := held_oth (held_oth Q6 n6 0 (.slice (some ⟨b6, 0, none⟩) 2 2)) n6 1 (.slice (some ⟨b13, 0, none⟩) 2 2)
          have S13 := held_oth (held_oth Q13 n13 0 (.slice (some ⟨b6, 0, none⟩) 2 2)) n13 1 (.slice (some ⟨b13, 0, none⟩) 2 2)
          have HE2 := (HC.setCell (p := ⟨b15, 0, none⟩) hgeb15 (.slice (some ⟨b6, 0, none⟩) 2 2)).setCell (p := ⟨b15, 1, none⟩) hgeb15 (.slice (some ⟨b13, 0, none⟩) 2 2)
          go_wp2
          refine onQ_last ?_
          refine z_done (by kernel_rfl) ?_
          exact cut3y_is b6 b13 b15 ⟨HE2, S6, S13, S15⟩ rfl
         ·simp only [zgA, zgB, zgC]
          go_wp2
          obtain ⟨b13, wb, hbq, hwb, Q13, HC', hx, hgeb13⟩ := ex_new2 HC 183 #[.int .u64 (a.d.natAbs : Int), .int .u64 (b.n.natAbs : Int)]
          rw [← hbq, ← hwb]
          clear hbq hwb
          replace HC := HC'
          clear HC'
          try replace Q6 := Q6.ext hx
          try replace Q15 := Q15.ext hx
          clear hx
          refine onQ_in HC ?_
          refine z_one 6 rfl (by kernel_rfl) ?_
          simp only [zgA, zgB, zgC]
          go_wp2
          obtain ⟨b6, wb, hbq, hwb, Q6, HC', hx, hgeb6⟩ := ex_new2 HC 183 #[.int .u64 (a.n.natAbs : Int), .int .u64 (b.d.natAbs : Int)]
          rw [← hbq, ← hwb]
          clear hbq hwb
          replace HC := HC'
          clear HC'
          try replace Q13 := Q13.ext hx
          try replace Q15 := Q15.ext hx
          clear hx
          refine onQ_in HC ?_
          refine z_stills (g := 1) [14] [_] ⟨rfl, trivial⟩ (by kernel_rfl) (by kernel_rfl) HC ?_
          simp only [zgA, zgB, zgC]
          apply Exists.intro
          refine ⟨fun u hu => ?_, ?_⟩
          ·obtain ⟨k0, k1⟩ := (HA.ext hu).c2
           have lk := (HA.ext hu).lt
           obtain ⟨p0, p1⟩ := (HB.ext hu).c2
           have lp := (HB.ext hu).lt
           repeat (first | go_big_quiet_skip | (go_big_quiet_want; go_big_quiet_op; go_big_quiet_on))
           refine wpQuiet_nil ?_
           rfl
          refine z_end 16 rfl (by kernel_rfl) ?_
          simp only [zgA, zgB, zgC]
          have z0 := Q15.frozen 0
          have z1 := Q15.frozen 1
          obtain ⟨x0, x1⟩ := Q15.c2
          have lx := Q15.lt
          have n6 : b6 ≠ b15 := fun e => not_two (e ▸ Q6) Q15
          have n13 : b13 ≠ b15 := fun e => not_two (e ▸ Q13) Q15
          have S15 := held_two Q15 (.slice (some ⟨b6, 0, none⟩) 2 2) (.slice (some ⟨b13, 0, none⟩) 2 2)
          have S6 := held_oth (held_oth Q6 n6 0 (.slice (some ⟨b6, 0, none⟩) 2 2)) n6 1 (.slice (some ⟨b13, 0, none⟩) 2 2)
          have S13 := held_oth (held_oth Q13 n13 0 (.slice (some ⟨b6, 0, none⟩) 2 2)) n13 1 (.slice (some ⟨b13, 0, none⟩) 2 2)
          have HE2 := (HC.setCell (p := ⟨b15, 0, none⟩) hgeb15 (.slice (some ⟨b6, 0, none⟩) 2 2)).setCell (p := ⟨b15, 1, none⟩) hgeb15 (.slice (some ⟨b13, 0, none⟩) 2 2)
          go_wp2
          refine onQ_last ?_
          refine z_done (by kernel_rfl) ?_
          exact cut3y_is b6 b13 b15 ⟨HE2, S6, S13, S15⟩ rfl
       ·simp only [zgA, zgB, zgC]
        go_wp2
        obtain ⟨b15, wb, hbq, hwb, Q15, HC', hx, hgeb15⟩ := ex_new2 HC 188 #[.slice none 0 0, .slice none 0 0]
        rw [← hbq, ← hwb]
        clear hbq hwb
        replace HC := HC'
        clear HC'
        try replace Q6 := Q6.ext hx
        try replace Q13 := Q13.ext hx
        clear hx
        refine onQ_in HC ?_
        refine z_two 6 12 rfl rfl (by kernel_rfl) ?_ ?_
        ·simp only [zgA, zgB, zgC]
         go_wp2
         obtain ⟨b6, wb, hbq, hwb, Q6, HC', hx, hgeb6⟩ := ex_new2 HC 183 #[.int .u64 (a.n.natAbs : Int), .int .u64 (b.d.natAbs : Int)]
         rw [← hbq, ← hwb]
         clear hbq hwb
         replace HC := HC'
         clear HC'
         try replace Q13 := Q13.ext hx
         try replace Q15 := Q15.ext hx
         clear hx
         refine onQ_in HC ?_
         refine z_one 12 rfl (by kernel_rfl) ?_
         simp only [zgA, zgB, zgC]
         go_wp2_with (go_at_call 134; (with_reducible refine Calls.mono (N4 _) ?_); rintro e wa ⟨rfl, h4⟩)
         replace HC := HC.trans h4
         try replace Q6 := Q6.ext h4
         try replace Q13 := Q13.ext h4
         try replace Q15 := Q15.ext h4
         clear h4
         refine onQ_in HC ?_
         refine z_one 13 rfl (by kernel_rfl) ?_
         simp only [zgA, zgB, zgC]
         go_wp2
         obtain ⟨b13, wb, hbq, hwb, Q13, HC', hx, hgeb13⟩ := ex_new2 HC 183 #[.int .u64 (a.d.natAbs : Int), .int .u64 (b.n.natAbs : Int)]
         rw [← hbq, ← hwb]
         clear hbq hwb
         replace HC := HC'
         clear HC'
         try replace Q6 := Q6.ext hx
         try replace Q15 := Q15.ext hx
         clear hx
         refine onQ_in HC ?_
         refine z_stills (g := 1) [14] [_] ⟨rfl, trivial⟩ (by kernel_rfl) (by kernel_rfl) HC ?_
         simp only [zgA, zgB, zgC]
         apply Exists.intro
         refine ⟨fun u hu => ?_, ?_⟩
         ·obtain ⟨k0, k1⟩ := (HA.ext hu).c2
          have lk := (HA.ext hu).lt
          obtain ⟨p0, p1⟩ := (HB.ext hu).c2
          have lp := (HB.ext hu).lt
          repeat (first | go_big_quiet_skip | (go_big_quiet_want; go_big_quiet_op; go_big_quiet_on))
          refine wpQuiet_nil ?_
          rfl
         refine z_end 16 rfl (by kernel_rfl) ?_
         simp only [zgA, zgB, zgC]
         have z0 := Q15.frozen 0
         have z1 := Q15.frozen 1
         obtain ⟨x0, x1⟩ := Q15.c2
         have lx := Q15.lt
         have n6 : b6 ≠ b15 := fun e => not_two (e ▸ Q6) Q15
         have n13 : b13 ≠ b15 := fun e => not_two (e ▸ Q13) Q15
         have S15 := held_two Q15 (.slice (some ⟨b6, 0, none⟩) 2 2) (.slice (some ⟨b13, 0, none⟩) 2 2)
         have S6 := held_oth (held_oth Q6 n6 0 (.slice (some ⟨b6, 0, none⟩) 2 2)) n6 1 (.slice (some ⟨b13, 0, none⟩) 2 2)
         have S13 := held_oth (held_oth Q13 n13 0 (.slice (some ⟨b6, 0, none⟩) 2 2)) n13 1 (.slice (some ⟨b13, 0, none⟩) 2 2)
         have HE2 := (HC.setCell (p := ⟨b15, 0, none⟩) hgeb15 (.slice (some ⟨b6, 0, none⟩) 2 2)).setCell (p := ⟨b15, 1, none⟩) hgeb15 (.slice (some ⟨b13, 0, none⟩) 2 2)
         go_wp2
         refine onQ_last ?_
         refine z_done (by kernel_rfl) ?_
         exact cut3y_is b6 b13 b15 ⟨HE2, S6, S13, S15⟩ rfl
        ·simp only [zgA, zgB, zgC]
         go_wp2_with (go_at_call 134; (with_reducible refine Calls.mono (N4 _) ?_); rintro e wa ⟨rfl, h4⟩)
         replace HC := HC.trans h4
         try replace Q6 := Q6.ext h4
         try replace Q13 := Q13.ext h4
         try replace Q15 := Q15.ext h4
         clear h4
         refine onQ_in HC ?_
         refine z_two 6 13 rfl rfl (by kernel_rfl) ?_ ?_
         ·simp only [zgA, zgB, zgC]
          go_wp2
          obtain ⟨b6, wb, hbq, hwb, Q6, HC', hx, hgeb6⟩ := ex_new2 HC 183 #[.int .u64 (a.n.natAbs : Int), .int .u64 (b.d.natAbs : Int)]
          rw [← hbq, ← hwb]
          clear hbq hwb
          replace HC := HC'
          clear HC'
          try replace Q13 := Q13.ext hx
          try replace Q15 := Q15.ext hx
          clear hx
          refine onQ_in HC ?_
          refine z_one 13 rfl (by kernel_rfl) ?_
          simp only [zgA, zgB, zgC]
          go_wp2
          obtain ⟨b13, wb, hbq, hwb, Q13, HC', hx, hgeb13⟩ := ex_new2 HC 183 #[.int .u64 (a.d.natAbs : Int), .int .u64 (b.n.natAbs : Int)]
          rw [← hbq, ← hwb]
          clear hbq hwb
          replace HC := HC'
          clear HC'
          try replace Q6 := Q6.ext hx
          try replace Q15 := Q15.ext hx
          clear hx
          refine onQ_in HC ?_
          refine z_stills (g := 1) [14] [_] ⟨rfl, trivial⟩ (by kernel_rfl) (by kernel_rfl) HC ?_
          simp only [zgA, zgB, zgC]
          apply Exists.intro
          refine ⟨fun u hu => ?_, ?_⟩
          ·obtain ⟨k0, k1⟩ := (HA.ext hu).c2
           have lk := (HA.ext hu).lt
           obtain ⟨p0, p1⟩ := (HB.ext hu).c2
           have lp := (HB.ext hu).lt
           repeat (first | go_big_quiet_skip | (go_big_quiet_want; go_big_quiet_op; go_big_quiet_on))
           refine wpQuiet_nil ?_
           rfl
          refine z_end 16 rfl (by kernel_rfl) ?_
          simp only [zgA, zgB, zgC]
          have z0 := Q15.frozen 0
          have z1 := Q15.frozen 1
          obtain ⟨x0, x1⟩ := Q15.c2
          have lx := Q15.lt
          have n6 : b6 ≠ b15 := fun e => not_two (e ▸ Q6) Q15
          have n13 : b13 ≠ b15 := fun e => not_two (e ▸ Q13) Q15
          have S15 := held_two Q15 (.slice (some ⟨b6, 0, none⟩) 2 2) (.slice (some ⟨b13, 0, none⟩) 2 2)
          have S6 := held_oth (held_oth Q6 n6 0 (.slice (some ⟨b6, 0, none⟩) 2 2)) n6 1 (.slice (some ⟨b13, 0, none⟩) 2 2)
          have S13 := held_oth (held_oth Q13 n13 0 (.slice (some ⟨b6, 0, none⟩) 2 2)) n13 1 (.slice (some ⟨b13, 0, none⟩) 2 2)
          have HE2 := (HC.setCell (p := ⟨b15, 0, none⟩) hgeb15 (.slice (some ⟨b6, 0, none⟩) 2 2)).setCell (p := ⟨b15, 1, none⟩) hgeb15 (.slice (some ⟨b13, 0, none⟩) 2 2)
          go_wp2
          refine onQ_last ?_
          refine z_done (by kernel_rfl) ?_
          exact cut3y_is b6 b13 b15 ⟨HE2, S6, S13, S15⟩ rfl
         ·simp only [zgA, zgB, zgC]
          go_wp2
          obtain ⟨b13, wb, hbq, hwb, Q13, HC', hx, hgeb13⟩ := ex_new2 HC 183 #[.int .u64 (a.d.natAbs : Int), .int .u64 (b.n.natAbs : Int)]
          rw [← hbq, ← hwb]
          clear hbq hwb
          replace HC := HC'
          clear HC'
          try replace Q6 := Q6.ext hx
          try replace Q15 := Q15.ext hx
          clear hx
          refine onQ_in HC ?_
          refine z_one 6 rfl (by kernel_rfl) ?_
          simp only [zgA, zgB, zgC]
          go_wp2
          obtain ⟨b6, wb, hbq, hwb, Q6, HC', hx, hgeb6⟩ := ex_new2 HC 183 #[.int .u64 (a.n.natAbs : Int), .int .u64 (b.d.natAbs : Int)]
          rw [← hbq, ← hwb]
          clear hbq hwb
          replace HC := HC'
          clear HC'
          try replace Q13 := Q13.ext hx
          try replace Q15 := Q15.ext hx
          clear hx
          refine onQ_in HC ?_
          refine z_stills (g := 1) [14] [_] ⟨rfl, trivial⟩ (by kernel_rfl) (by kernel_rfl) HC ?_
          simp only [zgA, zgB, zgC]
          apply Exists.intro
          refine ⟨fun u hu => ?_, ?_⟩
          ·obtain ⟨k0, k1⟩ := (HA.ext hu).c2
           have lk := (HA.ext hu).lt
           obtain ⟨p0, p1⟩ := (HB.ext hu).c2
           have lp := (HB.ext hu).lt
           repeat (first | go_big_quiet_skip | (go_big_quiet_want; go_big_quiet_op; go_big_quiet_on))
           refine wpQuiet_nil ?_
           rfl
          refine z_end 16 rfl (by kernel_rfl) ?_
          simp only [zgA, zgB, zgC]
          have z0 := Q15.frozen 0
          have z1 := Q15.frozen 1
          obtain ⟨x0, x1⟩ := Q15.c2
          have lx := Q15.lt
          have n6 : b6 ≠ b15 := fun e => not_two (e ▸ Q6) Q15
          have n13 : b13 ≠ b15 := fun e => not_two (e ▸ Q13) Q15
          have S15 := held_two Q15 (.slice (some ⟨b6, 0, none⟩) 2 2) (.slice (some ⟨b13, 0, none⟩) 2 2)
          have S6 := held_oth (held_oth Q6 n6 0 (.slice (some ⟨b6, 0, none⟩) 2 2)) n6 1 (.slice (some ⟨b13, 0, none⟩) 2 2)
          have S13 := held_oth (held_oth Q13 n13 0 (.slice (some ⟨b6, 0, none⟩) 2 2)) n13 1 (.slice (some ⟨b13, 0, none⟩) 2 2)
          have HE2 := (HC.setCell (p := ⟨b15, 0, none⟩) hgeb15 (.slice (some ⟨b6, 0, none⟩) 2 2)).setCell (p := ⟨b15, 1, none⟩) hgeb15 (.slice (some ⟨b13, 0, none⟩) 2 2)
          go_wp2
          refine onQ_last ?_
          refine z_done (by kernel_rfl) ?_
          exact cut3y_is b6 b13 b15 ⟨HE2, S6, S13, S15⟩ rfl
      ·simp only [zgA, zgB, zgC]
       go_wp2
       obtain ⟨b15, wb, hbq, hwb, Q15, HC', hx, hgeb15⟩ := ex_new2 HC 188 #[.slice none 0 0, .slice none 0 0]
       rw [← hbq, ← hwb]
       clear hbq hwb
       replace HC := HC'
       clear HC'
       try replace Q6 := Q6.ext hx
       try replace Q13 := Q13.ext hx
       clear hx
       refine onQ_in HC ?_
       refine z_two 6 9 rfl rfl (by kernel_rfl) ?_ ?_
       ·simp only [zgA, zgB, zgC]
        go_wp2
        obtain ⟨b6, wb, hbq, hwb, Q6, HC', hx, hgeb6⟩ := ex_new2 HC 183 #[.int .u64 (a.n.natAbs : Int), .int .u64 (b.d.natAbs : Int)]
        rw [← hbq, ← hwb]
        clear hbq hwb
        replace HC := HC'
        clear HC'
        try replace Q13 := Q13.ext hx
        try replace Q15 := Q15.ext hx
        clear hx
        refine onQ_in HC ?_
        refine z_one 9 rfl (by kernel_rfl) ?_
        simp only [zgA, zgB, zgC]
        go_wp2_with (go_at_call 134; (with_reducible refine Calls.mono (N3 _) ?_); rintro e wa ⟨rfl, h4⟩)
        replace HC := HC.trans h4
        try replace Q6 := Q6.ext h4
        try replace Q13 := Q13.ext h4
        try replace Q15 := Q15.ext h4
        clear h4
        refine onQ_in HC ?_
        refine z_one 12 rfl (by kernel_rfl) ?_
        simp only [zgA, zgB, zgC]
        go_wp2_with (go_at_call 134; (with_reducible refine Calls.mono (N4 _) ?_); rintro e wa ⟨rfl, h4⟩)
        replace HC := HC.trans h4
        try replace Q6 := Q6.ext h4
        try replace Q13 := Q13.ext h4
        try replace Q15 := Q15.ext h4
        clear h4
        refine onQ_in HC ?_
        refine z_one 13 rfl (by kernel_rfl) ?_
        simp only [zgA, zgB, zgC]
        go_wp2
        obtain ⟨b13, wb, hbq, hwb, Q13, HC', hx, hgeb13⟩ := ex_new2 HC 183 #[.int .u64 (a.d.natAbs : Int), .int .u64 (b.n.natAbs : Int)]
        rw [← hbq, ← hwb]
        clear hbq hwb
        replace HC := HC'
        clear HC'
        try replace Q6 := Q6.ext hx
        try replace Q15 := Q15.ext hx
        clear hx
        refine onQ_in HC ?_
        refine z_stills (g := 1) [14] [_] ⟨rfl, trivial⟩ (by kernel_rfl) (by kernel_rfl) HC ?_
        simp only [zgA, zgB, zgC]
        apply Exists.intro
        refine ⟨fun u hu => ?_, ?_⟩
        ·obtain ⟨k0, k1⟩ := (HA.ext hu).c2
         have lk := (HA.ext hu).lt
         obtain ⟨p0, p1⟩ := (HB.ext hu).c2
         have lp := (HB.ext hu).lt
         repeat (first | go_big_quiet_skip | (go_big_quiet_want; go_big_quiet_op; go_big_quiet_on))
         refine wpQuiet_nil ?_
         rfl
        refine z_end 16 rfl (by kernel_rfl) ?_
        simp only [zgA, zgB, zgC]
        have z0 := Q15.frozen 0
        have z1 := Q15.frozen 1
        obtain ⟨x0, x1⟩ := Q15.c2
        have lx := Q15.lt
        have n6 : b6 ≠ b15 := fun e => not_two (e ▸ Q6) Q15
        have n13 : b13 ≠ b15 := fun e => not_two (e ▸ Q13) Q15
        have S15 := held_two Q15 (.slice (some ⟨b6, 0, none⟩) 2 2) (.slice (some ⟨b13, 0, none⟩) 2 2)
        have S6 := held_oth (held_oth Q6 n6 0 (.slice (some ⟨b6, 0, none⟩) 2 2)) n6 1 (.slice (some ⟨b13, 0, none⟩) 2 2)
        have S13 := held_oth (held_oth Q13 n13 0 (.slice (some ⟨b6, 0, none⟩) 2 2)) n13 1 (.slice (some ⟨b13, 0, none⟩) 2 2)
        have HE2 := (HC.setCell (p := ⟨b15, 0, none⟩) hgeb15 (.slice (some ⟨b6, 0, none⟩) 2 2)).setCell (p := ⟨b15, 1, none⟩) hgeb15 (.slice (some ⟨b13, 0, none⟩) 2 2)
        go_wp2
        refine onQ_last ?_
        refine z_done (by kernel_rfl) ?_
        exact cut3y_is b6 b13 b15 ⟨HE2, S6, S13, S15⟩ rfl
       ·simp only [zgA, zgB, zgC]
        go_wp2_with (go_at_call 134; (with_reducible refine Calls.mono (N3 _) ?_); rintro e wa ⟨rfl, h4⟩)
        replace HC := HC.trans h4
        try replace Q6 := Q6.ext h4
        try replace Q13 := Q13.ext h4
        try replace Q15 := Q15.ext h4
        clear h4
        refine onQ_in HC ?_
        refine z_two 6 12 rfl rfl (by kernel_rfl) ?_ ?_
        ·simp only [zgA, zgB, zgC]
         go_wp2
         obtain ⟨b6, wb, hbq, hwb, Q6, HC', hx, hgeb6⟩ := ex_new2 HC 183 #[.int .u64 (a.n.natAbs : Int), .int .u64 (b.d.natAbs : Int)]
         rw [← hbq, ← hwb]
         clear hbq hwb
         replace HC := HC'
         clear HC'
         try replace Q13 := Q13.ext hx
         try replace Q15 := Q15.ext hx
         clear hx
         refine onQ_in HC ?_
         refine z_one 12 rfl (by kernel_rfl) ?_
         simp only [zgA, zgB, zgC]
         go_wp2_with (go_at_call 134; (with_reducible refine Calls.mono (N4 _) ?_); rintro e wa ⟨rfl, h4⟩)
         replace HC := HC.trans h4
         try replace Q6 := Q6.ext h4
         try replace Q13 := Q13.ext h4
         try replace Q15 := Q15.ext h4
         clear h4
         refine onQ_in HC ?_
         refine z_one 13 rfl (by kernel_rfl) ?_
         simp only [zgA, zgB, zgC]
         go_wp2
         obtain ⟨b13, wb, hbq, hwb, Q13, HC', hx, hgeb13⟩ := ex_new2 HC 183 #[.int .u64 (a.d.natAbs : Int), .int .u64 (b.n.natAbs : Int)]
         rw [← hbq, ← hwb]
         clear hbq hwb
         replace HC := HC'
         clear HC'
         try replace Q6 := Q6.ext hx
         try replace Q15 := Q15.ext hx
         clear hx
         refine onQ_in HC ?_
         refine z_stills (g := 1) [14] [_] ⟨rfl, trivial⟩ (by kernel_rfl) (by kernel_rfl) HC ?_
         simp only [zgA, zgB, zgC]
         apply Exists.intro
         refine ⟨fun u hu => ?_, ?_⟩
         ·obtain ⟨k0, k1⟩ := (HA.ext hu).c2
          have lk := (HA.ext hu).lt
          obtain ⟨p0, p1⟩ := (HB.ext hu).c2
          have lp := (HB.ext hu).lt
          repeat (first | go_big_quiet_skip | (go_big_quiet_want; go_big_quiet_op; go_big_quiet_on))
          refine wpQuiet_nil ?_
          rfl
         refine z_end 16 rfl (by kernel_rfl) ?_
         simp only [zgA, zgB, zgC]
         have z0 := Q15.frozen 0
         have z1 := Q15.frozen 1
         obtain ⟨x0, x1⟩ := Q15.c2
         have lx := Q15.lt
         have n6 : b6 ≠ b15 := fun e => not_two (e ▸ Q6) Q15
         have n13 : b13 ≠ b15 := fun e => not_two (e ▸ Q13) Q15
         have S15 := held_two Q15 (.slice (some ⟨b6, 0, none⟩) 2 2) (.slice (some ⟨b13, 0, none⟩) 2 2)
         have S6 := held_oth (held_oth Q6 n6 0 (.slice (some ⟨b6, 0, none⟩) 2 2)) n6 1 (.slice (some ⟨b13, 0, none⟩) 2 2)
         have S13 := held_oth (held_oth Q13 n13 0 (.slice (some ⟨b6, 0, none⟩) 2 2)) n13 1 (.slice (some ⟨b13, 0, none⟩) 2 2)
         have HE2 := (HC.setCell (p := ⟨b15, 0, none⟩) hgeb15 (.slice (some ⟨b6, 0, none⟩) 2 2)).setCell (p := ⟨b15, 1, none⟩) hgeb15 (.slice (some ⟨b13, 0, none⟩) 2 2)
         go_wp2
         refine onQ_last ?_
         refine z_done (by kernel_rfl) ?_
         exact cut3y_is b6 b13 b15 ⟨HE2, S6, S13, S15⟩ rfl
        ·simp only [zgA, zgB, zgC]
         go_wp2_with (go_at_call 134; (with_reducible refine Calls.mono (N4 _) ?_); rintro e wa ⟨rfl, h4⟩)
         replace HC := HC.trans h4
         try replace Q6 := Q6.ext h4
         try replace Q13 := Q13.ext h4
         try replace Q15 := Q15.ext h4
         clear h4
         refine onQ_in HC ?_
         refine z_two 6 13 rfl rfl (by kernel_rfl) ?_ ?_
         ·simp only [zgA, zgB, zgC]
          go_wp2
          obtain ⟨b6, wb, hbq, hwb, Q6, HC', hx, hgeb6⟩ := ex_new2 HC 183 #[.int .u64 (a.n.natAbs : Int), .int .u64 (b.d.natAbs : Int)]
          rw [← hbq, ← hwb]
          clear hbq hwb
          replace HC := HC'
          clear HC'
          try replace Q13 := Q13.ext hx
          try replace Q15 := Q15.ext hx
          clear hx
          refine onQ_in HC ?_
          refine z_one 13 rfl (by kernel_rfl) ?_
          simp only [zgA, zgB, zgC]
          go_wp2
          obtain ⟨b13, wb, hbq, hwb, Q13, HC', hx, hgeb13⟩ := ex_new2 HC 183 #[.int .u64 (a.d.natAbs : Int), .int .u64 (b.n.natAbs : Int)]
          rw [← hbq, ← hwb]
          clear hbq hwb
          replace HC := HC'
          clear HC'
          try replace Q6 := Q6.ext hx
          try replace Q15 := Q15.ext hx
          clear hx
          refine onQ_in HC ?_
          refine z_stills (g := 1) [14] [_] ⟨rfl, trivial⟩ (by kernel_rfl) (by kernel_rfl) HC ?_
          simp only [zgA, zgB, zgC]
          apply Exists.intro
          refine ⟨fun u hu => ?_, ?_⟩
          ·obtain ⟨k0, k1⟩ := (HA.ext hu).c2
           have lk := (HA.ext hu).lt
           obtain ⟨p0, p1⟩ := (HB.ext hu).c2
           have lp := (HB.ext hu).lt
           repeat (first | go_big_quiet_skip | (go_big_quiet_want; go_big_quiet_op; go_big_quiet_on))
           refine wpQuiet_nil ?_
           rfl
          refine z_end 16 rfl (by kernel_rfl) ?_
          simp only [zgA, zgB, zgC]
          have z0 := Q15.frozen 0
          have z1 := Q15.frozen 1
          obtain ⟨x0, x1⟩ := Q15.c2
          have lx := Q15.lt
          have n6 : b6 ≠ b15 := fun e => not_two (e ▸ Q6) Q15
          have n13 : b13 ≠ b15 := fun e => not_two (e ▸ Q13) Q15
          have S15 := held_two Q15 (.slice (some ⟨b6, 0, none⟩) 2 2) (.slice (some ⟨b13, 0, none⟩) 2 2)
          have S6 := held_oth (held_oth Q6 n6 0 (.slice (some ⟨b6, 0, none⟩) 2 2)) n6 1 (.slice (some ⟨b13, 0, none⟩) 2 2)
          have S13 := held_oth (held_oth Q13 n13 0 (.slice (some ⟨b6, 0, none⟩) 2 2)) n13 1 (.slice (some ⟨b13, 0, none⟩) 2 2)
          have HE2 := (HC.setCell (p := ⟨b15, 0, none⟩) hgeb15 (.slice (some ⟨b6, 0, none⟩) 2 2)).setCell (p := ⟨b15, 1, none⟩) hgeb15 (.slice (some ⟨b13, 0, none⟩) 2 2)
          go_wp2
          refine onQ_last ?_
          refine z_done (by kernel_rfl) ?_
          exact cut3y_is b6 b13 b15 ⟨HE2, S6, S13, S15⟩ rfl
         ·simp only [zgA, zgB, zgC]
          go_wp2
          obtain ⟨b13, wb, hbq, hwb, Q13, HC', hx, hgeb13⟩ := ex_new2 HC 183 #[.int .u64 (a.d.natAbs : Int), .int .u64 (b.n.natAbs : Int)]
          rw [← hbq, ← hwb]
          clear hbq hwb
          replace HC := HC'
          clear HC'
          try replace Q6 := Q6.ext hx
          try replace Q15 := Q15.ext hx
          clear hx
          refine onQ_in HC ?_
          refine z_one 6 rfl (by kernel_rfl) ?_
          simp only [zgA, zgB, zgC]
          go_wp2
          obtain ⟨b6, wb, hbq, hwb, Q6, HC', hx, hgeb6⟩ := ex_new2 HC 183 #[.int .u64 (a.n.natAbs : Int), .int .u64 (b.d.natAbs : Int)]
          rw [← hbq, ← hwb]
          clear hbq hwb
          replace HC := HC'
          clear HC'
          try replace Q13 := Q13.ext hx
          try replace Q15 := Q15.ext hx
          clear hx
          refine onQ_in HC ?_
          refine z_stills (g := 1) [14] [_] ⟨rfl, trivial⟩ (by kernel_rfl) (by kernel_rfl) HC ?_
          simp only [zgA, zgB, zgC]
          apply Exists.intro
          refine ⟨fun u hu => ?_, ?_⟩
          ·obtain ⟨k0, k1⟩ := (HA.ext hu).c2
           have lk := (HA.ext hu).lt
           obtain ⟨p0, p1⟩ := (HB.ext hu).c2
           have lp := (HB.ext hu).lt
           repeat (first | go_big_quiet_skip | (go_big_quiet_want; go_big_quiet_op; go_big_quiet_on))
           refine wpQuiet_nil ?_
           rfl
          refine z_end 16 rfl (by kernel_rfl) ?_
          simp only [zgA, zgB, zgC]
          have z0 := Q15.frozen 0
          have z1 := Q15.frozen 1
          obtain ⟨x0, x1⟩ := Q15.c2
          have lx := Q15.lt
          have n6 : b6 ≠ b15 := fun e => not_two (e ▸ Q6) Q15
          have n13 : b13 ≠ b15 := fun e => not_two (e ▸ Q13) Q15
          have S15 := held_two Q15 (.slice (some ⟨b6, 0, none⟩) 2 2) (.slice (some ⟨b13, 0, none⟩) 2 2)
          have S6 := held_oth (held_oth Q6 n6 0 (.slice (some ⟨b6, 0, none⟩) 2 2)) n6 1 (.slice (some ⟨b13, 0, none⟩) 2 2)
          have S13 := held_oth (held_oth Q13 n13 0 (.slice (some ⟨b6, 0, none⟩) 2 2)) n13 1 (.slice (some ⟨b13, 0, none⟩) 2 2)
          have HE2 := (HC.setCell (p := ⟨b15, 0, none⟩) hgeb15 (.slice (some ⟨b6, 0, none⟩) 2 2)).setCell (p := ⟨b15, 1, none⟩) hgeb15 (.slice (some ⟨b13, 0, none⟩) 2 2)
          go_wp2
          refine onQ_last ?_
          refine z_done (by kernel_rfl) ?_
          exact cut3y_is b6 b13 b15 ⟨HE2, S6, S13, S15⟩ rfl
     ·simp only [zgA, zgB, zgC]
      go_wp2
      obtain ⟨b15, wb, hbq, hwb, Q15, HC', hx, hgeb15⟩ := ex_new2 HC 188 #[.slice none 0 0, .slice none 0 0]
      rw [← hbq, ← hwb]
      clear hbq hwb
      replace HC := HC'
      clear HC'
      try replace Q6 := Q6.ext hx
      try replace Q13 := Q13.ext hx
      clear hx
      refine onQ_in HC ?_
      refine z_one 5 rfl (by kernel_rfl) ?_
      simp only [zgA, zgB, zgC]
      go_wp2_with (go_at_call 134; (with_reducible refine Calls.mono (N2 _) ?_); rintro e wa ⟨rfl, h4⟩)
      replace HC := HC.trans h4
      try replace Q6 := Q6.ext h4
      try replace Q13 := Q13.ext h4
      try replace Q15 := Q15.ext h4
      clear h4
      refine onQ_in HC ?_
      refine z_two 6 9 rfl rfl (by kernel_rfl) ?_ ?_
      ·simp only [zgA, zgB, zgC]
       go_wp2
       obtain ⟨b6, wb, hbq, hwb, Q6, HC', hx, hgeb6⟩ := ex_new2 HC 183 #[.int .u64 (a.n.natAbs : Int), .int .u64 (b.d.natAbs : Int)]
       rw [← hbq, ← hwb]
       clear hbq hwb
       replace HC := HC'
       clear HC'
       try replace Q13 := Q13.ext hx
       try replace Q15 := Q15.ext hx
       clear hx
       refine onQ_in HC ?_
       refine z_one 9 rfl (by kernel_rfl) ?_
       simp only [zgA, zgB, zgC]
       go_wp2_with (go_at_call 134; (with_reducible refine Calls.mono (N3 _) ?_); rintro e wa ⟨rfl, h4⟩)
       replace HC := HC.trans h4
       try replace Q6 := Q6.ext h4
       try replace Q13 := Q13.ext h4
       try replace Q15 := Q15.ext h4
       clear h4
       refine onQ_in HC ?_
       refine z_one 12 rfl (by kernel_rfl) ?_
       simp only [zgA, zgB, zgC]
       go_wp2_with (go_at_call 134; (with_reducible refine Calls.mono (N4 _) ?_); rintro e wa ⟨rfl, h4⟩)
       replace HC := HC.trans h4
       try replace Q6 := Q6.ext h4
       try replace Q13 := Q13.ext h4
       try replace Q15 := Q15.ext h4
       clear h4
       refine onQ_in HC ?_
       refine z_one 13 rfl (by kernel_rfl) ?_
       simp only [zgA, zgB, zgC]
       go_wp2
       obtain ⟨b13, wb, hbq, hwb, Q13, HC', hx, hgeb13⟩ := ex_new2 HC 183 #[.int .u64 (a.d.natAbs : Int), .int .u64 (b.n.natAbs : Int)]
       rw [← hbq, ← hwb]
       clear hbq hwb
       replace HC := HC'
       clear HC'
       try replace Q6 := Q6.ext hx
       try replace Q15 := Q15.ext hx
       clear hx
       refine onQ_in HC ?_
       refine z_stills (g := 1) [14] [_] ⟨rfl, trivial⟩ (by kernel_rfl) (by kernel_rfl) HC ?_
       simp only [zgA, zgB, zgC]
       apply Exists.intro
       refine ⟨fun u hu => ?_, ?_⟩
       ·obtain ⟨k0, k1⟩ := (HA.ext hu).c2
        have lk := (HA.ext hu).lt
        obtain ⟨p0, p1⟩ := (HB.ext hu).c2
        have lp := (HB.ext hu).lt
        repeat (first | go_big_quiet_skip | (go_big_quiet_want; go_big_quiet_op; go_big_quiet_on))
        refine wpQuiet_nil ?_
        rfl
       refine z_end 16 rfl (by kernel_rfl) ?_
       simp only [zgA, zgB, zgC]
       have z0 := Q15.frozen 0
       have z1 := Q15.frozen 1
       obtain ⟨x0, x1⟩ := Q15.c2
       have lx := Q15.lt
       have n6 : b6 ≠ b15 := fun e => not_two (e ▸ Q6) Q15
       have n13 : b13 ≠ b15 := fun e => not_two (e ▸ Q13) Q15
       have S15 := held_two Q15 (.slice (some ⟨b6, 0, none⟩) 2 2) (.slice (some ⟨b13, 0, none⟩) 2 2)
       have S6 := held_oth (held_oth Q6 n6 0 (.slice (some ⟨b6, 0, none⟩) 2 2)) n6 1 (.slice (some ⟨b13, 0, none⟩) 2 2)
       have S13 := held_oth (held_oth Q13 n13 0 (.slice (some ⟨b6, 0, none⟩) 2 2)) n13 1 (.slice (some ⟨b13, 0, none⟩) 2 2)
       have HE2 := (HC.setCell (p := ⟨b15, 0, none⟩) hgeb15 (.slice (some ⟨b6, 0, none⟩) 2 2)).setCell (p := ⟨b15, 1, none⟩) hgeb15 (.slice (some ⟨b13, 0, none⟩) 2 2)
       go_wp2
       refine onQ_last ?_
       refine z_done (by kernel_rfl) ?_
       exact cut3y_is b6 b13 b15 ⟨HE2, S6, S13, S15⟩ rfl
      ·simp only [zgA, zgB, zgC]
       go_wp2_with (go_at_call 134; (with_reducible refine Calls.mono (N3 _) ?_); rintro e wa ⟨rfl, h4⟩)
       replace HC := HC.trans h4
       try replace Q6 := Q6.ext h4
       try replace Q13 := Q13.ext h4
       try replace Q15 := Q15.ext h4
       clear h4
       refine onQ_in HC ?_
       refine z_two 6 12 rfl rfl (by kernel_rfl) ?_ ?_
       ·simp only [zgA, zgB, zgC]
        go_wp2
        obtain ⟨b6, wb, hbq, hwb, Q6, HC', hx, hgeb6⟩ := ex_new2 HC 183 #[.int .u64 (a.n.natAbs : Int), .int .u64 (b.d.natAbs : Int)]
        rw [← hbq, ← hwb]
        clear hbq hwb
        replace HC := HC'
        clear HC'
        try replace Q13 := Q13.ext hx
        try replace Q15 := Q15.ext hx
        clear hx
        refine onQ_in HC ?_
        refine z_one 12 rfl (by kernel_rfl) ?_
        simp only [zgA, zgB, zgC]
        go_wp2_with (go_at_call 134; (with_reducible refine Calls.mono (N4 _) ?_); rintro e wa ⟨rfl, h4⟩)
        replace HC := HC.trans h4
        try replace Q6 := Q6.ext h4
        try replace Q13 := Q13.ext h4
        try replace Q15 := Q15.ext h4
        clear h4
        refine onQ_in HC ?_
        refine z_one 13 rfl (by kernel_rfl) ?_
        simp only [zgA, zgB, zgC]
        go_wp2
        obtain ⟨b13, wb, hbq, hwb, Q13, HC', hx, hgeb13⟩ := ex_new2 HC 183 #[.int .u64 (a.d.natAbs : Int), .int .u64 (b.n.natAbs : Int)]
        rw [← hbq, ← hwb]
        clear hbq hwb
        replace HC := HC'
        clear HC'
        try replace Q6 := Q6.ext hx
        try replace Q15 := Q15.ext hx
        clear hx
        refine onQ_in HC ?_
        refine z_stills (g := 1) [14] [_] ⟨rfl, trivial⟩ (by kernel_rfl) (by kernel_rfl) HC ?_
        simp only [zgA, zgB, zgC]
        apply Exists.intro
        refine ⟨fun u hu => ?_, ?_⟩
        ·obtain ⟨k0, k1⟩ := (HA.ext hu).c2
         have lk := (HA.ext hu).lt
         obtain ⟨p0, p1⟩ := (HB.ext hu).c2
         have lp := (HB.ext hu).lt
         repeat (first | go_big_quiet_skip | (go_big_quiet_want; go_big_quiet_op; go_big_quiet_on))
         refine wpQuiet_nil ?_
         rfl
        refine z_end 16 rfl (by kernel_rfl) ?_
        simp only [zgA, zgB, zgC]
        have z0 := Q15.frozen 0
        have z1 := Q15.frozen 1
        obtain ⟨x0, x1⟩ := Q15.c2
        have lx := Q15.lt
        have n6 : b6 ≠ b15 := fun e => not_two (e ▸ Q6) Q15
        have n13 : b13 ≠ b15 := fun e => not_two (e ▸ Q13) Q15
        have S15 := held_two Q15 (.slice (some ⟨b6, 0, none⟩) 2 2) (.slice (some ⟨b13, 0, none⟩) 2 2)
        have S6 := held_oth (held_oth Q6 n6 0 (.slice (some ⟨b6, 0, none⟩) 2 2)) n6 1 (.slice (some ⟨b13, 0, none⟩) 2 2)
        have S13 := held_oth (held_oth Q13 n13 0 (.slice (some ⟨b6, 0, none⟩) 2 2)) n13 1 (.slice (some ⟨b13, 0, none⟩) 2 2)
        have HE2 := (HC.setCell (p := ⟨b15, 0, none⟩) hgeb15 (.slice (some ⟨b6, 0, none⟩) 2 2)).setCell (p := ⟨b15, 1, none⟩) hgeb15 (.slice (some ⟨b13, 0, none⟩) 2 2)
        go_wp2
        refine onQ_last ?_
        refine z_done (by kernel_rfl) ?_
        exact cut3y_is b6 b13 b15 ⟨HE2, S6, S13, S15⟩ rfl
       ·simp only [zgA, zgB, zgC]
        go_wp2_with (go_at_call 134; (with_reducible refine Calls.mono (N4 _) ?_); rintro e wa ⟨rfl, h4⟩)
        replace HC := HC.trans h4
        try replace Q6 := Q6.ext h4
        try replace Q13 := Q13.ext h4
        try replace Q15 := Q15.ext h4
        clear h4
        refine onQ_in HC ?_
        refine z_two 6 13 rfl rfl (by kernel_rfl) ?_ ?_
        ·simp only [zgA, zgB, zgC]
         go_wp2
         obtain ⟨b6, wb, hbq, hwb, Q6, HC', hx, hgeb6⟩ := ex_new2 HC 183 #[.int .u64 (a.n.natAbs : Int), .int .u64 (b.d.natAbs : Int)]
         rw [← hbq, ← hwb]
         clear hbq hwb
         replace HC := HC'
         clear HC'
         try replace Q13 := Q13.ext hx
         try replace Q15 := Q15.ext hx
         clear hx
         refine onQ_in HC ?_
         refine z_one 13 rfl (by kernel_rfl) ?_
         simp only [zgA, zgB, zgC]
         go_wp2
         obtain ⟨b13, wb, hbq, hwb, Q13, HC', hx, hgeb13⟩ := ex_new2 HC 183 #[.int .u64 (a.d.natAbs : Int), .int .u64 (b.n.natAbs : Int)]
         rw [← hbq, ← hwb]
         clear hbq hwb
         replace HC := HC'
         clear HC'
         try replace Q6 := Q6.ext hx
         try replace Q15 := Q15.ext hx
         clear hx
         refine onQ_in HC ?_
         refine z_stills (g := 1) [14] [_] ⟨rfl, trivial⟩ (by kernel_rfl) (by kernel_rfl) HC ?_
         simp only [zgA, zgB, zgC]
         apply Exists.intro
         refine ⟨fun u hu => ?_, ?_⟩
         ·obtain ⟨k0, k1⟩ := (HA.ext hu).c2
          have lk := (HA.ext hu).lt
          obtain ⟨p0, p1⟩ := (HB.ext hu).c2
          have lp := (HB.ext hu).lt
          repeat (first | go_big_quiet_skip | (go_big_quiet_want; go_big_quiet_op; go_big_quiet_on))
          refine wpQuiet_nil ?_
          rfl
         refine z_end 16 rfl (by kernel_rfl) ?_
         simp only [zgA, zgB, zgC]
         have z0 := Q15.frozen 0
         have z1 := Q15.frozen 1
         obtain ⟨x0, x1⟩ := Q15.c2
         have lx := Q15.lt
         have n6 : b6 ≠ b15 := fun e => not_two (e ▸ Q6) Q15
         have n13 : b13 ≠ b15 := fun e => not_two (e ▸ Q13) Q15
         have S15 := held_two Q15 (.slice (some ⟨b6, 0, none⟩) 2 2) (.slice (some ⟨b13, 0, none⟩) 2 2)
         have S6 := held_oth (held_oth Q6 n6 0 (.slice (some ⟨b6, 0, none⟩) 2 2)) n6 1 (.slice (some ⟨b13, 0, none⟩) 2 2)
         have S13 := held_oth (held_oth Q13 n13 0 (.slice (some ⟨b6, 0, none⟩) 2 2)) n13 1 (.slice (some ⟨b13, 0, none⟩) 2 2)
         have HE2 := (HC.setCell (p := ⟨b15, 0, none⟩) hgeb15 (.slice (some ⟨b6, 0, none⟩) 2 2)).setCell (p := ⟨b15, 1, none⟩) hgeb15 (.slice (some ⟨b13, 0, none⟩) 2 2)
         go_wp2
         refine onQ_last ?_
         refine z_done (by kernel_rfl) ?_
         exact cut3y_is b6 b13 b15 ⟨HE2, S6, S13, S15⟩ rfl
        ·simp only [zgA, zgB, zgC]
         go_wp2
         obtain ⟨b13, wb, hbq, hwb, Q13, HC', hx, hgeb13⟩ := ex_new2 HC 183 #[.int .u64 (a.d.natAbs : Int), .int .u64 (b.n.natAbs : Int)]
         rw [← hbq, ← hwb]
         clear hbq hwb
         replace HC := HC'
         clear HC'
         try replace Q6 := Q6.ext hx
         try replace Q15 := Q15.ext hx
         clear hx
         refine onQ_in HC ?_
         refine z_one 6 rfl (by kernel_rfl) ?_
         simp only [zgA, zgB, zgC]
         go_wp2
         obtain ⟨b6, wb, hbq, hwb, Q6, HC', hx, hgeb6⟩ := ex_new2 HC 183 #[.int .u64 (a.n.natAbs : Int), .int .u64 (b.d.natAbs : Int)]
         rw [← hbq, ← hwb]
         clear hbq hwb
         replace HC := HC'
         clear HC'
         try replace Q13 := Q13.ext hx
         try replace Q15 := Q15.ext hx
         clear hx
         refine onQ_in HC ?_
         refine z_stills (g := 1) [14] [_] ⟨rfl, trivial⟩ (by kernel_rfl) (by kernel_rfl) HC ?_
         simp only [zgA, zgB, zgC]
         apply Exists.intro
         refine ⟨fun u hu => ?_, ?_⟩
         ·obtain ⟨k0, k1⟩ := (HA.ext hu).c2
          have lk := (HA.ext hu).lt
          obtain ⟨p0, p1⟩ := (HB.ext hu).c2
          have lp := (HB.ext hu).lt
          repeat (first | go_big_quiet_skip | (go_big_quiet_want; go_big_quiet_op; go_big_quiet_on))
          refine wpQuiet_nil ?_
          rfl
         refine z_end 16 rfl (by kernel_rfl) ?_
         simp only [zgA, zgB, zgC]
         have z0 := Q15.frozen 0
         have z1 := Q15.frozen 1
         obtain ⟨x0, x1⟩ := Q15.c2
         have lx := Q15.lt
         have n6 : b6 ≠ b15 := fun e => not_two (e ▸ Q6) Q15
         have n13 : b13 ≠ b15 := fun e => not_two (e ▸ Q13) Q15
         have S15 := held_two Q15 (.slice (some ⟨b6, 0, none⟩) 2 2) (.slice (some ⟨b13, 0, none⟩) 2 2)
         have S6 := held_oth (held_oth Q6 n6 0 (.slice (some ⟨b6, 0, none⟩) 2 2)) n6 1 (.slice (some ⟨b13, 0, none⟩) 2 2)
         have S13 := held_oth (held_oth Q13 n13 0 (.slice (some ⟨b6, 0, none⟩) 2 2)) n13 1 (.slice (some ⟨b13, 0, none⟩) 2 2)
         have HE2 := (HC.setCell (p := ⟨b15, 0, none⟩) hgeb15 (.slice (some ⟨b6, 0, none⟩) 2 2)).setCell (p := ⟨b15, 1, none⟩) hgeb15 (.slice (some ⟨b13, 0, none⟩) 2 2)
         go_wp2
         refine onQ_last ?_
         refine z_done (by kernel_rfl) ?_
         exact cut3y_is b6 b13 b15 ⟨HE2, S6, S13, S15⟩ rfl
    ·simp only [zgA, zgB, zgC]
     go_wp2
     obtain ⟨b15, wb, hbq, hwb, Q15, HC', hx, hgeb15⟩ := ex_new2 HC 188 #[.slice none 0 0, .slice none 0 0]
     rw [← hbq, ← hwb]
     clear hbq hwb
     replace HC := HC'
     clear HC'
     try replace Q6 := Q6.ext hx
     try replace Q13 := Q13.ext hx
     clear hx
     refine onQ_in HC ?_
     refine z_one 2 rfl (by kernel_rfl) ?_
     simp only [zgA, zgB, zgC]
     go_wp2_with (go_at_call 134; (with_reducible refine Calls.mono (N1 _) ?_); rintro e wa ⟨rfl, h4⟩)
     replace HC := HC.trans h4
     try replace Q6 := Q6.ext h4
     try replace Q13 := Q13.ext h4
     try replace Q15 := Q15.ext h4
     clear h4
     refine onQ_in HC ?_
     refine z_one 5 rfl (by kernel_rfl) ?_
     simp only [zgA, zgB, zgC]
     go_wp2_with (go_at_call 134; (with_reducible refine Calls.mono (N2 _) ?_); rintro e wa ⟨rfl, h4⟩)
     replace HC := HC.trans h4
     try replace Q6 := Q6.ext h4
     try replace Q13 := Q13.ext h4
     try replace Q15 := Q15.ext h4
     clear h4
     refine onQ_in HC ?_
     refine z_two 6 9 rfl rfl (by kernel_rfl) ?_ ?_
     ·simp only [zgA, zgB, zgC]
      go_wp2
      obtain ⟨b6, wb, hbq, hwb, Q6, HC', hx, hgeb6⟩ := ex_new2 HC 183 #[.int .u64 (a.n.natAbs : Int), .int .u64 (b.d.natAbs : Int)]
      rw [← hbq, ← hwb]
      clear hbq hwb
      replace HC := HC'
      clear HC'
      try replace Q13 := Q13.ext hx
      try replace Q15 := Q15.ext hx
      clear hx
      refine onQ_in HC ?_
      refine z_one 9 rfl (by kernel_rfl) ?_
      simp only [zgA, zgB, zgC]
      go_wp2_with (go_at_call 134; (with_reducible refine Calls.mono (N3 _) ?_); rintro e wa ⟨rfl, h4⟩)
      replace HC := HC.trans h4
      try replace Q6 := Q6.ext h4
      try replace Q13 := Q13.ext h4
      try replace Q15 := Q15.ext h4
      clear h4
      refine onQ_in HC ?_
      refine z_one 12 rfl (by kernel_rfl) ?_
      simp only [zgA, zgB, zgC]
      go_wp2_with (go_at_call 134; (with_reducible refine Calls.mono (N4 _) ?_); rintro e wa ⟨rfl, h4⟩)
      replace HC := HC.trans h4
      try replace Q6 := Q6.ext h4
      try replace Q13 := Q13.ext h4
      try replace Q15 := Q15.ext h4
      clear h4
      refine onQ_in HC ?_
      refine z_one 13 rfl (by kernel_rfl) ?_
      simp only [zgA, zgB, zgC]
      go_wp2
      obtain ⟨b13, wb, hbq, hwb, Q13, HC', hx, hgeb13⟩ := ex_new2 HC 183 #[.int .u64 (a.d.natAbs : Int), .int .u64 (b.n.natAbs : Int)]
      rw [← hbq, ← hwb]
      clear hbq hwb
      replace HC := HC'
      clear HC'
      try replace Q6 := Q6.ext hx
      try replace Q15 := Q15.ext hx
      clear hx
      refine onQ_in HC ?_
      refine z_stills (g := 1) [14] [_] ⟨rfl, trivial⟩ (by kernel_rfl) (by kernel_rfl) HC ?_
      simp only [zgA, zgB, zgC]
      apply Exists.intro
      refine ⟨fun u hu => ?_, ?_⟩
      ·obtain ⟨k0, k1⟩ := (HA.ext hu).c2
       have lk := (HA.ext hu).lt
       obtain ⟨p0, p1⟩ := (HB.ext hu).c2
       have lp := (HB.ext hu).lt
       repeat (first | go_big_quiet_skip | (go_big_quiet_want; go_big_quiet_op; go_big_quiet_on))
       refine wpQuiet_nil ?_
       rfl
      refine z_end 16 rfl (by kernel_rfl) ?_
      simp only [zgA, zgB, zgC]
      have z0 := Q15.frozen 0
      have z1 := Q15.frozen 1
      obtain ⟨x0, x1⟩ := Q15.c2
      have lx := Q15.lt
      have n6 : b6 ≠ b15 := fun e => not_two (e ▸ Q6) Q15
      have n13 : b13 ≠ b15 := fun e => not_two (e ▸ Q13) Q15
      have S15 := held_two Q15 (.slice (some ⟨b6, 0, none⟩) 2 2) (.slice (some ⟨b13, 0, none⟩) 2 2)
      have S6 := held_oth (held_oth Q6 n6 0 (.slice (some ⟨b6, 0, none⟩) 2 2)) n6 1 (.slice (some ⟨b13, 0, none⟩) 2 2)
      have S13 := held_oth (held_oth Q13 n13 0 (.slice (some ⟨b6, 0, none⟩) 2 2)) n13 1 (.slice (some ⟨b13, 0, none⟩) 2 2)
      have HE2 := (HC.setCell (p := ⟨b15, 0, none⟩) hgeb15 (.slice (some ⟨b6, 0, none⟩) 2 2)).setCell (p := ⟨b15, 1, none⟩) hgeb15 (.slice (some ⟨b13, 0, none⟩) 2 2)
      go_wp2
      refine onQ_last ?_
      refine z_done (by kernel_rfl) ?_
      exact cut3y_is b6 b13 b15 ⟨HE2, S6, S13, S15⟩ rfl
     ·simp only [zgA, zgB, zgC]
      go_wp2_with (go_at_call 134; (with_reducible refine Calls.mono (N3 _) ?_); rintro e wa ⟨rfl, h4⟩)
      replace HC := HC.trans h4
      try replace Q6 := Q6.ext h4
      try replace Q13 := Q13.ext h4
      try replace Q15 := Q15.ext h4
      clear h4
      refine onQ_in HC ?_
      refine z_two 6 12 rfl rfl (by kernel_rfl) ?_ ?_
      ·simp only [zgA, zgB, zgC]
       go_wp2
       obtain ⟨b6, wb, hbq, hwb, Q6, HC', hx, hgeb6⟩ := ex_new2 HC 183 #[.int .u64 (a.n.natAbs : Int), .int .u64 (b.d.natAbs : Int)]
       rw [← hbq, ← hwb]
       clear hbq hwb
       replace HC := HC'
       clear HC'
       try replace Q13 := Q13.ext hx
       try replace Q15 := Q15.ext hx
       clear hx
       refine onQ_in HC ?_
       refine z_one 12 rfl (by kernel_rfl) ?_
       simp only [zgA, zgB, zgC]
       go_wp2_with (go_at_call 134; (with_reducible refine Calls.mono (N4 _) ?_); rintro e wa ⟨rfl, h4⟩)
       replace HC := HC.trans h4
       try replace Q6 := Q6.ext h4
       try replace Q13 := Q13.ext h4
       try replace Q15 := Q15.ext h4
       clear h4
       refine onQ_in HC ?_
       refine z_one 13 rfl (by kernel_rfl) ?_
       simp only [zgA, zgB, zgC]
       go_wp2
       obtain ⟨b13, wb, hbq, hwb, Q13, HC', hx, hgeb13⟩ := ex_new2 HC 183 #[.int .u64 (a.d.natAbs : Int), .int .u64 (b.n.natAbs : Int)]
       rw [← hbq, ← hwb]
       clear hbq hwb
       replace HC := HC'
       clear HC'
       try replace Q6 := Q6.ext hx
       try replace Q15 := Q15.ext hx
       clear hx
       refine onQ_in HC ?_
       refine z_stills (g := 1) [14] [_] ⟨rfl, trivial⟩ (by kernel_rfl) (by kernel_rfl) HC ?_
       simp only [zgA, zgB, zgC]
       apply Exists.intro
       refine ⟨fun u hu => ?_, ?_⟩
       ·obtain ⟨k0, k1⟩ := (HA.ext hu).c2
        have lk := (HA.ext hu).lt
        obtain ⟨p0, p1⟩ := (HB.ext hu).c2
        have lp := (HB.ext hu).lt
        repeat (first | go_big_quiet_skip | (go_big_quiet_want; go_big_quiet_op; go_big_quiet_on))
        refine wpQuiet_nil ?_
        rfl
       refine z_end 16 rfl (by kernel_rfl) ?_
       simp only [zgA, zgB, zgC]
       have z0 := Q15.frozen 0
       have z1 := Q15.frozen 1
       obtain ⟨x0, x1⟩ := Q15.c2
       have lx := Q15.lt
       have n6 : b6 ≠ b15 := fun e => not_two (e ▸ Q6) Q15
       have n13 : b13 ≠ b15 := fun e => not_two (e ▸ Q13) Q15
       have S15 := held_two Q15 (.slice (some ⟨b6, 0, none⟩) 2 2) (.slice (some ⟨b13, 0, none⟩) 2 2)
       have S6 := held_oth (held_oth Q6 n6 0 (.slice (some ⟨b6, 0, none⟩) 2 2)) n6 1 (.slice (some ⟨b13, 0, none⟩) 2 2)
       have S13 := held_oth (held_oth Q13 n13 0 (.slice (some ⟨b6, 0, none⟩) 2 2)) n13 1 (.slice (some ⟨b13, 0, none⟩) 2 2)
       have HE2 := (HC.setCell (p := ⟨b15, 0, none⟩) hgeb15 (.slice (some ⟨b6, 0, none⟩) 2 2)).setCell (p := ⟨b15, 1, none⟩) hgeb15 (.slice (some ⟨b13, 0, none⟩) 2 2)
       go_wp2
       refine onQ_last ?_
       refine z_done (by kernel_rfl) ?_
       exact cut3y_is b6 b13 b15 ⟨HE2, S6, S13, S15⟩ rfl
      ·simp only [zgA, zgB, zgC]
       go_wp2_with (go_at_call 134; (with_reducible refine Calls.mono (N4 _) ?_); rintro e wa ⟨rfl, h4⟩)
       replace HC := HC.trans h4
       try replace Q6 := Q6.ext h4
       try replace Q13 := Q13.ext h4
       try replace Q15 := Q15.ext h4
       clear h4
       refine onQ_in HC ?_
       refine z_two 6 13 rfl rfl (by kernel_rfl) ?_ ?_
       ·simp only [zgA, zgB, zgC]
        go_wp2
        obtain ⟨b6, wb, hbq, hwb, Q6, HC', hx, hgeb6⟩ := ex_new2 HC 183 #[.int .u64 (a.n.natAbs : Int), .int .u64 (b.d.natAbs : Int)]
        rw [← hbq, ← hwb]
        clear hbq hwb
        replace HC := HC'
        clear HC'
        try replace Q13 := Q13.ext hx
        try replace Q15 := Q15.ext hx
        clear hx
        refine onQ_in HC ?_
        refine z_one 13 rfl (by kernel_rfl) ?_
        simp only [zgA, zgB, zgC]
        go_wp2
        obtain ⟨b13, wb, hbq, hwb, Q13, HC', hx, hgeb13⟩ := ex_new2 HC 183 #[.int .u64 (a.d.natAbs : Int), .int .u64 (b.n.natAbs : Int)]
        rw [← hbq, ← hwb]
        clear hbq hwb
        replace HC := HC'
        clear HC'
        try replace Q6 := Q6.ext hx
        try replace Q15 := Q15.ext hx
        clear hx
        refine onQ_in HC ?_
        refine z_stills (g := 1) [14] [_] ⟨rfl, trivial⟩ (by kernel_rfl) (by kernel_rfl) HC ?_
        simp only [zgA, zgB, zgC]
        apply Exists.intro
        refine ⟨fun u hu => ?_, ?_⟩
        ·obtain ⟨k0, k1⟩ := (HA.ext hu).c2
         have lk := (HA.ext hu).lt
         obtain ⟨p0, p1⟩ := (HB.ext hu).c2
         have lp := (HB.ext hu).lt
         repeat (first | go_big_quiet_skip | (go_big_quiet_want; go_big_quiet_op; go_big_quiet_on))
         refine wpQuiet_nil ?_
         rfl
        refine z_end 16 rfl (by kernel_rfl) ?_
        simp only [zgA, zgB, zgC]
        have z0 := Q15.frozen 0
        have z1 := Q15.frozen 1
        obtain ⟨x0, x1⟩ := Q15.c2
        have lx := Q15.lt
        have n6 : b6 ≠ b15 := fun e => not_two (e ▸ Q6) Q15
        have n13 : b13 ≠ b15 := fun e => not_two (e ▸ Q13) Q15
        have S15 := held_two Q15 (.slice (some ⟨b6, 0, none⟩) 2 2) (.slice (some ⟨b13, 0, none⟩) 2 2)
        have S6 := held_oth (held_oth Q6 n6 0 (.slice (some ⟨b6, 0, none⟩) 2 2)) n6 1 (.slice (some ⟨b13, 0, none⟩) 2 2)
        have S13 := held_oth (held_oth Q13 n13 0 (.slice (some ⟨b6, 0, none⟩) 2 2)) n13 1 (.slice (some ⟨b13, 0, none⟩) 2 2)
        have HE2 := (HC.setCell (p := ⟨b15, 0, none⟩) hgeb15 (.slice (some ⟨b6, 0, none⟩) 2 2)).setCell (p := ⟨b15, 1, none⟩) hgeb15 (.slice (some ⟨b13, 0, none⟩) 2 2)
        go_wp2
        refine onQ_last ?_
        refine z_done (by kernel_rfl) ?_
        exact cut3y_is b6 b13 b15 ⟨HE2, S6, S13, S15⟩ rfl
       ·simp only [zgA, zgB, zgC]
        go_wp2
        obtain ⟨b13, wb, hbq, hwb, Q13, HC', hx, hgeb13⟩ := ex_new2 HC 183 #[.int .u64 (a.d.natAbs : Int), .int .u64 (b.n.natAbs : Int)]
        rw [← hbq, ← hwb]
        clear hbq hwb
        replace HC := HC'
        clear HC'
        try replace Q6 := Q6.ext hx
        try replace Q15 := Q15.ext hx
        clear hx
        refine onQ_in HC ?_
        refine z_one 6 rfl (by kernel_rfl) ?_
        simp only [zgA, zgB, zgC]
        go_wp2
        obtain ⟨b6, wb, hbq, hwb, Q6, HC', hx, hgeb6⟩ := ex_new2 HC 183 #[.int .u64 (a.n.natAbs : Int), .int .u64 (b.d.natAbs : Int)]
        rw [← hbq, ← hwb]
        clear hbq hwb
        replace HC := HC'
        clear HC'
        try replace Q13 := Q13.ext hx
        try replace Q15 := Q15.ext hx
        clear hx
        refine onQ_in HC ?_
        refine z_stills (g := 1) [14] [_] ⟨rfl, trivial⟩ (by kernel_rfl) (by kernel_rfl) HC ?_
        simp only [zgA, zgB, zgC]
        apply Exists.intro
        refine ⟨fun u hu => ?_, ?_⟩
        ·obtain ⟨k0, k1⟩ := (HA.ext hu).c2
         have lk := (HA.ext hu).lt
         obtain ⟨p0, p1⟩ := (HB.ext hu).c2
         have lp := (HB.ext hu).lt
         repeat (first | go_big_quiet_skip | (go_big_quiet_want; go_big_quiet_op; go_big_quiet_on))
         refine wpQuiet_nil ?_
         rfl
        refine z_end 16 rfl (by kernel_rfl) ?_
        simp only [zgA, zgB, zgC]
        have z0 := Q15.frozen 0
        have z1 := Q15.frozen 1
        obtain ⟨x0, x1⟩ := Q15.c2
        have lx := Q15.lt
        have n6 : b6 ≠ b15 := fun e => not_two (e ▸ Q6) Q15
        have n13 : b13 ≠ b15 := fun e => not_two (e ▸ Q13) Q15
        have S15 := held_two Q15 (.slice (some ⟨b6, 0, none⟩) 2 2) (.slice (some ⟨b13, 0, none⟩) 2 2)
        have S6 := held_oth (held_oth Q6 n6 0 (.slice (some ⟨b6, 0, none⟩) 2 2)) n6 1 (.slice (some ⟨b13, 0, none⟩) 2 2)
        have S13 := held_oth (held_oth Q13 n13 0 (.slice (some ⟨b6, 0, none⟩) 2 2)) n13 1 (.slice (some ⟨b13, 0, none⟩) 2 2)
        have HE2 := (HC.setCell (p := ⟨b15, 0, none⟩) hgeb15 (.slice (some ⟨b6, 0, none⟩) 2 2)).setCell (p := ⟨b15, 1, none⟩) hgeb15 (.slice (some ⟨b13, 0, none⟩) 2 2)
        go_wp2
        refine onQ_last ?_
        refine z_done (by kernel_rfl) ?_
        exact cut3y_is b6 b13 b15 ⟨HE2, S6, S13, S15⟩ rfl
   rintro b6 b13 b15 w5 ⟨E5, S6, S13, S15⟩
   clear N1 N2 N3 N4
   obtain ⟨k0, k1⟩ := (HA.ext E5).c2
   have lk := (HA.ext E5).lt
   obtain ⟨p0, p1⟩ := (HB.ext E5).c2
   have lp := (HB.ext E5).lt
   obtain ⟨r0, r1⟩ := S15.c2
   have lr := S15.lt
   replace E := E.trans E5
   replace B1 := B1.ext E5
   go_wp2_with (first | (go_at_call 135; (with_reducible refine Calls.mono (NR2 _ _ _ (urow2 S6) (urow2 S13)) ?_); rintro e wt ⟨rfl, ht⟩; replace E := E.trans ht; replace B1 := B1.ext ht; have f0 := B1.frozen 0; have f1 := B1.frozen 1; obtain ⟨x0, x1⟩ := B1.c2; have lx := B1.lt))
   have H4 := held_two B1 (.int .i64 Rn) (.int .i64 Rd)
   have EF := (E.setCell (p := ⟨b1, 0, none⟩) hbr (.int .i64 Rn)).setCell (p := ⟨b1, 1, none⟩) hbr (.int .i64 Rd)
   obtain ⟨y0, y1⟩ := H4.c2
   go_wp2
   refine bodyPost_ret (v := .tuple #[.agg #[.int .i64 Rn, .int .i64 Rd], .int .i64 Re]) (by simp [results, Tryz.results137, go_sem, y0, y1]) rfl ⟨rfl, EF⟩
theorem calcDiv_any (a b : Rt) (hia : a.In) (hib : b.In) (ba bb : Nat) (w : World) (hA : Held w ba 73 #[.int .i64 a.n, .int .i64 a.d]) (hB : Held w bb 73 #[.int .i64 b.n, .int .i64 b.d]) (hZ : Zro w) :
  Calls Tryz.prog 108 #[.agg #[.int .i64 a.n, .int .i64 a.d], .agg #[.int .i64 b.n, .int .i64 b.d], .func (.func 137) #[] #[.pointer (some ⟨bb, 0, none⟩), .pointer (some ⟨ba, 0, none⟩)]] w fun e w' => e = .returned (.tuple #[.agg #[.int .i64 (divR a b).1.n, .int .i64 (divR a b).1.d], .int .i64 (divR a b).2]) ∧ Ext w w' := by
 have NA := fun w => isRatio_any a.n a.d hia.1 hia.2.1 hia.2.2.1 hia.2.2.2 w
 have NB := fun w => isRatio_any b.n b.d hib.1 hib.2.1 hib.2.2.1 hib.2.2.2 w
 rw [show Rt.ok ⟨a.n, a.d⟩ = a.ok from rfl] at NA
 rw [show Rt.ok ⟨b.n, b.d⟩ = b.ok from rfl] at NB
 have NC := fun ha hb w h1 h2 z => divC_any a b ha hb ba bb w h1 h2 z
 have HV : Hid (divR a b = if a.ok && b.ok then (if b.n = 0 then (rat0, 9) else quo (decide (a.n < 0) != decide (b.n < 0)) (a.n.natAbs * b.d.natAbs) (a.d.natAbs * b.n.natAbs)) else (rat0, 2)) := rfl
 obtain ⟨R, hR0⟩ := zgE (divR a b)
 rw [← hR0]
 have HR := Lib.hid hR0
 clear hR0
 rw [show divR a b = R from HR.out.symm] at HV
 clear HR
 go_enter Tryz.func108, Tryz.ntmps108
 go_upto_region 1 with (fail)
 obtain ⟨v, hv⟩ := zgE (((w.alloc (.cells #[.int .i64 a.n, .int .i64 a.d] 73)).alloc (.cells #[.int .i64 b.n, .int .i64 b.d] 73)).alloc (.cells #[.int .i64 0, .int .i64 0] 73))
 rw [← hv]
 have E : Ext w v := by rw [hv]; exact (((Ext.refl _).alloc _).alloc _).alloc _
 have B1 : Held v w.heap.size 73 #[.int .i64 a.n, .int .i64 a.d] := by rw [hv]; exact ((Held.new _ _ _).alloc _).alloc _
 have B2 : Held v (w.heap.size + 1) 73 #[.int .i64 b.n, .int .i64 b.d] := by rw [hv]; exact (Held.at _ _ _ _ (by simp)).alloc _
 have B3 : Held v (w.heap.size + 1 + 1) 73 #[.int .i64 0, .int .i64 0] := by rw [hv]; exact Held.at _ _ _ _ (by simp)
 clear hv
 obtain ⟨b3, hb3⟩ := zgE (w.heap.size + 1 + 1)
 rw [← hb3] at B3 ⊢
 obtain ⟨b2, hb2⟩ := zgE (w.heap.size + 1)
 rw [← hb2] at B2 ⊢
 obtain ⟨b1, hb1⟩ := zgE (w.heap.size)
 rw [← hb1] at B1 ⊢
 have hbr : w.heap.size ≤ b3 := by omega
 have hbr1 : w.heap.size ≤ b1 := by omega
 have hbr2 : w.heap.size ≤ b2 := by omega
 have hn21 : b2 ≠ b1 := by omega
 have hn31 : b3 ≠ b1 := by omega
 have hn32 : b3 ≠ b2 := by omega
 clear hb1 hb2 hb3
 obtain ⟨k0, k1⟩ := B1.c2
 have lk := B1.lt
 obtain ⟨p0, p1⟩ := B2.c2
 have lp := B2.lt
 cases ha : a.ok
 ·simp only [ha] at NA
  have hr := HV.out
  rw [ha, Bool.false_and, if_neg (by decide)] at hr
  subst hr
  clear HV NC NB
  go_upto_region 2 with (go_at_call 102; (with_reducible refine Calls.mono (NA _) ?_); rintro e w2 ⟨rfl, h⟩)
  replace E := E.trans h
  replace B3 := B3.ext h
  have f0 := B3.frozen 0
  have f1 := B3.frozen 1
  obtain ⟨x0, x1⟩ := B3.c2
  have lx := B3.lt
  have H4 := held_two B3 (.int .i64 0) (.int .i64 0)
  have EF := (E.setCell (p := ⟨b3, 0, none⟩) hbr (.int .i64 0)).setCell (p := ⟨b3, 1, none⟩) hbr (.int .i64 0)
  obtain ⟨y0, y1⟩ := H4.c2
  go_wp2
  refine bodyPost_ret (v := .tuple #[.agg #[.int .i64 0, .int .i64 0], .int .i64 2]) (by simp [results, Tryz.results108, go_sem, y0, y1]) rfl ⟨rfl, EF⟩
 ·simp only [ha] at NA
  cases hb : b.ok
  ·simp only [hb] at NB
   have hr := HV.out
   rw [hb, Bool.and_false, if_neg (by decide)] at hr
   subst hr
   clear HV NC
   go_upto_region 2 with (first | (go_at_call 102; (with_reducible refine Calls.mono (NA _) ?_); rintro e w1 ⟨rfl, h1⟩; clear p0 p1 lp; obtain ⟨p0, p1⟩ := (B2.ext h1).c2; have lp := (B2.ext h1).lt) | (go_at_call 102; (with_reducible refine Calls.mono (NB _) ?_); rintro e w2 ⟨rfl, h⟩))
   replace E := (E.trans h1).trans h
   replace B3 := (B3.ext h1).ext h
   have f0 := B3.frozen 0
   have f1 := B3.frozen 1
   obtain ⟨x0, x1⟩ := B3.c2
   have lx := B3.lt
   have H4 := held_two B3 (.int .i64 0) (.int .i64 0)
   have EF := (E.setCell (p := ⟨b3, 0, none⟩) hbr (.int .i64 0)).setCell (p := ⟨b3, 1, none⟩) hbr (.int .i64 0)
   obtain ⟨y0, y1⟩ := H4.c2
   go_wp2
   refine bodyPost_ret (v := .tuple #[.agg #[.int .i64 0, .int .i64 0], .int .i64 2]) (by simp [results, Tryz.results108, go_sem, y0, y1]) rfl ⟨rfl, EF⟩
  ·simp only [hb] at NB
   replace NC := NC ha hb
   have hr := HV.out
   rw [ha, hb, Bool.and_true, if_pos rfl] at hr
   rw [← hr] at NC
   clear HV hr ha hb
   obtain ⟨⟨Rn, Rd⟩, Re⟩ := R
   go_upto_region 3 with (first | (go_at_call 102; (with_reducible refine Calls.mono (NA _) ?_); rintro e w1 ⟨rfl, h1⟩; clear p0 p1 lp; obtain ⟨p0, p1⟩ := (B2.ext h1).c2; have lp := (B2.ext h1).lt) | (go_at_call 102; (with_reducible refine Calls.mono (NB _) ?_); rintro e w2 ⟨rfl, h⟩))
   have e2 := (E.trans h1).trans h
   replace B3 := (B3.ext h1).ext h
   replace NC := NC w2 (hA.ext e2) (hB.ext e2) (hZ.ext e2)
   replace E := e2
   go_wp2_with (first | (go_at_call 137; (with_reducible refine Calls.mono (NC) ?_); rintro e wt ⟨rfl, ht⟩; replace E := E.trans ht; replace B3 := B3.ext ht; have f0 := B3.frozen 0; have f1 := B3.frozen 1; obtain ⟨x0, x1⟩ := B3.c2; have lx := B3.lt) | (go_at_fn 137; (with_reducible refine Calls.mono (NC) ?_); rintro e wt ⟨rfl, ht⟩; replace E := E.trans ht; replace B3 := B3.ext ht; have f0 := B3.frozen 0; have f1 := B3.frozen 1; obtain ⟨x0, x1⟩ := B3.c2; have lx := B3.lt))
   have H4 := held_two B3 (.int .i64 Rn) (.int .i64 Rd)
   have EF := (E.setCell (p := ⟨b3, 0, none⟩) hbr (.int .i64 Rn)).setCell (p := ⟨b3, 1, none⟩) hbr (.int .i64 Rd)
   obtain ⟨y0, y1⟩ := H4.c2
   go_wp2
   refine bodyPost_ret (v := .tuple #[.agg #[.int .i64 Rn, .int .i64 Rd], .int .i64 Re]) (by simp [results, Tryz.results108, go_sem, y0, y1]) rfl ⟨rfl, EF⟩
theorem divF_any (a b : Rt) (hia : a.In) (hib : b.In) (w : World) (hZ : Zro w) :
  Calls Tryz.prog 113 #[.agg #[.int .i64 a.n, .int .i64 a.d], .agg #[.int .i64 b.n, .int .i64 b.d]] w fun e w' => e = .returned (.tuple #[.agg #[.int .i64 (divR a b).1.n, .int .i64 (divR a b).1.d], .int .i64 (divR a b).2]) ∧ Ext w w' := by
 have NC := fun ba bb w h1 h2 z => calcDiv_any a b hia hib ba bb w h1 h2 z
 obtain ⟨R, hR0⟩ := zgE (divR a b)
 rw [← hR0]
 have HR := Lib.hid hR0
 clear hR0
 rw [show divR a b = R from HR.out.symm] at NC
 clear HR
 go_enter Tryz.func113, Tryz.ntmps113
 go_upto_region 1 with (fail)
 obtain ⟨v, hv⟩ := zgE (((w.alloc (.cells #[.int .i64 a.n, .int .i64 a.d] 73)).alloc (.cells #[.int .i64 b.n, .int .i64 b.d] 73)).alloc (.cells #[.int .i64 0, .int .i64 0] 73))
 rw [← hv]
 have E : Ext w v := by rw [hv]; exact (((Ext.refl _).alloc _).alloc _).alloc _
 have B1 : Held v w.heap.size 73 #[.int .i64 a.n, .int .i64 a.d] := by rw [hv]; exact ((Held.new _ _ _).alloc _).alloc _
 have B2 : Held v (w.heap.size + 1) 73 #[.int .i64 b.n, .int .i64 b.d] := by rw [hv]; exact (Held.at _ _ _ _ (by simp)).alloc _
 have B3 : Held v (w.heap.size + 1 + 1) 73 #[.int .i64 0, .int .i64 0] := by rw [hv]; exact Held.at _ _ _ _ (by simp)
 clear hv
 obtain ⟨b3, hb3⟩ := zgE (w.heap.size + 1 + 1)
 rw [← hb3] at B3 ⊢
 obtain ⟨b2, hb2⟩ := zgE (w.heap.size + 1)
 rw [← hb2] at B2 ⊢
 obtain ⟨b1, hb1⟩ := zgE (w.heap.size)
 rw [← hb1] at B1 ⊢
 have hbr : w.heap.size ≤ b3 := by omega
 have hbr1 : w.heap.size ≤ b1 := by omega
 have hbr2 : w.heap.size ≤ b2 := by omega
 have hn21 : b2 ≠ b1 := by omega
 have hn31 : b3 ≠ b1 := by omega
 have hn32 : b3 ≠ b2 := by omega
 clear hb1 hb2 hb3
 have Z0 := hZ.ext E
 obtain ⟨k0, k1⟩ := B1.c2
 have lk := B1.lt
 obtain ⟨p0, p1⟩ := B2.c2
 have lp := B2.lt
 obtain ⟨⟨Rn, Rd⟩, Re⟩ := R
 go_wp2_with (first | (go_at_call 108; (with_reducible refine Calls.mono (NC _ _ _ B1 B2 Z0) ?_); rintro e wt ⟨rfl, ht⟩; replace E := E.trans ht; replace B3 := B3.ext ht; have f0 := B3.frozen 0; have f1 := B3.frozen 1; obtain ⟨x0, x1⟩ := B3.c2; have lx := B3.lt))
 have H4 := held_two B3 (.int .i64 Rn) (.int .i64 Rd)
 have EF := (E.setCell (p := ⟨b3, 0, none⟩) hbr (.int .i64 Rn)).setCell (p := ⟨b3, 1, none⟩) hbr (.int .i64 Rd)
 obtain ⟨y0, y1⟩ := H4.c2
 go_wp2
 refine bodyPost_ret (v := .tuple #[.agg #[.int .i64 Rn, .int .i64 Rd], .int .i64 Re]) (by simp [results, Tryz.results113, go_sem, y0, y1]) rfl ⟨rfl, EF⟩
end Go.Proofs.YtneiofnlmblglaaGreatDoor
