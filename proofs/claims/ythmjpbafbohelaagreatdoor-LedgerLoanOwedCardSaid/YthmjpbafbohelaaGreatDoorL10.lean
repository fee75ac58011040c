/- Walks of the program's functions and plain facts, packed; proved: the lemmas below; no conditions but those that each states. -/
import Derived.Test.YthmjpbafbohelaaGreatDoorL9
import Derived.Test.YthmjpbafbohelaaGreatDoorL3
set_option maxRecDepth 100000
set_option maxHeartbeats 4000000
namespace Go.Proofs.YthmjpbafbohelaaGreatDoor
open Go Go.RowKit Go.Shelf
attribute [local go_sem] gv_yes
def Rt.neg (r : Rt) : Rt := ⟨-r.n, r.d⟩
theorem neg_ok (r : Rt) : r.neg.ok = r.ok := by
 unfold Rt.ok Rt.neg
 simp only [Int.natAbs_neg]
 rw [Bool.eq_iff_iff]
 simp only [Bool.and_eq_true, decide_eq_true_eq]
 omega
theorem sub_add_neg (a b : Rt) : subR a b = addR a b.neg := by
 unfold subR addR
 rw [neg_ok]
 simp only [Rt.neg, Int.neg_mul, Int.sub_eq_add_neg]
theorem ratV_pos {n d : Int} (hd : 1 ≤ d) : ratV n d = quo (decide (n < 0)) n.natAbs d.natAbs := by
 unfold ratV
 rw [if_neg (by omega), decide_eq_false (show ¬ d < 0 by omega)]
 simp
theorem most_iff {M p x : Nat} (hp : 1 ≤ p) : M / p < x ↔ M < p * x := by
 rw [Nat.div_lt_iff_lt_mul hp, Nat.mul_comm]
theorem madeR_any (neg : Bool) (n d : Nat) (hn : n < 18446744073709551616) (hd1 : 1 ≤ d) (hd : d < 18446744073709551616) (w : World) :
  Calls Tryz.prog 134 #[.bool neg, .int .u64 (n : Int), .int .u64 (d : Int)] w fun e w' => e = .returned (.tuple #[.agg #[.int .i64 (quo neg n d).1.n, .int .i64 (quo neg n d).1.d], .int .i64 (quo neg n d).2]) ∧ Ext w w' := by
 have NG := fun w => gcdR_any n d hn w
 obtain ⟨R, hR0⟩ := zgE (quo neg n d)
 rw [← hR0]
 have hg := Nat.gcd_pos_of_pos_right n (show 0 < d by omega)
 unfold quo at hR0
 have l1 := Nat.div_le_self n (Nat.gcd n d)
 have l2 := Nat.div_le_self d (Nat.gcd n d)
 have q1 : IntKind.u64.wrap ((n : Int) / ((Nat.gcd n d : Nat) : Int)) = ((n / Nat.gcd n d : Nat) : Int) := by
  rw [IntKind.wrap_u64, ← Int.natCast_ediv]
  generalize n / Nat.gcd n d = z at *
  exact Int.emod_eq_of_lt (by omega) (by omega)
 have q2 : IntKind.u64.wrap ((d : Int) / ((Nat.gcd n d : Nat) : Int)) = ((d / Nat.gcd n d : Nat) : Int) := by
  rw [IntKind.wrap_u64, ← Int.natCast_ediv]
  generalize d / Nat.gcd n d = z at *
  exact Int.emod_eq_of_lt (by omega) (by omega)
 have gi0 : ((Nat.gcd n d : Nat) : Int) ≠ 0 := by omega
 have gi1 : (((Nat.gcd n d : Nat) : Int) == 0) = false := beq_eq_false_iff_ne.2 gi0
 clear l1 l2 hg
 generalize n / Nat.gcd n d = p at *
 generalize d / Nat.gcd n d = q at *
 generalize Nat.gcd n d = g at *
 have HR := Lib.hid hR0
 clear hR0 hn hd hd1
 go_enter Tryz.func134, Tryz.ntmps134
 go_upto_region 1 with (fail)
 obtain ⟨v, hv⟩ := zgE (w.alloc (.cells #[.int .i64 0, .int .i64 0] 23))
 rw [← hv]
 have E : Ext w v := by rw [hv]; exact (Ext.refl _).alloc _
 have B1 : Held v w.heap.size 23 #[.int .i64 0, .int .i64 0] := by rw [hv]; exact (Held.new _ _ _)
 clear hv
 obtain ⟨b1, hb1⟩ := zgE (w.heap.size)
 rw [← hb1] at B1 ⊢
 have hbr : w.heap.size ≤ b1 := by omega
 clear hb1
 go_upto_region 2 with (go_at_call 150; (with_reducible refine Calls.mono (NG _) ?_); rintro e w2 ⟨rfl, h⟩)
 replace E := E.trans h
 replace B1 := B1.ext h
 clear h NG
 refine wp_region_xw w2 mixed (by kernel_rfl) (by repeat (first | exact Ext.refl _ | (refine Ext.alloc ?_ _) | (refine Ext.trans ?_ (by assumption)))) ?_
 intro hne hrx hry
 try simp only []
 try simp only [List.append_eq, List.cons_append, List.nil_append]
 skip
 repeat (first
  | go_big_quiet_skip
  | (go_big_quiet_want; go_big_quiet_op; go_big_quiet_on))
 clear hne hry hrx
 refine wpQuiet_nil ?_
 intro w3 h3
 obtain ⟨hcw3, hfw3, hzw3⟩ := Ext.rules h3
 try simp only [World.size_alloc] at hzw3
 obtain ⟨hcbw3, hfbw3, hzbw3⟩ := Ext.rules (show Ext w2 w3 from (by repeat (first | exact Ext.refl _ | (refine Ext.alloc ?_ _) | (refine Ext.trans ?_ (by assumption)))))
 clear hcw3 hfw3
 replace E := E.trans h3
 replace B1 := B1.ext h3
 clear h3 gi0 gi1 q1 q2
 by_cases hp : p ≤ 1099511627776
 ·by_cases hq : q ≤ 1048576
  ·have hr := HR.out
   rw [if_pos ⟨hp, hq⟩] at hr
   have g1 : decide (1099511627776 < (p : Int)) = false := decide_eq_false (by omega)
   have g2 : decide (1048576 < (q : Int)) = false := decide_eq_false (by omega)
   have w1 : IntKind.i64.wrap (p : Int) = (p : Int) := wrap64 (by omega) (by omega)
   have w2' : IntKind.i64.wrap (q : Int) = (q : Int) := wrap64 (by omega) (by omega)
   have w4 : IntKind.i64.wrap (-(p : Int)) = -(p : Int) := wrap64 (by omega) (by omega)
   clear HR hp hq
   subst hr
   go_upto_region 6 with (fail)
   have h51 : w3.heap.size ≠ b1 := by have := B1.lt; omega
   have hb5 : w.heap.size ≤ w3.heap.size := by have := B1.lt; omega
   obtain ⟨v5, hv⟩ := zgE (w3.alloc (.cells #[.int .i64 (p : Int), .int .i64 (q : Int)] 23))
   rw [← hv]
   have hx : Ext w3 v5 := by rw [hv]; exact (Ext.refl _).alloc _
   have B5 : Held v5 w3.heap.size 23 #[.int .i64 (p : Int), .int .i64 (q : Int)] := by rw [hv]; exact Held.new _ _ _
   clear hv
   generalize w3.heap.size = b5 at *
   replace E := E.trans hx
   replace B1 := B1.ext hx
   clear hx
   obtain ⟨k0, k1⟩ := B5.c2
   have lk := B5.lt
   cases neg
   ·obtain ⟨x0, x1⟩ := B1.c2
    have lx := B1.lt
    have f0 := B1.frozen 0
    have f1 := B1.frozen 1
    have H4 := held_two B1 (.int .i64 (p : Int)) (.int .i64 (q : Int))
    have EF := (E.setCell (p := ⟨b1, 0, none⟩) hbr (.int .i64 (p : Int))).setCell (p := ⟨b1, 1, none⟩) hbr (.int .i64 (q : Int))
    obtain ⟨y0, y1⟩ := H4.c2
    go_wp2
    refine bodyPost_ret (v := .tuple #[.agg #[.int .i64 (p : Int), .int .i64 (q : Int)], .int .i64 0]) (by simp [results, Tryz.results134, go_sem, y0, y1]) rfl ⟨rfl, EF⟩
   ·have g0 := B5.frozen 0
    go_upto_region 8 with (fail)
    replace B5 := held_f0 B5 (.int .i64 (-(p : Int)))
    replace B1 := held_oth B1 (Ne.symm h51) 0 (.int .i64 (-(p : Int)))
    replace E := E.setCell (p := ⟨b5, 0, none⟩) hb5 (.int .i64 (-(p : Int)))
    generalize World.setCell v5 _ _ = v6 at *
    clear k0 k1 lk g0
    obtain ⟨k0, k1⟩ := B5.c2
    have lk := B5.lt
    obtain ⟨x0, x1⟩ := B1.c2
    have lx := B1.lt
    have f0 := B1.frozen 0
    have f1 := B1.frozen 1
    have H4 := held_two B1 (.int .i64 (-(p : Int))) (.int .i64 (q : Int))
    have EF := (E.setCell (p := ⟨b1, 0, none⟩) hbr (.int .i64 (-(p : Int)))).setCell (p := ⟨b1, 1, none⟩) hbr (.int .i64 (q : Int))
    obtain ⟨y0, y1⟩ := H4.c2
    go_wp2
    refine bodyPost_ret (v := .tuple #[.agg #[.int .i64 (-(p : Int)), .int .i64 (q : Int)], .int .i64 0]) (by simp [results, Tryz.results134, go_sem, y0, y1]) rfl ⟨rfl, EF⟩
  ·have hr := HR.out
   rw [if_neg (fun h => hq h.2)] at hr
   have g1 : decide (1099511627776 < (p : Int)) = false := decide_eq_false (by omega)
   have g2 : decide (1048576 < (q : Int)) = true := decide_eq_true (by omega)
   clear HR hp hq
   subst hr
   have f0 := B1.frozen 0
   have f1 := B1.frozen 1
   obtain ⟨x0, x1⟩ := B1.c2
   have lx := B1.lt
   have H4 := held_two B1 (.int .i64 0) (.int .i64 0)
   have EF := (E.setCell (p := ⟨b1, 0, none⟩) hbr (.int .i64 0)).setCell (p := ⟨b1, 1, none⟩) hbr (.int .i64 0)
   obtain ⟨y0, y1⟩ := H4.c2
   go_wp2
   refine bodyPost_ret (v := .tuple #[.agg #[.int .i64 0, .int .i64 0], .int .i64 6]) (by simp [results, Tryz.results134, go_sem, y0, y1]) rfl ⟨rfl, EF⟩
 ·have hr := HR.out
  rw [if_neg (fun h => hp h.1)] at hr
  have g1 : decide (1099511627776 < (p : Int)) = true := decide_eq_true (by omega)
  clear HR hp
  subst hr
  have f0 := B1.frozen 0
  have f1 := B1.frozen 1
  obtain ⟨x0, x1⟩ := B1.c2
  have lx := B1.lt
  have H4 := held_two B1 (.int .i64 0) (.int .i64 0)
  have EF := (E.setCell (p := ⟨b1, 0, none⟩) hbr (.int .i64 0)).setCell (p := ⟨b1, 1, none⟩) hbr (.int .i64 0)
  obtain ⟨y0, y1⟩ := H4.c2
  go_wp2
  refine bodyPost_ret (v := .tuple #[.agg #[.int .i64 0, .int .i64 0], .int .i64 6]) (by simp [results, Tryz.results134, go_sem, y0, y1]) rfl ⟨rfl, EF⟩
theorem addFR_any (a b : Rt) (hia : a.In) (hib : b.In) (w : World) :
  Calls Tryz.prog 85 #[.agg #[.int .i64 a.n, .int .i64 a.d], .agg #[.int .i64 b.n, .int .i64 b.d]] w fun e w' => e = .returned (.tuple #[.agg #[.int .i64 (addR a b).1.n, .int .i64 (addR a b).1.d], .int .i64 (addR a b).2]) ∧ Ext w w' := by
 have NA := fun w => isRatioR_any a.n a.d hia.1 hia.2.1 hia.2.2.1 hia.2.2.2 w
 have NB := fun w => isRatioR_any b.n b.d hib.1 hib.2.1 hib.2.2.1 hib.2.2.2 w
 rw [show Rt.ok ⟨a.n, a.d⟩ = a.ok from rfl] at NA
 rw [show Rt.ok ⟨b.n, b.d⟩ = b.ok from rfl] at NB
 obtain ⟨R, hR0⟩ := zgE (addR a b)
 rw [← hR0]
 have HV := Lib.hid hR0
 clear hR0
 go_enter Tryz.func85, Tryz.ntmps85
 go_upto_region 1 with (fail)
 obtain ⟨v, hv⟩ := zgE (((w.alloc (.cells #[.int .i64 a.n, .int .i64 a.d] 23)).alloc (.cells #[.int .i64 b.n, .int .i64 b.d] 23)).alloc (.cells #[.int .i64 0, .int .i64 0] 23))
 rw [← hv]
 have E : Ext w v := by rw [hv]; exact (((Ext.refl _).alloc _).alloc _).alloc _
 have B1 : Held v w.heap.size 23 #[.int .i64 a.n, .int .i64 a.d] := by rw [hv]; exact ((Held.new _ _ _).alloc _).alloc _
 have B2 : Held v (w.heap.size + 1) 23 #[.int .i64 b.n, .int .i64 b.d] := by rw [hv]; exact (Held.at _ _ _ _ (by simp)).alloc _
 have B3 : Held v (w.heap.size + 1 + 1) 23 #[.int .i64 0, .int .i64 0] := by rw [hv]; exact Held.at _ _ _ _ (by simp)
 clear hv
 obtain ⟨b3, hb3⟩ := zgE (w.heap.size + 1 + 1)
 rw [← hb3] at B3 ⊢
 obtain ⟨b2, hb2⟩ := zgE (w.heap.size + 1)
 rw [← hb2] at B2 ⊢
 obtain ⟨b1, hb1⟩ := zgE (w.heap.size)
 rw [← hb1] at B1 ⊢
 have hbr : w.heap.size ≤ b3 := by omega
 have hbr1 : w.heap.size ≤ b1 := by omega
 have hbr2 : w.heap.size ≤ b2 := by omega
 have hn21 : b2 ≠ b1 := by omega
 have hn31 : b3 ≠ b1 := by omega
 have hn32 : b3 ≠ b2 := by omega
 clear hb1 hb2 hb3
 obtain ⟨k0, k1⟩ := B1.c2
 have lk := B1.lt
 obtain ⟨p0, p1⟩ := B2.c2
 have lp := B2.lt
 cases ha : a.ok
 ·simp only [ha] at NA
  have hr := HV.out
  rw [show addR a b = (rat0, 2) by unfold addR; rw [ha]; simp] at hr
  subst hr
  clear HV NB
  go_upto_region 2 with ((go_at_call 107; (with_reducible refine Calls.mono (NA _) ?_); rintro e w1 ⟨rfl, h1⟩; replace E := E.trans h1; replace B1 := B1.ext h1; replace B2 := B2.ext h1; replace B3 := B3.ext h1; clear h1 k0 k1 lk p0 p1 lp; obtain ⟨k0, k1⟩ := B1.c2; have lk := B1.lt; obtain ⟨p0, p1⟩ := B2.c2; have lp := B2.lt))
  have f0 := B3.frozen 0
  have f1 := B3.frozen 1
  obtain ⟨x0, x1⟩ := B3.c2
  have lx := B3.lt
  have H4 := held_two B3 (.int .i64 0) (.int .i64 0)
  have EF := (E.setCell (p := ⟨b3, 0, none⟩) hbr (.int .i64 0)).setCell (p := ⟨b3, 1, none⟩) hbr (.int .i64 0)
  obtain ⟨y0, y1⟩ := H4.c2
  go_wp2
  refine bodyPost_ret (v := .tuple #[.agg #[.int .i64 0, .int .i64 0], .int .i64 2]) (by simp [results, Tryz.results85, go_sem, y0, y1]) rfl ⟨rfl, EF⟩
 ·simp only [ha] at NA
  cases hb : b.ok
  ·simp only [hb] at NB
   have hr := HV.out
   rw [show addR a b = (rat0, 2) by unfold addR; rw [hb]; simp] at hr
   subst hr
   clear HV
   go_upto_region 2 with (first | (go_at_call 107; (with_reducible refine Calls.mono (NA _) ?_); rintro e w1 ⟨rfl, h1⟩; replace E := E.trans h1; replace B1 := B1.ext h1; replace B2 := B2.ext h1; replace B3 := B3.ext h1; clear h1 k0 k1 lk p0 p1 lp; obtain ⟨k0, k1⟩ := B1.c2; have lk := B1.lt; obtain ⟨p0, p1⟩ := B2.c2; have lp := B2.lt) | (go_at_call 107; (with_reducible refine Calls.mono (NB _) ?_); rintro e w2 ⟨rfl, h1⟩; replace E := E.trans h1; replace B1 := B1.ext h1; replace B2 := B2.ext h1; replace B3 := B3.ext h1; clear h1 k0 k1 lk p0 p1 lp; obtain ⟨k0, k1⟩ := B1.c2; have lk := B1.lt; obtain ⟨p0, p1⟩ := B2.c2; have lp := B2.lt))
   have f0 := B3.frozen 0
   have f1 := B3.frozen 1
   obtain ⟨x0, x1⟩ := B3.c2
   have lx := B3.lt
   have H4 := held_two B3 (.int .i64 0) (.int .i64 0)
   have EF := (E.setCell (p := ⟨b3, 0, none⟩) hbr (.int .i64 0)).setCell (p := ⟨b3, 1, none⟩) hbr (.int .i64 0)
   obtain ⟨y0, y1⟩ := H4.c2
   go_wp2
   refine bodyPost_ret (v := .tuple #[.agg #[.int .i64 0, .int .i64 0], .int .i64 2]) (by simp [results, Tryz.results85, go_sem, y0, y1]) rfl ⟨rfl, EF⟩
  ·simp only [hb] at NB
   go_upto_region 3 with (first | (go_at_call 107; (with_reducible refine Calls.mono (NA _) ?_); rintro e w1 ⟨rfl, h1⟩; replace E := E.trans h1; replace B1 := B1.ext h1; replace B2 := B2.ext h1; replace B3 := B3.ext h1; clear h1 k0 k1 lk p0 p1 lp; obtain ⟨k0, k1⟩ := B1.c2; have lk := B1.lt; obtain ⟨p0, p1⟩ := B2.c2; have lp := B2.lt) | (go_at_call 107; (with_reducible refine Calls.mono (NB _) ?_); rintro e w2 ⟨rfl, h1⟩; replace E := E.trans h1; replace B1 := B1.ext h1; replace B2 := B2.ext h1; replace B3 := B3.ext h1; clear h1 k0 k1 lk p0 p1 lp; obtain ⟨k0, k1⟩ := B1.c2; have lk := B1.lt; obtain ⟨p0, p1⟩ := B2.c2; have lp := B2.lt))
   clear NA NB
   obtain ⟨m1, m2, m3, m4⟩ := ok_mul ha hb
   obtain ⟨m5, m6, _, _⟩ := ok_mul hb ha
   have hr := HV.out
   rw [show addR a b = ratV (a.n * b.d + b.n * a.d) (a.d * b.d) by unfold addR; rw [ha, hb]; rfl, ratV_pos m3] at hr
   have v1 : IntKind.i64.wrap (a.n * b.d) = a.n * b.d := wrap64 (by omega) (by omega)
   have v2 : IntKind.i64.wrap (b.n * a.d) = b.n * a.d := wrap64 (by omega) (by omega)
   have v4 : IntKind.i64.wrap (a.d * b.d) = a.d * b.d := wrap64 (by omega) (by omega)
   have v5 : IntKind.u64.wrap (a.d * b.d) = (((a.d * b.d).natAbs : Nat) : Int) := by
    rw [IntKind.wrap_u64]
    generalize a.d * b.d = z at *
    omega
   clear HV ha hb hia hib
   have hrr := Lib.hid hr
   clear hr
   generalize hx : a.n * b.d = x at *
   generalize hy : b.n * a.d = y at *
   generalize hz : a.d * b.d = z at *
   replace hx := Lib.hid hx
   replace hy := Lib.hid hy
   replace hz := Lib.hid hz
   have v3 : IntKind.i64.wrap (x + y) = x + y := wrap64 (by omega) (by omega)
   have NS := fun w => sizeR_any (x + y) (by omega) (by omega) w
   have NM := fun w => madeR_any (decide (x + y < 0)) (x + y).natAbs z.natAbs (by omega) (by omega) (by omega) w
   rw [← hrr.out] at NM
   clear hrr m1 m2 m3 m4 m5 m6
   have x1 := hx.out
   have y1 := hy.out
   have z1 := hz.out
   go_upto_region 4 with (fail)
   generalize (x + y).natAbs = nn at *
   generalize z.natAbs = dd at *
   generalize hsg : decide (x + y < 0) = sg at *
   obtain ⟨⟨Rn, Rd⟩, Re⟩ := R
   clear k0 k1 lk p0 p1 lp
   refine wp_region_z 15 [13, 14] (fun x => Ext w2 x) mixed rfl ?_
   intro vz hvz
   have HC := hvz
   refine z_stills (g := 6) [0, 1, 2, 4, 5, 6, 7, 8, 9] [_, _, _, _, _, _, _, _, _] ⟨rfl, rfl, rfl, rfl, rfl, rfl, rfl, rfl, rfl, trivial⟩ (by kernel_rfl) (by kernel_rfl) HC ?_
   simp only [zgA, zgB, zgC]
   apply Exists.intro
   refine ⟨fun u hu => ?_, ?_⟩
   ·obtain ⟨k0, k1⟩ := (B1.ext hu).c2
    obtain ⟨p0, p1⟩ := (B2.ext hu).c2
    have lk := (B1.ext hu).lt
    have lp := (B2.ext hu).lt
    repeat (first | go_big_quiet_skip | (go_big_quiet_want; go_big_quiet_op; go_big_quiet_on))
    refine wpQuiet_nil ?_
    rfl
   refine z_one 3 rfl (by kernel_rfl) ?_
   simp only [zgA, zgB, zgC]
   go_wp2_with (go_at_call 135; (with_reducible refine Calls.mono (NS _) ?_); rintro e va ⟨rfl, h4⟩)
   replace HC := HC.trans h4
   clear h4 hvz
   refine onQ_in HC ?_
   refine z_one 10 rfl (by kernel_rfl) ?_
   simp only [zgA, zgB, zgC]
   go_wp2_with (go_at_call 134; (with_reducible refine Calls.mono (NM _) ?_); rintro e vb ⟨rfl, h4⟩)
   replace HC := HC.trans h4
   clear h4
   refine onQ_in HC ?_
   refine z_stills (g := 2) [11, 12] [_, _] ⟨rfl, rfl, trivial⟩ (by kernel_rfl) (by kernel_rfl) HC ?_
   simp only [zgA, zgB, zgC]
   apply Exists.intro
   refine ⟨fun u hu => ?_, ?_⟩
   ·skip
    repeat (first | go_big_quiet_skip | (go_big_quiet_want; go_big_quiet_op; go_big_quiet_on))
    refine wpQuiet_nil ?_
    rfl
   replace B3 := B3.ext HC
   replace E := E.trans HC
   refine z_end 13 rfl (by kernel_rfl) ?_
   simp only [zgA, zgB, zgC]
   have f0 := B3.frozen 0
   have f1 := B3.frozen 1
   obtain ⟨x0, x1⟩ := B3.c2
   have lx := B3.lt
   have H4 := held_two B3 (.int .i64 Rn) (.int .i64 Rd)
   have EF := (E.setCell (p := ⟨b3, 0, none⟩) hbr (.int .i64 Rn)).setCell (p := ⟨b3, 1, none⟩) hbr (.int .i64 Rd)
   obtain ⟨y0, y1'⟩ := H4.c2
   go_wp2
   refine onQ_last ?_
   refine z_end 14 rfl (by kernel_rfl) ?_
   simp only [zgA, zgB, zgC]
   go_wp2
   refine onQ_last ?_
   refine z_done (by kernel_rfl) ?_
   go_wp2
   refine bodyPost_ret (v := .tuple #[.agg #[.int .i64 Rn, .int .i64 Rd], .int .i64 Re]) (by simp [results, Tryz.results85, go_sem, y0, y1']) rfl ⟨rfl, EF⟩
theorem subFR_any (a b : Rt) (hia : a.In) (hib : b.In) (w : World) :
  Calls Tryz.prog 93 #[.agg #[.int .i64 a.n, .int .i64 a.d], .agg #[.int .i64 b.n, .int .i64 b.d]] w fun e w' => e = .returned (.tuple #[.agg #[.int .i64 (subR a b).1.n, .int .i64 (subR a b).1.d], .int .i64 (subR a b).2]) ∧ Ext w w' := by
 have NA := fun w => isRatioR_any a.n a.d hia.1 hia.2.1 hia.2.2.1 hia.2.2.2 w
 have NB := fun w => isRatioR_any b.n b.d hib.1 hib.2.1 hib.2.2.1 hib.2.2.2 w
 rw [show Rt.ok ⟨a.n, a.d⟩ = a.ok from rfl] at NA
 rw [show Rt.ok ⟨b.n, b.d⟩ = b.ok from rfl] at NB
 obtain ⟨R, hR0⟩ := zgE (subR a b)
 rw [← hR0]
 have HV := Lib.hid hR0
 clear hR0
 go_enter Tryz.func93, Tryz.ntmps93
 go_upto_region 1 with (fail)
 obtain ⟨v, hv⟩ := zgE (((w.alloc (.cells #[.int .i64 a.n, .int .i64 a.d] 23)).alloc (.cells #[.int .i64 b.n, .int .i64 b.d] 23)).alloc (.cells #[.int .i64 0, .int .i64 0] 23))
 rw [← hv]
 have E : Ext w v := by rw [hv]; exact (((Ext.refl _).alloc _).alloc _).alloc _
 have B1 : Held v w.heap.size 23 #[.int .i64 a.n, .int .i64 a.d] := by rw [hv]; exact ((Held.new _ _ _).alloc _).alloc _
 have B2 : Held v (w.heap.size + 1) 23 #[.int .i64 b.n, .int .i64 b.d] := by rw [hv]; exact (Held.at _ _ _ _ (by simp)).alloc _
 have B3 : Held v (w.heap.size + 1 + 1) 23 #[.int .i64 0, .int .i64 0] := by rw [hv]; exact Held.at _ _ _ _ (by simp)
 clear hv
 obtain ⟨b3, hb3⟩ := zgE (w.heap.size + 1 + 1)
 rw [← hb3] at B3 ⊢
 obtain ⟨b2, hb2⟩ := zgE (w.heap.size + 1)
 rw [← hb2] at B2 ⊢
 obtain ⟨b1, hb1⟩ := zgE (w.heap.size)
 rw [← hb1] at B1 ⊢
 have hbr : w.heap.size ≤ b3 := by omega
 have hbr1 : w.heap.size ≤ b1 := by omega
 have hbr2 : w.heap.size ≤ b2 := by omega
 have hn21 : b2 ≠ b1 := by omega
 have hn31 : b3 ≠ b1 := by omega
 have hn32 : b3 ≠ b2 := by omega
 clear hb1 hb2 hb3
 obtain ⟨k0, k1⟩ := B1.c2
 have lk := B1.lt
 obtain ⟨p0, p1⟩ := B2.c2
 have lp := B2.lt
 cases ha : a.ok
 ·simp only [ha] at NA
  have hr := HV.out
  rw [show subR a b = (rat0, 2) by unfold subR; rw [ha]; simp] at hr
  subst hr
  clear HV NB
  go_upto_region 2 with ((go_at_call 107; (with_reducible refine Calls.mono (NA _) ?_); rintro e w1 ⟨rfl, h1⟩; replace E := E.trans h1; replace B1 := B1.ext h1; replace B2 := B2.ext h1; replace B3 := B3.ext h1; clear h1 k0 k1 lk p0 p1 lp; obtain ⟨k0, k1⟩ := B1.c2; have lk := B1.lt; obtain ⟨p0, p1⟩ := B2.c2; have lp := B2.lt))
  have f0 := B3.frozen 0
  have f1 := B3.frozen 1
  obtain ⟨x0, x1⟩ := B3.c2
  have lx := B3.lt
  have H4 := held_two B3 (.int .i64 0) (.int .i64 0)
  have EF := (E.setCell (p := ⟨b3, 0, none⟩) hbr (.int .i64 0)).setCell (p := ⟨b3, 1, none⟩) hbr (.int .i64 0)
  obtain ⟨y0, y1⟩ := H4.c2
  go_wp2
  refine bodyPost_ret (v := .tuple #[.agg #[.int .i64 0, .int .i64 0], .int .i64 2]) (by simp [results, Tryz.results93, go_sem, y0, y1]) rfl ⟨rfl, EF⟩
 ·simp only [ha] at NA
  cases hb : b.ok
  ·simp only [hb] at NB
   have hr := HV.out
   rw [show subR a b = (rat0, 2) by unfold subR; rw [hb]; simp] at hr
   subst hr
   clear HV
   go_upto_region 2 with (first | (go_at_call 107; (with_reducible refine Calls.mono (NA _) ?_); rintro e w1 ⟨rfl, h1⟩; replace E := E.trans h1; replace B1 := B1.ext h1; replace B2 := B2.ext h1; replace B3 := B3.ext h1; clear h1 k0 k1 lk p0 p1 lp; obtain ⟨k0, k1⟩ := B1.c2; have lk := B1.lt; obtain ⟨p0, p1⟩ := B2.c2; have lp := B2.lt) | (go_at_call 107; (with_reducible refine Calls.mono (NB _) ?_); rintro e w2 ⟨rfl, h1⟩; replace E := E.trans h1; replace B1 := B1.ext h1; replace B2 := B2.ext h1; replace B3 := B3.ext h1; clear h1 k0 k1 lk p0 p1 lp; obtain ⟨k0, k1⟩ := B1.c2; have lk := B1.lt; obtain ⟨p0, p1⟩ := B2.c2; have lp := B2.lt))
   have f0 := B3.frozen 0
   have f1 := B3.frozen 1
   obtain ⟨x0, x1⟩ := B3.c2
   have lx := B3.lt
   have H4 := held_two B3 (.int .i64 0) (.int .i64 0)
   have EF := (E.setCell (p := ⟨b3, 0, none⟩) hbr (.int .i64 0)).setCell (p := ⟨b3, 1, none⟩) hbr (.int .i64 0)
   obtain ⟨y0, y1⟩ := H4.c2
   go_wp2
   refine bodyPost_ret (v := .tuple #[.agg #[.int .i64 0, .int .i64 0], .int .i64 2]) (by simp [results, Tryz.results93, go_sem, y0, y1]) rfl ⟨rfl, EF⟩
  ·simp only [hb] at NB
   go_upto_region 3 with (first | (go_at_call 107; (with_reducible refine Calls.mono (NA _) ?_); rintro e w1 ⟨rfl, h1⟩; replace E := E.trans h1; replace B1 := B1.ext h1; replace B2 := B2.ext h1; replace B3 := B3.ext h1; clear h1 k0 k1 lk p0 p1 lp; obtain ⟨k0, k1⟩ := B1.c2; have lk := B1.lt; obtain ⟨p0, p1⟩ := B2.c2; have lp := B2.lt) | (go_at_call 107; (with_reducible refine Calls.mono (NB _) ?_); rintro e w2 ⟨rfl, h1⟩; replace E := E.trans h1; replace B1 := B1.ext h1; replace B2 := B2.ext h1; replace B3 := B3.ext h1; clear h1 k0 k1 lk p0 p1 lp; obtain ⟨k0, k1⟩ := B1.c2; have lk := B1.lt; obtain ⟨p0, p1⟩ := B2.c2; have lp := B2.lt))
   clear NA NB
   have hr := HV.out
   have bd := ok_bd hb
   have v1 : IntKind.i64.wrap (-b.n) = -b.n := wrap64 (by omega) (by omega)
   have NS := fun w => addFR_any a b.neg hia (ok_in (by rw [neg_ok]; exact hb)) w
   rw [← sub_add_neg, ← hr] at NS
   clear HV hr bd ha hb hia hib
   obtain ⟨⟨Rn, Rd⟩, Re⟩ := R
   simp only [Rt.neg] at NS
   go_wp2_with (first | (go_at_call 85; (with_reducible refine Calls.mono (NS _) ?_); rintro e wt ⟨rfl, ht⟩; replace E := E.trans ht; replace B3 := B3.ext ht; have f0 := B3.frozen 0; have f1 := B3.frozen 1; obtain ⟨x0, x1⟩ := B3.c2; have lx := B3.lt))
   have H4 := held_two B3 (.int .i64 Rn) (.int .i64 Rd)
   have EF := (E.setCell (p := ⟨b3, 0, none⟩) hbr (.int .i64 Rn)).setCell (p := ⟨b3, 1, none⟩) hbr (.int .i64 Rd)
   obtain ⟨y0, y1⟩ := H4.c2
   go_wp2
   refine bodyPost_ret (v := .tuple #[.agg #[.int .i64 Rn, .int .i64 Rd], .int .i64 Re]) (by simp [results, Tryz.results93, go_sem, y0, y1]) rfl ⟨rfl, EF⟩
theorem productR_any (A : Option Addr) (n ca : Nat) (f : Nat → Nat) (M : Nat) (hM : M < 18446744073709551616) (hM1 : 1 ≤ M) (hf : ∀ i, i < n → 1 ≤ f i) (hf2 : ∀ i, i < n → f i < 18446744073709551616) (w : World) (hA : RowsAt w A n 1 (u64r f)) (hn : n ≤ 9223372036854775807) :
  Calls Tryz.prog 152 #[.slice A n ca, .int .u64 (M : Int)] w fun e w' => e = .returned (.tuple #[.int .u64 (((if upTo f n ≤ M then upTo f n else 0) : Nat) : Int), .bool (decide (upTo f n ≤ M))]) ∧ Ext w w' := by
 obtain ⟨R, hR⟩ : ∃ R : Nat × Bool, R = (if upTo f n ≤ M then upTo f n else 0, decide (upTo f n ≤ M)) := ⟨_, rfl⟩
 have HR := Lib.hid hR
 rw [show (if upTo f n ≤ M then upTo f n else 0) = R.1 by rw [hR], show decide (upTo f n ≤ M) = R.2 by rw [hR]]
 clear hR
 obtain ⟨r1, r2⟩ := R
 go_enter Tryz.func152, Tryz.ntmps152
 go_upto_region 3 with (fail)
 go_loopw [6, 7] (fun p i wr => ∃ k : Nat, k ≤ n ∧ i = .int .i64 k ∧ ∃ q : Nat, p = .int .u64 (q : Int) ∧ Hid (q = upTo f k) ∧ 1 ≤ q ∧ q ≤ M ∧ Ext w wr) (fun _ i _ => n - (intOf i).toNat)
 case atStart => exact ⟨0, Nat.zero_le _, rfl, 1, rfl, rfl, Nat.le_refl _, hM1, Ext.refl _⟩
 case round =>
  obtain ⟨k, hk, rfl, q, rfl, hq, hq1, hqM, hE⟩ := hrel
  obtain ⟨wo, rfl⟩ := zgE wr
  by_cases hlt : k < n
  ·have RA := hA.ext hE
   obtain ⟨b, off, rfl, hb, hc⟩ := RA (by omega)
   have c0 : wo.cell? ⟨b, off + k, none⟩ = some (.int .u64 (f k : Int)) := by simpa [u64r] using hc k 0 _ hlt rfl
   have F1 := hf k hlt
   have F2 := hf2 k hlt
   have hs : Hid (upTo f (k + 1) = q * f k) := by unfold Hid; rw [hq.out]; rfl
   have hmn := upTo_mono hf (k + 1) n (by omega) (Nat.le_refl _)
   have hiff := most_iff (M := M) (p := q) (x := f k) hq1
   have HM := Lib.hid hmn
   have wq : IntKind.u64.wrap ((M : Int) / (q : Int)) = ((M / q : Nat) : Int) := by
    rw [IntKind.wrap_u64, ← Int.natCast_ediv]
    have := Nat.div_le_self M q
    generalize M / q = z at this ⊢
    exact Int.emod_eq_of_lt (by omega) (by omega)
   have q0 : (q : Int) ≠ 0 := by omega
   have q1 : ((q : Int) == 0) = false := beq_eq_false_iff_ne.2 q0
   clear hmn hf hf2 hc hA RA
   generalize f k = x at *
   generalize M / q = mq at *
   go_upto_region 5 with (fail)
   by_cases hbig : M < q * x
   ·have g1 : decide (mq < x) = true := decide_eq_true (hiff.2 hbig)
    have hno : ¬ upTo f n ≤ M := by
     have := HM.out
     rw [hs.out] at this
     omega
    have hr := HR.out
    rw [if_neg hno, decide_eq_false hno] at hr
    obtain ⟨rfl, rfl⟩ := Prod.mk.inj hr
    clear hr hno HR HM hs hq hiff hbig
    refine wp_region_xw wo mixed (by kernel_rfl) (by repeat (first | exact Ext.refl _ | (refine Ext.alloc ?_ _) | (refine Ext.trans ?_ (by assumption)))) ?_
    intro hne hrx hry
    try simp only []
    try simp only [List.append_eq, List.cons_append, List.nil_append]
    skip
    repeat (first
     | go_big_quiet_skip
     | (go_big_quiet_want; go_big_quiet_op; go_big_quiet_on))
    clear hne hry hrx
    refine wpQuiet_nil ?_
    intro w2 h2
    obtain ⟨hcw2, hfw2, hzw2⟩ := Ext.rules h2
    try simp only [World.size_alloc] at hzw2
    obtain ⟨hcbw2, hfbw2, hzbw2⟩ := Ext.rules (show Ext wo w2 from (by repeat (first | exact Ext.refl _ | (refine Ext.alloc ?_ _) | (refine Ext.trans ?_ (by assumption)))))
    clear hcw2 hfw2
    go_wp2
    go_ret2
    exact ⟨rfl, hE.trans h2⟩
   ·have g1 : decide (mq < x) = false := decide_eq_false (fun h => hbig (hiff.1 h))
    have v1 : IntKind.u64.wrap ((q : Int) * (x : Int)) = ((q * x : Nat) : Int) := by
     rw [IntKind.wrap_u64, ← Int.natCast_mul]
     generalize q * x = z at *
     exact Int.emod_eq_of_lt (by omega) (by omega)
    have hp1 : 1 ≤ q * x := Nat.mul_pos hq1 F1
    have hp2 : q * x ≤ M := by omega
    generalize q * x = y at *
    clear hiff hbig HM
    refine wp_region_xw wo mixed (by kernel_rfl) (by repeat (first | exact Ext.refl _ | (refine Ext.alloc ?_ _) | (refine Ext.trans ?_ (by assumption)))) ?_
    intro hne hrx hry
    try simp only []
    try simp only [List.append_eq, List.cons_append, List.nil_append]
    skip
    repeat (first
     | go_big_quiet_skip
     | (go_big_quiet_want; go_big_quiet_op; go_big_quiet_on))
    clear hne hry hrx
    refine wpQuiet_nil ?_
    intro w2 h2
    obtain ⟨hcw2, hfw2, hzw2⟩ := Ext.rules h2
    try simp only [World.size_alloc] at hzw2
    obtain ⟨hcbw2, hfbw2, hzbw2⟩ := Ext.rules (show Ext wo w2 from (by repeat (first | exact Ext.refl _ | (refine Ext.alloc ?_ _) | (refine Ext.trans ?_ (by assumption)))))
    clear hcw2 hfw2
    go_wp2
    exact ⟨⟨k + 1, by omega, by go_num, y, rfl, hs.out.symm, hp1, hp2, hE.trans h2⟩, by simp [intOf]; omega⟩
  ·obtain rfl : k = n := by omega
   go_wp2
   go_ret2
   have hr := HR.out
   rw [← hq.out, if_pos hqM, decide_eq_true hqM] at hr
   obtain ⟨rfl, rfl⟩ := Prod.mk.inj hr
   exact ⟨rfl, hE⟩
theorem cancelR_any (F1 F2 : Option Addr) (n m c1 c2 : Nat) (fu fd : Nat → Nat) (neg : Bool) (b base : Nat) (w0 w : World) (hE0 : Ext w0 w) (hb : w0.heap.size ≤ b) (hbb : b < base) (HB : Held w b 148 #[.bool neg, .slice F1 n c1, .slice F2 m c2]) (hP : w.ownsRow base 177 1 (.slice F1 n c1) n (flatL (u64r fu) n)) (hQ : w.ownsRow base 177 1 (.slice F2 m c2) m (flatL (u64r fd) m)) (hap : Apart (.slice F1 n c1) (.slice F2 m c2)) (hn : n ≤ 1000) (hm : m ≤ 1000) (hu1 : ∀ i, i < n → 1 ≤ fu i) (hu2 : ∀ i, i < n → fu i < 18446744073709551616) (hd1 : ∀ i, i < m → 1 ≤ fd i) (hd2 : ∀ i, i < m → fd i < 18446744073709551616) :
  Calls Tryz.prog 151 #[.pointer (some ⟨b, 0, none⟩)] w fun e w' => e = .returned (.tuple #[]) ∧ Ext w0 w' ∧ (∀ x t cs, (∀ a, F1 = some a → a.block ≠ x) → (∀ a, F2 = some a → a.block ≠ x) → Held w x t cs → Held w' x t cs) ∧ Held w' b 148 #[.bool neg, .slice F1 n c1, .slice F2 m c2] ∧ ∃ U D, RedI fu fd n m U D n 0 ∧ w'.ownsRow base 177 1 (.slice F1 n c1) n (flatL (u64r U) n) ∧ w'.ownsRow base 177 1 (.slice F2 m c2) m (flatL (u64r D) m) := by
 go_enter Tryz.func151, Tryz.ntmps151
 go_upto_region 0 with (fail)
 obtain ⟨k0, k1, k2⟩ := HB.c3
 have lk := HB.lt
 refine wp_region_xw w mixed (by kernel_rfl) (by repeat (first | exact Ext.refl _ | (refine Ext.alloc ?_ _) | (refine Ext.trans ?_ (by assumption)))) ?_
 intro hne hrx hry
 try simp only []
 try simp only [List.append_eq, List.cons_append, List.nil_append]
 skip
 repeat (first
  | go_big_quiet_skip
  | (go_big_quiet_want; go_big_quiet_op; go_big_quiet_on))
 clear hne hry hrx
 refine wpQuiet_nil ?_
 intro v h
 obtain ⟨hcv, hfv, hzv⟩ := Ext.rules h
 try simp only [World.size_alloc] at hzv
 obtain ⟨hcbv, hfbv, hzbv⟩ := Ext.rules (show Ext w v from (by repeat (first | exact Ext.refl _ | (refine Ext.alloc ?_ _) | (refine Ext.trans ?_ (by assumption)))))
 clear hcv hfv
 clear k0 k1 k2 lk
 have hE1 := hE0.trans h
 have hK1 : Hid (∀ x t cs, (∀ a, F1 = some a → a.block ≠ x) → (∀ a, F2 = some a → a.block ≠ x) → Held w x t cs → Held v x t cs) := fun x t cs _ _ hx => hx.ext h
 replace HB := HB.ext h
 replace hP := owns_ext hP h
 replace hQ := owns_ext hQ h
 clear h hE0
 go_upto_region 2 with (fail)
 go_loopw [4] (fun iv wr => ∃ i : Nat, i ≤ n ∧ iv = .int .i64 (i : Int) ∧ Ext w0 wr ∧ Hid (∀ x t cs, (∀ a, F1 = some a → a.block ≠ x) → (∀ a, F2 = some a → a.block ≠ x) → Held w x t cs → Held wr x t cs) ∧ ∃ U D, RedI fu fd n m U D i 0 ∧ Held wr b 148 #[.bool neg, .slice F1 n c1, .slice F2 m c2] ∧ wr.ownsRow base 177 1 (.slice F1 n c1) n (flatL (u64r U) n) ∧ wr.ownsRow base 177 1 (.slice F2 m c2) m (flatL (u64r D) m)) (fun iv _ => n - (intOf iv).toNat)
 case atStart => exact ⟨0, Nat.zero_le _, rfl, hE1, hK1, fu, fd, RedI.start hu1 hd1, HB, hP, hQ⟩
 case round =>
  clear HB hP hQ hE1 hK1
  obtain ⟨i, hi0, rfl, hEo, hKo, Uo, Do, hRo, HBo, hPo, hQo⟩ := hrel
  obtain ⟨wo, rfl⟩ := zgE wr
  by_cases hlt : i < n
  ·go_upto_region 5 with (fail)
   go_loopw [5] (fun jv wr => ∃ j : Nat, j ≤ m ∧ jv = .int .i64 (j : Int) ∧ Ext w0 wr ∧ Hid (∀ x t cs, (∀ a, F1 = some a → a.block ≠ x) → (∀ a, F2 = some a → a.block ≠ x) → Held w x t cs → Held wr x t cs) ∧ ∃ U D, RedI fu fd n m U D i j ∧ Held wr b 148 #[.bool neg, .slice F1 n c1, .slice F2 m c2] ∧ wr.ownsRow base 177 1 (.slice F1 n c1) n (flatL (u64r U) n) ∧ wr.ownsRow base 177 1 (.slice F2 m c2) m (flatL (u64r D) m)) (fun jv _ => m - (intOf jv).toNat)
   case atStart => exact ⟨0, Nat.zero_le _, rfl, hEo, hKo, Uo, Do, hRo, HBo, hPo, hQo⟩
   case round =>
    clear hEo hRo hPo hQo HBo hKo
    obtain ⟨j, hj0, rfl, hE, hK, U, D, hR, HB, hP, hQ⟩ := hrel
    obtain ⟨wo, rfl⟩ := zgE wr
    by_cases hltj : j < m
    ·obtain ⟨g1, x1, hf1, hg1, hl1⟩ := own_form hP (by omega)
     obtain ⟨g2, x2, hf2, hg2, hl2⟩ := own_form hQ (by omega)
     obtain ⟨rfl, _, rfl⟩ : F1 = some ⟨g1, 0, none⟩ ∧ n = n ∧ c1 = x1 := by simpa using hf1
     obtain ⟨rfl, _, rfl⟩ : F2 = some ⟨g2, 0, none⟩ ∧ m = m ∧ c2 = x2 := by simpa using hf2
     have hne : g1 ≠ g2 := hap g1 g2 rfl rfl
     clear hf1 hf2
     have p0 := u64_cell hP hlt
     have q0 := u64_cell hQ hltj
     have hRS := hR.step hlt hltj
     have hU1 := hR.up i hlt
     have hD1 := hR.dn j hltj
     have hu2i := hu2 i hlt
     have hd2j := hd2 j hltj
     have NC := fun w => gcdR_any (U i) (D j) (by omega) w
     have hgp : 0 < Nat.gcd (U i) (D j) := Nat.gcd_pos_of_pos_right _ hD1.1
     generalize hgg : Nat.gcd (U i) (D j) = g at *
     go_upto_region 7 with (fail)
     refine wp_region_xw wo mixed (by kernel_rfl) (by repeat (first | exact Ext.refl _ | (refine Ext.alloc ?_ _) | (refine Ext.trans ?_ (by assumption)))) ?_
     intro hne hrx hry
     try simp only []
     try simp only [List.append_eq, List.cons_append, List.nil_append]
     skip
     repeat (first
      | go_big_quiet_skip
      | (go_big_quiet_want; go_big_quiet_op; go_big_quiet_on)
      | (go_big_quiet_want; go_big_quiet_op; apply Exists.intro; refine ⟨fun u => ?_, ?_⟩
         ·first
           | (go_at_call 150; (with_reducible refine Calls.mono (NC _) ?_); rintro e w' ⟨rfl, hb⟩; exact ⟨rfl, u.back hb⟩)
         go_big_quiet_on))
     clear hne hry hrx
     refine wpQuiet_nil ?_
     intro w2 h2
     obtain ⟨hcw2, hfw2, hzw2⟩ := Ext.rules h2
     try simp only [World.size_alloc] at hzw2
     obtain ⟨hcbw2, hfbw2, hzbw2⟩ := Ext.rules (show Ext wo w2 from (by repeat (first | exact Ext.refl _ | (refine Ext.alloc ?_ _) | (refine Ext.trans ?_ (by assumption)))))
     clear hcw2 hfw2
     clear p0 q0 hl1 hl2
     replace hE := hE.trans h2
     have hK2 : Hid (∀ x t cs, (∀ a, some (Addr.mk g1 0 none) = some a → a.block ≠ x) → (∀ a, some (Addr.mk g2 0 none) = some a → a.block ≠ x) → Held w x t cs → Held w2 x t cs) := fun x t cs e1 e2 hx => (hK.out x t cs e1 e2 hx).ext h2
     clear hK
     replace HB := HB.ext h2
     replace hP := owns_ext hP h2
     replace hQ := owns_ext hQ h2
     clear h2
     have gi0 : (g : Int) ≠ 0 := by omega
     have gi1 : ((g : Int) == 0) = false := beq_eq_false_iff_ne.2 gi0
     have hq1 : IntKind.u64.wrap ((U i : Int) / (g : Int)) = ((U i / g : Nat) : Int) := by
      rw [IntKind.wrap_u64, ← Int.natCast_ediv]
      have := Nat.div_le_self (U i) g
      generalize U i / g = z at this ⊢
      exact Int.emod_eq_of_lt (by omega) (by omega)
     have hq2 : IntKind.u64.wrap ((D j : Int) / (g : Int)) = ((D j / g : Nat) : Int) := by
      rw [IntKind.wrap_u64, ← Int.natCast_ediv]
      have := Nat.div_le_self (D j) g
      generalize D j / g = z at this ⊢
      exact Int.emod_eq_of_lt (by omega) (by omega)
     clear hU1 hD1 hu2i hd2j NC hgp
     generalize U i / g = x1 at *
     generalize D j / g = x2 at *
     go_upto_region 8 with (fail)
     refine wp_region_z 20 [19] (fun x => x.ownsRow base 177 1 (.slice (some ⟨g2, 0, none⟩) m c2) m (flatL (u64r D) m)) mixed rfl ?_
     intro vz hvz
     have hCC := owns_ext hQ hvz
     refine z_stills (g := 6) [0, 1, 2, 3, 4, 5, 8, 10, 11, 14, 6, 12, 13, 15] [_, _, _, _, _, _, _, _, _, _, _, _, _, _] ⟨rfl, rfl, rfl, rfl, rfl, rfl, rfl, rfl, rfl, rfl, rfl, rfl, rfl, rfl, trivial⟩ (by kernel_rfl) (by kernel_rfl) hCC ?_
     simp only [zgA, zgB, zgC]
     apply Exists.intro
     refine ⟨fun u hu => ?_, ?_⟩
     ·have q0 := u64_cell hu hltj
      have l2 := own_lt hu
      repeat (first | go_big_quiet_skip | (go_big_quiet_want; go_big_quiet_op; go_big_quiet_on))
      refine wpQuiet_nil ?_
      rfl
     replace hP := owns_ext hP hvz
     replace hQ := owns_ext hQ hvz
     replace HB := HB.ext hvz
     replace hE := hE.trans hvz
     have hK3 : Hid (∀ x t cs, (∀ a, some (Addr.mk g1 0 none) = some a → a.block ≠ x) → (∀ a, some (Addr.mk g2 0 none) = some a → a.block ≠ x) → Held w x t cs → Held ((vz.setCell ⟨g1, i, none⟩ (.int .u64 (x1 : Int))).setCell ⟨g2, j, none⟩ (.int .u64 (x2 : Int))) x t cs) := fun x t cs e1 e2 hx => held_oth (held_oth ((hK2.out x t cs e1 e2 hx).ext hvz) (Ne.symm (e1 _ rfl)) i _) (Ne.symm (e2 _ rfl)) j _
     clear hK2
     have p0 := u64_cell hP hlt
     have l1 := own_lt hP
     refine z_one 7 rfl (by kernel_rfl) ?_
     simp only [zgA, zgB, zgC]
     go_wp2
     refine onQ_in hCC ?_
     refine z_one 9 rfl (by kernel_rfl) ?_
     simp only [zgA, zgB, zgC]
     go_wp2
     refine onQ_in hCC ?_
     refine z_one 16 rfl (by kernel_rfl) ?_
     simp only [zgA, zgB, zgC]
     go_wp2
     refine onQ_in hCC ?_
     have E3 := hE.setCell (p := ⟨g1, i, none⟩) (by show w0.heap.size ≤ g1; omega) (.int .u64 (x1 : Int))
     have hP3 := u64_set hP hlt x1
     have hQ3 := u64_other (i := i) hQ (Ne.symm hne) (.int .u64 (x1 : Int))
     have HB3 := held_oth HB (b' := g1) (by omega) i (.int .u64 (x1 : Int))
     have f0 := World.ownsRow.frozenAt hP i
     clear hCC
     have hCC := hQ3
     refine z_one 17 rfl (by kernel_rfl) ?_
     simp only [zgA, zgB, zgC]
     go_wp2
     refine onQ_in hCC ?_
     generalize World.setCell vz _ _ = w3 at *
     clear f0 p0 l1 hP hQ HB hE hvz
     have E4 := E3.setCell (p := ⟨g2, j, none⟩) (by show w0.heap.size ≤ g2; omega) (.int .u64 (x2 : Int))
     have hQ4 := u64_set hQ3 hltj x2
     have hP4 := u64_other (i := j) hP3 hne (.int .u64 (x2 : Int))
     have HB4 := held_oth HB3 (b' := g2) (by omega) j (.int .u64 (x2 : Int))
     have f0 := World.ownsRow.frozenAt hQ3 j
     have p0 := u64_cell hQ3 hltj
     have l1 := own_lt hQ3
     refine z_one 18 rfl (by kernel_rfl) ?_
     simp only [zgA, zgB, zgC]
     go_wp2
     refine onQ_in hCC ?_
     refine z_end 19 rfl (by kernel_rfl) ?_
     simp only [zgA, zgB, zgC]
     go_wp2
     refine onQ_last ?_
     refine z_done (by kernel_rfl) ?_
     generalize World.setCell w3 _ _ = w4 at *
     clear f0 p0 l1 hP3 hQ3 HB3 E3 hCC
     go_wp2
     exact ⟨⟨j + 1, by omega, by go_num, E4, hK3, _, _, hRS, HB4, hP4, hQ4⟩, by simp [intOf]; omega⟩
    ·obtain rfl : j = m := by omega
     go_wp2
     exact ⟨⟨i + 1, by omega, by go_num, hE, hK, U, D, hR.row, HB, hP, hQ⟩, by simp [intOf]; omega⟩
  ·obtain rfl : i = n := by omega
   go_wp2
   refine bodyPost_end (results_none rfl _ _ _) rfl ?_
   exact ⟨rfl, hEo, hKo.out, HBo, Uo, Do, hRo, hPo, hQo⟩
theorem valueR_any (F1 F2 : Option Addr) (n m c1 c2 : Nat) (fu fd : Nat → Nat) (neg : Bool) (b base : Nat) (w0 w : World) (hE0 : Ext w0 w) (hb : w0.heap.size ≤ b) (hbb : b < base) (HB : Held w b 148 #[.bool neg, .slice F1 n c1, .slice F2 m c2]) (hP : w.ownsRow base 177 1 (.slice F1 n c1) n (flatL (u64r fu) n)) (hQ : w.ownsRow base 177 1 (.slice F2 m c2) m (flatL (u64r fd) m)) (hap : Apart (.slice F1 n c1) (.slice F2 m c2)) (hn : n ≤ 1000) (hm : m ≤ 1000) (hu1 : ∀ i, i < n → 1 ≤ fu i) (hu2 : ∀ i, i < n → fu i < 18446744073709551616) (hd1 : ∀ i, i < m → 1 ≤ fd i) (hd2 : ∀ i, i < m → fd i < 18446744073709551616) :
  Calls Tryz.prog 109 #[.pointer (some ⟨b, 0, none⟩)] w fun e w' => e = .returned (.tuple #[.agg #[.int .i64 (quo neg (upTo fu n) (upTo fd m)).1.n, .int .i64 (quo neg (upTo fu n) (upTo fd m)).1.d], .int .i64 (quo neg (upTo fu n) (upTo fd m)).2]) ∧ Ext w0 w' := by
 obtain ⟨R, hR0⟩ := zgE (quo neg (upTo fu n) (upTo fd m))
 rw [← hR0]
 have HR := Lib.hid hR0
 clear hR0
 go_enter Tryz.func109, Tryz.ntmps109
 go_upto_region 1 with (fail)
 obtain ⟨v, hv⟩ := zgE (w.alloc (.cells #[.int .i64 0, .int .i64 0] 23))
 rw [← hv]
 have E1 : Ext w v := by rw [hv]; exact (Ext.refl _).alloc _
 have B1 : Held v w.heap.size 23 #[.int .i64 0, .int .i64 0] := by rw [hv]; exact (Held.new _ _ _)
 clear hv
 have hne1 : w.heap.size ≠ b := by have := HB.lt; omega
 have hl1 : ∀ a, F1 = some a → a.block ≠ w.heap.size := fun a h => by have := (hP.lt a.block (by rw [h]; rfl)).2; omega
 have hl2 : ∀ a, F2 = some a → a.block ≠ w.heap.size := fun a h => by have := (hQ.lt a.block (by rw [h]; rfl)).2; omega
 obtain ⟨b1, hb1⟩ := zgE (w.heap.size)
 rw [← hb1] at B1 hne1 hl1 hl2 ⊢
 have hbr : w.heap.size ≤ b1 := by omega
 clear hb1
 have NC := fun w' h1 h2 h3 h4 => cancelR_any F1 F2 n m c1 c2 fu fd neg b base w0 w' h1 hb hbb h2 h3 h4 hap hn hm hu1 hu2 hd1 hd2
 replace HB := HB.ext E1
 replace hP := owns_ext hP E1
 replace hQ := owns_ext hQ E1
 have hb1' : w0.heap.size ≤ b1 := by have := hE0.size; omega
 have hbs : w.heap.size ≤ b1 := hbr
 have EE := hE0.trans E1
 clear E1 hE0
 go_upto_region 2 with (go_at_call 151; (with_reducible refine Calls.mono (NC _ EE HB hP hQ) ?_); rintro e w2 ⟨rfl, hx, hK, HB', U, D, hRI, hPU, hQD⟩)
 replace B1 := hK b1 _ _ hl1 hl2 B1
 obtain ⟨F3, c3, hf1, RU, _⟩ := flat_rows (f := u64r U) (sz := 1) (fun _ => rfl) hPU
 obtain ⟨F4, c4, hf2, RD, _⟩ := flat_rows (f := u64r D) (sz := 1) (fun _ => rfl) hQD
 obtain ⟨rfl, rfl⟩ : F1 = F3 ∧ c1 = c3 := by simpa using hf1
 obtain ⟨rfl, rfl⟩ : F2 = F4 ∧ c2 = c4 := by simpa using hf2
 clear hf1 hf2 hl1 hl2 hK NC EE HB hP hQ hPU hQD hap
 have HB := HB'
 have E := hx
 clear HB' hx
 have NP := fun w h => productR_any F1 n c1 U 1099511627776 (by decide) (by decide) (fun i hi => (hRI.up i hi).1) (fun i hi => Nat.lt_of_le_of_lt (hRI.up i hi).2 (hu2 i hi)) w h (by omega)
 have NQ := fun w h => productR_any F2 m c2 D 1048576 (by decide) (by decide) (fun i hi => (hRI.dn i hi).1) (fun i hi => Nat.lt_of_le_of_lt (hRI.dn i hi).2 (hd2 i hi)) w h (by omega)
 have hsame : R = quo neg (upTo U n) (upTo D m) := by rw [HR.out]; exact quo_same (upTo_pos m hd1) (upTo_pos m fun b hb => (hRI.dn b hb).1) hRI.eq
 have hdone := hRI.done neg hd1
 rw [← HR.out] at hdone
 have hq1 : 1 ≤ upTo D m := upTo_pos m fun b hb => (hRI.dn b hb).1
 clear HR hRI hu1 hu2 hd1 hd2 hn hm
 generalize upTo U n = p at *
 generalize upTo D m = q at *
 replace hdone := Lib.hid hdone
 replace hsame := Lib.hid hsame
 obtain ⟨k0, k1, k2⟩ := HB.c3
 have lk := HB.lt
 by_cases hp : p ≤ 1099511627776
 ·simp only [if_pos hp, decide_eq_true hp] at NP
  by_cases hq : q ≤ 1048576
  ·simp only [if_pos hq, decide_eq_true hq] at NQ
   have NM := fun w => madeR_any neg p q (by omega) hq1 (by omega) w
   rw [← hsame.out] at NM
   clear hdone hsame hp hq hq1
   obtain ⟨⟨Rn, Rd⟩, Re⟩ := R
   go_upto_region 3 with (go_at_call 152; (with_reducible refine Calls.mono (NP _ RU) ?_); rintro e wa ⟨rfl, ha⟩)
   replace E := E.trans ha
   replace B1 := B1.ext ha
   replace HB := HB.ext ha
   replace RU := RU.ext ha
   replace RD := RD.ext ha
   clear ha k0 k1 k2 lk
   obtain ⟨k0, k1, k2⟩ := HB.c3
   have lk := HB.lt
   go_upto_region 4 with (go_at_call 152; (with_reducible refine Calls.mono (NQ _ RD) ?_); rintro e wb ⟨rfl, ha⟩)
   replace E := E.trans ha
   replace B1 := B1.ext ha
   replace HB := HB.ext ha
   replace RU := RU.ext ha
   replace RD := RD.ext ha
   clear ha k0 k1 k2 lk
   obtain ⟨k0, k1, k2⟩ := HB.c3
   have lk := HB.lt
   replace hbr := hb1'
   go_wp2_with (first | (go_at_call 134; (with_reducible refine Calls.mono (NM _) ?_); rintro e wt ⟨rfl, ht⟩; replace E := E.trans ht; replace B1 := B1.ext ht; have f0 := B1.frozen 0; have f1 := B1.frozen 1; obtain ⟨x0, x1⟩ := B1.c2; have lx := B1.lt))
   have H4 := held_two B1 (.int .i64 Rn) (.int .i64 Rd)
   have EF := (E.setCell (p := ⟨b1, 0, none⟩) hbr (.int .i64 Rn)).setCell (p := ⟨b1, 1, none⟩) hbr (.int .i64 Rd)
   obtain ⟨y0, y1⟩ := H4.c2
   go_wp2
   refine bodyPost_ret (v := .tuple #[.agg #[.int .i64 Rn, .int .i64 Rd], .int .i64 Re]) (by simp [results, Tryz.results109, go_sem, y0, y1]) rfl ⟨rfl, EF⟩
  ·simp only [if_neg hq, decide_eq_false hq] at NQ
   have hd := hdone.out
   rw [if_neg (fun h => hq h.2)] at hd
   subst hd
   clear hdone hsame hp hq hq1
   go_upto_region 3 with (go_at_call 152; (with_reducible refine Calls.mono (NP _ RU) ?_); rintro e wa ⟨rfl, ha⟩)
   replace E := E.trans ha
   replace B1 := B1.ext ha
   replace HB := HB.ext ha
   replace RU := RU.ext ha
   replace RD := RD.ext ha
   clear ha k0 k1 k2 lk
   obtain ⟨k0, k1, k2⟩ := HB.c3
   have lk := HB.lt
   go_upto_region 4 with (go_at_call 152; (with_reducible refine Calls.mono (NQ _ RD) ?_); rintro e wb ⟨rfl, ha⟩)
   replace E := E.trans ha
   replace B1 := B1.ext ha
   replace HB := HB.ext ha
   replace RU := RU.ext ha
   replace RD := RD.ext ha
   clear ha k0 k1 k2 lk
   obtain ⟨k0, k1, k2⟩ := HB.c3
   have lk := HB.lt
   replace hbr := hb1'
   obtain ⟨x0, x1⟩ := B1.c2
   have lx := B1.lt
   have f0 := B1.frozen 0
   have f1 := B1.frozen 1
   have H4 := held_two B1 (.int .i64 0) (.int .i64 0)
   have EF := (E.setCell (p := ⟨b1, 0, none⟩) hbr (.int .i64 0)).setCell (p := ⟨b1, 1, none⟩) hbr (.int .i64 0)
   obtain ⟨y0, y1⟩ := H4.c2
   go_wp2
   refine bodyPost_ret (v := .tuple #[.agg #[.int .i64 0, .int .i64 0], .int .i64 6]) (by simp [results, Tryz.results109, go_sem, y0, y1]) rfl ⟨rfl, EF⟩
 ·simp only [if_neg hp, decide_eq_false hp] at NP
  have hd := hdone.out
  rw [if_neg (fun h => hp h.1)] at hd
  subst hd
  clear hdone hsame hp
  generalize decide (q ≤ 1048576) = bq at *
  generalize (if q ≤ 1048576 then q else 0) = q' at *
  go_upto_region 3 with (go_at_call 152; (with_reducible refine Calls.mono (NP _ RU) ?_); rintro e wa ⟨rfl, ha⟩)
  replace E := E.trans ha
  replace B1 := B1.ext ha
  replace HB := HB.ext ha
  replace RU := RU.ext ha
  replace RD := RD.ext ha
  clear ha k0 k1 k2 lk
  obtain ⟨k0, k1, k2⟩ := HB.c3
  have lk := HB.lt
  go_upto_region 4 with (go_at_call 152; (with_reducible refine Calls.mono (NQ _ RD) ?_); rintro e wb ⟨rfl, ha⟩)
  replace E := E.trans ha
  replace B1 := B1.ext ha
  replace HB := HB.ext ha
  replace RU := RU.ext ha
  replace RD := RD.ext ha
  clear ha k0 k1 k2 lk
  obtain ⟨k0, k1, k2⟩ := HB.c3
  have lk := HB.lt
  replace hbr := hb1'
  obtain ⟨x0, x1⟩ := B1.c2
  have lx := B1.lt
  have f0 := B1.frozen 0
  have f1 := B1.frozen 1
  have H4 := held_two B1 (.int .i64 0) (.int .i64 0)
  have EF := (E.setCell (p := ⟨b1, 0, none⟩) hbr (.int .i64 0)).setCell (p := ⟨b1, 1, none⟩) hbr (.int .i64 0)
  obtain ⟨y0, y1⟩ := H4.c2
  go_wp2
  refine bodyPost_ret (v := .tuple #[.agg #[.int .i64 0, .int .i64 0], .int .i64 6]) (by simp [results, Tryz.results109, go_sem, y0, y1]) rfl ⟨rfl, EF⟩
section
variable {W : World} {b : Nat} {t : TypeId} {v0 v1 v2 : Value}
theorem heldF_0 (h : Held W b t #[v0, v1, v2]) (u : Value) : Held (W.setCell ⟨b, 0, none⟩ u) b t #[u, v1, v2] := by unfold Held at h ⊢; simp [World.setCell, Array.getElem?_modify, h]
theorem heldF_1 (h : Held W b t #[v0, v1, v2]) (u : Value) : Held (W.setCell ⟨b, 1, none⟩ u) b t #[v0, u, v2] := by unfold Held at h ⊢; simp [World.setCell, Array.getElem?_modify, h]
theorem heldF_2 (h : Held W b t #[v0, v1, v2]) (u : Value) : Held (W.setCell ⟨b, 2, none⟩ u) b t #[v0, v1, u] := by unfold Held at h ⊢; simp [World.setCell, Array.getElem?_modify, h]
end
theorem timesR_any (b k : Nat) (ng : Bool) (vu vd : Value) (gu gd : Nat → Nat) (r : Rt) (hr : r.In) (hgu : gu k = r.n.natAbs) (hgd : gd k = r.d.natAbs) (hk : k ≤ 1000) (w0 w : World) (hE : Ext w0 w) (hb : w0.heap.size ≤ b) (HB : Held w b 148 #[.bool ng, vu, vd]) (hU : w.ownsRow (b + 1) 177 1 vu k (flatL (u64r gu) k)) (hD : w.ownsRow (b + 1) 177 1 vd k (flatL (u64r gd) k)) (hap : Apart vu vd) :
  Calls Tryz.prog 108 #[.pointer (some ⟨b, 0, none⟩), .agg #[.int .i64 r.n, .int .i64 r.d]] w fun e w' => e = .returned (.tuple #[]) ∧ Ext w0 w' ∧ ∃ vu' vd', Held w' b 148 #[.bool (ng != decide (r.n < 0)), vu', vd'] ∧ w'.ownsRow (b + 1) 177 1 vu' (k + 1) (flatL (u64r gu) (k + 1)) ∧ w'.ownsRow (b + 1) 177 1 vd' (k + 1) (flatL (u64r gd) (k + 1)) ∧ Apart vu' vd' := by
 obtain ⟨i0, hi, hz0, hz1, hz2⟩ := info_parts info_u64
 have NX := fun w => sizeR_any r.n hr.1 hr.2.1 w
 have NY := fun w => sizeR_any r.d hr.2.2.1 hr.2.2.2 w
 rw [← hgu] at NX
 rw [← hgd] at NY
 clear hgu hgd
 go_enter Tryz.func108, Tryz.ntmps108
 go_upto_region 1 with (fail)
 obtain ⟨v, hv⟩ := zgE (w.alloc (.cells #[.int .i64 r.n, .int .i64 r.d] 23))
 rw [← hv]
 have E1 : Ext w v := by rw [hv]; exact (Ext.refl _).alloc _
 have H3 : Held v w.heap.size 23 #[.int .i64 r.n, .int .i64 r.d] := by rw [hv]; exact (Held.new _ _ _)
 clear hv
 have hb1b : w.heap.size ≠ b := by have := HB.lt; omega
 obtain ⟨b1, hb1⟩ := zgE (w.heap.size)
 rw [← hb1] at H3 hb1b ⊢
 have hbr : w.heap.size ≤ b1 := by omega
 clear hb1
 replace hE := hE.trans E1
 replace HB := HB.ext E1
 replace hU := owns_ext hU E1
 replace hD := owns_ext hD E1
 clear E1
 refine wp_region_z 13 [12] (fun x => Ext w0 x ∧ Held x b 148 #[.bool ng, vu, vd] ∧ Held x b1 23 #[.int .i64 r.n, .int .i64 r.d]) mixed rfl ?_
 intro vz hvz
 replace hE := hE.trans hvz
 replace HB := HB.ext hvz
 replace H3 := H3.ext hvz
 replace hU := owns_ext hU hvz
 replace hD := owns_ext hD hvz
 clear hvz
 refine z_stills (g := 6) [0, 1, 2, 3, 4, 5, 6] [_, _, _, _, _, _, _] ⟨rfl, rfl, rfl, rfl, rfl, rfl, rfl, trivial⟩ (by kernel_rfl) (by kernel_rfl) ⟨hE, HB, H3⟩ ?_
 simp only [zgA, zgB, zgC]
 apply Exists.intro
 refine ⟨fun u hu => ?_, ?_⟩
 ·obtain ⟨k0, k1, k2⟩ := hu.2.1.c3
  obtain ⟨q0, q1⟩ := hu.2.2.c2
  have lk := hu.2.1.lt
  have lq := hu.2.2.lt
  repeat (first | go_big_quiet_skip | (go_big_quiet_want; go_big_quiet_op; go_big_quiet_on))
  refine wpQuiet_nil ?_
  rfl
 refine z_one 7 rfl (by kernel_rfl) ?_
 simp only [zgA, zgB, zgC]
 go_wp2_with (go_at_call 135; (with_reducible refine Calls.mono (NX _) ?_); rintro e va ⟨rfl, h4⟩)
 replace hE := hE.trans h4
 replace HB := HB.ext h4
 replace H3 := H3.ext h4
 replace hU := owns_ext hU h4
 replace hD := owns_ext hD h4
 clear h4
 refine onQ_in ⟨hE, HB, H3⟩ ?_
 refine z_one 8 rfl (by kernel_rfl) ?_
 simp only [zgA, zgB, zgC]
 go_wp2
 refine onQ_in ⟨hE.alloc _, HB.alloc _, H3.alloc _⟩ ?_
 refine z_one 9 rfl (by kernel_rfl) ?_
 simp only [zgA, zgB, zgC]
 go_wp2_with (at_builtin; refine wpList_append_own_at _ rfl _ _ 146 rfl (b + 1) 177 i0 (.int .u64 0) 1 8 Tryz.underlying146 hi hz0 hz1 hz2 rfl (by decide) _ _ _ rfl (hU.alloc _) ⟨va.heap.size, 0, none⟩ 1 1 [.int .u64 ((gu k) : Int)] rfl rfl (cells_newL _ _ _) (by simp [Value.oneCell']) (by unfold maxLen; omega) (by omega) (by have := HB.lt; simp; omega) ?_; intro vu' vb hown hgrow hnl hloc; clear hnl)
 have hEb : Ext w0 vb := (hE.alloc _).grown hgrow (fun q hq => by have := (hU.lt q hq).1; omega)
 have HBb := Held.kept (HB.alloc _) hgrow (HB.not_row (by decide) hU)
 have H3b := Held.kept (H3.alloc _) hgrow (H3.not_row (by decide) hU)
 have hOb := World.ownsRow.kept (hD.alloc _) hgrow (apart_own1 hap)
 rw [u64_snoc gu k] at hown
 have hap2 := apart_new hap hloc (hD.alloc _)
 clear hgrow hloc hap hU hD hE HB H3
 obtain ⟨fa, ma, rfl⟩ := own_sl hown
 refine onQ_in ⟨hEb, HBb, H3b⟩ ?_
 refine z_stills (g := 1) [10, 11] [_, _] ⟨rfl, rfl, trivial⟩ (by kernel_rfl) (by kernel_rfl) ⟨hEb, HBb, H3b⟩ ?_
 simp only [zgA, zgB, zgC]
 apply Exists.intro
 refine ⟨fun u hu => ?_, ?_⟩
 ·have lk := hu.2.1.lt
  repeat (first | go_big_quiet_skip | (go_big_quiet_want; go_big_quiet_op; go_big_quiet_on))
  refine wpQuiet_nil ?_
  rfl
 refine z_end 12 rfl (by kernel_rfl) ?_
 simp only [zgA, zgB, zgC]
 have f0 := HBb.frozen 1
 obtain ⟨z0, z1, z2⟩ := HBb.c3
 have lz := HBb.lt
 have HB := heldF_1 HBb (.slice fa (k + 1) ma)
 have H3 := held_oth H3b hb1b 1 (.slice fa (k + 1) ma)
 have hU := ownsRow_setCell_below hown (a := ⟨b, 1, none⟩) (Nat.lt_succ_self b) (.slice fa (k + 1) ma)
 have hD := ownsRow_setCell_below hOb (a := ⟨b, 1, none⟩) (Nat.lt_succ_self b) (.slice fa (k + 1) ma)
 have hE := hEb.setCell (p := ⟨b, 1, none⟩) hb (.slice fa (k + 1) ma)
 have hap := hap2
 go_wp2
 refine onQ_last ?_
 refine z_done (by kernel_rfl) ?_
 generalize World.setCell vb _ _ = vc0 at *
 generalize va.heap.size = szv0 at *
 clear f0 z0 z1 z2 lz HBb H3b hown hOb hEb hap2 va
 go_upto_region 2 with (fail)
 refine wp_region_z 13 [12] (fun x => Ext w0 x ∧ Held x b 148 #[.bool ng, .slice fa (k + 1) ma, vd] ∧ Held x b1 23 #[.int .i64 r.n, .int .i64 r.d]) mixed rfl ?_
 intro vz hvz
 replace hE := hE.trans hvz
 replace HB := HB.ext hvz
 replace H3 := H3.ext hvz
 replace hU := owns_ext hU hvz
 replace hD := owns_ext hD hvz
 clear hvz
 refine z_stills (g := 6) [0, 1, 2, 3, 4, 5, 6] [_, _, _, _, _, _, _] ⟨rfl, rfl, rfl, rfl, rfl, rfl, rfl, trivial⟩ (by kernel_rfl) (by kernel_rfl) ⟨hE, HB, H3⟩ ?_
 simp only [zgA, zgB, zgC]
 apply Exists.intro
 refine ⟨fun u hu => ?_, ?_⟩
 ·obtain ⟨k0, k1, k2⟩ := hu.2.1.c3
  obtain ⟨q0, q1⟩ := hu.2.2.c2
  have lk := hu.2.1.lt
  have lq := hu.2.2.lt
  repeat (first | go_big_quiet_skip | (go_big_quiet_want; go_big_quiet_op; go_big_quiet_on))
  refine wpQuiet_nil ?_
  rfl
 refine z_one 7 rfl (by kernel_rfl) ?_
 simp only [zgA, zgB, zgC]
 go_wp2_with (go_at_call 135; (with_reducible refine Calls.mono (NY _) ?_); rintro e va ⟨rfl, h4⟩)
 replace hE := hE.trans h4
 replace HB := HB.ext h4
 replace H3 := H3.ext h4
 replace hU := owns_ext hU h4
 replace hD := owns_ext hD h4
 clear h4
 refine onQ_in ⟨hE, HB, H3⟩ ?_
 refine z_one 8 rfl (by kernel_rfl) ?_
 simp only [zgA, zgB, zgC]
 go_wp2
 refine onQ_in ⟨hE.alloc _, HB.alloc _, H3.alloc _⟩ ?_
 refine z_one 9 rfl (by kernel_rfl) ?_
 simp only [zgA, zgB, zgC]
 go_wp2_with (at_builtin; refine wpList_append_own_at _ rfl _ _ 146 rfl (b + 1) 177 i0 (.int .u64 0) 1 8 Tryz.underlying146 hi hz0 hz1 hz2 rfl (by decide) _ _ _ rfl (hD.alloc _) ⟨va.heap.size, 0, none⟩ 1 1 [.int .u64 ((gd k) : Int)] rfl rfl (cells_newL _ _ _) (by simp [Value.oneCell']) (by unfold maxLen; omega) (by omega) (by have := HB.lt; simp; omega) ?_; intro vd' vb hown hgrow hnl hloc; clear hnl)
 have hEb : Ext w0 vb := (hE.alloc _).grown hgrow (fun q hq => by have := (hD.lt q hq).1; omega)
 have HBb := Held.kept (HB.alloc _) hgrow (HB.not_row (by decide) hD)
 have H3b := Held.kept (H3.alloc _) hgrow (H3.not_row (by decide) hD)
 have hOb := World.ownsRow.kept (hU.alloc _) hgrow (apart_own2 hap)
 rw [u64_snoc gd k] at hown
 have hap2 := apart_new' hap hloc (hU.alloc _)
 clear hgrow hloc hap hU hD hE HB H3
 obtain ⟨fb, mb, rfl⟩ := own_sl hown
 refine onQ_in ⟨hEb, HBb, H3b⟩ ?_
 refine z_stills (g := 1) [10, 11] [_, _] ⟨rfl, rfl, trivial⟩ (by kernel_rfl) (by kernel_rfl) ⟨hEb, HBb, H3b⟩ ?_
 simp only [zgA, zgB, zgC]
 apply Exists.intro
 refine ⟨fun u hu => ?_, ?_⟩
 ·have lk := hu.2.1.lt
  repeat (first | go_big_quiet_skip | (go_big_quiet_want; go_big_quiet_op; go_big_quiet_on))
  refine wpQuiet_nil ?_
  rfl
 refine z_end 12 rfl (by kernel_rfl) ?_
 simp only [zgA, zgB, zgC]
 have f0 := HBb.frozen 2
 obtain ⟨z0, z1, z2⟩ := HBb.c3
 have lz := HBb.lt
 have HB := heldF_2 HBb (.slice fb (k + 1) mb)
 have H3 := held_oth H3b hb1b 2 (.slice fb (k + 1) mb)
 have hD := ownsRow_setCell_below hown (a := ⟨b, 2, none⟩) (Nat.lt_succ_self b) (.slice fb (k + 1) mb)
 have hU := ownsRow_setCell_below hOb (a := ⟨b, 2, none⟩) (Nat.lt_succ_self b) (.slice fb (k + 1) mb)
 have hE := hEb.setCell (p := ⟨b, 2, none⟩) hb (.slice fb (k + 1) mb)
 have hap := hap2
 go_wp2
 refine onQ_last ?_
 refine z_done (by kernel_rfl) ?_
 generalize World.setCell vb _ _ = vc1 at *
 generalize va.heap.size = szv1 at *
 clear f0 z0 z1 z2 lz HBb H3b hown hOb hEb hap2 va
 go_upto_region 3 with (fail)
 refine wp_region_z 12 [11] (fun x => Ext w0 x ∧ Held x b 148 #[.bool ng, .slice fa (k + 1) ma, .slice fb (k + 1) mb] ∧ Held x b1 23 #[.int .i64 r.n, .int .i64 r.d]) mixed rfl ?_
 intro vz hvz
 replace hE := hE.trans hvz
 replace HB := HB.ext hvz
 replace H3 := H3.ext hvz
 replace hU := owns_ext hU hvz
 replace hD := owns_ext hD hvz
 clear hvz
 refine z_stills (g := 1) [0, 1, 2, 3, 4, 5, 6, 7, 8, 9, 10] [_, _, _, _, _, _, _, _, _, _, _] ⟨rfl, rfl, rfl, rfl, rfl, rfl, rfl, rfl, rfl, rfl, rfl, trivial⟩ (by kernel_rfl) (by kernel_rfl) ⟨hE, HB, H3⟩ ?_
 simp only [zgA, zgB, zgC]
 apply Exists.intro
 refine ⟨fun u hu => ?_, ?_⟩
 ·obtain ⟨k0, k1, k2⟩ := hu.2.1.c3
  obtain ⟨q0, q1⟩ := hu.2.2.c2
  have lk := hu.2.1.lt
  have lq := hu.2.2.lt
  repeat (first | go_big_quiet_skip | (go_big_quiet_want; go_big_quiet_op; go_big_quiet_on))
  refine wpQuiet_nil ?_
  rfl
 refine z_end 11 rfl (by kernel_rfl) ?_
 simp only [zgA, zgB, zgC]
 have f0 := HB.frozen 0
 obtain ⟨z0, z1, z2⟩ := HB.c3
 have lz := HB.lt
 have HB' := heldF_0 HB (.bool (ng != decide (r.n < 0)))
 have hU' := ownsRow_setCell_below hU (a := ⟨b, 0, none⟩) (Nat.lt_succ_self b) (.bool (ng != decide (r.n < 0)))
 have hD' := ownsRow_setCell_below hD (a := ⟨b, 0, none⟩) (Nat.lt_succ_self b) (.bool (ng != decide (r.n < 0)))
 have hE' := hE.setCell (p := ⟨b, 0, none⟩) hb (.bool (ng != decide (r.n < 0)))
 go_wp2
 refine onQ_last ?_
 refine z_done (by kernel_rfl) ?_
 go_wp2
 refine bodyPost_end (results_none rfl _ _ _) rfl ?_
 exact ⟨rfl, hE', _, _, HB', hU', hD', hap⟩
end Go.Proofs.YthmjpbafbohelaaGreatDoor
namespace Go.Proofs.YthmjpbafbohelaaGreatDoor
open Go Go.RowKit Go.Shelf
attribute [local go_sem] gv_yes
theorem productF_any (A : Option Addr) (n ca : Nat) (f : Nat → Rt) (w : World) (hA : RowsAt w A n 2 (rtr f)) (hn : n ≤ 9223372036854775807) (hin : ∀ i, i < n → (f i).In) :
  Calls Tryz.prog 52 #[.slice A n ca] w fun e w' => e = .returned (.tuple #[.agg #[.int .i64 (prodV f n).1.n, .int .i64 (prodV f n).1.d], .int .i64 (prodV f n).2]) ∧ Ext w w' := by
 obtain ⟨R, hR0⟩ := zgE (prodV f n)
 rw [← hR0]
 unfold prodV at hR0
 have HR := Lib.hid hR0
 clear hR0
 go_enter Tryz.func52, Tryz.ntmps52
 go_upto_region 1 with (fail)
 obtain ⟨v, hv⟩ := zgE (w.alloc (.cells #[.int .i64 0, .int .i64 0] 23))
 rw [← hv]
 have E : Ext w v := by rw [hv]; exact (Ext.refl _).alloc _
 have B1 : Held v w.heap.size 23 #[.int .i64 0, .int .i64 0] := by rw [hv]; exact (Held.new _ _ _)
 clear hv
 obtain ⟨b1, hb1⟩ := zgE (w.heap.size)
 rw [← hb1] at B1 ⊢
 have hbr : w.heap.size ≤ b1 := by omega
 clear hb1
 have RA := hA.ext E
 clear hA
 by_cases hbig : 64 < n
 ·have hr := HR.out
  rw [if_pos hbig] at hr
  have g1 : decide (64 < n) = true := decide_eq_true hbig
  subst hr
  clear HR
  have f0 := B1.frozen 0
  have f1 := B1.frozen 1
  obtain ⟨x0, x1⟩ := B1.c2
  have lx := B1.lt
  have H4 := held_two B1 (.int .i64 0) (.int .i64 0)
  have EF := (E.setCell (p := ⟨b1, 0, none⟩) hbr (.int .i64 0)).setCell (p := ⟨b1, 1, none⟩) hbr (.int .i64 0)
  obtain ⟨y0, y1⟩ := H4.c2
  go_wp2
  refine bodyPost_ret (v := .tuple #[.agg #[.int .i64 0, .int .i64 0], .int .i64 3]) (by simp [results, Tryz.results52, go_sem, y0, y1]) rfl ⟨rfl, EF⟩
 have g1 : decide (64 < n) = false := decide_eq_false hbig
 have hr := HR.out
 rw [if_neg hbig] at hr
 replace HR := Lib.hid hr
 clear hr
 go_upto_region 5 with (fail)
 go_loopw [4, 5] (fun zv iv wr => ∃ k : Nat, k ≤ n ∧ iv = .int .i64 k ∧ ∃ zb : Bool, zv = .bool zb ∧ Hid (zb = true ↔ ∃ i, i < k ∧ (f i).n = 0) ∧ Hid (∀ i, i < k → (f i).ok = true) ∧ Ext v wr) (fun _ iv _ => n - (intOf iv).toNat)
 case atStart => exact ⟨0, Nat.zero_le _, rfl, false, rfl, Iff.intro (fun h => (by cases h)) (fun ⟨i, h, _⟩ => absurd h (by omega)), (fun i h => absurd h (by omega)), Ext.refl _⟩
 case round =>
  obtain ⟨k, hk, rfl, zb, rfl, hz, hok, hE⟩ := hrel
  obtain ⟨wo, rfl⟩ := zgE wr
  by_cases hlt : k < n
  ·have RK := RA.ext hE
   obtain ⟨b, off, rfl, hb, hc⟩ := RK (by omega)
   have c0 : wo.cell? ⟨b, off + k * 2, none⟩ = some (.int .i64 (f k).n) := by simpa [rtr] using hc k 0 _ hlt rfl
   have c1 : wo.cell? ⟨b, off + k * 2 + 1, none⟩ = some (.int .i64 (f k).d) := by simpa [rtr] using hc k 1 _ hlt rfl
   obtain ⟨i1, i2, i3, i4⟩ := hin k hlt
   have NI := fun w => isRatioR_any (f k).n (f k).d i1 i2 i3 i4 w
   rw [show Rt.ok ⟨(f k).n, (f k).d⟩ = (f k).ok from rfl] at NI
   clear hc RK i1 i2 i3 i4 hin
   cases ho : (f k).ok
   ·simp only [ho] at NI
    have hr := HR.out
    rw [if_neg (fun h => by have := List.all_eq_true.1 h k (List.mem_range.2 hlt); rw [ho] at this; cases this)] at hr
    subst hr
    clear HR hz hok ho RA
    replace E := E.trans hE
    replace B1 := B1.ext hE
    go_upto_region 8 with (go_at_call 107; (with_reducible refine Calls.mono (NI _) ?_); rintro e w2 ⟨rfl, h1⟩; replace E := E.trans h1; replace B1 := B1.ext h1)
    have f0 := B1.frozen 0
    have f1 := B1.frozen 1
    obtain ⟨x0, x1⟩ := B1.c2
    have lx := B1.lt
    have H4 := held_two B1 (.int .i64 0) (.int .i64 0)
    have EF := (E.setCell (p := ⟨b1, 0, none⟩) hbr (.int .i64 0)).setCell (p := ⟨b1, 1, none⟩) hbr (.int .i64 0)
    obtain ⟨y0, y1⟩ := H4.c2
    go_wp2
    refine bodyPost_ret (v := .tuple #[.agg #[.int .i64 0, .int .i64 0], .int .i64 2]) (by simp [results, Tryz.results52, go_sem, y0, y1]) rfl ⟨rfl, EF⟩
   ·simp only [ho] at NI
    have hok' : Hid (∀ i, i < k + 1 → (f i).ok = true) := fun i hi => by
     by_cases e : i = k
     ·subst e; exact ho
     ·exact hok.out i (by omega)
    have hz' : Hid ((zb || ((f k).n == 0)) = true ↔ ∃ i, i < k + 1 ∧ (f i).n = 0) := by
     unfold Hid
     rw [Bool.or_eq_true, hz.out]
     constructor
     ·rintro (⟨i, h1, h2⟩ | h)
      ·exact ⟨i, by omega, h2⟩
      ·exact ⟨k, by omega, by simpa using h⟩
     ·rintro ⟨i, h1, h2⟩
      by_cases e : i = k
      ·subst e; exact .inr (by simpa using h2)
      ·exact .inl ⟨i, by omega, h2⟩
    clear hz hok ho HR RA B1
    cases zb
    ·generalize hx : (f k).n = x at *
     generalize hy : (f k).d = y at *
     clear hx hy
     go_upto_region 9 with (go_at_call 107; (with_reducible refine Calls.mono (NI _) ?_); rintro e w2 ⟨rfl, h1⟩; replace c0 := (h1.cell (p := ⟨b, off + k * 2, none⟩) hb).trans c0; replace hb := Nat.lt_of_lt_of_le hb h1.size)
     cases hx0 : (x == 0)
     ·rw [hx0] at hz'
      go_wp2
      exact ⟨⟨k + 1, by omega, by go_num, false, rfl, hz', hok', hE.trans h1⟩, by simp [intOf]; omega⟩
     ·rw [hx0] at hz'
      go_wp2
      exact ⟨⟨k + 1, by omega, by go_num, true, rfl, hz', hok', hE.trans h1⟩, by simp [intOf]; omega⟩
    ·rw [Bool.true_or] at hz'
     go_wp2_with (go_at_call 107; (with_reducible refine Calls.mono (NI _) ?_); rintro e w2 ⟨rfl, h1⟩; replace c0 := (h1.cell (p := ⟨b, off + k * 2, none⟩) hb).trans c0; replace hb := Nat.lt_of_lt_of_le hb h1.size)
     exact ⟨⟨k + 1, by omega, by go_num, true, rfl, Iff.intro (fun _ => hz'.out.1 (by trivial)) (fun _ => rfl), hok', hE.trans h1⟩, by simp [intOf]; omega⟩
  ·obtain rfl : k = n := by omega
   have hr := HR.out
   rw [if_pos (List.all_eq_true.2 fun i hi => hok.out i (List.mem_range.1 hi))] at hr
   have hrr := Lib.hid hr
   clear hr HR
   replace E := E.trans hE
   replace B1 := B1.ext hE
   replace RA := RA.ext hE
   clear hE
   cases zb
   ·have hnz : Hid (∀ i, i < k → (f i).n ≠ 0) := fun i hi h => by have := hz.out.2 ⟨i, hi, h⟩; cases this
    clear hz
    go_upto_region 14 with (fail)
    obtain ⟨vf, hv⟩ := zgE (wo.alloc (.cells #[.bool false, .slice none 0 0, .slice none 0 0] 148))
    rw [← hv]
    have hx : Ext wo vf := by rw [hv]; exact (Ext.refl _).alloc _
    have HB : Held vf wo.heap.size 148 #[.bool false, .slice none 0 0, .slice none 0 0] := by rw [hv]; exact Held.new _ _ _
    clear hv
    obtain ⟨bf, hbf0⟩ := zgE (wo.heap.size)
    rw [← hbf0] at HB ⊢
    have hbf : wo.heap.size ≤ bf := by omega
    clear hbf0
    go_loopw [7] (fun iv wr => ∃ j : Nat, j ≤ k ∧ iv = .int .i64 j ∧ ∃ vu vd, Ext wo wr ∧ Held wr bf 148 #[.bool (negs f j), vu, vd] ∧ wr.ownsRow (bf + 1) 177 1 vu j (flatL (u64r fun i => (f i).n.natAbs) j) ∧ wr.ownsRow (bf + 1) 177 1 vd j (flatL (u64r fun i => (f i).d.natAbs) j) ∧ Apart vu vd) (fun iv _ => k - (intOf iv).toNat)
    case atStart => exact ⟨0, Nat.zero_le _, rfl, _, _, hx, HB, World.ownsRow_nil _ _ _ _, World.ownsRow_nil _ _ _ _, fun x y h _ => by cases h⟩
    case round =>
     clear hx HB
     obtain ⟨j, hj, rfl, vu, vd, hE, HB, hU, hD, hap⟩ := hrel
     obtain ⟨wj, rfl⟩ : ∃ w' : World, w' = wr := ⟨_, rfl⟩
     by_cases hlt : j < k
     ·obtain ⟨b, off, rfl, hb, hc⟩ := (RA.ext hE) (by omega)
      have c0 : wj.cell? ⟨b, off + j * 2, none⟩ = some (.int .i64 (f j).n) := by simpa [rtr] using hc j 0 _ hlt rfl
      have c1 : wj.cell? ⟨b, off + j * 2 + 1, none⟩ = some (.int .i64 (f j).d) := by simpa [rtr] using hc j 1 _ hlt rfl
      have NT := timesR_any bf j (negs f j) vu vd (fun i => (f i).n.natAbs) (fun i => (f i).d.natAbs) (f j) (hin j hlt) rfl rfl (by omega) wo wj hE hbf HB hU hD hap
      clear hc hin hrr hnz hok RA
      go_wp2_with (go_at_call 108; (with_reducible refine Calls.mono NT ?_); rintro e w2 ⟨rfl, hx, vu', vd', HB', hU', hD', hap'⟩)
      exact ⟨⟨j + 1, by omega, by go_num, vu', vd', hx, HB', hU', hD', hap'⟩, by simp [intOf]; omega⟩
     ·obtain rfl : j = k := by omega
      obtain ⟨F1, c1, rfl⟩ := own_sl hU
      obtain ⟨F2, c2, rfl⟩ := own_sl hD
      have NV := valueR_any F1 F2 j j c1 c2 (fun i => (f i).n.natAbs) (fun i => (f i).d.natAbs) (negs f j) bf (bf + 1) wo wj hE hbf (Nat.lt_succ_self _) HB hU hD hap (by omega) (by omega) (fun i hi => by have := hnz.out i hi; omega) (fun i hi => by have := ok_bd (hok.out i hi); omega) (fun i hi => by have := ok_bd (hok.out i hi); omega) (fun i hi => by have := ok_bd (hok.out i hi); omega)
      rw [show quo (negs f j) (upTo (fun i => (f i).n.natAbs) j) (upTo (fun i => (f i).d.natAbs) j) = R from hrr.out.symm] at NV
      clear hrr hnz hok RA hin hU hD hap HB
      obtain ⟨⟨Rn, Rd⟩, Re⟩ := R
      go_wp2_with (go_at_call 109; (with_reducible refine Calls.mono NV ?_); rintro e wt ⟨rfl, ht⟩; replace E := E.trans ht; replace B1 := B1.ext ht; have f0 := B1.frozen 0; have f1 := B1.frozen 1; obtain ⟨x0, x1⟩ := B1.c2; have lx := B1.lt)
      have H4 := held_two B1 (.int .i64 Rn) (.int .i64 Rd)
      have EF := (E.setCell (p := ⟨b1, 0, none⟩) hbr (.int .i64 Rn)).setCell (p := ⟨b1, 1, none⟩) hbr (.int .i64 Rd)
      obtain ⟨y0, y1⟩ := H4.c2
      go_wp2
      refine bodyPost_ret (v := .tuple #[.agg #[.int .i64 Rn, .int .i64 Rd], .int .i64 Re]) (by simp [results, Tryz.results52, go_sem, y0, y1]) rfl ⟨rfl, EF⟩
   ·have hzz : R = (⟨0, 1⟩, 0) := by
     rw [hrr.out]
     unfold mulsV
     rw [(upTo_zero_iff (f := fun i => (f i).n.natAbs) k).2 (by obtain ⟨i, h1, h2⟩ := hz.out.1 rfl; exact ⟨i, h1, by simp only [h2]; rfl⟩)]
     exact quo_zero (upTo_pos k fun i hi => by have := (ok_bd (hok.out i hi)).1; omega)
    subst hzz
    clear hz hok hrr RA
    have f0 := B1.frozen 0
    have f1 := B1.frozen 1
    obtain ⟨x0, x1⟩ := B1.c2
    have lx := B1.lt
    have H4 := held_two B1 (.int .i64 0) (.int .i64 1)
    have EF := (E.setCell (p := ⟨b1, 0, none⟩) hbr (.int .i64 0)).setCell (p := ⟨b1, 1, none⟩) hbr (.int .i64 1)
    obtain ⟨y0, y1⟩ := H4.c2
    go_wp2
    refine bodyPost_ret (v := .tuple #[.agg #[.int .i64 0, .int .i64 1], .int .i64 0]) (by simp [results, Tryz.results52, go_sem, y0, y1]) rfl ⟨rfl, EF⟩
theorem positiveR_any (r : Rt) (hr : r.In) (w : World) :
  Calls Tryz.prog 55 #[.agg #[.int .i64 r.n, .int .i64 r.d]] w fun e w' => e = .returned (.bool r.pos) ∧ Ext w w' := by
 have NI := fun w => isRatioR_any r.n r.d hr.1 hr.2.1 hr.2.2.1 hr.2.2.2 w
 rw [show Rt.ok ⟨r.n, r.d⟩ = r.ok from rfl] at NI
 have HR : Hid (r.pos = (r.ok && decide (0 < r.n))) := rfl
 generalize r.pos = R at *
 generalize r.ok = o at *
 clear hr
 go_enter Tryz.func55, Tryz.ntmps55
 go_upto_region 1 with (fail)
 obtain ⟨v, hv⟩ := zgE (w.alloc (.cells #[.int .i64 r.n, .int .i64 r.d] 23))
 rw [← hv]
 have E : Ext w v := by rw [hv]; exact (Ext.refl _).alloc _
 have B1 : Held v w.heap.size 23 #[.int .i64 r.n, .int .i64 r.d] := by rw [hv]; exact (Held.new _ _ _)
 clear hv
 obtain ⟨b1, hb1⟩ := zgE (w.heap.size)
 rw [← hb1] at B1 ⊢
 have hbr : w.heap.size ≤ b1 := by omega
 clear hb1
 obtain ⟨k0, k1⟩ := B1.c2
 have lk := B1.lt
 cases o
 ·go_wp2_with (go_at_call 107; (with_reducible refine Calls.mono (NI _) ?_); rintro e w2 ⟨rfl, h⟩; replace B1 := B1.ext h; clear k0 k1 lk; obtain ⟨k0, k1⟩ := B1.c2; have lk := B1.lt)
  go_ret
  exact ⟨by rw [HR.out]; rfl, E.trans h⟩
 ·by_cases h0 : 0 < r.n
  ·have g1 : decide (0 < r.n) = true := decide_eq_true h0
   clear h0
   go_wp2_with (go_at_call 107; (with_reducible refine Calls.mono (NI _) ?_); rintro e w2 ⟨rfl, h⟩; replace B1 := B1.ext h; clear k0 k1 lk; obtain ⟨k0, k1⟩ := B1.c2; have lk := B1.lt)
   go_ret
   exact ⟨by rw [HR.out, g1]; rfl, E.trans h⟩
  ·have g1 : decide (0 < r.n) = false := decide_eq_false h0
   clear h0
   go_wp2_with (go_at_call 107; (with_reducible refine Calls.mono (NI _) ?_); rintro e w2 ⟨rfl, h⟩; replace B1 := B1.ext h; clear k0 k1 lk; obtain ⟨k0, k1⟩ := B1.c2; have lk := B1.lt)
   go_ret
   exact ⟨by rw [HR.out, g1]; rfl, E.trans h⟩
theorem interestR_any (p r : Rt) (k : Int) (hp : p.In) (hr : r.In) (hk1 : -9223372036854775808 ≤ k) (hk2 : k ≤ 9223372036854775807) (w : World) :
  Calls Tryz.prog 12 #[.agg #[.int .i64 p.n, .int .i64 p.d], .agg #[.int .i64 r.n, .int .i64 r.d], .int .i64 k] w fun e w' => e = .returned (.tuple #[.agg #[.int .i64 (intV p r k).1.n, .int .i64 (intV p r k).1.d], .int .i64 (intV p r k).2]) ∧ Ext w w' := by
 have NP1 := fun w => atLeast_any p hp w
 have NP2 := fun w => atLeast_any r hr w
 have HI := int_cases p r k
 obtain ⟨R, hR0⟩ := zgE (intV p r k)
 rw [← hR0]
 have HR := Lib.hid hR0
 clear hR0
 rw [show intV p r k = R from HR.out.symm] at HI
 clear HR
 go_enter Tryz.func12, Tryz.ntmps12
 go_upto_region 1 with (fail)
 obtain ⟨v, hv⟩ := zgE (((w.alloc (.cells #[.int .i64 p.n, .int .i64 p.d] 23)).alloc (.cells #[.int .i64 r.n, .int .i64 r.d] 23)).alloc (.cells #[.int .i64 0, .int .i64 0] 23))
 rw [← hv]
 have E : Ext w v := by rw [hv]; exact (((Ext.refl _).alloc _).alloc _).alloc _
 have B1 : Held v w.heap.size 23 #[.int .i64 p.n, .int .i64 p.d] := by rw [hv]; exact ((Held.new _ _ _).alloc _).alloc _
 have B2 : Held v (w.heap.size + 1) 23 #[.int .i64 r.n, .int .i64 r.d] := by rw [hv]; exact (Held.at _ _ _ _ (by simp)).alloc _
 have B3 : Held v (w.heap.size + 1 + 1) 23 #[.int .i64 0, .int .i64 0] := by rw [hv]; exact Held.at _ _ _ _ (by simp)
 clear hv
 obtain ⟨b3, hb3⟩ := zgE (w.heap.size + 1 + 1)
 rw [← hb3] at B3 ⊢
 obtain ⟨b2, hb2⟩ := zgE (w.heap.size + 1)
 rw [← hb2] at B2 ⊢
 obtain ⟨b1, hb1⟩ := zgE (w.heap.size)
 rw [← hb1] at B1 ⊢
 have hbr : w.heap.size ≤ b3 := by omega
 have hbr1 : w.heap.size ≤ b1 := by omega
 have hbr2 : w.heap.size ≤ b2 := by omega
 have hn21 : b2 ≠ b1 := by omega
 have hn31 : b3 ≠ b1 := by omega
 have hn32 : b3 ≠ b2 := by omega
 clear hb1 hb2 hb3
 obtain ⟨k0, k1⟩ := B1.c2
 have lk := B1.lt
 obtain ⟨p0, p1⟩ := B2.c2
 have lp := B2.lt
 cases hp1 : p.nn
 ·simp only [hp1] at NP1
  have hr := HI.out.1 (by rw [hp1]; rfl)
  subst hr
  clear HI NP2
  go_upto_region 2 with (go_at_call 51; (with_reducible refine Calls.mono (NP1 _) ?_); rintro e w2 ⟨rfl, h⟩; replace E := E.trans h; replace B1 := B1.ext h; replace B2 := B2.ext h; replace B3 := B3.ext h; clear h k0 k1 lk p0 p1 lp; obtain ⟨k0, k1⟩ := B1.c2; have lk := B1.lt; obtain ⟨p0, p1⟩ := B2.c2; have lp := B2.lt)
  have f0 := B3.frozen 0
  have f1 := B3.frozen 1
  obtain ⟨x0, x1⟩ := B3.c2
  have lx := B3.lt
  have H4 := held_two B3 (.int .i64 0) (.int .i64 0)
  have EF := (E.setCell (p := ⟨b3, 0, none⟩) hbr (.int .i64 0)).setCell (p := ⟨b3, 1, none⟩) hbr (.int .i64 0)
  obtain ⟨y0, y1⟩ := H4.c2
  go_wp2
  refine bodyPost_ret (v := .tuple #[.agg #[.int .i64 0, .int .i64 0], .int .i64 2]) (by simp [results, Tryz.results12, go_sem, y0, y1]) rfl ⟨rfl, EF⟩
 simp only [hp1] at NP1
 cases hr1 : r.nn
 ·simp only [hr1] at NP2
  have hr := HI.out.1 (by rw [hp1, hr1]; rfl)
  subst hr
  clear HI
  go_upto_region 2 with (first | (go_at_call 51; (with_reducible refine Calls.mono (NP1 _) ?_); rintro e w1 ⟨rfl, h⟩; replace E := E.trans h; replace B1 := B1.ext h; replace B2 := B2.ext h; replace B3 := B3.ext h; clear h k0 k1 lk p0 p1 lp; obtain ⟨k0, k1⟩ := B1.c2; have lk := B1.lt; obtain ⟨p0, p1⟩ := B2.c2; have lp := B2.lt) | (go_at_call 51; (with_reducible refine Calls.mono (NP2 _) ?_); rintro e w2 ⟨rfl, h⟩; replace E := E.trans h; replace B1 := B1.ext h; replace B2 := B2.ext h; replace B3 := B3.ext h; clear h k0 k1 lk p0 p1 lp; obtain ⟨k0, k1⟩ := B1.c2; have lk := B1.lt; obtain ⟨p0, p1⟩ := B2.c2; have lp := B2.lt))
  have f0 := B3.frozen 0
  have f1 := B3.frozen 1
  obtain ⟨x0, x1⟩ := B3.c2
  have lx := B3.lt
  have H4 := held_two B3 (.int .i64 0) (.int .i64 0)
  have EF := (E.setCell (p := ⟨b3, 0, none⟩) hbr (.int .i64 0)).setCell (p := ⟨b3, 1, none⟩) hbr (.int .i64 0)
  obtain ⟨y0, y1⟩ := H4.c2
  go_wp2
  refine bodyPost_ret (v := .tuple #[.agg #[.int .i64 0, .int .i64 0], .int .i64 2]) (by simp [results, Tryz.results12, go_sem, y0, y1]) rfl ⟨rfl, EF⟩
 ·simp only [hr1] at NP2
  have hnn : (p.nn && r.nn) = true := by rw [hp1, hr1]; rfl
  have hI := Lib.hid (HI.out.2 hnn)
  clear HI
  go_upto_region 3 with (first | (go_at_call 51; (with_reducible refine Calls.mono (NP1 _) ?_); rintro e w1 ⟨rfl, h⟩; replace E := E.trans h; replace B1 := B1.ext h; replace B2 := B2.ext h; replace B3 := B3.ext h; clear h k0 k1 lk p0 p1 lp; obtain ⟨k0, k1⟩ := B1.c2; have lk := B1.lt; obtain ⟨p0, p1⟩ := B2.c2; have lp := B2.lt) | (go_at_call 51; (with_reducible refine Calls.mono (NP2 _) ?_); rintro e w2 ⟨rfl, h⟩; replace E := E.trans h; replace B1 := B1.ext h; replace B2 := B2.ext h; replace B3 := B3.ext h; clear h k0 k1 lk p0 p1 lp; obtain ⟨k0, k1⟩ := B1.c2; have lk := B1.lt; obtain ⟨p0, p1⟩ := B2.c2; have lp := B2.lt))
  clear NP1 NP2 hp1 hr1 k0 k1 lk p0 p1 lp
  by_cases c1 : k < 0
  ·have g1 : decide (k < 0) = true := decide_eq_true c1
   have hr := hI.out.1 (.inl c1)
   subst hr
   clear hI hnn c1
   have f0 := B3.frozen 0
   have f1 := B3.frozen 1
   obtain ⟨x0, x1⟩ := B3.c2
   have lx := B3.lt
   have H4 := held_two B3 (.int .i64 0) (.int .i64 0)
   have EF := (E.setCell (p := ⟨b3, 0, none⟩) hbr (.int .i64 0)).setCell (p := ⟨b3, 1, none⟩) hbr (.int .i64 0)
   obtain ⟨y0, y1⟩ := H4.c2
   go_wp2
   refine bodyPost_ret (v := .tuple #[.agg #[.int .i64 0, .int .i64 0], .int .i64 8]) (by simp [results, Tryz.results12, go_sem, y0, y1]) rfl ⟨rfl, EF⟩
  ·have g1 : decide (k < 0) = false := decide_eq_false c1
   by_cases c2 : 1099511627776 < k
   ·have g2 : decide (1099511627776 < k) = true := decide_eq_true c2
    have hr := hI.out.1 (.inr c2)
    subst hr
    clear hI hnn c1 c2
    have f0 := B3.frozen 0
    have f1 := B3.frozen 1
    obtain ⟨x0, x1⟩ := B3.c2
    have lx := B3.lt
    have H4 := held_two B3 (.int .i64 0) (.int .i64 0)
    have EF := (E.setCell (p := ⟨b3, 0, none⟩) hbr (.int .i64 0)).setCell (p := ⟨b3, 1, none⟩) hbr (.int .i64 0)
    obtain ⟨y0, y1⟩ := H4.c2
    go_wp2
    refine bodyPost_ret (v := .tuple #[.agg #[.int .i64 0, .int .i64 0], .int .i64 8]) (by simp [results, Tryz.results12, go_sem, y0, y1]) rfl ⟨rfl, EF⟩
   ·have g2 : decide (1099511627776 < k) = false := decide_eq_false c2
    obtain ⟨np, nr⟩ := Bool.and_eq_true_iff.1 hnn
    have hok : ∀ i, i < 4 → (fact4 p r k i).ok = true := fact4_ok (nn_parts np).1 (nn_parts nr).1 (by omega) (by omega)
    have NP := fun w b h => productF_any (some ⟨b, 0, none⟩) 4 4 (fact4 p r k) w h (by decide) (fun i hi => ok_in (hok i hi))
    rw [prod_muls (by decide) hok, show mulsV (fact4 p r k) 4 = R from (hI.out.2 (by omega) (by omega)).symm] at NP
    clear hI hnn np nr hok c1 c2
    obtain ⟨⟨Rn, Rd⟩, Re⟩ := R
    go_upto_region 5 with (fail)
    refine wp_region_z 11 [9, 10] (fun x => Ext w2 x) mixed rfl ?_
    intro vz hvz
    have HC := hvz
    refine z_stills (g := 7) [0, 1, 2, 4] [_, _, _, _] ⟨rfl, rfl, rfl, rfl, trivial⟩ (by kernel_rfl) (by kernel_rfl) HC ?_
    simp only [zgA, zgB, zgC]
    apply Exists.intro
    refine ⟨fun u hu => ?_, ?_⟩
    ·obtain ⟨k0, k1⟩ := (B1.ext hu).c2
     obtain ⟨p0, p1⟩ := (B2.ext hu).c2
     have lk := (B1.ext hu).lt
     have lp := (B2.ext hu).lt
     repeat (first | go_big_quiet_skip | (go_big_quiet_want; go_big_quiet_op; go_big_quiet_on))
     refine wpQuiet_nil ?_
     rfl
    refine z_one 3 rfl (by kernel_rfl) ?_
    simp only [zgA, zgB, zgC]
    go_wp2_with (go_at_call 53; (with_reducible refine Calls.mono (wholeR_any _ _) ?_); rintro e va ⟨rfl, h4⟩)
    replace HC := HC.trans h4
    clear h4 hvz
    refine onQ_in HC ?_
    refine z_one 5 rfl (by kernel_rfl) ?_
    simp only [zgA, zgB, zgC]
    go_wp2
    have B5 := rows4 (p := p) (r := r) (k := k) (Held.new va 23 #[.int .i64 p.n, .int .i64 p.d, .int .i64 r.n, .int .i64 r.d, .int .i64 k, .int .i64 1, .int .i64 1, .int .i64 360])
    replace HC : Ext w2 (va.alloc _) := HC.alloc (.cells #[.int .i64 p.n, .int .i64 p.d, .int .i64 r.n, .int .i64 r.d, .int .i64 k, .int .i64 1, .int .i64 1, .int .i64 360] 23)
    generalize va.heap.size = b5 at *
    generalize World.alloc va _ = vd at *
    clear va
    refine onQ_in HC ?_
    refine z_one 6 rfl (by kernel_rfl) ?_
    simp only [zgA, zgB, zgC]
    go_wp2_with (go_at_call 52; (with_reducible refine Calls.mono (NP _ _ B5) ?_); rintro e vb ⟨rfl, h4⟩)
    replace HC := HC.trans h4
    clear h4 B5 NP
    refine onQ_in HC ?_
    refine z_stills (g := 2) [7, 8] [_, _] ⟨rfl, rfl, trivial⟩ (by kernel_rfl) (by kernel_rfl) HC ?_
    simp only [zgA, zgB, zgC]
    apply Exists.intro
    refine ⟨fun u hu => ?_, ?_⟩
    ·skip
     repeat (first | go_big_quiet_skip | (go_big_quiet_want; go_big_quiet_op; go_big_quiet_on))
     refine wpQuiet_nil ?_
     rfl
    replace B3 := B3.ext HC
    replace E := E.trans HC
    refine z_end 9 rfl (by kernel_rfl) ?_
    simp only [zgA, zgB, zgC]
    have f0 := B3.frozen 0
    have f1 := B3.frozen 1
    obtain ⟨x0, x1⟩ := B3.c2
    have lx := B3.lt
    have H4 := held_two B3 (.int .i64 Rn) (.int .i64 Rd)
    have EF := (E.setCell (p := ⟨b3, 0, none⟩) hbr (.int .i64 Rn)).setCell (p := ⟨b3, 1, none⟩) hbr (.int .i64 Rd)
    obtain ⟨y0, y1⟩ := H4.c2
    go_wp2
    refine onQ_last ?_
    refine z_end 10 rfl (by kernel_rfl) ?_
    simp only [zgA, zgB, zgC]
    go_wp2
    refine onQ_last ?_
    refine z_done (by kernel_rfl) ?_
    go_wp2
    refine bodyPost_ret (v := .tuple #[.agg #[.int .i64 Rn, .int .i64 Rd], .int .i64 Re]) (by simp [results, Tryz.results12, go_sem, y0, y1]) rfl ⟨rfl, EF⟩
end Go.Proofs.YthmjpbafbohelaaGreatDoor
namespace Go.Proofs.YthmjpbafbohelaaGreatDoor
open Go Go.RowKit
attribute [local go_sem] gv_yes
def moI (y : Yr) (k : Nat) : Int := (y.mos.getD k (0, false)).1
def moS (y : Yr) (k : Nat) : Bool := (y.mos.getD k (0, false)).2
def moL (y : Yr) (k : Nat) : Int := y.len (moI y k) (moS y k)
def pre (y : Yr) (k : Nat) : Int := y.lens (y.mos.take k)
theorem pre_succ {y : Yr} {k : Nat} (h : k < y.mos.length) : pre y (k + 1) = pre y k + moL y k := by
 unfold pre moL moI moS
 rw [List.take_add_one, List.getElem?_eq_getElem h, lens_append, List.getD_eq_getElem?_getD, List.getElem?_eq_getElem h]
 simp [Yr.lens]
theorem pre_all (y : Yr) : pre y y.mos.length = y.days := by unfold pre; rw [List.take_length]; rfl
theorem pre_bd {y : Yr} {k : Nat} (h : k ≤ y.mos.length) : 29 * (k : Int) ≤ pre y k ∧ pre y k ≤ 30 * (k : Int) := by
 have := lens_29 y (y.mos.take k)
 rw [List.length_take, Nat.min_eq_left h] at this
 exact this
theorem moL_bd (y : Yr) (k : Nat) : 29 ≤ moL y k ∧ moL y k ≤ 30 := len_29 _ _ _
theorem runs_get (i : Nat) (y : Yr) : ∀ (l : List (Int × Bool)) (d : Int) (k : Nat), k < l.length → (runs i y d l)[k]? = some ⟨i, (l.getD k (0, false)).1, (l.getD k (0, false)).2, d + y.lens (l.take k)⟩
 | [], _, _, h => by simp at h
 | p :: l, d, 0, _ => by simp [runs, Yr.lens]
 | p :: l, d, k + 1, h => by
  have := runs_get i y l (d + y.len p.1 p.2) k (by simpa using h)
  simp only [runs, List.getElem?_cons_succ, this, List.getD_cons_succ, List.take_succ_cons, Yr.lens]
  congr 2
  omega
theorem items_pos {c : Cal} {y k : Nat} (hy : y < c.ny) (hk : k < (c.yr y).mos.length) : c.items[(c.itemsTo y).length + k]? = some ⟨y, moI (c.yr y) k, moS (c.yr y) k, c.dayAt y + pre (c.yr y) k⟩ := by
 obtain ⟨t, ht⟩ := itemsTo_pre c (show y + 1 ≤ c.ny from hy)
 unfold Cal.items
 rw [← ht]
 show ((c.itemsTo y ++ runs y (c.yr y) (c.dayAt y) (c.yr y).mos) ++ t)[_]? = _
 have hl : ((c.itemsTo y).length + k) < (c.itemsTo y ++ runs y (c.yr y) (c.dayAt y) (c.yr y).mos).length := by rw [List.length_append, runs_length]; omega
 rw [List.getElem?_append_left hl, List.getElem?_append_right (by omega), Nat.add_sub_cancel_left]
 exact runs_get _ _ _ _ _ hk
theorem itemsTo_next (c : Cal) (y : Nat) : (c.itemsTo (y + 1)).length = (c.itemsTo y).length + (c.yr y).mos.length := by
 show (c.itemsTo y ++ runs y (c.yr y) (c.dayAt y) (c.yr y).mos).length = _
 rw [List.length_append, runs_length]
theorem num_pos {c : Cal} {d : Dt} {y k : Nat} (hd : c.has d = true) (hy : y < c.ny) (hk : k < (c.yr y).mos.length) (h1 : (y : Int) = d.y) (h2 : moI (c.yr y) k = d.m) (h3 : moS (c.yr y) k = d.s) :
  c.num d = (c.dayAt y + pre (c.yr y) k + d.d - 1, (((c.itemsTo y).length + k : Nat) : Int) + 1) := by
 obtain ⟨i, x, hx, ⟨g1, g2, g3⟩, hn, _, _⟩ := num_ix hd
 have hp := items_pos hy hk
 have e : i = (c.itemsTo y).length + k := items_key hx hp (by simp only; omega) (by simp only; rw [g2, h2]) (by simp only; rw [g3, h3])
 subst e
 rw [hx] at hp
 obtain rfl := Option.some.inj hp
 rw [hn]
theorem num_pos_at {c : Cal} {n k M j : Nat} {m d X : Int} {s : Bool} {NV : Int × Int} (_hk : k < c.ny) (hj : j < (c.yr k).mos.length) (HN : Hid (∀ k, k < (c.yr n).mos.length → moI (c.yr n) k = m → moS (c.yr n) k = s → NV = (c.dayAt n + pre (c.yr n) k + d - 1, (((c.itemsTo n).length + k : Nat) : Int) + 1)))
  (HX : Hid (X = c.dayAt k + d - 1)) (HM : Hid (M = (c.itemsTo k).length)) (e : k = n) (h1 : moI (c.yr k) j = m) (h2 : moS (c.yr k) j = s) : NV = (X + pre (c.yr k) j, ((M + j : Nat) : Int) + 1) := by
 subst e
 have := HN.out j hj h1 h2
 rw [this, HX.out, HM.out]
 congr 1
 omega
theorem has_find {c : Cal} {n : Nat} {m d : Int} {s : Bool} (h : c.has ⟨n, m, s, d⟩ = true) : n < c.ny ∧ (∃ k, k < (c.yr n).mos.length ∧ moI (c.yr n) k = m ∧ moS (c.yr n) k = s) ∧ 1 ≤ d ∧ d ≤ 30 := by
 have g := has_iff.1 h
 have e : c.yrI (n : Int) = c.yr n := by unfold Cal.yrI; rw [Int.toNat_natCast]
 simp only [e] at g
 obtain ⟨i, hi, he⟩ := mos_at (y := c.yr n) g.2.1.1 g.2.1.2 g.2.2.1
 have := (len_29 (c.yr n) m s).2
 exact ⟨by omega, ⟨i, hi, by unfold moI; rw [he], by unfold moS; rw [he]⟩, g.2.2.2.1, by omega⟩
theorem mon_at {w : World} {A : Option Addr} {y : Yr} {i : Nat} (h : RowsAt w A y.mos.length 3 (mrow y)) (hi : i < y.mos.length) :
  ∃ b off, A = some ⟨b, off, none⟩ ∧ b < w.heap.size ∧ w.cell? ⟨b, off + i * 3, none⟩ = some (.int .i64 (moI y i)) ∧ w.cell? ⟨b, off + i * 3 + 1, none⟩ = some (.bool (moS y i)) ∧ w.cell? ⟨b, off + i * 3 + 2, none⟩ = some (.int .i64 (moL y i)) := mon_get h hi
theorem counted_any_r (A A' : Option Addr) (ca cb : Nat) (c : Cal) (D : Dt) (w : World) (hC : CalAt w A ca A' cb c) (hv : c.valid = true) (hd : c.has D = true) :
  Calls Tryz.prog 117 #[.agg #[.slice A c.nk ca, .slice A' c.ny cb], .agg #[.int .i64 D.y, .int .i64 D.m, .bool D.s, .int .i64 D.d]] w fun e w' => e = .returned (.tuple #[.int .i64 (c.num D).1, .int .i64 (c.num D).2]) ∧ Ext w w' := by
 have hny := valid_ny hv
 have hlg := valid_lg hv
 clear hv
 obtain ⟨y, m, s, d⟩ := D
 simp only
 have hy0 : 0 ≤ y := (has_iff.1 hd).1.1
 obtain ⟨n, rfl⟩ := Int.eq_ofNat_of_zero_le hy0
 clear hy0
 obtain ⟨hn, hfind, d0, d1⟩ := has_find hd
 have HF := Lib.hid hfind
 have HNUM := Lib.hid (fun k hk h2 h3 => num_pos hd hn (k := k) hk rfl h2 h3)
 clear hfind hd
 generalize c.num ⟨n, m, s, d⟩ = NV at *
 go_enter Tryz.func117, Tryz.ntmps117
 go_upto_region 1 with (fail)
 obtain ⟨v, hv⟩ := zgE ((w.alloc (.cells #[.slice A c.nk ca, .slice A' c.ny cb] 34)).alloc (.cells #[.int .i64 (n : Int), .int .i64 m, .bool s, .int .i64 d] 37))
 rw [← hv]
 have E : Ext w v := by rw [hv]; exact ((Ext.refl _).alloc _).alloc _
 have B1 : Held v w.heap.size 34 #[.slice A c.nk ca, .slice A' c.ny cb] := by rw [hv]; exact (Held.new _ _ _).alloc _
 have B2 : Held v (w.heap.size + 1) 37 #[.int .i64 (n : Int), .int .i64 m, .bool s, .int .i64 d] := by rw [hv]; exact Held.at _ _ _ _ (by simp)
 clear hv
 have C := hC.ext E
 clear hC
 generalize w.heap.size = b1 at *
 obtain ⟨k0, k1⟩ := B1.c2; have lk := B1.lt
 obtain ⟨p0, p1, p2, p3⟩ := B2.c4; have lp := B2.lt
 go_upto_region 3 with (fail)
 go_loopw [6, 7, 8, 9, 10] (fun dv mv yv _ _ wr => ∃ (k : Nat) (X : Int) (M : Nat), k ≤ n ∧ yv = .int .i64 k ∧ dv = .int .i64 X ∧ mv = .int .i64 (M : Int) ∧ 0 ≤ X ∧ X ≤ 156030 ∧ M ≤ 5200 ∧ Hid (X = c.dayAt k + d - 1) ∧ Hid (M = (c.itemsTo k).length) ∧ Ext v wr) (fun _ _ yv _ _ _ => n + 1 - (intOf yv).toNat)
 case atStart => exact ⟨0, d, 0, Nat.zero_le _, rfl, rfl, rfl, by omega, by omega, by omega, (by show d = 1 + d - 1; omega), rfl, Ext.refl _⟩
 case round =>
  obtain ⟨k, X, M, hk, rfl, rfl, rfl, x0, x1, m1, HX, HM, hE⟩ := hrel
  obtain ⟨wo, rfl⟩ := zgE wr
  clear k0 k1 lk p0 p1 p2 p3 lp
  replace B1 := B1.ext hE
  replace B2 := B2.ext hE
  replace C := C.ext hE
  obtain ⟨k0, k1⟩ := B1.c2
  have lk := B1.lt
  obtain ⟨p0, p1, p2, p3⟩ := B2.c4
  have lp := B2.lt
  have hkn : k < c.ny := by omega
  have hkb : decide ((k : Int) ≤ (n : Int)) = true := decide_eq_true (by omega)
  obtain ⟨yb, yo, hA', hyb, y0, y1, y2, y3⟩ := C.year hkn
  subst hA'
  have hmo := fun w => months_any_r (c.yr k) w (hlg k hkn).1 (hlg k hkn).2
  have HP := Lib.hid (fun j hj => num_pos_at (c := c) (d := d) hkn (j := j) hj HNUM HX HM)
  have HD : Hid (c.dayAt (k + 1) = c.dayAt k + (c.yr k).days) := rfl
  have HB := Lib.hid (dayAt_bd c (k + 1))
  have HI := Lib.hid (itemsTo_next c k)
  have HIL := Lib.hid (itemsTo_length c (k + 1))
  have HA := Lib.hid (pre_all (c.yr k))
  have HF' : Hid (k = n → ∃ j, j < (c.yr k).mos.length ∧ moI (c.yr k) j = m ∧ moS (c.yr k) j = s) := fun e => by subst e; exact HF.out
  have hml := (mos_length (c.yr k)).2
  generalize (c.yr k).days = dys at *
  generalize c.yr k = Y at *
  go_upto_region 6 with (go_at_call 154; (with_reducible refine Calls.mono (hmo _) ?_); rintro e v2 ⟨mv, rfl, h, MA⟩)
  obtain ⟨MA, mcap, rfl, MM⟩ := MA
  clear y0 y1 y2 y3 hyb hmo k0 k1 lk p0 p1 p2 p3 lp
  replace B2 := B2.ext h
  obtain ⟨p0, p1, p2, p3⟩ := B2.c4
  have lp := B2.lt
  go_upto_region 7 with (fail)
  go_loopw [6, 7, 10] (fun dv mv iv wr => ∃ (j : Nat) (X' : Int), j ≤ Y.mos.length ∧ iv = .int .i64 j ∧ dv = .int .i64 X' ∧ mv = .int .i64 ((M + j : Nat) : Int) ∧ 0 ≤ X' ∧ X' ≤ 156500 ∧ Hid (X' = X + pre Y j) ∧ Hid (k = n → ∀ i, i < j → ¬ (moI Y i = m ∧ moS Y i = s)) ∧ Ext v2 wr) (fun _ _ iv _ => Y.mos.length - (intOf iv).toNat)
  case atStart => exact ⟨0, X, Nat.zero_le _, rfl, rfl, rfl, x0, by omega, (by show X = X + 0; omega), (fun _ i hi => absurd hi (by omega)), Ext.refl _⟩
  case round =>
   obtain ⟨j, X', hj, rfl, rfl, rfl, z0, z1, HX', HN, hE2⟩ := hrel
   obtain ⟨wi, rfl⟩ := zgE wr
   clear p0 p1 p2 p3 lp
   obtain ⟨p0, p1, p2, p3⟩ := (B2.ext hE2).c4
   have lp := (B2.ext hE2).lt
   by_cases hlt : j < Y.mos.length
   ·obtain ⟨mb, mo, rfl, hmb, c0, c1, c2⟩ := mon_at (MM.ext hE2) hlt
    have HPj := HP.out j hlt
    have hq := moL_bd Y j
    have HS := Lib.hid (pre_succ hlt)
    have HPB := Lib.hid (pre_bd (y := Y) (k := j + 1) hlt)
    have HN' : Hid ((k = n → ¬ (moI Y j = m ∧ moS Y j = s)) → k = n → ∀ i, i < j + 1 → ¬ (moI Y i = m ∧ moS Y i = s)) := fun h0 e i hi => by
     by_cases e2 : i = j
     ·subst e2; exact h0 e
     ·exact HN.out e i (by omega)
    generalize Y.mos.length = L at *
    generalize moI Y j = x at *
    generalize moS Y j = z at *
    generalize moL Y j = q at *
    obtain ⟨q0, q1⟩ := hq
    by_cases hkn : k = n
    ·have hknb : ((k : Int) == (n : Int)) = true := by rw [hkn]; exact beq_self_eq_true _
     by_cases hx : x = m
     ·have hxb : (x == m) = true := by rw [hx]; exact beq_self_eq_true _
      by_cases hz : z = s
      ·have hzb : (z == s) = true := by rw [hz]; exact beq_self_eq_true _
       have HR : Hid (NV = (X', ((M + j : Nat) : Int) + 1)) := by rw [HX'.out]; exact HPj hkn hx hz
       clear HPj hkn hx hz HN'
       go_upto_region 10 with (fail)
       refine wp_region_xw wi mixed (by kernel_rfl) (by repeat (first | exact Ext.refl _ | (refine Ext.alloc ?_ _) | (refine Ext.trans ?_ (by assumption)))) ?_
       intro hne hrx hry
       try simp only []
       try simp only [List.append_eq, List.cons_append, List.nil_append]
       skip
       repeat (first
        | go_big_quiet_skip
        | (go_big_quiet_want; go_big_quiet_op; go_big_quiet_on))
       clear hne hry hrx
       refine wpQuiet_nil ?_
       intro wn hwn
       obtain ⟨hcwn, hfwn, hzwn⟩ := Ext.rules hwn
       try simp only [World.size_alloc] at hzwn
       obtain ⟨hcbwn, hfbwn, hzbwn⟩ := Ext.rules (show Ext wi wn from (by repeat (first | exact Ext.refl _ | (refine Ext.alloc ?_ _) | (refine Ext.trans ?_ (by assumption)))))
       clear hcwn hfwn
       go_wp2
       go_ret2
       exact ⟨by rw [HR.out]; rfl, (by repeat (first | exact Ext.refl _ | (refine Ext.alloc ?_ _) | (refine Ext.trans ?_ (by assumption))))⟩
      ·have hzb : (z == s) = false := beq_eq_false_iff_ne.2 hz
       have HQ := Lib.hid (HN'.out (fun _ g => hz g.2))
       clear HPj hkn hx hz HN'
       go_upto_region 10 with (fail)
       refine wp_region_xw wi mixed (by kernel_rfl) (by repeat (first | exact Ext.refl _ | (refine Ext.alloc ?_ _) | (refine Ext.trans ?_ (by assumption)))) ?_
       intro hne hrx hry
       try simp only []
       try simp only [List.append_eq, List.cons_append, List.nil_append]
       skip
       repeat (first
        | go_big_quiet_skip
        | (go_big_quiet_want; go_big_quiet_op; go_big_quiet_on))
       clear hne hry hrx
       refine wpQuiet_nil ?_
       intro wn hwn
       obtain ⟨hcwn, hfwn, hzwn⟩ := Ext.rules hwn
       try simp only [World.size_alloc] at hzwn
       obtain ⟨hcbwn, hfbwn, hzbwn⟩ := Ext.rules (show Ext wi wn from (by repeat (first | exact Ext.refl _ | (refine Ext.alloc ?_ _) | (refine Ext.trans ?_ (by assumption)))))
       clear hcwn hfwn
       go_wp2
       have g1 := HX'.out
       have g2 := HS.out
       have g3 := HPB.out
       exact ⟨⟨j + 1, X' + q, by omega, by go_num, by go_num, by go_num, by omega, by omega, by unfold Hid; rw [g2, g1]; omega, HQ.out, (by repeat (first | exact Ext.refl _ | (refine Ext.alloc ?_ _) | (refine Ext.trans ?_ (by assumption))))⟩, by simp [intOf]; omega⟩
     ·have hxb : (x == m) = false := beq_eq_false_iff_ne.2 hx
      have HQ := Lib.hid (HN'.out (fun _ g => hx g.1))
      clear HPj hkn hx HN'
      go_upto_region 10 with (fail)
      refine wp_region_xw wi mixed (by kernel_rfl) (by repeat (first | exact Ext.refl _ | (refine Ext.alloc ?_ _) | (refine Ext.trans ?_ (by assumption)))) ?_
      intro hne hrx hry
      try simp only []
      try simp only [List.append_eq, List.cons_append, List.nil_append]
      skip
      repeat (first
       | go_big_quiet_skip
       | (go_big_quiet_want; go_big_quiet_op; go_big_quiet_on))
      clear hne hry hrx
      refine wpQuiet_nil ?_
      intro wn hwn
      obtain ⟨hcwn, hfwn, hzwn⟩ := Ext.rules hwn
      try simp only [World.size_alloc] at hzwn
      obtain ⟨hcbwn, hfbwn, hzbwn⟩ := Ext.rules (show Ext wi wn from (by repeat (first | exact Ext.refl _ | (refine Ext.alloc ?_ _) | (refine Ext.trans ?_ (by assumption)))))
      clear hcwn hfwn
      go_wp2
      have g1 := HX'.out
      have g2 := HS.out
      have g3 := HPB.out
      exact ⟨⟨j + 1, X' + q, by omega, by go_num, by go_num, by go_num, by omega, by omega, by unfold Hid; rw [g2, g1]; omega, HQ.out, (by repeat (first | exact Ext.refl _ | (refine Ext.alloc ?_ _) | (refine Ext.trans ?_ (by assumption))))⟩, by simp [intOf]; omega⟩
    ·have hknb : ((k : Int) == (n : Int)) = false := beq_eq_false_iff_ne.2 (by omega)
     have HQ := Lib.hid (HN'.out (fun g _ => hkn g))
     clear HPj hkn HN'
     go_upto_region 10 with (fail)
     refine wp_region_xw wi mixed (by kernel_rfl) (by repeat (first | exact Ext.refl _ | (refine Ext.alloc ?_ _) | (refine Ext.trans ?_ (by assumption)))) ?_
     intro hne hrx hry
     try simp only []
     try simp only [List.append_eq, List.cons_append, List.nil_append]
     skip
     repeat (first
      | go_big_quiet_skip
      | (go_big_quiet_want; go_big_quiet_op; go_big_quiet_on))
     clear hne hry hrx
     refine wpQuiet_nil ?_
     intro wn hwn
     obtain ⟨hcwn, hfwn, hzwn⟩ := Ext.rules hwn
     try simp only [World.size_alloc] at hzwn
     obtain ⟨hcbwn, hfbwn, hzbwn⟩ := Ext.rules (show Ext wi wn from (by repeat (first | exact Ext.refl _ | (refine Ext.alloc ?_ _) | (refine Ext.trans ?_ (by assumption)))))
     clear hcwn hfwn
     go_wp2
     have g1 := HX'.out
     have g2 := HS.out
     have g3 := HPB.out
     exact ⟨⟨j + 1, X' + q, by omega, by go_num, by go_num, by go_num, by omega, by omega, by unfold Hid; rw [g2, g1]; omega, HQ.out, (by repeat (first | exact Ext.refl _ | (refine Ext.alloc ?_ _) | (refine Ext.trans ?_ (by assumption))))⟩, by simp [intOf]; omega⟩
   ·obtain rfl : j = Y.mos.length := by omega
    have hkn : k < n := by
     rcases Nat.lt_or_ge k n with h | h
     ·exact h
     ·obtain ⟨i, hi, h1, h2⟩ := HF'.out (by omega)
      exact absurd ⟨h1, h2⟩ (HN.out (by omega) i hi)
    have f1 := HX'.out
    have f2 := HX.out
    have f3 := HD.out
    have f4 := HA.out
    have f5 := HM.out
    have f6 := HI.out
    have f7 := HB.out
    have f8 := HIL.out
    have G1 : Hid (X' = c.dayAt (k + 1) + d - 1 ∧ M + Y.mos.length = (c.itemsTo (k + 1)).length ∧ X' ≤ 156030 ∧ M + Y.mos.length ≤ 5200) := ⟨by omega, by omega, by omega, by omega⟩
    clear f1 f2 f3 f4 f5 f6 f7 f8
    generalize Y.mos.length = L at *
    go_wp2
    obtain ⟨e1, e2, e3, e4⟩ := G1.out
    exact ⟨⟨k + 1, X', M + L, by omega, by go_num, rfl, by go_num, z0, by omega, by omega, e1, e2, (by repeat (first | exact Ext.refl _ | (refine Ext.alloc ?_ _) | (refine Ext.trans ?_ (by assumption))))⟩, by simp [intOf]; omega⟩
end Go.Proofs.YthmjpbafbohelaaGreatDoor
namespace Go.Proofs.YthmjpbafbohelaaGreatDoor
open Go Go.RowKit Go.Shelf
attribute [local go_sem] gv_yes Dt.val
end Go.Proofs.YthmjpbafbohelaaGreatDoor
namespace Go.Proofs.YthmjpbafbohelaaGreatDoor
open Go Go.RowKit
attribute [local go_sem] gv_yes
end Go.Proofs.YthmjpbafbohelaaGreatDoor
namespace Go.Proofs.YthmjpbafbohelaaGreatDoor
open Go Go.RowKit
attribute [local go_sem] gv_yes
theorem two_any_r (A A' : Option Addr) (ca cb : Nat) (c : Cal) (a b : Dt) (w : World) (hC : CalAt w A ca A' cb c) :
  Calls Tryz.prog 116 #[.agg #[.slice A c.nk ca, .slice A' c.ny cb], .agg #[.int .i64 a.y, .int .i64 a.m, .bool a.s, .int .i64 a.d], .agg #[.int .i64 b.y, .int .i64 b.m, .bool b.s, .int .i64 b.d]] w fun e w' => e = .returned (.int .i64 (c.in2E a b)) ∧ Ext w w' := by
 have NV := fun v (h : CalAt v A ca A' cb c) => validR_any A A' ca cb c v h
 unfold Cal.in2E
 cases hv : c.valid
 ·rw [hv] at NV
  clear hv
  go_enter Tryz.func116, Tryz.ntmps116
  go_upto_region 1 with (fail)
  obtain ⟨v, hv⟩ := zgE (((w.alloc (.cells #[.slice A c.nk ca, .slice A' c.ny cb] 34)).alloc (.cells #[.int .i64 a.y, .int .i64 a.m, .bool a.s, .int .i64 a.d] 37)).alloc (.cells #[.int .i64 b.y, .int .i64 b.m, .bool b.s, .int .i64 b.d] 37))
  rw [← hv]
  have E : Ext w v := by rw [hv]; exact (((Ext.refl _).alloc _).alloc _).alloc _
  have B1 : Held v w.heap.size 34 #[.slice A c.nk ca, .slice A' c.ny cb] := by rw [hv]; exact ((Held.new _ _ _).alloc _).alloc _
  have B2 : Held v (w.heap.size + 1) 37 #[.int .i64 a.y, .int .i64 a.m, .bool a.s, .int .i64 a.d] := by rw [hv]; exact (Held.at _ _ _ _ (by simp)).alloc _
  have B3 : Held v (w.heap.size + 1 + 1) 37 #[.int .i64 b.y, .int .i64 b.m, .bool b.s, .int .i64 b.d] := by rw [hv]; exact Held.at _ _ _ _ (by simp)
  clear hv
  have C := hC.ext E
  clear hC
  generalize hb1 : w.heap.size = b1 at *
  replace hb1 := Lib.hid hb1
  obtain ⟨k0, k1⟩ := B1.c2; have lk := B1.lt
  obtain ⟨p0, p1, p2, p3⟩ := B2.c4; have lp := B2.lt
  obtain ⟨q0, q1, q2, q3⟩ := B3.c4; have lq := B3.lt
  go_wp2_with (go_at_call 67; (with_reducible refine Calls.mono (NV _ C) ?_); rintro e v2 ⟨rfl, hx⟩)
  go_ret
  exact ⟨rfl, E.trans hx⟩
 ·have N1 := fun v (h : CalAt v A ca A' cb c) => has_any_r A A' ca cb c a v h hv
  have N2 := fun v (h : CalAt v A ca A' cb c) => has_any_r A A' ca cb c b v h hv
  rw [hv] at NV
  clear hv
  cases ha : c.has a
  ·rw [ha] at N1
   clear ha
   go_enter Tryz.func116, Tryz.ntmps116
   go_upto_region 1 with (fail)
   obtain ⟨v, hv⟩ := zgE (((w.alloc (.cells #[.slice A c.nk ca, .slice A' c.ny cb] 34)).alloc (.cells #[.int .i64 a.y, .int .i64 a.m, .bool a.s, .int .i64 a.d] 37)).alloc (.cells #[.int .i64 b.y, .int .i64 b.m, .bool b.s, .int .i64 b.d] 37))
   rw [← hv]
   have E : Ext w v := by rw [hv]; exact (((Ext.refl _).alloc _).alloc _).alloc _
   have B1 : Held v w.heap.size 34 #[.slice A c.nk ca, .slice A' c.ny cb] := by rw [hv]; exact ((Held.new _ _ _).alloc _).alloc _
   have B2 : Held v (w.heap.size + 1) 37 #[.int .i64 a.y, .int .i64 a.m, .bool a.s, .int .i64 a.d] := by rw [hv]; exact (Held.at _ _ _ _ (by simp)).alloc _
   have B3 : Held v (w.heap.size + 1 + 1) 37 #[.int .i64 b.y, .int .i64 b.m, .bool b.s, .int .i64 b.d] := by rw [hv]; exact Held.at _ _ _ _ (by simp)
   clear hv
   have C := hC.ext E
   clear hC
   generalize hb1 : w.heap.size = b1 at *
   replace hb1 := Lib.hid hb1
   obtain ⟨k0, k1⟩ := B1.c2; have lk := B1.lt
   obtain ⟨p0, p1, p2, p3⟩ := B2.c4; have lp := B2.lt
   obtain ⟨q0, q1, q2, q3⟩ := B3.c4; have lq := B3.lt
   go_upto_region 3 with (go_at_call 67; (with_reducible refine Calls.mono (NV _ C) ?_); rintro e v2 ⟨rfl, h⟩)
   replace E := Ext.trans E h
   replace C := C.ext h
   replace B1 := B1.ext h
   replace B2 := B2.ext h
   replace B3 := B3.ext h
   clear h
   clear k0 k1 lk
   clear p0 p1 p2 p3 lp
   clear q0 q1 q2 q3 lq
   obtain ⟨k0, k1⟩ := B1.c2; have lk := B1.lt
   obtain ⟨p0, p1, p2, p3⟩ := B2.c4; have lp := B2.lt
   obtain ⟨q0, q1, q2, q3⟩ := B3.c4; have lq := B3.lt
   go_wp2_with (go_at_call 129; (with_reducible refine Calls.mono (N1 _ C) ?_); rintro e v3 ⟨rfl, hx⟩)
   go_ret
   exact ⟨rfl, E.trans hx⟩
  ·rw [ha] at N1
   clear ha
   cases hb : c.has b
   ·rw [hb] at N2
    clear hb
    go_enter Tryz.func116, Tryz.ntmps116
    go_upto_region 1 with (fail)
    obtain ⟨v, hv⟩ := zgE (((w.alloc (.cells #[.slice A c.nk ca, .slice A' c.ny cb] 34)).alloc (.cells #[.int .i64 a.y, .int .i64 a.m, .bool a.s, .int .i64 a.d] 37)).alloc (.cells #[.int .i64 b.y, .int .i64 b.m, .bool b.s, .int .i64 b.d] 37))
    rw [← hv]
    have E : Ext w v := by rw [hv]; exact (((Ext.refl _).alloc _).alloc _).alloc _
    have B1 : Held v w.heap.size 34 #[.slice A c.nk ca, .slice A' c.ny cb] := by rw [hv]; exact ((Held.new _ _ _).alloc _).alloc _
    have B2 : Held v (w.heap.size + 1) 37 #[.int .i64 a.y, .int .i64 a.m, .bool a.s, .int .i64 a.d] := by rw [hv]; exact (Held.at _ _ _ _ (by simp)).alloc _
    have B3 : Held v (w.heap.size + 1 + 1) 37 #[.int .i64 b.y, .int .i64 b.m, .bool b.s, .int .i64 b.d] := by rw [hv]; exact Held.at _ _ _ _ (by simp)
    clear hv
    have C := hC.ext E
    clear hC
    generalize hb1 : w.heap.size = b1 at *
    replace hb1 := Lib.hid hb1
    obtain ⟨k0, k1⟩ := B1.c2; have lk := B1.lt
    obtain ⟨p0, p1, p2, p3⟩ := B2.c4; have lp := B2.lt
    obtain ⟨q0, q1, q2, q3⟩ := B3.c4; have lq := B3.lt
    go_upto_region 3 with (go_at_call 67; (with_reducible refine Calls.mono (NV _ C) ?_); rintro e v2 ⟨rfl, h⟩)
    replace E := Ext.trans E h
    replace C := C.ext h
    replace B1 := B1.ext h
    replace B2 := B2.ext h
    replace B3 := B3.ext h
    clear h
    clear k0 k1 lk
    clear p0 p1 p2 p3 lp
    clear q0 q1 q2 q3 lq
    obtain ⟨k0, k1⟩ := B1.c2; have lk := B1.lt
    obtain ⟨p0, p1, p2, p3⟩ := B2.c4; have lp := B2.lt
    obtain ⟨q0, q1, q2, q3⟩ := B3.c4; have lq := B3.lt
    clear k0 k1 lk p0 p1 p2 p3 lp q0 q1 q2 q3 lq
    obtain ⟨k0, k1⟩ := B1.c2; have lk := B1.lt
    obtain ⟨p0, p1, p2, p3⟩ := B2.c4; have lp := B2.lt
    obtain ⟨q0, q1, q2, q3⟩ := B3.c4; have lq := B3.lt
    go_wp2_with (first | (go_at_call 129; (with_reducible refine Calls.mono (N1 _ C) ?_); rintro e v3 ⟨rfl, h1⟩; have C3 := C.ext h1; clear k0 k1 lk q0 q1 q2 q3 lq; obtain ⟨k0, k1⟩ := (B1.ext h1).c2; have lk := (B1.ext h1).lt; obtain ⟨q0, q1, q2, q3⟩ := (B3.ext h1).c4; have lq := (B3.ext h1).lt) | (go_at_call 129; (with_reducible refine Calls.mono (N2 _ C3) ?_); rintro e v4 ⟨rfl, h2⟩))
    go_ret
    exact ⟨rfl, E.trans (h1.trans h2)⟩
   ·rw [hb] at N2
    clear hb
    go_enter Tryz.func116, Tryz.ntmps116
    go_upto_region 1 with (fail)
    obtain ⟨v, hv⟩ := zgE (((w.alloc (.cells #[.slice A c.nk ca, .slice A' c.ny cb] 34)).alloc (.cells #[.int .i64 a.y, .int .i64 a.m, .bool a.s, .int .i64 a.d] 37)).alloc (.cells #[.int .i64 b.y, .int .i64 b.m, .bool b.s, .int .i64 b.d] 37))
    rw [← hv]
    have E : Ext w v := by rw [hv]; exact (((Ext.refl _).alloc _).alloc _).alloc _
    have B1 : Held v w.heap.size 34 #[.slice A c.nk ca, .slice A' c.ny cb] := by rw [hv]; exact ((Held.new _ _ _).alloc _).alloc _
    have B2 : Held v (w.heap.size + 1) 37 #[.int .i64 a.y, .int .i64 a.m, .bool a.s, .int .i64 a.d] := by rw [hv]; exact (Held.at _ _ _ _ (by simp)).alloc _
    have B3 : Held v (w.heap.size + 1 + 1) 37 #[.int .i64 b.y, .int .i64 b.m, .bool b.s, .int .i64 b.d] := by rw [hv]; exact Held.at _ _ _ _ (by simp)
    clear hv
    have C := hC.ext E
    clear hC
    generalize hb1 : w.heap.size = b1 at *
    replace hb1 := Lib.hid hb1
    obtain ⟨k0, k1⟩ := B1.c2; have lk := B1.lt
    obtain ⟨p0, p1, p2, p3⟩ := B2.c4; have lp := B2.lt
    obtain ⟨q0, q1, q2, q3⟩ := B3.c4; have lq := B3.lt
    go_upto_region 3 with (go_at_call 67; (with_reducible refine Calls.mono (NV _ C) ?_); rintro e v2 ⟨rfl, h⟩)
    replace E := Ext.trans E h
    replace C := C.ext h
    replace B1 := B1.ext h
    replace B2 := B2.ext h
    replace B3 := B3.ext h
    clear h
    clear k0 k1 lk
    clear p0 p1 p2 p3 lp
    clear q0 q1 q2 q3 lq
    obtain ⟨k0, k1⟩ := B1.c2; have lk := B1.lt
    obtain ⟨p0, p1, p2, p3⟩ := B2.c4; have lp := B2.lt
    obtain ⟨q0, q1, q2, q3⟩ := B3.c4; have lq := B3.lt
    clear k0 k1 lk p0 p1 p2 p3 lp q0 q1 q2 q3 lq
    obtain ⟨k0, k1⟩ := B1.c2; have lk := B1.lt
    obtain ⟨p0, p1, p2, p3⟩ := B2.c4; have lp := B2.lt
    obtain ⟨q0, q1, q2, q3⟩ := B3.c4; have lq := B3.lt
    go_wp2_with (first | (go_at_call 129; (with_reducible refine Calls.mono (N1 _ C) ?_); rintro e v3 ⟨rfl, h1⟩; have C3 := C.ext h1; clear k0 k1 lk q0 q1 q2 q3 lq; obtain ⟨k0, k1⟩ := (B1.ext h1).c2; have lk := (B1.ext h1).lt; obtain ⟨q0, q1, q2, q3⟩ := (B3.ext h1).c4; have lq := (B3.ext h1).lt) | (go_at_call 129; (with_reducible refine Calls.mono (N2 _ C3) ?_); rintro e v4 ⟨rfl, h2⟩))
    go_ret
    exact ⟨rfl, E.trans (h1.trans h2)⟩
theorem num_month {c : Cal} {d : Dt} (h : c.has d = true) (hny : c.ny ≤ 400) : 0 ≤ (c.num d).2 ∧ (c.num d).2 ≤ 5200 := by
 obtain ⟨i, x, hx, _, hn, _, _⟩ := num_ix h
 have hi := (List.getElem?_eq_some_iff.1 hx).1
 have hl := itemsTo_length c c.ny
 rw [hn]
 simp only
 have : c.items.length = (c.itemsTo c.ny).length := rfl
 omega
theorem scheme_any_r (A A' : Option Addr) (ca cb : Nat) (c : Cal) (a b : Dt) (w : World) (hC : CalAt w A ca A' cb c) :
  Calls Tryz.prog 69 #[.agg #[.slice A c.nk ca, .slice A' c.ny cb], .agg #[.int .i64 a.y, .int .i64 a.m, .bool a.s, .int .i64 a.d], .agg #[.int .i64 b.y, .int .i64 b.m, .bool b.s, .int .i64 b.d]] w fun e w' => e = .returned (.tuple #[.int .i64 (c.schV a b), .int .i64 (c.in2E a b)]) ∧ Ext w w' := by
 have NT := fun v (h : CalAt v A ca A' cb c) => two_any_r A A' ca cb c a b v h
 unfold Cal.schV
 by_cases hE : c.in2E a b = 0
 ·have hvh : c.valid = true ∧ (c.has a && c.has b) = true := by rcases in2E_cases c a b with ⟨_, h⟩ | ⟨_, _, h⟩ | ⟨h1, h2, _⟩ <;> first | exact ⟨h1, h2⟩ | omega
  obtain ⟨hv, hh⟩ := hvh
  rw [Bool.and_eq_true] at hh
  have N2 := fun v (h : CalAt v A ca A' cb c) => counted_any_r A A' ca cb c a v h hv hh.1
  have N3 := fun v (h : CalAt v A ca A' cb c) => counted_any_r A A' ca cb c b v h hv hh.2
  have d1 := has_day hh.1
  have d2 := has_day hh.2
  have x1 := num_in hh.1
  have y1 := num_in hh.2
  have x2 := num_month hh.1 (valid_ny hv)
  have y2 := num_month hh.2 (valid_ny hv)
  have hb := dayAt_bd c c.ny
  have hny := valid_ny hv
  have x3 : 0 ≤ (c.num a).1 ∧ (c.num a).1 ≤ 156000 := by omega
  have y3 : 0 ≤ (c.num b).1 ∧ (c.num b).1 ≤ 156000 := by omega
  simp only [hE] at NT
  rw [if_pos hE, hE]
  generalize c.num a = x at *
  generalize c.num b = y at *
  obtain ⟨x31, x32⟩ := x3
  obtain ⟨y31, y32⟩ := y3
  obtain ⟨x21, x22⟩ := x2
  obtain ⟨y21, y22⟩ := y2
  obtain ⟨d11, d12⟩ := d1
  obtain ⟨d21, d22⟩ := d2
  clear hv hh hE x1 y1 hb
  go_enter Tryz.func69, Tryz.ntmps69
  go_upto_region 1 with (fail)
  obtain ⟨v, hv⟩ := zgE (((w.alloc (.cells #[.slice A c.nk ca, .slice A' c.ny cb] 34)).alloc (.cells #[.int .i64 a.y, .int .i64 a.m, .bool a.s, .int .i64 a.d] 37)).alloc (.cells #[.int .i64 b.y, .int .i64 b.m, .bool b.s, .int .i64 b.d] 37))
  rw [← hv]
  have E : Ext w v := by rw [hv]; exact (((Ext.refl _).alloc _).alloc _).alloc _
  have B1 : Held v w.heap.size 34 #[.slice A c.nk ca, .slice A' c.ny cb] := by rw [hv]; exact ((Held.new _ _ _).alloc _).alloc _
  have B2 : Held v (w.heap.size + 1) 37 #[.int .i64 a.y, .int .i64 a.m, .bool a.s, .int .i64 a.d] := by rw [hv]; exact (Held.at _ _ _ _ (by simp)).alloc _
  have B3 : Held v (w.heap.size + 1 + 1) 37 #[.int .i64 b.y, .int .i64 b.m, .bool b.s, .int .i64 b.d] := by rw [hv]; exact Held.at _ _ _ _ (by simp)
  clear hv
  have C := hC.ext E
  clear hC
  generalize hb1 : w.heap.size = b1 at *
  replace hb1 := Lib.hid hb1
  obtain ⟨k0, k1⟩ := B1.c2; have lk := B1.lt
  obtain ⟨p0, p1, p2, p3⟩ := B2.c4; have lp := B2.lt
  obtain ⟨q0, q1, q2, q3⟩ := B3.c4; have lq := B3.lt
  go_upto_region 2 with (go_at_call 116; (with_reducible refine Calls.mono (NT _ C) ?_); rintro e v2 ⟨rfl, h⟩)
  replace E := Ext.trans E h
  replace C := C.ext h
  replace B1 := B1.ext h
  replace B2 := B2.ext h
  replace B3 := B3.ext h
  clear h
  clear k0 k1 lk
  clear p0 p1 p2 p3 lp
  clear q0 q1 q2 q3 lq
  obtain ⟨k0, k1⟩ := B1.c2; have lk := B1.lt
  obtain ⟨p0, p1, p2, p3⟩ := B2.c4; have lp := B2.lt
  obtain ⟨q0, q1, q2, q3⟩ := B3.c4; have lq := B3.lt
  go_upto_region 5 with (go_at_call 117; (with_reducible refine Calls.mono (N2 _ C) ?_); rintro e v3 ⟨rfl, h⟩)
  replace E := Ext.trans E h
  replace C := C.ext h
  replace B1 := B1.ext h
  replace B2 := B2.ext h
  replace B3 := B3.ext h
  clear h
  clear k0 k1 lk
  clear p0 p1 p2 p3 lp
  clear q0 q1 q2 q3 lq
  obtain ⟨k0, k1⟩ := B1.c2; have lk := B1.lt
  obtain ⟨p0, p1, p2, p3⟩ := B2.c4; have lp := B2.lt
  obtain ⟨q0, q1, q2, q3⟩ := B3.c4; have lq := B3.lt
  go_upto_region 6 with (go_at_call 117; (with_reducible refine Calls.mono (N3 _ C) ?_); rintro e v4 ⟨rfl, h⟩)
  replace E := Ext.trans E h
  replace C := C.ext h
  replace B1 := B1.ext h
  replace B2 := B2.ext h
  replace B3 := B3.ext h
  clear h
  clear k0 k1 lk
  clear p0 p1 p2 p3 lp
  clear q0 q1 q2 q3 lq
  obtain ⟨k0, k1⟩ := B1.c2; have lk := B1.lt
  obtain ⟨p0, p1, p2, p3⟩ := B2.c4; have lp := B2.lt
  obtain ⟨q0, q1, q2, q3⟩ := B3.c4; have lq := B3.lt
  obtain ⟨x1, x2⟩ := x
  obtain ⟨y1, y2⟩ := y
  simp only at x31 x32 y31 y32 x21 x22 y21 y22 ⊢
  go_wp2
  refine bodyPost_ret (v := .tuple #[.int .i64 (30 * (y2 - x2) + b.d - a.d), .int .i64 0]) (by simp [results, Tryz.results69, go_sem]) rfl ⟨rfl, E⟩
 ·have hne : (c.in2E a b == 0) = false := beq_eq_false_iff_ne.2 hE
  rw [if_neg hE]
  clear hE
  generalize c.in2E a b = ee at *
  go_enter Tryz.func69, Tryz.ntmps69
  go_upto_region 1 with (fail)
  obtain ⟨v, hv⟩ := zgE (((w.alloc (.cells #[.slice A c.nk ca, .slice A' c.ny cb] 34)).alloc (.cells #[.int .i64 a.y, .int .i64 a.m, .bool a.s, .int .i64 a.d] 37)).alloc (.cells #[.int .i64 b.y, .int .i64 b.m, .bool b.s, .int .i64 b.d] 37))
  rw [← hv]
  have E : Ext w v := by rw [hv]; exact (((Ext.refl _).alloc _).alloc _).alloc _
  have B1 : Held v w.heap.size 34 #[.slice A c.nk ca, .slice A' c.ny cb] := by rw [hv]; exact ((Held.new _ _ _).alloc _).alloc _
  have B2 : Held v (w.heap.size + 1) 37 #[.int .i64 a.y, .int .i64 a.m, .bool a.s, .int .i64 a.d] := by rw [hv]; exact (Held.at _ _ _ _ (by simp)).alloc _
  have B3 : Held v (w.heap.size + 1 + 1) 37 #[.int .i64 b.y, .int .i64 b.m, .bool b.s, .int .i64 b.d] := by rw [hv]; exact Held.at _ _ _ _ (by simp)
  clear hv
  have C := hC.ext E
  clear hC
  generalize hb1 : w.heap.size = b1 at *
  replace hb1 := Lib.hid hb1
  obtain ⟨k0, k1⟩ := B1.c2; have lk := B1.lt
  obtain ⟨p0, p1, p2, p3⟩ := B2.c4; have lp := B2.lt
  obtain ⟨q0, q1, q2, q3⟩ := B3.c4; have lq := B3.lt
  go_upto_region 2 with (go_at_call 116; (with_reducible refine Calls.mono (NT _ C) ?_); rintro e v2 ⟨rfl, h⟩)
  replace E := Ext.trans E h
  replace C := C.ext h
  replace B1 := B1.ext h
  replace B2 := B2.ext h
  replace B3 := B3.ext h
  clear h
  clear k0 k1 lk
  clear p0 p1 p2 p3 lp
  clear q0 q1 q2 q3 lq
  obtain ⟨k0, k1⟩ := B1.c2; have lk := B1.lt
  obtain ⟨p0, p1, p2, p3⟩ := B2.c4; have lp := B2.lt
  obtain ⟨q0, q1, q2, q3⟩ := B3.c4; have lq := B3.lt
  go_wp2
  go_ret2
  exact ⟨rfl, E⟩
end Go.Proofs.YthmjpbafbohelaaGreatDoor
