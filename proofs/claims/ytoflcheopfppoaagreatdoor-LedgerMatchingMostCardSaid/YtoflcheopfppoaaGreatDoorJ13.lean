/- Walks of the program's functions and plain facts, packed; proved: the lemmas below; no conditions but those that each states. -/
import Derived.Test.YtoflcheopfppoaaGreatDoorJ12
set_option maxRecDepth 100000
set_option maxHeartbeats 4000000
namespace Go.Proofs.YtoflcheopfppoaaGreatDoor
section
open Go Go.RowKit Go.Shelf
attribute [local go_sem] Zq
theorem Qd1 (n : Nat) (hn : n < 9223372036854775808) (w : World) :
  Calls Tryz.prog 189 #[.int .u64 1, .int .u64 (n : Int)] w fun e w' => e = .returned (.tuple #[.int .u64 0, .int .u64 (n : Int)]) ∧ w = w' := by
 have h := Dz 1 n (by decide) (by omega) w
 rw [show (1 * n / 18446744073709551616 : Nat) = 0 by omega, show (1 * n % 18446744073709551616 : Nat) = n by omega] at h
 exact h
theorem M1 : Tryz.prog.elem 125 = 3 := by kernel_rfl
theorem C9 (w : World) : (sizeOf 3).run Tryz.prog w = .ok 1 w := by
 obtain ⟨i0, hi, hz0, hz1, hz2⟩ := info_parts Nf
 simp [sizeOf, typeInfo, hi, hz1]
theorem Qf1 (g N q : Nat) (h : q < N) (w : World) : (Instr.slice 125 (.slice (some ⟨g, 0, none⟩) N N) (some (.int .i64 (q : Int))) none none).run Tryz.prog w = .ok (.slice (some ⟨g, q, none⟩) (N - q) (N - q)) w := by
 rw [run_slice_l (P := Tryz.prog) w 125 (some ⟨g, 0, none⟩) N N (by rw [M1]; exact Tryz.underlying125) .i64 q (by omega) (by omega), M1, C9]
 have e : ((q : Int)).toNat = q := by omega
 simp only [Result.andThen_ok, e, sliced]
 rw [if_neg (by omega)]
 simp only [Nat.mul_one, Option.map_some, Addr.add_lit, Nat.zero_add]
theorem sl_to (g N q : Nat) (h : q ≤ N) (h0 : 0 < N) (w : World) : (Instr.slice 125 (.slice (some ⟨g, 0, none⟩) N N) none (some (.int .i64 (q : Int))) none).run Tryz.prog w = .ok (.slice (some ⟨g, 0, none⟩) q N) w := by
 rw [run_slice_h (P := Tryz.prog) w 125 (some ⟨g, 0, none⟩) N N (by rw [M1]; exact Tryz.underlying125) .i64 q (by omega) (by omega), M1, C9]
 have e : ((q : Int)).toNat = q := by omega
 simp only [Result.andThen_ok, e, sliced]
 rw [if_neg (by omega)]
 simp [Addr.add]
def Z9 (N q : Nat) : List Value := List.replicate q (.int .i64 (-1)) ++ List.replicate (N - q) (.int .i64 0)
theorem Pq {N q j : Nat} (h : j < q) : (Z9 N q).toArray[j]? = some (.int .i64 (-1)) := by
 unfold Z9
 rw [List.getElem?_toArray, List.getElem?_append_left (by simpa using h)]
 simp [h]
theorem Qb6 {N q : Nat} (h : q ≤ N) : (Z9 N q).length = N := by unfold Z9; simp; omega
theorem Qb7 (N q : Nat) : splice (Z9 N q) q (List.replicate (Nat.min q (N - q)) (.int .i64 (-1))) = Z9 N (q + Nat.min q (N - q)) := by
 unfold splice Z9
 have hm : Nat.min q (N - q) ≤ N - q := Nat.min_le_right _ _
 rw [List.take_left' (by simp), List.drop_append, List.length_replicate, List.length_replicate, List.drop_eq_nil_of_le (by simp), List.nil_append, List.drop_replicate, ← List.append_assoc, List.replicate_append_replicate]
 congr 2
 omega
theorem szI : (Tryz.prog.info? 3).map (·.size) = some 1 := by kernel_rfl
theorem Gu {w : World} {g n q m dl sl sc : Nat} {src : Addr} (HG : Qb w g 3 (Z9 n q).toArray) (hq : q ≤ n) (hdl : dl = n - q) (hm : m = Nat.min sl dl) (hsrc : ∀ j, j < m → w.cell? (src.add j) = some (.int .i64 (-1))) (hh : splice (Z9 n q) q (List.replicate m (.int .i64 (-1))) = Z9 n (q + m)) :
  (Builtin.copy_ #[125, 125] 3 #[.slice (some ⟨g, q, none⟩) dl dl, .slice (some src) sl sc]).run Tryz.prog w = .ok (.int .i64 (m : Int)) (w.setRow g (Z9 n (q + m)).toArray) := by
 have hmd : m ≤ dl := by rw [hm]; exact Nat.min_le_right _ _
 have h := run_copy_row (P := Tryz.prog) w 125 125 3 3 g q dl dl src sl sc (Z9 n q).toArray 3 (List.replicate m (.int .i64 (-1))) Tryz.underlying125 szI HG (by rw [List.length_replicate]; exact hm) (fun j u hj => by
  obtain ⟨h1, h2⟩ := List.getElem?_eq_some_iff.1 hj
  rw [List.getElem_replicate] at h2
  rw [← h2]
  exact hsrc j (by simpa using h1)) (by rw [List.length_replicate, List.size_toArray, Qb6 hq]; omega) (fun u hu => by rw [List.eq_of_mem_replicate hu]; rfl)
 rw [h, ← hh]
 unfold splice
 simp [goInt]
section
variable {P : Program} {ops : Array Oper} {md : Region.Mode} {C : World → Prop} {R : Act → World → Prop} {zs : List Nat}
theorem Es {f : Nat} {L : Array Bool} {a : Act} {w : World} {o1 o2 o3 o4 : Oper} (k1 k2 k3 k4 : Nat) (h1 : ops[k1]? = some o1) (h2 : ops[k2]? = some o2) (h3 : ops[k3]? = some o3) (h4 : ops[k4]? = some o4) (hB : decide (Region.ready md ops L = [k1, k2, k3, k4]) = true)
  (ha : wpList P ops (Jj fun a' w' => C w' ∧ Z7 P md ops C zs R f (L.setIfInBounds k1 true) a' w') [o1] a w)
  (hb : wpList P ops (Jj fun a' w' => C w' ∧ Z7 P md ops C zs R f (L.setIfInBounds k2 true) a' w') [o2] a w)
  (hc : wpList P ops (Jj fun a' w' => C w' ∧ Z7 P md ops C zs R f (L.setIfInBounds k3 true) a' w') [o3] a w)
  (hd : wpList P ops (Jj fun a' w' => C w' ∧ Z7 P md ops C zs R f (L.setIfInBounds k4 true) a' w') [o4] a w) : Z7 P md ops C zs R (f + 1) L a w := by
 have hB := of_decide_eq_true hB
 refine ⟨fun h => (by rw [hB] at h; cases h), fun j hj => ?_⟩
 rw [hB] at hj
 rcases List.mem_cons.1 hj with rfl | hj
 ·exact wpOp_mono (fun a' w' h' => ⟨fun _ => h'.1, h'.2⟩) (Xx (We h1 ha))
 ·rcases List.mem_cons.1 hj with rfl | hj
  ·exact wpOp_mono (fun a' w' h' => ⟨fun _ => h'.1, h'.2⟩) (Xx (We h2 hb))
  ·rcases List.mem_cons.1 hj with rfl | hj
   ·exact wpOp_mono (fun a' w' h' => ⟨fun _ => h'.1, h'.2⟩) (Xx (We h3 hc))
   ·rw [List.mem_singleton] at hj
    subst hj
    exact wpOp_mono (fun a' w' h' => ⟨fun _ => h'.1, h'.2⟩) (Xx (We h4 hd))
end
def cutW (A : Option Addr → Nat → Option Addr → Nat → Nat → Nat → Nat → Nat → Nat → Nat → Nat → Act) (S : World → Option Addr → Nat → Option Addr → Nat → Nat → Nat → Nat → Nat → Nat → Nat → Nat → Prop) : Exit → Act → World → Prop := fun e a' w' => e = .normal ∧ ∃ O cO I cI bo bi bf bs bm b1 b2, S w' O cO I cI bo bi bf bs bm b1 b2 ∧ a' = A O cO I cI bo bi bf bs bm b1 b2
theorem Qa2 {A : Option Addr → Nat → Option Addr → Nat → Nat → Nat → Nat → Nat → Nat → Nat → Nat → Act} {S : World → Option Addr → Nat → Option Addr → Nat → Nat → Nat → Nat → Nat → Nat → Nat → Nat → Prop} {w' : World} (O : Option Addr) (cO : Nat) (I : Option Addr) (cI bo bi bf bs bm b1 b2 : Nat) {a' : Act} (h : S w' O cO I cI bo bi bf bs bm b1 b2) (ha : a' = A O cO I cI bo bi bf bs bm b1 b2) : cutW A S .normal a' w' := ⟨rfl, O, cO, I, cI, bo, bi, bf, bs, bm, b1, b2, h, ha⟩
theorem Qg6 {P : Program} {c : Code} {Q : Exit → Act → World → Prop} {a : Act} {w : World} {A : Option Addr → Nat → Option Addr → Nat → Nat → Nat → Nat → Nat → Nat → Nat → Nat → Act} (S : World → Option Addr → Nat → Option Addr → Nat → Nat → Nat → Nat → Nat → Nat → Nat → Nat → Prop) (h1 : c.wp P (cutW A S) a w) (h2 : ∀ O cO I cI bo bi bf bs bm b1 b2 w', S w' O cO I cI bo bi bf bs bm b1 b2 → Q .normal (A O cO I cI bo bi bf bs bm b1 b2) w') : c.wp P Q a w :=
 Code.wp_mono (fun e a' w' ⟨he, O, cO, I, cI, bo, bi, bf, bs, bm, b1, b2, hs, ha⟩ => by subst he; subst ha; exact h2 O cO I cI bo bi bf bs bm b1 b2 w' hs) h1
theorem I6 (n : Nat) (hn : n < 9223372036854775808) (w : World) :
  Calls Tryz.prog 165 #[.int .u64 1, .int .u64 (n : Int)] w fun e w' => e = .returned (.tuple #[.int .u64 0, .int .u64 (n : Int)]) ∧ w = w' := by
 go_enter Tryz.func165, Tryz.ntmps165
 go_wp2_with (go_at_call 189; (with_reducible refine Calls.mono (Qd1 n hn _) ?_); rintro e w' ⟨rfl, rfl⟩)
 go_ret2
 exact ⟨rfl, rfl⟩
theorem X8 (n bx : Nat) (w : World) (hx : w.cell? ⟨bx, 0, none⟩ = some (.int .i64 (-1))) (hbx : bx < w.heap.size) (hn : n ≤ 1000000) :
  Calls Tryz.prog 126 #[.slice (some ⟨bx, 0, none⟩) 1 1, .int .i64 (n : Int)] w fun e w' => ∃ A cap b, e = .returned (.slice A n cap) ∧ Qa w w' ∧ w.heap.size ≤ b ∧ Qx w' 3 A n b (fun _ => (.int .i64 (-1))) := by
 have NM := fun w => I6 n (by omega) w
 have hmk := fun w => Qdt n hn w
 have wr1 : IntKind.u64.wrap (n : Int) = n := by rw [IntKind.wrap_u64]; omega
 have wr2 : IntKind.i64.wrap (n : Int) = n := by rw [IntKind.wrap_i64]; omega
 have g1 : decide ((9223372036854775807 : Int) < (n : Int)) = false := decide_eq_false (by omega)
 go_enter Tryz.func126, Tryz.ntmps126
 go_upto_region 4 with (go_at_call 165; (with_reducible refine Calls.mono (NM _) ?_); rintro e w' ⟨rfl, rfl⟩)
 go_upto_region 7 with (fail)
 obtain ⟨v, hv⟩ := Qg (w.alloc (.cells (Array.replicate n (.int .i64 0)) 3))
 rw [← hv]
 have E : Qa w v := by rw [hv]; exact (Qa.refl _).alloc _
 have HG0 : Qb v w.heap.size 3 (Z9 n 0).toArray := by
  rw [hv]
  have h := Qb.new w 3 (Array.replicate n (.int .i64 0))
  have e : (Z9 n 0).toArray = Array.replicate n (.int .i64 0) := by
   apply Array.ext'
   simp [Z9]
  rw [e]; exact h
 have hxv := (E.cell (p := ⟨bx, 0, none⟩) hbx).trans hx
 clear hv hmk NM hx
 obtain ⟨g, hg⟩ := Qg (w.heap.size)
 rw [← hg] at HG0 ⊢
 have hbg : w.heap.size ≤ g := Nat.le_of_eq hg.symm
 clear hg
 obtain ⟨m1, hm1⟩ := Qg (Nat.min 1 n)
 have hs1 : splice (Z9 n 0) 0 (List.replicate m1 (.int .i64 (-1))) = Z9 n m1 := by
  rw [hm1]
  by_cases h0 : n = 0
  ·subst h0; rfl
  ·rw [show Nat.min 1 n = 1 from Nat.min_eq_left (by omega)]
   obtain ⟨k, rfl⟩ : ∃ k, n = k + 1 := ⟨n - 1, by omega⟩
   simp [splice, Z9, List.replicate_succ]
 have hsrc1 : ∀ j : Nat, j < m1 → v.cell? ((⟨bx, 0, none⟩ : Addr).add j) = some (.int .i64 (-1)) := fun j hj => by
  have hj0 : j = 0 := by
   have : m1 ≤ 1 := by rw [hm1]; exact Nat.min_le_left _ _
   omega
  subst hj0
  rw [Addr.add_lit]
  exact hxv
 have hm1n : m1 ≤ n := by rw [hm1]; exact Nat.min_le_right _ _
 have hm1p : 0 < n → 1 ≤ m1 := fun h => by rw [hm1]; exact Nat.le_min.2 ⟨Nat.le_refl _, h⟩
 replace hm1 := Lib.hid hm1
 replace hs1 := Lib.hid hs1
 replace hm1p := Lib.hid hm1p
 have hcp := Gu (sc := 1) HG0 (Nat.zero_le _) (Nat.sub_zero n).symm hm1.out (fun j hj => hsrc1 j hj) (by rw [Nat.zero_add]; exact hs1.out)
 rw [Nat.zero_add] at hcp
 go_upto_region 8 with (fail)
 have HG2 := setRow_heap v g _ (Z9 n m1).toArray 3 _ HG0
 have E2 : Qa w (v.setRow g (Z9 n m1).toArray) := below_setRow E hbg _
 generalize v.setRow g (Z9 n m1).toArray = w2 at *
 replace HG2 : Qb w2 g 3 (Z9 n m1).toArray := HG2
 clear hcp HG0 hs1 hsrc1 hxv E
 go_loopw [8] (fun iv wr => ∃ q : Nat, q ≤ n ∧ Hid (0 < n → 1 ≤ q) ∧ iv = .int .i64 q ∧ Qb wr g 3 (Z9 n q).toArray ∧ Qa w wr) (fun iv _ => n - (intOf iv).toNat)
 case atStart => exact ⟨m1, hm1n, hm1p, rfl, HG2, E2⟩
 case round =>
  clear HG2 E2 hm1n hm1p hm1
  obtain ⟨q, hq, hq1, rfl, HG, hE⟩ := hrel
  obtain ⟨wo, rfl⟩ := Qg wr
  by_cases hlt : q < n
  ·have h1q := hq1.out (by omega)
   obtain ⟨m, hm⟩ := Qg (Nat.min q (n - q))
   have hmq : m ≤ q := by rw [hm]; exact Nat.min_le_left _ _
   have hmn : m ≤ n - q := by rw [hm]; exact Nat.min_le_right _ _
   have hm1' : 1 ≤ m := by rw [hm]; exact Nat.le_min.2 ⟨h1q, by omega⟩
   have hs2 : Hid (splice (Z9 n q) q (List.replicate m (.int .i64 (-1))) = Z9 n (q + m)) := by rw [hm]; exact Qb7 n q
   replace hm := Lib.hid hm
   have hsl1 := fun w => Qf1 g n q hlt w
   have hsl2 := fun w => sl_to g n q hq (by omega) w
   have hsub : ((n - q : Nat) : Int) = (n : Int) - q := by omega
   go_upto_region 9 with (fail)
   refine Q1 10 [0, 1, 2, 4, 5, 7, 8, 9] (fun x => Qa wo x) Qq rfl ?_
   intro vz hvz
   have HC := hvz
   refine Jw (g := 5) [0, 1, 2, 4, 5] [_, _, _, _, _] ⟨rfl, rfl, rfl, rfl, rfl, trivial⟩ (by kernel_rfl) (by kernel_rfl) ?_
   simp only [Qc, Qd, Qe]
   apply Exists.intro
   refine ⟨fun u hu => ?_, ?_⟩
   ·repeat (first | go_big_quiet_skip | (go_big_quiet_want; go_big_quiet_op; go_big_quiet_on))
    refine wpQuiet_nil ?_
    rfl
   refine Q8 3 6 rfl rfl (by kernel_rfl) ?_ ?_
   ·simp only [Qc, Qd, Qe]
    go_wp2
    refine Qh HC ?_
    refine Qk 6 rfl (by kernel_rfl) ?_
    simp only [Qc, Qd, Qe]
    go_wp2
    refine Qh HC ?_
    refine Qm 7 rfl (by kernel_rfl) ?_
    simp only [Qc, Qd, Qe]
    have HGz := Qb.ext HG HC
    have hcp := Gu (sc := n) HGz hq rfl hm.out (fun j hj => by
     rw [Addr.add_lit, Nat.zero_add, HGz.cell j]
     exact Pq (by omega)) hs2.out
    have HG3 := setRow_heap _ g _ (Z9 n (q + m)).toArray 3 _ HGz
    have E3 : Qa w _ := below_setRow (hE.trans HC) hbg (Z9 n (q + m)).toArray
    go_wp2
    generalize World.setRow _ _ _ = w3 at *
    refine Ql ?_
    refine Jw (g := 1) [8] [_] ⟨rfl, trivial⟩ (by kernel_rfl) (by kernel_rfl) ?_
    simp only [Qc, Qd, Qe]
    apply Exists.intro
    refine ⟨fun u hu => ?_, ?_⟩
    ·repeat (first | go_big_quiet_skip | (go_big_quiet_want; go_big_quiet_op; go_big_quiet_on))
     refine wpQuiet_nil ?_
     rfl
    refine Qm 9 rfl (by kernel_rfl) ?_
    simp only [Qc, Qd, Qe]
    go_wp2
    refine Ql ?_
    refine Qs (by kernel_rfl) ?_
    replace HG3 : Qb w3 g 3 (Z9 n (q + m)).toArray := HG3
    clear HG hs2 hsl1 hsl2
    go_wp2
    exact ⟨⟨q + m, by omega, fun _ => by omega, by go_num, HG3, E3⟩, by simp [intOf]; omega⟩
   ·simp only [Qc, Qd, Qe]
    go_wp2
    refine Qh HC ?_
    refine Qk 3 rfl (by kernel_rfl) ?_
    simp only [Qc, Qd, Qe]
    go_wp2
    refine Qh HC ?_
    refine Qm 7 rfl (by kernel_rfl) ?_
    simp only [Qc, Qd, Qe]
    have HGz := Qb.ext HG HC
    have hcp := Gu (sc := n) HGz hq rfl hm.out (fun j hj => by
     rw [Addr.add_lit, Nat.zero_add, HGz.cell j]
     exact Pq (by omega)) hs2.out
    have HG3 := setRow_heap _ g _ (Z9 n (q + m)).toArray 3 _ HGz
    have E3 : Qa w _ := below_setRow (hE.trans HC) hbg (Z9 n (q + m)).toArray
    go_wp2
    generalize World.setRow _ _ _ = w3 at *
    refine Ql ?_
    refine Jw (g := 1) [8] [_] ⟨rfl, trivial⟩ (by kernel_rfl) (by kernel_rfl) ?_
    simp only [Qc, Qd, Qe]
    apply Exists.intro
    refine ⟨fun u hu => ?_, ?_⟩
    ·repeat (first | go_big_quiet_skip | (go_big_quiet_want; go_big_quiet_op; go_big_quiet_on))
     refine wpQuiet_nil ?_
     rfl
    refine Qm 9 rfl (by kernel_rfl) ?_
    simp only [Qc, Qd, Qe]
    go_wp2
    refine Ql ?_
    refine Qs (by kernel_rfl) ?_
    replace HG3 : Qb w3 g 3 (Z9 n (q + m)).toArray := HG3
    clear HG hs2 hsl1 hsl2
    go_wp2
    exact ⟨⟨q + m, by omega, fun _ => by omega, by go_num, HG3, E3⟩, by simp [intOf]; omega⟩
  ·obtain rfl : q = n := by omega
   go_wp2
   go_ret
   refine ⟨_, _, g, rfl, hE, hbg, fun _ => rfl, fun _ => ⟨_, HG, by simp [Z9], fun k hk => ?_⟩⟩
   simp [Z9, hk]
set_option maxHeartbeats 400000000 in
theorem Qek {adj : Nat → List Nat} (Vo Vi : Option Addr) (no ni co ci : Nat) (vy : Value) (w : World) (hadj : ∀ o, ∀ k ∈ adj o, k < ni) (hY : K9 w vy no adj) (hno : no ≤ 1000000) (hni : ni ≤ 1000000) :
  Calls Tryz.prog 80 #[.slice Vo no co, .slice Vi ni ci, vy] w fun e w' => ∃ bm bs O I X cO cI cX bo bi bf, e = .returned (.pointer (some ⟨bs, 0, none⟩)) ∧ w.heap.size ≤ bs ∧ MS w w' bm bs (.slice Vo no co) (.slice Vi ni ci) vy O I X no ni cO cI cX bo bi bf (Jn adj ni (fun _ => false) no 0 J9).1 (fun _ => false) := by
 obtain ⟨Y, cY, vs, rfl, hYr, hYi⟩ := id hY
 clear hYr hYi
 have hmkb := fun w => Dp ni hni w
 obtain ⟨R, hR⟩ := Qg ((Jn adj ni (fun _ => false) no 0 J9).1)
 rw [← hR]
 replace hR : Hid ((Jn adj ni (fun _ => false) (no - 0) 0 J9).1 = R) := Lib.hid hR.symm
 go_enter Tryz.func80, Tryz.ntmps80
 go_upto_region 1 with (fail)
 apply Qg6 (S := fun w' O cO I cI bo bi bf bs bm b1 b2 => Qa w w' ∧ (Qb w' bm 166 #[.pointer (some ⟨bs, 0, none⟩)] ∧ Qb w' bs 213 #[.slice Vo no co, .slice Vi ni ci, .slice Y no cY, .slice O no cO, .slice I ni cI, .slice (some ⟨bf, 0, none⟩) ni ni, .nilFunc]) ∧ Qx w' 3 O no bo (fun _ => .int .i64 (-1)) ∧ Qx w' 3 I ni bi (fun _ => .int .i64 (-1)) ∧ Qx w' 4 (some ⟨bf, 0, none⟩) ni bf (fun _ => .bool false) ∧ (0 < no → 0 < ni → bo ≠ bi) ∧ w.heap.size ≤ bo ∧ w.heap.size ≤ bi ∧ w.heap.size ≤ bf ∧ w.heap.size ≤ bs ∧ w.heap.size ≤ bm)
 ·refine Q1 18 [17] (fun x => Qa w x) Qq rfl ?_
  intro vz hvz
  have HC := hvz
  have mz0 := trivial
  all_goals try
   (clear mz0
    refine Qr (g := 9) [0, 1, 2, 4, 5, 8, 9, 11, 12] [_, _, _, _, _, _, _, _, _] ⟨rfl, rfl, rfl, rfl, rfl, rfl, rfl, rfl, rfl, trivial⟩ (by kernel_rfl) (by kernel_rfl) HC ?_
    simp only [Qc, Qd, Qe]
    apply Exists.intro
    refine ⟨fun u hu => ?_, ?_⟩
    ·repeat (first | go_big_quiet_skip | (go_big_quiet_want; go_big_quiet_op; go_big_quiet_on))
     refine wpQuiet_nil ?_
     rfl
    have mz1 := trivial)
  all_goals try
   (clear mz1
    refine Es 3 7 13 16 rfl rfl rfl rfl (by kernel_rfl) ?_ ?_ ?_ ?_
    focus
     simp only [Qc, Qd, Qe]
     go_wp2
     obtain ⟨b1, wb, hbq, hwb, HX1, HC', hx, gp_b1⟩ := Qp HC 3 #[(.int .i64 (-1))]
     rw [← hbq, ← hwb]
     replace HC := HC'
     try replace HX2 := HX2.ext hx
     try replace AO := AO.ext hx
     try replace AI := AI.ext hx
     try replace AF := AF.ext hx
     try replace HS := HS.ext hx
     try replace HM := HM.ext hx
     clear hbq hwb hx HC' gp_b1
     have mz2 := trivial
     refine Qh HC ?_
    rotate_left
    focus
     simp only [Qc, Qd, Qe]
     go_wp2
     obtain ⟨b2, wb, hbq, hwb, HX2, HC', hx, gp_b2⟩ := Qp HC 3 #[(.int .i64 (-1))]
     rw [← hbq, ← hwb]
     replace HC := HC'
     try replace HX1 := HX1.ext hx
     try replace AO := AO.ext hx
     try replace AI := AI.ext hx
     try replace AF := AF.ext hx
     try replace HS := HS.ext hx
     try replace HM := HM.ext hx
     clear hbq hwb hx HC' gp_b2
     have mz3 := trivial
     refine Qh HC ?_
    rotate_left
    focus
     simp only [Qc, Qd, Qe]
     go_wp2
     obtain ⟨bf, wb, hbq, hwb, HF, HC', hx, gp_bf⟩ := Qp HC 4 (Array.replicate ni (.bool false))
     rw [← hbq, ← hwb]
     have AF : Qx wb 4 (some ⟨bf, 0, none⟩) ni bf (fun _ => .bool false) := ⟨fun _ => rfl, fun _ => ⟨_, HF, by simp, fun k hk => by simp [hk]⟩⟩
     replace HC := HC'
     try replace HX1 := HX1.ext hx
     try replace HX2 := HX2.ext hx
     try replace AO := AO.ext hx
     try replace AI := AI.ext hx
     try replace HS := HS.ext hx
     try replace HM := HM.ext hx
     clear hbq hwb hx HC' HF
     have mz4 := trivial
     refine Qh HC ?_
    rotate_left
    focus
     simp only [Qc, Qd, Qe]
     go_wp2
     obtain ⟨bm, wb, hbq, hwb, HM, HC', hx, gp_bm⟩ := Qp HC 166 #[.pointer none]
     rw [← hbq, ← hwb]
     replace HC := HC'
     try replace HX1 := HX1.ext hx
     try replace HX2 := HX2.ext hx
     try replace AO := AO.ext hx
     try replace AI := AI.ext hx
     try replace AF := AF.ext hx
     try replace HS := HS.ext hx
     clear hbq hwb hx HC'
     have mz5 := trivial
     refine Qh HC ?_
    rotate_left)
  all_goals try
   (clear mz2
    refine Es 6 7 13 16 rfl rfl rfl rfl (by kernel_rfl) ?_ ?_ ?_ ?_
    focus
     simp only [Qc, Qd, Qe]
     have hz := HC.size
     go_wp2_with (go_at_call 126; (with_reducible refine Calls.mono (X8 no b1 _ HX1.c1 HX1.lt hno) ?_); rintro e wc ⟨O, cO, bo, rfl, hj, hl_bo, AO⟩)
     try replace HX1 := HX1.ext hj
     try replace HX2 := HX2.ext hj
     try replace AI := AI.ext hj
     try replace AF := AF.ext hj
     try replace HS := HS.ext hj
     try replace HM := HM.ext hj
     replace HC := HC.trans hj
     replace hl_bo := Nat.le_trans hz hl_bo
     clear hj hz HX1
     have mz6 := trivial
     refine Qh HC ?_
    rotate_left
    focus
     simp only [Qc, Qd, Qe]
     go_wp2
     obtain ⟨b2, wb, hbq, hwb, HX2, HC', hx, gp_b2⟩ := Qp HC 3 #[(.int .i64 (-1))]
     rw [← hbq, ← hwb]
     replace HC := HC'
     try replace HX1 := HX1.ext hx
     try replace AO := AO.ext hx
     try replace AI := AI.ext hx
     try replace AF := AF.ext hx
     try replace HS := HS.ext hx
     try replace HM := HM.ext hx
     clear hbq hwb hx HC' gp_b2
     have mz7 := trivial
     refine Qh HC ?_
    rotate_left
    focus
     simp only [Qc, Qd, Qe]
     go_wp2
     obtain ⟨bf, wb, hbq, hwb, HF, HC', hx, gp_bf⟩ := Qp HC 4 (Array.replicate ni (.bool false))
     rw [← hbq, ← hwb]
     have AF : Qx wb 4 (some ⟨bf, 0, none⟩) ni bf (fun _ => .bool false) := ⟨fun _ => rfl, fun _ => ⟨_, HF, by simp, fun k hk => by simp [hk]⟩⟩
     replace HC := HC'
     try replace HX1 := HX1.ext hx
     try replace HX2 := HX2.ext hx
     try replace AO := AO.ext hx
     try replace AI := AI.ext hx
     try replace HS := HS.ext hx
     try replace HM := HM.ext hx
     clear hbq hwb hx HC' HF
     have mz8 := trivial
     refine Qh HC ?_
    rotate_left
    focus
     simp only [Qc, Qd, Qe]
     go_wp2
     obtain ⟨bm, wb, hbq, hwb, HM, HC', hx, gp_bm⟩ := Qp HC 166 #[.pointer none]
     rw [← hbq, ← hwb]
     replace HC := HC'
     try replace HX1 := HX1.ext hx
     try replace HX2 := HX2.ext hx
     try replace AO := AO.ext hx
     try replace AI := AI.ext hx
     try replace AF := AF.ext hx
     try replace HS := HS.ext hx
     clear hbq hwb hx HC'
     have mz9 := trivial
     refine Qh HC ?_
    rotate_left)
  all_goals try
   (clear mz3
    refine Xy 3 13 16 rfl rfl rfl (by kernel_rfl) ?_ ?_ ?_
    focus
     simp only [Qc, Qd, Qe]
     go_wp2
     obtain ⟨b1, wb, hbq, hwb, HX1, HC', hx, gp_b1⟩ := Qp HC 3 #[(.int .i64 (-1))]
     rw [← hbq, ← hwb]
     replace HC := HC'
     try replace HX2 := HX2.ext hx
     try replace AO := AO.ext hx
     try replace AI := AI.ext hx
     try replace AF := AF.ext hx
     try replace HS := HS.ext hx
     try replace HM := HM.ext hx
     clear hbq hwb hx HC' gp_b1
     have mz7 := trivial
     refine Qh HC ?_
    rotate_left
    focus
     simp only [Qc, Qd, Qe]
     go_wp2
     obtain ⟨bf, wb, hbq, hwb, HF, HC', hx, gp_bf⟩ := Qp HC 4 (Array.replicate ni (.bool false))
     rw [← hbq, ← hwb]
     have AF : Qx wb 4 (some ⟨bf, 0, none⟩) ni bf (fun _ => .bool false) := ⟨fun _ => rfl, fun _ => ⟨_, HF, by simp, fun k hk => by simp [hk]⟩⟩
     replace HC := HC'
     try replace HX1 := HX1.ext hx
     try replace HX2 := HX2.ext hx
     try replace AO := AO.ext hx
     try replace AI := AI.ext hx
     try replace HS := HS.ext hx
     try replace HM := HM.ext hx
     clear hbq hwb hx HC' HF
     have mz10 := trivial
     refine Qh HC ?_
    rotate_left
    focus
     simp only [Qc, Qd, Qe]
     go_wp2
     obtain ⟨bm, wb, hbq, hwb, HM, HC', hx, gp_bm⟩ := Qp HC 166 #[.pointer none]
     rw [← hbq, ← hwb]
     replace HC := HC'
     try replace HX1 := HX1.ext hx
     try replace HX2 := HX2.ext hx
     try replace AO := AO.ext hx
     try replace AI := AI.ext hx
     try replace AF := AF.ext hx
     try replace HS := HS.ext hx
     clear hbq hwb hx HC'
     have mz11 := trivial
     refine Qh HC ?_
    rotate_left)
  all_goals try
   (clear mz4
    refine Xy 3 7 16 rfl rfl rfl (by kernel_rfl) ?_ ?_ ?_
    focus
     simp only [Qc, Qd, Qe]
     go_wp2
     obtain ⟨b1, wb, hbq, hwb, HX1, HC', hx, gp_b1⟩ := Qp HC 3 #[(.int .i64 (-1))]
     rw [← hbq, ← hwb]
     replace HC := HC'
     try replace HX2 := HX2.ext hx
     try replace AO := AO.ext hx
     try replace AI := AI.ext hx
     try replace AF := AF.ext hx
     try replace HS := HS.ext hx
     try replace HM := HM.ext hx
     clear hbq hwb hx HC' gp_b1
     have mz8 := trivial
     refine Qh HC ?_
    rotate_left
    focus
     simp only [Qc, Qd, Qe]
     go_wp2
     obtain ⟨b2, wb, hbq, hwb, HX2, HC', hx, gp_b2⟩ := Qp HC 3 #[(.int .i64 (-1))]
     rw [← hbq, ← hwb]
     replace HC := HC'
     try replace HX1 := HX1.ext hx
     try replace AO := AO.ext hx
     try replace AI := AI.ext hx
     try replace AF := AF.ext hx
     try replace HS := HS.ext hx
     try replace HM := HM.ext hx
     clear hbq hwb hx HC' gp_b2
     have mz10 := trivial
     refine Qh HC ?_
    rotate_left
    focus
     simp only [Qc, Qd, Qe]
     go_wp2
     obtain ⟨bm, wb, hbq, hwb, HM, HC', hx, gp_bm⟩ := Qp HC 166 #[.pointer none]
     rw [← hbq, ← hwb]
     replace HC := HC'
     try replace HX1 := HX1.ext hx
     try replace HX2 := HX2.ext hx
     try replace AO := AO.ext hx
     try replace AI := AI.ext hx
     try replace AF := AF.ext hx
     try replace HS := HS.ext hx
     clear hbq hwb hx HC'
     have mz12 := trivial
     refine Qh HC ?_
    rotate_left)
  all_goals try
   (clear mz5
    refine Xy 3 7 13 rfl rfl rfl (by kernel_rfl) ?_ ?_ ?_
    focus
     simp only [Qc, Qd, Qe]
     go_wp2
     obtain ⟨b1, wb, hbq, hwb, HX1, HC', hx, gp_b1⟩ := Qp HC 3 #[(.int .i64 (-1))]
     rw [← hbq, ← hwb]
     replace HC := HC'
     try replace HX2 := HX2.ext hx
     try replace AO := AO.ext hx
     try replace AI := AI.ext hx
     try replace AF := AF.ext hx
     try replace HS := HS.ext hx
     try replace HM := HM.ext hx
     clear hbq hwb hx HC' gp_b1
     have mz9 := trivial
     refine Qh HC ?_
    rotate_left
    focus
     simp only [Qc, Qd, Qe]
     go_wp2
     obtain ⟨b2, wb, hbq, hwb, HX2, HC', hx, gp_b2⟩ := Qp HC 3 #[(.int .i64 (-1))]
     rw [← hbq, ← hwb]
     replace HC := HC'
     try replace HX1 := HX1.ext hx
     try replace AO := AO.ext hx
     try replace AI := AI.ext hx
     try replace AF := AF.ext hx
     try replace HS := HS.ext hx
     try replace HM := HM.ext hx
     clear hbq hwb hx HC' gp_b2
     have mz11 := trivial
     refine Qh HC ?_
    rotate_left
    focus
     simp only [Qc, Qd, Qe]
     go_wp2
     obtain ⟨bf, wb, hbq, hwb, HF, HC', hx, gp_bf⟩ := Qp HC 4 (Array.replicate ni (.bool false))
     rw [← hbq, ← hwb]
     have AF : Qx wb 4 (some ⟨bf, 0, none⟩) ni bf (fun _ => .bool false) := ⟨fun _ => rfl, fun _ => ⟨_, HF, by simp, fun k hk => by simp [hk]⟩⟩
     replace HC := HC'
     try replace HX1 := HX1.ext hx
     try replace HX2 := HX2.ext hx
     try replace AO := AO.ext hx
     try replace AI := AI.ext hx
     try replace HS := HS.ext hx
     try replace HM := HM.ext hx
     clear hbq hwb hx HC' HF
     have mz12 := trivial
     refine Qh HC ?_
    rotate_left)
  all_goals try
   (clear mz6
    refine Xy 7 13 16 rfl rfl rfl (by kernel_rfl) ?_ ?_ ?_
    focus
     simp only [Qc, Qd, Qe]
     go_wp2
     obtain ⟨b2, wb, hbq, hwb, HX2, HC', hx, gp_b2⟩ := Qp HC 3 #[(.int .i64 (-1))]
     rw [← hbq, ← hwb]
     replace HC := HC'
     try replace HX1 := HX1.ext hx
     try replace AO := AO.ext hx
     try replace AI := AI.ext hx
     try replace AF := AF.ext hx
     try replace HS := HS.ext hx
     try replace HM := HM.ext hx
     clear hbq hwb hx HC' gp_b2
     have mz13 := trivial
     refine Qh HC ?_
    rotate_left
    focus
     simp only [Qc, Qd, Qe]
     go_wp2
     obtain ⟨bf, wb, hbq, hwb, HF, HC', hx, gp_bf⟩ := Qp HC 4 (Array.replicate ni (.bool false))
     rw [← hbq, ← hwb]
     have AF : Qx wb 4 (some ⟨bf, 0, none⟩) ni bf (fun _ => .bool false) := ⟨fun _ => rfl, fun _ => ⟨_, HF, by simp, fun k hk => by simp [hk]⟩⟩
     replace HC := HC'
     try replace HX1 := HX1.ext hx
     try replace HX2 := HX2.ext hx
     try replace AO := AO.ext hx
     try replace AI := AI.ext hx
     try replace HS := HS.ext hx
     try replace HM := HM.ext hx
     clear hbq hwb hx HC' HF
     have mz14 := trivial
     refine Qh HC ?_
    rotate_left
    focus
     simp only [Qc, Qd, Qe]
     go_wp2
     obtain ⟨bm, wb, hbq, hwb, HM, HC', hx, gp_bm⟩ := Qp HC 166 #[.pointer none]
     rw [← hbq, ← hwb]
     replace HC := HC'
     try replace HX1 := HX1.ext hx
     try replace HX2 := HX2.ext hx
     try replace AO := AO.ext hx
     try replace AI := AI.ext hx
     try replace AF := AF.ext hx
     try replace HS := HS.ext hx
     clear hbq hwb hx HC'
     have mz15 := trivial
     refine Qh HC ?_
    rotate_left)
  all_goals try
   (clear mz7
    refine Xy 6 13 16 rfl rfl rfl (by kernel_rfl) ?_ ?_ ?_
    focus
     simp only [Qc, Qd, Qe]
     have hz := HC.size
     go_wp2_with (go_at_call 126; (with_reducible refine Calls.mono (X8 no b1 _ HX1.c1 HX1.lt hno) ?_); rintro e wc ⟨O, cO, bo, rfl, hj, hl_bo, AO⟩)
     try replace HX1 := HX1.ext hj
     try replace HX2 := HX2.ext hj
     try replace AI := AI.ext hj
     try replace AF := AF.ext hj
     try replace HS := HS.ext hj
     try replace HM := HM.ext hj
     replace HC := HC.trans hj
     replace hl_bo := Nat.le_trans hz hl_bo
     clear hj hz HX1
     have mz13 := trivial
     refine Qh HC ?_
    rotate_left
    focus
     simp only [Qc, Qd, Qe]
     go_wp2
     obtain ⟨bf, wb, hbq, hwb, HF, HC', hx, gp_bf⟩ := Qp HC 4 (Array.replicate ni (.bool false))
     rw [← hbq, ← hwb]
     have AF : Qx wb 4 (some ⟨bf, 0, none⟩) ni bf (fun _ => .bool false) := ⟨fun _ => rfl, fun _ => ⟨_, HF, by simp, fun k hk => by simp [hk]⟩⟩
     replace HC := HC'
     try replace HX1 := HX1.ext hx
     try replace HX2 := HX2.ext hx
     try replace AO := AO.ext hx
     try replace AI := AI.ext hx
     try replace HS := HS.ext hx
     try replace HM := HM.ext hx
     clear hbq hwb hx HC' HF
     have mz16 := trivial
     refine Qh HC ?_
    rotate_left
    focus
     simp only [Qc, Qd, Qe]
     go_wp2
     obtain ⟨bm, wb, hbq, hwb, HM, HC', hx, gp_bm⟩ := Qp HC 166 #[.pointer none]
     rw [← hbq, ← hwb]
     replace HC := HC'
     try replace HX1 := HX1.ext hx
     try replace HX2 := HX2.ext hx
     try replace AO := AO.ext hx
     try replace AI := AI.ext hx
     try replace AF := AF.ext hx
     try replace HS := HS.ext hx
     clear hbq hwb hx HC'
     have mz17 := trivial
     refine Qh HC ?_
    rotate_left)
  all_goals try
   (clear mz8
    refine Xy 6 7 16 rfl rfl rfl (by kernel_rfl) ?_ ?_ ?_
    focus
     simp only [Qc, Qd, Qe]
     have hz := HC.size
     go_wp2_with (go_at_call 126; (with_reducible refine Calls.mono (X8 no b1 _ HX1.c1 HX1.lt hno) ?_); rintro e wc ⟨O, cO, bo, rfl, hj, hl_bo, AO⟩)
     try replace HX1 := HX1.ext hj
     try replace HX2 := HX2.ext hj
     try replace AI := AI.ext hj
     try replace AF := AF.ext hj
     try replace HS := HS.ext hj
     try replace HM := HM.ext hj
     replace HC := HC.trans hj
     replace hl_bo := Nat.le_trans hz hl_bo
     clear hj hz HX1
     have mz14 := trivial
     refine Qh HC ?_
    rotate_left
    focus
     simp only [Qc, Qd, Qe]
     go_wp2
     obtain ⟨b2, wb, hbq, hwb, HX2, HC', hx, gp_b2⟩ := Qp HC 3 #[(.int .i64 (-1))]
     rw [← hbq, ← hwb]
     replace HC := HC'
     try replace HX1 := HX1.ext hx
     try replace AO := AO.ext hx
     try replace AI := AI.ext hx
     try replace AF := AF.ext hx
     try replace HS := HS.ext hx
     try replace HM := HM.ext hx
     clear hbq hwb hx HC' gp_b2
     have mz16 := trivial
     refine Qh HC ?_
    rotate_left
    focus
     simp only [Qc, Qd, Qe]
     go_wp2
     obtain ⟨bm, wb, hbq, hwb, HM, HC', hx, gp_bm⟩ := Qp HC 166 #[.pointer none]
     rw [← hbq, ← hwb]
     replace HC := HC'
     try replace HX1 := HX1.ext hx
     try replace HX2 := HX2.ext hx
     try replace AO := AO.ext hx
     try replace AI := AI.ext hx
     try replace AF := AF.ext hx
     try replace HS := HS.ext hx
     clear hbq hwb hx HC'
     have mz18 := trivial
     refine Qh HC ?_
    rotate_left)
  all_goals try
   (clear mz9
    refine Xy 6 7 13 rfl rfl rfl (by kernel_rfl) ?_ ?_ ?_
    focus
     simp only [Qc, Qd, Qe]
     have hz := HC.size
     go_wp2_with (go_at_call 126; (with_reducible refine Calls.mono (X8 no b1 _ HX1.c1 HX1.lt hno) ?_); rintro e wc ⟨O, cO, bo, rfl, hj, hl_bo, AO⟩)
     try replace HX1 := HX1.ext hj
     try replace HX2 := HX2.ext hj
     try replace AI := AI.ext hj
     try replace AF := AF.ext hj
     try replace HS := HS.ext hj
     try replace HM := HM.ext hj
     replace HC := HC.trans hj
     replace hl_bo := Nat.le_trans hz hl_bo
     clear hj hz HX1
     have mz15 := trivial
     refine Qh HC ?_
    rotate_left
    focus
     simp only [Qc, Qd, Qe]
     go_wp2
     obtain ⟨b2, wb, hbq, hwb, HX2, HC', hx, gp_b2⟩ := Qp HC 3 #[(.int .i64 (-1))]
     rw [← hbq, ← hwb]
     replace HC := HC'
     try replace HX1 := HX1.ext hx
     try replace AO := AO.ext hx
     try replace AI := AI.ext hx
     try replace AF := AF.ext hx
     try replace HS := HS.ext hx
     try replace HM := HM.ext hx
     clear hbq hwb hx HC' gp_b2
     have mz17 := trivial
     refine Qh HC ?_
    rotate_left
    focus
     simp only [Qc, Qd, Qe]
     go_wp2
     obtain ⟨bf, wb, hbq, hwb, HF, HC', hx, gp_bf⟩ := Qp HC 4 (Array.replicate ni (.bool false))
     rw [← hbq, ← hwb]
     have AF : Qx wb 4 (some ⟨bf, 0, none⟩) ni bf (fun _ => .bool false) := ⟨fun _ => rfl, fun _ => ⟨_, HF, by simp, fun k hk => by simp [hk]⟩⟩
     replace HC := HC'
     try replace HX1 := HX1.ext hx
     try replace HX2 := HX2.ext hx
     try replace AO := AO.ext hx
     try replace AI := AI.ext hx
     try replace HS := HS.ext hx
     try replace HM := HM.ext hx
     clear hbq hwb hx HC' HF
     have mz18 := trivial
     refine Qh HC ?_
    rotate_left)
  all_goals try
   (clear mz10
    refine Q8 3 16 rfl rfl (by kernel_rfl) ?_ ?_
    focus
     simp only [Qc, Qd, Qe]
     go_wp2
     obtain ⟨b1, wb, hbq, hwb, HX1, HC', hx, gp_b1⟩ := Qp HC 3 #[(.int .i64 (-1))]
     rw [← hbq, ← hwb]
     replace HC := HC'
     try replace HX2 := HX2.ext hx
     try replace AO := AO.ext hx
     try replace AI := AI.ext hx
     try replace AF := AF.ext hx
     try replace HS := HS.ext hx
     try replace HM := HM.ext hx
     clear hbq hwb hx HC' gp_b1
     have mz16 := trivial
     refine Qh HC ?_
    rotate_left
    focus
     simp only [Qc, Qd, Qe]
     go_wp2
     obtain ⟨bm, wb, hbq, hwb, HM, HC', hx, gp_bm⟩ := Qp HC 166 #[.pointer none]
     rw [← hbq, ← hwb]
     replace HC := HC'
     try replace HX1 := HX1.ext hx
     try replace HX2 := HX2.ext hx
     try replace AO := AO.ext hx
     try replace AI := AI.ext hx
     try replace AF := AF.ext hx
     try replace HS := HS.ext hx
     clear hbq hwb hx HC'
     have mz19 := trivial
     refine Qh HC ?_
    rotate_left)
  all_goals try
   (clear mz11
    refine Q8 3 13 rfl rfl (by kernel_rfl) ?_ ?_
    focus
     simp only [Qc, Qd, Qe]
     go_wp2
     obtain ⟨b1, wb, hbq, hwb, HX1, HC', hx, gp_b1⟩ := Qp HC 3 #[(.int .i64 (-1))]
     rw [← hbq, ← hwb]
     replace HC := HC'
     try replace HX2 := HX2.ext hx
     try replace AO := AO.ext hx
     try replace AI := AI.ext hx
     try replace AF := AF.ext hx
     try replace HS := HS.ext hx
     try replace HM := HM.ext hx
     clear hbq hwb hx HC' gp_b1
     have mz17 := trivial
     refine Qh HC ?_
    rotate_left
    focus
     simp only [Qc, Qd, Qe]
     go_wp2
     obtain ⟨bf, wb, hbq, hwb, HF, HC', hx, gp_bf⟩ := Qp HC 4 (Array.replicate ni (.bool false))
     rw [← hbq, ← hwb]
     have AF : Qx wb 4 (some ⟨bf, 0, none⟩) ni bf (fun _ => .bool false) := ⟨fun _ => rfl, fun _ => ⟨_, HF, by simp, fun k hk => by simp [hk]⟩⟩
     replace HC := HC'
     try replace HX1 := HX1.ext hx
     try replace HX2 := HX2.ext hx
     try replace AO := AO.ext hx
     try replace AI := AI.ext hx
     try replace HS := HS.ext hx
     try replace HM := HM.ext hx
     clear hbq hwb hx HC' HF
     have mz19 := trivial
     refine Qh HC ?_
    rotate_left)
  all_goals try
   (clear mz12
    refine Q8 3 7 rfl rfl (by kernel_rfl) ?_ ?_
    focus
     simp only [Qc, Qd, Qe]
     go_wp2
     obtain ⟨b1, wb, hbq, hwb, HX1, HC', hx, gp_b1⟩ := Qp HC 3 #[(.int .i64 (-1))]
     rw [← hbq, ← hwb]
     replace HC := HC'
     try replace HX2 := HX2.ext hx
     try replace AO := AO.ext hx
     try replace AI := AI.ext hx
     try replace AF := AF.ext hx
     try replace HS := HS.ext hx
     try replace HM := HM.ext hx
     clear hbq hwb hx HC' gp_b1
     have mz18 := trivial
     refine Qh HC ?_
    rotate_left
    focus
     simp only [Qc, Qd, Qe]
     go_wp2
     obtain ⟨b2, wb, hbq, hwb, HX2, HC', hx, gp_b2⟩ := Qp HC 3 #[(.int .i64 (-1))]
     rw [← hbq, ← hwb]
     replace HC := HC'
     try replace HX1 := HX1.ext hx
     try replace AO := AO.ext hx
     try replace AI := AI.ext hx
     try replace AF := AF.ext hx
     try replace HS := HS.ext hx
     try replace HM := HM.ext hx
     clear hbq hwb hx HC' gp_b2
     have mz19 := trivial
     refine Qh HC ?_
    rotate_left)
  all_goals try
   (clear mz13
    refine Xy 10 13 16 rfl rfl rfl (by kernel_rfl) ?_ ?_ ?_
    focus
     simp only [Qc, Qd, Qe]
     have hz := HC.size
     go_wp2_with (go_at_call 126; (with_reducible refine Calls.mono (X8 ni b2 _ HX2.c1 HX2.lt hni) ?_); rintro e wc ⟨I, cI, bi, rfl, hj, hl_bi, AI⟩)
     have hne : 0 < no → 0 < ni → bo ≠ bi := fun h _ => by have := AO.lt h; omega
     try replace HX1 := HX1.ext hj
     try replace HX2 := HX2.ext hj
     try replace AO := AO.ext hj
     try replace AF := AF.ext hj
     try replace HS := HS.ext hj
     try replace HM := HM.ext hj
     replace HC := HC.trans hj
     replace hl_bi := Nat.le_trans hz hl_bi
     clear hj hz HX2
     have mz20 := trivial
     refine Qh HC ?_
    rotate_left
    focus
     simp only [Qc, Qd, Qe]
     go_wp2
     obtain ⟨bf, wb, hbq, hwb, HF, HC', hx, gp_bf⟩ := Qp HC 4 (Array.replicate ni (.bool false))
     rw [← hbq, ← hwb]
     have AF : Qx wb 4 (some ⟨bf, 0, none⟩) ni bf (fun _ => .bool false) := ⟨fun _ => rfl, fun _ => ⟨_, HF, by simp, fun k hk => by simp [hk]⟩⟩
     replace HC := HC'
     try replace HX1 := HX1.ext hx
     try replace HX2 := HX2.ext hx
     try replace AO := AO.ext hx
     try replace AI := AI.ext hx
     try replace HS := HS.ext hx
     try replace HM := HM.ext hx
     clear hbq hwb hx HC' HF
     have mz21 := trivial
     refine Qh HC ?_
    rotate_left
    focus
     simp only [Qc, Qd, Qe]
     go_wp2
     obtain ⟨bm, wb, hbq, hwb, HM, HC', hx, gp_bm⟩ := Qp HC 166 #[.pointer none]
     rw [← hbq, ← hwb]
     replace HC := HC'
     try replace HX1 := HX1.ext hx
     try replace HX2 := HX2.ext hx
     try replace AO := AO.ext hx
     try replace AI := AI.ext hx
     try replace AF := AF.ext hx
     try replace HS := HS.ext hx
     clear hbq hwb hx HC'
     have mz22 := trivial
     refine Qh HC ?_
    rotate_left)
  all_goals try
   (clear mz14
    refine Q8 7 16 rfl rfl (by kernel_rfl) ?_ ?_
    focus
     simp only [Qc, Qd, Qe]
     go_wp2
     obtain ⟨b2, wb, hbq, hwb, HX2, HC', hx, gp_b2⟩ := Qp HC 3 #[(.int .i64 (-1))]
     rw [← hbq, ← hwb]
     replace HC := HC'
     try replace HX1 := HX1.ext hx
     try replace AO := AO.ext hx
     try replace AI := AI.ext hx
     try replace AF := AF.ext hx
     try replace HS := HS.ext hx
     try replace HM := HM.ext hx
     clear hbq hwb hx HC' gp_b2
     have mz21 := trivial
     refine Qh HC ?_
    rotate_left
    focus
     simp only [Qc, Qd, Qe]
     go_wp2
     obtain ⟨bm, wb, hbq, hwb, HM, HC', hx, gp_bm⟩ := Qp HC 166 #[.pointer none]
     rw [← hbq, ← hwb]
     replace HC := HC'
     try replace HX1 := HX1.ext hx
     try replace HX2 := HX2.ext hx
     try replace AO := AO.ext hx
     try replace AI := AI.ext hx
     try replace AF := AF.ext hx
     try replace HS := HS.ext hx
     clear hbq hwb hx HC'
     have mz23 := trivial
     refine Qh HC ?_
    rotate_left)
  all_goals try
   (clear mz15
    refine Q8 7 13 rfl rfl (by kernel_rfl) ?_ ?_
    focus
     simp only [Qc, Qd, Qe]
     go_wp2
     obtain ⟨b2, wb, hbq, hwb, HX2, HC', hx, gp_b2⟩ := Qp HC 3 #[(.int .i64 (-1))]
     rw [← hbq, ← hwb]
     replace HC := HC'
     try replace HX1 := HX1.ext hx
     try replace AO := AO.ext hx
     try replace AI := AI.ext hx
     try replace AF := AF.ext hx
     try replace HS := HS.ext hx
     try replace HM := HM.ext hx
     clear hbq hwb hx HC' gp_b2
     have mz22 := trivial
     refine Qh HC ?_
    rotate_left
    focus
     simp only [Qc, Qd, Qe]
     go_wp2
     obtain ⟨bf, wb, hbq, hwb, HF, HC', hx, gp_bf⟩ := Qp HC 4 (Array.replicate ni (.bool false))
     rw [← hbq, ← hwb]
     have AF : Qx wb 4 (some ⟨bf, 0, none⟩) ni bf (fun _ => .bool false) := ⟨fun _ => rfl, fun _ => ⟨_, HF, by simp, fun k hk => by simp [hk]⟩⟩
     replace HC := HC'
     try replace HX1 := HX1.ext hx
     try replace HX2 := HX2.ext hx
     try replace AO := AO.ext hx
     try replace AI := AI.ext hx
     try replace HS := HS.ext hx
     try replace HM := HM.ext hx
     clear hbq hwb hx HC' HF
     have mz23 := trivial
     refine Qh HC ?_
    rotate_left)
  all_goals try
   (clear mz16
    refine Q8 6 16 rfl rfl (by kernel_rfl) ?_ ?_
    focus
     simp only [Qc, Qd, Qe]
     have hz := HC.size
     go_wp2_with (go_at_call 126; (with_reducible refine Calls.mono (X8 no b1 _ HX1.c1 HX1.lt hno) ?_); rintro e wc ⟨O, cO, bo, rfl, hj, hl_bo, AO⟩)
     try replace HX1 := HX1.ext hj
     try replace HX2 := HX2.ext hj
     try replace AI := AI.ext hj
     try replace AF := AF.ext hj
     try replace HS := HS.ext hj
     try replace HM := HM.ext hj
     replace HC := HC.trans hj
     replace hl_bo := Nat.le_trans hz hl_bo
     clear hj hz HX1
     have mz21 := trivial
     refine Qh HC ?_
    rotate_left
    focus
     simp only [Qc, Qd, Qe]
     go_wp2
     obtain ⟨bm, wb, hbq, hwb, HM, HC', hx, gp_bm⟩ := Qp HC 166 #[.pointer none]
     rw [← hbq, ← hwb]
     replace HC := HC'
     try replace HX1 := HX1.ext hx
     try replace HX2 := HX2.ext hx
     try replace AO := AO.ext hx
     try replace AI := AI.ext hx
     try replace AF := AF.ext hx
     try replace HS := HS.ext hx
     clear hbq hwb hx HC'
     have mz24 := trivial
     refine Qh HC ?_
    rotate_left)
  all_goals try
   (clear mz17
    refine Q8 6 13 rfl rfl (by kernel_rfl) ?_ ?_
    focus
     simp only [Qc, Qd, Qe]
     have hz := HC.size
     go_wp2_with (go_at_call 126; (with_reducible refine Calls.mono (X8 no b1 _ HX1.c1 HX1.lt hno) ?_); rintro e wc ⟨O, cO, bo, rfl, hj, hl_bo, AO⟩)
     try replace HX1 := HX1.ext hj
     try replace HX2 := HX2.ext hj
     try replace AI := AI.ext hj
     try replace AF := AF.ext hj
     try replace HS := HS.ext hj
     try replace HM := HM.ext hj
     replace HC := HC.trans hj
     replace hl_bo := Nat.le_trans hz hl_bo
     clear hj hz HX1
     have mz22 := trivial
     refine Qh HC ?_
    rotate_left
    focus
     simp only [Qc, Qd, Qe]
     go_wp2
     obtain ⟨bf, wb, hbq, hwb, HF, HC', hx, gp_bf⟩ := Qp HC 4 (Array.replicate ni (.bool false))
     rw [← hbq, ← hwb]
     have AF : Qx wb 4 (some ⟨bf, 0, none⟩) ni bf (fun _ => .bool false) := ⟨fun _ => rfl, fun _ => ⟨_, HF, by simp, fun k hk => by simp [hk]⟩⟩
     replace HC := HC'
     try replace HX1 := HX1.ext hx
     try replace HX2 := HX2.ext hx
     try replace AO := AO.ext hx
     try replace AI := AI.ext hx
     try replace HS := HS.ext hx
     try replace HM := HM.ext hx
     clear hbq hwb hx HC' HF
     have mz24 := trivial
     refine Qh HC ?_
    rotate_left)
  all_goals try
   (clear mz18
    refine Q8 6 7 rfl rfl (by kernel_rfl) ?_ ?_
    focus
     simp only [Qc, Qd, Qe]
     have hz := HC.size
     go_wp2_with (go_at_call 126; (with_reducible refine Calls.mono (X8 no b1 _ HX1.c1 HX1.lt hno) ?_); rintro e wc ⟨O, cO, bo, rfl, hj, hl_bo, AO⟩)
     try replace HX1 := HX1.ext hj
     try replace HX2 := HX2.ext hj
     try replace AI := AI.ext hj
     try replace AF := AF.ext hj
     try replace HS := HS.ext hj
     try replace HM := HM.ext hj
     replace HC := HC.trans hj
     replace hl_bo := Nat.le_trans hz hl_bo
     clear hj hz HX1
     have mz23 := trivial
     refine Qh HC ?_
    rotate_left
    focus
     simp only [Qc, Qd, Qe]
     go_wp2
     obtain ⟨b2, wb, hbq, hwb, HX2, HC', hx, gp_b2⟩ := Qp HC 3 #[(.int .i64 (-1))]
     rw [← hbq, ← hwb]
     replace HC := HC'
     try replace HX1 := HX1.ext hx
     try replace AO := AO.ext hx
     try replace AI := AI.ext hx
     try replace AF := AF.ext hx
     try replace HS := HS.ext hx
     try replace HM := HM.ext hx
     clear hbq hwb hx HC' gp_b2
     have mz24 := trivial
     refine Qh HC ?_
    rotate_left)
  all_goals try
   (clear mz19
    refine Qk 3 rfl (by kernel_rfl) ?_
    simp only [Qc, Qd, Qe]
    go_wp2
    obtain ⟨b1, wb, hbq, hwb, HX1, HC', hx, gp_b1⟩ := Qp HC 3 #[(.int .i64 (-1))]
    rw [← hbq, ← hwb]
    replace HC := HC'
    try replace HX2 := HX2.ext hx
    try replace AO := AO.ext hx
    try replace AI := AI.ext hx
    try replace AF := AF.ext hx
    try replace HS := HS.ext hx
    try replace HM := HM.ext hx
    clear hbq hwb hx HC' gp_b1
    have mz24 := trivial
    refine Qh HC ?_)
  all_goals try
   (clear mz20
    refine Q8 13 16 rfl rfl (by kernel_rfl) ?_ ?_
    focus
     simp only [Qc, Qd, Qe]
     go_wp2
     obtain ⟨bf, wb, hbq, hwb, HF, HC', hx, gp_bf⟩ := Qp HC 4 (Array.replicate ni (.bool false))
     rw [← hbq, ← hwb]
     have AF : Qx wb 4 (some ⟨bf, 0, none⟩) ni bf (fun _ => .bool false) := ⟨fun _ => rfl, fun _ => ⟨_, HF, by simp, fun k hk => by simp [hk]⟩⟩
     replace HC := HC'
     try replace HX1 := HX1.ext hx
     try replace HX2 := HX2.ext hx
     try replace AO := AO.ext hx
     try replace AI := AI.ext hx
     try replace HS := HS.ext hx
     try replace HM := HM.ext hx
     clear hbq hwb hx HC' HF
     have mz25 := trivial
     refine Qh HC ?_
    rotate_left
    focus
     simp only [Qc, Qd, Qe]
     go_wp2
     obtain ⟨bm, wb, hbq, hwb, HM, HC', hx, gp_bm⟩ := Qp HC 166 #[.pointer none]
     rw [← hbq, ← hwb]
     replace HC := HC'
     try replace HX1 := HX1.ext hx
     try replace HX2 := HX2.ext hx
     try replace AO := AO.ext hx
     try replace AI := AI.ext hx
     try replace AF := AF.ext hx
     try replace HS := HS.ext hx
     clear hbq hwb hx HC'
     have mz26 := trivial
     refine Qh HC ?_
    rotate_left)
  all_goals try
   (clear mz21
    refine Q8 10 16 rfl rfl (by kernel_rfl) ?_ ?_
    focus
     simp only [Qc, Qd, Qe]
     have hz := HC.size
     go_wp2_with (go_at_call 126; (with_reducible refine Calls.mono (X8 ni b2 _ HX2.c1 HX2.lt hni) ?_); rintro e wc ⟨I, cI, bi, rfl, hj, hl_bi, AI⟩)
     have hne : 0 < no → 0 < ni → bo ≠ bi := fun h _ => by have := AO.lt h; omega
     try replace HX1 := HX1.ext hj
     try replace HX2 := HX2.ext hj
     try replace AO := AO.ext hj
     try replace AF := AF.ext hj
     try replace HS := HS.ext hj
     try replace HM := HM.ext hj
     replace HC := HC.trans hj
     replace hl_bi := Nat.le_trans hz hl_bi
     clear hj hz HX2
     have mz25 := trivial
     refine Qh HC ?_
    rotate_left
    focus
     simp only [Qc, Qd, Qe]
     go_wp2
     obtain ⟨bm, wb, hbq, hwb, HM, HC', hx, gp_bm⟩ := Qp HC 166 #[.pointer none]
     rw [← hbq, ← hwb]
     replace HC := HC'
     try replace HX1 := HX1.ext hx
     try replace HX2 := HX2.ext hx
     try replace AO := AO.ext hx
     try replace AI := AI.ext hx
     try replace AF := AF.ext hx
     try replace HS := HS.ext hx
     clear hbq hwb hx HC'
     have mz27 := trivial
     refine Qh HC ?_
    rotate_left)
  all_goals try
   (clear mz22
    refine Q8 10 13 rfl rfl (by kernel_rfl) ?_ ?_
    focus
     simp only [Qc, Qd, Qe]
     have hz := HC.size
     go_wp2_with (go_at_call 126; (with_reducible refine Calls.mono (X8 ni b2 _ HX2.c1 HX2.lt hni) ?_); rintro e wc ⟨I, cI, bi, rfl, hj, hl_bi, AI⟩)
     have hne : 0 < no → 0 < ni → bo ≠ bi := fun h _ => by have := AO.lt h; omega
     try replace HX1 := HX1.ext hj
     try replace HX2 := HX2.ext hj
     try replace AO := AO.ext hj
     try replace AF := AF.ext hj
     try replace HS := HS.ext hj
     try replace HM := HM.ext hj
     replace HC := HC.trans hj
     replace hl_bi := Nat.le_trans hz hl_bi
     clear hj hz HX2
     have mz26 := trivial
     refine Qh HC ?_
    rotate_left
    focus
     simp only [Qc, Qd, Qe]
     go_wp2
     obtain ⟨bf, wb, hbq, hwb, HF, HC', hx, gp_bf⟩ := Qp HC 4 (Array.replicate ni (.bool false))
     rw [← hbq, ← hwb]
     have AF : Qx wb 4 (some ⟨bf, 0, none⟩) ni bf (fun _ => .bool false) := ⟨fun _ => rfl, fun _ => ⟨_, HF, by simp, fun k hk => by simp [hk]⟩⟩
     replace HC := HC'
     try replace HX1 := HX1.ext hx
     try replace HX2 := HX2.ext hx
     try replace AO := AO.ext hx
     try replace AI := AI.ext hx
     try replace HS := HS.ext hx
     try replace HM := HM.ext hx
     clear hbq hwb hx HC' HF
     have mz27 := trivial
     refine Qh HC ?_
    rotate_left)
  all_goals try
   (clear mz23
    refine Qk 7 rfl (by kernel_rfl) ?_
    simp only [Qc, Qd, Qe]
    go_wp2
    obtain ⟨b2, wb, hbq, hwb, HX2, HC', hx, gp_b2⟩ := Qp HC 3 #[(.int .i64 (-1))]
    rw [← hbq, ← hwb]
    replace HC := HC'
    try replace HX1 := HX1.ext hx
    try replace AO := AO.ext hx
    try replace AI := AI.ext hx
    try replace AF := AF.ext hx
    try replace HS := HS.ext hx
    try replace HM := HM.ext hx
    clear hbq hwb hx HC' gp_b2
    have mz27 := trivial
    refine Qh HC ?_)
  all_goals try
   (clear mz24
    refine Qk 6 rfl (by kernel_rfl) ?_
    simp only [Qc, Qd, Qe]
    have hz := HC.size
    go_wp2_with (go_at_call 126; (with_reducible refine Calls.mono (X8 no b1 _ HX1.c1 HX1.lt hno) ?_); rintro e wc ⟨O, cO, bo, rfl, hj, hl_bo, AO⟩)
    try replace HX1 := HX1.ext hj
    try replace HX2 := HX2.ext hj
    try replace AI := AI.ext hj
    try replace AF := AF.ext hj
    try replace HS := HS.ext hj
    try replace HM := HM.ext hj
    replace HC := HC.trans hj
    replace hl_bo := Nat.le_trans hz hl_bo
    clear hj hz HX1
    have mz27 := trivial
    refine Qh HC ?_)
  all_goals try
   (clear mz25
    refine Qr (g := 3) [14] [_] ⟨rfl, trivial⟩ (by kernel_rfl) (by kernel_rfl) HC ?_
    simp only [Qc, Qd, Qe]
    apply Exists.intro
    refine ⟨fun u hu => ?_, ?_⟩
    ·repeat (first | go_big_quiet_skip | (go_big_quiet_want; go_big_quiet_op; go_big_quiet_on))
     refine wpQuiet_nil ?_
     rfl
    have mz28 := trivial)
  all_goals try
   (clear mz26
    refine Qk 13 rfl (by kernel_rfl) ?_
    simp only [Qc, Qd, Qe]
    go_wp2
    obtain ⟨bf, wb, hbq, hwb, HF, HC', hx, gp_bf⟩ := Qp HC 4 (Array.replicate ni (.bool false))
    rw [← hbq, ← hwb]
    have AF : Qx wb 4 (some ⟨bf, 0, none⟩) ni bf (fun _ => .bool false) := ⟨fun _ => rfl, fun _ => ⟨_, HF, by simp, fun k hk => by simp [hk]⟩⟩
    replace HC := HC'
    try replace HX1 := HX1.ext hx
    try replace HX2 := HX2.ext hx
    try replace AO := AO.ext hx
    try replace AI := AI.ext hx
    try replace HS := HS.ext hx
    try replace HM := HM.ext hx
    clear hbq hwb hx HC' HF
    have mz29 := trivial
    refine Qh HC ?_)
  all_goals try
   (clear mz27
    refine Qk 10 rfl (by kernel_rfl) ?_
    simp only [Qc, Qd, Qe]
    have hz := HC.size
    go_wp2_with (go_at_call 126; (with_reducible refine Calls.mono (X8 ni b2 _ HX2.c1 HX2.lt hni) ?_); rintro e wc ⟨I, cI, bi, rfl, hj, hl_bi, AI⟩)
    have hne : 0 < no → 0 < ni → bo ≠ bi := fun h _ => by have := AO.lt h; omega
    try replace HX1 := HX1.ext hj
    try replace HX2 := HX2.ext hj
    try replace AO := AO.ext hj
    try replace AF := AF.ext hj
    try replace HS := HS.ext hj
    try replace HM := HM.ext hj
    replace HC := HC.trans hj
    replace hl_bi := Nat.le_trans hz hl_bi
    clear hj hz HX2
    have mz29 := trivial
    refine Qh HC ?_)
  all_goals try
   (clear mz28
    refine Q8 15 16 rfl rfl (by kernel_rfl) ?_ ?_
    focus
     simp only [Qc, Qd, Qe]
     go_wp2
     obtain ⟨bs, wb, hbq, hwb, HS, HC', hx, gp_bs⟩ := Qp HC 213 #[.slice Vo no co, .slice Vi ni ci, .slice Y no cY, .slice O no cO, .slice I ni cI, .slice (some ⟨bf, 0, none⟩) ni ni, .nilFunc]
     rw [← hbq, ← hwb]
     replace HC := HC'
     try replace HX1 := HX1.ext hx
     try replace HX2 := HX2.ext hx
     try replace AO := AO.ext hx
     try replace AI := AI.ext hx
     try replace AF := AF.ext hx
     try replace HM := HM.ext hx
     clear hbq hwb hx HC'
     have mz30 := trivial
     refine Qh HC ?_
    rotate_left
    focus
     simp only [Qc, Qd, Qe]
     go_wp2
     obtain ⟨bm, wb, hbq, hwb, HM, HC', hx, gp_bm⟩ := Qp HC 166 #[.pointer none]
     rw [← hbq, ← hwb]
     replace HC := HC'
     try replace HX1 := HX1.ext hx
     try replace HX2 := HX2.ext hx
     try replace AO := AO.ext hx
     try replace AI := AI.ext hx
     try replace AF := AF.ext hx
     try replace HS := HS.ext hx
     clear hbq hwb hx HC'
     have mz31 := trivial
     refine Qh HC ?_
    rotate_left)
  all_goals try
   (clear mz29
    refine Qr (g := 2) [14] [_] ⟨rfl, trivial⟩ (by kernel_rfl) (by kernel_rfl) HC ?_
    simp only [Qc, Qd, Qe]
    apply Exists.intro
    refine ⟨fun u hu => ?_, ?_⟩
    ·repeat (first | go_big_quiet_skip | (go_big_quiet_want; go_big_quiet_op; go_big_quiet_on))
     refine wpQuiet_nil ?_
     rfl
    have mz31 := trivial)
  all_goals try
   (clear mz30
    refine Qk 16 rfl (by kernel_rfl) ?_
    simp only [Qc, Qd, Qe]
    go_wp2
    obtain ⟨bm, wb, hbq, hwb, HM, HC', hx, gp_bm⟩ := Qp HC 166 #[.pointer none]
    rw [← hbq, ← hwb]
    replace HC := HC'
    try replace HX1 := HX1.ext hx
    try replace HX2 := HX2.ext hx
    try replace AO := AO.ext hx
    try replace AI := AI.ext hx
    try replace AF := AF.ext hx
    try replace HS := HS.ext hx
    clear hbq hwb hx HC'
    have mz32 := trivial
    refine Qh HC ?_)
  all_goals try
   (clear mz31
    refine Qk 15 rfl (by kernel_rfl) ?_
    simp only [Qc, Qd, Qe]
    go_wp2
    obtain ⟨bs, wb, hbq, hwb, HS, HC', hx, gp_bs⟩ := Qp HC 213 #[.slice Vo no co, .slice Vi ni ci, .slice Y no cY, .slice O no cO, .slice I ni cI, .slice (some ⟨bf, 0, none⟩) ni ni, .nilFunc]
    rw [← hbq, ← hwb]
    replace HC := HC'
    try replace HX1 := HX1.ext hx
    try replace HX2 := HX2.ext hx
    try replace AO := AO.ext hx
    try replace AI := AI.ext hx
    try replace AF := AF.ext hx
    try replace HM := HM.ext hx
    clear hbq hwb hx HC'
    have mz32 := trivial
    refine Qh HC ?_)
  all_goals try
   (clear mz32
    refine Qm 17 rfl (by kernel_rfl) ?_
    simp only [Qc, Qd, Qe]
    have zm := HM.frozen 0
    have cm := HM.c1
    have lm := HM.lt
    go_wp2
    have HS2 := Un HS (Ne.symm (Xr HM HS (by decide))) 0 (.pointer (some ⟨bs, 0, none⟩))
    have AO2 := AO.offM HM (by decide) 0 (.pointer (some ⟨bs, 0, none⟩))
    have AI2 := AI.offM HM (by decide) 0 (.pointer (some ⟨bs, 0, none⟩))
    have AF2 := AF.offM HM (by decide) 0 (.pointer (some ⟨bs, 0, none⟩))
    have HC2 := HC.setCell (p := ⟨bm, 0, none⟩) gp_bm (.pointer (some ⟨bs, 0, none⟩))
    have HM2 := Lv HM 0 (.pointer (some ⟨bs, 0, none⟩))
    have mz33 := trivial
    refine Ql ?_)
  all_goals try
   (clear mz33
    refine Qs (by kernel_rfl) ?_
    exact Qa2 O cO I cI bo bi bf bs bm b1 b2 ⟨HC2, ⟨HM2, HS2⟩, AO2, AI2, AF2, hne, hl_bo, hl_bi, gp_bf, gp_bs, gp_bm⟩ rfl)
 rintro O cO I cI bo bi bf bs bm b1 b2 w1 ⟨E, ⟨HM, HS⟩, AO, AI, AF, hne, lo, li, lf, ls, lm⟩
 have HC := Qa.refl w1
 have HS4 := HS.ext HC
 have HM4 := HM.ext HC
 have z6 := HS4.frozen 6
 have m0 := HM4.c1
 have ml := HM4.lt
 obtain ⟨s0, s1, s2, s3, s4, s5, s6⟩ := Qt HS4
 have sl := HS4.lt
 have HM5 := Un HM4 (Xr HM4 HS4 (by decide)) 6 (.func (.func 127) #[] #[.pointer (some ⟨bm, 0, none⟩)])
 have AO5 := (AO.ext HC).offM HS4 (by decide) 6 (.func (.func 127) #[] #[.pointer (some ⟨bm, 0, none⟩)])
 have AI5 := (AI.ext HC).offM HS4 (by decide) 6 (.func (.func 127) #[] #[.pointer (some ⟨bm, 0, none⟩)])
 have AF5 := (AF.ext HC).offM HS4 (by decide) 6 (.func (.func 127) #[] #[.pointer (some ⟨bm, 0, none⟩)])
 have E5 := (E.trans HC).setCell (p := ⟨bs, 6, none⟩) ls (.func (.func 127) #[] #[.pointer (some ⟨bm, 0, none⟩)])
 have HS5 := Lv HS4 6 (.func (.func 127) #[] #[.pointer (some ⟨bm, 0, none⟩)])
 go_upto_region 3 with (fail)
 clear z6 m0 ml s0 s1 s2 s3 s4 s5 s6 sl HS4 HM4
 generalize World.setCell _ _ _ = wq at *
 have M0 : MS w wq bm bs (.slice Vo no co) (.slice Vi ni ci) (.slice Y no cY) O I (some ⟨bf, 0, none⟩) no ni cO cI ni bo bi bf J9 (fun _ => false) := ⟨E5, ⟨HM5, HS5⟩, AO5, AI5, AF5, hne, fun _ => lo, fun _ => li, fun _ => lf⟩
 clear E5 HM5 HS5 AO5 AI5 AF5 HM HS AO AI AF E HC
 go_upto_region 4 with (fail)
 go_loopw [31] (fun iv wr => ∃ (i : Nat) (m : Mt), i ≤ no ∧ iv = .int .i64 i ∧ MS w wr bm bs (.slice Vo no co) (.slice Vi ni ci) (.slice Y no cY) O I (some ⟨bf, 0, none⟩) no ni cO cI ni bo bi bf m (fun _ => false) ∧ Kd adj ni 0 (fun _ => false) i m ∧ Hid ((Jn adj ni (fun _ => false) (no - i) i m).1 = R)) (fun iv _ => no - (intOf iv).toNat)
 case atStart => exact ⟨0, J9, Nat.zero_le _, rfl, M0, Pk adj ni 0 _, hR⟩
 case round =>
  clear M0 hR
  obtain ⟨i, m, hi, rfl, M, G, hR⟩ := hrel
  obtain ⟨wo, rfl⟩ := Qg wr
  by_cases hlt : i < no
  rotate_left
  ·obtain rfl : i = no := by omega
   have hRm : m = R := by
    have h := hR.out
    rw [Nat.sub_self] at h
    exact h
   subst hRm
   clear hR G
   have m0 := M.km.p.c1
   have ml := M.km.p.lt
   go_wp2
   go_ret
   exact ⟨bm, bs, O, I, _, cO, cI, _, bo, bi, bf, rfl, ls, M⟩
  have hm : ∀ k, k < ni → 0 ≤ m.1 k → (m.1 k).toNat < no := fun k hk h0 => by have := (G.v.a k hk rfl h0).1; omega
  go_upto_region 6 with (fail)
  refine Q1 9 [8] (fun x => MS w x bm bs (.slice Vo no co) (.slice Vi ni ci) (.slice Y no cY) O I (some ⟨bf, 0, none⟩) no ni cO cI ni bo bi bf m (fun _ => false)) Qq rfl ?_
  intro vz hvz
  have HC := M.ext hvz
  refine Qr (g := 2) [0, 1, 2, 3, 4, 5, 6] [_, _, _, _, _, _, _] ⟨rfl, rfl, rfl, rfl, rfl, rfl, rfl, trivial⟩ (by kernel_rfl) (by kernel_rfl) HC ?_
  simp only [Qc, Qd, Qe]
  apply Exists.intro
  refine ⟨fun u hu => ?_, ?_⟩
  ·have m0 := hu.km.p.c1
   have ml := hu.km.p.lt
   obtain ⟨s0, s1, s2, s3, s4, s5, s6⟩ := Qt hu.km.s
   have sl := hu.km.s.lt
   repeat (first | go_big_quiet_skip | (go_big_quiet_want; go_big_quiet_op; go_big_quiet_on))
   refine wpQuiet_nil ?_
   rfl
  refine Qk 7 rfl (by kernel_rfl) ?_
  simp only [Qc, Qd, Qe]
  have hz := HC.e.size
  go_wp2
  obtain ⟨bn, wb, hbq, hwb, HN, _, hx, gp⟩ := Qp HC.e 4 (Array.replicate ni (.bool false))
  have hnf : 0 < ni → bn ≠ bf := fun h => by have := HC.f.lt h; omega
  have hln : 0 < ni → w.heap.size ≤ bn := fun _ => gp
  rw [← hbq, ← hwb]
  have AN : Qx wb 4 (some ⟨bn, 0, none⟩) ni bn (fun _ => .bool false) := ⟨fun _ => rfl, fun _ => ⟨_, HN, by simp, fun k hk => by simp [hk]⟩⟩
  replace HC := HC.ext hx
  clear hz hbq hwb hx HN
  refine Qh HC ?_
  refine Qm 8 rfl (by kernel_rfl) ?_
  simp only [Qc, Qd, Qe]
  go_wp2_with (go_at_call 127; (with_reducible refine Calls.mono (Sb w bm bs (.slice Vo no co) (.slice Vi ni ci) (.slice Y no cY) O I (some ⟨bf, 0, none⟩) no ni cO cI ni bo bi bf m (fun _ => false) hadj hY hm ni _ (fun _ => false) i _ _ bn hlt (Lp ni _) HC AN hnf hln) ?_); rintro e w3 ⟨rfl, M6, F6, sn3, N6, hb3⟩)
  clear AN N6 F6 hb3 sn3
  refine Ql ?_
  refine Qs (by kernel_rfl) ?_
  skip
  have G2 := Qb1 hadj (Nat.zero_le i) G
  have hR2 : Hid ((Jn adj ni (fun _ => false) (no - (i + 1)) (i + 1) ((Q9 adj ni m (fun _ => false) i).1.getD m)).1 = R) := by
   have h := hR.out
   rw [show no - i = (no - (i + 1)) + 1 by omega, G2.2 (no - (i + 1))] at h
   exact h
  replace M6 : MS w w3 bm bs (.slice Vo no co) (.slice Vi ni ci) (.slice Y no cY) O I (some ⟨bf, 0, none⟩) no ni cO cI ni bo bi bf ((Q9 adj ni m (fun _ => false) i).1.getD m) (fun _ => false) := M6
  replace G2 := G2.1
  clear hR hm G
  go_wp2
  exact ⟨⟨i + 1, _, by omega, by go_num, M6, G2, hR2⟩, by simp [intOf]; omega⟩
end
end Go.Proofs.YtoflcheopfppoaaGreatDoor
