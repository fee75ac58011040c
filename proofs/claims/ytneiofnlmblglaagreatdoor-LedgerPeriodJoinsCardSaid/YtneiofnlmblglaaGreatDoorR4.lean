/- Walks of the program's functions and plain facts, packed; proved: the lemmas below; no conditions but those that each states. -/
import Derived.Test.YtneiofnlmblglaaGreatDoorR3
import Derived.Test.YtneiofnlmblglaaGreatDoorR2
set_option maxRecDepth 100000
set_option maxHeartbeats 4000000
namespace Go.Proofs.YtneiofnlmblglaaGreatDoor
section
open Go Go.RowKit Go.Shelf
attribute [local go_sem] Zs
def Q7 (f : Nat → Nat) (i : Nat) : List Value := [.int .u64 (f i : Int)]
def Wr (l : List Nat) : List Value := l.map fun (x : Nat) => Value.int .u64 (x : Int)
theorem Qcl (l : List Nat) (x : Nat) : Wr l ++ [.int .u64 (x : Int)] = Wr (l ++ [x]) := by simp [Wr]
theorem Ny : (Tryz.prog.info? 183).map (fun i => (i.zero, i.size, i.bytes)) = some (some (.int .u64 0), 1, 8) := by kernel_rfl
theorem Pw {w : World} {base k : Nat} {v : Value} {l : List Nat} (hk : k = l.length) (h : w.ownsRow base 183 1 v k (Wr l)) : ∃ F c, v = .slice F k c ∧ Qn w F k 1 (Q7 fun i => l.getD i 0) ∧ k ≤ c ∧ c ≤ maxLen ∧ (F = none → k = 0 ∧ c = 0) ∧ ∀ a, F = some a → base ≤ a.block := by
 have e : Wr l = Qy (Q7 fun i => l.getD i 0) k := by
  subst hk
  apply List.ext_getElem?
  intro j
  by_cases hj : j < l.length
  ·have := W4 (f := Q7 fun i => l.getD i 0) (sz := 1) (fun _ => rfl) (i := j) (j := 0) hj (by decide)
   rw [Nat.mul_one, Nat.add_zero] at this
   rw [this]
   simp [Wr, Q7, List.getD_eq_getElem?_getD, List.getElem?_eq_getElem hj]
  ·rw [List.getElem?_eq_none (by simp [Wr]; omega), List.getElem?_eq_none (by rw [Ye (f := Q7 fun i => l.getD i 0) (sz := 1) (fun _ => rfl)]; omega)]
 rw [e] at h
 obtain ⟨F, c, h1, h2, h3, h4, h5, h6⟩ := W7 (f := Q7 fun i => l.getD i 0) (fun _ => rfl) h
 exact ⟨F, c, h1, h2, h3, h4, h5, h6⟩
set_option maxHeartbeats 2000000 in
theorem Pr (A : Option Addr) (n ca : Nat) (f : Nat → Nat) (w : World) (hA : Qn w A n 1 (Q7 f)) (hn : n ≤ 1000000) :
  Calls Tryz.prog 148 #[.slice A n ca] w fun e w' => ∃ v, e = .returned v ∧ Qa w w' ∧ w'.ownsRow w.heap.size 183 1 v (Q5 f n).length (Wr (Q5 f n)) := by
 obtain ⟨i0, hi, hz0, hz1, hz2⟩ := info_parts Ny
 go_enter Tryz.func148, Tryz.ntmps148
 go_upto_region 3 with (fail)
 go_loopw [3, 8] (fun o i wr => ∃ k : Nat, k ≤ n ∧ i = .int .i64 k ∧ Qa w wr ∧ wr.ownsRow w.heap.size 183 1 o (Q5 f k).length (Wr (Q5 f k))) (fun _ i _ => n - (intOf i).toNat)
 case atStart => exact ⟨0, Nat.zero_le _, rfl, Qa.refl _, World.ownsRow_nil _ _ _ _⟩
 case round =>
  obtain ⟨k, hk, rfl, hE, hO⟩ := hrel
  obtain ⟨wo, rfl⟩ := Qg wr
  by_cases hlt : k < n
  ·obtain ⟨b, off, rfl, hb, hc⟩ := (hA.ext hE) (by omega)
   have c0 : wo.cell? ⟨b, off + k, none⟩ = some (.int .u64 (f k : Int)) := by simpa using hc k 0 _ hlt rfl
   have hml := Mv f k
   have HM := Lib.hid hml
   clear hml hc hA
   by_cases h1 : f k = 1
   ·have hs : Hid (Q5 f (k + 1) = Q5 f k) := by unfold Hid; rw [Q5, if_pos h1]
    rw [h1] at c0
    clear h1
    rw [← hs.out] at hO
    clear hs HM
    go_wp2
    exact ⟨⟨k + 1, by omega, by go_num, hE, hO⟩, by simp [intOf]; omega⟩
   ·have hs : Hid (Q5 f (k + 1) = Q5 f k ++ [f k]) := by unfold Hid; rw [Q5, if_neg h1]
    have hb1 : ((f k : Int) != 1) = true := by rw [bne, beq_eq_false_iff_ne.2 (by omega)]; rfl
    clear h1
    generalize f k = x at *
    go_upto_region 7 with (at_builtin; refine wpList_append_own_at _ rfl _ _ 186 rfl w.heap.size 183 i0 (.int .u64 0) 1 8 Tryz.underlying186 hi hz0 hz1 hz2 rfl (by decide) _ _ _ rfl (hO.alloc _) ⟨wo.heap.size, 0, none⟩ 1 1 [.int .u64 (x : Int)] rfl rfl (U5 _ _ _) (by simp [Value.oneCell']) (by have := HM.out; unfold maxLen; omega) (by have := HM.out; omega) (by have := hE.size; simp; omega) ?_; intro o' w2 hown hgrow _ _)
    have E2 : Qa w w2 := (hE.alloc _).grown hgrow (fun q hq => (hO.lt q hq).1)
    rw [Qcl, ← hs.out] at hown
    have hl4 : (Q5 f k).length + 1 = (Q5 f (k + 1)).length := by rw [hs.out]; simp
    rw [hl4] at hown
    clear hs hgrow hl4
    go_wp2
    exact ⟨⟨k + 1, by omega, by go_num, E2, hown⟩, by simp [intOf]; omega⟩
  ·obtain rfl : k = n := by omega
   go_wp2
   go_ret
   exact ⟨_, rfl, hE, hO⟩
theorem Q9 {W : World} {base size k : Nat} {e : TypeId} {v : Value} {xs : List Value} (h : W.ownsRow base e size v k xs) : ∃ F m, v = .slice F k m := by
 rcases h.2 with ⟨rfl, h0⟩ | ⟨g, cap, cur, rfl, _⟩
 ·exact ⟨none, 0, by rw [h0]⟩
 ·exact ⟨_, _, rfl⟩
theorem Qh {W : World} {b b' : Nat} {t : TypeId} {cs : Array Value} (h : Qb W b t cs) (hne : b ≠ b') (j : Nat) (u : Value) : Qb (W.setCell ⟨b', j, none⟩ u) b t cs :=
 h.kept ⟨rfl, rfl, rfl, (KeepsWalks.setCell W _ u).size, fun k _ hk => Below.heap_setCell _ _ _ k (fun e => hk (by rw [e]))⟩ (fun e => hne (by cases e; rfl))
theorem Oo {w : World} {base : Nat} {e : TypeId} {size : Nat} {v : Value} {n : Nat} {xs : List Value} (h : w.ownsRow base e size v n xs) (hn : 0 < n) : ∃ g cap, v = .slice (some ⟨g, 0, none⟩) n cap ∧ base ≤ g ∧ g < w.heap.size := by
 rcases h.2 with ⟨_, h0⟩ | ⟨g, cap, cur, hv, hb, hg, _⟩
 ·omega
 ·exact ⟨g, cap, hv, hb, (Array.getElem?_eq_some_iff.1 hg).1⟩
theorem Ki {w : World} {base : Nat} {e : TypeId} {size g c : Nat} {n m : Nat} {xs : List Value} (h : w.ownsRow base e size (.slice (some ⟨g, 0, none⟩) m c) n xs) : g < w.heap.size := by
 rcases h.2 with ⟨h', _⟩ | ⟨g', cap, cur, hv, hb, hg, _⟩
 ·cases h'
 ·cases hv; exact (Array.getElem?_eq_some_iff.1 hg).1
def Gy (A : Value → Value → Act) (S : World → Value → Value → Prop) : Exit → Act → World → Prop := fun e a' w' => e = .normal ∧ ∃ p q, S w' p q ∧ a' = A p q
theorem Ch {A : Value → Value → Act} {S : World → Value → Value → Prop} {w' : World} (p q : Value) {a' : Act} (h : S w' p q) (ha : a' = A p q) : Gy A S .normal a' w' := ⟨rfl, p, q, h, ha⟩
theorem Qc7 {P : Program} {c : Code} {Q : Exit → Act → World → Prop} {a : Act} {w : World} {A : Value → Value → Act} (S : World → Value → Value → Prop) (h1 : c.wp P (Gy A S) a w) (h2 : ∀ p q w', S w' p q → Q .normal (A p q) w') : c.wp P Q a w :=
 Code.wp_mono (fun e a' w' ⟨he, p, q, hs, ha⟩ => by subst he; subst ha; exact h2 p q w' hs) h1
theorem Qck (f : Nat → Nat) (n i x : Nat) (hi : i < n) : (Qy (Q7 f) n).set i (.int .u64 (x : Int)) = Qy (Q7 (Jb f i x)) n := by
 apply List.ext_getElem?
 intro j
 have hl : (Qy (Q7 f) n).length = n := by have := Ye (f := Q7 f) (sz := 1) (fun _ => rfl) n; omega
 have hg : ∀ (g : Nat → Nat) k, k < n → (Qy (Q7 g) n)[k]? = some (.int .u64 (g k : Int)) := fun g k hk => by
  have := W4 (f := Q7 g) (sz := 1) (fun _ => rfl) (i := k) (j := 0) hk (by decide)
  rw [Nat.mul_one, Nat.add_zero] at this
  rw [this]; rfl
 rw [List.getElem?_set]
 by_cases e : i = j
 ·subst e
  rw [if_pos rfl, if_pos (by omega), hg _ _ hi]
  simp [Jb]
 ·rw [if_neg e]
  by_cases hj : j < n
  ·rw [hg _ _ hj, hg _ _ hj]
   simp [Jb, show j ≠ i by omega]
  ·rw [List.getElem?_eq_none (by omega), List.getElem?_eq_none (by have := Ye (f := Q7 (Jb f i x)) (sz := 1) (fun _ => rfl) n; omega)]
theorem Vr {w : World} {base g n cap : Nat} {f : Nat → Nat} (h : w.ownsRow base 183 1 (.slice (some ⟨g, 0, none⟩) n cap) n (Qy (Q7 f) n)) {i : Nat} (hi : i < n) : w.cell? ⟨g, i, none⟩ = some (.int .u64 (f i : Int)) := by
 rw [World.ownsRow.cellAt h i (by omega)]
 have := W4 (f := Q7 f) (sz := 1) (fun _ => rfl) (i := i) (j := 0) hi (by decide)
 rw [Nat.mul_one, Nat.add_zero] at this
 rw [this]; rfl
theorem Hc {w : World} {base g n cap : Nat} {f : Nat → Nat} (h : w.ownsRow base 183 1 (.slice (some ⟨g, 0, none⟩) n cap) n (Qy (Q7 f) n)) {i : Nat} (hi : i < n) (x : Nat) :
  (w.setCell ⟨g, i, none⟩ (.int .u64 (x : Int))).ownsRow base 183 1 (.slice (some ⟨g, 0, none⟩) n cap) n (Qy (Q7 (Jb f i x)) n) := by
 have := (World.ownsRow.stored h i (.int .u64 (x : Int))).1
 rwa [Qck f n i x hi] at this
theorem O9 {w : World} {base g n cap g' i : Nat} {f : Nat → Nat} (h : w.ownsRow base 183 1 (.slice (some ⟨g, 0, none⟩) n cap) n (Qy (Q7 f) n)) (hne : g ≠ g') (u : Value) :
  (w.setCell ⟨g', i, none⟩ u).ownsRow base 183 1 (.slice (some ⟨g, 0, none⟩) n cap) n (Qy (Q7 f) n) :=
 h.kept ⟨rfl, rfl, rfl, (KeepsWalks.setCell w _ u).size, fun k _ hk => Below.heap_setCell _ _ _ k (fun e => hk (by rw [e]))⟩ (.inr (fun e => hne (by cases e; rfl)))
theorem Qbx (A A' : Option Addr) (n m ca cb : Nat) (fu fd : Nat → Nat) (w : World) (hA : Qn w A n 1 (Q7 fu)) (hA' : Qn w A' m 1 (Q7 fd)) (hnA : A = none → n = 0 ∧ ca = 0) (hnA' : A' = none → m = 0 ∧ cb = 0)
  (hn : n ≤ 1000) (hm : m ≤ 1000) (hu1 : ∀ i, i < n → 1 ≤ fu i) (hu2 : ∀ i, i < n → fu i < 18446744073709551616) (hd1 : ∀ i, i < m → 1 ≤ fd i) (hd2 : ∀ i, i < m → fd i < 18446744073709551616) :
  Calls Tryz.prog 144 #[.agg #[.slice A n ca, .slice A' m cb]] w fun e w' => ∃ U D F c F' c', Y1 fu fd n m U D n 0 ∧ e = .returned (.agg #[.slice F (Q5 U n).length c, .slice F' (Q5 D m).length c']) ∧ Qa w w' ∧
   Qn w' F (Q5 U n).length 1 (Q7 fun i => (Q5 U n).getD i 0) ∧ Qn w' F' (Q5 D m).length 1 (Q7 fun i => (Q5 D m).getD i 0) ∧ (∀ a, F = some a → w.heap.size ≤ a.block) ∧ (∀ a, F' = some a → w.heap.size ≤ a.block) := by
 obtain ⟨i0, hi, hz0, hz1, hz2⟩ := info_parts Ny
 have hlu := Ye (f := Q7 fu) (sz := 1) (fun _ => rfl) n
 have hld := Ye (f := Q7 fd) (sz := 1) (fun _ => rfl) m
 have hone : ∀ g k, ∀ u ∈ Qy (Q7 g) k, u.oneCell' = true := fun g k => Nt (f := Q7 g) (n := k) (fun i u hu => by simp [Q7] at hu; subst hu; simp [Value.oneCell'])
 have HNU := fun v (h : Qn v A n 1 (Q7 fu)) => Ul (f := Q7 fu) (sz := 1) (fun _ => rfl) (by decide) h
 have HND := fun v (h : Qn v A' m 1 (Q7 fd)) => Ul (f := Q7 fd) (sz := 1) (fun _ => rfl) (by decide) h
 go_enter Tryz.func144, Tryz.ntmps144
 go_upto_region 1 with (fail)
 obtain ⟨v, hv⟩ := Qg ((w.alloc (.cells #[.slice A n ca, .slice A' m cb] 188)).alloc (.cells #[.slice none 0 0, .slice none 0 0] 188))
 rw [← hv]
 have E : Qa w v := by rw [hv]; exact ((Qa.refl _).alloc _).alloc _
 have B1 : Qb v w.heap.size 188 #[.slice A n ca, .slice A' m cb] := by rw [hv]; exact (Qb.new _ _ _).alloc _
 have B2 : Qb v (w.heap.size + 1) 188 #[.slice none 0 0, .slice none 0 0] := by rw [hv]; exact Qb.at _ _ _ _ (by simp)
 clear hv
 have RA := hA.ext E
 have RA' := hA'.ext E
 clear hA hA'
 have hb2 : w.heap.size ≤ w.heap.size + 1 := Nat.le_succ _
 have hvs : w.heap.size + 1 < v.heap.size := B2.lt
 generalize w.heap.size + 1 = b2 at *
 generalize hb1 : w.heap.size = b1 at *
 replace hb1 := Lib.hid hb1
 obtain ⟨k0, k1⟩ := B1.c2
 have lk := B1.lt
 apply Qc7 (S := fun w' p q => Qa v w' ∧ w'.ownsRow v.heap.size 183 1 p n (Qy (Q7 fu) n) ∧ w'.ownsRow v.heap.size 183 1 q m (Qy (Q7 fd) m) ∧ ∀ x y, p.ownBlock = some x → q.ownBlock = some y → x ≠ y)
 ·refine Qdb 8 v Qo rfl (Qa.refl _) ?_
  intro hne hrx v3 h3
  refine Gc (g := 4) [0, 1, 3, 4] [_, _, _, _] ⟨rfl, rfl, rfl, rfl, trivial⟩ (by kernel_rfl) (by kernel_rfl) h3 ?_
  simp only [Qc, Qd, Qe]
  apply Exists.intro
  refine ⟨fun u => ?_, ?_⟩
  ·repeat (first | go_big_quiet_skip | (go_big_quiet_want; go_big_quiet_op; go_big_quiet_on))
   refine wpQuiet_nil ?_
   rfl
  refine Ga 2 rfl (by kernel_rfl) ?_
  simp only [Qc, Qd, Qe]
  go_wp2_with (at_builtin; refine Hv rfl _ _ 186 rfl v3.heap.size 183 i0 (.int .u64 0) 1 8 Tryz.underlying186 hi hz0 hz1 hz2 rfl (by decide) rfl A n ca (Qy (Q7 fu) n) rfl hnA hlu (HNU _ (RA.ext h3)) (hone _ _) (by unfold maxLen; omega) (by omega) (Nat.le_refl _) ?_; intro p w4 hP hg)
  have h4 : Qa v3 w4 := (Qa.refl _).grown hg (fun q hq => by cases hq)
  clear hg
  have e4 := h3.trans h4
  refine Qi e4 ?_
  refine Ga 5 rfl (by kernel_rfl) ?_
  simp only [Qc, Qd, Qe]
  go_wp2_with (at_builtin; refine Hv rfl _ _ 186 rfl w4.heap.size 183 i0 (.int .u64 0) 1 8 Tryz.underlying186 hi hz0 hz1 hz2 rfl (by decide) rfl A' m cb (Qy (Q7 fd) m) rfl hnA' hld (HND _ (RA'.ext e4)) (hone _ _) (by unfold maxLen; omega) (by omega) (Nat.le_refl _) ?_; intro q w5 hQ hg)
  have h5 : Qa w4 w5 := (Qa.refl _).grown hg (fun q hq => by cases hq)
  clear hg
  have e5 := e4.trans h5
  refine Qi e5 ?_
  refine Gc (g := 0) [6, 7] [_, _] ⟨rfl, rfl, trivial⟩ (by kernel_rfl) (by kernel_rfl) e5 ?_
  simp only [Qc, Qd, Qe]
  apply Exists.intro
  refine ⟨fun u => ?_, ?_⟩
  ·repeat (first | go_big_quiet_skip | (go_big_quiet_want; go_big_quiet_op; go_big_quiet_on))
   refine wpQuiet_nil ?_
   rfl
  refine Dp (by kernel_rfl) ?_
  exact Ch p q ⟨e5, World.ownsRow.mono (Z2 hP h5) h3.size, World.ownsRow.mono hQ e4.size, fun x y h1 h2 => by have := (hP.lt x h1).2; have := (hQ.lt y h2).1; omega⟩ rfl
 ·rintro p q w1 ⟨E1, hP, hQ, hap⟩
  obtain ⟨F1, c1, rfl⟩ := Q9 hP
  obtain ⟨F2, c2, rfl⟩ := Q9 hQ
  have hvw := E1.size
  clear RA RA' k0 k1 lk HNU HND hone hlu hld
  go_upto_region 3 with (fail)
  go_loopw [16] (fun iv wr => ∃ i : Nat, i ≤ n ∧ iv = .int .i64 (i : Int) ∧ Qa v wr ∧ ∃ U D, Y1 fu fd n m U D i 0 ∧ wr.ownsRow v.heap.size 183 1 (.slice F1 n c1) n (Qy (Q7 U) n) ∧ wr.ownsRow v.heap.size 183 1 (.slice F2 m c2) m (Qy (Q7 D) m)) (fun iv _ => n - (intOf iv).toNat)
  case atStart => exact ⟨0, Nat.zero_le _, rfl, E1, fu, fd, Y1.start hu1 hd1, hP, hQ⟩
  case round =>
   obtain ⟨i, hi0, rfl, hEo, Uo, Do, hRo, hPo, hQo⟩ := hrel
   obtain ⟨wo, rfl⟩ := Qg wr
   by_cases hlt : i < n
   ·go_upto_region 6 with (fail)
    go_loopw [21] (fun jv wr => ∃ j : Nat, j ≤ m ∧ jv = .int .i64 (j : Int) ∧ Qa v wr ∧ ∃ U D, Y1 fu fd n m U D i j ∧ wr.ownsRow v.heap.size 183 1 (.slice F1 n c1) n (Qy (Q7 U) n) ∧ wr.ownsRow v.heap.size 183 1 (.slice F2 m c2) m (Qy (Q7 D) m)) (fun jv _ => m - (intOf jv).toNat)
    case atStart => exact ⟨0, Nat.zero_le _, rfl, hEo, Uo, Do, hRo, hPo, hQo⟩
    case round =>
     clear hEo hRo hPo hQo
     obtain ⟨j, hj0, rfl, hE, U, D, hR, hP, hQ⟩ := hrel
     obtain ⟨wo, rfl⟩ := Qg wr
     by_cases hltj : j < m
     ·obtain ⟨g1, x1, hf1, hg1, hl1⟩ := Oo hP (by omega)
      obtain ⟨g2, x2, hf2, hg2, hl2⟩ := Oo hQ (by omega)
      obtain ⟨rfl, _, rfl⟩ : F1 = some ⟨g1, 0, none⟩ ∧ n = n ∧ c1 = x1 := by simpa using hf1
      obtain ⟨rfl, _, rfl⟩ : F2 = some ⟨g2, 0, none⟩ ∧ m = m ∧ c2 = x2 := by simpa using hf2
      have hne := hap g1 g2 rfl rfl
      clear hf1 hf2
      have p0 := Vr hP hlt
      have q0 := Vr hQ hltj
      have hRS := hR.step hlt hltj
      have hU1 := hR.up i hlt
      have hD1 := hR.dn j hltj
      have hu2i := hu2 i hlt
      have hd2j := hd2 j hltj
      have NC := fun w => Gu (U i) (D j) (by omega) w
      have hgp : 0 < Nat.gcd (U i) (D j) := Nat.gcd_pos_of_pos_right _ hD1.1
      have hP2 := fun x => Hc hP hlt x
      have hQ2 := fun x => O9 (i := i) hQ (Ne.symm hne) (.int .u64 (x : Int))
      generalize hgg : Nat.gcd (U i) (D j) = g at *
      go_upto_region 8 with (fail)
      refine Zd wo Qo (by kernel_rfl) (by repeat (first | exact Qa.refl _ | (refine Qa.alloc ?_ _) | (refine Qa.trans ?_ (by assumption)))) ?_
      intro hne hrx hry
      try simp only []
      try simp only [List.append_eq, List.cons_append, List.nil_append]
      skip
      repeat (first
       | go_big_quiet_skip
       | (go_big_quiet_want; go_big_quiet_op; go_big_quiet_on)
       | (go_big_quiet_want; go_big_quiet_op; apply Exists.intro; refine ⟨fun u => ?_, ?_⟩
          ·first
            | (go_at_call 133; (with_reducible refine Calls.mono (NC _) ?_); rintro e w' ⟨rfl, hb⟩; exact ⟨rfl, u.back hb⟩)
          go_big_quiet_on))
      clear hne hry hrx
      refine wpQuiet_nil ?_
      intro w2 h2
      obtain ⟨hcw2, hfw2, hzw2⟩ := Qa.rules h2
      try simp only [World.size_alloc] at hzw2
      obtain ⟨hcbw2, hfbw2, hzbw2⟩ := Qa.rules (show Qa wo w2 from (by repeat (first | exact Qa.refl _ | (refine Qa.alloc ?_ _) | (refine Qa.trans ?_ (by assumption)))))
      clear hcw2 hfw2
      clear p0 q0 hl1 hl2
      replace hP := Z2 hP h2
      replace hQ := Z2 hQ h2
      have f0 := World.ownsRow.frozenAt hP i
      have f1 := World.ownsRow.frozenAt hQ j
      have p0 := Vr hP hlt
      have q0 := Vr hQ hltj
      have l1 := (Ki hP)
      have l2 := (Ki hQ)
      have gi0 : (g : Int) ≠ 0 := by omega
      have gi1 : ((g : Int) == 0) = false := beq_eq_false_iff_ne.2 gi0
      have hq1 : IntKind.u64.wrap ((U i : Int) / (g : Int)) = ((U i / g : Nat) : Int) := by
       rw [IntKind.wrap_u64, ← Int.natCast_ediv]
       have := Nat.div_le_self (U i) g
       generalize U i / g = z at this ⊢
       exact Int.emod_eq_of_lt (by omega) (by omega)
      have hq2 : IntKind.u64.wrap ((D j : Int) / (g : Int)) = ((D j / g : Nat) : Int) := by
       rw [IntKind.wrap_u64, ← Int.natCast_ediv]
       have := Nat.div_le_self (D j) g
       generalize D j / g = z at this ⊢
       exact Int.emod_eq_of_lt (by omega) (by omega)
      clear hU1 hD1 hu2i hd2j NC hP2 hQ2
      generalize U i / g = x1 at *
      generalize D j / g = x2 at *
      have E3 := (hE.trans h2).setCell (p := ⟨g1, i, none⟩) hg1 (.int .u64 (x1 : Int))
      have hP3 := Hc hP hlt x1
      have hQ3 := O9 (i := i) hQ (Ne.symm hne) (.int .u64 (x1 : Int))
      go_upto_region 10 with (fail)
      generalize World.setCell w2 _ _ = w3 at *
      clear hP hQ p0 q0 l1 l2 f0 f1
      have p0 := Vr hP3 hlt
      have q0 := Vr hQ3 hltj
      have l1 := (Ki hP3)
      have l2 := (Ki hQ3)
      have f1 := World.ownsRow.frozenAt hQ3 j
      have E4 := E3.setCell (p := ⟨g2, j, none⟩) hg2 (.int .u64 (x2 : Int))
      have hQ4 := Hc hQ3 hltj x2
      have hP4 := O9 (i := j) hP3 hne (.int .u64 (x2 : Int))
      go_wp2
      exact ⟨⟨j + 1, by omega, by go_num, E4, _, _, hRS, hP4, hQ4⟩, by simp [intOf]; omega⟩
     ·obtain rfl : j = m := by omega
      go_wp2
      exact ⟨⟨i + 1, by omega, by go_num, hE, U, D, hR.row, hP, hQ⟩, by simp [intOf]; omega⟩
   ·obtain rfl : i = n := by omega
    have hRU := fun w h => Pr F1 i c1 Uo w h (by omega)
    have hRD := fun w h => Pr F2 m c2 Do w h (by omega)
    obtain ⟨F3, c3, hf1, ra, _⟩ := W7 (f := Q7 Uo) (sz := 1) (fun _ => rfl) hPo
    obtain ⟨F4, c4, hf2, rb, _⟩ := W7 (f := Q7 Do) (sz := 1) (fun _ => rfl) hQo
    obtain ⟨rfl, rfl⟩ : F1 = F3 ∧ c1 = c3 := by simpa using hf1
    obtain ⟨rfl, rfl⟩ : F2 = F4 ∧ c2 = c4 := by simpa using hf2
    clear hf1 hf2
    go_wp2_with (first
     | (go_at_call 148; (with_reducible refine Calls.mono (hRU _ ra) ?_); rintro e w2 ⟨va, rfl, h2, oa⟩; obtain ⟨G1, d1, rfl, ga, _, _, _, ga6⟩ := Pw rfl oa)
     | (go_at_call 148; (with_reducible refine Calls.mono (hRD _ (rb.ext h2)) ?_); rintro e w3 ⟨vb, rfl, h3, ob⟩; obtain ⟨G2, d2, rfl, gb, _, _, _, gb6⟩ := Pw rfl ob; have B3 := B2.ext ((hEo.trans h2).trans h3); have z0 := B3.frozen 0; have z1 := B3.frozen 1; obtain ⟨y0, y1⟩ := B3.c2; have ly := B3.lt))
    have H2 := Qk B3 (.slice G1 (Q5 Uo i).length d1) (.slice G2 (Q5 Do m).length d2)
    have E2 := ((((E.trans hEo).trans h2).trans h3).setCell (p := ⟨b2, 0, none⟩) (by have := hb1.out; show w.heap.size ≤ b2; omega) (.slice G1 (Q5 Uo i).length d1)).setCell (p := ⟨b2, 1, none⟩) (by have := hb1.out; show w.heap.size ≤ b2; omega) (.slice G2 (Q5 Do m).length d2)
    have hvs1 := hEo.size
    have hvs2 := h2.size
    have ga2 := Mj (ga.ext h3) (b := b2) (fun a h => by have := ga6 a h; omega) 0 1 (.slice G1 (Q5 Uo i).length d1) (.slice G2 (Q5 Do m).length d2)
    have gb2 := Mj gb (b := b2) (fun a h => by have := gb6 a h; omega) 0 1 (.slice G1 (Q5 Uo i).length d1) (.slice G2 (Q5 Do m).length d2)
    obtain ⟨x0, x1⟩ := H2.c2
    generalize (w3.setCell ⟨b2, 0, none⟩ (.slice G1 (Q5 Uo i).length d1)).setCell ⟨b2, 1, none⟩ (.slice G2 (Q5 Do m).length d2) = wf at *
    clear y0 y1 z0 z1 B3 ly
    go_wp2
    refine bodyPost_ret (v := .agg #[.slice G1 (Q5 Uo i).length d1, .slice G2 (Q5 Do m).length d2]) (by simp [results, Tryz.results144, go_sem, x0, x1]) rfl ⟨Uo, Do, G1, d1, G2, d2, hRo, rfl, E2, ga2, gb2, fun a h => by have := ga6 a h; have := E.size; have := hb1.out; omega, fun a h => by have := gb6 a h; have := E.size; have := hb1.out; omega⟩
theorem Mu {f : Nat → Nat} {n k : Nat} (hk : k < (Q5 f n).length) : ∃ i, i < n ∧ (Q5 f n).getD k 0 = f i := by
 refine O7 f n _ ?_
 rw [List.getD_eq_getElem?_getD, List.getElem?_eq_getElem hk]
 exact List.getElem_mem hk
theorem Zq {x : Int} (h1 : -9223372036854775808 ≤ x) (h2 : x ≤ 9223372036854775807) : IntKind.i64.wrap x = x := by
 rw [IntKind.wrap_i64]; omega
theorem Ov (A A' : Option Addr) (n m ca cb : Nat) (fu fd : Nat → Nat) (neg : Bool) (w : World) (hA : Qn w A n 1 (Q7 fu)) (hA' : Qn w A' m 1 (Q7 fd)) (hnA : A = none → n = 0 ∧ ca = 0) (hnA' : A' = none → m = 0 ∧ cb = 0)
  (hn : n ≤ 1000) (hm : m ≤ 1000) (hu1 : ∀ i, i < n → 1 ≤ fu i) (hu2 : ∀ i, i < n → fu i < 18446744073709551616) (hd1 : ∀ i, i < m → 1 ≤ fd i) (hd2 : ∀ i, i < m → fd i < 18446744073709551616) :
  Calls Tryz.prog 135 #[.agg #[.slice A n ca, .slice A' m cb], .bool neg] w fun e w' => e = .returned (.tuple #[.agg #[.int .i64 (Ja neg (upTo fu n) (upTo fd m)).1.n, .int .i64 (Ja neg (upTo fu n) (upTo fd m)).1.d], .int .i64 (Ja neg (upTo fu n) (upTo fd m)).2]) ∧ Qa w w' := by
 have NR := fun v h1 h2 => Qbx A A' n m ca cb fu fd v h1 h2 hnA hnA' hn hm hu1 hu2 hd1 hd2
 obtain ⟨R, hR0⟩ := Qg (Ja neg (upTo fu n) (upTo fd m))
 rw [← hR0]
 have HR := Lib.hid hR0
 clear hR0
 go_enter Tryz.func135, Tryz.ntmps135
 go_upto_region 1 with (fail)
 obtain ⟨v, hv⟩ := Qg ((w.alloc (.cells #[.slice A n ca, .slice A' m cb] 188)).alloc (.cells #[.int .i64 0, .int .i64 0] 73))
 rw [← hv]
 have E : Qa w v := by rw [hv]; exact ((Qa.refl _).alloc _).alloc _
 have B1 : Qb v w.heap.size 188 #[.slice A n ca, .slice A' m cb] := by rw [hv]; exact (Qb.new _ _ _).alloc _
 have B2 : Qb v (w.heap.size + 1) 73 #[.int .i64 0, .int .i64 0] := by rw [hv]; exact Qb.at _ _ _ _ (by simp)
 clear hv
 have RA := hA.ext E
 have RA' := hA'.ext E
 clear hA hA'
 obtain ⟨b2, hb2⟩ := Qg (w.heap.size + 1)
 rw [← hb2] at B2 ⊢
 obtain ⟨b1, hb1⟩ := Qg (w.heap.size)
 rw [← hb1] at B1 ⊢
 have h21 : b2 ≠ b1 := by omega
 have hb1' := Nat.le_of_eq hb1.symm
 have hb2' : w.heap.size ≤ b2 := by omega
 clear hb1 hb2
 obtain ⟨k0, k1⟩ := B1.c2
 have lk := B1.lt
 go_upto_region 2 with (go_at_call 144; (with_reducible refine Calls.mono (NR _ RA RA') ?_); rintro e w2 ⟨U, D, G1, d1, G2, d2, hRI, rfl, h2, ga, gb, ga6, gb6⟩; have B12 := B1.ext h2; obtain ⟨k0, k1⟩ := B12.c2; have lk := B12.lt; have f0 := B12.frozen 0; have f1 := B12.frozen 1)
 have hbv := B1.lt
 have EX := ((E.trans h2).setCell (p := ⟨b1, 0, none⟩) hb1' (.slice G1 (Q5 U n).length d1)).setCell (p := ⟨b1, 1, none⟩) hb1' (.slice G2 (Q5 D m).length d2)
 have H1 := Qk B12 (.slice G1 (Q5 U n).length d1) (.slice G2 (Q5 D m).length d2)
 have H2 := Qh (Qh (B2.ext h2) h21 0 (.slice G1 (Q5 U n).length d1)) h21 1 (.slice G2 (Q5 D m).length d2)
 have ga2 := Mj ga (b := b1) (fun a h => by have := ga6 a h; omega) 0 1 (.slice G1 (Q5 U n).length d1) (.slice G2 (Q5 D m).length d2)
 have gb2 := Mj gb (b := b1) (fun a h => by have := gb6 a h; omega) 0 1 (.slice G1 (Q5 U n).length d1) (.slice G2 (Q5 D m).length d2)
 generalize (w2.setCell ⟨b1, 0, none⟩ (.slice G1 (Q5 U n).length d1)).setCell ⟨b1, 1, none⟩ (.slice G2 (Q5 D m).length d2) = wf at *
 clear f0 f1 k0 k1 lk ga gb ga6 gb6 B12 B1 B2 h2 E RA RA' NR hb1' hbv
 have hdone := hRI.done neg hd1
 rw [← HR.out] at hdone
 have hl1 := Mv U n
 have hl2 := Mv D m
 have NP := fun v h => P7 G1 (Q5 U n).length d1 (fun i => (Q5 U n).getD i 0) 1099511627776 (by decide) (by decide) (fun i hi => by obtain ⟨j, hj, e⟩ := Mu hi; rw [e]; exact (hRI.up j hj).1) (fun i hi => by obtain ⟨j, hj, e⟩ := Mu hi; rw [e]; exact Nat.lt_of_le_of_lt (hRI.up j hj).2 (hu2 j hj)) v h (by omega)
 have NQ := fun v h => P7 G2 (Q5 D m).length d2 (fun i => (Q5 D m).getD i 0) 1048576 (by decide) (by decide) (fun i hi => by obtain ⟨j, hj, e⟩ := Mu hi; rw [e]; exact (hRI.dn j hj).1) (fun i hi => by obtain ⟨j, hj, e⟩ := Mu hi; rw [e]; exact Nat.lt_of_le_of_lt (hRI.dn j hj).2 (hd2 j hj)) v h (by omega)
 rw [Qbp, O8] at NP NQ
 clear hl1 hl2 hRI hu1 hu2 hd1 hd2 hnA hnA' hn hm
 generalize (Q5 U n).length = n1 at *
 generalize (Q5 D m).length = n2 at *
 generalize upTo U n = p at *
 generalize upTo D m = q at *
 obtain ⟨k0, k1⟩ := H1.c2
 have lk := H1.lt
 obtain ⟨R0, R1⟩ := R
 replace hdone := Lib.hid hdone
 by_cases hp : p ≤ 1099511627776
 ·by_cases hq : q ≤ 1048576
  ·simp only [if_pos hp, decide_eq_true hp] at NP
   simp only [if_pos hq, decide_eq_true hq] at NQ
   have hd := hdone.out
   rw [if_pos ⟨hp, hq⟩] at hd
   obtain ⟨rfl, rfl⟩ := Prod.mk.inj hd
   have w1 : IntKind.i64.wrap (p : Int) = (p : Int) := Zq (by omega) (by omega)
   have w2 : IntKind.i64.wrap (q : Int) = (q : Int) := Zq (by omega) (by omega)
   have w3 : IntKind.i64.wrap (-(p : Int)) = -(p : Int) := Zq (by omega) (by omega)
   clear hp hq hd hdone HR
   cases neg
   ·skip
    go_upto_region 3 with (go_at_call 145; (with_reducible refine Calls.mono (NP _ ga2) ?_); rintro e wa ⟨rfl, ha⟩; clear k0 k1 lk; replace H1 := H1.ext ha; obtain ⟨k0, k1⟩ := H1.c2; have lk := H1.lt)
    replace EX := EX.trans ha
    replace H2 := H2.ext ha
    replace gb2 := gb2.ext ha
    clear ha ga2 NP
    go_upto_region 4 with (go_at_call 145; (with_reducible refine Calls.mono (NQ _ gb2) ?_); rintro e wb ⟨rfl, hb⟩)
    replace EX := EX.trans hb
    replace H2 := H2.ext hb
    clear hb gb2 NQ k0 k1 lk
    have f0 := H2.frozen 0
    have f1 := H2.frozen 1
    obtain ⟨z0, z1⟩ := H2.c2
    have lz := H2.lt
    have H3 := Qk H2 (.int .i64 (p : Int)) (.int .i64 (q : Int))
    have EF := (EX.setCell (p := ⟨b2, 0, none⟩) hb2' (.int .i64 (p : Int))).setCell (p := ⟨b2, 1, none⟩) hb2' (.int .i64 (q : Int))
    obtain ⟨x0, x1⟩ := H3.c2
    go_wp2
    refine bodyPost_ret (v := .tuple #[.agg #[.int .i64 (p : Int), .int .i64 (q : Int)], .int .i64 0]) (by simp [results, Tryz.results135, go_sem, x0, x1]) rfl ⟨rfl, EF⟩
   ·skip
    go_upto_region 3 with (go_at_call 145; (with_reducible refine Calls.mono (NP _ ga2) ?_); rintro e wa ⟨rfl, ha⟩; clear k0 k1 lk; replace H1 := H1.ext ha; obtain ⟨k0, k1⟩ := H1.c2; have lk := H1.lt)
    replace EX := EX.trans ha
    replace H2 := H2.ext ha
    replace gb2 := gb2.ext ha
    clear ha ga2 NP
    go_upto_region 4 with (go_at_call 145; (with_reducible refine Calls.mono (NQ _ gb2) ?_); rintro e wb ⟨rfl, hb⟩)
    replace EX := EX.trans hb
    replace H2 := H2.ext hb
    clear hb gb2 NQ k0 k1 lk
    have f0 := H2.frozen 0
    have f1 := H2.frozen 1
    obtain ⟨z0, z1⟩ := H2.c2
    have lz := H2.lt
    have H3 := Qk H2 (.int .i64 (-(p : Int))) (.int .i64 (q : Int))
    have EF := (EX.setCell (p := ⟨b2, 0, none⟩) hb2' (.int .i64 (-(p : Int)))).setCell (p := ⟨b2, 1, none⟩) hb2' (.int .i64 (q : Int))
    obtain ⟨x0, x1⟩ := H3.c2
    go_wp2
    refine bodyPost_ret (v := .tuple #[.agg #[.int .i64 (-(p : Int)), .int .i64 (q : Int)], .int .i64 0]) (by simp [results, Tryz.results135, go_sem, x0, x1]) rfl ⟨rfl, EF⟩
  ·simp only [if_pos hp, decide_eq_true hp] at NP
   simp only [if_neg hq, decide_eq_false hq] at NQ
   have hd := hdone.out
   rw [if_neg (fun h => hq h.2)] at hd
   obtain ⟨rfl, rfl⟩ := Prod.mk.inj hd
   clear hd hdone HR
   go_upto_region 3 with (go_at_call 145; (with_reducible refine Calls.mono (NP _ ga2) ?_); rintro e wa ⟨rfl, ha⟩; clear k0 k1 lk; replace H1 := H1.ext ha; obtain ⟨k0, k1⟩ := H1.c2; have lk := H1.lt)
   replace EX := EX.trans ha
   replace H2 := H2.ext ha
   replace gb2 := gb2.ext ha
   clear ha ga2 NP
   go_upto_region 4 with (go_at_call 145; (with_reducible refine Calls.mono (NQ _ gb2) ?_); rintro e wb ⟨rfl, hb⟩)
   replace EX := EX.trans hb
   replace H2 := H2.ext hb
   clear hb gb2 NQ k0 k1 lk
   have f0 := H2.frozen 0
   have f1 := H2.frozen 1
   obtain ⟨z0, z1⟩ := H2.c2
   have lz := H2.lt
   have H3 := Qk H2 (.int .i64 0) (.int .i64 0)
   have EF := (EX.setCell (p := ⟨b2, 0, none⟩) hb2' (.int .i64 0)).setCell (p := ⟨b2, 1, none⟩) hb2' (.int .i64 0)
   obtain ⟨x0, x1⟩ := H3.c2
   go_wp2
   refine bodyPost_ret (v := .tuple #[.agg #[.int .i64 0, .int .i64 0], .int .i64 6]) (by simp [results, Tryz.results135, go_sem, x0, x1]) rfl ⟨rfl, EF⟩
 ·simp only [if_neg hp, decide_eq_false hp] at NP
  have hd := hdone.out
  rw [if_neg (fun h => hp h.1)] at hd
  obtain ⟨rfl, rfl⟩ := Prod.mk.inj hd
  clear hd hdone HR
  generalize decide (q ≤ 1048576) = bq at *
  generalize (if q ≤ 1048576 then q else 0) = q' at *
  cases bq
  ·skip
   go_upto_region 3 with (go_at_call 145; (with_reducible refine Calls.mono (NP _ ga2) ?_); rintro e wa ⟨rfl, ha⟩; clear k0 k1 lk; replace H1 := H1.ext ha; obtain ⟨k0, k1⟩ := H1.c2; have lk := H1.lt)
   replace EX := EX.trans ha
   replace H2 := H2.ext ha
   replace gb2 := gb2.ext ha
   clear ha ga2 NP
   go_upto_region 4 with (go_at_call 145; (with_reducible refine Calls.mono (NQ _ gb2) ?_); rintro e wb ⟨rfl, hb⟩)
   replace EX := EX.trans hb
   replace H2 := H2.ext hb
   clear hb gb2 NQ k0 k1 lk
   have f0 := H2.frozen 0
   have f1 := H2.frozen 1
   obtain ⟨z0, z1⟩ := H2.c2
   have lz := H2.lt
   have H3 := Qk H2 (.int .i64 0) (.int .i64 0)
   have EF := (EX.setCell (p := ⟨b2, 0, none⟩) hb2' (.int .i64 0)).setCell (p := ⟨b2, 1, none⟩) hb2' (.int .i64 0)
   obtain ⟨x0, x1⟩ := H3.c2
   go_wp2
   refine bodyPost_ret (v := .tuple #[.agg #[.int .i64 0, .int .i64 0], .int .i64 6]) (by simp [results, Tryz.results135, go_sem, x0, x1]) rfl ⟨rfl, EF⟩
  ·skip
   go_upto_region 3 with (go_at_call 145; (with_reducible refine Calls.mono (NP _ ga2) ?_); rintro e wa ⟨rfl, ha⟩; clear k0 k1 lk; replace H1 := H1.ext ha; obtain ⟨k0, k1⟩ := H1.c2; have lk := H1.lt)
   replace EX := EX.trans ha
   replace H2 := H2.ext ha
   replace gb2 := gb2.ext ha
   clear ha ga2 NP
   go_upto_region 4 with (go_at_call 145; (with_reducible refine Calls.mono (NQ _ gb2) ?_); rintro e wb ⟨rfl, hb⟩)
   replace EX := EX.trans hb
   replace H2 := H2.ext hb
   clear hb gb2 NQ k0 k1 lk
   have f0 := H2.frozen 0
   have f1 := H2.frozen 1
   obtain ⟨z0, z1⟩ := H2.c2
   have lz := H2.lt
   have H3 := Qk H2 (.int .i64 0) (.int .i64 0)
   have EF := (EX.setCell (p := ⟨b2, 0, none⟩) hb2' (.int .i64 0)).setCell (p := ⟨b2, 1, none⟩) hb2' (.int .i64 0)
   obtain ⟨x0, x1⟩ := H3.c2
   go_wp2
   refine bodyPost_ret (v := .tuple #[.agg #[.int .i64 0, .int .i64 0], .int .i64 6]) (by simp [results, Tryz.results135, go_sem, x0, x1]) rfl ⟨rfl, EF⟩
end
section
open Go Go.RowKit
section
variable {P : Program} {ops : Array Oper} {md : Region.Mode} {C : World → Prop} {R : Act → World → Prop} {zs : List Nat}
def Jf (P : Program) (md : Region.Mode) (ops : Array Oper) (C : World → Prop) (zs : List Nat) (R : Act → World → Prop) : Nat → Array Bool → Act → World → Prop
 | 0, L, a, w => Region.ready md ops L = [] ∧ R a w
 | f + 1, L, a, w => (Region.ready md ops L = [] → R a w) ∧ ∀ i ∈ Region.ready md ops L, wpOp P ops (Ji fun _ _ => False) i (fun a' w' => (i ∉ zs → C w') ∧ Jf P md ops C zs R f (L.setIfInBounds i true) a' w') a w
theorem Dc {R : Act → World → Prop} : ∀ (f : Nat) (L : Array Bool) (a : Act) (w : World), Jf P md ops C zs R f L a w → wpAny P md ops (Ji R) f L a w
 | 0, _, _, _, h => h
 | f + 1, _, _, _, h => ⟨h.1, fun i hi => wpOp_mono (fun a' w' h' => Dc f _ a' w' h'.2) (Dd (h.2 i hi))⟩
/-- What is done has what it waits for done. -/
def Wu (md : Region.Mode) (ops : Array Oper) (L : Array Bool) : Prop := ∀ (j : Nat) (oj : Oper), ops[j]? = some oj → L.getD j false = true → ∀ e ∈ oj.after, Region.binds md e = true → L.getD e.on false = true
theorem Wu.set {L : Array Bool} (h : Wu md ops L) {i : Nat} (hi : i ∈ Region.ready md ops L) : Wu md ops (L.setIfInBounds i true) := fun j oj hj hl e he hb => by
 have up : ∀ k, L.getD k false = true → (L.setIfInBounds i true).getD k false = true := fun k hk => by
  by_cases e1 : i = k
  ·subst e1
   rcases Nat.lt_or_ge i L.size with h1 | h1
   ·simp [h1]
   ·simp [Array.getElem?_eq_none h1] at hk
  ·rw [getD_set_ne false e1]; exact hk
 refine up _ ?_
 obtain ⟨_, oi, hoi, hall⟩ := mem_ready.1 hi
 by_cases e1 : i = j
 ·subst e1
  have e2 : oj = oi := Option.some.inj (hj.symm.trans hoi)
  subst e2
  exact hall e he hb
 ·rw [getD_set_ne false e1] at hl
  exact h j oj hj hl e he hb
def Uz (md : Region.Mode) (ops : Array Oper) : Nat → Nat → Nat → Bool
 | 0, _, _ => false
 | f + 1, j, i => match ops[j]? with | some oj => oj.after.any fun e => Region.binds md e && (e.on == i || Uz md ops f e.on i) | none => false
theorem P5 {L : Array Bool} (hc : Wu md ops L) {i : Nat} : ∀ (f j : Nat), Uz md ops f j i = true → L.getD j false = true → L.getD i false = true
 | 0, _, h, _ => by cases h
 | f + 1, j, h, hj => by
  unfold Uz at h
  split at h
  ·rename_i oj hoj
   obtain ⟨e, he, hb⟩ := Array.any_eq_true'.1 h
   simp only [Bool.and_eq_true, Bool.or_eq_true, beq_iff_eq] at hb
   have h1 := hc j oj hoj hj e he hb.1
   rcases hb.2 with e1 | e1
   ·rw [← e1]; exact h1
   ·exact P5 hc f e.on e1 h1
  ·cases h
theorem Qcz {L : Array Bool} (hc : Wu md ops L) {i j f : Nat} (h : Uz md ops f j i = true) (hi : L.getD i true = false) (hj : j ∈ Region.ready md ops L) : False := by
 obtain ⟨_, oj, hoj, hall⟩ := mem_ready.1 hj
 cases f with
 | zero => cases h
 | succ f =>
  unfold Uz at h
  rw [hoj] at h
  obtain ⟨e, he, hb⟩ := Array.any_eq_true'.1 h
  simp only [Bool.and_eq_true, Bool.or_eq_true, beq_iff_eq] at hb
  have h1 := hall e he hb.1
  have h2 : L.getD i false = true := by
   rcases hb.2 with e1 | e1
   ·rw [← e1]; exact h1
   ·exact P5 hc f e.on e1 h1
  rw [getD_both hi] at h2
  cases h2
theorem Qc2 {R : Act → World → Prop} {i : Nat} {oi : Oper} {v : Value} {f0 : Nat} (hi : ops[i]? = some oi) (hwz : ∀ j, j ∈ zs → Uz md ops f0 j i = true)
  (hsel : ∀ (j : Nat) (o : Oper) cs b, ops[j]? = some o → o.op ≠ .select cs b) :
  ∀ (f : Nat) (L : Array Bool) (a : Act) (w : World), Wu md ops L →
   (∀ j oj, ops[j]? = some oj → j ≠ i → L.getD j true = false → (∀ e ∈ oj.after, Region.binds md e = true → e.on ≠ i) → oi.apart ops oj = true) →
   i ∈ Region.ready md ops L → C w → Xj P ops C oi v a →
   Jf P md ops C zs R f (L.setIfInBounds i true) (a.put oi.dst v) w → Jf P md ops C zs R (f + 1) L a w := by
 intro f
 induction f with
 | zero =>
  intro L a w hcl _ hr hw hy H
  refine ⟨fun h => (by rw [h] at hr; cases hr), fun j hj => ?_⟩
  by_cases hji : j = i
  ·subst hji; exact hy.wpOp hi hw ⟨fun _ => hw, H⟩
  ·have := ready_mono hj hji
   rw [H.1] at this
   cases this
 | succ f ih =>
  intro L a w hcl hfree hr hw hy H
  refine ⟨fun h => (by rw [h] at hr; cases hr), fun j hj => ?_⟩
  by_cases hji : j = i
  ·subst hji; exact hy.wpOp hi hw ⟨fun _ => hw, H⟩
  ·have h1 := H.2 j (ready_mono hj hji)
   obtain ⟨hjun, oj, hoj, hall⟩ := mem_ready.1 hj
   have hnot : ∀ e ∈ oj.after, Region.binds md e = true → e.on ≠ i := fun e he hb heq => by
    have h1 := hall e he hb
    rw [heq, getD_both (mem_ready.1 hr).1] at h1
    cases h1
   have hjz : j ∉ zs := fun hz => Qcz hcl (hwz j hz) (mem_ready.1 hr).1 hj
   have h2 := Hx (Q := Ji fun _ _ => False) hoj (hfree j oj hoj hji hjun hnot) (fun cs b => hsel i oi cs b hi) (fun cs b => hsel j oj cs b hoj) hy h1
   have hfree' : ∀ k ok, ops[k]? = some ok → k ≠ i → (L.setIfInBounds j true).getD k true = false → (∀ e ∈ ok.after, Region.binds md e = true → e.on ≠ i) → oi.apart ops ok = true := fun k ok hk hki hun hno => by
    refine hfree k ok hk hki ?_ hno
    by_cases hjk : j = k
    ·subst hjk; exact hjun
    ·rw [getD_set_ne true hjk] at hun; exact hun
   refine wpOp_mono (fun a' w' h3 => ⟨h3.2.1, ih (L.setIfInBounds j true) a' w' (hcl.set hj) hfree' (ready_mono hr (Ne.symm hji)) (h3.2.1 hjz) h3.1 ?_⟩) h2
   rw [Array.setIfInBounds_comm _ _ hji]
   exact h3.2.2
/-- An operation that looks at no memory, and after which nothing is asked. -/
theorem Qc3 {R : Act → World → Prop} {i : Nat} {oi : Oper} {v : Value} (hi : ops[i]? = some oi) (hiz : i ∈ zs)
  (hsel : ∀ (j : Nat) (o : Oper) cs b, ops[j]? = some o → o.op ≠ .select cs b) :
  ∀ (f : Nat) (L : Array Bool) (a : Act) (w : World),
   (∀ j oj, ops[j]? = some oj → j ≠ i → L.getD j true = false → (∀ e ∈ oj.after, Region.binds md e = true → e.on ≠ i) → oi.apart ops oj = true) →
   i ∈ Region.ready md ops L → Xj P ops (fun _ => True) oi v a →
   Jf P md ops C zs R f (L.setIfInBounds i true) (a.put oi.dst v) w → Jf P md ops C zs R (f + 1) L a w := by
 intro f
 induction f with
 | zero =>
  intro L a w _ hr hy H
  refine ⟨fun h => (by rw [h] at hr; cases hr), fun j hj => ?_⟩
  by_cases hji : j = i
  ·subst hji; exact hy.wpOp hi trivial ⟨fun h => absurd hiz h, H⟩
  ·have := ready_mono hj hji
   rw [H.1] at this
   cases this
 | succ f ih =>
  intro L a w hfree hr hy H
  refine ⟨fun h => (by rw [h] at hr; cases hr), fun j hj => ?_⟩
  by_cases hji : j = i
  ·subst hji; exact hy.wpOp hi trivial ⟨fun h => absurd hiz h, H⟩
  ·have h1 := H.2 j (ready_mono hj hji)
   obtain ⟨hjun, oj, hoj, hall⟩ := mem_ready.1 hj
   have hnot : ∀ e ∈ oj.after, Region.binds md e = true → e.on ≠ i := fun e he hb heq => by
    have h1 := hall e he hb
    rw [heq, getD_both (mem_ready.1 hr).1] at h1
    cases h1
   have h2 := Hx (Q := Ji fun _ _ => False) hoj (hfree j oj hoj hji hjun hnot) (fun cs b => hsel i oi cs b hi) (fun cs b => hsel j oj cs b hoj) hy h1
   have hfree' : ∀ k ok, ops[k]? = some ok → k ≠ i → (L.setIfInBounds j true).getD k true = false → (∀ e ∈ ok.after, Region.binds md e = true → e.on ≠ i) → oi.apart ops ok = true := fun k ok hk hki hun hno => by
    refine hfree k ok hk hki ?_ hno
    by_cases hjk : j = k
    ·subst hjk; exact hjun
    ·rw [getD_set_ne true hjk] at hun; exact hun
   refine wpOp_mono (fun a' w' h3 => ⟨h3.2.1, ih (L.setIfInBounds j true) a' w' hfree' (ready_mono hr (Ne.symm hji)) h3.1 ?_⟩) h2
   rw [Array.setIfInBounds_comm _ _ hji]
   exact h3.2.2
def Gr (md : Region.Mode) (ops : Array Oper) (L : Array Bool) : Bool := (List.range ops.size).all fun j => !(L.getD j false) || (match ops[j]? with | some o => o.after.all fun e => !Region.binds md e || L.getD e.on false | none => true)
theorem B8 {L : Array Bool} (h : Gr md ops L = true) : Wu md ops L := fun j oj hj hl e he hb => by
 have h1 := List.all_eq_true.1 h j (List.mem_range.2 (Array.getElem?_eq_some_iff.1 hj).1)
 rw [hl, hj] at h1
 simp only [Bool.not_true, Bool.false_or] at h1
 have h2 := Array.all_eq_true_iff_forall_mem.1 h1 e he
 rw [hb, Bool.not_true, Bool.false_or] at h2
 exact h2
def Mq (md : Region.Mode) (ops : Array Oper) (zs : List Nat) : List Nat → Array Bool → Bool
 | [], _ => true
 | k :: ks, L => (Region.ready md ops L).contains k && Region.free md ops L k && (zs.all fun z => Uz md ops ops.size z k) && Mq md ops zs ks (L.setIfInBounds k true)
theorem Gg {W : World} (hW : C W) {A : Act} {g : Nat} (hs : Region.noSelect ops = true) : ∀ (ks : List Nat) (l : List Oper) (L : Array Bool) (a : Act), l.map some = ks.map (fun k => ops[k]?) → Yc l = true → Xr a l = true → Wu md ops L →
  Mq md ops zs ks L = true → (∀ u, C u → wpQuiet P ops (fun w' => w' = u) (fun a' => a' = A) l a) → Jf P md ops C zs R g (Uw ks L) A W → Jf P md ops C zs R (l.length + g) L a W
 | [], [], L, a, _, _, _, _, _, h, H => by
  have e : a = A := h W hW
  subst e
  rw [List.length_nil, Nat.zero_add]
  exact H
 | k :: ks, o :: l, L, a, hl, hd, hz, hcl, hB, h, H => by
  simp only [List.map_cons, List.cons.injEq] at hl
  have h0 : ops[k]? = some o := hl.1.symm
  simp only [Mq, Bool.and_eq_true] at hB
  obtain ⟨⟨⟨hr, hf⟩, hwz⟩, hB'⟩ := hB
  have hzo := hz
  simp only [Xr, List.all_cons, Bool.and_eq_true] at hzo
  obtain ⟨v, hy, hn⟩ := Pk hW hd (fun d he => by have := hzo.1; rw [he] at this; simpa using this) h
  have hd' : Yc l = true := by simp only [Yc, Bool.and_eq_true] at hd; exact hd.2
  have hsz : (a.put o.dst v).tmps.size = a.tmps.size := by cases o.dst <;> simp [Act.put]
  rw [show (o :: l).length + g = (l.length + g) + 1 by simp only [List.length_cons]; omega]
  exact Qc2 h0 (fun j hj => List.all_eq_true.1 hwz j hj) (Region.noSelect_spec hs) _ L a W hcl (Region.free_spec h0 hf) (by simpa using hr) hW hy
   (Gg hW hs ks l _ _ hl.2 hd' (by unfold Xr; rw [hsz]; exact hzo.2) (hcl.set (by simpa using hr)) hB' hn H)
 | [], _ :: _, _, _, hl, _, _, _, _, _, _ => by simp at hl
 | _ :: _, [], _, _, hl, _, _, _, _, _, _ => by simp at hl
theorem Qp {g f : Nat} {L : Array Bool} {a : Act} {w : World} (ks : List Nat) (l : List Oper) (hl : Vw ops ks l) (hB : (Region.noSelect ops && Yc l && Gr md ops L && Mq md ops zs ks L && decide (f = l.length + g)) = true) (hz : Xr a l = true) (hw : C w)
  (h : ∃ A, (∀ u, C u → wpQuiet P ops (fun w' => w' = u) (fun a' => a' = A) l a) ∧ Jf P md ops C zs R g (Uw ks L) A w) : Jf P md ops C zs R f L a w := by
 obtain ⟨A, h1, h2⟩ := h
 simp only [Bool.and_eq_true, decide_eq_true_eq] at hB
 obtain ⟨⟨⟨⟨hs, hd⟩, hc⟩, hk⟩, rfl⟩ := hB
 exact Gg hw hs ks l L a (L3 hl) hd hz (B8 hc) hk h1 h2
def L7 (md : Region.Mode) (ops : Array Oper) (zs : List Nat) : List Nat → Array Bool → Bool
 | [], _ => true
 | k :: ks, L => (Region.ready md ops L).contains k && Region.free md ops L k && zs.contains k && L7 md ops zs ks (L.setIfInBounds k true)
theorem Gb {W : World} {A : Act} {g : Nat} (hs : Region.noSelect ops = true) : ∀ (ks : List Nat) (l : List Oper) (L : Array Bool) (a : Act), l.map some = ks.map (fun k => ops[k]?) → Yc l = true → Xr a l = true →
  L7 md ops zs ks L = true → (∀ u, True → wpQuiet P ops (fun w' => w' = u) (fun a' => a' = A) l a) → Jf P md ops C zs R g (Uw ks L) A W → Jf P md ops C zs R (l.length + g) L a W
 | [], [], L, a, _, _, _, _, h, H => by
  have e : a = A := h W trivial
  subst e
  rw [List.length_nil, Nat.zero_add]
  exact H
 | k :: ks, o :: l, L, a, hl, hd, hz, hB, h, H => by
  simp only [List.map_cons, List.cons.injEq] at hl
  have h0 : ops[k]? = some o := hl.1.symm
  simp only [L7, Bool.and_eq_true] at hB
  obtain ⟨⟨⟨hr, hf⟩, hkz⟩, hB'⟩ := hB
  have hzo := hz
  simp only [Xr, List.all_cons, Bool.and_eq_true] at hzo
  obtain ⟨v, hy, hn⟩ := Pk (C := fun _ => True) (W := W) trivial hd (fun d he => by have := hzo.1; rw [he] at this; simpa using this) h
  have hd' : Yc l = true := by simp only [Yc, Bool.and_eq_true] at hd; exact hd.2
  have hsz : (a.put o.dst v).tmps.size = a.tmps.size := by cases o.dst <;> simp [Act.put]
  rw [show (o :: l).length + g = (l.length + g) + 1 by simp only [List.length_cons]; omega]
  exact Qc3 h0 (by simpa using hkz) (Region.noSelect_spec hs) _ L a W (Region.free_spec h0 hf) (by simpa using hr) hy
   (Gb hs ks l _ _ hl.2 hd' (by unfold Xr; rw [hsz]; exact hzo.2) hB' hn H)
 | [], _ :: _, _, _, hl, _, _, _, _, _ => by simp at hl
 | _ :: _, [], _, _, hl, _, _, _, _, _ => by simp at hl
theorem Jv {g f : Nat} {L : Array Bool} {a : Act} {w : World} (ks : List Nat) (l : List Oper) (hl : Vw ops ks l) (hB : (Region.noSelect ops && Yc l && L7 md ops zs ks L && decide (f = l.length + g)) = true) (hz : Xr a l = true)
  (h : ∃ A, (∀ u, True → wpQuiet P ops (fun w' => w' = u) (fun a' => a' = A) l a) ∧ Jf P md ops C zs R g (Uw ks L) A w) : Jf P md ops C zs R f L a w := by
 obtain ⟨A, h1, h2⟩ := h
 simp only [Bool.and_eq_true, decide_eq_true_eq] at hB
 obtain ⟨⟨⟨hs, hd⟩, hk⟩, rfl⟩ := hB
 exact Gb hs ks l L a (L3 hl) hd hz hk h1 h2
theorem Qj {f : Nat} {L : Array Bool} {a : Act} {w : World} {o : Oper} (k : Nat) (ho : ops[k]? = some o) (hB : decide (Region.ready md ops L = [k]) = true)
  (h : wpList P ops (Ji fun a' w' => C w' ∧ Jf P md ops C zs R f (L.setIfInBounds k true) a' w') [o] a w) : Jf P md ops C zs R (f + 1) L a w := by
 have hB := of_decide_eq_true hB
 refine ⟨fun h => (by rw [hB] at h; cases h), fun j hj => ?_⟩
 rw [hB, List.mem_singleton] at hj
 subst hj
 refine wpOp_mono (fun a' w' h' => ⟨fun _ => h'.1, h'.2⟩) (Ws (Uf ho h))
theorem Zm {f : Nat} {L : Array Bool} {a : Act} {w : World} {o1 o2 : Oper} (k1 k2 : Nat) (h1 : ops[k1]? = some o1) (h2 : ops[k2]? = some o2) (hB : decide (Region.ready md ops L = [k1, k2]) = true)
  (ha : wpList P ops (Ji fun a' w' => C w' ∧ Jf P md ops C zs R f (L.setIfInBounds k1 true) a' w') [o1] a w)
  (hb : wpList P ops (Ji fun a' w' => C w' ∧ Jf P md ops C zs R f (L.setIfInBounds k2 true) a' w') [o2] a w) : Jf P md ops C zs R (f + 1) L a w := by
 have hB := of_decide_eq_true hB
 refine ⟨fun h => (by rw [hB] at h; cases h), fun j hj => ?_⟩
 rw [hB] at hj
 rcases List.mem_cons.1 hj with rfl | hj
 ·exact wpOp_mono (fun a' w' h' => ⟨fun _ => h'.1, h'.2⟩) (Ws (Uf h1 ha))
 ·rw [List.mem_singleton] at hj
  subst hj
  exact wpOp_mono (fun a' w' h' => ⟨fun _ => h'.1, h'.2⟩) (Ws (Uf h2 hb))
/-- Three that may come up next. -/
theorem Ks {f : Nat} {L : Array Bool} {a : Act} {w : World} {o1 o2 o3 : Oper} (k1 k2 k3 : Nat) (h1 : ops[k1]? = some o1) (h2 : ops[k2]? = some o2) (h3 : ops[k3]? = some o3) (hB : decide (Region.ready md ops L = [k1, k2, k3]) = true)
  (ha : wpList P ops (Ji fun a' w' => C w' ∧ Jf P md ops C zs R f (L.setIfInBounds k1 true) a' w') [o1] a w)
  (hb : wpList P ops (Ji fun a' w' => C w' ∧ Jf P md ops C zs R f (L.setIfInBounds k2 true) a' w') [o2] a w)
  (hc : wpList P ops (Ji fun a' w' => C w' ∧ Jf P md ops C zs R f (L.setIfInBounds k3 true) a' w') [o3] a w) : Jf P md ops C zs R (f + 1) L a w := by
 have hB := of_decide_eq_true hB
 refine ⟨fun h => (by rw [hB] at h; cases h), fun j hj => ?_⟩
 rw [hB] at hj
 rcases List.mem_cons.1 hj with rfl | hj
 ·exact wpOp_mono (fun a' w' h' => ⟨fun _ => h'.1, h'.2⟩) (Ws (Uf h1 ha))
 ·rcases List.mem_cons.1 hj with rfl | hj
  ·exact wpOp_mono (fun a' w' h' => ⟨fun _ => h'.1, h'.2⟩) (Ws (Uf h2 hb))
  ·rw [List.mem_singleton] at hj
   subst hj
   exact wpOp_mono (fun a' w' h' => ⟨fun _ => h'.1, h'.2⟩) (Ws (Uf h3 hc))
/-- Behind one of zs nothing is asked of the world. -/
theorem Qm {f : Nat} {L : Array Bool} {a : Act} {w : World} {o : Oper} (k : Nat) (ho : ops[k]? = some o) (hB : (zs.contains k && decide (Region.ready md ops L = [k])) = true)
  (h : wpList P ops (Ji fun a' w' => Jf P md ops C zs R f (L.setIfInBounds k true) a' w') [o] a w) : Jf P md ops C zs R (f + 1) L a w := by
 simp only [Bool.and_eq_true, decide_eq_true_eq] at hB
 refine ⟨fun h => (by rw [hB.2] at h; cases h), fun j hj => ?_⟩
 rw [hB.2, List.mem_singleton] at hj
 subst hj
 exact wpOp_mono (fun a' w' h' => ⟨fun h => absurd (by simpa using hB.1) h, h'⟩) (Ws (Uf ho h))
theorem Qt {L : Array Bool} {a : Act} {w : World} (hB : decide (Region.ready md ops L = []) = true) (h : R a w) : Jf P md ops C zs R 0 L a w := ⟨of_decide_eq_true hB, h⟩
end
theorem Zk {P : Program} {id : Nat} {Q : Exit → Act → World → Prop} {a : Act} {w : World} {l : List Oper} (n : Nat) (zs : List Nat) (C : World → Prop) (hm : P.follows .mixedOrders = true) (hn : n = l.length)
  (h : ∀ w', Qa w w' → Jf P .any l.toArray C zs (fun a w => Q .normal a w) n (Array.replicate n false) a w') : (Code.region id l.toArray true).wp P Q a w := by
 have H := h { w with drawn := w.drawn + 1 } ⟨rfl, rfl, rfl, Nat.le_refl _, fun _ _ => rfl⟩
 refine Code.wp_mono (Q := Ji fun a w => Q .normal a w) (fun e a' w' h' => by cases e <;> first | exact h' | exact False.elim h') (wp_region_any hm (Dc (C := C) (zs := zs) _ _ _ _ ?_))
 subst hn
 simpa using H
theorem Ql {S : Act → World → Prop} {a : Act} {w : World} (h : S a w) : Ji (fun a' w' => S a' w') .normal a w := h
end
section
open Go Go.RowKit Go.Shelf
attribute [local go_sem] Zs
/-- The global 'zero' holds 0/1. -/
def Zv (w : World) : Prop := w.cell? ⟨0, 0, none⟩ = some (.int .i64 0) ∧ w.cell? ⟨0, 1, none⟩ = some (.int .i64 1) ∧ 0 < w.heap.size
theorem Zv.ext {w w' : World} (h : Zv w) (e : Qa w w') : Zv w' := ⟨(e.cell (p := ⟨0, 0, none⟩) h.2.2).trans h.1, (e.cell (p := ⟨0, 1, none⟩) h.2.2).trans h.2.1, Nat.lt_of_lt_of_le h.2.2 e.size⟩
def Ym (f : Nat → Rt) (i : Nat) : List Value := [.int .i64 (f i).n, .int .i64 (f i).d]
theorem Pv (g : Nat → Nat) (k : Nat) : Qy (Q7 g) k ++ [.int .u64 (g k : Int)] = Qy (Q7 g) (k + 1) := by rw [X7]; rfl
theorem Es {W : World} {b : Nat} {t : TypeId} {v0 v1 : Value} (h : Qb W b t #[v0, v1]) (u : Value) : Qb (W.setCell ⟨b, 0, none⟩ u) b t #[u, v1] := by unfold Qb at h ⊢; simp [World.setCell, Array.getElem?_modify, h]
theorem Et {W : World} {b : Nat} {t : TypeId} {v0 v1 : Value} (h : Qb W b t #[v0, v1]) (u : Value) : Qb (W.setCell ⟨b, 1, none⟩ u) b t #[v0, u] := by unfold Qb at h ⊢; simp [World.setCell, Array.getElem?_modify, h]
def Uh (p q : Value) : Prop := ∀ x y, p.ownBlock = some x → q.ownBlock = some y → x ≠ y
theorem Dv {p q : Value} (h : Uh p q) : q.ownBlock = none ∨ q.ownBlock ≠ p.ownBlock := by
 cases e : q.ownBlock with
 | none => exact .inl rfl
 | some y => exact .inr (fun h' => h y y h'.symm e rfl)
theorem Dw {p q : Value} (h : Uh p q) : p.ownBlock = none ∨ p.ownBlock ≠ q.ownBlock := by
 cases e : p.ownBlock with
 | none => exact .inl rfl
 | some y => exact .inr (fun h' => h y y e h'.symm rfl)
theorem Ds {p q p' : Value} {w : World} {base size n : Nat} {e : TypeId} {xs : List Value} (h : Uh p q) (hloc : p'.ownBlock = p.ownBlock ∨ p'.ownBlock = some w.heap.size) (hq : w.ownsRow base e size q n xs) : Uh p' q := fun x y hx hy => by
 rcases hloc with e | e
 ·exact h x y (e.symm.trans hx) hy
 ·rw [e] at hx; cases hx
  have := (hq.lt y hy).2; omega
theorem Du {p q p' : Value} {w : World} {base size n : Nat} {e : TypeId} {xs : List Value} (h : Uh q p) (hloc : p'.ownBlock = p.ownBlock ∨ p'.ownBlock = some w.heap.size) (hq : w.ownsRow base e size q n xs) : Uh q p' := fun x y hx hy => by
 rcases hloc with e | e
 ·exact h x y hx (e.symm.trans hy)
 ·rw [e] at hy; cases hy
  have := (hq.lt x hx).2; omega
set_option maxHeartbeats 8000000 in
theorem Qag (A : Option Addr) (n ca : Nat) (f : Nat → Rt) (w : World) (hA : Qn w A n 2 (Ym f)) (hn : n ≤ 1000) (hok : ∀ i, i < n → (f i).ok = true) (hZ : Zv w) :
  Calls Tryz.prog 103 #[.slice A n ca] w fun e w' => e = .returned (.tuple #[.agg #[.int .i64 (Xd f n).1.n, .int .i64 (Xd f n).1.d], .int .i64 (Xd f n).2]) ∧ Qa w w' := by
 obtain ⟨i0, hi, hz0, hz1, hz2⟩ := info_parts Ny
 obtain ⟨R, hR0⟩ := Qg (Xd f n)
 rw [← hR0]
 have HR := Lib.hid hR0
 clear hR0
 go_enter Tryz.func103, Tryz.ntmps103
 go_upto_region 1 with (fail)
 obtain ⟨v0, hv⟩ := Qg (w.alloc (.cells #[.int .i64 0, .int .i64 0] 73))
 rw [← hv]
 have E : Qa w v0 := by rw [hv]; exact (Qa.refl _).alloc _
 have B1 : Qb v0 w.heap.size 73 #[.int .i64 0, .int .i64 0] := by rw [hv]; exact Qb.new _ _ _
 clear hv
 have RA := hA.ext E
 have Z0 := hZ.ext E
 clear hA hZ
 obtain ⟨b1, hb1⟩ := Qg (w.heap.size)
 rw [← hb1] at B1 ⊢
 have hb1' := Nat.le_of_eq hb1.symm
 clear hb1
 go_upto_region 4 with (fail)
 obtain ⟨v, hv⟩ := Qg (v0.alloc (.cells #[.slice none 0 0, .slice none 0 0] 188))
 rw [← hv]
 have E0 : Qa v0 v := by rw [hv]; exact (Qa.refl _).alloc _
 have B2 : Qb v v0.heap.size 188 #[.slice none 0 0, .slice none 0 0] := by rw [hv]; exact Qb.new _ _ _
 clear hv
 obtain ⟨b2, hb2⟩ := Qg (v0.heap.size)
 rw [← hb2] at B2 ⊢
 have hb2' := Nat.le_of_eq hb2.symm
 have l12 : b1 < b2 := by have := B1.lt; omega
 clear hb2
 go_loopw [5, 10] (fun ng iv wr => ∃ k : Nat, k ≤ n ∧ iv = .int .i64 k ∧ ng = .bool (Ur f k) ∧ Hid (∀ i, i < k → (f i).n ≠ 0) ∧ ∃ vu vd, Qa v0 wr ∧ Qb wr b2 188 #[vu, vd] ∧ wr.ownsRow (b2 + 1) 183 1 vu k (Qy (Q7 fun i => (f i).n.natAbs) k) ∧ wr.ownsRow (b2 + 1) 183 1 vd k (Qy (Q7 fun i => (f i).d.natAbs) k) ∧ Uh vu vd) (fun _ iv _ => n - (intOf iv).toNat)
 case atStart => exact ⟨0, Nat.zero_le _, rfl, rfl, (fun i h => absurd h (by omega)), _, _, E0, B2, World.ownsRow_nil _ _ _ _, World.ownsRow_nil _ _ _ _, fun x y h _ => by cases h⟩
 case round =>
  obtain ⟨k, hk, rfl, rfl, hnz, vu, vd, hE, HB, hU, hD, hap⟩ := hrel
  obtain ⟨wo, rfl⟩ := Qg wr
  clear E0 B2
  by_cases hlt : k < n
  ·have hokk := hok k hlt
   obtain ⟨d1, d2, n1, n2, _⟩ := Zo hokk
   have Nn := fun w => We (f k).n (by omega) (by omega) w
   have Nd := fun w => We (f k).d (by omega) (by omega) w
   obtain ⟨b, off, rfl, hb, hc⟩ := (RA.ext hE) (by omega)
   have c0 : wo.cell? ⟨b, off + k * 2, none⟩ = some (.int .i64 (f k).n) := by simpa [Ym] using hc k 0 _ hlt rfl
   have c1 : wo.cell? ⟨b, off + k * 2 + 1, none⟩ = some (.int .i64 (f k).d) := by simpa [Ym] using hc k 1 _ hlt rfl
   clear hc
   go_upto_region 6 with (fail)
   obtain ⟨v3, hv⟩ := Qg (wo.alloc (.cells #[.int .i64 (f k).n, .int .i64 (f k).d] 73))
   rw [← hv]
   have E3 : Qa wo v3 := by rw [hv]; exact (Qa.refl _).alloc _
   have H3 : Qb v3 wo.heap.size 73 #[.int .i64 (f k).n, .int .i64 (f k).d] := by rw [hv]; exact Qb.new _ _ _
   clear hv c0 c1
   obtain ⟨b3, hb3⟩ := Qg (wo.heap.size)
   rw [← hb3] at H3 ⊢
   have hb32 : b3 ≠ b2 := by have := HB.lt; omega
   clear hb3
   replace hE := hE.trans E3
   replace HB := HB.ext E3
   replace hU := Z2 hU E3
   replace hD := Z2 hD E3
   clear E3
   obtain ⟨q0, q1⟩ := H3.c2
   have lq := H3.lt
   by_cases h0 : (f k).n = 0
   ·have hz : Hid (R = (⟨0, 1⟩, 0)) := by
     unfold Hid
     rw [HR.out]
     unfold Xd
     rw [(Hm (f := fun i => (f i).n.natAbs) n).2 ⟨k, hlt, by simp only [h0]; rfl⟩]
     exact Mb (Uy n fun i hi => by have := (Zo (hok i hi)).1; omega)
    have B1v := B1.ext hE
    obtain ⟨z0, z1, lz⟩ := Z0.ext hE
    have f0 := B1v.frozen 0
    have f1 := B1v.frozen 1
    obtain ⟨x0, x1⟩ := B1v.c2
    have lx := B1v.lt
    have EF := ((E.trans hE).setCell (p := ⟨b1, 0, none⟩) hb1' (.int .i64 0)).setCell (p := ⟨b1, 1, none⟩) hb1' (.int .i64 1)
    have H4 := Qk B1v (.int .i64 0) (.int .i64 1)
    obtain ⟨y0, y1⟩ := H4.c2
    rw [h0] at q0
    have hzo := hz.out
    clear h0 hz HR hU hD HB hap hnz Nn Nd
    subst hzo
    go_wp2
    refine bodyPost_ret (v := .tuple #[.agg #[.int .i64 0, .int .i64 1], .int .i64 0]) (by simp [results, Tryz.results103, go_sem, y0, y1]) rfl ⟨rfl, EF⟩
   ·have h0b : ((f k).n == 0) = false := beq_eq_false_iff_ne.2 h0
    go_upto_region 8 with (fail)
    clear q0 q1 lq
    refine Zk 9 [8] (fun x => Qa v0 x ∧ Qb x b2 188 #[vu, vd] ∧ Qb x b3 73 #[.int .i64 (f k).n, .int .i64 (f k).d]) Qo rfl ?_
    intro vz hvz
    replace hE := hE.trans hvz
    replace HB := HB.ext hvz
    replace H3 := H3.ext hvz
    replace hU := Z2 hU hvz
    replace hD := Z2 hD hvz
    clear hvz
    refine Qp (g := 5) [0, 1, 2, 3] [_, _, _, _] ⟨rfl, rfl, rfl, rfl, trivial⟩ (by kernel_rfl) (by kernel_rfl) ⟨hE, HB, H3⟩ ?_
    simp only [Qc, Qd, Qe]
    apply Exists.intro
    refine ⟨fun u hu => ?_, ?_⟩
    ·obtain ⟨k0, k1⟩ := hu.2.1.c2
     obtain ⟨q0, q1⟩ := hu.2.2.c2
     have lk := hu.2.1.lt
     have lq := hu.2.2.lt
     repeat (first | go_big_quiet_skip | (go_big_quiet_want; go_big_quiet_op; go_big_quiet_on))
     refine wpQuiet_nil ?_
     rfl
    refine Qj 4 rfl (by kernel_rfl) ?_
    simp only [Qc, Qd, Qe]
    go_wp2_with (go_at_call 134; (with_reducible refine Calls.mono (Nn _) ?_); rintro e va ⟨rfl, h4⟩)
    replace hE := hE.trans h4
    replace HB := HB.ext h4
    replace H3 := H3.ext h4
    replace hU := Z2 hU h4
    replace hD := Z2 hD h4
    clear h4
    refine Qi ⟨hE, HB, H3⟩ ?_
    refine Qj 5 rfl (by kernel_rfl) ?_
    simp only [Qc, Qd, Qe]
    go_wp2
    refine Qi ⟨hE.alloc _, HB.alloc _, H3.alloc _⟩ ?_
    refine Qj 6 rfl (by kernel_rfl) ?_
    simp only [Qc, Qd, Qe]
    go_wp2_with (at_builtin; refine wpList_append_own_at _ rfl _ _ 186 rfl (b2 + 1) 183 i0 (.int .u64 0) 1 8 Tryz.underlying186 hi hz0 hz1 hz2 rfl (by decide) _ _ _ rfl (hU.alloc _) ⟨va.heap.size, 0, none⟩ 1 1 [.int .u64 ((f k).n.natAbs : Int)] rfl rfl (U5 _ _ _) (by simp [Value.oneCell']) (by unfold maxLen; omega) (by omega) (by have := HB.lt; simp; omega) ?_; intro vu' vb hown hgrow hnl hloc; clear hnl)
    have hEb : Qa v0 vb := (hE.alloc _).grown hgrow (fun q hq => by have := (hU.lt q hq).1; omega)
    have HBb := Qb.kept (HB.alloc _) hgrow (HB.not_row (by decide) hU)
    have H3b := Qb.kept (H3.alloc _) hgrow (H3.not_row (by decide) hU)
    have hOb := World.ownsRow.kept (hD.alloc _) hgrow (Dv hap)
    rw [Pv (fun i => (f i).n.natAbs) k] at hown
    have hap2 := Ds hap hloc (hD.alloc _)
    clear hgrow hloc hap hU hD hE HB H3 
    obtain ⟨fa, ma, rfl⟩ := Q9 hown
    refine Qi ⟨hEb, HBb, H3b⟩ ?_
    refine Qp (g := 1) [7] [_] ⟨rfl, trivial⟩ (by kernel_rfl) (by kernel_rfl) ⟨hEb, HBb, H3b⟩ ?_
    simp only [Qc, Qd, Qe]
    apply Exists.intro
    refine ⟨fun u hu => ?_, ?_⟩
    ·have lk := hu.2.1.lt
     repeat (first | go_big_quiet_skip | (go_big_quiet_want; go_big_quiet_op; go_big_quiet_on))
     refine wpQuiet_nil ?_
     rfl
    refine Qm 8 rfl (by kernel_rfl) ?_
    simp only [Qc, Qd, Qe]
    have f0 := HBb.frozen 0
    obtain ⟨z0, z1⟩ := HBb.c2
    have lz := HBb.lt
    have HB := Es HBb (.slice fa (k + 1) ma)
    have H3 := Qh H3b hb32 0 (.slice fa (k + 1) ma)
    have hU := ownsRow_setCell_below hown (a := ⟨b2, 0, none⟩) (Nat.lt_succ_self b2) (.slice fa (k + 1) ma)
    have hD := ownsRow_setCell_below hOb (a := ⟨b2, 0, none⟩) (Nat.lt_succ_self b2) (.slice fa (k + 1) ma)
    have hE := hEb.setCell (p := ⟨b2, 0, none⟩) hb2' (.slice fa (k + 1) ma)
    have hap := hap2
    go_wp2
    refine Ql ?_
    refine Qt (by kernel_rfl) ?_
    generalize World.setCell vb _ _ = vc at *
    generalize va.heap.size = szv0 at *
    clear f0 z0 z1 lz HBb H3b hown hOb hEb hap2 va
    go_upto_region 9 with (fail)
    refine Zk 9 [8] (fun x => Qa v0 x ∧ Qb x b2 188 #[.slice fa (k + 1) ma, vd] ∧ Qb x b3 73 #[.int .i64 (f k).n, .int .i64 (f k).d]) Qo rfl ?_
    intro vz hvz
    replace hE := hE.trans hvz
    replace HB := HB.ext hvz
    replace H3 := H3.ext hvz
    replace hU := Z2 hU hvz
    replace hD := Z2 hD hvz
    clear hvz
    refine Qp (g := 5) [0, 1, 2, 3] [_, _, _, _] ⟨rfl, rfl, rfl, rfl, trivial⟩ (by kernel_rfl) (by kernel_rfl) ⟨hE, HB, H3⟩ ?_
    simp only [Qc, Qd, Qe]
    apply Exists.intro
    refine ⟨fun u hu => ?_, ?_⟩
    ·obtain ⟨k0, k1⟩ := hu.2.1.c2
     obtain ⟨q0, q1⟩ := hu.2.2.c2
     have lk := hu.2.1.lt
     have lq := hu.2.2.lt
     repeat (first | go_big_quiet_skip | (go_big_quiet_want; go_big_quiet_op; go_big_quiet_on))
     refine wpQuiet_nil ?_
     rfl
    refine Qj 4 rfl (by kernel_rfl) ?_
    simp only [Qc, Qd, Qe]
    go_wp2_with (go_at_call 134; (with_reducible refine Calls.mono (Nd _) ?_); rintro e va ⟨rfl, h4⟩)
    replace hE := hE.trans h4
    replace HB := HB.ext h4
    replace H3 := H3.ext h4
    replace hU := Z2 hU h4
    replace hD := Z2 hD h4
    clear h4
    refine Qi ⟨hE, HB, H3⟩ ?_
    refine Qj 5 rfl (by kernel_rfl) ?_
    simp only [Qc, Qd, Qe]
    go_wp2
    refine Qi ⟨hE.alloc _, HB.alloc _, H3.alloc _⟩ ?_
    refine Qj 6 rfl (by kernel_rfl) ?_
    simp only [Qc, Qd, Qe]
    go_wp2_with (at_builtin; refine wpList_append_own_at _ rfl _ _ 186 rfl (b2 + 1) 183 i0 (.int .u64 0) 1 8 Tryz.underlying186 hi hz0 hz1 hz2 rfl (by decide) _ _ _ rfl (hD.alloc _) ⟨va.heap.size, 0, none⟩ 1 1 [.int .u64 ((f k).d.natAbs : Int)] rfl rfl (U5 _ _ _) (by simp [Value.oneCell']) (by unfold maxLen; omega) (by omega) (by have := HB.lt; simp; omega) ?_; intro vd' vb hown hgrow hnl hloc; clear hnl)
    have hEb : Qa v0 vb := (hE.alloc _).grown hgrow (fun q hq => by have := (hD.lt q hq).1; omega)
    have HBb := Qb.kept (HB.alloc _) hgrow (HB.not_row (by decide) hD)
    have H3b := Qb.kept (H3.alloc _) hgrow (H3.not_row (by decide) hD)
    have hOb := World.ownsRow.kept (hU.alloc _) hgrow (Dw hap)
    rw [Pv (fun i => (f i).d.natAbs) k] at hown
    have hap2 := Du hap hloc (hU.alloc _)
    clear hgrow hloc hap hU hD hE HB H3 
    obtain ⟨fb, mb, rfl⟩ := Q9 hown
    refine Qi ⟨hEb, HBb, H3b⟩ ?_
    refine Qp (g := 1) [7] [_] ⟨rfl, trivial⟩ (by kernel_rfl) (by kernel_rfl) ⟨hEb, HBb, H3b⟩ ?_
    simp only [Qc, Qd, Qe]
    apply Exists.intro
    refine ⟨fun u hu => ?_, ?_⟩
    ·have lk := hu.2.1.lt
     repeat (first | go_big_quiet_skip | (go_big_quiet_want; go_big_quiet_op; go_big_quiet_on))
     refine wpQuiet_nil ?_
     rfl
    refine Qm 8 rfl (by kernel_rfl) ?_
    simp only [Qc, Qd, Qe]
    have f0 := HBb.frozen 1
    obtain ⟨z0, z1⟩ := HBb.c2
    have lz := HBb.lt
    have HB := Et HBb (.slice fb (k + 1) mb)
    have H3 := Qh H3b hb32 1 (.slice fb (k + 1) mb)
    have hD := ownsRow_setCell_below hown (a := ⟨b2, 1, none⟩) (Nat.lt_succ_self b2) (.slice fb (k + 1) mb)
    have hU := ownsRow_setCell_below hOb (a := ⟨b2, 1, none⟩) (Nat.lt_succ_self b2) (.slice fb (k + 1) mb)
    have hE := hEb.setCell (p := ⟨b2, 1, none⟩) hb2' (.slice fb (k + 1) mb)
    have hap := hap2
    go_wp2
    refine Ql ?_
    refine Qt (by kernel_rfl) ?_
    generalize World.setCell vb _ _ = vc at *
    generalize va.heap.size = szv1 at *
    clear f0 z0 z1 lz HBb H3b hown hOb hEb hap2 va
    obtain ⟨q0, q1⟩ := H3.c2
    have lq := H3.lt
    have hnz' : Hid (∀ i, i < k + 1 → (f i).n ≠ 0) := fun i hi => by
     by_cases e : i = k
     ·subst e; exact h0
     ·exact hnz.out i (by omega)
    clear hnz h0 h0b HR RA Z0 hok
    go_wp2
    exact ⟨⟨k + 1, by omega, by go_num, rfl, hnz', _, _, hE, HB, hU, hD, hap⟩, by simp [intOf]; omega⟩
  ·obtain rfl : k = n := by omega
   obtain ⟨F1, c1, rfl⟩ := Q9 hU
   obtain ⟨F2, c2, rfl⟩ := Q9 hD
   obtain ⟨F3, c3, hf1, ra, hc1, hc1', hn1, _⟩ := W7 (f := Q7 fun i => (f i).n.natAbs) (sz := 1) (fun _ => rfl) hU
   obtain ⟨F4, c4, hf2, rb, hc2, hc2', hn2, _⟩ := W7 (f := Q7 fun i => (f i).d.natAbs) (sz := 1) (fun _ => rfl) hD
   obtain ⟨rfl, rfl⟩ : F1 = F3 ∧ c1 = c3 := by simpa using hf1
   obtain ⟨rfl, rfl⟩ : F2 = F4 ∧ c2 = c4 := by simpa using hf2
   have NR := fun w h1 h2 => Ov F1 F2 k k c1 c2 (fun i => (f i).n.natAbs) (fun i => (f i).d.natAbs) (Ur f k) w h1 h2 hn1 hn2 hn hn (fun i hi => by have := hnz.out i hi; omega) (fun i hi => by have := Zo (hok i hi); omega) (fun i hi => by have := Zo (hok i hi); omega) (fun i hi => by have := Zo (hok i hi); omega)
   rw [show Ja (Ur f k) (upTo (fun i => (f i).n.natAbs) k) (upTo (fun i => (f i).d.natAbs) k) = R from HR.out.symm] at NR
   obtain ⟨k0, k1⟩ := HB.c2
   have lk := HB.lt
   clear hf1 hf2 hc1 hc2 hc1' hc2' hn1 hn2 hnz hok HR hU hD hap RA Z0
   obtain ⟨⟨Rn, Rd⟩, Re⟩ := R
   go_wp2_with (go_at_call 135; (with_reducible refine Calls.mono (NR _ ra rb) ?_); rintro e w2 ⟨rfl, h2⟩; have B3 := B1.ext (hE.trans h2); have f0 := B3.frozen 0; have f1 := B3.frozen 1; obtain ⟨x0, x1⟩ := B3.c2; have lx := B3.lt)
   have H4 := Qk B3 (.int .i64 Rn) (.int .i64 Rd)
   have EF := (((E.trans hE).trans h2).setCell (p := ⟨b1, 0, none⟩) hb1' (.int .i64 Rn)).setCell (p := ⟨b1, 1, none⟩) hb1' (.int .i64 Rd)
   obtain ⟨y0, y1⟩ := H4.c2
   go_wp2
   refine bodyPost_ret (v := .tuple #[.agg #[.int .i64 Rn, .int .i64 Rd], .int .i64 Re]) (by simp [results, Tryz.results103, go_sem, y0, y1]) rfl ⟨rfl, EF⟩
def Rt.In (r : Rt) : Prop := -9223372036854775808 ≤ r.n ∧ r.n ≤ 9223372036854775807 ∧ -9223372036854775808 ≤ r.d ∧ r.d ≤ 9223372036854775807
theorem Ty {r : Rt} (h : r.ok = true) : r.In := by have := Zo h; unfold Rt.In; omega
theorem Ud {w : World} {b n sz : Nat} {t : TypeId} {f : Nat → List Value} (hf : ∀ i, (f i).length = sz) (h : Qb w b t (Qy f n).toArray) : Qn w (some ⟨b, 0, none⟩) n sz f := fun _ => by
 refine ⟨b, 0, rfl, h.lt, fun i j v hi hv => ?_⟩
 have hj : j < sz := by have := (List.getElem?_eq_some_iff.1 hv).1; rwa [hf] at this
 rw [show (0 : Nat) + i * sz + j = i * sz + j by omega, h.cell, List.getElem?_toArray, W4 hf hi hj, hv]
theorem Lr (A : Option Addr) (n ca : Nat) (f : Nat → Rt) (w : World) (hA : Qn w A n 2 (Ym f)) (hn : n ≤ 9223372036854775807) (hin : ∀ i, i < n → (f i).In) :
  Calls Tryz.prog 72 #[.slice A n ca] w fun e w' => e = .returned (.bool ((List.range n).all fun i => (f i).nn)) ∧ Qa w w' := by
 obtain ⟨R, hR0⟩ := Qg ((List.range n).all fun i => (f i).nn)
 rw [← hR0]
 have HR := Lib.hid hR0
 clear hR0
 go_enter Tryz.func72, Tryz.ntmps72
 go_upto_region 2 with (fail)
 go_loopw [7] (fun i wr => ∃ k : Nat, k ≤ n ∧ i = .int .i64 k ∧ Hid (∀ j, j < k → (f j).nn = true) ∧ Qa w wr) (fun i _ => n - (intOf i).toNat)
 case atStart => exact ⟨0, Nat.zero_le _, rfl, (fun j h => absurd h (by omega)), Qa.refl _⟩
 case round =>
  obtain ⟨k, hk, rfl, hall, hE⟩ := hrel
  obtain ⟨wo, rfl⟩ := Qg wr
  by_cases hlt : k < n
  ·obtain ⟨b, off, rfl, hb, hc⟩ := (hA.ext hE) (by omega)
   have c0 : wo.cell? ⟨b, off + k * 2, none⟩ = some (.int .i64 (f k).n) := by simpa [Ym] using hc k 0 _ hlt rfl
   have c1 : wo.cell? ⟨b, off + k * 2 + 1, none⟩ = some (.int .i64 (f k).d) := by simpa [Ym] using hc k 1 _ hlt rfl
   obtain ⟨h1, h2, h3, h4⟩ := hin k hlt
   have NR := fun w => Wa (f k).n (f k).d h1 h2 h3 h4 w
   have hno : Hid ((f k).nn = false → R = false) := fun h => by
    rw [HR.out]
    exact List.all_eq_false.2 ⟨k, by simpa using hlt, by simp [h]⟩
   have hyes : Hid ((f k).nn = true → ∀ j, j < k + 1 → (f j).nn = true) := fun h j hj => by
    by_cases e : j = k
    ·subst e; exact h
    ·exact hall.out j (by omega)
   have hnn : Hid ((f k).nn = (Rt.ok ⟨(f k).n, (f k).d⟩ && decide (0 ≤ (f k).n))) := rfl
   clear hc hin hA h1 h2 h3 h4 hall HR
   go_upto_region 4 with (fail)
   obtain ⟨v3, hv⟩ := Qg (wo.alloc (.cells #[.int .i64 (f k).n, .int .i64 (f k).d] 73))
   rw [← hv]
   have E3 : Qa wo v3 := by rw [hv]; exact (Qa.refl _).alloc _
   have H3 : Qb v3 wo.heap.size 73 #[.int .i64 (f k).n, .int .i64 (f k).d] := by rw [hv]; exact Qb.new _ _ _
   clear hv c0 c1
   replace hE := hE.trans E3
   generalize wo.heap.size = b3 at *
   clear E3
   obtain ⟨q0, q1⟩ := H3.c2
   have lq := H3.lt
   generalize Rt.ok ⟨(f k).n, (f k).d⟩ = ok at *
   cases ok
   ·go_wp2_with (go_at_call 102; (with_reducible refine Calls.mono (NR _) ?_); rintro e w2 ⟨rfl, h⟩)
    go_ret
    exact ⟨by rw [hno.out (by rw [hnn.out]; rfl)]; rfl, hE.trans h⟩
   ·by_cases h0 : (f k).n < 0
    ·have g1 : decide ((f k).n < 0) = true := decide_eq_true h0
     have g2 : decide (0 ≤ (f k).n) = false := decide_eq_false (by omega)
     have hx := hno.out (by rw [hnn.out, g2]; rfl)
     clear h0 g2
     go_wp2_with (go_at_call 102; (with_reducible refine Calls.mono (NR _) ?_); rintro e w2 ⟨rfl, h⟩; clear q0 q1 lq; obtain ⟨q0, q1⟩ := (H3.ext h).c2; have lq := (H3.ext h).lt)
     go_ret
     exact ⟨by rw [hx]; rfl, hE.trans h⟩
    ·have g1 : decide ((f k).n < 0) = false := decide_eq_false h0
     have g2 : decide (0 ≤ (f k).n) = true := decide_eq_true (by omega)
     have hx := Lib.hid (hyes.out (by rw [hnn.out, g2]; rfl))
     clear h0 g2
     go_wp2_with (go_at_call 102; (with_reducible refine Calls.mono (NR _) ?_); rintro e w2 ⟨rfl, h⟩; clear q0 q1 lq; obtain ⟨q0, q1⟩ := (H3.ext h).c2; have lq := (H3.ext h).lt)
     exact ⟨⟨k + 1, by omega, by go_num, hx, hE.trans h⟩, by simp [intOf]; omega⟩
  ·obtain rfl : k = n := by omega
   have hx : R = true := by
    rw [HR.out]
    exact List.all_eq_true.2 fun j hj => hall.out j (by simpa using hj)
   clear HR hall hin hA
   go_wp2
   go_ret
   exact ⟨by rw [hx]; rfl, hE⟩
theorem Su (A : Option Addr) (n ca : Nat) (f : Nat → Rt) (w : World) (hA : Qn w A n 2 (Ym f)) (hn0 : n ≤ 9223372036854775807) (hin : ∀ i, i < n → (f i).In) (hZ : Zv w) :
  Calls Tryz.prog 73 #[.slice A n ca] w fun e w' => e = .returned (.tuple #[.agg #[.int .i64 (J5 f n).1.n, .int .i64 (J5 f n).1.d], .int .i64 (J5 f n).2]) ∧ Qa w w' := by
 obtain ⟨R, hR0⟩ := Qg (J5 f n)
 rw [← hR0]
 have HR := Lib.hid hR0
 clear hR0
 go_enter Tryz.func73, Tryz.ntmps73
 go_upto_region 1 with (fail)
 obtain ⟨v, hv⟩ := Qg (w.alloc (.cells #[.int .i64 0, .int .i64 0] 73))
 rw [← hv]
 have E : Qa w v := by rw [hv]; exact (Qa.refl _).alloc _
 have B1 : Qb v w.heap.size 73 #[.int .i64 0, .int .i64 0] := by rw [hv]; exact (Qb.new _ _ _)
 clear hv
 obtain ⟨b1, hb1⟩ := Qg (w.heap.size)
 rw [← hb1] at B1 ⊢
 have hbr : w.heap.size ≤ b1 := by omega
 clear hb1
 have RA := hA.ext E
 have Z0 := hZ.ext E
 clear hA hZ
 by_cases h64 : 64 < n
 ·have g1 : decide ((64 : Int) < (n : Int)) = true := decide_eq_true (by omega)
  have hr := HR.out
  rw [show J5 f n = (Zb, 3) by unfold J5; rw [if_pos h64]] at hr
  subst hr
  clear HR
  clear h64
  have f0 := B1.frozen 0
  have f1 := B1.frozen 1
  obtain ⟨x0, x1⟩ := B1.c2
  have lx := B1.lt
  have H4 := Qk B1 (.int .i64 0) (.int .i64 0)
  have EF := (E.setCell (p := ⟨b1, 0, none⟩) hbr (.int .i64 0)).setCell (p := ⟨b1, 1, none⟩) hbr (.int .i64 0)
  obtain ⟨y0, y1⟩ := H4.c2
  go_wp2
  refine bodyPost_ret (v := .tuple #[.agg #[.int .i64 0, .int .i64 0], .int .i64 3]) (by simp [results, Tryz.results73, go_sem, y0, y1]) rfl ⟨rfl, EF⟩
 ·have g1 : decide ((64 : Int) < (n : Int)) = false := decide_eq_false (by omega)
  have hn : n ≤ 1000 := by omega
  go_upto_region 4 with (fail)
  go_loopw [12] (fun i wr => ∃ k : Nat, k ≤ n ∧ i = .int .i64 k ∧ Hid (∀ j, j < k → (f j).ok = true) ∧ Qa v wr) (fun i _ => n - (intOf i).toNat)
  case atStart => exact ⟨0, Nat.zero_le _, rfl, (fun j h => absurd h (by omega)), Qa.refl _⟩
  case round =>
   obtain ⟨k, hk, rfl, hall, hE⟩ := hrel
   obtain ⟨wo, rfl⟩ := Qg wr
   replace B1 := B1.ext hE
   by_cases hlt : k < n
   ·obtain ⟨b, off, rfl, hb, hc⟩ := (RA.ext hE) (by omega)
    have c0 : wo.cell? ⟨b, off + k * 2, none⟩ = some (.int .i64 (f k).n) := by simpa [Ym] using hc k 0 _ hlt rfl
    have c1 : wo.cell? ⟨b, off + k * 2 + 1, none⟩ = some (.int .i64 (f k).d) := by simpa [Ym] using hc k 1 _ hlt rfl
    obtain ⟨h1, h2, h3, h4⟩ := hin k hlt
    have NR := fun w => Wa (f k).n (f k).d h1 h2 h3 h4 w
    have hno : Hid ((f k).ok = false → R = (Zb, 2)) := fun h => by
     rw [HR.out]; unfold J5
     rw [if_neg h64, if_neg (by rw [Bool.not_eq_true]; exact List.all_eq_false.2 ⟨k, by simpa using hlt, by simp [h]⟩)]
    have hyes : Hid ((f k).ok = true → ∀ j, j < k + 1 → (f j).ok = true) := fun h j hj => by
     by_cases e : j = k
     ·subst e; exact h
     ·exact hall.out j (by omega)
    have hnn : Hid ((f k).ok = Rt.ok ⟨(f k).n, (f k).d⟩) := rfl
    clear hc hin RA h1 h2 h3 h4 hall HR h64
    go_upto_region 6 with (fail)
    obtain ⟨v3, hv⟩ := Qg (wo.alloc (.cells #[.int .i64 (f k).n, .int .i64 (f k).d] 73))
    rw [← hv]
    have E3 : Qa wo v3 := by rw [hv]; exact (Qa.refl _).alloc _
    have H3 : Qb v3 wo.heap.size 73 #[.int .i64 (f k).n, .int .i64 (f k).d] := by rw [hv]; exact Qb.new _ _ _
    clear hv c0 c1
    replace hE := hE.trans E3
    replace B1 := B1.ext E3
    generalize wo.heap.size = b3 at *
    clear E3
    obtain ⟨q0, q1⟩ := H3.c2
    have lq := H3.lt
    generalize Rt.ok ⟨(f k).n, (f k).d⟩ = ok at *
    cases ok
    ·have hr := hno.out hnn.out
     subst hr
     clear hno hyes hnn
     go_upto_region 7 with (go_at_call 102; (with_reducible refine Calls.mono (NR _) ?_); rintro e w2 ⟨rfl, h⟩)
     replace E := (E.trans hE).trans h
     replace B1 := B1.ext h
     have f0 := B1.frozen 0
     have f1 := B1.frozen 1
     obtain ⟨x0, x1⟩ := B1.c2
     have lx := B1.lt
     have H4 := Qk B1 (.int .i64 0) (.int .i64 0)
     have EF := (E.setCell (p := ⟨b1, 0, none⟩) hbr (.int .i64 0)).setCell (p := ⟨b1, 1, none⟩) hbr (.int .i64 0)
     obtain ⟨y0, y1⟩ := H4.c2
     go_wp2
     refine bodyPost_ret (v := .tuple #[.agg #[.int .i64 0, .int .i64 0], .int .i64 2]) (by simp [results, Tryz.results73, go_sem, y0, y1]) rfl ⟨rfl, EF⟩
    ·have hx := Lib.hid (hyes.out hnn.out)
     clear hno hyes hnn
     go_wp2_with (go_at_call 102; (with_reducible refine Calls.mono (NR _) ?_); rintro e w2 ⟨rfl, h⟩)
     exact ⟨⟨k + 1, by omega, by go_num, hx, hE.trans h⟩, by simp [intOf]; omega⟩
   ·obtain rfl : k = n := by omega
    have NM := fun w h z => Qag A k ca f w h hn (fun i hi => hall.out i hi) z
    rw [show Xd f k = R from by rw [HR.out]; unfold J5; rw [if_neg h64, if_pos (List.all_eq_true.2 fun j hj => hall.out j (by simpa using hj))]] at NM
    clear HR hall hin h64
    have RB := RA.ext hE
    have Z1 := Z0.ext hE
    clear RA Z0
    replace E := E.trans hE
    clear hE
    obtain ⟨⟨Rn, Rd⟩, Re⟩ := R
    go_wp2_with (first | (go_at_call 103; (with_reducible refine Calls.mono (NM _ RB Z1) ?_); rintro e wt ⟨rfl, ht⟩; replace E := E.trans ht; replace B1 := B1.ext ht; have f0 := B1.frozen 0; have f1 := B1.frozen 1; obtain ⟨x0, x1⟩ := B1.c2; have lx := B1.lt))
    have H4 := Qk B1 (.int .i64 Rn) (.int .i64 Rd)
    have EF := (E.setCell (p := ⟨b1, 0, none⟩) hbr (.int .i64 Rn)).setCell (p := ⟨b1, 1, none⟩) hbr (.int .i64 Rd)
    obtain ⟨y0, y1⟩ := H4.c2
    go_wp2
    refine bodyPost_ret (v := .tuple #[.agg #[.int .i64 Rn, .int .i64 Rd], .int .i64 Re]) (by simp [results, Tryz.results73, go_sem, y0, y1]) rfl ⟨rfl, EF⟩
end
section
theorem rt_eq {a b : Rt} (ha : a.ok = true) (hb : b.ok = true) (h : a.n * b.d = b.n * a.d) : a = b := by
 obtain ⟨a1, a2, a3, a4, a5⟩ := Zo ha
 obtain ⟨b1, b2, b3, b4, b5⟩ := Zo hb
 have e0 : a.n.natAbs * b.d.natAbs = b.n.natAbs * a.d.natAbs := by rw [← Int.natAbs_mul, ← Int.natAbs_mul, h]
 obtain ⟨u1, u2⟩ := Rs (P := b.n.natAbs) (Q := b.d.natAbs) (p := a.n.natAbs) (q := a.d.natAbs) (by omega) (by omega) a5 e0
 rw [b5, Nat.div_one] at u1
 rw [b5, Nat.div_one] at u2
 have hd : a.d = b.d := by omega
 have hn : a.n = b.n := by
  rw [hd] at h
  exact Int.eq_of_mul_eq_mul_right (by omega) h
 cases a; cases b
 simp_all
/-- x is N divided by D. -/
def Xb (x : Rt) (N D : Int) : Prop := x.n * D = N * x.d
theorem Sx {n d : Int} (hd : 1 ≤ d) (h : (Je n d).2 = 0) : (Je n d).1.ok = true ∧ Xb (Je n d).1 n d := by
 unfold Je at *
 rw [if_neg (by omega)] at *
 have h2 := Ma (by omega) h
 refine ⟨h2.1, ?_⟩
 unfold Xb
 have e := h2.2
 rw [show ((d.natAbs : Nat) : Int) = d by omega, show decide (d < 0) = false from decide_eq_false (by omega)] at e
 rw [show decide (d < 0) = false from decide_eq_false (by omega)]
 by_cases h0 : n < 0
 ·rw [decide_eq_true h0] at *
  rw [e, if_pos (by decide), show -((n.natAbs : Nat) : Int) = n by omega]
 ·rw [decide_eq_false h0] at *
  rw [e, if_neg (by decide), show ((n.natAbs : Nat) : Int) = n by omega]
theorem M7 {a b : Rt} (h : (Q3 a b).2 = 0) : a.ok = true ∧ b.ok = true ∧ (Q3 a b).1.ok = true ∧ Xb (Q3 a b).1 (a.n * b.d + b.n * a.d) (a.d * b.d) := by
 unfold Q3 at *
 by_cases hh : a.ok && b.ok
 ·rw [if_pos hh] at *
  obtain ⟨h1, h2⟩ := Bool.and_eq_true_iff.1 hh
  have := Sx (Xe h1 h2).2.2.1 h
  exact ⟨h1, h2, this.1, this.2⟩
 ·rw [if_neg hh] at h; exact absurd h (by decide)
theorem Vp {a b : Rt} (h : (Zt a b).2 = 0) : a.ok = true ∧ b.ok = true ∧ (Zt a b).1.ok = true ∧ Xb (Zt a b).1 (a.n * b.d - b.n * a.d) (a.d * b.d) := by
 unfold Zt at *
 by_cases hh : a.ok && b.ok
 ·rw [if_pos hh] at *
  obtain ⟨h1, h2⟩ := Bool.and_eq_true_iff.1 hh
  have := Sx (Xe h1 h2).2.2.1 h
  exact ⟨h1, h2, this.1, this.2⟩
 ·rw [if_neg hh] at h; exact absurd h (by decide)
theorem Kd {a : Int} (h : 0 ≤ a) : ((a.natAbs : Nat) : Int) = a := by omega
theorem Jo {r : Rt} (h : r.nn = true) : r.ok = true ∧ 0 ≤ r.n := by
 simpa [Rt.nn] using h
theorem Ie {p r : Rt} {k : Int} (h : (Zx p r k).2 = 0) :
  p.nn = true ∧ r.nn = true ∧ 0 ≤ k ∧ k ≤ 1099511627776 ∧ (Zx p r k).1.ok = true ∧ Xb (Zx p r k).1 (p.n * r.n * k) (p.d * r.d * 360) := by
 unfold Zx at *
 by_cases hh : p.nn && r.nn
 ·rw [if_pos hh] at *
  obtain ⟨h1, h2⟩ := Bool.and_eq_true_iff.1 hh
  by_cases hk : k < 0 ∨ 1099511627776 < k
  ·rw [if_pos hk] at h; exact absurd h (by decide)
  ·rw [if_neg hk] at *
   obtain ⟨p1, p2⟩ := Jo h1
   obtain ⟨r1, r2⟩ := Jo h2
   have pd := (Zo p1).1
   have rd := (Zo r1).1
   have hneg : Ur (Ys p r k) 4 = false := by
    simp only [Ur, Ys, Zu, decide_eq_false (show ¬ p.n < 0 by omega), decide_eq_false (show ¬ r.n < 0 by omega), decide_eq_false (show ¬ k < 0 by omega)]
    rfl
   have hup : ((upTo (fun i => (Ys p r k i).n.natAbs) 4 : Nat) : Int) = p.n * r.n * k := by
    simp only [upTo, Ys, Zu, Nat.one_mul, Int.natCast_mul, Kd p2, Kd r2, Kd (show 0 ≤ k by omega)]
    simp
   have hdn : ((upTo (fun i => (Ys p r k i).d.natAbs) 4 : Nat) : Int) = p.d * r.d * 360 := by
    simp only [upTo, Ys, Zu, Nat.one_mul, Int.natCast_mul, Kd (show 0 ≤ p.d by omega), Kd (show 0 ≤ r.d by omega)]
    simp
   have hpos : 0 < p.d * r.d * 360 := Int.mul_pos (Int.mul_pos (by omega) (by omega)) (by decide)
   unfold Xd at *
   rw [hneg] at h ⊢
   obtain ⟨o1, o2⟩ := Ma (by omega) h
   refine ⟨h1, h2, by omega, by omega, o1, ?_⟩
   unfold Xb
   rw [hdn] at o2
   rw [o2, if_neg (by decide), hup]
 ·rw [if_neg hh] at h; exact absurd h (by decide)
theorem Cb {a b : Rt} (ha : a.ok = true) (hb : b.ok = true) : Yx a b = (Wy (a.n * b.d) (b.n * a.d), 0) := by
 unfold Yx; rw [ha, hb]; rfl
/-! ### LedgerDoublesFirst -/
theorem dbl_bd {r : Rt} (h : r.pos = true) : 1 ≤ (Xl r).1 ∧ (Xl r).1 ≤ 377487360 ∧ 360 * r.d ≤ (Xl r).1 * r.n ∧ ((Xl r).1 - 1) * r.n < 360 * r.d := by
 unfold Xl
 rw [if_pos h]
 simp only
 obtain ⟨h1, h2⟩ : r.ok = true ∧ 0 < r.n := by simpa [Rt.pos] using h
 obtain ⟨d1, d2, _⟩ := Zo h1
 have e := Int.mul_ediv_add_emod (360 * r.d + r.n - 1) r.n
 have e2 := Int.emod_lt_of_pos (360 * r.d + r.n - 1) h2
 have e3 := Int.emod_nonneg (360 * r.d + r.n - 1) (show r.n ≠ 0 by omega)
 have e4 : (360 * r.d + r.n - 1) / r.n ≤ (360 * r.d + r.n - 1) / 1 := by
  rw [Int.ediv_one]
  refine Int.ediv_le_of_le_mul h2 ?_
  have : (360 * r.d + r.n - 1) * 1 ≤ (360 * r.d + r.n - 1) * r.n := Int.mul_le_mul_of_nonneg_left (by omega) (by omega)
  omega
 generalize (360 * r.d + r.n - 1) / r.n = q at *
 generalize (360 * r.d + r.n - 1) % r.n = s at *
 have e5 : (q - 1) * r.n = r.n * q - r.n := by rw [Int.sub_mul, Int.one_mul, Int.mul_comm]
 have e6 : q * r.n = r.n * q := Int.mul_comm _ _
 have e7 : q ≤ 360 * r.d := by
  rcases Int.lt_or_le (360 * r.d) q with h0 | h0
  ·have : (360 * r.d + 1) * r.n ≤ q * r.n := Int.mul_le_mul_of_nonneg_right (by omega) (by omega)
   have h8 : (360 * r.d) * 1 ≤ (360 * r.d) * r.n := Int.mul_le_mul_of_nonneg_left (by omega) (by omega)
   rw [Int.add_mul] at this
   omega
  ·exact h0
 refine ⟨?_, by omega, by omega, by omega⟩
 rcases Int.lt_or_le 0 q with h0 | h0
 ·omega
 ·have : r.n * q ≤ r.n * 0 := Int.mul_le_mul_of_nonneg_left h0 (by omega)
  omega
/-! ### LedgerInterestLinear -/
theorem intV_d {p r : Rt} (hp : p.ok = true) (hr : r.ok = true) : 0 < p.d * r.d * 360 := by
 have pd := (Zo hp).1
 have rd := (Zo hr).1
 exact Int.mul_pos (Int.mul_pos (by omega) (by omega)) (by decide)
end
section
open Go Go.RowKit Go.Shelf
attribute [local go_sem] Zs
def Vm (p r : Rt) : Nat → Rt
 | 0 => p
 | _ => r
theorem Oh {r : Rt} : ((List.range 1).all fun _ => r.nn) = r.nn := by simp [List.range_succ]
theorem nn_two {p r : Rt} : ((List.range 2).all fun i => (Vm p r i).nn) = (p.nn && r.nn) := by simp [List.range_succ, Vm]
theorem Qbo (r : Rt) : r.pos = (r.nn && decide (0 < r.n)) := by
 unfold Rt.pos Rt.nn
 by_cases h : 0 < r.n
 ·rw [decide_eq_true h, decide_eq_true (show 0 ≤ r.n by omega)]; simp
 ·rw [decide_eq_false h]; simp
theorem Wq {w : World} {b : Nat} {t : TypeId} {r : Rt} (h : Qb w b t #[.int .i64 r.n, .int .i64 r.d]) : Qn w (some ⟨b, 0, none⟩) 1 2 (Ym fun _ => r) := Ud (f := Ym fun _ => r) (n := 1) (fun _ => rfl) h
theorem S0 {w : World} {b : Nat} {t : TypeId} {p r : Rt} (h : Qb w b t #[.int .i64 p.n, .int .i64 p.d, .int .i64 r.n, .int .i64 r.d]) : Qn w (some ⟨b, 0, none⟩) 2 2 (Ym (Vm p r)) := Ud (f := Ym (Vm p r)) (n := 2) (fun _ => rfl) h
theorem rows4 {w : World} {b : Nat} {t : TypeId} {p r : Rt} {k : Int} (h : Qb w b t #[.int .i64 p.n, .int .i64 p.d, .int .i64 r.n, .int .i64 r.d, .int .i64 k, .int .i64 1, .int .i64 1, .int .i64 360]) : Qn w (some ⟨b, 0, none⟩) 4 2 (Ym (Ys p r k)) := Ud (f := Ym (Ys p r k)) (n := 4) (fun _ => rfl) h
theorem G7 {p r : Rt} {k : Int} (hp : p.ok = true) (hr : r.ok = true) (h1 : 0 ≤ k) (h2 : k ≤ 1099511627776) : ∀ i, i < 4 → (Ys p r k i).ok = true := fun i hi => by
 have h3 : i = 0 ∨ i = 1 ∨ i = 2 ∨ i = 3 := by omega
 rcases h3 with rfl | rfl | rfl | rfl
 ·exact hp
 ·exact hr
 ·exact P6 (by omega) h2
 ·exact (by decide : (Rt.mk 1 360).ok = true)
theorem Qbt {f : Nat → Rt} {n : Nat} (hn : ¬ 64 < n) (h : ∀ i, i < n → (f i).ok = true) : J5 f n = Xd f n := by
 unfold J5; rw [if_neg hn, if_pos (List.all_eq_true.2 fun i hi => h i (by simpa using hi))]
theorem Ih (p r : Rt) (k : Int) : Hid (((p.nn && r.nn) = false → Zx p r k = (Zb, 2)) ∧ ((p.nn && r.nn) = true → ((k < 0 ∨ 1099511627776 < k) → Zx p r k = (Zb, 8)) ∧ (¬ k < 0 → ¬ 1099511627776 < k → Zx p r k = Xd (Ys p r k) 4))) := by
 refine Lib.hid ⟨fun h => ?_, fun h => ⟨fun h2 => ?_, fun h2 h3 => ?_⟩⟩
 ·unfold Zx; rw [h]; rfl
 ·unfold Zx; rw [h, if_pos rfl, if_pos h2]
 ·unfold Zx; rw [h, if_pos rfl, if_neg (by omega)]
theorem Y9 (n : Int) (w : World) : Calls Tryz.prog 74 #[.int .i64 n] w fun e w' => e = .returned (.agg #[.int .i64 n, .int .i64 1]) ∧ Qa w w' := by
 go_enter Tryz.func74, Tryz.ntmps74
 go_wp2
 refine bodyPost_ret (v := .agg #[.int .i64 n, .int .i64 1]) (by simp [results, Tryz.results74, go_sem]) rfl ⟨rfl, (by repeat (first | exact Qa.refl _ | (refine Qa.alloc ?_ _) | (refine Qa.trans ?_ (by assumption))))⟩
theorem L4 (r : Rt) (hr : r.In) (w : World) :
  Calls Tryz.prog 75 #[.agg #[.int .i64 r.n, .int .i64 r.d]] w fun e w' => e = .returned (.bool r.pos) ∧ Qa w w' := by
 have NN := fun w b h => Lr (some ⟨b, 0, none⟩) 1 1 (fun _ => r) w h (by decide) (fun i hi => hr)
 rw [Oh] at NN
 have HR : Hid (r.pos = (r.nn && decide (0 < r.n))) := Qbo r
 generalize r.pos = R at *
 generalize r.nn = nn at *
 go_enter Tryz.func75, Tryz.ntmps75
 go_upto_region 1 with (fail)
 obtain ⟨v, hv⟩ := Qg (w.alloc (.cells #[.int .i64 r.n, .int .i64 r.d] 73))
 rw [← hv]
 have E : Qa w v := by rw [hv]; exact (Qa.refl _).alloc _
 have B1 : Qb v w.heap.size 73 #[.int .i64 r.n, .int .i64 r.d] := by rw [hv]; exact (Qb.new _ _ _)
 clear hv
 obtain ⟨b1, hb1⟩ := Qg (w.heap.size)
 rw [← hb1] at B1 ⊢
 have hbr : w.heap.size ≤ b1 := by omega
 clear hb1
 obtain ⟨k0, k1⟩ := B1.c2
 have lk := B1.lt
 cases nn
 ·go_wp2_with (go_at_call 72; (with_reducible refine Calls.mono (NN _ _ (Wq (Qb.new _ _ _))) ?_); rintro e w2 ⟨rfl, h⟩)
  go_ret
  exact ⟨by rw [HR.out]; rfl, (E.alloc _).trans h⟩
 ·by_cases h0 : 0 < r.n
  ·have g1 : decide (0 < r.n) = true := decide_eq_true h0
   clear h0
   go_wp2_with (go_at_call 72; (with_reducible refine Calls.mono (NN _ _ (Wq (Qb.new _ _ _))) ?_); rintro e w2 ⟨rfl, h⟩; replace B1 := (B1.alloc _).ext h; clear k0 k1 lk; obtain ⟨k0, k1⟩ := B1.c2; have lk := B1.lt)
   go_ret
   exact ⟨by rw [HR.out, g1]; rfl, (E.alloc _).trans h⟩
  ·have g1 : decide (0 < r.n) = false := decide_eq_false h0
   clear h0
   go_wp2_with (go_at_call 72; (with_reducible refine Calls.mono (NN _ _ (Wq (Qb.new _ _ _))) ?_); rintro e w2 ⟨rfl, h⟩; replace B1 := (B1.alloc _).ext h; clear k0 k1 lk; obtain ⟨k0, k1⟩ := B1.c2; have lk := B1.lt)
   go_ret
   exact ⟨by rw [HR.out, g1]; rfl, (E.alloc _).trans h⟩
theorem Ko (r : Rt) (hr : r.In) (w : World) :
  Calls Tryz.prog 82 #[.agg #[.int .i64 r.n, .int .i64 r.d]] w fun e w' => e = .returned (.bool r.shr) ∧ Qa w w' := by
 have NN := fun w b h => Lr (some ⟨b, 0, none⟩) 1 1 (fun _ => r) w h (by decide) (fun i hi => hr)
 rw [Oh] at NN
 have HR : Hid (r.shr = (r.nn && decide (r.n ≤ r.d))) := rfl
 generalize r.shr = R at *
 generalize r.nn = nn at *
 go_enter Tryz.func82, Tryz.ntmps82
 go_upto_region 1 with (fail)
 obtain ⟨v, hv⟩ := Qg (w.alloc (.cells #[.int .i64 r.n, .int .i64 r.d] 73))
 rw [← hv]
 have E : Qa w v := by rw [hv]; exact (Qa.refl _).alloc _
 have B1 : Qb v w.heap.size 73 #[.int .i64 r.n, .int .i64 r.d] := by rw [hv]; exact (Qb.new _ _ _)
 clear hv
 obtain ⟨b1, hb1⟩ := Qg (w.heap.size)
 rw [← hb1] at B1 ⊢
 have hbr : w.heap.size ≤ b1 := by omega
 clear hb1
 obtain ⟨k0, k1⟩ := B1.c2
 have lk := B1.lt
 cases nn
 ·go_wp2_with (go_at_call 72; (with_reducible refine Calls.mono (NN _ _ (Wq (Qb.new _ _ _))) ?_); rintro e w2 ⟨rfl, h⟩)
  go_ret
  exact ⟨by rw [HR.out]; rfl, (E.alloc _).trans h⟩
 ·by_cases h0 : r.n ≤ r.d
  ·have g1 : decide (r.n ≤ r.d) = true := decide_eq_true h0
   clear h0
   go_wp2_with (go_at_call 72; (with_reducible refine Calls.mono (NN _ _ (Wq (Qb.new _ _ _))) ?_); rintro e w2 ⟨rfl, h⟩; replace B1 := (B1.alloc _).ext h; clear k0 k1 lk; obtain ⟨k0, k1⟩ := B1.c2; have lk := B1.lt)
   go_ret
   exact ⟨by rw [HR.out, g1]; rfl, (E.alloc _).trans h⟩
  ·have g1 : decide (r.n ≤ r.d) = false := decide_eq_false h0
   clear h0
   go_wp2_with (go_at_call 72; (with_reducible refine Calls.mono (NN _ _ (Wq (Qb.new _ _ _))) ?_); rintro e w2 ⟨rfl, h⟩; replace B1 := (B1.alloc _).ext h; clear k0 k1 lk; obtain ⟨k0, k1⟩ := B1.c2; have lk := B1.lt)
   go_ret
   exact ⟨by rw [HR.out, g1]; rfl, (E.alloc _).trans h⟩
theorem Cy (r : Rt) (hr : r.In) (w : World) :
  Calls Tryz.prog 36 #[.agg #[.int .i64 r.n, .int .i64 r.d]] w fun e w' => e = .returned (.tuple #[.int .i64 (Xl r).1, .int .i64 (Xl r).2]) ∧ Qa w w' := by
 have NP := fun w => L4 r hr w
 cases hp : r.pos
 ·have HR : Xl r = (0, 2) := by unfold Xl; rw [hp]; rfl
  rw [HR]
  simp only [hp] at NP
  clear hp HR
  go_enter Tryz.func36, Tryz.ntmps36
  go_upto_region 1 with (fail)
  obtain ⟨v, hv⟩ := Qg (w.alloc (.cells #[.int .i64 r.n, .int .i64 r.d] 73))
  rw [← hv]
  have E : Qa w v := by rw [hv]; exact (Qa.refl _).alloc _
  have B1 : Qb v w.heap.size 73 #[.int .i64 r.n, .int .i64 r.d] := by rw [hv]; exact (Qb.new _ _ _)
  clear hv
  obtain ⟨b1, hb1⟩ := Qg (w.heap.size)
  rw [← hb1] at B1 ⊢
  have hbr : w.heap.size ≤ b1 := by omega
  clear hb1
  obtain ⟨k0, k1⟩ := B1.c2
  have lk := B1.lt
  go_wp2_with (go_at_call 75; (with_reducible refine Calls.mono (NP _) ?_); rintro e w2 ⟨rfl, h⟩)
  go_ret2
  exact ⟨rfl, E.trans h⟩
 ·have HR : Xl r = ((360 * r.d + r.n - 1) / r.n, 0) := by unfold Xl; rw [hp]; rfl
  have HB := Lib.hid (dbl_bd hp)
  rw [HR] at HB ⊢
  simp only [hp] at NP
  obtain ⟨ho, hn⟩ : r.ok = true ∧ 0 < r.n := by simpa [Rt.pos] using hp
  obtain ⟨d1, d2, n1, n2, _⟩ := Zo ho
  have w1 : IntKind.i64.wrap (360 * r.d) = 360 * r.d := Zq (by omega) (by omega)
  have w2 : IntKind.i64.wrap (360 * r.d + r.n) = 360 * r.d + r.n := Zq (by omega) (by omega)
  have w3 : IntKind.i64.wrap (360 * r.d + r.n - 1) = 360 * r.d + r.n - 1 := Zq (by omega) (by omega)
  have w4 : IntKind.i64.wrap ((360 * r.d + r.n - 1).tdiv r.n) = (360 * r.d + r.n - 1) / r.n := by
   rw [Int.tdiv_eq_ediv_of_nonneg (by omega)]
   have := HB.out
   exact Zq (by omega) (by omega)
  have w5 : (r.n == 0) = false := beq_eq_false_iff_ne.2 (by omega)
  have w6 : r.n ≠ 0 := by omega
  clear hp HR HB ho hn d1 d2 n1 n2
  go_enter Tryz.func36, Tryz.ntmps36
  go_upto_region 1 with (fail)
  obtain ⟨v, hv⟩ := Qg (w.alloc (.cells #[.int .i64 r.n, .int .i64 r.d] 73))
  rw [← hv]
  have E : Qa w v := by rw [hv]; exact (Qa.refl _).alloc _
  have B1 : Qb v w.heap.size 73 #[.int .i64 r.n, .int .i64 r.d] := by rw [hv]; exact (Qb.new _ _ _)
  clear hv
  obtain ⟨b1, hb1⟩ := Qg (w.heap.size)
  rw [← hb1] at B1 ⊢
  have hbr : w.heap.size ≤ b1 := by omega
  clear hb1
  obtain ⟨k0, k1⟩ := B1.c2
  have lk := B1.lt
  go_wp2_with (go_at_call 75; (with_reducible refine Calls.mono (NP _) ?_); rintro e w2 ⟨rfl, h⟩; replace B1 := B1.ext h; clear k0 k1 lk; obtain ⟨k0, k1⟩ := B1.c2; have lk := B1.lt)
  go_ret2
  exact ⟨rfl, E.trans h⟩
theorem Fp (p r : Rt) (k : Int) (hp : p.In) (hr : r.In) (hk1 : -9223372036854775808 ≤ k) (hk2 : k ≤ 9223372036854775807) (w : World) (hZ : Zv w) :
  Calls Tryz.prog 34 #[.agg #[.int .i64 p.n, .int .i64 p.d], .agg #[.int .i64 r.n, .int .i64 r.d], .int .i64 k] w fun e w' => e = .returned (.tuple #[.agg #[.int .i64 (Zx p r k).1.n, .int .i64 (Zx p r k).1.d], .int .i64 (Zx p r k).2]) ∧ Qa w w' := by
 have NN := fun w b h => Lr (some ⟨b, 0, none⟩) 2 2 (Vm p r) w h (by decide) (fun i hi => by unfold Vm; split; exact hp; exact hr)
 rw [nn_two] at NN
 have HI := Ih p r k
 obtain ⟨R, hR0⟩ := Qg (Zx p r k)
 rw [← hR0]
 have HR := Lib.hid hR0
 clear hR0
 rw [show Zx p r k = R from HR.out.symm] at HI
 clear HR
 go_enter Tryz.func34, Tryz.ntmps34
 go_upto_region 1 with (fail)
 obtain ⟨v, hv⟩ := Qg (((w.alloc (.cells #[.int .i64 p.n, .int .i64 p.d] 73)).alloc (.cells #[.int .i64 r.n, .int .i64 r.d] 73)).alloc (.cells #[.int .i64 0, .int .i64 0] 73))
 rw [← hv]
 have E : Qa w v := by rw [hv]; exact (((Qa.refl _).alloc _).alloc _).alloc _
 have B1 : Qb v w.heap.size 73 #[.int .i64 p.n, .int .i64 p.d] := by rw [hv]; exact ((Qb.new _ _ _).alloc _).alloc _
 have B2 : Qb v (w.heap.size + 1) 73 #[.int .i64 r.n, .int .i64 r.d] := by rw [hv]; exact (Qb.at _ _ _ _ (by simp)).alloc _
 have B3 : Qb v (w.heap.size + 1 + 1) 73 #[.int .i64 0, .int .i64 0] := by rw [hv]; exact Qb.at _ _ _ _ (by simp)
 clear hv
 obtain ⟨b3, hb3⟩ := Qg (w.heap.size + 1 + 1)
 rw [← hb3] at B3 ⊢
 obtain ⟨b2, hb2⟩ := Qg (w.heap.size + 1)
 rw [← hb2] at B2 ⊢
 obtain ⟨b1, hb1⟩ := Qg (w.heap.size)
 rw [← hb1] at B1 ⊢
 have hbr : w.heap.size ≤ b3 := by omega
 have hbr1 : w.heap.size ≤ b1 := by omega
 have hbr2 : w.heap.size ≤ b2 := by omega
 have hn21 : b2 ≠ b1 := by omega
 have hn31 : b3 ≠ b1 := by omega
 have hn32 : b3 ≠ b2 := by omega
 clear hb1 hb2 hb3
 have Z0 := hZ.ext E
 clear hZ
 obtain ⟨k0, k1⟩ := B1.c2
 have lk := B1.lt
 obtain ⟨p0, p1⟩ := B2.c2
 have lp := B2.lt
 cases hnn : (p.nn && r.nn)
 ·rw [hnn] at NN HI
  have hr := HI.out.1 rfl
  subst hr
  clear HI hnn
  go_upto_region 2 with (go_at_call 72; (with_reducible refine Calls.mono (NN _ _ (S0 (Qb.new _ _ _))) ?_); rintro e w2 ⟨rfl, h⟩)
  replace E := (E.alloc _).trans h
  replace B3 := (B3.alloc _).ext h
  have f0 := B3.frozen 0
  have f1 := B3.frozen 1
  obtain ⟨x0, x1⟩ := B3.c2
  have lx := B3.lt
  have H4 := Qk B3 (.int .i64 0) (.int .i64 0)
  have EF := (E.setCell (p := ⟨b3, 0, none⟩) hbr (.int .i64 0)).setCell (p := ⟨b3, 1, none⟩) hbr (.int .i64 0)
  obtain ⟨y0, y1⟩ := H4.c2
  go_wp2
  refine bodyPost_ret (v := .tuple #[.agg #[.int .i64 0, .int .i64 0], .int .i64 2]) (by simp [results, Tryz.results34, go_sem, y0, y1]) rfl ⟨rfl, EF⟩
 ·rw [hnn] at NN HI
  have hI := Lib.hid (HI.out.2 rfl)
  clear HI
  go_upto_region 3 with (go_at_call 72; (with_reducible refine Calls.mono (NN _ _ (S0 (Qb.new _ _ _))) ?_); rintro e w2 ⟨rfl, h⟩)
  replace E := (E.alloc _).trans h
  replace Z0 := (Z0.ext ((Qa.refl _).alloc _)).ext h
  replace B1 := (B1.alloc _).ext h
  replace B2 := (B2.alloc _).ext h
  replace B3 := (B3.alloc _).ext h
  clear h k0 k1 lk p0 p1 lp
  by_cases c1 : k < 0
  ·have g1 : decide (k < 0) = true := decide_eq_true c1
   have hr := hI.out.1 (.inl c1)
   subst hr
   clear hI hnn c1
   have f0 := B3.frozen 0
   have f1 := B3.frozen 1
   obtain ⟨x0, x1⟩ := B3.c2
   have lx := B3.lt
   have H4 := Qk B3 (.int .i64 0) (.int .i64 0)
   have EF := (E.setCell (p := ⟨b3, 0, none⟩) hbr (.int .i64 0)).setCell (p := ⟨b3, 1, none⟩) hbr (.int .i64 0)
   obtain ⟨y0, y1⟩ := H4.c2
   go_wp2
   refine bodyPost_ret (v := .tuple #[.agg #[.int .i64 0, .int .i64 0], .int .i64 8]) (by simp [results, Tryz.results34, go_sem, y0, y1]) rfl ⟨rfl, EF⟩
  ·have g1 : decide (k < 0) = false := decide_eq_false c1
   by_cases c2 : 1099511627776 < k
   ·have g2 : decide (1099511627776 < k) = true := decide_eq_true c2
    have hr := hI.out.1 (.inr c2)
    subst hr
    clear hI hnn c1 c2
    have f0 := B3.frozen 0
    have f1 := B3.frozen 1
    obtain ⟨x0, x1⟩ := B3.c2
    have lx := B3.lt
    have H4 := Qk B3 (.int .i64 0) (.int .i64 0)
    have EF := (E.setCell (p := ⟨b3, 0, none⟩) hbr (.int .i64 0)).setCell (p := ⟨b3, 1, none⟩) hbr (.int .i64 0)
    obtain ⟨y0, y1⟩ := H4.c2
    go_wp2
    refine bodyPost_ret (v := .tuple #[.agg #[.int .i64 0, .int .i64 0], .int .i64 8]) (by simp [results, Tryz.results34, go_sem, y0, y1]) rfl ⟨rfl, EF⟩
   ·have g2 : decide (1099511627776 < k) = false := decide_eq_false c2
    obtain ⟨np, nr⟩ := Bool.and_eq_true_iff.1 hnn
    have hok : ∀ i, i < 4 → (Ys p r k i).ok = true := G7 (Jo np).1 (Jo nr).1 (by omega) (by omega)
    have NP := fun w b h z => Su (some ⟨b, 0, none⟩) 4 4 (Ys p r k) w h (by decide) (fun i hi => Ty (hok i hi)) z
    rw [Qbt (by decide) hok, show Xd (Ys p r k) 4 = R from (hI.out.2 (by omega) (by omega)).symm] at NP
    clear hI hnn np nr hok c1 c2
    obtain ⟨⟨Rn, Rd⟩, Re⟩ := R
    go_upto_region 5 with (fail)
    refine Zk 11 [9, 10] (fun x => Qa w2 x) Qo rfl ?_
    intro vz hvz
    have HC := hvz
    refine Qp (g := 7) [0, 1, 2, 4] [_, _, _, _] ⟨rfl, rfl, rfl, rfl, trivial⟩ (by kernel_rfl) (by kernel_rfl) HC ?_
    simp only [Qc, Qd, Qe]
    apply Exists.intro
    refine ⟨fun u hu => ?_, ?_⟩
    ·obtain ⟨k0, k1⟩ := (B1.ext hu).c2
     obtain ⟨p0, p1⟩ := (B2.ext hu).c2
     have lk := (B1.ext hu).lt
     have lp := (B2.ext hu).lt
     repeat (first | go_big_quiet_skip | (go_big_quiet_want; go_big_quiet_op; go_big_quiet_on))
     refine wpQuiet_nil ?_
     rfl
    refine Qj 3 rfl (by kernel_rfl) ?_
    simp only [Qc, Qd, Qe]
    go_wp2_with (go_at_call 74; (with_reducible refine Calls.mono (Y9 _ _) ?_); rintro e va ⟨rfl, h4⟩)
    replace HC := HC.trans h4
    clear h4 hvz
    refine Qi HC ?_
    refine Qj 5 rfl (by kernel_rfl) ?_
    simp only [Qc, Qd, Qe]
    go_wp2
    have B5 := rows4 (p := p) (r := r) (k := k) (Qb.new va 73 #[.int .i64 p.n, .int .i64 p.d, .int .i64 r.n, .int .i64 r.d, .int .i64 k, .int .i64 1, .int .i64 1, .int .i64 360])
    replace HC : Qa w2 (va.alloc _) := HC.alloc (.cells #[.int .i64 p.n, .int .i64 p.d, .int .i64 r.n, .int .i64 r.d, .int .i64 k, .int .i64 1, .int .i64 1, .int .i64 360] 73)
    generalize va.heap.size = b5 at *
    generalize World.alloc va _ = vd at *
    clear va
    refine Qi HC ?_
    refine Qj 6 rfl (by kernel_rfl) ?_
    simp only [Qc, Qd, Qe]
    go_wp2_with (go_at_call 73; (with_reducible refine Calls.mono (NP _ _ B5 (Z0.ext HC)) ?_); rintro e vb ⟨rfl, h4⟩)
    replace HC := HC.trans h4
    clear h4 B5 NP
    refine Qi HC ?_
    refine Qp (g := 2) [7, 8] [_, _] ⟨rfl, rfl, trivial⟩ (by kernel_rfl) (by kernel_rfl) HC ?_
    simp only [Qc, Qd, Qe]
    apply Exists.intro
    refine ⟨fun u hu => ?_, ?_⟩
    ·skip
     repeat (first | go_big_quiet_skip | (go_big_quiet_want; go_big_quiet_op; go_big_quiet_on))
     refine wpQuiet_nil ?_
     rfl
    replace B3 := B3.ext HC
    replace E := E.trans HC
    refine Qm 9 rfl (by kernel_rfl) ?_
    simp only [Qc, Qd, Qe]
    have f0 := B3.frozen 0
    have f1 := B3.frozen 1
    obtain ⟨x0, x1⟩ := B3.c2
    have lx := B3.lt
    have H4 := Qk B3 (.int .i64 Rn) (.int .i64 Rd)
    have EF := (E.setCell (p := ⟨b3, 0, none⟩) hbr (.int .i64 Rn)).setCell (p := ⟨b3, 1, none⟩) hbr (.int .i64 Rd)
    obtain ⟨y0, y1⟩ := H4.c2
    go_wp2
    refine Ql ?_
    refine Qm 10 rfl (by kernel_rfl) ?_
    simp only [Qc, Qd, Qe]
    go_wp2
    refine Ql ?_
    refine Qt (by kernel_rfl) ?_
    go_wp2
    refine bodyPost_ret (v := .tuple #[.agg #[.int .i64 Rn, .int .i64 Rd], .int .i64 Re]) (by simp [results, Tryz.results34, go_sem, y0, y1]) rfl ⟨rfl, EF⟩
end
end Go.Proofs.YtneiofnlmblglaaGreatDoor
