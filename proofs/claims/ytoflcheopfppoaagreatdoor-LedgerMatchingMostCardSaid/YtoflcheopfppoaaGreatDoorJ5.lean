/- Walks of the program's functions and plain facts, packed; proved: the lemmas below; no conditions but those that each states. -/
import Derived.Test.YtoflcheopfppoaaGreatDoorJ4
set_option maxRecDepth 100000
set_option maxHeartbeats 4000000
namespace Go.Proofs.YtoflcheopfppoaaGreatDoor
section
open Go Go.RowKit Go.Shelf
attribute [local go_sem] Zq
/-- From w to w' no old block changes but those of S. -/
structure Qy (S : List Nat) (w w' : World) : Prop where
 base : ∀ B, B ≤ w.heap.size → (∀ k, k ∈ S → B ≤ k) → Below B w w'
 keep : ∀ k, k < w.heap.size → k ∉ S → w'.heap[k]? = w.heap[k]?
 size : w.heap.size ≤ w'.heap.size
namespace Qy
variable {S T : List Nat} {a b c W : World}
theorem of_ext (h : Qa a b) : Qy S a b := ⟨fun _ hB _ => Below.mono h hB, fun _ hk _ => h.block hk, h.size⟩
theorem refl (a : World) : Qy S a a := of_ext (Qa.refl a)
theorem trans (h : Qy S a b) (k : Qy S b c) : Qy S a c :=
 ⟨fun B hB hS => Below.trans (h.base B hB hS) (k.base B (Nat.le_trans hB h.size) hS), fun j hj hjS => (k.keep j (Nat.lt_of_lt_of_le hj h.size) hjS).trans (h.keep j hj hjS), Nat.le_trans h.size k.size⟩
theorem set (a : World) {b : Nat} (hb : b ∈ S) (j : Nat) (u : Value) : Qy S a (a.setCell ⟨b, j, none⟩ u) :=
 ⟨fun B hB hS => Below.setCell (Below.refl B a) (p := ⟨b, j, none⟩) (hS b hb) u, fun k _ hk => Below.heap_setCell _ _ _ k (fun e => hk (by have e' : k = b := e; rw [e']; exact hb)), (KeepsWalks.setCell a _ u).size⟩
theorem mono (h : Qy S a b) (hs : ∀ k, k ∈ S → k ∈ T) : Qy T a b := ⟨fun B hB hT => h.base B hB fun k hk => hT k (hs k hk), fun k hk hkT => h.keep k hk fun h' => hkT (hs k h'), h.size⟩
theorem ext (h : Qy S a b) (e : Qa W a) (hS : ∀ k, k ∈ S → W.heap.size ≤ k) : Qa W b := Below.trans e (h.base W.heap.size e.size hS)
theorem held (h : Qy S a b) {k : Nat} {t : TypeId} {cs : Array Value} (hk : Qb a k t cs) (hS : k ∉ S) : Qb b k t cs := (h.keep k hk.lt hS).trans hk
/-- Stores into a box that is younger than a. -/
theorem far1 (h : Qy S a b) {k : Nat} (hk : a.heap.size ≤ k) (j : Nat) (u : Value) : Qy S a (b.setCell ⟨k, j, none⟩ u) :=
 ⟨fun B hB hS => Below.setCell (h.base B hB hS) (p := ⟨k, j, none⟩) (Nat.le_trans hB hk) u, fun i hi hiS => (Below.heap_setCell _ _ _ i (fun e => by have e' : i = k := e; omega)).trans (h.keep i hi hiS), Nat.le_trans h.size (KeepsWalks.setCell b _ u).size⟩
theorem far (h : Qy S a b) {k : Nat} (hk : a.heap.size ≤ k) (i j : Nat) (u v : Value) : Qy S a ((b.setCell ⟨k, i, none⟩ u).setCell ⟨k, j, none⟩ v) := (h.far1 hk i u).far1 hk j v
end Qy
theorem Xc {W w : World} (h : Qa W w) (t : TypeId) (cs : Array Value) : ∃ b, b = w.heap.size ∧ Qb (w.alloc (.cells cs t)) b t cs ∧ Qa W (w.alloc (.cells cs t)) ∧ W.heap.size ≤ b := ⟨_, rfl, Qb.new w t cs, h.alloc _, h.size⟩
def S3 (A : Nat → Act) (S : World → Nat → Prop) : Exit → Act → World → Prop := fun e a' w' => e = .normal ∧ ∃ r, S w' r ∧ a' = A r
theorem J8 {A : Nat → Act} {S : World → Nat → Prop} {w' : World} (r : Nat) {a' : Act} (h : S w' r) (ha : a' = A r) : S3 A S .normal a' w' := ⟨rfl, r, h, ha⟩
theorem Vf {P : Program} {c : Code} {Q : Exit → Act → World → Prop} {a : Act} {w : World} {A : Nat → Act} (S : World → Nat → Prop) (h1 : c.wp P (S3 A S) a w) (h2 : ∀ r w', S w' r → Q .normal (A r) w') : c.wp P Q a w :=
 Code.wp_mono (fun e a' w' ⟨he, r, hs, ha⟩ => by subst he; subst ha; exact h2 r w' hs) h1
section
variable {W : World} {b : Nat} {t : TypeId} {v0 v1 v2 v3 v4 v5 : Value}
theorem Fa (h : Qb W b t #[v0, v1, v2, v3, v4, v5]) (u0 u1 : Value) : Qb ((W.setCell ⟨b, 0, none⟩ u0).setCell ⟨b, 1, none⟩ u1) b t #[u0, u1, v2, v3, v4, v5] := by unfold Qb at h ⊢; simp [World.setCell, Array.getElem?_modify, h]
theorem Nc (h : Qb W b t #[v0, v1, v2, v3, v4, v5]) (u0 u1 : Value) : Qb ((W.setCell ⟨b, 2, none⟩ u0).setCell ⟨b, 3, none⟩ u1) b t #[v0, v1, u0, u1, v4, v5] := by unfold Qb at h ⊢; simp [World.setCell, Array.getElem?_modify, h]
theorem Qcc (h : Qb W b t #[v0, v1, v2, v3, v4, v5]) (u0 u1 : Value) : Qb ((W.setCell ⟨b, 4, none⟩ u0).setCell ⟨b, 5, none⟩ u1) b t #[v0, v1, v2, v3, u0, u1] := by unfold Qb at h ⊢; simp [World.setCell, Array.getElem?_modify, h]
theorem Pv (h : Qb W b t #[v0, v1, v2, v3]) (u0 u1 u2 u3 : Value) : Qb ((((W.setCell ⟨b, 0, none⟩ u0).setCell ⟨b, 1, none⟩ u1).setCell ⟨b, 2, none⟩ u2).setCell ⟨b, 3, none⟩ u3) b t #[u0, u1, u2, u3] := by unfold Qb at h ⊢; simp [World.setCell, Array.getElem?_modify, h]
end
theorem Od {neg : Bool} {P Q : Nat} (hQ : 1 ≤ Q) : (Jk neg P Q).1.In := by
 by_cases h : (Jk neg P Q).2 = 0
 ·exact Bj (Oe hQ h).1
 ·unfold Jk at h ⊢
  by_cases hb : P / Nat.gcd P Q ≤ 1099511627776 ∧ Q / Nat.gcd P Q ≤ 1048576
  ·rw [if_pos hb] at h; exact absurd rfl h
  ·rw [if_neg hb]; unfold Rt.In Zd; decide
theorem Yx : Zd.In := by unfold Rt.In Zd; decide
theorem Uc : (Zy 0).In := by unfold Rt.In Zy; decide
theorem Cl {n d : Int} (hd : 1 ≤ d) : (Jq n d).1.In := by unfold Jq; rw [if_neg (by omega)]; exact Od (by omega)
theorem Vq (a b : Rt) : (Q4 a b).1.In := by
 unfold Q4
 by_cases h : a.ok && b.ok
 ·rw [if_pos h]; obtain ⟨h1, h2⟩ := Bool.and_eq_true_iff.1 h; exact Cl (Xu h1 h2).2.2.1
 ·rw [if_neg h]; exact Yx
theorem Ad (a b : Rt) : (Zs a b).1.In := by
 unfold Zs
 by_cases h : a.ok && b.ok
 ·rw [if_pos h]; obtain ⟨h1, h2⟩ := Bool.and_eq_true_iff.1 h; exact Cl (Xu h1 h2).2.2.1
 ·rw [if_neg h]; exact Yx
theorem Qcp (p r : Rt) (k : Int) : (Z5 p r k).1.In := by
 unfold Z5
 by_cases h : p.nn && r.nn
 ·rw [if_pos h]
  obtain ⟨h1, h2⟩ := Bool.and_eq_true_iff.1 h
  by_cases hk : k < 0 ∨ 1099511627776 < k
  ·rw [if_pos hk]; exact Yx
  ·rw [if_neg hk]
   exact Od (V9 4 fun i hi => by have := (Zo (Pg (k := k) (J4 h1).1 (J4 h2).1 (by omega) (by omega) i hi)).1; omega)
 ·rw [if_neg h]; exact Yx
theorem N8 {x n : Rt} : (Qz x n).1.1.In ∧ (Qz x n).1.2.In := by
 unfold Qz
 split
 ·exact ⟨Ad _ _, Uc⟩
 ·exact ⟨Uc, Ad _ _⟩
structure Db.In (x : Db) : Prop where
 p : x.p.In
 i : x.i.In
 s : x.s.In
theorem Y8 (r : Rt) (f ee : Int) (be : Nat) (w : World) (hE : Qb w be 29 #[.int .i64 ee]) :
  Calls Tryz.prog 117 #[.agg #[.int .i64 r.n, .int .i64 r.d], .int .i64 f, .pointer (some ⟨be, 0, none⟩)] w fun e w' => e = .returned (.agg #[.int .i64 r.n, .int .i64 r.d]) ∧ Qy [be] w w' ∧ Qb w' be 29 #[.int .i64 (if ee = 0 then f else ee)] := by
 by_cases h0 : ee = 0
 ·have g1 : (ee == 0) = true := by rw [h0]; rfl
  rw [if_pos h0]
  subst h0
  go_enter Tryz.func117, Tryz.ntmps117
  go_upto_region 1 with (fail)
  obtain ⟨v, hv⟩ := Qg ((w.alloc (.cells #[.int .i64 r.n, .int .i64 r.d] 65)).alloc (.cells #[.int .i64 0, .int .i64 0] 65))
  rw [← hv]
  have E : Qa w v := by rw [hv]; exact ((Qa.refl _).alloc _).alloc _
  have B1 : Qb v w.heap.size 65 #[.int .i64 r.n, .int .i64 r.d] := by rw [hv]; exact (Qb.new _ _ _).alloc _
  have B2 : Qb v (w.heap.size + 1) 65 #[.int .i64 0, .int .i64 0] := by rw [hv]; exact Qb.at _ _ _ _ (by simp)
  clear hv
  obtain ⟨b2, hb2⟩ := Qg (w.heap.size + 1)
  rw [← hb2] at B2 ⊢
  obtain ⟨b1, hb1⟩ := Qg (w.heap.size)
  rw [← hb1] at B1 ⊢
  have hbr : w.heap.size ≤ b2 := by omega
  have hbr1 : w.heap.size ≤ b1 := by omega
  have hn21 : b2 ≠ b1 := by omega
  clear hb1 hb2
  have H1 := hE.ext E
  have hne : b2 ≠ be := by have := hE.lt; omega
  obtain ⟨k0, k1⟩ := B1.c2
  have lk := B1.lt
  have f9 := H1.frozen 0
  have k9 := H1.c1
  have l9 := H1.lt
  have H5 : Qb (v.setCell ⟨be, 0, none⟩ (.int .i64 f)) be 29 #[.int .i64 f] := by unfold Qb at H1 ⊢; simp [World.setCell, Array.getElem?_modify, H1]
  have O1 : Qy [be] w (v.setCell ⟨be, 0, none⟩ (.int .i64 f)) := (Qy.of_ext E).trans (Qy.set v (List.mem_singleton.2 rfl) 0 _)
  have B22 := Qi B2 hne 0 (.int .i64 f)
  have B12 := Qi B1 (show b1 ≠ be by have := hE.lt; have := hbr1; omega) 0 (.int .i64 f)
  go_upto_region 3 with (fail)
  generalize World.setCell v _ _ = vq at *
  clear f9 k9 l9 k0 k1 lk
  obtain ⟨k0, k1⟩ := B12.c2
  have lk := B12.lt
  have f0 := B22.frozen 0
  have f1 := B22.frozen 1
  obtain ⟨x0, x1⟩ := B22.c2
  have lx := B22.lt
  have H4 := Qn B22 (.int .i64 r.n) (.int .i64 r.d)
  have HF := Qi (Qi H5 (Ne.symm hne) 0 (.int .i64 r.n)) (Ne.symm hne) 1 (.int .i64 r.d)
  have OF : Qy [be] w ((vq.setCell ⟨b2, 0, none⟩ (.int .i64 r.n)).setCell ⟨b2, 1, none⟩ (.int .i64 r.d)) := O1.far (by omega) 0 1 _ _
  obtain ⟨y0, y1⟩ := H4.c2
  go_wp2
  refine bodyPost_ret (v := .agg #[.int .i64 r.n, .int .i64 r.d]) (by simp [results, Tryz.results117, go_sem, y0, y1]) rfl ⟨rfl, OF, HF⟩
 ·have g1 : (ee == 0) = false := beq_eq_false_iff_ne.2 h0
  rw [if_neg h0]
  go_enter Tryz.func117, Tryz.ntmps117
  go_upto_region 1 with (fail)
  obtain ⟨v, hv⟩ := Qg ((w.alloc (.cells #[.int .i64 r.n, .int .i64 r.d] 65)).alloc (.cells #[.int .i64 0, .int .i64 0] 65))
  rw [← hv]
  have E : Qa w v := by rw [hv]; exact ((Qa.refl _).alloc _).alloc _
  have B1 : Qb v w.heap.size 65 #[.int .i64 r.n, .int .i64 r.d] := by rw [hv]; exact (Qb.new _ _ _).alloc _
  have B2 : Qb v (w.heap.size + 1) 65 #[.int .i64 0, .int .i64 0] := by rw [hv]; exact Qb.at _ _ _ _ (by simp)
  clear hv
  obtain ⟨b2, hb2⟩ := Qg (w.heap.size + 1)
  rw [← hb2] at B2 ⊢
  obtain ⟨b1, hb1⟩ := Qg (w.heap.size)
  rw [← hb1] at B1 ⊢
  have hbr : w.heap.size ≤ b2 := by omega
  have hbr1 : w.heap.size ≤ b1 := by omega
  have hn21 : b2 ≠ b1 := by omega
  clear hb1 hb2
  have H1 := hE.ext E
  have hne : b2 ≠ be := by have := hE.lt; omega
  obtain ⟨k0, k1⟩ := B1.c2
  have lk := B1.lt
  have k9 := H1.c1
  have l9 := H1.lt
  have O1 : Qy [be] w v := Qy.of_ext E
  have f0 := B2.frozen 0
  have f1 := B2.frozen 1
  obtain ⟨x0, x1⟩ := B2.c2
  have lx := B2.lt
  have H4 := Qn B2 (.int .i64 r.n) (.int .i64 r.d)
  have HF := Qi (Qi H1 (Ne.symm hne) 0 (.int .i64 r.n)) (Ne.symm hne) 1 (.int .i64 r.d)
  have OF : Qy [be] w ((v.setCell ⟨b2, 0, none⟩ (.int .i64 r.n)).setCell ⟨b2, 1, none⟩ (.int .i64 r.d)) := O1.far (by omega) 0 1 _ _
  obtain ⟨y0, y1⟩ := H4.c2
  go_wp2
  refine bodyPost_ret (v := .agg #[.int .i64 r.n, .int .i64 r.d]) (by simp [results, Tryz.results117, go_sem, y0, y1]) rfl ⟨rfl, OF, HF⟩
theorem Qe5 (X : Db) (n : Rt) (hx : X.i.In) (hn : n.In) (bd : Nat) (w : World) (hD : Qb w bd 72 #[.int .i64 X.p.n, .int .i64 X.p.d, .int .i64 X.i.n, .int .i64 X.i.d, .int .i64 X.s.n, .int .i64 X.s.d]) (hZ : Zu w) :
  Calls Tryz.prog 119 #[.pointer (some ⟨bd, 2, none⟩), .agg #[.int .i64 n.n, .int .i64 n.d]] w fun e w' => e = .returned (.tuple #[.agg #[.int .i64 (Qz X.i n).1.2.n, .int .i64 (Qz X.i n).1.2.d], .int .i64 (Qz X.i n).2]) ∧ Qy [bd] w w' ∧ Qb w' bd 72 #[.int .i64 X.p.n, .int .i64 X.p.d, .int .i64 (Qz X.i n).1.1.n, .int .i64 (Qz X.i n).1.1.d, .int .i64 X.s.n, .int .i64 X.s.d] := by
 have NL := fun w => De n X.i hn hx w
 have N1 := fun w z => Mj X.i n hx hn w z
 have N2 := fun w z => Mj n X.i hn hx w z
 have HP : Hid ((Qz X.i n) = if (Xb n X.i).1 < 0 then (((Zs X.i n).1, Zy 0), (Zs X.i n).2) else ((Zy 0, (Zs n X.i).1), (Zs n X.i).2)) := rfl
 obtain ⟨R, hR0⟩ := Qg (Qz X.i n)
 rw [← hR0] at HP ⊢
 clear hR0
 obtain ⟨cb, hcb⟩ := Qg (decide ((Xb n X.i).1 < 0))
 rw [← hcb] at NL
 replace hcb := Lib.hid hcb
 go_enter Tryz.func119, Tryz.ntmps119
 go_upto_region 1 with (fail)
 obtain ⟨v, hv⟩ := Qg ((w.alloc (.cells #[.int .i64 n.n, .int .i64 n.d] 65)).alloc (.cells #[.int .i64 0, .int .i64 0] 65))
 rw [← hv]
 have E : Qa w v := by rw [hv]; exact ((Qa.refl _).alloc _).alloc _
 have B1 : Qb v w.heap.size 65 #[.int .i64 n.n, .int .i64 n.d] := by rw [hv]; exact (Qb.new _ _ _).alloc _
 have B2 : Qb v (w.heap.size + 1) 65 #[.int .i64 0, .int .i64 0] := by rw [hv]; exact Qb.at _ _ _ _ (by simp)
 clear hv
 obtain ⟨b2, hb2⟩ := Qg (w.heap.size + 1)
 rw [← hb2] at B2 ⊢
 obtain ⟨b1, hb1⟩ := Qg (w.heap.size)
 rw [← hb1] at B1 ⊢
 have hbr : w.heap.size ≤ b2 := by omega
 have hbr1 : w.heap.size ≤ b1 := by omega
 have hn21 : b2 ≠ b1 := by omega
 clear hb1 hb2
 have HD := hD.ext E
 have Z0 := hZ.ext E
 have hdw := hD.lt
 have hdn : ∀ b, w.heap.size ≤ b → bd ≠ b := fun b h => by omega
 obtain ⟨k0, k1⟩ := B1.c2
 have lk := B1.lt
 obtain ⟨d0, d1, d2, d3, d4, d5⟩ := HD.c6
 have ld := HD.lt
 go_upto_region 1 with (fail)
 refine Zb v Qq (by kernel_rfl) (by repeat (first | exact Qa.refl _ | (refine Qa.alloc ?_ _) | (refine Qa.trans ?_ (by assumption)))) ?_
 intro hne hrx hry
 try simp only []
 try simp only [List.append_eq, List.cons_append, List.nil_append]
 skip
 repeat (first
  | go_big_quiet_skip
  | (go_big_quiet_want; go_big_quiet_op; go_big_quiet_on)
  | (go_big_quiet_want; go_big_quiet_op; apply Exists.intro; refine ⟨fun u => ?_, ?_⟩
     ·first
       | (go_at_call 160; (with_reducible refine Calls.mono (NL _) ?_); rintro e w' ⟨rfl, hb⟩; exact ⟨rfl, u.back hb⟩)
     go_big_quiet_on))
 clear hne hry hrx
 refine wpQuiet_nil ?_
 intro w2 h2
 obtain ⟨hcw2, hfw2, hzw2⟩ := Qa.rules h2
 try simp only [World.size_alloc] at hzw2
 obtain ⟨hcbw2, hfbw2, hzbw2⟩ := Qa.rules (show Qa v w2 from (by repeat (first | exact Qa.refl _ | (refine Qa.alloc ?_ _) | (refine Qa.trans ?_ (by assumption)))))
 clear hcw2 hfw2
 replace E := E.trans h2
 replace B1 := B1.ext h2
 replace B2 := B2.ext h2
 replace HD := HD.ext h2
 have Z3 := Z0.ext h2
 clear k0 k1 lk d0 d1 d2 d3 d4 d5 ld Z0 hD hZ NL
 cases cb
 ·have hR := HP.out
  rw [if_neg (of_decide_eq_false hcb.out.symm)] at hR
  clear HP hcb N1
  generalize Zs n X.i = S at *
  obtain ⟨⟨Sn, Sd⟩, Se⟩ := S
  subst hR
  go_upto_region 5 with (fail)
  apply Vf (S := fun w' b => Qa w2 w' ∧ w2.heap.size ≤ b ∧ Qb w' b 65 #[.int .i64 Sn, .int .i64 Sd])
  ·refine Q1 11 [6, 7, 9, 10] (fun x => Qa w2 x) Qq rfl ?_
   intro vz hvz
   have HC := hvz
   refine Qr (g := 7) [0, 1, 2, 3] [_, _, _, _] ⟨rfl, rfl, rfl, rfl, trivial⟩ (by kernel_rfl) (by kernel_rfl) HC ?_
   simp only [Qc, Qd, Qe]
   apply Exists.intro
   refine ⟨fun u hu => ?_, ?_⟩
   ·obtain ⟨k0, k1⟩ := (B1.ext hu).c2
    have lk := (B1.ext hu).lt
    obtain ⟨d0, d1, d2, d3, d4, d5⟩ := (HD.ext hu).c6
    have ld := (HD.ext hu).lt
    repeat (first | go_big_quiet_skip | (go_big_quiet_want; go_big_quiet_op; go_big_quiet_on))
    refine wpQuiet_nil ?_
    rfl
   refine Q8 4 8 rfl rfl (by kernel_rfl) ?_ ?_
   ·simp only [Qc, Qd, Qe]
    go_wp2_with (go_at_call 89; (with_reducible refine Calls.mono (N2 _ (Z3.ext HC)) ?_); rintro e wa ⟨rfl, h4⟩)
    replace HC := HC.trans h4
    try replace Q := Q.ext h4
    clear h4
    refine Qh HC ?_
    refine Qr (g := 5) [5] [_] ⟨rfl, trivial⟩ (by kernel_rfl) (by kernel_rfl) HC ?_
    simp only [Qc, Qd, Qe]
    apply Exists.intro
    refine ⟨fun u hu => ?_, ?_⟩
    ·obtain ⟨k0, k1⟩ := (B1.ext hu).c2
     have lk := (B1.ext hu).lt
     obtain ⟨d0, d1, d2, d3, d4, d5⟩ := (HD.ext hu).c6
     have ld := (HD.ext hu).lt
     repeat (first | go_big_quiet_skip | (go_big_quiet_want; go_big_quiet_op; go_big_quiet_on))
     refine wpQuiet_nil ?_
     rfl
    refine Jw (g := 3) [6, 7] [_, _] ⟨rfl, rfl, trivial⟩ (by kernel_rfl) (by kernel_rfl) ?_
    simp only [Qc, Qd, Qe]
    apply Exists.intro
    refine ⟨fun u hu => ?_, ?_⟩
    ·repeat (first | go_big_quiet_skip | (go_big_quiet_want; go_big_quiet_op; go_big_quiet_on))
     refine wpQuiet_nil ?_
     rfl
    refine Qk 8 rfl (by kernel_rfl) ?_
    simp only [Qc, Qd, Qe]
    go_wp2
    obtain ⟨bq, hbq, Q, HC', hge⟩ := Xc HC 65 #[.int .i64 0, .int .i64 0]
    rw [← hbq]
    clear hbq
    replace HC := HC'
    clear HC'
    refine Qh HC ?_
    refine Qm 9 rfl (by kernel_rfl) ?_
    simp only [Qc, Qd, Qe]
    have f0 := Q.frozen 0
    have f1 := Q.frozen 1
    obtain ⟨z0, z1⟩ := Q.c2
    have lz := Q.lt
    have Q2 := Qn Q (.int .i64 Sn) (.int .i64 Sd)
    have HE2 := (HC.setCell (p := ⟨bq, 0, none⟩) hge (.int .i64 Sn)).setCell (p := ⟨bq, 1, none⟩) hge (.int .i64 Sd)
    go_wp2
    refine Ql ?_
    refine Qm 10 rfl (by kernel_rfl) ?_
    simp only [Qc, Qd, Qe]
    go_wp2
    refine Ql ?_
    refine Qs (by kernel_rfl) ?_
    exact J8 bq ⟨HE2, hge, Q2⟩ rfl
   ·simp only [Qc, Qd, Qe]
    go_wp2
    obtain ⟨bq, hbq, Q, HC', hge⟩ := Xc HC 65 #[.int .i64 0, .int .i64 0]
    rw [← hbq]
    clear hbq
    replace HC := HC'
    clear HC'
    refine Qh HC ?_
    refine Qk 4 rfl (by kernel_rfl) ?_
    simp only [Qc, Qd, Qe]
    go_wp2_with (go_at_call 89; (with_reducible refine Calls.mono (N2 _ (Z3.ext HC)) ?_); rintro e wa ⟨rfl, h4⟩)
    replace HC := HC.trans h4
    try replace Q := Q.ext h4
    clear h4
    refine Qh HC ?_
    refine Qr (g := 4) [5] [_] ⟨rfl, trivial⟩ (by kernel_rfl) (by kernel_rfl) HC ?_
    simp only [Qc, Qd, Qe]
    apply Exists.intro
    refine ⟨fun u hu => ?_, ?_⟩
    ·obtain ⟨k0, k1⟩ := (B1.ext hu).c2
     have lk := (B1.ext hu).lt
     obtain ⟨d0, d1, d2, d3, d4, d5⟩ := (HD.ext hu).c6
     have ld := (HD.ext hu).lt
     repeat (first | go_big_quiet_skip | (go_big_quiet_want; go_big_quiet_op; go_big_quiet_on))
     refine wpQuiet_nil ?_
     rfl
    refine Jw (g := 2) [6, 7] [_, _] ⟨rfl, rfl, trivial⟩ (by kernel_rfl) (by kernel_rfl) ?_
    simp only [Qc, Qd, Qe]
    apply Exists.intro
    refine ⟨fun u hu => ?_, ?_⟩
    ·repeat (first | go_big_quiet_skip | (go_big_quiet_want; go_big_quiet_op; go_big_quiet_on))
     refine wpQuiet_nil ?_
     rfl
    refine Qm 9 rfl (by kernel_rfl) ?_
    simp only [Qc, Qd, Qe]
    have f0 := Q.frozen 0
    have f1 := Q.frozen 1
    obtain ⟨z0, z1⟩ := Q.c2
    have lz := Q.lt
    have Q2 := Qn Q (.int .i64 Sn) (.int .i64 Sd)
    have HE2 := (HC.setCell (p := ⟨bq, 0, none⟩) hge (.int .i64 Sn)).setCell (p := ⟨bq, 1, none⟩) hge (.int .i64 Sd)
    go_wp2
    refine Ql ?_
    refine Qm 10 rfl (by kernel_rfl) ?_
    simp only [Qc, Qd, Qe]
    go_wp2
    refine Ql ?_
    refine Qs (by kernel_rfl) ?_
    exact J8 bq ⟨HE2, hge, Q2⟩ rfl
  rintro b6 w3 ⟨E3, hg6, H6⟩
  have hw2 := E.size
  replace HD := HD.ext E3
  replace B2 := B2.ext E3
  replace E := E.trans E3
  have OD : Qy [bd] w w3 := Qy.of_ext E
  clear E3 B1 N2 Z3
  obtain ⟨r0, r1⟩ := H6.c2
  have lr := H6.lt
  have f0 := HD.frozen 2
  have f1 := HD.frozen 3
  obtain ⟨d0, d1, d2, d3, d4, d5⟩ := HD.c6
  have ld := HD.lt
  have HD2 := Nc HD (.int .i64 0) (.int .i64 1)
  have OD2 := (OD.trans (Qy.set w3 (List.mem_singleton.2 rfl) 2 (.int .i64 0))).trans (Qy.set _ (List.mem_singleton.2 rfl) 3 (.int .i64 1))
  have B22 := Qi (Qi B2 (Ne.symm (hdn b2 hbr)) 2 (.int .i64 0)) (Ne.symm (hdn b2 hbr)) 3 (.int .i64 1)
  have H62 := Qi (Qi H6 (Ne.symm (hdn b6 (by omega))) 2 (.int .i64 0)) (Ne.symm (hdn b6 (by omega))) 3 (.int .i64 1)
  clear f0 f1 d0 d1 d2 d3 d4 d5 ld r0 r1 lr HD2 OD2 B22 H62
  go_upto_region 6 with (fail)
  go_upto_region 7 with (go_at_call 72; (with_reducible refine Calls.mono (Xm _ _) ?_); rintro e wa ⟨rfl, h4⟩; replace HD := HD.ext h4; replace B2 := B2.ext h4; replace H6 := H6.ext h4; replace OD := OD.trans (Qy.of_ext h4); have HD2 := Nc HD (.int .i64 0) (.int .i64 1); have OD2 := (OD.trans (Qy.set _ (List.mem_singleton.2 rfl) 2 (.int .i64 0))).trans (Qy.set _ (List.mem_singleton.2 rfl) 3 (.int .i64 1)); have B22 := Qi (Qi B2 (Ne.symm (hdn b2 hbr)) 2 (.int .i64 0)) (Ne.symm (hdn b2 hbr)) 3 (.int .i64 1); have H62 := Qi (Qi H6 (Ne.symm (hdn b6 (by omega))) 2 (.int .i64 0)) (Ne.symm (hdn b6 (by omega))) 3 (.int .i64 1); have f0 := HD.frozen 2; have f1 := HD.frozen 3; obtain ⟨d0, d1, d2, d3, d4, d5⟩ := HD.c6; have ld := HD.lt)
  generalize World.setCell _ _ _ = w4 at *
  clear f0 f1 d0 d1 d2 d3 d4 d5 ld B2 H6 HD OD h4
  have hw4 : w.heap.size ≤ b2 := hbr
  obtain ⟨r0, r1⟩ := H62.c2
  have lr := H62.lt
  have f0 := B22.frozen 0
  have f1 := B22.frozen 1
  obtain ⟨x0, x1⟩ := B22.c2
  have lx := B22.lt
  have H4 := Qn B22 (.int .i64 Sn) (.int .i64 Sd)
  have OF := OD2.far hbr 0 1 (.int .i64 Sn) (.int .i64 Sd)
  have HF := Qi (Qi HD2 (hdn b2 hbr) 0 (.int .i64 Sn)) (hdn b2 hbr) 1 (.int .i64 Sd)
  obtain ⟨y0, y1⟩ := H4.c2
  go_wp2
  refine bodyPost_ret (v := .tuple #[.agg #[.int .i64 Sn, .int .i64 Sd], .int .i64 Se]) (by simp [results, Tryz.results119, go_sem, y0, y1]) rfl ⟨rfl, OF, HF⟩
 ·have hR := HP.out
  rw [if_pos (of_decide_eq_true hcb.out.symm)] at hR
  clear HP hcb N2
  generalize Zs X.i n = S at *
  obtain ⟨⟨Sn, Sd⟩, Se⟩ := S
  subst hR
  go_upto_region 2 with (fail)
  apply Vf (S := fun w' b => Qa w2 w' ∧ w2.heap.size ≤ b ∧ Qb w' b 65 #[.int .i64 Sn, .int .i64 Sd])
  ·refine Q1 11 [6, 7, 9, 10] (fun x => Qa w2 x) Qq rfl ?_
   intro vz hvz
   have HC := hvz
   refine Qr (g := 7) [0, 1, 2, 3] [_, _, _, _] ⟨rfl, rfl, rfl, rfl, trivial⟩ (by kernel_rfl) (by kernel_rfl) HC ?_
   simp only [Qc, Qd, Qe]
   apply Exists.intro
   refine ⟨fun u hu => ?_, ?_⟩
   ·obtain ⟨k0, k1⟩ := (B1.ext hu).c2
    have lk := (B1.ext hu).lt
    obtain ⟨d0, d1, d2, d3, d4, d5⟩ := (HD.ext hu).c6
    have ld := (HD.ext hu).lt
    repeat (first | go_big_quiet_skip | (go_big_quiet_want; go_big_quiet_op; go_big_quiet_on))
    refine wpQuiet_nil ?_
    rfl
   refine Q8 4 8 rfl rfl (by kernel_rfl) ?_ ?_
   ·simp only [Qc, Qd, Qe]
    go_wp2_with (go_at_call 89; (with_reducible refine Calls.mono (N1 _ (Z3.ext HC)) ?_); rintro e wa ⟨rfl, h4⟩)
    replace HC := HC.trans h4
    try replace Q := Q.ext h4
    clear h4
    refine Qh HC ?_
    refine Qr (g := 5) [5] [_] ⟨rfl, trivial⟩ (by kernel_rfl) (by kernel_rfl) HC ?_
    simp only [Qc, Qd, Qe]
    apply Exists.intro
    refine ⟨fun u hu => ?_, ?_⟩
    ·obtain ⟨k0, k1⟩ := (B1.ext hu).c2
     have lk := (B1.ext hu).lt
     obtain ⟨d0, d1, d2, d3, d4, d5⟩ := (HD.ext hu).c6
     have ld := (HD.ext hu).lt
     repeat (first | go_big_quiet_skip | (go_big_quiet_want; go_big_quiet_op; go_big_quiet_on))
     refine wpQuiet_nil ?_
     rfl
    refine Jw (g := 3) [6, 7] [_, _] ⟨rfl, rfl, trivial⟩ (by kernel_rfl) (by kernel_rfl) ?_
    simp only [Qc, Qd, Qe]
    apply Exists.intro
    refine ⟨fun u hu => ?_, ?_⟩
    ·repeat (first | go_big_quiet_skip | (go_big_quiet_want; go_big_quiet_op; go_big_quiet_on))
     refine wpQuiet_nil ?_
     rfl
    refine Qk 8 rfl (by kernel_rfl) ?_
    simp only [Qc, Qd, Qe]
    go_wp2
    obtain ⟨bq, hbq, Q, HC', hge⟩ := Xc HC 65 #[.int .i64 0, .int .i64 0]
    rw [← hbq]
    clear hbq
    replace HC := HC'
    clear HC'
    refine Qh HC ?_
    refine Qm 9 rfl (by kernel_rfl) ?_
    simp only [Qc, Qd, Qe]
    have f0 := Q.frozen 0
    have f1 := Q.frozen 1
    obtain ⟨z0, z1⟩ := Q.c2
    have lz := Q.lt
    have Q2 := Qn Q (.int .i64 Sn) (.int .i64 Sd)
    have HE2 := (HC.setCell (p := ⟨bq, 0, none⟩) hge (.int .i64 Sn)).setCell (p := ⟨bq, 1, none⟩) hge (.int .i64 Sd)
    go_wp2
    refine Ql ?_
    refine Qm 10 rfl (by kernel_rfl) ?_
    simp only [Qc, Qd, Qe]
    go_wp2
    refine Ql ?_
    refine Qs (by kernel_rfl) ?_
    exact J8 bq ⟨HE2, hge, Q2⟩ rfl
   ·simp only [Qc, Qd, Qe]
    go_wp2
    obtain ⟨bq, hbq, Q, HC', hge⟩ := Xc HC 65 #[.int .i64 0, .int .i64 0]
    rw [← hbq]
    clear hbq
    replace HC := HC'
    clear HC'
    refine Qh HC ?_
    refine Qk 4 rfl (by kernel_rfl) ?_
    simp only [Qc, Qd, Qe]
    go_wp2_with (go_at_call 89; (with_reducible refine Calls.mono (N1 _ (Z3.ext HC)) ?_); rintro e wa ⟨rfl, h4⟩)
    replace HC := HC.trans h4
    try replace Q := Q.ext h4
    clear h4
    refine Qh HC ?_
    refine Qr (g := 4) [5] [_] ⟨rfl, trivial⟩ (by kernel_rfl) (by kernel_rfl) HC ?_
    simp only [Qc, Qd, Qe]
    apply Exists.intro
    refine ⟨fun u hu => ?_, ?_⟩
    ·obtain ⟨k0, k1⟩ := (B1.ext hu).c2
     have lk := (B1.ext hu).lt
     obtain ⟨d0, d1, d2, d3, d4, d5⟩ := (HD.ext hu).c6
     have ld := (HD.ext hu).lt
     repeat (first | go_big_quiet_skip | (go_big_quiet_want; go_big_quiet_op; go_big_quiet_on))
     refine wpQuiet_nil ?_
     rfl
    refine Jw (g := 2) [6, 7] [_, _] ⟨rfl, rfl, trivial⟩ (by kernel_rfl) (by kernel_rfl) ?_
    simp only [Qc, Qd, Qe]
    apply Exists.intro
    refine ⟨fun u hu => ?_, ?_⟩
    ·repeat (first | go_big_quiet_skip | (go_big_quiet_want; go_big_quiet_op; go_big_quiet_on))
     refine wpQuiet_nil ?_
     rfl
    refine Qm 9 rfl (by kernel_rfl) ?_
    simp only [Qc, Qd, Qe]
    have f0 := Q.frozen 0
    have f1 := Q.frozen 1
    obtain ⟨z0, z1⟩ := Q.c2
    have lz := Q.lt
    have Q2 := Qn Q (.int .i64 Sn) (.int .i64 Sd)
    have HE2 := (HC.setCell (p := ⟨bq, 0, none⟩) hge (.int .i64 Sn)).setCell (p := ⟨bq, 1, none⟩) hge (.int .i64 Sd)
    go_wp2
    refine Ql ?_
    refine Qm 10 rfl (by kernel_rfl) ?_
    simp only [Qc, Qd, Qe]
    go_wp2
    refine Ql ?_
    refine Qs (by kernel_rfl) ?_
    exact J8 bq ⟨HE2, hge, Q2⟩ rfl
  rintro b6 w3 ⟨E3, hg6, H6⟩
  have hw2 := E.size
  replace HD := HD.ext E3
  replace B2 := B2.ext E3
  replace E := E.trans E3
  have OD : Qy [bd] w w3 := Qy.of_ext E
  clear E3 B1 N1 Z3
  obtain ⟨r0, r1⟩ := H6.c2
  have lr := H6.lt
  have f0 := HD.frozen 2
  have f1 := HD.frozen 3
  obtain ⟨d0, d1, d2, d3, d4, d5⟩ := HD.c6
  have ld := HD.lt
  have HD2 := Nc HD (.int .i64 Sn) (.int .i64 Sd)
  have OD2 := (OD.trans (Qy.set w3 (List.mem_singleton.2 rfl) 2 (.int .i64 Sn))).trans (Qy.set _ (List.mem_singleton.2 rfl) 3 (.int .i64 Sd))
  have B22 := Qi (Qi B2 (Ne.symm (hdn b2 hbr)) 2 (.int .i64 Sn)) (Ne.symm (hdn b2 hbr)) 3 (.int .i64 Sd)
  have H62 := Qi (Qi H6 (Ne.symm (hdn b6 (by omega))) 2 (.int .i64 Sn)) (Ne.symm (hdn b6 (by omega))) 3 (.int .i64 Sd)
  go_upto_region 4 with (fail)
  generalize World.setCell _ _ _ = w4 at *
  clear f0 f1 d0 d1 d2 d3 d4 d5 ld r0 r1 lr B2 H6 HD OD
  have hw4 : w.heap.size ≤ b2 := hbr
  go_wp2_with (go_at_call 72; (with_reducible refine Calls.mono (Xm _ _) ?_); rintro e w5 ⟨rfl, h5⟩; replace OD2 := OD2.trans (Qy.of_ext h5); replace HD2 := HD2.ext h5; replace B22 := B22.ext h5; have f0 := B22.frozen 0; have f1 := B22.frozen 1; obtain ⟨x0, x1⟩ := B22.c2; have lx := B22.lt)
  have H4 := Qn B22 (.int .i64 0) (.int .i64 1)
  have OF := OD2.far hbr 0 1 (.int .i64 0) (.int .i64 1)
  have HF := Qi (Qi HD2 (hdn b2 hbr) 0 (.int .i64 0)) (hdn b2 hbr) 1 (.int .i64 1)
  obtain ⟨y0, y1⟩ := H4.c2
  go_wp2
  refine bodyPost_ret (v := .tuple #[.agg #[.int .i64 0, .int .i64 1], .int .i64 Se]) (by simp [results, Tryz.results119, go_sem, y0, y1]) rfl ⟨rfl, OF, HF⟩
theorem Qe6 (X : Db) (n : Rt) (hx : X.p.In) (hn : n.In) (bd : Nat) (w : World) (hD : Qb w bd 72 #[.int .i64 X.p.n, .int .i64 X.p.d, .int .i64 X.i.n, .int .i64 X.i.d, .int .i64 X.s.n, .int .i64 X.s.d]) (hZ : Zu w) :
  Calls Tryz.prog 119 #[.pointer (some ⟨bd, 0, none⟩), .agg #[.int .i64 n.n, .int .i64 n.d]] w fun e w' => e = .returned (.tuple #[.agg #[.int .i64 (Qz X.p n).1.2.n, .int .i64 (Qz X.p n).1.2.d], .int .i64 (Qz X.p n).2]) ∧ Qy [bd] w w' ∧ Qb w' bd 72 #[.int .i64 (Qz X.p n).1.1.n, .int .i64 (Qz X.p n).1.1.d, .int .i64 X.i.n, .int .i64 X.i.d, .int .i64 X.s.n, .int .i64 X.s.d] := by
 have NL := fun w => De n X.p hn hx w
 have N1 := fun w z => Mj X.p n hx hn w z
 have N2 := fun w z => Mj n X.p hn hx w z
 have HP : Hid ((Qz X.p n) = if (Xb n X.p).1 < 0 then (((Zs X.p n).1, Zy 0), (Zs X.p n).2) else ((Zy 0, (Zs n X.p).1), (Zs n X.p).2)) := rfl
 obtain ⟨R, hR0⟩ := Qg (Qz X.p n)
 rw [← hR0] at HP ⊢
 clear hR0
 obtain ⟨cb, hcb⟩ := Qg (decide ((Xb n X.p).1 < 0))
 rw [← hcb] at NL
 replace hcb := Lib.hid hcb
 go_enter Tryz.func119, Tryz.ntmps119
 go_upto_region 1 with (fail)
 obtain ⟨v, hv⟩ := Qg ((w.alloc (.cells #[.int .i64 n.n, .int .i64 n.d] 65)).alloc (.cells #[.int .i64 0, .int .i64 0] 65))
 rw [← hv]
 have E : Qa w v := by rw [hv]; exact ((Qa.refl _).alloc _).alloc _
 have B1 : Qb v w.heap.size 65 #[.int .i64 n.n, .int .i64 n.d] := by rw [hv]; exact (Qb.new _ _ _).alloc _
 have B2 : Qb v (w.heap.size + 1) 65 #[.int .i64 0, .int .i64 0] := by rw [hv]; exact Qb.at _ _ _ _ (by simp)
 clear hv
 obtain ⟨b2, hb2⟩ := Qg (w.heap.size + 1)
 rw [← hb2] at B2 ⊢
 obtain ⟨b1, hb1⟩ := Qg (w.heap.size)
 rw [← hb1] at B1 ⊢
 have hbr : w.heap.size ≤ b2 := by omega
 have hbr1 : w.heap.size ≤ b1 := by omega
 have hn21 : b2 ≠ b1 := by omega
 clear hb1 hb2
 have HD := hD.ext E
 have Z0 := hZ.ext E
 have hdw := hD.lt
 have hdn : ∀ b, w.heap.size ≤ b → bd ≠ b := fun b h => by omega
 obtain ⟨k0, k1⟩ := B1.c2
 have lk := B1.lt
 obtain ⟨d0, d1, d2, d3, d4, d5⟩ := HD.c6
 have ld := HD.lt
 go_upto_region 1 with (fail)
 refine Zb v Qq (by kernel_rfl) (by repeat (first | exact Qa.refl _ | (refine Qa.alloc ?_ _) | (refine Qa.trans ?_ (by assumption)))) ?_
 intro hne hrx hry
 try simp only []
 try simp only [List.append_eq, List.cons_append, List.nil_append]
 skip
 repeat (first
  | go_big_quiet_skip
  | (go_big_quiet_want; go_big_quiet_op; go_big_quiet_on)
  | (go_big_quiet_want; go_big_quiet_op; apply Exists.intro; refine ⟨fun u => ?_, ?_⟩
     ·first
       | (go_at_call 160; (with_reducible refine Calls.mono (NL _) ?_); rintro e w' ⟨rfl, hb⟩; exact ⟨rfl, u.back hb⟩)
     go_big_quiet_on))
 clear hne hry hrx
 refine wpQuiet_nil ?_
 intro w2 h2
 obtain ⟨hcw2, hfw2, hzw2⟩ := Qa.rules h2
 try simp only [World.size_alloc] at hzw2
 obtain ⟨hcbw2, hfbw2, hzbw2⟩ := Qa.rules (show Qa v w2 from (by repeat (first | exact Qa.refl _ | (refine Qa.alloc ?_ _) | (refine Qa.trans ?_ (by assumption)))))
 clear hcw2 hfw2
 replace E := E.trans h2
 replace B1 := B1.ext h2
 replace B2 := B2.ext h2
 replace HD := HD.ext h2
 have Z3 := Z0.ext h2
 clear k0 k1 lk d0 d1 d2 d3 d4 d5 ld Z0 hD hZ NL
 cases cb
 ·have hR := HP.out
  rw [if_neg (of_decide_eq_false hcb.out.symm)] at hR
  clear HP hcb N1
  generalize Zs n X.p = S at *
  obtain ⟨⟨Sn, Sd⟩, Se⟩ := S
  subst hR
  go_upto_region 5 with (fail)
  apply Vf (S := fun w' b => Qa w2 w' ∧ w2.heap.size ≤ b ∧ Qb w' b 65 #[.int .i64 Sn, .int .i64 Sd])
  ·refine Q1 11 [6, 7, 9, 10] (fun x => Qa w2 x) Qq rfl ?_
   intro vz hvz
   have HC := hvz
   refine Qr (g := 7) [0, 1, 2, 3] [_, _, _, _] ⟨rfl, rfl, rfl, rfl, trivial⟩ (by kernel_rfl) (by kernel_rfl) HC ?_
   simp only [Qc, Qd, Qe]
   apply Exists.intro
   refine ⟨fun u hu => ?_, ?_⟩
   ·obtain ⟨k0, k1⟩ := (B1.ext hu).c2
    have lk := (B1.ext hu).lt
    obtain ⟨d0, d1, d2, d3, d4, d5⟩ := (HD.ext hu).c6
    have ld := (HD.ext hu).lt
    repeat (first | go_big_quiet_skip | (go_big_quiet_want; go_big_quiet_op; go_big_quiet_on))
    refine wpQuiet_nil ?_
    rfl
   refine Q8 4 8 rfl rfl (by kernel_rfl) ?_ ?_
   ·simp only [Qc, Qd, Qe]
    go_wp2_with (go_at_call 89; (with_reducible refine Calls.mono (N2 _ (Z3.ext HC)) ?_); rintro e wa ⟨rfl, h4⟩)
    replace HC := HC.trans h4
    try replace Q := Q.ext h4
    clear h4
    refine Qh HC ?_
    refine Qr (g := 5) [5] [_] ⟨rfl, trivial⟩ (by kernel_rfl) (by kernel_rfl) HC ?_
    simp only [Qc, Qd, Qe]
    apply Exists.intro
    refine ⟨fun u hu => ?_, ?_⟩
    ·obtain ⟨k0, k1⟩ := (B1.ext hu).c2
     have lk := (B1.ext hu).lt
     obtain ⟨d0, d1, d2, d3, d4, d5⟩ := (HD.ext hu).c6
     have ld := (HD.ext hu).lt
     repeat (first | go_big_quiet_skip | (go_big_quiet_want; go_big_quiet_op; go_big_quiet_on))
     refine wpQuiet_nil ?_
     rfl
    refine Jw (g := 3) [6, 7] [_, _] ⟨rfl, rfl, trivial⟩ (by kernel_rfl) (by kernel_rfl) ?_
    simp only [Qc, Qd, Qe]
    apply Exists.intro
    refine ⟨fun u hu => ?_, ?_⟩
    ·repeat (first | go_big_quiet_skip | (go_big_quiet_want; go_big_quiet_op; go_big_quiet_on))
     refine wpQuiet_nil ?_
     rfl
    refine Qk 8 rfl (by kernel_rfl) ?_
    simp only [Qc, Qd, Qe]
    go_wp2
    obtain ⟨bq, hbq, Q, HC', hge⟩ := Xc HC 65 #[.int .i64 0, .int .i64 0]
    rw [← hbq]
    clear hbq
    replace HC := HC'
    clear HC'
    refine Qh HC ?_
    refine Qm 9 rfl (by kernel_rfl) ?_
    simp only [Qc, Qd, Qe]
    have f0 := Q.frozen 0
    have f1 := Q.frozen 1
    obtain ⟨z0, z1⟩ := Q.c2
    have lz := Q.lt
    have Q2 := Qn Q (.int .i64 Sn) (.int .i64 Sd)
    have HE2 := (HC.setCell (p := ⟨bq, 0, none⟩) hge (.int .i64 Sn)).setCell (p := ⟨bq, 1, none⟩) hge (.int .i64 Sd)
    go_wp2
    refine Ql ?_
    refine Qm 10 rfl (by kernel_rfl) ?_
    simp only [Qc, Qd, Qe]
    go_wp2
    refine Ql ?_
    refine Qs (by kernel_rfl) ?_
    exact J8 bq ⟨HE2, hge, Q2⟩ rfl
   ·simp only [Qc, Qd, Qe]
    go_wp2
    obtain ⟨bq, hbq, Q, HC', hge⟩ := Xc HC 65 #[.int .i64 0, .int .i64 0]
    rw [← hbq]
    clear hbq
    replace HC := HC'
    clear HC'
    refine Qh HC ?_
    refine Qk 4 rfl (by kernel_rfl) ?_
    simp only [Qc, Qd, Qe]
    go_wp2_with (go_at_call 89; (with_reducible refine Calls.mono (N2 _ (Z3.ext HC)) ?_); rintro e wa ⟨rfl, h4⟩)
    replace HC := HC.trans h4
    try replace Q := Q.ext h4
    clear h4
    refine Qh HC ?_
    refine Qr (g := 4) [5] [_] ⟨rfl, trivial⟩ (by kernel_rfl) (by kernel_rfl) HC ?_
    simp only [Qc, Qd, Qe]
    apply Exists.intro
    refine ⟨fun u hu => ?_, ?_⟩
    ·obtain ⟨k0, k1⟩ := (B1.ext hu).c2
     have lk := (B1.ext hu).lt
     obtain ⟨d0, d1, d2, d3, d4, d5⟩ := (HD.ext hu).c6
     have ld := (HD.ext hu).lt
     repeat (first | go_big_quiet_skip | (go_big_quiet_want; go_big_quiet_op; go_big_quiet_on))
     refine wpQuiet_nil ?_
     rfl
    refine Jw (g := 2) [6, 7] [_, _] ⟨rfl, rfl, trivial⟩ (by kernel_rfl) (by kernel_rfl) ?_
    simp only [Qc, Qd, Qe]
    apply Exists.intro
    refine ⟨fun u hu => ?_, ?_⟩
    ·repeat (first | go_big_quiet_skip | (go_big_quiet_want; go_big_quiet_op; go_big_quiet_on))
     refine wpQuiet_nil ?_
     rfl
    refine Qm 9 rfl (by kernel_rfl) ?_
    simp only [Qc, Qd, Qe]
    have f0 := Q.frozen 0
    have f1 := Q.frozen 1
    obtain ⟨z0, z1⟩ := Q.c2
    have lz := Q.lt
    have Q2 := Qn Q (.int .i64 Sn) (.int .i64 Sd)
    have HE2 := (HC.setCell (p := ⟨bq, 0, none⟩) hge (.int .i64 Sn)).setCell (p := ⟨bq, 1, none⟩) hge (.int .i64 Sd)
    go_wp2
    refine Ql ?_
    refine Qm 10 rfl (by kernel_rfl) ?_
    simp only [Qc, Qd, Qe]
    go_wp2
    refine Ql ?_
    refine Qs (by kernel_rfl) ?_
    exact J8 bq ⟨HE2, hge, Q2⟩ rfl
  rintro b6 w3 ⟨E3, hg6, H6⟩
  have hw2 := E.size
  replace HD := HD.ext E3
  replace B2 := B2.ext E3
  replace E := E.trans E3
  have OD : Qy [bd] w w3 := Qy.of_ext E
  clear E3 B1 N2 Z3
  obtain ⟨r0, r1⟩ := H6.c2
  have lr := H6.lt
  have f0 := HD.frozen 0
  have f1 := HD.frozen 1
  obtain ⟨d0, d1, d2, d3, d4, d5⟩ := HD.c6
  have ld := HD.lt
  have HD2 := Fa HD (.int .i64 0) (.int .i64 1)
  have OD2 := (OD.trans (Qy.set w3 (List.mem_singleton.2 rfl) 0 (.int .i64 0))).trans (Qy.set _ (List.mem_singleton.2 rfl) 1 (.int .i64 1))
  have B22 := Qi (Qi B2 (Ne.symm (hdn b2 hbr)) 0 (.int .i64 0)) (Ne.symm (hdn b2 hbr)) 1 (.int .i64 1)
  have H62 := Qi (Qi H6 (Ne.symm (hdn b6 (by omega))) 0 (.int .i64 0)) (Ne.symm (hdn b6 (by omega))) 1 (.int .i64 1)
  clear f0 f1 d0 d1 d2 d3 d4 d5 ld r0 r1 lr HD2 OD2 B22 H62
  go_upto_region 6 with (fail)
  go_upto_region 7 with (go_at_call 72; (with_reducible refine Calls.mono (Xm _ _) ?_); rintro e wa ⟨rfl, h4⟩; replace HD := HD.ext h4; replace B2 := B2.ext h4; replace H6 := H6.ext h4; replace OD := OD.trans (Qy.of_ext h4); have HD2 := Fa HD (.int .i64 0) (.int .i64 1); have OD2 := (OD.trans (Qy.set _ (List.mem_singleton.2 rfl) 0 (.int .i64 0))).trans (Qy.set _ (List.mem_singleton.2 rfl) 1 (.int .i64 1)); have B22 := Qi (Qi B2 (Ne.symm (hdn b2 hbr)) 0 (.int .i64 0)) (Ne.symm (hdn b2 hbr)) 1 (.int .i64 1); have H62 := Qi (Qi H6 (Ne.symm (hdn b6 (by omega))) 0 (.int .i64 0)) (Ne.symm (hdn b6 (by omega))) 1 (.int .i64 1); have f0 := HD.frozen 0; have f1 := HD.frozen 1; obtain ⟨d0, d1, d2, d3, d4, d5⟩ := HD.c6; have ld := HD.lt)
  generalize World.setCell _ _ _ = w4 at *
  clear f0 f1 d0 d1 d2 d3 d4 d5 ld B2 H6 HD OD h4
  have hw4 : w.heap.size ≤ b2 := hbr
  obtain ⟨r0, r1⟩ := H62.c2
  have lr := H62.lt
  have f0 := B22.frozen 0
  have f1 := B22.frozen 1
  obtain ⟨x0, x1⟩ := B22.c2
  have lx := B22.lt
  have H4 := Qn B22 (.int .i64 Sn) (.int .i64 Sd)
  have OF := OD2.far hbr 0 1 (.int .i64 Sn) (.int .i64 Sd)
  have HF := Qi (Qi HD2 (hdn b2 hbr) 0 (.int .i64 Sn)) (hdn b2 hbr) 1 (.int .i64 Sd)
  obtain ⟨y0, y1⟩ := H4.c2
  go_wp2
  refine bodyPost_ret (v := .tuple #[.agg #[.int .i64 Sn, .int .i64 Sd], .int .i64 Se]) (by simp [results, Tryz.results119, go_sem, y0, y1]) rfl ⟨rfl, OF, HF⟩
 ·have hR := HP.out
  rw [if_pos (of_decide_eq_true hcb.out.symm)] at hR
  clear HP hcb N2
  generalize Zs X.p n = S at *
  obtain ⟨⟨Sn, Sd⟩, Se⟩ := S
  subst hR
  go_upto_region 2 with (fail)
  apply Vf (S := fun w' b => Qa w2 w' ∧ w2.heap.size ≤ b ∧ Qb w' b 65 #[.int .i64 Sn, .int .i64 Sd])
  ·refine Q1 11 [6, 7, 9, 10] (fun x => Qa w2 x) Qq rfl ?_
   intro vz hvz
   have HC := hvz
   refine Qr (g := 7) [0, 1, 2, 3] [_, _, _, _] ⟨rfl, rfl, rfl, rfl, trivial⟩ (by kernel_rfl) (by kernel_rfl) HC ?_
   simp only [Qc, Qd, Qe]
   apply Exists.intro
   refine ⟨fun u hu => ?_, ?_⟩
   ·obtain ⟨k0, k1⟩ := (B1.ext hu).c2
    have lk := (B1.ext hu).lt
    obtain ⟨d0, d1, d2, d3, d4, d5⟩ := (HD.ext hu).c6
    have ld := (HD.ext hu).lt
    repeat (first | go_big_quiet_skip | (go_big_quiet_want; go_big_quiet_op; go_big_quiet_on))
    refine wpQuiet_nil ?_
    rfl
   refine Q8 4 8 rfl rfl (by kernel_rfl) ?_ ?_
   ·simp only [Qc, Qd, Qe]
    go_wp2_with (go_at_call 89; (with_reducible refine Calls.mono (N1 _ (Z3.ext HC)) ?_); rintro e wa ⟨rfl, h4⟩)
    replace HC := HC.trans h4
    try replace Q := Q.ext h4
    clear h4
    refine Qh HC ?_
    refine Qr (g := 5) [5] [_] ⟨rfl, trivial⟩ (by kernel_rfl) (by kernel_rfl) HC ?_
    simp only [Qc, Qd, Qe]
    apply Exists.intro
    refine ⟨fun u hu => ?_, ?_⟩
    ·obtain ⟨k0, k1⟩ := (B1.ext hu).c2
     have lk := (B1.ext hu).lt
     obtain ⟨d0, d1, d2, d3, d4, d5⟩ := (HD.ext hu).c6
     have ld := (HD.ext hu).lt
     repeat (first | go_big_quiet_skip | (go_big_quiet_want; go_big_quiet_op; go_big_quiet_on))
     refine wpQuiet_nil ?_
     rfl
    refine Jw (g := 3) [6, 7] [_, _] ⟨rfl, rfl, trivial⟩ (by kernel_rfl) (by kernel_rfl) ?_
    simp only [Qc, Qd, Qe]
    apply Exists.intro
    refine ⟨fun u hu => ?_, ?_⟩
    ·repeat (first | go_big_quiet_skip | (go_big_quiet_want; go_big_quiet_op; go_big_quiet_on))
     refine wpQuiet_nil ?_
     rfl
    refine Qk 8 rfl (by kernel_rfl) ?_
    simp only [Qc, Qd, Qe]
    go_wp2
    obtain ⟨bq, hbq, Q, HC', hge⟩ := Xc HC 65 #[.int .i64 0, .int .i64 0]
    rw [← hbq]
    clear hbq
    replace HC := HC'
    clear HC'
    refine Qh HC ?_
    refine Qm 9 rfl (by kernel_rfl) ?_
    simp only [Qc, Qd, Qe]
    have f0 := Q.frozen 0
    have f1 := Q.frozen 1
    obtain ⟨z0, z1⟩ := Q.c2
    have lz := Q.lt
    have Q2 := Qn Q (.int .i64 Sn) (.int .i64 Sd)
    have HE2 := (HC.setCell (p := ⟨bq, 0, none⟩) hge (.int .i64 Sn)).setCell (p := ⟨bq, 1, none⟩) hge (.int .i64 Sd)
    go_wp2
    refine Ql ?_
    refine Qm 10 rfl (by kernel_rfl) ?_
    simp only [Qc, Qd, Qe]
    go_wp2
    refine Ql ?_
    refine Qs (by kernel_rfl) ?_
    exact J8 bq ⟨HE2, hge, Q2⟩ rfl
   ·simp only [Qc, Qd, Qe]
    go_wp2
    obtain ⟨bq, hbq, Q, HC', hge⟩ := Xc HC 65 #[.int .i64 0, .int .i64 0]
    rw [← hbq]
    clear hbq
    replace HC := HC'
    clear HC'
    refine Qh HC ?_
    refine Qk 4 rfl (by kernel_rfl) ?_
    simp only [Qc, Qd, Qe]
    go_wp2_with (go_at_call 89; (with_reducible refine Calls.mono (N1 _ (Z3.ext HC)) ?_); rintro e wa ⟨rfl, h4⟩)
    replace HC := HC.trans h4
    try replace Q := Q.ext h4
    clear h4
    refine Qh HC ?_
    refine Qr (g := 4) [5] [_] ⟨rfl, trivial⟩ (by kernel_rfl) (by kernel_rfl) HC ?_
    simp only [Qc, Qd, Qe]
    apply Exists.intro
    refine ⟨fun u hu => ?_, ?_⟩
    ·obtain ⟨k0, k1⟩ := (B1.ext hu).c2
     have lk := (B1.ext hu).lt
     obtain ⟨d0, d1, d2, d3, d4, d5⟩ := (HD.ext hu).c6
     have ld := (HD.ext hu).lt
     repeat (first | go_big_quiet_skip | (go_big_quiet_want; go_big_quiet_op; go_big_quiet_on))
     refine wpQuiet_nil ?_
     rfl
    refine Jw (g := 2) [6, 7] [_, _] ⟨rfl, rfl, trivial⟩ (by kernel_rfl) (by kernel_rfl) ?_
    simp only [Qc, Qd, Qe]
    apply Exists.intro
    refine ⟨fun u hu => ?_, ?_⟩
    ·repeat (first | go_big_quiet_skip | (go_big_quiet_want; go_big_quiet_op; go_big_quiet_on))
     refine wpQuiet_nil ?_
     rfl
    refine Qm 9 rfl (by kernel_rfl) ?_
    simp only [Qc, Qd, Qe]
    have f0 := Q.frozen 0
    have f1 := Q.frozen 1
    obtain ⟨z0, z1⟩ := Q.c2
    have lz := Q.lt
    have Q2 := Qn Q (.int .i64 Sn) (.int .i64 Sd)
    have HE2 := (HC.setCell (p := ⟨bq, 0, none⟩) hge (.int .i64 Sn)).setCell (p := ⟨bq, 1, none⟩) hge (.int .i64 Sd)
    go_wp2
    refine Ql ?_
    refine Qm 10 rfl (by kernel_rfl) ?_
    simp only [Qc, Qd, Qe]
    go_wp2
    refine Ql ?_
    refine Qs (by kernel_rfl) ?_
    exact J8 bq ⟨HE2, hge, Q2⟩ rfl
  rintro b6 w3 ⟨E3, hg6, H6⟩
  have hw2 := E.size
  replace HD := HD.ext E3
  replace B2 := B2.ext E3
  replace E := E.trans E3
  have OD : Qy [bd] w w3 := Qy.of_ext E
  clear E3 B1 N1 Z3
  obtain ⟨r0, r1⟩ := H6.c2
  have lr := H6.lt
  have f0 := HD.frozen 0
  have f1 := HD.frozen 1
  obtain ⟨d0, d1, d2, d3, d4, d5⟩ := HD.c6
  have ld := HD.lt
  have HD2 := Fa HD (.int .i64 Sn) (.int .i64 Sd)
  have OD2 := (OD.trans (Qy.set w3 (List.mem_singleton.2 rfl) 0 (.int .i64 Sn))).trans (Qy.set _ (List.mem_singleton.2 rfl) 1 (.int .i64 Sd))
  have B22 := Qi (Qi B2 (Ne.symm (hdn b2 hbr)) 0 (.int .i64 Sn)) (Ne.symm (hdn b2 hbr)) 1 (.int .i64 Sd)
  have H62 := Qi (Qi H6 (Ne.symm (hdn b6 (by omega))) 0 (.int .i64 Sn)) (Ne.symm (hdn b6 (by omega))) 1 (.int .i64 Sd)
  go_upto_region 4 with (fail)
  generalize World.setCell _ _ _ = w4 at *
  clear f0 f1 d0 d1 d2 d3 d4 d5 ld r0 r1 lr B2 H6 HD OD
  have hw4 : w.heap.size ≤ b2 := hbr
  go_wp2_with (go_at_call 72; (with_reducible refine Calls.mono (Xm _ _) ?_); rintro e w5 ⟨rfl, h5⟩; replace OD2 := OD2.trans (Qy.of_ext h5); replace HD2 := HD2.ext h5; replace B22 := B22.ext h5; have f0 := B22.frozen 0; have f1 := B22.frozen 1; obtain ⟨x0, x1⟩ := B22.c2; have lx := B22.lt)
  have H4 := Qn B22 (.int .i64 0) (.int .i64 1)
  have OF := OD2.far hbr 0 1 (.int .i64 0) (.int .i64 1)
  have HF := Qi (Qi HD2 (hdn b2 hbr) 0 (.int .i64 0)) (hdn b2 hbr) 1 (.int .i64 1)
  obtain ⟨y0, y1⟩ := H4.c2
  go_wp2
  refine bodyPost_ret (v := .tuple #[.agg #[.int .i64 0, .int .i64 1], .int .i64 Se]) (by simp [results, Tryz.results119, go_sem, y0, y1]) rfl ⟨rfl, OF, HF⟩
theorem Qp {W w : World} (h : Qa W w) (t : TypeId) (cs : Array Value) : ∃ b w', b = w.heap.size ∧ w' = w.alloc (.cells cs t) ∧ Qb w' b t cs ∧ Qa W w' ∧ Qa w w' ∧ W.heap.size ≤ b := ⟨_, _, rfl, rfl, Qb.new w t cs, h.alloc _, (Qa.refl w).alloc _, h.size⟩
def S7 (A : Nat → Nat → Nat → Act) (S : World → Nat → Nat → Nat → Prop) : Exit → Act → World → Prop := fun e a' w' => e = .normal ∧ ∃ p q r, S w' p q r ∧ a' = A p q r
theorem Qa1 {A : Nat → Nat → Nat → Act} {S : World → Nat → Nat → Nat → Prop} {w' : World} (p q r : Nat) {a' : Act} (h : S w' p q r) (ha : a' = A p q r) : S7 A S .normal a' w' := ⟨rfl, p, q, r, h, ha⟩
theorem Qg3 {P : Program} {c : Code} {Q : Exit → Act → World → Prop} {a : Act} {w : World} {A : Nat → Nat → Nat → Act} (S : World → Nat → Nat → Nat → Prop) (h1 : c.wp P (S7 A S) a w) (h2 : ∀ p q r w', S w' p q r → Q .normal (A p q r) w') : c.wp P Q a w :=
 Code.wp_mono (fun e a' w' ⟨he, p, q, r, hs, ha⟩ => by subst he; subst ha; exact h2 p q r w' hs) h1
theorem D7 {W : World} {b : Nat} {n m : Int} {v0 v1 : Value} (h : Qb W b 245 #[.int .u64 n, .int .u64 m]) (h' : Qb W b 252 #[v0, v1]) : False := by
 have e := (show W.heap[b]? = _ from h).symm.trans h'
 simp at e
def Uu (x y : Nat) : Nat → Nat
 | 0 => x
 | _ => y
theorem Cb (x y : Nat) : upTo (Uu x y) 2 = x * y := by show 1 * x * y = x * y; rw [Nat.one_mul]
theorem Ca {x y : Nat} (hx : 1 ≤ x) (hy : 1 ≤ y) : ∀ i, i < 2 → 1 ≤ Uu x y i := fun i hi => by
 have : i = 0 ∨ i = 1 := by omega
 rcases this with rfl | rfl
 ·exact hx
 ·exact hy
theorem B8 {x y : Nat} (hx : x < 18446744073709551616) (hy : y < 18446744073709551616) : ∀ i, i < 2 → Uu x y i < 18446744073709551616 := fun i hi => by
 have : i = 0 ∨ i = 1 := by omega
 rcases this with rfl | rfl
 ·exact hx
 ·exact hy
theorem A4 {w : World} {b : Nat} {t : TypeId} {n m : Nat} (h : Qb w b t #[.int .u64 (n : Int), .int .u64 (m : Int)]) : Qo w (some ⟨b, 0, none⟩) 2 1 (Q7 (Uu n m)) := V5 (f := Q7 (Uu n m)) (n := 2) (fun _ => rfl) h
theorem Qbb (a b : Rt) (ha : a.ok = true) (hb : b.ok = true) (ba bb : Nat) (w : World) (hA : Qb w ba 65 #[.int .i64 a.n, .int .i64 a.d]) (hB : Qb w bb 65 #[.int .i64 b.n, .int .i64 b.d]) (hZ : Zu w) :
  Calls Tryz.prog 171 #[.pointer (some ⟨bb, 0, none⟩), .pointer (some ⟨ba, 0, none⟩)] w fun e w' => e = .returned (.tuple #[.agg #[.int .i64 (if b.n = 0 then (Zd, 9) else Jk (decide (a.n < 0) != decide (b.n < 0)) (a.n.natAbs * b.d.natAbs) (a.d.natAbs * b.n.natAbs)).1.n, .int .i64 (if b.n = 0 then (Zd, 9) else Jk (decide (a.n < 0) != decide (b.n < 0)) (a.n.natAbs * b.d.natAbs) (a.d.natAbs * b.n.natAbs)).1.d], .int .i64 (if b.n = 0 then (Zd, 9) else Jk (decide (a.n < 0) != decide (b.n < 0)) (a.n.natAbs * b.d.natAbs) (a.d.natAbs * b.n.natAbs)).2]) ∧ Qa w w' := by
 obtain ⟨a1, a2, a3, a4, _⟩ := Zo ha
 obtain ⟨b1', b2', b3', b4', _⟩ := Zo hb
 have N1 := fun w => Ud a.n (by omega) (by omega) w
 have N2 := fun w => Ud b.d (by omega) (by omega) w
 have N3 := fun w => Ud a.d (by omega) (by omega) w
 have N4 := fun w => Ud b.n (by omega) (by omega) w
 obtain ⟨R, hR0⟩ := Qg (if b.n = 0 then (Zd, 9) else Jk (decide (a.n < 0) != decide (b.n < 0)) (a.n.natAbs * b.d.natAbs) (a.d.natAbs * b.n.natAbs))
 rw [← hR0]
 have HR := Lib.hid hR0
 clear hR0
 go_enter Tryz.func171, Tryz.ntmps171
 go_upto_region 1 with (fail)
 obtain ⟨v, hv⟩ := Qg (w.alloc (.cells #[.int .i64 0, .int .i64 0] 65))
 rw [← hv]
 have E : Qa w v := by rw [hv]; exact (Qa.refl _).alloc _
 have B1 : Qb v w.heap.size 65 #[.int .i64 0, .int .i64 0] := by rw [hv]; exact (Qb.new _ _ _)
 clear hv
 obtain ⟨b1, hb1⟩ := Qg (w.heap.size)
 rw [← hb1] at B1 ⊢
 have hbr : w.heap.size ≤ b1 := by omega
 clear hb1
 have Z0 := hZ.ext E
 have HA := hA.ext E
 have HB := hB.ext E
 clear hA hB hZ
 obtain ⟨k0, k1⟩ := HA.c2
 have lk := HA.lt
 obtain ⟨p0, p1⟩ := HB.c2
 have lp := HB.lt
 by_cases hb0 : b.n = 0
 ·have g0 : (b.n == 0) = true := by rw [hb0]; rfl
  have hr : R = (Zd, 9) := by rw [HR.out, if_pos hb0]
  subst hr
  clear HR hb0
  have f0 := B1.frozen 0
  have f1 := B1.frozen 1
  obtain ⟨x0, x1⟩ := B1.c2
  have lx := B1.lt
  have H4 := Qn B1 (.int .i64 0) (.int .i64 0)
  have EF := (E.setCell (p := ⟨b1, 0, none⟩) hbr (.int .i64 0)).setCell (p := ⟨b1, 1, none⟩) hbr (.int .i64 0)
  obtain ⟨y0, y1⟩ := H4.c2
  go_wp2
  refine bodyPost_ret (v := .tuple #[.agg #[.int .i64 0, .int .i64 0], .int .i64 9]) (by simp [results, Tryz.results171, go_sem, y0, y1]) rfl ⟨rfl, EF⟩
 ·have g0 : (b.n == 0) = false := beq_eq_false_iff_ne.2 hb0
  have hr := HR.out
  rw [if_neg hb0] at hr
  clear HR
  by_cases ha0 : a.n = 0
  ·have g1 : (a.n == 0) = true := by rw [ha0]; rfl
   rw [show a.n.natAbs * b.d.natAbs = 0 by rw [ha0]; simp, Og (Nat.mul_pos (by omega) (by omega))] at hr
   subst hr
   clear hb0 ha0
   obtain ⟨z0, z1, lz⟩ := Z0
   have f0 := B1.frozen 0
   have f1 := B1.frozen 1
   obtain ⟨x0, x1⟩ := B1.c2
   have lx := B1.lt
   have H4 := Qn B1 (.int .i64 0) (.int .i64 1)
   have EF := (E.setCell (p := ⟨b1, 0, none⟩) hbr (.int .i64 0)).setCell (p := ⟨b1, 1, none⟩) hbr (.int .i64 1)
   obtain ⟨y0, y1⟩ := H4.c2
   go_wp2
   refine bodyPost_ret (v := .tuple #[.agg #[.int .i64 0, .int .i64 1], .int .i64 0]) (by simp [results, Tryz.results171, go_sem, y0, y1]) rfl ⟨rfl, EF⟩
  ·have g1 : (a.n == 0) = false := beq_eq_false_iff_ne.2 ha0
   have NR := fun w b6 b13 neg (hneg : neg = (decide (a.n < 0) != decide (b.n < 0))) h h' => Rl (some ⟨b6, 0, none⟩) (some ⟨b13, 0, none⟩) 2 2 2 2 (Uu a.n.natAbs b.d.natAbs) (Uu a.d.natAbs b.n.natAbs) neg w h h' (fun h => by cases h) (fun h => by cases h) (by decide) (by decide) (Ca (by omega) (by omega)) (B8 (by omega) (by omega)) (Ca (by omega) (by omega)) (B8 (by omega) (by omega))
   have NR2 : ∀ (w : World) (b6 b13 : Nat), Qo w (some ⟨b6, 0, none⟩) 2 1 (Q7 (Uu a.n.natAbs b.d.natAbs)) → Qo w (some ⟨b13, 0, none⟩) 2 1 (Q7 (Uu a.d.natAbs b.n.natAbs)) → Calls Tryz.prog 163 #[.agg #[.slice (some ⟨b6, 0, none⟩) 2 2, .slice (some ⟨b13, 0, none⟩) 2 2], .bool (!(decide (a.n < 0) == decide (b.n < 0)))] w fun e w' => e = .returned (.tuple #[.agg #[.int .i64 R.1.n, .int .i64 R.1.d], .int .i64 R.2]) ∧ Qa w w' := fun w b6 b13 h h' => by
    have := NR w b6 b13 _ rfl h h'
    rw [Cb, Cb] at this
    have hr' : R = Jk (!(decide (a.n < 0) == decide (b.n < 0))) (a.n.natAbs * b.d.natAbs) (a.d.natAbs * b.n.natAbs) := hr
    rw [hr']
    exact this
   clear NR hr hb0 ha0 a1 a2 a3 a4 b1' b2' b3' b4'
   obtain ⟨⟨Rn, Rd⟩, Re⟩ := R
   go_upto_region 5 with (fail)
   clear k0 k1 lk p0 p1 lp
   apply Qg3 (S := fun w' b6 b13 b15 => Qa v w' ∧ Qb w' b6 245 #[.int .u64 (a.n.natAbs : Int), .int .u64 (b.d.natAbs : Int)] ∧ Qb w' b13 245 #[.int .u64 (a.d.natAbs : Int), .int .u64 (b.n.natAbs : Int)] ∧ Qb w' b15 252 #[.slice (some ⟨b6, 0, none⟩) 2 2, .slice (some ⟨b13, 0, none⟩) 2 2])
   ·refine Q1 17 [16] (fun x => Qa v x) Qq rfl ?_
    intro vz hvz
    have HC := hvz
    have mz0 := trivial
    all_goals try
     (clear mz0
      refine Qr (g := 9) [0, 1, 3, 4, 7, 8, 10, 11] [_, _, _, _, _, _, _, _] ⟨rfl, rfl, rfl, rfl, rfl, rfl, rfl, rfl, trivial⟩ (by kernel_rfl) (by kernel_rfl) HC ?_
      simp only [Qc, Qd, Qe]
      apply Exists.intro
      refine ⟨fun u hu => ?_, ?_⟩
      ·obtain ⟨k0, k1⟩ := (HA.ext hu).c2
       have lk := (HA.ext hu).lt
       obtain ⟨p0, p1⟩ := (HB.ext hu).c2
       have lp := (HB.ext hu).lt
       repeat (first | go_big_quiet_skip | (go_big_quiet_want; go_big_quiet_op; go_big_quiet_on))
       refine wpQuiet_nil ?_
       rfl
      have mz1 := trivial)
    all_goals try
     (clear mz1
      refine Q8 2 15 rfl rfl (by kernel_rfl) ?_ ?_ <;> first
       | (simp only [Qc, Qd, Qe]
          go_wp2_with (go_at_call 162; (with_reducible refine Calls.mono (N1 _) ?_); rintro e wa ⟨rfl, h4⟩)
          replace HC := HC.trans h4
          try replace Q6 := Q6.ext h4
          try replace Q13 := Q13.ext h4
          try replace Q15 := Q15.ext h4
          clear h4
          have mz2 := trivial
          refine Qh HC ?_)
       | (simp only [Qc, Qd, Qe]
          go_wp2
          obtain ⟨b15, wb, hbq, hwb, Q15, HC', hx, hgeb15⟩ := Qp HC 252 #[.slice none 0 0, .slice none 0 0]
          rw [← hbq, ← hwb]
          clear hbq hwb
          replace HC := HC'
          clear HC'
          try replace Q6 := Q6.ext hx
          try replace Q13 := Q13.ext hx
          clear hx
          have mz3 := trivial
          refine Qh HC ?_))
    all_goals try
     (clear mz2
      refine Q8 5 15 rfl rfl (by kernel_rfl) ?_ ?_ <;> first
       | (simp only [Qc, Qd, Qe]
          go_wp2_with (go_at_call 162; (with_reducible refine Calls.mono (N2 _) ?_); rintro e wa ⟨rfl, h4⟩)
          replace HC := HC.trans h4
          try replace Q6 := Q6.ext h4
          try replace Q13 := Q13.ext h4
          try replace Q15 := Q15.ext h4
          clear h4
          have mz4 := trivial
          refine Qh HC ?_)
       | (simp only [Qc, Qd, Qe]
          go_wp2
          obtain ⟨b15, wb, hbq, hwb, Q15, HC', hx, hgeb15⟩ := Qp HC 252 #[.slice none 0 0, .slice none 0 0]
          rw [← hbq, ← hwb]
          clear hbq hwb
          replace HC := HC'
          clear HC'
          try replace Q6 := Q6.ext hx
          try replace Q13 := Q13.ext hx
          clear hx
          have mz5 := trivial
          refine Qh HC ?_))
    all_goals try
     (clear mz3
      refine Qk 2 rfl (by kernel_rfl) ?_
      simp only [Qc, Qd, Qe]
      go_wp2_with (go_at_call 162; (with_reducible refine Calls.mono (N1 _) ?_); rintro e wa ⟨rfl, h4⟩)
      replace HC := HC.trans h4
      try replace Q6 := Q6.ext h4
      try replace Q13 := Q13.ext h4
      try replace Q15 := Q15.ext h4
      clear h4
      have mz5 := trivial
      refine Qh HC ?_)
    all_goals try
     (clear mz4
      refine Xy 6 9 15 rfl rfl rfl (by kernel_rfl) ?_ ?_ ?_ <;> first
       | (simp only [Qc, Qd, Qe]
          go_wp2_with (go_at_call 162; (with_reducible refine Calls.mono (N3 _) ?_); rintro e wa ⟨rfl, h4⟩)
          replace HC := HC.trans h4
          try replace Q6 := Q6.ext h4
          try replace Q13 := Q13.ext h4
          try replace Q15 := Q15.ext h4
          clear h4
          have mz7 := trivial
          refine Qh HC ?_)
       | (simp only [Qc, Qd, Qe]
          go_wp2
          obtain ⟨b6, wb, hbq, hwb, Q6, HC', hx, hgeb6⟩ := Qp HC 245 #[.int .u64 (a.n.natAbs : Int), .int .u64 (b.d.natAbs : Int)]
          rw [← hbq, ← hwb]
          clear hbq hwb
          replace HC := HC'
          clear HC'
          try replace Q13 := Q13.ext hx
          try replace Q15 := Q15.ext hx
          clear hx
          have mz6 := trivial
          refine Qh HC ?_)
       | (simp only [Qc, Qd, Qe]
          go_wp2
          obtain ⟨b15, wb, hbq, hwb, Q15, HC', hx, hgeb15⟩ := Qp HC 252 #[.slice none 0 0, .slice none 0 0]
          rw [← hbq, ← hwb]
          clear hbq hwb
          replace HC := HC'
          clear HC'
          try replace Q6 := Q6.ext hx
          try replace Q13 := Q13.ext hx
          clear hx
          have mz8 := trivial
          refine Qh HC ?_))
    all_goals try
     (clear mz5
      refine Qk 5 rfl (by kernel_rfl) ?_
      simp only [Qc, Qd, Qe]
      go_wp2_with (go_at_call 162; (with_reducible refine Calls.mono (N2 _) ?_); rintro e wa ⟨rfl, h4⟩)
      replace HC := HC.trans h4
      try replace Q6 := Q6.ext h4
      try replace Q13 := Q13.ext h4
      try replace Q15 := Q15.ext h4
      clear h4
      have mz8 := trivial
      refine Qh HC ?_)
    all_goals try
     (clear mz6
      refine Q8 9 15 rfl rfl (by kernel_rfl) ?_ ?_ <;> first
       | (simp only [Qc, Qd, Qe]
          go_wp2_with (go_at_call 162; (with_reducible refine Calls.mono (N3 _) ?_); rintro e wa ⟨rfl, h4⟩)
          replace HC := HC.trans h4
          try replace Q6 := Q6.ext h4
          try replace Q13 := Q13.ext h4
          try replace Q15 := Q15.ext h4
          clear h4
          have mz9 := trivial
          refine Qh HC ?_)
       | (simp only [Qc, Qd, Qe]
          go_wp2
          obtain ⟨b15, wb, hbq, hwb, Q15, HC', hx, hgeb15⟩ := Qp HC 252 #[.slice none 0 0, .slice none 0 0]
          rw [← hbq, ← hwb]
          clear hbq hwb
          replace HC := HC'
          clear HC'
          try replace Q6 := Q6.ext hx
          try replace Q13 := Q13.ext hx
          clear hx
          have mz10 := trivial
          refine Qh HC ?_))
    all_goals try
     (clear mz7
      refine Xy 6 12 15 rfl rfl rfl (by kernel_rfl) ?_ ?_ ?_ <;> first
       | (simp only [Qc, Qd, Qe]
          go_wp2_with (go_at_call 162; (with_reducible refine Calls.mono (N4 _) ?_); rintro e wa ⟨rfl, h4⟩)
          replace HC := HC.trans h4
          try replace Q6 := Q6.ext h4
          try replace Q13 := Q13.ext h4
          try replace Q15 := Q15.ext h4
          clear h4
          have mz11 := trivial
          refine Qh HC ?_)
       | (simp only [Qc, Qd, Qe]
          go_wp2
          obtain ⟨b6, wb, hbq, hwb, Q6, HC', hx, hgeb6⟩ := Qp HC 245 #[.int .u64 (a.n.natAbs : Int), .int .u64 (b.d.natAbs : Int)]
          rw [← hbq, ← hwb]
          clear hbq hwb
          replace HC := HC'
          clear HC'
          try replace Q13 := Q13.ext hx
          try replace Q15 := Q15.ext hx
          clear hx
          have mz9 := trivial
          refine Qh HC ?_)
       | (simp only [Qc, Qd, Qe]
          go_wp2
          obtain ⟨b15, wb, hbq, hwb, Q15, HC', hx, hgeb15⟩ := Qp HC 252 #[.slice none 0 0, .slice none 0 0]
          rw [← hbq, ← hwb]
          clear hbq hwb
          replace HC := HC'
          clear HC'
          try replace Q6 := Q6.ext hx
          try replace Q13 := Q13.ext hx
          clear hx
          have mz12 := trivial
          refine Qh HC ?_))
    all_goals try
     (clear mz8
      refine Q8 6 9 rfl rfl (by kernel_rfl) ?_ ?_ <;> first
       | (simp only [Qc, Qd, Qe]
          go_wp2_with (go_at_call 162; (with_reducible refine Calls.mono (N3 _) ?_); rintro e wa ⟨rfl, h4⟩)
          replace HC := HC.trans h4
          try replace Q6 := Q6.ext h4
          try replace Q13 := Q13.ext h4
          try replace Q15 := Q15.ext h4
          clear h4
          have mz12 := trivial
          refine Qh HC ?_)
       | (simp only [Qc, Qd, Qe]
          go_wp2
          obtain ⟨b6, wb, hbq, hwb, Q6, HC', hx, hgeb6⟩ := Qp HC 245 #[.int .u64 (a.n.natAbs : Int), .int .u64 (b.d.natAbs : Int)]
          rw [← hbq, ← hwb]
          clear hbq hwb
          replace HC := HC'
          clear HC'
          try replace Q13 := Q13.ext hx
          try replace Q15 := Q15.ext hx
          clear hx
          have mz10 := trivial
          refine Qh HC ?_))
    all_goals try
     (clear mz9
      refine Q8 12 15 rfl rfl (by kernel_rfl) ?_ ?_ <;> first
       | (simp only [Qc, Qd, Qe]
          go_wp2_with (go_at_call 162; (with_reducible refine Calls.mono (N4 _) ?_); rintro e wa ⟨rfl, h4⟩)
          replace HC := HC.trans h4
          try replace Q6 := Q6.ext h4
          try replace Q13 := Q13.ext h4
          try replace Q15 := Q15.ext h4
          clear h4
          have mz13 := trivial
          refine Qh HC ?_)
       | (simp only [Qc, Qd, Qe]
          go_wp2
          obtain ⟨b15, wb, hbq, hwb, Q15, HC', hx, hgeb15⟩ := Qp HC 252 #[.slice none 0 0, .slice none 0 0]
          rw [← hbq, ← hwb]
          clear hbq hwb
          replace HC := HC'
          clear HC'
          try replace Q6 := Q6.ext hx
          try replace Q13 := Q13.ext hx
          clear hx
          have mz14 := trivial
          refine Qh HC ?_))
    all_goals try
     (clear mz10
      refine Qk 9 rfl (by kernel_rfl) ?_
      simp only [Qc, Qd, Qe]
      go_wp2_with (go_at_call 162; (with_reducible refine Calls.mono (N3 _) ?_); rintro e wa ⟨rfl, h4⟩)
      replace HC := HC.trans h4
      try replace Q6 := Q6.ext h4
      try replace Q13 := Q13.ext h4
      try replace Q15 := Q15.ext h4
      clear h4
      have mz14 := trivial
      refine Qh HC ?_)
    all_goals try
     (clear mz11
      refine Xy 6 13 15 rfl rfl rfl (by kernel_rfl) ?_ ?_ ?_ <;> first
       | (simp only [Qc, Qd, Qe]
          go_wp2
          obtain ⟨b6, wb, hbq, hwb, Q6, HC', hx, hgeb6⟩ := Qp HC 245 #[.int .u64 (a.n.natAbs : Int), .int .u64 (b.d.natAbs : Int)]
          rw [← hbq, ← hwb]
          clear hbq hwb
          replace HC := HC'
          clear HC'
          try replace Q13 := Q13.ext hx
          try replace Q15 := Q15.ext hx
          clear hx
          have mz13 := trivial
          refine Qh HC ?_)
       | (simp only [Qc, Qd, Qe]
          go_wp2
          obtain ⟨b13, wb, hbq, hwb, Q13, HC', hx, hgeb13⟩ := Qp HC 245 #[.int .u64 (a.d.natAbs : Int), .int .u64 (b.n.natAbs : Int)]
          rw [← hbq, ← hwb]
          clear hbq hwb
          replace HC := HC'
          clear HC'
          try replace Q6 := Q6.ext hx
          try replace Q15 := Q15.ext hx
          clear hx
          have mz15 := trivial
          refine Qh HC ?_)
       | (simp only [Qc, Qd, Qe]
          go_wp2
          obtain ⟨b15, wb, hbq, hwb, Q15, HC', hx, hgeb15⟩ := Qp HC 252 #[.slice none 0 0, .slice none 0 0]
          rw [← hbq, ← hwb]
          clear hbq hwb
          replace HC := HC'
          clear HC'
          try replace Q6 := Q6.ext hx
          try replace Q13 := Q13.ext hx
          clear hx
          have mz16 := trivial
          refine Qh HC ?_))
    all_goals try
     (clear mz12
      refine Q8 6 12 rfl rfl (by kernel_rfl) ?_ ?_ <;> first
       | (simp only [Qc, Qd, Qe]
          go_wp2_with (go_at_call 162; (with_reducible refine Calls.mono (N4 _) ?_); rintro e wa ⟨rfl, h4⟩)
          replace HC := HC.trans h4
          try replace Q6 := Q6.ext h4
          try replace Q13 := Q13.ext h4
          try replace Q15 := Q15.ext h4
          clear h4
          have mz16 := trivial
          refine Qh HC ?_)
       | (simp only [Qc, Qd, Qe]
          go_wp2
          obtain ⟨b6, wb, hbq, hwb, Q6, HC', hx, hgeb6⟩ := Qp HC 245 #[.int .u64 (a.n.natAbs : Int), .int .u64 (b.d.natAbs : Int)]
          rw [← hbq, ← hwb]
          clear hbq hwb
          replace HC := HC'
          clear HC'
          try replace Q13 := Q13.ext hx
          try replace Q15 := Q15.ext hx
          clear hx
          have mz14 := trivial
          refine Qh HC ?_))
    all_goals try
     (clear mz13
      refine Q8 13 15 rfl rfl (by kernel_rfl) ?_ ?_ <;> first
       | (simp only [Qc, Qd, Qe]
          go_wp2
          obtain ⟨b13, wb, hbq, hwb, Q13, HC', hx, hgeb13⟩ := Qp HC 245 #[.int .u64 (a.d.natAbs : Int), .int .u64 (b.n.natAbs : Int)]
          rw [← hbq, ← hwb]
          clear hbq hwb
          replace HC := HC'
          clear HC'
          try replace Q6 := Q6.ext hx
          try replace Q15 := Q15.ext hx
          clear hx
          have mz17 := trivial
          refine Qh HC ?_)
       | (simp only [Qc, Qd, Qe]
          go_wp2
          obtain ⟨b15, wb, hbq, hwb, Q15, HC', hx, hgeb15⟩ := Qp HC 252 #[.slice none 0 0, .slice none 0 0]
          rw [← hbq, ← hwb]
          clear hbq hwb
          replace HC := HC'
          clear HC'
          try replace Q6 := Q6.ext hx
          try replace Q13 := Q13.ext hx
          clear hx
          have mz18 := trivial
          refine Qh HC ?_))
    all_goals try
     (clear mz14
      refine Qk 12 rfl (by kernel_rfl) ?_
      simp only [Qc, Qd, Qe]
      go_wp2_with (go_at_call 162; (with_reducible refine Calls.mono (N4 _) ?_); rintro e wa ⟨rfl, h4⟩)
      replace HC := HC.trans h4
      try replace Q6 := Q6.ext h4
      try replace Q13 := Q13.ext h4
      try replace Q15 := Q15.ext h4
      clear h4
      have mz18 := trivial
      refine Qh HC ?_)
    all_goals try
     (clear mz15
      refine Q8 6 15 rfl rfl (by kernel_rfl) ?_ ?_ <;> first
       | (simp only [Qc, Qd, Qe]
          go_wp2
          obtain ⟨b6, wb, hbq, hwb, Q6, HC', hx, hgeb6⟩ := Qp HC 245 #[.int .u64 (a.n.natAbs : Int), .int .u64 (b.d.natAbs : Int)]
          rw [← hbq, ← hwb]
          clear hbq hwb
          replace HC := HC'
          clear HC'
          try replace Q13 := Q13.ext hx
          try replace Q15 := Q15.ext hx
          clear hx
          have mz17 := trivial
          refine Qh HC ?_)
       | (simp only [Qc, Qd, Qe]
          go_wp2
          obtain ⟨b15, wb, hbq, hwb, Q15, HC', hx, hgeb15⟩ := Qp HC 252 #[.slice none 0 0, .slice none 0 0]
          rw [← hbq, ← hwb]
          clear hbq hwb
          replace HC := HC'
          clear HC'
          try replace Q6 := Q6.ext hx
          try replace Q13 := Q13.ext hx
          clear hx
          have mz19 := trivial
          refine Qh HC ?_))
    all_goals try
     (clear mz16
      refine Q8 6 13 rfl rfl (by kernel_rfl) ?_ ?_ <;> first
       | (simp only [Qc, Qd, Qe]
          go_wp2
          obtain ⟨b6, wb, hbq, hwb, Q6, HC', hx, hgeb6⟩ := Qp HC 245 #[.int .u64 (a.n.natAbs : Int), .int .u64 (b.d.natAbs : Int)]
          rw [← hbq, ← hwb]
          clear hbq hwb
          replace HC := HC'
          clear HC'
          try replace Q13 := Q13.ext hx
          try replace Q15 := Q15.ext hx
          clear hx
          have mz18 := trivial
          refine Qh HC ?_)
       | (simp only [Qc, Qd, Qe]
          go_wp2
          obtain ⟨b13, wb, hbq, hwb, Q13, HC', hx, hgeb13⟩ := Qp HC 245 #[.int .u64 (a.d.natAbs : Int), .int .u64 (b.n.natAbs : Int)]
          rw [← hbq, ← hwb]
          clear hbq hwb
          replace HC := HC'
          clear HC'
          try replace Q6 := Q6.ext hx
          try replace Q15 := Q15.ext hx
          clear hx
          have mz19 := trivial
          refine Qh HC ?_))
    all_goals try
     (clear mz17
      refine Qr (g := 2) [14] [_] ⟨rfl, trivial⟩ (by kernel_rfl) (by kernel_rfl) HC ?_
      simp only [Qc, Qd, Qe]
      apply Exists.intro
      refine ⟨fun u hu => ?_, ?_⟩
      ·obtain ⟨k0, k1⟩ := (HA.ext hu).c2
       have lk := (HA.ext hu).lt
       obtain ⟨p0, p1⟩ := (HB.ext hu).c2
       have lp := (HB.ext hu).lt
       repeat (first | go_big_quiet_skip | (go_big_quiet_want; go_big_quiet_op; go_big_quiet_on))
       refine wpQuiet_nil ?_
       rfl
      have mz20 := trivial)
    all_goals try
     (clear mz18
      refine Qk 13 rfl (by kernel_rfl) ?_
      simp only [Qc, Qd, Qe]
      go_wp2
      obtain ⟨b13, wb, hbq, hwb, Q13, HC', hx, hgeb13⟩ := Qp HC 245 #[.int .u64 (a.d.natAbs : Int), .int .u64 (b.n.natAbs : Int)]
      rw [← hbq, ← hwb]
      clear hbq hwb
      replace HC := HC'
      clear HC'
      try replace Q6 := Q6.ext hx
      try replace Q15 := Q15.ext hx
      clear hx
      have mz21 := trivial
      refine Qh HC ?_)
    all_goals try
     (clear mz19
      refine Qk 6 rfl (by kernel_rfl) ?_
      simp only [Qc, Qd, Qe]
      go_wp2
      obtain ⟨b6, wb, hbq, hwb, Q6, HC', hx, hgeb6⟩ := Qp HC 245 #[.int .u64 (a.n.natAbs : Int), .int .u64 (b.d.natAbs : Int)]
      rw [← hbq, ← hwb]
      clear hbq hwb
      replace HC := HC'
      clear HC'
      try replace Q13 := Q13.ext hx
      try replace Q15 := Q15.ext hx
      clear hx
      have mz21 := trivial
      refine Qh HC ?_)
    all_goals try
     (clear mz20
      refine Qk 15 rfl (by kernel_rfl) ?_
      simp only [Qc, Qd, Qe]
      go_wp2
      obtain ⟨b15, wb, hbq, hwb, Q15, HC', hx, hgeb15⟩ := Qp HC 252 #[.slice none 0 0, .slice none 0 0]
      rw [← hbq, ← hwb]
      clear hbq hwb
      replace HC := HC'
      clear HC'
      try replace Q6 := Q6.ext hx
      try replace Q13 := Q13.ext hx
      clear hx
      have mz22 := trivial
      refine Qh HC ?_)
    all_goals try
     (clear mz21
      refine Qr (g := 1) [14] [_] ⟨rfl, trivial⟩ (by kernel_rfl) (by kernel_rfl) HC ?_
      simp only [Qc, Qd, Qe]
      apply Exists.intro
      refine ⟨fun u hu => ?_, ?_⟩
      ·obtain ⟨k0, k1⟩ := (HA.ext hu).c2
       have lk := (HA.ext hu).lt
       obtain ⟨p0, p1⟩ := (HB.ext hu).c2
       have lp := (HB.ext hu).lt
       repeat (first | go_big_quiet_skip | (go_big_quiet_want; go_big_quiet_op; go_big_quiet_on))
       refine wpQuiet_nil ?_
       rfl
      have mz22 := trivial)
    all_goals try
     (clear mz22
      refine Qm 16 rfl (by kernel_rfl) ?_
      simp only [Qc, Qd, Qe]
      have z0 := Q15.frozen 0
      have z1 := Q15.frozen 1
      obtain ⟨x0, x1⟩ := Q15.c2
      have lx := Q15.lt
      have n6 : b6 ≠ b15 := fun e => D7 (e ▸ Q6) Q15
      have n13 : b13 ≠ b15 := fun e => D7 (e ▸ Q13) Q15
      have S15 := Qn Q15 (.slice (some ⟨b6, 0, none⟩) 2 2) (.slice (some ⟨b13, 0, none⟩) 2 2)
      have S6 := Qi (Qi Q6 n6 0 (.slice (some ⟨b6, 0, none⟩) 2 2)) n6 1 (.slice (some ⟨b13, 0, none⟩) 2 2)
      have S13 := Qi (Qi Q13 n13 0 (.slice (some ⟨b6, 0, none⟩) 2 2)) n13 1 (.slice (some ⟨b13, 0, none⟩) 2 2)
      have HE2 := (HC.setCell (p := ⟨b15, 0, none⟩) hgeb15 (.slice (some ⟨b6, 0, none⟩) 2 2)).setCell (p := ⟨b15, 1, none⟩) hgeb15 (.slice (some ⟨b13, 0, none⟩) 2 2)
      go_wp2
      have mz23 := trivial
      refine Ql ?_)
    all_goals try
     (clear mz23
      refine Qs (by kernel_rfl) ?_
      exact Qa1 b6 b13 b15 ⟨HE2, S6, S13, S15⟩ rfl)
   rintro b6 b13 b15 w5 ⟨E5, S6, S13, S15⟩
   clear N1 N2 N3 N4
   obtain ⟨k0, k1⟩ := (HA.ext E5).c2
   have lk := (HA.ext E5).lt
   obtain ⟨p0, p1⟩ := (HB.ext E5).c2
   have lp := (HB.ext E5).lt
   obtain ⟨r0, r1⟩ := S15.c2
   have lr := S15.lt
   replace E := E.trans E5
   replace B1 := B1.ext E5
   go_wp2_with (first | (go_at_call 163; (with_reducible refine Calls.mono (NR2 _ _ _ (A4 S6) (A4 S13)) ?_); rintro e wt ⟨rfl, ht⟩; replace E := E.trans ht; replace B1 := B1.ext ht; have f0 := B1.frozen 0; have f1 := B1.frozen 1; obtain ⟨x0, x1⟩ := B1.c2; have lx := B1.lt))
   have H4 := Qn B1 (.int .i64 Rn) (.int .i64 Rd)
   have EF := (E.setCell (p := ⟨b1, 0, none⟩) hbr (.int .i64 Rn)).setCell (p := ⟨b1, 1, none⟩) hbr (.int .i64 Rd)
   obtain ⟨y0, y1⟩ := H4.c2
   go_wp2
   refine bodyPost_ret (v := .tuple #[.agg #[.int .i64 Rn, .int .i64 Rd], .int .i64 Re]) (by simp [results, Tryz.results171, go_sem, y0, y1]) rfl ⟨rfl, EF⟩
theorem Qab (a b : Rt) (hia : a.In) (hib : b.In) (ba bb : Nat) (w : World) (hA : Qb w ba 65 #[.int .i64 a.n, .int .i64 a.d]) (hB : Qb w bb 65 #[.int .i64 b.n, .int .i64 b.d]) (hZ : Zu w) :
  Calls Tryz.prog 132 #[.agg #[.int .i64 a.n, .int .i64 a.d], .agg #[.int .i64 b.n, .int .i64 b.d], .func (.func 171) #[] #[.pointer (some ⟨bb, 0, none⟩), .pointer (some ⟨ba, 0, none⟩)]] w fun e w' => e = .returned (.tuple #[.agg #[.int .i64 (J2 a b).1.n, .int .i64 (J2 a b).1.d], .int .i64 (J2 a b).2]) ∧ Qa w w' := by
 have NA := fun w => W8 a.n a.d hia.1 hia.2.1 hia.2.2.1 hia.2.2.2 w
 have NB := fun w => W8 b.n b.d hib.1 hib.2.1 hib.2.2.1 hib.2.2.2 w
 rw [show Rt.ok ⟨a.n, a.d⟩ = a.ok from rfl] at NA
 rw [show Rt.ok ⟨b.n, b.d⟩ = b.ok from rfl] at NB
 have NC := fun ha hb w h1 h2 z => Qbb a b ha hb ba bb w h1 h2 z
 have HV : Hid (J2 a b = if a.ok && b.ok then (if b.n = 0 then (Zd, 9) else Jk (decide (a.n < 0) != decide (b.n < 0)) (a.n.natAbs * b.d.natAbs) (a.d.natAbs * b.n.natAbs)) else (Zd, 2)) := rfl
 obtain ⟨R, hR0⟩ := Qg (J2 a b)
 rw [← hR0]
 have HR := Lib.hid hR0
 clear hR0
 rw [show J2 a b = R from HR.out.symm] at HV
 clear HR
 go_enter Tryz.func132, Tryz.ntmps132
 go_upto_region 1 with (fail)
 obtain ⟨v, hv⟩ := Qg (((w.alloc (.cells #[.int .i64 a.n, .int .i64 a.d] 65)).alloc (.cells #[.int .i64 b.n, .int .i64 b.d] 65)).alloc (.cells #[.int .i64 0, .int .i64 0] 65))
 rw [← hv]
 have E : Qa w v := by rw [hv]; exact (((Qa.refl _).alloc _).alloc _).alloc _
 have B1 : Qb v w.heap.size 65 #[.int .i64 a.n, .int .i64 a.d] := by rw [hv]; exact ((Qb.new _ _ _).alloc _).alloc _
 have B2 : Qb v (w.heap.size + 1) 65 #[.int .i64 b.n, .int .i64 b.d] := by rw [hv]; exact (Qb.at _ _ _ _ (by simp)).alloc _
 have B3 : Qb v (w.heap.size + 1 + 1) 65 #[.int .i64 0, .int .i64 0] := by rw [hv]; exact Qb.at _ _ _ _ (by simp)
 clear hv
 obtain ⟨b3, hb3⟩ := Qg (w.heap.size + 1 + 1)
 rw [← hb3] at B3 ⊢
 obtain ⟨b2, hb2⟩ := Qg (w.heap.size + 1)
 rw [← hb2] at B2 ⊢
 obtain ⟨b1, hb1⟩ := Qg (w.heap.size)
 rw [← hb1] at B1 ⊢
 have hbr : w.heap.size ≤ b3 := by omega
 have hbr1 : w.heap.size ≤ b1 := by omega
 have hbr2 : w.heap.size ≤ b2 := by omega
 have hn21 : b2 ≠ b1 := by omega
 have hn31 : b3 ≠ b1 := by omega
 have hn32 : b3 ≠ b2 := by omega
 clear hb1 hb2 hb3
 obtain ⟨k0, k1⟩ := B1.c2
 have lk := B1.lt
 obtain ⟨p0, p1⟩ := B2.c2
 have lp := B2.lt
 cases ha : a.ok
 ·simp only [ha] at NA
  have hr := HV.out
  rw [ha, Bool.false_and, if_neg (by decide)] at hr
  subst hr
  clear HV NC NB
  go_upto_region 2 with (go_at_call 121; (with_reducible refine Calls.mono (NA _) ?_); rintro e w2 ⟨rfl, h⟩)
  replace E := E.trans h
  replace B3 := B3.ext h
  have f0 := B3.frozen 0
  have f1 := B3.frozen 1
  obtain ⟨x0, x1⟩ := B3.c2
  have lx := B3.lt
  have H4 := Qn B3 (.int .i64 0) (.int .i64 0)
  have EF := (E.setCell (p := ⟨b3, 0, none⟩) hbr (.int .i64 0)).setCell (p := ⟨b3, 1, none⟩) hbr (.int .i64 0)
  obtain ⟨y0, y1⟩ := H4.c2
  go_wp2
  refine bodyPost_ret (v := .tuple #[.agg #[.int .i64 0, .int .i64 0], .int .i64 2]) (by simp [results, Tryz.results132, go_sem, y0, y1]) rfl ⟨rfl, EF⟩
 ·simp only [ha] at NA
  cases hb : b.ok
  ·simp only [hb] at NB
   have hr := HV.out
   rw [hb, Bool.and_false, if_neg (by decide)] at hr
   subst hr
   clear HV NC
   go_upto_region 2 with (first | (go_at_call 121; (with_reducible refine Calls.mono (NA _) ?_); rintro e w1 ⟨rfl, h1⟩; clear p0 p1 lp; obtain ⟨p0, p1⟩ := (B2.ext h1).c2; have lp := (B2.ext h1).lt) | (go_at_call 121; (with_reducible refine Calls.mono (NB _) ?_); rintro e w2 ⟨rfl, h⟩))
   replace E := (E.trans h1).trans h
   replace B3 := (B3.ext h1).ext h
   have f0 := B3.frozen 0
   have f1 := B3.frozen 1
   obtain ⟨x0, x1⟩ := B3.c2
   have lx := B3.lt
   have H4 := Qn B3 (.int .i64 0) (.int .i64 0)
   have EF := (E.setCell (p := ⟨b3, 0, none⟩) hbr (.int .i64 0)).setCell (p := ⟨b3, 1, none⟩) hbr (.int .i64 0)
   obtain ⟨y0, y1⟩ := H4.c2
   go_wp2
   refine bodyPost_ret (v := .tuple #[.agg #[.int .i64 0, .int .i64 0], .int .i64 2]) (by simp [results, Tryz.results132, go_sem, y0, y1]) rfl ⟨rfl, EF⟩
  ·simp only [hb] at NB
   replace NC := NC ha hb
   have hr := HV.out
   rw [ha, hb, Bool.and_true, if_pos rfl] at hr
   rw [← hr] at NC
   clear HV hr ha hb
   obtain ⟨⟨Rn, Rd⟩, Re⟩ := R
   go_upto_region 3 with (first | (go_at_call 121; (with_reducible refine Calls.mono (NA _) ?_); rintro e w1 ⟨rfl, h1⟩; clear p0 p1 lp; obtain ⟨p0, p1⟩ := (B2.ext h1).c2; have lp := (B2.ext h1).lt) | (go_at_call 121; (with_reducible refine Calls.mono (NB _) ?_); rintro e w2 ⟨rfl, h⟩))
   have e2 := (E.trans h1).trans h
   replace B3 := (B3.ext h1).ext h
   replace NC := NC w2 (hA.ext e2) (hB.ext e2) (hZ.ext e2)
   replace E := e2
   go_wp2_with (first | (go_at_call 171; (with_reducible refine Calls.mono (NC) ?_); rintro e wt ⟨rfl, ht⟩; replace E := E.trans ht; replace B3 := B3.ext ht; have f0 := B3.frozen 0; have f1 := B3.frozen 1; obtain ⟨x0, x1⟩ := B3.c2; have lx := B3.lt) | (go_at_fn 171; (with_reducible refine Calls.mono (NC) ?_); rintro e wt ⟨rfl, ht⟩; replace E := E.trans ht; replace B3 := B3.ext ht; have f0 := B3.frozen 0; have f1 := B3.frozen 1; obtain ⟨x0, x1⟩ := B3.c2; have lx := B3.lt))
   have H4 := Qn B3 (.int .i64 Rn) (.int .i64 Rd)
   have EF := (E.setCell (p := ⟨b3, 0, none⟩) hbr (.int .i64 Rn)).setCell (p := ⟨b3, 1, none⟩) hbr (.int .i64 Rd)
   obtain ⟨y0, y1⟩ := H4.c2
   go_wp2
   refine bodyPost_ret (v := .tuple #[.agg #[.int .i64 Rn, .int .i64 Rd], .int .i64 Re]) (by simp [results, Tryz.results132, go_sem, y0, y1]) rfl ⟨rfl, EF⟩
theorem Qbc (a b : Rt) (hia : a.In) (hib : b.In) (w : World) (hZ : Zu w) :
  Calls Tryz.prog 137 #[.agg #[.int .i64 a.n, .int .i64 a.d], .agg #[.int .i64 b.n, .int .i64 b.d]] w fun e w' => e = .returned (.tuple #[.agg #[.int .i64 (J2 a b).1.n, .int .i64 (J2 a b).1.d], .int .i64 (J2 a b).2]) ∧ Qa w w' := by
 have NC := fun ba bb w h1 h2 z => Qab a b hia hib ba bb w h1 h2 z
 obtain ⟨R, hR0⟩ := Qg (J2 a b)
 rw [← hR0]
 have HR := Lib.hid hR0
 clear hR0
 rw [show J2 a b = R from HR.out.symm] at NC
 clear HR
 go_enter Tryz.func137, Tryz.ntmps137
 go_upto_region 1 with (fail)
 obtain ⟨v, hv⟩ := Qg (((w.alloc (.cells #[.int .i64 a.n, .int .i64 a.d] 65)).alloc (.cells #[.int .i64 b.n, .int .i64 b.d] 65)).alloc (.cells #[.int .i64 0, .int .i64 0] 65))
 rw [← hv]
 have E : Qa w v := by rw [hv]; exact (((Qa.refl _).alloc _).alloc _).alloc _
 have B1 : Qb v w.heap.size 65 #[.int .i64 a.n, .int .i64 a.d] := by rw [hv]; exact ((Qb.new _ _ _).alloc _).alloc _
 have B2 : Qb v (w.heap.size + 1) 65 #[.int .i64 b.n, .int .i64 b.d] := by rw [hv]; exact (Qb.at _ _ _ _ (by simp)).alloc _
 have B3 : Qb v (w.heap.size + 1 + 1) 65 #[.int .i64 0, .int .i64 0] := by rw [hv]; exact Qb.at _ _ _ _ (by simp)
 clear hv
 obtain ⟨b3, hb3⟩ := Qg (w.heap.size + 1 + 1)
 rw [← hb3] at B3 ⊢
 obtain ⟨b2, hb2⟩ := Qg (w.heap.size + 1)
 rw [← hb2] at B2 ⊢
 obtain ⟨b1, hb1⟩ := Qg (w.heap.size)
 rw [← hb1] at B1 ⊢
 have hbr : w.heap.size ≤ b3 := by omega
 have hbr1 : w.heap.size ≤ b1 := by omega
 have hbr2 : w.heap.size ≤ b2 := by omega
 have hn21 : b2 ≠ b1 := by omega
 have hn31 : b3 ≠ b1 := by omega
 have hn32 : b3 ≠ b2 := by omega
 clear hb1 hb2 hb3
 have Z0 := hZ.ext E
 obtain ⟨k0, k1⟩ := B1.c2
 have lk := B1.lt
 obtain ⟨p0, p1⟩ := B2.c2
 have lp := B2.lt
 obtain ⟨⟨Rn, Rd⟩, Re⟩ := R
 go_wp2_with (first | (go_at_call 132; (with_reducible refine Calls.mono (NC _ _ _ B1 B2 Z0) ?_); rintro e wt ⟨rfl, ht⟩; replace E := E.trans ht; replace B3 := B3.ext ht; have f0 := B3.frozen 0; have f1 := B3.frozen 1; obtain ⟨x0, x1⟩ := B3.c2; have lx := B3.lt))
 have H4 := Qn B3 (.int .i64 Rn) (.int .i64 Rd)
 have EF := (E.setCell (p := ⟨b3, 0, none⟩) hbr (.int .i64 Rn)).setCell (p := ⟨b3, 1, none⟩) hbr (.int .i64 Rd)
 obtain ⟨y0, y1⟩ := H4.c2
 go_wp2
 refine bodyPost_ret (v := .tuple #[.agg #[.int .i64 Rn, .int .i64 Rd], .int .i64 Re]) (by simp [results, Tryz.results137, go_sem, y0, y1]) rfl ⟨rfl, EF⟩
end
section
structure Tk where
 a : Rt
 r : Rt
structure Cw where
 w : Int
 s : Rt
 f : Dt
 t : Dt
/-- The sum of g k .. from s on; the first error ends it. -/
def Xw (g : Nat → Rt × Int) : Nat → Nat → Rt → Rt × Int
 | _, 0, s => (s, 0)
 | k, m + 1, s => if (g k).2 ≠ 0 then (Zd, (g k).2) else if (Q4 s (g k).1).2 ≠ 0 then (Zd, (Q4 s (g k).1).2) else Xw g (k + 1) m (Q4 s (g k).1).1
def Wc (g : Nat → Rt × Int) (n : Nat) : Rt × Int := Xw g 0 n (Zy 0)
def Ve (x : Tk) : Bool := x.a.nn && x.r.pos
def Jg (t : Nat → Tk) (n : Nat) : Rt × Int := if 64 < n then (Zd, 3) else if (List.range n).all (fun i => Ve (t i)) then Wc (fun i => J2 (t i).a (t i).r) n else (Zd, 81)
def Qf.crewOk (c : Qf) (x : Cw) : Bool := decide (0 ≤ x.w) && decide (x.w ≤ 4096) && x.s.shr && (decide (0 < c.numV x.f) && decide (c.numV x.f ≤ c.numV x.t))
def Wj (c : Qf) (x : Cw) : Nat → Rt
 | 0 => Zy x.w
 | 1 => x.s
 | _ => Zy (c.schV x.f x.t + 1)
def Qf.availV (c : Qf) (w : Nat → Cw) (n : Nat) : Rt × Int := if 64 < n then (Zd, 3) else if (List.range n).all (fun i => c.crewOk (w i)) then Wc (fun i => Yi (Wj c (w i)) 3) n else (Zd, 81)
def Qf.balV (c : Qf) (t : Nat → Tk) (n : Nat) (w : Nat → Cw) (m : Nat) : Rt × Int :=
 if !c.valid then (Zd, 70) else if (Jg t n).2 ≠ 0 then (Zd, (Jg t n).2) else if (c.availV w m).2 ≠ 0 then (Zd, (c.availV w m).2) else Zs (c.availV w m).1 (Jg t n).1
def Qf.fewN (c : Qf) (t : Nat → Tk) (n : Nat) (s : Rt) (f u : Dt) : Int := ((Jg t n).1.n * s.d + s.n * (c.schV f u + 1) * (Jg t n).1.d - 1) / (s.n * (c.schV f u + 1) * (Jg t n).1.d)
def Qf.fewV (c : Qf) (t : Nat → Tk) (n : Nat) (s : Rt) (f u : Dt) : Int × Int :=
 if !c.valid then (0, 70) else if (Jg t n).2 ≠ 0 then (0, (Jg t n).2)
 else if s.shr && decide (s.n ≠ 0) && (decide (0 < c.numV f) && decide (c.numV f ≤ c.numV u)) then (if 4096 < c.fewN t n s f u then (0, 8) else (c.fewN t n s f u, 0)) else (0, 81)
end
section
open Go Go.RowKit Go.Shelf
attribute [local go_sem] Zq
theorem Qge (g : Nat → Rt × Int) (n : Nat) (p1 : Nat) (w : World) (hg : ∀ i, i < n → ∀ u, Qa w u → Calls Tryz.prog 136 #[.int .i64 (i : Int), .pointer (some ⟨p1, 0, none⟩)] u fun e u' => e = .returned (.tuple #[.agg #[.int .i64 (g i).1.n, .int .i64 (g i).1.d], .int .i64 (g i).2]) ∧ Qa u u') (hin : ∀ i, i < n → (g i).1.In) (hn : n ≤ 1000000) (hZ : Zu w) :
  Calls Tryz.prog 135 #[.int .i64 (n : Int), .func (.func 136) #[] #[.pointer (some ⟨p1, 0, none⟩)]] w fun e w' => e = .returned (.tuple #[.agg #[.int .i64 (Wc g n).1.n, .int .i64 (Wc g n).1.d], .int .i64 (Wc g n).2]) ∧ Qa w w' := by
 obtain ⟨V, hV0⟩ := Qg (Wc g n)
 rw [← hV0]
 replace hV0 := Lib.hid hV0
 go_enter Tryz.func135, Tryz.ntmps135
 go_upto_region 1 with (fail)
 obtain ⟨v, hv⟩ := Qg (w.alloc (.cells #[.int .i64 0, .int .i64 0] 65))
 rw [← hv]
 have E : Qa w v := by rw [hv]; exact (Qa.refl _).alloc _
 have B1 : Qb v w.heap.size 65 #[.int .i64 0, .int .i64 0] := by rw [hv]; exact (Qb.new _ _ _)
 clear hv
 obtain ⟨b1, hb1⟩ := Qg (w.heap.size)
 rw [← hb1] at B1 ⊢
 have hbr : w.heap.size ≤ b1 := by omega
 clear hb1
 have Z0 := hZ.ext E
 go_upto_region 3 with (go_at_call 72; (with_reducible refine Calls.mono (Xm _ _) ?_); rintro e w1 ⟨rfl, h1⟩)
 obtain ⟨v1, hv⟩ := Qg (w1.alloc (.cells #[.int .i64 0, .int .i64 1] 65))
 rw [← hv]
 have HE : Qa v v1 := by rw [hv]; exact h1.alloc _
 have H6 : Qb v1 w1.heap.size 65 #[.int .i64 0, .int .i64 1] := by rw [hv]; exact Qb.new _ _ _
 clear hv
 obtain ⟨b6, hb6⟩ := Qg (w1.heap.size)
 rw [← hb6] at H6 ⊢
 have g6 : v.heap.size ≤ b6 := by have := h1.size; omega
 clear hb6 h1
 go_loopw [12] (fun iv wr => ∃ k : Nat, k ≤ n ∧ iv = .int .i64 (k : Int) ∧ ∃ s, Rt.In s ∧ Qa v wr ∧ Qb wr b6 65 #[.int .i64 s.n, .int .i64 s.d] ∧ Hid (V = Xw g k (n - k) s)) (fun iv _ => n - (intOf iv).toNat)
 case atStart => exact ⟨0, Nat.zero_le _, rfl, Zy 0, Uc, HE, H6, hV0.out⟩
 case round =>
  clear HE H6 hV0
  obtain ⟨k, hk, rfl, s, hs, HE, H6, hV⟩ := hrel
  obtain ⟨wo, rfl⟩ := Qg wr
  by_cases hlt : k < n
  ·obtain ⟨m, hm⟩ : ∃ m, n - k = m + 1 := ⟨n - k - 1, by omega⟩
   have hm2 : n - (k + 1) = m := by omega
   have hV' : Hid (V = if (g k).2 ≠ 0 then (Zd, (g k).2) else if (Q4 s (g k).1).2 ≠ 0 then (Zd, (Q4 s (g k).1).2) else Xw g (k + 1) m (Q4 s (g k).1).1) := by
    unfold Hid; rw [hV.out, hm]; rfl
   have NG := hg k hlt wo (E.trans HE)
   have hgi := hin k hlt
   clear hV hm hg hin
   generalize g k = G at *
   obtain ⟨⟨Gn, Gd⟩, Ge⟩ := G
   simp only [] at hV' NG hgi
   go_upto_region 6 with (first | (go_at_call 136; (with_reducible refine Calls.mono (NG) ?_); rintro e w8 ⟨rfl, h8⟩) | (go_at_fn 136; (with_reducible refine Calls.mono (NG) ?_); rintro e w8 ⟨rfl, h8⟩))
   obtain ⟨v2, hv⟩ := Qg (w8.alloc (.cells #[.int .i64 Gn, .int .i64 Gd] 65))
   rw [← hv]
   have E2 : Qa w8 v2 := by rw [hv]; exact (Qa.refl _).alloc _
   have H8 : Qb v2 w8.heap.size 65 #[.int .i64 Gn, .int .i64 Gd] := by rw [hv]; exact Qb.new _ _ _
   clear hv
   have hz := h8.size
   have h6l := H6.lt
   have hzv := HE.size
   obtain ⟨b8, hb8⟩ := Qg (w8.heap.size)
   rw [← hb8] at H8 ⊢
   have n68 : b6 ≠ b8 := by omega
   have g8 : v.heap.size ≤ b8 := by omega
   clear hb8 hz h6l hzv
   replace HE := (HE.trans h8).trans E2
   replace H6 := (H6.ext h8).ext E2
   clear h8 E2 NG
   by_cases h0 : Ge = 0
   ·subst h0
    have NA := fun w z => Lf s ⟨Gn, Gd⟩ hs hgi w z
    have hSi := Vq s ⟨Gn, Gd⟩
    generalize Q4 s ⟨Gn, Gd⟩ = S at *
    obtain ⟨⟨Sn, Sd⟩, Se⟩ := S
    simp only [] at hV' NA hSi
    obtain ⟨p0, p1⟩ := H6.c2
    have lp := H6.lt
    obtain ⟨q0, q1⟩ := H8.c2
    have lq := H8.lt
    go_upto_region 8 with (go_at_call 86; (with_reducible refine Calls.mono (NA _ (Z0.ext HE)) ?_); rintro e w9 ⟨rfl, h9⟩; replace HE := HE.trans h9; replace H6 := H6.ext h9; replace H8 := H8.ext h9; clear q0 q1 lq p0 p1 lp; have f0 := H8.frozen 0; have f1 := H8.frozen 1; obtain ⟨x0, x1⟩ := H8.c2; have lx := H8.lt)
    have H8b := Qn H8 (.int .i64 Sn) (.int .i64 Sd)
    have H6b := Qi (Qi H6 n68 0 (.int .i64 Sn)) n68 1 (.int .i64 Sd)
    have HEb := (HE.setCell (p := ⟨b8, 0, none⟩) g8 (.int .i64 Sn)).setCell (p := ⟨b8, 1, none⟩) g8 (.int .i64 Sd)
    generalize World.setCell _ _ _ = v3 at *
    clear f0 f1 x0 x1 lx H6 H8 HE
    have HE := HEb
    have H6 := H6b
    have H8 := H8b
    clear HEb H6b H8b
    by_cases h1 : Se = 0
    ·subst h1
     obtain ⟨q0, q1⟩ := H8.c2
     have lq := H8.lt
     have f0 := H6.frozen 0
     have f1 := H6.frozen 1
     obtain ⟨x0, x1⟩ := H6.c2
     have lx := H6.lt
     have H6b := Qn H6 (.int .i64 Sn) (.int .i64 Sd)
     have HEb := (HE.setCell (p := ⟨b6, 0, none⟩) g6 (.int .i64 Sn)).setCell (p := ⟨b6, 1, none⟩) g6 (.int .i64 Sd)
     have hV2 : Hid (V = Xw g (k + 1) m ⟨Sn, Sd⟩) := by unfold Hid; rw [hV'.out, if_neg (by simp), if_neg (by simp)]
     rw [← hm2] at hV2
     clear hV' hm2
     go_wp2
     exact ⟨⟨k + 1, by omega, by go_num, ⟨Sn, Sd⟩, hSi, HEb, H6b, hV2⟩, by simp [intOf]; omega⟩
    ·have g0 : (Se == 0) = false := beq_eq_false_iff_ne.2 h1
     have g0n : (Se != 0) = true := by rw [bne, g0]; rfl
     have hr := hV'.out
     rw [if_neg (by simp), if_pos h1] at hr
     subst hr
     clear hV' h1
     replace B1 := B1.ext HE
     replace E := E.trans HE
     have f0 := B1.frozen 0
     have f1 := B1.frozen 1
     obtain ⟨x0, x1⟩ := B1.c2
     have lx := B1.lt
     have H4 := Qn B1 (.int .i64 0) (.int .i64 0)
     have EF := (E.setCell (p := ⟨b1, 0, none⟩) hbr (.int .i64 0)).setCell (p := ⟨b1, 1, none⟩) hbr (.int .i64 0)
     obtain ⟨y0, y1⟩ := H4.c2
     go_wp2
     refine bodyPost_ret (v := .tuple #[.agg #[.int .i64 0, .int .i64 0], .int .i64 Se]) (by simp [results, Tryz.results135, go_sem, y0, y1]) rfl ⟨rfl, EF⟩
   ·have g0 : (Ge == 0) = false := beq_eq_false_iff_ne.2 h0
    have g0n : (Ge != 0) = true := by rw [bne, g0]; rfl
    have hr := hV'.out
    rw [if_pos h0] at hr
    subst hr
    clear hV' h0
    replace B1 := B1.ext HE
    replace E := E.trans HE
    have f0 := B1.frozen 0
    have f1 := B1.frozen 1
    obtain ⟨x0, x1⟩ := B1.c2
    have lx := B1.lt
    have H4 := Qn B1 (.int .i64 0) (.int .i64 0)
    have EF := (E.setCell (p := ⟨b1, 0, none⟩) hbr (.int .i64 0)).setCell (p := ⟨b1, 1, none⟩) hbr (.int .i64 0)
    obtain ⟨y0, y1⟩ := H4.c2
    go_wp2
    refine bodyPost_ret (v := .tuple #[.agg #[.int .i64 0, .int .i64 0], .int .i64 Ge]) (by simp [results, Tryz.results135, go_sem, y0, y1]) rfl ⟨rfl, EF⟩
  ·obtain rfl : k = n := by omega
   have hr := hV.out
   rw [Nat.sub_self] at hr
   have hr2 : V = (s, 0) := hr
   subst hr2
   clear hV hr
   obtain ⟨p0, p1⟩ := H6.c2
   have lp := H6.lt
   replace B1 := B1.ext HE
   replace E := E.trans HE
   have f0 := B1.frozen 0
   have f1 := B1.frozen 1
   obtain ⟨x0, x1⟩ := B1.c2
   have lx := B1.lt
   have H4 := Qn B1 (.int .i64 s.n) (.int .i64 s.d)
   have EF := (E.setCell (p := ⟨b1, 0, none⟩) hbr (.int .i64 s.n)).setCell (p := ⟨b1, 1, none⟩) hbr (.int .i64 s.d)
   obtain ⟨y0, y1⟩ := H4.c2
   go_wp2
   refine bodyPost_ret (v := .tuple #[.agg #[.int .i64 s.n, .int .i64 s.d], .int .i64 0]) (by simp [results, Tryz.results135, go_sem, y0, y1]) rfl ⟨rfl, EF⟩
theorem Qgd (g : Nat → Rt × Int) (n : Nat) (p1 p2 : Nat) (w : World) (hg : ∀ i, i < n → ∀ u, Qa w u → Calls Tryz.prog 138 #[.int .i64 (i : Int), .pointer (some ⟨p1, 0, none⟩), .pointer (some ⟨p2, 0, none⟩)] u fun e u' => e = .returned (.tuple #[.agg #[.int .i64 (g i).1.n, .int .i64 (g i).1.d], .int .i64 (g i).2]) ∧ Qa u u') (hin : ∀ i, i < n → (g i).1.In) (hn : n ≤ 1000000) (hZ : Zu w) :
  Calls Tryz.prog 135 #[.int .i64 (n : Int), .func (.func 138) #[] #[.pointer (some ⟨p1, 0, none⟩), .pointer (some ⟨p2, 0, none⟩)]] w fun e w' => e = .returned (.tuple #[.agg #[.int .i64 (Wc g n).1.n, .int .i64 (Wc g n).1.d], .int .i64 (Wc g n).2]) ∧ Qa w w' := by
 obtain ⟨V, hV0⟩ := Qg (Wc g n)
 rw [← hV0]
 replace hV0 := Lib.hid hV0
 go_enter Tryz.func135, Tryz.ntmps135
 go_upto_region 1 with (fail)
 obtain ⟨v, hv⟩ := Qg (w.alloc (.cells #[.int .i64 0, .int .i64 0] 65))
 rw [← hv]
 have E : Qa w v := by rw [hv]; exact (Qa.refl _).alloc _
 have B1 : Qb v w.heap.size 65 #[.int .i64 0, .int .i64 0] := by rw [hv]; exact (Qb.new _ _ _)
 clear hv
 obtain ⟨b1, hb1⟩ := Qg (w.heap.size)
 rw [← hb1] at B1 ⊢
 have hbr : w.heap.size ≤ b1 := by omega
 clear hb1
 have Z0 := hZ.ext E
 go_upto_region 3 with (go_at_call 72; (with_reducible refine Calls.mono (Xm _ _) ?_); rintro e w1 ⟨rfl, h1⟩)
 obtain ⟨v1, hv⟩ := Qg (w1.alloc (.cells #[.int .i64 0, .int .i64 1] 65))
 rw [← hv]
 have HE : Qa v v1 := by rw [hv]; exact h1.alloc _
 have H6 : Qb v1 w1.heap.size 65 #[.int .i64 0, .int .i64 1] := by rw [hv]; exact Qb.new _ _ _
 clear hv
 obtain ⟨b6, hb6⟩ := Qg (w1.heap.size)
 rw [← hb6] at H6 ⊢
 have g6 : v.heap.size ≤ b6 := by have := h1.size; omega
 clear hb6 h1
 go_loopw [12] (fun iv wr => ∃ k : Nat, k ≤ n ∧ iv = .int .i64 (k : Int) ∧ ∃ s, Rt.In s ∧ Qa v wr ∧ Qb wr b6 65 #[.int .i64 s.n, .int .i64 s.d] ∧ Hid (V = Xw g k (n - k) s)) (fun iv _ => n - (intOf iv).toNat)
 case atStart => exact ⟨0, Nat.zero_le _, rfl, Zy 0, Uc, HE, H6, hV0.out⟩
 case round =>
  clear HE H6 hV0
  obtain ⟨k, hk, rfl, s, hs, HE, H6, hV⟩ := hrel
  obtain ⟨wo, rfl⟩ := Qg wr
  by_cases hlt : k < n
  ·obtain ⟨m, hm⟩ : ∃ m, n - k = m + 1 := ⟨n - k - 1, by omega⟩
   have hm2 : n - (k + 1) = m := by omega
   have hV' : Hid (V = if (g k).2 ≠ 0 then (Zd, (g k).2) else if (Q4 s (g k).1).2 ≠ 0 then (Zd, (Q4 s (g k).1).2) else Xw g (k + 1) m (Q4 s (g k).1).1) := by
    unfold Hid; rw [hV.out, hm]; rfl
   have NG := hg k hlt wo (E.trans HE)
   have hgi := hin k hlt
   clear hV hm hg hin
   generalize g k = G at *
   obtain ⟨⟨Gn, Gd⟩, Ge⟩ := G
   simp only [] at hV' NG hgi
   go_upto_region 6 with (first | (go_at_call 138; (with_reducible refine Calls.mono (NG) ?_); rintro e w8 ⟨rfl, h8⟩) | (go_at_fn 138; (with_reducible refine Calls.mono (NG) ?_); rintro e w8 ⟨rfl, h8⟩))
   obtain ⟨v2, hv⟩ := Qg (w8.alloc (.cells #[.int .i64 Gn, .int .i64 Gd] 65))
   rw [← hv]
   have E2 : Qa w8 v2 := by rw [hv]; exact (Qa.refl _).alloc _
   have H8 : Qb v2 w8.heap.size 65 #[.int .i64 Gn, .int .i64 Gd] := by rw [hv]; exact Qb.new _ _ _
   clear hv
   have hz := h8.size
   have h6l := H6.lt
   have hzv := HE.size
   obtain ⟨b8, hb8⟩ := Qg (w8.heap.size)
   rw [← hb8] at H8 ⊢
   have n68 : b6 ≠ b8 := by omega
   have g8 : v.heap.size ≤ b8 := by omega
   clear hb8 hz h6l hzv
   replace HE := (HE.trans h8).trans E2
   replace H6 := (H6.ext h8).ext E2
   clear h8 E2 NG
   by_cases h0 : Ge = 0
   ·subst h0
    have NA := fun w z => Lf s ⟨Gn, Gd⟩ hs hgi w z
    have hSi := Vq s ⟨Gn, Gd⟩
    generalize Q4 s ⟨Gn, Gd⟩ = S at *
    obtain ⟨⟨Sn, Sd⟩, Se⟩ := S
    simp only [] at hV' NA hSi
    obtain ⟨p0, p1⟩ := H6.c2
    have lp := H6.lt
    obtain ⟨q0, q1⟩ := H8.c2
    have lq := H8.lt
    go_upto_region 8 with (go_at_call 86; (with_reducible refine Calls.mono (NA _ (Z0.ext HE)) ?_); rintro e w9 ⟨rfl, h9⟩; replace HE := HE.trans h9; replace H6 := H6.ext h9; replace H8 := H8.ext h9; clear q0 q1 lq p0 p1 lp; have f0 := H8.frozen 0; have f1 := H8.frozen 1; obtain ⟨x0, x1⟩ := H8.c2; have lx := H8.lt)
    have H8b := Qn H8 (.int .i64 Sn) (.int .i64 Sd)
    have H6b := Qi (Qi H6 n68 0 (.int .i64 Sn)) n68 1 (.int .i64 Sd)
    have HEb := (HE.setCell (p := ⟨b8, 0, none⟩) g8 (.int .i64 Sn)).setCell (p := ⟨b8, 1, none⟩) g8 (.int .i64 Sd)
    generalize World.setCell _ _ _ = v3 at *
    clear f0 f1 x0 x1 lx H6 H8 HE
    have HE := HEb
    have H6 := H6b
    have H8 := H8b
    clear HEb H6b H8b
    by_cases h1 : Se = 0
    ·subst h1
     obtain ⟨q0, q1⟩ := H8.c2
     have lq := H8.lt
     have f0 := H6.frozen 0
     have f1 := H6.frozen 1
     obtain ⟨x0, x1⟩ := H6.c2
     have lx := H6.lt
     have H6b := Qn H6 (.int .i64 Sn) (.int .i64 Sd)
     have HEb := (HE.setCell (p := ⟨b6, 0, none⟩) g6 (.int .i64 Sn)).setCell (p := ⟨b6, 1, none⟩) g6 (.int .i64 Sd)
     have hV2 : Hid (V = Xw g (k + 1) m ⟨Sn, Sd⟩) := by unfold Hid; rw [hV'.out, if_neg (by simp), if_neg (by simp)]
     rw [← hm2] at hV2
     clear hV' hm2
     go_wp2
     exact ⟨⟨k + 1, by omega, by go_num, ⟨Sn, Sd⟩, hSi, HEb, H6b, hV2⟩, by simp [intOf]; omega⟩
    ·have g0 : (Se == 0) = false := beq_eq_false_iff_ne.2 h1
     have g0n : (Se != 0) = true := by rw [bne, g0]; rfl
     have hr := hV'.out
     rw [if_neg (by simp), if_pos h1] at hr
     subst hr
     clear hV' h1
     replace B1 := B1.ext HE
     replace E := E.trans HE
     have f0 := B1.frozen 0
     have f1 := B1.frozen 1
     obtain ⟨x0, x1⟩ := B1.c2
     have lx := B1.lt
     have H4 := Qn B1 (.int .i64 0) (.int .i64 0)
     have EF := (E.setCell (p := ⟨b1, 0, none⟩) hbr (.int .i64 0)).setCell (p := ⟨b1, 1, none⟩) hbr (.int .i64 0)
     obtain ⟨y0, y1⟩ := H4.c2
     go_wp2
     refine bodyPost_ret (v := .tuple #[.agg #[.int .i64 0, .int .i64 0], .int .i64 Se]) (by simp [results, Tryz.results135, go_sem, y0, y1]) rfl ⟨rfl, EF⟩
   ·have g0 : (Ge == 0) = false := beq_eq_false_iff_ne.2 h0
    have g0n : (Ge != 0) = true := by rw [bne, g0]; rfl
    have hr := hV'.out
    rw [if_pos h0] at hr
    subst hr
    clear hV' h0
    replace B1 := B1.ext HE
    replace E := E.trans HE
    have f0 := B1.frozen 0
    have f1 := B1.frozen 1
    obtain ⟨x0, x1⟩ := B1.c2
    have lx := B1.lt
    have H4 := Qn B1 (.int .i64 0) (.int .i64 0)
    have EF := (E.setCell (p := ⟨b1, 0, none⟩) hbr (.int .i64 0)).setCell (p := ⟨b1, 1, none⟩) hbr (.int .i64 0)
    obtain ⟨y0, y1⟩ := H4.c2
    go_wp2
    refine bodyPost_ret (v := .tuple #[.agg #[.int .i64 0, .int .i64 0], .int .i64 Ge]) (by simp [results, Tryz.results135, go_sem, y0, y1]) rfl ⟨rfl, EF⟩
  ·obtain rfl : k = n := by omega
   have hr := hV.out
   rw [Nat.sub_self] at hr
   have hr2 : V = (s, 0) := hr
   subst hr2
   clear hV hr
   obtain ⟨p0, p1⟩ := H6.c2
   have lp := H6.lt
   replace B1 := B1.ext HE
   replace E := E.trans HE
   have f0 := B1.frozen 0
   have f1 := B1.frozen 1
   obtain ⟨x0, x1⟩ := B1.c2
   have lx := B1.lt
   have H4 := Qn B1 (.int .i64 s.n) (.int .i64 s.d)
   have EF := (E.setCell (p := ⟨b1, 0, none⟩) hbr (.int .i64 s.n)).setCell (p := ⟨b1, 1, none⟩) hbr (.int .i64 s.d)
   obtain ⟨y0, y1⟩ := H4.c2
   go_wp2
   refine bodyPost_ret (v := .tuple #[.agg #[.int .i64 s.n, .int .i64 s.d], .int .i64 0]) (by simp [results, Tryz.results135, go_sem, y0, y1]) rfl ⟨rfl, EF⟩
end
end Go.Proofs.YtoflcheopfppoaaGreatDoor
