/- Walks of the program's functions and plain facts, packed; proved: the lemmas below; no conditions but those that each states. -/
import Derived.Test.YtneiofnlmblglaaDoorU4
import Derived.Test.YtneiofnlmblglaaDoorU2
set_option maxRecDepth 100000
set_option maxHeartbeats 4000000
namespace Go.Proofs.YtneiofnlmblglaaDoor
section
open Go Go.RowKit Go.Shelf
attribute [local go_sem] Zi
/-- From w to w' no old block changes but those of S. -/
structure Qx (S : List Nat) (w w' : World) : Prop where
 base : ∀ B, B ≤ w.heap.size → (∀ k, k ∈ S → B ≤ k) → Below B w w'
 keep : ∀ k, k < w.heap.size → k ∉ S → w'.heap[k]? = w.heap[k]?
 size : w.heap.size ≤ w'.heap.size
namespace Qx
variable {S T : List Nat} {a b c W : World}
theorem of_ext (h : Qa a b) : Qx S a b := ⟨fun _ hB _ => Below.mono h hB, fun _ hk _ => h.block hk, h.size⟩
theorem refl (a : World) : Qx S a a := of_ext (Qa.refl a)
theorem trans (h : Qx S a b) (k : Qx S b c) : Qx S a c :=
 ⟨fun B hB hS => Below.trans (h.base B hB hS) (k.base B (Nat.le_trans hB h.size) hS), fun j hj hjS => (k.keep j (Nat.lt_of_lt_of_le hj h.size) hjS).trans (h.keep j hj hjS), Nat.le_trans h.size k.size⟩
theorem set (a : World) {b : Nat} (hb : b ∈ S) (j : Nat) (u : Value) : Qx S a (a.setCell ⟨b, j, none⟩ u) :=
 ⟨fun B hB hS => Below.setCell (Below.refl B a) (p := ⟨b, j, none⟩) (hS b hb) u, fun k _ hk => Below.heap_setCell _ _ _ k (fun e => hk (by have e' : k = b := e; rw [e']; exact hb)), (KeepsWalks.setCell a _ u).size⟩
theorem mono (h : Qx S a b) (hs : ∀ k, k ∈ S → k ∈ T) : Qx T a b := ⟨fun B hB hT => h.base B hB fun k hk => hT k (hs k hk), fun k hk hkT => h.keep k hk fun h' => hkT (hs k h'), h.size⟩
theorem ext (h : Qx S a b) (e : Qa W a) (hS : ∀ k, k ∈ S → W.heap.size ≤ k) : Qa W b := Below.trans e (h.base W.heap.size e.size hS)
theorem held (h : Qx S a b) {k : Nat} {t : TypeId} {cs : Array Value} (hk : Qb a k t cs) (hS : k ∉ S) : Qb b k t cs := (h.keep k hk.lt hS).trans hk
/-- Stores into a box that is younger than a. -/
theorem far1 (h : Qx S a b) {k : Nat} (hk : a.heap.size ≤ k) (j : Nat) (u : Value) : Qx S a (b.setCell ⟨k, j, none⟩ u) :=
 ⟨fun B hB hS => Below.setCell (h.base B hB hS) (p := ⟨k, j, none⟩) (Nat.le_trans hB hk) u, fun i hi hiS => (Below.heap_setCell _ _ _ i (fun e => by have e' : i = k := e; omega)).trans (h.keep i hi hiS), Nat.le_trans h.size (KeepsWalks.setCell b _ u).size⟩
theorem far (h : Qx S a b) {k : Nat} (hk : a.heap.size ≤ k) (i j : Nat) (u v : Value) : Qx S a ((b.setCell ⟨k, i, none⟩ u).setCell ⟨k, j, none⟩ v) := (h.far1 hk i u).far1 hk j v
end Qx
theorem Yx {W w : World} (h : Qa W w) (t : TypeId) (cs : Array Value) : ∃ b, b = w.heap.size ∧ Qb (w.alloc (.cells cs t)) b t cs ∧ Qa W (w.alloc (.cells cs t)) ∧ W.heap.size ≤ b := ⟨_, rfl, Qb.new w t cs, h.alloc _, h.size⟩
def Rw (A : Nat → Act) (S : World → Nat → Prop) : Exit → Act → World → Prop := fun e a' w' => e = .normal ∧ ∃ r, S w' r ∧ a' = A r
theorem Jw {A : Nat → Act} {S : World → Nat → Prop} {w' : World} (r : Nat) {a' : Act} (h : S w' r) (ha : a' = A r) : Rw A S .normal a' w' := ⟨rfl, r, h, ha⟩
theorem Ut {P : Program} {c : Code} {Q : Exit → Act → World → Prop} {a : Act} {w : World} {A : Nat → Act} (S : World → Nat → Prop) (h1 : c.wp P (Rw A S) a w) (h2 : ∀ r w', S w' r → Q .normal (A r) w') : c.wp P Q a w :=
 Code.wp_mono (fun e a' w' ⟨he, r, hs, ha⟩ => by subst he; subst ha; exact h2 r w' hs) h1
section
variable {W : World} {b : Nat} {t : TypeId} {v0 v1 v2 v3 v4 v5 : Value}
theorem Ow (h : Qb W b t #[v0, v1, v2, v3, v4, v5]) (u0 u1 : Value) : Qb ((W.setCell ⟨b, 0, none⟩ u0).setCell ⟨b, 1, none⟩ u1) b t #[u0, u1, v2, v3, v4, v5] := by unfold Qb at h ⊢; simp [World.setCell, Array.getElem?_modify, h]
theorem L3 (h : Qb W b t #[v0, v1, v2, v3, v4, v5]) (u0 u1 : Value) : Qb ((W.setCell ⟨b, 2, none⟩ u0).setCell ⟨b, 3, none⟩ u1) b t #[v0, v1, u0, u1, v4, v5] := by unfold Qb at h ⊢; simp [World.setCell, Array.getElem?_modify, h]
theorem Qa6 (h : Qb W b t #[v0, v1, v2, v3, v4, v5]) (u0 u1 : Value) : Qb ((W.setCell ⟨b, 4, none⟩ u0).setCell ⟨b, 5, none⟩ u1) b t #[v0, v1, v2, v3, u0, u1] := by unfold Qb at h ⊢; simp [World.setCell, Array.getElem?_modify, h]
theorem Sa (h : Qb W b t #[v0, v1, v2, v3]) (u0 u1 u2 u3 : Value) : Qb ((((W.setCell ⟨b, 0, none⟩ u0).setCell ⟨b, 1, none⟩ u1).setCell ⟨b, 2, none⟩ u2).setCell ⟨b, 3, none⟩ u3) b t #[u0, u1, u2, u3] := by unfold Qb at h ⊢; simp [World.setCell, Array.getElem?_modify, h]
end
theorem M1 {neg : Bool} {P Q : Nat} (hQ : 1 ≤ Q) : (Jc neg P Q).1.In := by
 by_cases h : (Jc neg P Q).2 = 0
 ·exact Df (M2 hQ h).1
 ·unfold Jc at h ⊢
  by_cases hb : P / Nat.gcd P Q ≤ 1099511627776 ∧ Q / Nat.gcd P Q ≤ 1048576
  ·rw [if_pos hb] at h; exact absurd rfl h
  ·rw [if_neg hb]; unfold Rt.In Zc; decide
theorem Yj : Zc.In := by unfold Rt.In Zc; decide
theorem Wl : (Zs 0).In := by unfold Rt.In Zs; decide
theorem D5 {n d : Int} (hd : 1 ≤ d) : (Ji n d).1.In := by unfold Ji; rw [if_neg (by omega)]; exact M1 (by omega)
theorem U0 (a b : Rt) : (Q7 a b).1.In := by
 unfold Q7
 by_cases h : a.ok && b.ok
 ·rw [if_pos h]; obtain ⟨h1, h2⟩ := Bool.and_eq_true_iff.1 h; exact D5 (Xg h1 h2).2.2.1
 ·rw [if_neg h]; exact Yj
theorem Bs (a b : Rt) : (Zq a b).1.In := by
 unfold Zq
 by_cases h : a.ok && b.ok
 ·rw [if_pos h]; obtain ⟨h1, h2⟩ := Bool.and_eq_true_iff.1 h; exact D5 (Xg h1 h2).2.2.1
 ·rw [if_neg h]; exact Yj
theorem Qbf (p r : Rt) (k : Int) : (Zu p r k).1.In := by
 unfold Zu
 by_cases h : p.nn && r.nn
 ·rw [if_pos h]
  obtain ⟨h1, h2⟩ := Bool.and_eq_true_iff.1 h
  by_cases hk : k < 0 ∨ 1099511627776 < k
  ·rw [if_pos hk]; exact Yj
  ·rw [if_neg hk]
   exact M1 (Vi 4 fun i hi => by have := (Zk (Th (k := k) (Jt h1).1 (Jt h2).1 (by omega) (by omega) i hi)).1; omega)
 ·rw [if_neg h]; exact Yj
theorem Mw {x n : Rt} : (Qy x n).1.1.In ∧ (Qy x n).1.2.In := by
 unfold Qy
 split
 ·exact ⟨Bs _ _, Wl⟩
 ·exact ⟨Wl, Bs _ _⟩
structure Db.In (x : Db) : Prop where
 p : x.p.In
 i : x.i.In
 s : x.s.In
theorem Yt (r : Rt) (f ee : Int) (be : Nat) (w : World) (hE : Qb w be 33 #[.int .i64 ee]) :
  Calls Tryd.prog 78 #[.agg #[.int .i64 r.n, .int .i64 r.d], .int .i64 f, .pointer (some ⟨be, 0, none⟩)] w fun e w' => e = .returned (.agg #[.int .i64 r.n, .int .i64 r.d]) ∧ Qx [be] w w' ∧ Qb w' be 33 #[.int .i64 (if ee = 0 then f else ee)] := by
 by_cases h0 : ee = 0
 ·have g1 : (ee == 0) = true := by rw [h0]; rfl
  rw [if_pos h0]
  subst h0
  go_enter Tryd.func78, Tryd.ntmps78
  go_upto_region 1 with (fail)
  obtain ⟨v, hv⟩ := Qg ((w.alloc (.cells #[.int .i64 r.n, .int .i64 r.d] 61)).alloc (.cells #[.int .i64 0, .int .i64 0] 61))
  rw [← hv]
  have E : Qa w v := by rw [hv]; exact ((Qa.refl _).alloc _).alloc _
  have B1 : Qb v w.heap.size 61 #[.int .i64 r.n, .int .i64 r.d] := by rw [hv]; exact (Qb.new _ _ _).alloc _
  have B2 : Qb v (w.heap.size + 1) 61 #[.int .i64 0, .int .i64 0] := by rw [hv]; exact Qb.at _ _ _ _ (by simp)
  clear hv
  obtain ⟨b2, hb2⟩ := Qg (w.heap.size + 1)
  rw [← hb2] at B2 ⊢
  obtain ⟨b1, hb1⟩ := Qg (w.heap.size)
  rw [← hb1] at B1 ⊢
  have hbr : w.heap.size ≤ b2 := by omega
  have hbr1 : w.heap.size ≤ b1 := by omega
  have hn21 : b2 ≠ b1 := by omega
  clear hb1 hb2
  have H1 := hE.ext E
  have hne : b2 ≠ be := by have := hE.lt; omega
  obtain ⟨k0, k1⟩ := B1.c2
  have lk := B1.lt
  have f9 := H1.frozen 0
  have k9 := H1.c1
  have l9 := H1.lt
  have H5 : Qb (v.setCell ⟨be, 0, none⟩ (.int .i64 f)) be 33 #[.int .i64 f] := by unfold Qb at H1 ⊢; simp [World.setCell, Array.getElem?_modify, H1]
  have O1 : Qx [be] w (v.setCell ⟨be, 0, none⟩ (.int .i64 f)) := (Qx.of_ext E).trans (Qx.set v (List.mem_singleton.2 rfl) 0 _)
  have B22 := Qh B2 hne 0 (.int .i64 f)
  have B12 := Qh B1 (show b1 ≠ be by have := hE.lt; have := hbr1; omega) 0 (.int .i64 f)
  go_upto_region 3 with (fail)
  generalize World.setCell v _ _ = vq at *
  clear f9 k9 l9 k0 k1 lk
  obtain ⟨k0, k1⟩ := B12.c2
  have lk := B12.lt
  have f0 := B22.frozen 0
  have f1 := B22.frozen 1
  obtain ⟨x0, x1⟩ := B22.c2
  have lx := B22.lt
  have H4 := Ql B22 (.int .i64 r.n) (.int .i64 r.d)
  have HF := Qh (Qh H5 (Ne.symm hne) 0 (.int .i64 r.n)) (Ne.symm hne) 1 (.int .i64 r.d)
  have OF : Qx [be] w ((vq.setCell ⟨b2, 0, none⟩ (.int .i64 r.n)).setCell ⟨b2, 1, none⟩ (.int .i64 r.d)) := O1.far (by omega) 0 1 _ _
  obtain ⟨y0, y1⟩ := H4.c2
  go_wp2
  refine bodyPost_ret (v := .agg #[.int .i64 r.n, .int .i64 r.d]) (by simp [results, Tryd.results78, go_sem, y0, y1]) rfl ⟨rfl, OF, HF⟩
 ·have g1 : (ee == 0) = false := beq_eq_false_iff_ne.2 h0
  rw [if_neg h0]
  go_enter Tryd.func78, Tryd.ntmps78
  go_upto_region 1 with (fail)
  obtain ⟨v, hv⟩ := Qg ((w.alloc (.cells #[.int .i64 r.n, .int .i64 r.d] 61)).alloc (.cells #[.int .i64 0, .int .i64 0] 61))
  rw [← hv]
  have E : Qa w v := by rw [hv]; exact ((Qa.refl _).alloc _).alloc _
  have B1 : Qb v w.heap.size 61 #[.int .i64 r.n, .int .i64 r.d] := by rw [hv]; exact (Qb.new _ _ _).alloc _
  have B2 : Qb v (w.heap.size + 1) 61 #[.int .i64 0, .int .i64 0] := by rw [hv]; exact Qb.at _ _ _ _ (by simp)
  clear hv
  obtain ⟨b2, hb2⟩ := Qg (w.heap.size + 1)
  rw [← hb2] at B2 ⊢
  obtain ⟨b1, hb1⟩ := Qg (w.heap.size)
  rw [← hb1] at B1 ⊢
  have hbr : w.heap.size ≤ b2 := by omega
  have hbr1 : w.heap.size ≤ b1 := by omega
  have hn21 : b2 ≠ b1 := by omega
  clear hb1 hb2
  have H1 := hE.ext E
  have hne : b2 ≠ be := by have := hE.lt; omega
  obtain ⟨k0, k1⟩ := B1.c2
  have lk := B1.lt
  have k9 := H1.c1
  have l9 := H1.lt
  have O1 : Qx [be] w v := Qx.of_ext E
  have f0 := B2.frozen 0
  have f1 := B2.frozen 1
  obtain ⟨x0, x1⟩ := B2.c2
  have lx := B2.lt
  have H4 := Ql B2 (.int .i64 r.n) (.int .i64 r.d)
  have HF := Qh (Qh H1 (Ne.symm hne) 0 (.int .i64 r.n)) (Ne.symm hne) 1 (.int .i64 r.d)
  have OF : Qx [be] w ((v.setCell ⟨b2, 0, none⟩ (.int .i64 r.n)).setCell ⟨b2, 1, none⟩ (.int .i64 r.d)) := O1.far (by omega) 0 1 _ _
  obtain ⟨y0, y1⟩ := H4.c2
  go_wp2
  refine bodyPost_ret (v := .agg #[.int .i64 r.n, .int .i64 r.d]) (by simp [results, Tryd.results78, go_sem, y0, y1]) rfl ⟨rfl, OF, HF⟩
theorem Qdj (X : Db) (n : Rt) (hx : X.i.In) (hn : n.In) (bd : Nat) (w : World) (hD : Qb w bd 84 #[.int .i64 X.p.n, .int .i64 X.p.d, .int .i64 X.i.n, .int .i64 X.i.d, .int .i64 X.s.n, .int .i64 X.s.d]) (hZ : Zl w) :
  Calls Tryd.prog 80 #[.pointer (some ⟨bd, 2, none⟩), .agg #[.int .i64 n.n, .int .i64 n.d]] w fun e w' => e = .returned (.tuple #[.agg #[.int .i64 (Qy X.i n).1.2.n, .int .i64 (Qy X.i n).1.2.d], .int .i64 (Qy X.i n).2]) ∧ Qx [bd] w w' ∧ Qb w' bd 84 #[.int .i64 X.p.n, .int .i64 X.p.d, .int .i64 (Qy X.i n).1.1.n, .int .i64 (Qy X.i n).1.1.d, .int .i64 X.s.n, .int .i64 X.s.d] := by
 have NL := fun w => S4 n X.i hn hx w
 have N1 := fun w z => Lh X.i n hx hn w z
 have N2 := fun w z => Lh n X.i hn hx w z
 have HP : Hid ((Qy X.i n) = if (Yw n X.i).1 < 0 then (((Zq X.i n).1, Zs 0), (Zq X.i n).2) else ((Zs 0, (Zq n X.i).1), (Zq n X.i).2)) := rfl
 obtain ⟨R, hR0⟩ := Qg (Qy X.i n)
 rw [← hR0] at HP ⊢
 clear hR0
 obtain ⟨cb, hcb⟩ := Qg (decide ((Yw n X.i).1 < 0))
 rw [← hcb] at NL
 replace hcb := Lib.hid hcb
 go_enter Tryd.func80, Tryd.ntmps80
 go_upto_region 1 with (fail)
 obtain ⟨v, hv⟩ := Qg ((w.alloc (.cells #[.int .i64 n.n, .int .i64 n.d] 61)).alloc (.cells #[.int .i64 0, .int .i64 0] 61))
 rw [← hv]
 have E : Qa w v := by rw [hv]; exact ((Qa.refl _).alloc _).alloc _
 have B1 : Qb v w.heap.size 61 #[.int .i64 n.n, .int .i64 n.d] := by rw [hv]; exact (Qb.new _ _ _).alloc _
 have B2 : Qb v (w.heap.size + 1) 61 #[.int .i64 0, .int .i64 0] := by rw [hv]; exact Qb.at _ _ _ _ (by simp)
 clear hv
 obtain ⟨b2, hb2⟩ := Qg (w.heap.size + 1)
 rw [← hb2] at B2 ⊢
 obtain ⟨b1, hb1⟩ := Qg (w.heap.size)
 rw [← hb1] at B1 ⊢
 have hbr : w.heap.size ≤ b2 := by omega
 have hbr1 : w.heap.size ≤ b1 := by omega
 have hn21 : b2 ≠ b1 := by omega
 clear hb1 hb2
 have HD := hD.ext E
 have Z0 := hZ.ext E
 have hdw := hD.lt
 have hdn : ∀ b, w.heap.size ≤ b → bd ≠ b := fun b h => by omega
 obtain ⟨k0, k1⟩ := B1.c2
 have lk := B1.lt
 obtain ⟨d0, d1, d2, d3, d4, d5⟩ := HD.c6
 have ld := HD.lt
 go_upto_region 1 with (fail)
 refine Zr v Qr (by kernel_rfl) (by repeat (first | exact Qa.refl _ | (refine Qa.alloc ?_ _) | (refine Qa.trans ?_ (by assumption)))) ?_
 intro hne hrx hry
 try simp only []
 try simp only [List.append_eq, List.cons_append, List.nil_append]
 skip
 repeat (first
  | go_big_quiet_skip
  | (go_big_quiet_want; go_big_quiet_op; go_big_quiet_on)
  | (go_big_quiet_want; go_big_quiet_op; apply Exists.intro; refine ⟨fun u => ?_, ?_⟩
     ·first
       | (go_at_call 99; (with_reducible refine Calls.mono (NL _) ?_); rintro e w' ⟨rfl, hb⟩; exact ⟨rfl, u.back hb⟩)
     go_big_quiet_on))
 clear hne hry hrx
 refine wpQuiet_nil ?_
 intro w2 h2
 obtain ⟨hcw2, hfw2, hzw2⟩ := Qa.rules h2
 try simp only [World.size_alloc] at hzw2
 obtain ⟨hcbw2, hfbw2, hzbw2⟩ := Qa.rules (show Qa v w2 from (by repeat (first | exact Qa.refl _ | (refine Qa.alloc ?_ _) | (refine Qa.trans ?_ (by assumption)))))
 clear hcw2 hfw2
 replace E := E.trans h2
 replace B1 := B1.ext h2
 replace B2 := B2.ext h2
 replace HD := HD.ext h2
 have Z3 := Z0.ext h2
 clear k0 k1 lk d0 d1 d2 d3 d4 d5 ld Z0 hD hZ NL
 cases cb
 ·have hR := HP.out
  rw [if_neg (of_decide_eq_false hcb.out.symm)] at hR
  clear HP hcb N1
  generalize Zq n X.i = S at *
  obtain ⟨⟨Sn, Sd⟩, Se⟩ := S
  subst hR
  go_upto_region 5 with (fail)
  apply Ut (S := fun w' b => Qa w2 w' ∧ w2.heap.size ≤ b ∧ Qb w' b 61 #[.int .i64 Sn, .int .i64 Sd])
  ·refine Q5 11 [6, 7, 9, 10] (fun x => Qa w2 x) Qr rfl ?_
   intro vz hvz
   have HC := hvz
   refine Qp (g := 7) [0, 1, 2, 3] [_, _, _, _] ⟨rfl, rfl, rfl, rfl, trivial⟩ (by kernel_rfl) (by kernel_rfl) HC ?_
   simp only [Qd, Qe, Qf]
   apply Exists.intro
   refine ⟨fun u hu => ?_, ?_⟩
   ·obtain ⟨k0, k1⟩ := (B1.ext hu).c2
    have lk := (B1.ext hu).lt
    obtain ⟨d0, d1, d2, d3, d4, d5⟩ := (HD.ext hu).c6
    have ld := (HD.ext hu).lt
    repeat (first | go_big_quiet_skip | (go_big_quiet_want; go_big_quiet_op; go_big_quiet_on))
    refine wpQuiet_nil ?_
    rfl
   refine Zn 4 8 rfl rfl (by kernel_rfl) ?_ ?_
   ·simp only [Qd, Qe, Qf]
    go_wp2_with (go_at_call 62; (with_reducible refine Calls.mono (N2 _ (Z3.ext HC)) ?_); rintro e wa ⟨rfl, h4⟩)
    replace HC := HC.trans h4
    try replace Q := Q.ext h4
    clear h4
    refine Qi HC ?_
    refine Qp (g := 5) [5] [_] ⟨rfl, trivial⟩ (by kernel_rfl) (by kernel_rfl) HC ?_
    simp only [Qd, Qe, Qf]
    apply Exists.intro
    refine ⟨fun u hu => ?_, ?_⟩
    ·obtain ⟨k0, k1⟩ := (B1.ext hu).c2
     have lk := (B1.ext hu).lt
     obtain ⟨d0, d1, d2, d3, d4, d5⟩ := (HD.ext hu).c6
     have ld := (HD.ext hu).lt
     repeat (first | go_big_quiet_skip | (go_big_quiet_want; go_big_quiet_op; go_big_quiet_on))
     refine wpQuiet_nil ?_
     rfl
    refine Jg (g := 3) [6, 7] [_, _] ⟨rfl, rfl, trivial⟩ (by kernel_rfl) (by kernel_rfl) ?_
    simp only [Qd, Qe, Qf]
    apply Exists.intro
    refine ⟨fun u hu => ?_, ?_⟩
    ·repeat (first | go_big_quiet_skip | (go_big_quiet_want; go_big_quiet_op; go_big_quiet_on))
     refine wpQuiet_nil ?_
     rfl
    refine Qj 8 rfl (by kernel_rfl) ?_
    simp only [Qd, Qe, Qf]
    go_wp2
    obtain ⟨bq, hbq, Q, HC', hge⟩ := Yx HC 61 #[.int .i64 0, .int .i64 0]
    rw [← hbq]
    clear hbq
    replace HC := HC'
    clear HC'
    refine Qi HC ?_
    refine Qn 9 rfl (by kernel_rfl) ?_
    simp only [Qd, Qe, Qf]
    have f0 := Q.frozen 0
    have f1 := Q.frozen 1
    obtain ⟨z0, z1⟩ := Q.c2
    have lz := Q.lt
    have Q2 := Ql Q (.int .i64 Sn) (.int .i64 Sd)
    have HE2 := (HC.setCell (p := ⟨bq, 0, none⟩) hge (.int .i64 Sn)).setCell (p := ⟨bq, 1, none⟩) hge (.int .i64 Sd)
    go_wp2
    refine Qm ?_
    refine Qn 10 rfl (by kernel_rfl) ?_
    simp only [Qd, Qe, Qf]
    go_wp2
    refine Qm ?_
    refine Qt (by kernel_rfl) ?_
    exact Jw bq ⟨HE2, hge, Q2⟩ rfl
   ·simp only [Qd, Qe, Qf]
    go_wp2
    obtain ⟨bq, hbq, Q, HC', hge⟩ := Yx HC 61 #[.int .i64 0, .int .i64 0]
    rw [← hbq]
    clear hbq
    replace HC := HC'
    clear HC'
    refine Qi HC ?_
    refine Qj 4 rfl (by kernel_rfl) ?_
    simp only [Qd, Qe, Qf]
    go_wp2_with (go_at_call 62; (with_reducible refine Calls.mono (N2 _ (Z3.ext HC)) ?_); rintro e wa ⟨rfl, h4⟩)
    replace HC := HC.trans h4
    try replace Q := Q.ext h4
    clear h4
    refine Qi HC ?_
    refine Qp (g := 4) [5] [_] ⟨rfl, trivial⟩ (by kernel_rfl) (by kernel_rfl) HC ?_
    simp only [Qd, Qe, Qf]
    apply Exists.intro
    refine ⟨fun u hu => ?_, ?_⟩
    ·obtain ⟨k0, k1⟩ := (B1.ext hu).c2
     have lk := (B1.ext hu).lt
     obtain ⟨d0, d1, d2, d3, d4, d5⟩ := (HD.ext hu).c6
     have ld := (HD.ext hu).lt
     repeat (first | go_big_quiet_skip | (go_big_quiet_want; go_big_quiet_op; go_big_quiet_on))
     refine wpQuiet_nil ?_
     rfl
    refine Jg (g := 2) [6, 7] [_, _] ⟨rfl, rfl, trivial⟩ (by kernel_rfl) (by kernel_rfl) ?_
    simp only [Qd, Qe, Qf]
    apply Exists.intro
    refine ⟨fun u hu => ?_, ?_⟩
    ·repeat (first | go_big_quiet_skip | (go_big_quiet_want; go_big_quiet_op; go_big_quiet_on))
     refine wpQuiet_nil ?_
     rfl
    refine Qn 9 rfl (by kernel_rfl) ?_
    simp only [Qd, Qe, Qf]
    have f0 := Q.frozen 0
    have f1 := Q.frozen 1
    obtain ⟨z0, z1⟩ := Q.c2
    have lz := Q.lt
    have Q2 := Ql Q (.int .i64 Sn) (.int .i64 Sd)
    have HE2 := (HC.setCell (p := ⟨bq, 0, none⟩) hge (.int .i64 Sn)).setCell (p := ⟨bq, 1, none⟩) hge (.int .i64 Sd)
    go_wp2
    refine Qm ?_
    refine Qn 10 rfl (by kernel_rfl) ?_
    simp only [Qd, Qe, Qf]
    go_wp2
    refine Qm ?_
    refine Qt (by kernel_rfl) ?_
    exact Jw bq ⟨HE2, hge, Q2⟩ rfl
  rintro b6 w3 ⟨E3, hg6, H6⟩
  have hw2 := E.size
  replace HD := HD.ext E3
  replace B2 := B2.ext E3
  replace E := E.trans E3
  have OD : Qx [bd] w w3 := Qx.of_ext E
  clear E3 B1 N2 Z3
  obtain ⟨r0, r1⟩ := H6.c2
  have lr := H6.lt
  have f0 := HD.frozen 2
  have f1 := HD.frozen 3
  obtain ⟨d0, d1, d2, d3, d4, d5⟩ := HD.c6
  have ld := HD.lt
  have HD2 := L3 HD (.int .i64 0) (.int .i64 1)
  have OD2 := (OD.trans (Qx.set w3 (List.mem_singleton.2 rfl) 2 (.int .i64 0))).trans (Qx.set _ (List.mem_singleton.2 rfl) 3 (.int .i64 1))
  have B22 := Qh (Qh B2 (Ne.symm (hdn b2 hbr)) 2 (.int .i64 0)) (Ne.symm (hdn b2 hbr)) 3 (.int .i64 1)
  have H62 := Qh (Qh H6 (Ne.symm (hdn b6 (by omega))) 2 (.int .i64 0)) (Ne.symm (hdn b6 (by omega))) 3 (.int .i64 1)
  clear f0 f1 d0 d1 d2 d3 d4 d5 ld r0 r1 lr HD2 OD2 B22 H62
  go_upto_region 6 with (fail)
  go_upto_region 7 with (go_at_call 48; (with_reducible refine Calls.mono (Y9 _ _) ?_); rintro e wa ⟨rfl, h4⟩; replace HD := HD.ext h4; replace B2 := B2.ext h4; replace H6 := H6.ext h4; replace OD := OD.trans (Qx.of_ext h4); have HD2 := L3 HD (.int .i64 0) (.int .i64 1); have OD2 := (OD.trans (Qx.set _ (List.mem_singleton.2 rfl) 2 (.int .i64 0))).trans (Qx.set _ (List.mem_singleton.2 rfl) 3 (.int .i64 1)); have B22 := Qh (Qh B2 (Ne.symm (hdn b2 hbr)) 2 (.int .i64 0)) (Ne.symm (hdn b2 hbr)) 3 (.int .i64 1); have H62 := Qh (Qh H6 (Ne.symm (hdn b6 (by omega))) 2 (.int .i64 0)) (Ne.symm (hdn b6 (by omega))) 3 (.int .i64 1); have f0 := HD.frozen 2; have f1 := HD.frozen 3; obtain ⟨d0, d1, d2, d3, d4, d5⟩ := HD.c6; have ld := HD.lt)
  generalize World.setCell _ _ _ = w4 at *
  clear f0 f1 d0 d1 d2 d3 d4 d5 ld B2 H6 HD OD h4
  have hw4 : w.heap.size ≤ b2 := hbr
  obtain ⟨r0, r1⟩ := H62.c2
  have lr := H62.lt
  have f0 := B22.frozen 0
  have f1 := B22.frozen 1
  obtain ⟨x0, x1⟩ := B22.c2
  have lx := B22.lt
  have H4 := Ql B22 (.int .i64 Sn) (.int .i64 Sd)
  have OF := OD2.far hbr 0 1 (.int .i64 Sn) (.int .i64 Sd)
  have HF := Qh (Qh HD2 (hdn b2 hbr) 0 (.int .i64 Sn)) (hdn b2 hbr) 1 (.int .i64 Sd)
  obtain ⟨y0, y1⟩ := H4.c2
  go_wp2
  refine bodyPost_ret (v := .tuple #[.agg #[.int .i64 Sn, .int .i64 Sd], .int .i64 Se]) (by simp [results, Tryd.results80, go_sem, y0, y1]) rfl ⟨rfl, OF, HF⟩
 ·have hR := HP.out
  rw [if_pos (of_decide_eq_true hcb.out.symm)] at hR
  clear HP hcb N2
  generalize Zq X.i n = S at *
  obtain ⟨⟨Sn, Sd⟩, Se⟩ := S
  subst hR
  go_upto_region 2 with (fail)
  apply Ut (S := fun w' b => Qa w2 w' ∧ w2.heap.size ≤ b ∧ Qb w' b 61 #[.int .i64 Sn, .int .i64 Sd])
  ·refine Q5 11 [6, 7, 9, 10] (fun x => Qa w2 x) Qr rfl ?_
   intro vz hvz
   have HC := hvz
   refine Qp (g := 7) [0, 1, 2, 3] [_, _, _, _] ⟨rfl, rfl, rfl, rfl, trivial⟩ (by kernel_rfl) (by kernel_rfl) HC ?_
   simp only [Qd, Qe, Qf]
   apply Exists.intro
   refine ⟨fun u hu => ?_, ?_⟩
   ·obtain ⟨k0, k1⟩ := (B1.ext hu).c2
    have lk := (B1.ext hu).lt
    obtain ⟨d0, d1, d2, d3, d4, d5⟩ := (HD.ext hu).c6
    have ld := (HD.ext hu).lt
    repeat (first | go_big_quiet_skip | (go_big_quiet_want; go_big_quiet_op; go_big_quiet_on))
    refine wpQuiet_nil ?_
    rfl
   refine Zn 4 8 rfl rfl (by kernel_rfl) ?_ ?_
   ·simp only [Qd, Qe, Qf]
    go_wp2_with (go_at_call 62; (with_reducible refine Calls.mono (N1 _ (Z3.ext HC)) ?_); rintro e wa ⟨rfl, h4⟩)
    replace HC := HC.trans h4
    try replace Q := Q.ext h4
    clear h4
    refine Qi HC ?_
    refine Qp (g := 5) [5] [_] ⟨rfl, trivial⟩ (by kernel_rfl) (by kernel_rfl) HC ?_
    simp only [Qd, Qe, Qf]
    apply Exists.intro
    refine ⟨fun u hu => ?_, ?_⟩
    ·obtain ⟨k0, k1⟩ := (B1.ext hu).c2
     have lk := (B1.ext hu).lt
     obtain ⟨d0, d1, d2, d3, d4, d5⟩ := (HD.ext hu).c6
     have ld := (HD.ext hu).lt
     repeat (first | go_big_quiet_skip | (go_big_quiet_want; go_big_quiet_op; go_big_quiet_on))
     refine wpQuiet_nil ?_
     rfl
    refine Jg (g := 3) [6, 7] [_, _] ⟨rfl, rfl, trivial⟩ (by kernel_rfl) (by kernel_rfl) ?_
    simp only [Qd, Qe, Qf]
    apply Exists.intro
    refine ⟨fun u hu => ?_, ?_⟩
    ·repeat (first | go_big_quiet_skip | (go_big_quiet_want; go_big_quiet_op; go_big_quiet_on))
     refine wpQuiet_nil ?_
     rfl
    refine Qj 8 rfl (by kernel_rfl) ?_
    simp only [Qd, Qe, Qf]
    go_wp2
    obtain ⟨bq, hbq, Q, HC', hge⟩ := Yx HC 61 #[.int .i64 0, .int .i64 0]
    rw [← hbq]
    clear hbq
    replace HC := HC'
    clear HC'
    refine Qi HC ?_
    refine Qn 9 rfl (by kernel_rfl) ?_
    simp only [Qd, Qe, Qf]
    have f0 := Q.frozen 0
    have f1 := Q.frozen 1
    obtain ⟨z0, z1⟩ := Q.c2
    have lz := Q.lt
    have Q2 := Ql Q (.int .i64 Sn) (.int .i64 Sd)
    have HE2 := (HC.setCell (p := ⟨bq, 0, none⟩) hge (.int .i64 Sn)).setCell (p := ⟨bq, 1, none⟩) hge (.int .i64 Sd)
    go_wp2
    refine Qm ?_
    refine Qn 10 rfl (by kernel_rfl) ?_
    simp only [Qd, Qe, Qf]
    go_wp2
    refine Qm ?_
    refine Qt (by kernel_rfl) ?_
    exact Jw bq ⟨HE2, hge, Q2⟩ rfl
   ·simp only [Qd, Qe, Qf]
    go_wp2
    obtain ⟨bq, hbq, Q, HC', hge⟩ := Yx HC 61 #[.int .i64 0, .int .i64 0]
    rw [← hbq]
    clear hbq
    replace HC := HC'
    clear HC'
    refine Qi HC ?_
    refine Qj 4 rfl (by kernel_rfl) ?_
    simp only [Qd, Qe, Qf]
    go_wp2_with (go_at_call 62; (with_reducible refine Calls.mono (N1 _ (Z3.ext HC)) ?_); rintro e wa ⟨rfl, h4⟩)
    replace HC := HC.trans h4
    try replace Q := Q.ext h4
    clear h4
    refine Qi HC ?_
    refine Qp (g := 4) [5] [_] ⟨rfl, trivial⟩ (by kernel_rfl) (by kernel_rfl) HC ?_
    simp only [Qd, Qe, Qf]
    apply Exists.intro
    refine ⟨fun u hu => ?_, ?_⟩
    ·obtain ⟨k0, k1⟩ := (B1.ext hu).c2
     have lk := (B1.ext hu).lt
     obtain ⟨d0, d1, d2, d3, d4, d5⟩ := (HD.ext hu).c6
     have ld := (HD.ext hu).lt
     repeat (first | go_big_quiet_skip | (go_big_quiet_want; go_big_quiet_op; go_big_quiet_on))
     refine wpQuiet_nil ?_
     rfl
    refine Jg (g := 2) [6, 7] [_, _] ⟨rfl, rfl, trivial⟩ (by kernel_rfl) (by kernel_rfl) ?_
    simp only [Qd, Qe, Qf]
    apply Exists.intro
    refine ⟨fun u hu => ?_, ?_⟩
    ·repeat (first | go_big_quiet_skip | (go_big_quiet_want; go_big_quiet_op; go_big_quiet_on))
     refine wpQuiet_nil ?_
     rfl
    refine Qn 9 rfl (by kernel_rfl) ?_
    simp only [Qd, Qe, Qf]
    have f0 := Q.frozen 0
    have f1 := Q.frozen 1
    obtain ⟨z0, z1⟩ := Q.c2
    have lz := Q.lt
    have Q2 := Ql Q (.int .i64 Sn) (.int .i64 Sd)
    have HE2 := (HC.setCell (p := ⟨bq, 0, none⟩) hge (.int .i64 Sn)).setCell (p := ⟨bq, 1, none⟩) hge (.int .i64 Sd)
    go_wp2
    refine Qm ?_
    refine Qn 10 rfl (by kernel_rfl) ?_
    simp only [Qd, Qe, Qf]
    go_wp2
    refine Qm ?_
    refine Qt (by kernel_rfl) ?_
    exact Jw bq ⟨HE2, hge, Q2⟩ rfl
  rintro b6 w3 ⟨E3, hg6, H6⟩
  have hw2 := E.size
  replace HD := HD.ext E3
  replace B2 := B2.ext E3
  replace E := E.trans E3
  have OD : Qx [bd] w w3 := Qx.of_ext E
  clear E3 B1 N1 Z3
  obtain ⟨r0, r1⟩ := H6.c2
  have lr := H6.lt
  have f0 := HD.frozen 2
  have f1 := HD.frozen 3
  obtain ⟨d0, d1, d2, d3, d4, d5⟩ := HD.c6
  have ld := HD.lt
  have HD2 := L3 HD (.int .i64 Sn) (.int .i64 Sd)
  have OD2 := (OD.trans (Qx.set w3 (List.mem_singleton.2 rfl) 2 (.int .i64 Sn))).trans (Qx.set _ (List.mem_singleton.2 rfl) 3 (.int .i64 Sd))
  have B22 := Qh (Qh B2 (Ne.symm (hdn b2 hbr)) 2 (.int .i64 Sn)) (Ne.symm (hdn b2 hbr)) 3 (.int .i64 Sd)
  have H62 := Qh (Qh H6 (Ne.symm (hdn b6 (by omega))) 2 (.int .i64 Sn)) (Ne.symm (hdn b6 (by omega))) 3 (.int .i64 Sd)
  go_upto_region 4 with (fail)
  generalize World.setCell _ _ _ = w4 at *
  clear f0 f1 d0 d1 d2 d3 d4 d5 ld r0 r1 lr B2 H6 HD OD
  have hw4 : w.heap.size ≤ b2 := hbr
  go_wp2_with (go_at_call 48; (with_reducible refine Calls.mono (Y9 _ _) ?_); rintro e w5 ⟨rfl, h5⟩; replace OD2 := OD2.trans (Qx.of_ext h5); replace HD2 := HD2.ext h5; replace B22 := B22.ext h5; have f0 := B22.frozen 0; have f1 := B22.frozen 1; obtain ⟨x0, x1⟩ := B22.c2; have lx := B22.lt)
  have H4 := Ql B22 (.int .i64 0) (.int .i64 1)
  have OF := OD2.far hbr 0 1 (.int .i64 0) (.int .i64 1)
  have HF := Qh (Qh HD2 (hdn b2 hbr) 0 (.int .i64 0)) (hdn b2 hbr) 1 (.int .i64 1)
  obtain ⟨y0, y1⟩ := H4.c2
  go_wp2
  refine bodyPost_ret (v := .tuple #[.agg #[.int .i64 0, .int .i64 1], .int .i64 Se]) (by simp [results, Tryd.results80, go_sem, y0, y1]) rfl ⟨rfl, OF, HF⟩
theorem Qdk (X : Db) (n : Rt) (hx : X.p.In) (hn : n.In) (bd : Nat) (w : World) (hD : Qb w bd 84 #[.int .i64 X.p.n, .int .i64 X.p.d, .int .i64 X.i.n, .int .i64 X.i.d, .int .i64 X.s.n, .int .i64 X.s.d]) (hZ : Zl w) :
  Calls Tryd.prog 80 #[.pointer (some ⟨bd, 0, none⟩), .agg #[.int .i64 n.n, .int .i64 n.d]] w fun e w' => e = .returned (.tuple #[.agg #[.int .i64 (Qy X.p n).1.2.n, .int .i64 (Qy X.p n).1.2.d], .int .i64 (Qy X.p n).2]) ∧ Qx [bd] w w' ∧ Qb w' bd 84 #[.int .i64 (Qy X.p n).1.1.n, .int .i64 (Qy X.p n).1.1.d, .int .i64 X.i.n, .int .i64 X.i.d, .int .i64 X.s.n, .int .i64 X.s.d] := by
 have NL := fun w => S4 n X.p hn hx w
 have N1 := fun w z => Lh X.p n hx hn w z
 have N2 := fun w z => Lh n X.p hn hx w z
 have HP : Hid ((Qy X.p n) = if (Yw n X.p).1 < 0 then (((Zq X.p n).1, Zs 0), (Zq X.p n).2) else ((Zs 0, (Zq n X.p).1), (Zq n X.p).2)) := rfl
 obtain ⟨R, hR0⟩ := Qg (Qy X.p n)
 rw [← hR0] at HP ⊢
 clear hR0
 obtain ⟨cb, hcb⟩ := Qg (decide ((Yw n X.p).1 < 0))
 rw [← hcb] at NL
 replace hcb := Lib.hid hcb
 go_enter Tryd.func80, Tryd.ntmps80
 go_upto_region 1 with (fail)
 obtain ⟨v, hv⟩ := Qg ((w.alloc (.cells #[.int .i64 n.n, .int .i64 n.d] 61)).alloc (.cells #[.int .i64 0, .int .i64 0] 61))
 rw [← hv]
 have E : Qa w v := by rw [hv]; exact ((Qa.refl _).alloc _).alloc _
 have B1 : Qb v w.heap.size 61 #[.int .i64 n.n, .int .i64 n.d] := by rw [hv]; exact (Qb.new _ _ _).alloc _
 have B2 : Qb v (w.heap.size + 1) 61 #[.int .i64 0, .int .i64 0] := by rw [hv]; exact Qb.at _ _ _ _ (by simp)
 clear hv
 obtain ⟨b2, hb2⟩ := Qg (w.heap.size + 1)
 rw [← hb2] at B2 ⊢
 obtain ⟨b1, hb1⟩ := Qg (w.heap.size)
 rw [← hb1] at B1 ⊢
 have hbr : w.heap.size ≤ b2 := by omega
 have hbr1 : w.heap.size ≤ b1 := by omega
 have hn21 : b2 ≠ b1 := by omega
 clear hb1 hb2
 have HD := hD.ext E
 have Z0 := hZ.ext E
 have hdw := hD.lt
 have hdn : ∀ b, w.heap.size ≤ b → bd ≠ b := fun b h => by omega
 obtain ⟨k0, k1⟩ := B1.c2
 have lk := B1.lt
 obtain ⟨d0, d1, d2, d3, d4, d5⟩ := HD.c6
 have ld := HD.lt
 go_upto_region 1 with (fail)
 refine Zr v Qr (by kernel_rfl) (by repeat (first | exact Qa.refl _ | (refine Qa.alloc ?_ _) | (refine Qa.trans ?_ (by assumption)))) ?_
 intro hne hrx hry
 try simp only []
 try simp only [List.append_eq, List.cons_append, List.nil_append]
 skip
 repeat (first
  | go_big_quiet_skip
  | (go_big_quiet_want; go_big_quiet_op; go_big_quiet_on)
  | (go_big_quiet_want; go_big_quiet_op; apply Exists.intro; refine ⟨fun u => ?_, ?_⟩
     ·first
       | (go_at_call 99; (with_reducible refine Calls.mono (NL _) ?_); rintro e w' ⟨rfl, hb⟩; exact ⟨rfl, u.back hb⟩)
     go_big_quiet_on))
 clear hne hry hrx
 refine wpQuiet_nil ?_
 intro w2 h2
 obtain ⟨hcw2, hfw2, hzw2⟩ := Qa.rules h2
 try simp only [World.size_alloc] at hzw2
 obtain ⟨hcbw2, hfbw2, hzbw2⟩ := Qa.rules (show Qa v w2 from (by repeat (first | exact Qa.refl _ | (refine Qa.alloc ?_ _) | (refine Qa.trans ?_ (by assumption)))))
 clear hcw2 hfw2
 replace E := E.trans h2
 replace B1 := B1.ext h2
 replace B2 := B2.ext h2
 replace HD := HD.ext h2
 have Z3 := Z0.ext h2
 clear k0 k1 lk d0 d1 d2 d3 d4 d5 ld Z0 hD hZ NL
 cases cb
 ·have hR := HP.out
  rw [if_neg (of_decide_eq_false hcb.out.symm)] at hR
  clear HP hcb N1
  generalize Zq n X.p = S at *
  obtain ⟨⟨Sn, Sd⟩, Se⟩ := S
  subst hR
  go_upto_region 5 with (fail)
  apply Ut (S := fun w' b => Qa w2 w' ∧ w2.heap.size ≤ b ∧ Qb w' b 61 #[.int .i64 Sn, .int .i64 Sd])
  ·refine Q5 11 [6, 7, 9, 10] (fun x => Qa w2 x) Qr rfl ?_
   intro vz hvz
   have HC := hvz
   refine Qp (g := 7) [0, 1, 2, 3] [_, _, _, _] ⟨rfl, rfl, rfl, rfl, trivial⟩ (by kernel_rfl) (by kernel_rfl) HC ?_
   simp only [Qd, Qe, Qf]
   apply Exists.intro
   refine ⟨fun u hu => ?_, ?_⟩
   ·obtain ⟨k0, k1⟩ := (B1.ext hu).c2
    have lk := (B1.ext hu).lt
    obtain ⟨d0, d1, d2, d3, d4, d5⟩ := (HD.ext hu).c6
    have ld := (HD.ext hu).lt
    repeat (first | go_big_quiet_skip | (go_big_quiet_want; go_big_quiet_op; go_big_quiet_on))
    refine wpQuiet_nil ?_
    rfl
   refine Zn 4 8 rfl rfl (by kernel_rfl) ?_ ?_
   ·simp only [Qd, Qe, Qf]
    go_wp2_with (go_at_call 62; (with_reducible refine Calls.mono (N2 _ (Z3.ext HC)) ?_); rintro e wa ⟨rfl, h4⟩)
    replace HC := HC.trans h4
    try replace Q := Q.ext h4
    clear h4
    refine Qi HC ?_
    refine Qp (g := 5) [5] [_] ⟨rfl, trivial⟩ (by kernel_rfl) (by kernel_rfl) HC ?_
    simp only [Qd, Qe, Qf]
    apply Exists.intro
    refine ⟨fun u hu => ?_, ?_⟩
    ·obtain ⟨k0, k1⟩ := (B1.ext hu).c2
     have lk := (B1.ext hu).lt
     obtain ⟨d0, d1, d2, d3, d4, d5⟩ := (HD.ext hu).c6
     have ld := (HD.ext hu).lt
     repeat (first | go_big_quiet_skip | (go_big_quiet_want; go_big_quiet_op; go_big_quiet_on))
     refine wpQuiet_nil ?_
     rfl
    refine Jg (g := 3) [6, 7] [_, _] ⟨rfl, rfl, trivial⟩ (by kernel_rfl) (by kernel_rfl) ?_
    simp only [Qd, Qe, Qf]
    apply Exists.intro
    refine ⟨fun u hu => ?_, ?_⟩
    ·repeat (first | go_big_quiet_skip | (go_big_quiet_want; go_big_quiet_op; go_big_quiet_on))
     refine wpQuiet_nil ?_
     rfl
    refine Qj 8 rfl (by kernel_rfl) ?_
    simp only [Qd, Qe, Qf]
    go_wp2
    obtain ⟨bq, hbq, Q, HC', hge⟩ := Yx HC 61 #[.int .i64 0, .int .i64 0]
    rw [← hbq]
    clear hbq
    replace HC := HC'
    clear HC'
    refine Qi HC ?_
    refine Qn 9 rfl (by kernel_rfl) ?_
    simp only [Qd, Qe, Qf]
    have f0 := Q.frozen 0
    have f1 := Q.frozen 1
    obtain ⟨z0, z1⟩ := Q.c2
    have lz := Q.lt
    have Q2 := Ql Q (.int .i64 Sn) (.int .i64 Sd)
    have HE2 := (HC.setCell (p := ⟨bq, 0, none⟩) hge (.int .i64 Sn)).setCell (p := ⟨bq, 1, none⟩) hge (.int .i64 Sd)
    go_wp2
    refine Qm ?_
    refine Qn 10 rfl (by kernel_rfl) ?_
    simp only [Qd, Qe, Qf]
    go_wp2
    refine Qm ?_
    refine Qt (by kernel_rfl) ?_
    exact Jw bq ⟨HE2, hge, Q2⟩ rfl
   ·simp only [Qd, Qe, Qf]
    go_wp2
    obtain ⟨bq, hbq, Q, HC', hge⟩ := Yx HC 61 #[.int .i64 0, .int .i64 0]
    rw [← hbq]
    clear hbq
    replace HC := HC'
    clear HC'
    refine Qi HC ?_
    refine Qj 4 rfl (by kernel_rfl) ?_
    simp only [Qd, Qe, Qf]
    go_wp2_with (go_at_call 62; (with_reducible refine Calls.mono (N2 _ (Z3.ext HC)) ?_); rintro e wa ⟨rfl, h4⟩)
    replace HC := HC.trans h4
    try replace Q := Q.ext h4
    clear h4
    refine Qi HC ?_
    refine Qp (g := 4) [5] [_] ⟨rfl, trivial⟩ (by kernel_rfl) (by kernel_rfl) HC ?_
    simp only [Qd, Qe, Qf]
    apply Exists.intro
    refine ⟨fun u hu => ?_, ?_⟩
    ·obtain ⟨k0, k1⟩ := (B1.ext hu).c2
     have lk := (B1.ext hu).lt
     obtain ⟨d0, d1, d2, d3, d4, d5⟩ := (HD.ext hu).c6
     have ld := (HD.ext hu).lt
     repeat (first | go_big_quiet_skip | (go_big_quiet_want; go_big_quiet_op; go_big_quiet_on))
     refine wpQuiet_nil ?_
     rfl
    refine Jg (g := 2) [6, 7] [_, _] ⟨rfl, rfl, trivial⟩ (by kernel_rfl) (by kernel_rfl) ?_
    simp only [Qd, Qe, Qf]
    apply Exists.intro
    refine ⟨fun u hu => ?_, ?_⟩
    ·repeat (first | go_big_quiet_skip | (go_big_quiet_want; go_big_quiet_op; go_big_quiet_on))
     refine wpQuiet_nil ?_
     rfl
    refine Qn 9 rfl (by kernel_rfl) ?_
    simp only [Qd, Qe, Qf]
    have f0 := Q.frozen 0
    have f1 := Q.frozen 1
    obtain ⟨z0, z1⟩ := Q.c2
    have lz := Q.lt
    have Q2 := Ql Q (.int .i64 Sn) (.int .i64 Sd)
    have HE2 := (HC.setCell (p := ⟨bq, 0, none⟩) hge (.int .i64 Sn)).setCell (p := ⟨bq, 1, none⟩) hge (.int .i64 Sd)
    go_wp2
    refine Qm ?_
    refine Qn 10 rfl (by kernel_rfl) ?_
    simp only [Qd, Qe, Qf]
    go_wp2
    refine Qm ?_
    refine Qt (by kernel_rfl) ?_
    exact Jw bq ⟨HE2, hge, Q2⟩ rfl
  rintro b6 w3 ⟨E3, hg6, H6⟩
  have hw2 := E.size
  replace HD := HD.ext E3
  replace B2 := B2.ext E3
  replace E := E.trans E3
  have OD : Qx [bd] w w3 := Qx.of_ext E
  clear E3 B1 N2 Z3
  obtain ⟨r0, r1⟩ := H6.c2
  have lr := H6.lt
  have f0 := HD.frozen 0
  have f1 := HD.frozen 1
  obtain ⟨d0, d1, d2, d3, d4, d5⟩ := HD.c6
  have ld := HD.lt
  have HD2 := Ow HD (.int .i64 0) (.int .i64 1)
  have OD2 := (OD.trans (Qx.set w3 (List.mem_singleton.2 rfl) 0 (.int .i64 0))).trans (Qx.set _ (List.mem_singleton.2 rfl) 1 (.int .i64 1))
  have B22 := Qh (Qh B2 (Ne.symm (hdn b2 hbr)) 0 (.int .i64 0)) (Ne.symm (hdn b2 hbr)) 1 (.int .i64 1)
  have H62 := Qh (Qh H6 (Ne.symm (hdn b6 (by omega))) 0 (.int .i64 0)) (Ne.symm (hdn b6 (by omega))) 1 (.int .i64 1)
  clear f0 f1 d0 d1 d2 d3 d4 d5 ld r0 r1 lr HD2 OD2 B22 H62
  go_upto_region 6 with (fail)
  go_upto_region 7 with (go_at_call 48; (with_reducible refine Calls.mono (Y9 _ _) ?_); rintro e wa ⟨rfl, h4⟩; replace HD := HD.ext h4; replace B2 := B2.ext h4; replace H6 := H6.ext h4; replace OD := OD.trans (Qx.of_ext h4); have HD2 := Ow HD (.int .i64 0) (.int .i64 1); have OD2 := (OD.trans (Qx.set _ (List.mem_singleton.2 rfl) 0 (.int .i64 0))).trans (Qx.set _ (List.mem_singleton.2 rfl) 1 (.int .i64 1)); have B22 := Qh (Qh B2 (Ne.symm (hdn b2 hbr)) 0 (.int .i64 0)) (Ne.symm (hdn b2 hbr)) 1 (.int .i64 1); have H62 := Qh (Qh H6 (Ne.symm (hdn b6 (by omega))) 0 (.int .i64 0)) (Ne.symm (hdn b6 (by omega))) 1 (.int .i64 1); have f0 := HD.frozen 0; have f1 := HD.frozen 1; obtain ⟨d0, d1, d2, d3, d4, d5⟩ := HD.c6; have ld := HD.lt)
  generalize World.setCell _ _ _ = w4 at *
  clear f0 f1 d0 d1 d2 d3 d4 d5 ld B2 H6 HD OD h4
  have hw4 : w.heap.size ≤ b2 := hbr
  obtain ⟨r0, r1⟩ := H62.c2
  have lr := H62.lt
  have f0 := B22.frozen 0
  have f1 := B22.frozen 1
  obtain ⟨x0, x1⟩ := B22.c2
  have lx := B22.lt
  have H4 := Ql B22 (.int .i64 Sn) (.int .i64 Sd)
  have OF := OD2.far hbr 0 1 (.int .i64 Sn) (.int .i64 Sd)
  have HF := Qh (Qh HD2 (hdn b2 hbr) 0 (.int .i64 Sn)) (hdn b2 hbr) 1 (.int .i64 Sd)
  obtain ⟨y0, y1⟩ := H4.c2
  go_wp2
  refine bodyPost_ret (v := .tuple #[.agg #[.int .i64 Sn, .int .i64 Sd], .int .i64 Se]) (by simp [results, Tryd.results80, go_sem, y0, y1]) rfl ⟨rfl, OF, HF⟩
 ·have hR := HP.out
  rw [if_pos (of_decide_eq_true hcb.out.symm)] at hR
  clear HP hcb N2
  generalize Zq X.p n = S at *
  obtain ⟨⟨Sn, Sd⟩, Se⟩ := S
  subst hR
  go_upto_region 2 with (fail)
  apply Ut (S := fun w' b => Qa w2 w' ∧ w2.heap.size ≤ b ∧ Qb w' b 61 #[.int .i64 Sn, .int .i64 Sd])
  ·refine Q5 11 [6, 7, 9, 10] (fun x => Qa w2 x) Qr rfl ?_
   intro vz hvz
   have HC := hvz
   refine Qp (g := 7) [0, 1, 2, 3] [_, _, _, _] ⟨rfl, rfl, rfl, rfl, trivial⟩ (by kernel_rfl) (by kernel_rfl) HC ?_
   simp only [Qd, Qe, Qf]
   apply Exists.intro
   refine ⟨fun u hu => ?_, ?_⟩
   ·obtain ⟨k0, k1⟩ := (B1.ext hu).c2
    have lk := (B1.ext hu).lt
    obtain ⟨d0, d1, d2, d3, d4, d5⟩ := (HD.ext hu).c6
    have ld := (HD.ext hu).lt
    repeat (first | go_big_quiet_skip | (go_big_quiet_want; go_big_quiet_op; go_big_quiet_on))
    refine wpQuiet_nil ?_
    rfl
   refine Zn 4 8 rfl rfl (by kernel_rfl) ?_ ?_
   ·simp only [Qd, Qe, Qf]
    go_wp2_with (go_at_call 62; (with_reducible refine Calls.mono (N1 _ (Z3.ext HC)) ?_); rintro e wa ⟨rfl, h4⟩)
    replace HC := HC.trans h4
    try replace Q := Q.ext h4
    clear h4
    refine Qi HC ?_
    refine Qp (g := 5) [5] [_] ⟨rfl, trivial⟩ (by kernel_rfl) (by kernel_rfl) HC ?_
    simp only [Qd, Qe, Qf]
    apply Exists.intro
    refine ⟨fun u hu => ?_, ?_⟩
    ·obtain ⟨k0, k1⟩ := (B1.ext hu).c2
     have lk := (B1.ext hu).lt
     obtain ⟨d0, d1, d2, d3, d4, d5⟩ := (HD.ext hu).c6
     have ld := (HD.ext hu).lt
     repeat (first | go_big_quiet_skip | (go_big_quiet_want; go_big_quiet_op; go_big_quiet_on))
     refine wpQuiet_nil ?_
     rfl
    refine Jg (g := 3) [6, 7] [_, _] ⟨rfl, rfl, trivial⟩ (by kernel_rfl) (by kernel_rfl) ?_
    simp only [Qd, Qe, Qf]
    apply Exists.intro
    refine ⟨fun u hu => ?_, ?_⟩
    ·repeat (first | go_big_quiet_skip | (go_big_quiet_want; go_big_quiet_op; go_big_quiet_on))
     refine wpQuiet_nil ?_
     rfl
    refine Qj 8 rfl (by kernel_rfl) ?_
    simp only [Qd, Qe, Qf]
    go_wp2
    obtain ⟨bq, hbq, Q, HC', hge⟩ := Yx HC 61 #[.int .i64 0, .int .i64 0]
    rw [← hbq]
    clear hbq
    replace HC := HC'
    clear HC'
    refine Qi HC ?_
    refine Qn 9 rfl (by kernel_rfl) ?_
    simp only [Qd, Qe, Qf]
    have f0 := Q.frozen 0
    have f1 := Q.frozen 1
    obtain ⟨z0, z1⟩ := Q.c2
    have lz := Q.lt
    have Q2 := Ql Q (.int .i64 Sn) (.int .i64 Sd)
    have HE2 := (HC.setCell (p := ⟨bq, 0, none⟩) hge (.int .i64 Sn)).setCell (p := ⟨bq, 1, none⟩) hge (.int .i64 Sd)
    go_wp2
    refine Qm ?_
    refine Qn 10 rfl (by kernel_rfl) ?_
    simp only [Qd, Qe, Qf]
    go_wp2
    refine Qm ?_
    refine Qt (by kernel_rfl) ?_
    exact Jw bq ⟨HE2, hge, Q2⟩ rfl
   ·simp only [Qd, Qe, Qf]
    go_wp2
    obtain ⟨bq, hbq, Q, HC', hge⟩ := Yx HC 61 #[.int .i64 0, .int .i64 0]
    rw [← hbq]
    clear hbq
    replace HC := HC'
    clear HC'
    refine Qi HC ?_
    refine Qj 4 rfl (by kernel_rfl) ?_
    simp only [Qd, Qe, Qf]
    go_wp2_with (go_at_call 62; (with_reducible refine Calls.mono (N1 _ (Z3.ext HC)) ?_); rintro e wa ⟨rfl, h4⟩)
    replace HC := HC.trans h4
    try replace Q := Q.ext h4
    clear h4
    refine Qi HC ?_
    refine Qp (g := 4) [5] [_] ⟨rfl, trivial⟩ (by kernel_rfl) (by kernel_rfl) HC ?_
    simp only [Qd, Qe, Qf]
    apply Exists.intro
    refine ⟨fun u hu => ?_, ?_⟩
    ·obtain ⟨k0, k1⟩ := (B1.ext hu).c2
     have lk := (B1.ext hu).lt
     obtain ⟨d0, d1, d2, d3, d4, d5⟩ := (HD.ext hu).c6
     have ld := (HD.ext hu).lt
     repeat (first | go_big_quiet_skip | (go_big_quiet_want; go_big_quiet_op; go_big_quiet_on))
     refine wpQuiet_nil ?_
     rfl
    refine Jg (g := 2) [6, 7] [_, _] ⟨rfl, rfl, trivial⟩ (by kernel_rfl) (by kernel_rfl) ?_
    simp only [Qd, Qe, Qf]
    apply Exists.intro
    refine ⟨fun u hu => ?_, ?_⟩
    ·repeat (first | go_big_quiet_skip | (go_big_quiet_want; go_big_quiet_op; go_big_quiet_on))
     refine wpQuiet_nil ?_
     rfl
    refine Qn 9 rfl (by kernel_rfl) ?_
    simp only [Qd, Qe, Qf]
    have f0 := Q.frozen 0
    have f1 := Q.frozen 1
    obtain ⟨z0, z1⟩ := Q.c2
    have lz := Q.lt
    have Q2 := Ql Q (.int .i64 Sn) (.int .i64 Sd)
    have HE2 := (HC.setCell (p := ⟨bq, 0, none⟩) hge (.int .i64 Sn)).setCell (p := ⟨bq, 1, none⟩) hge (.int .i64 Sd)
    go_wp2
    refine Qm ?_
    refine Qn 10 rfl (by kernel_rfl) ?_
    simp only [Qd, Qe, Qf]
    go_wp2
    refine Qm ?_
    refine Qt (by kernel_rfl) ?_
    exact Jw bq ⟨HE2, hge, Q2⟩ rfl
  rintro b6 w3 ⟨E3, hg6, H6⟩
  have hw2 := E.size
  replace HD := HD.ext E3
  replace B2 := B2.ext E3
  replace E := E.trans E3
  have OD : Qx [bd] w w3 := Qx.of_ext E
  clear E3 B1 N1 Z3
  obtain ⟨r0, r1⟩ := H6.c2
  have lr := H6.lt
  have f0 := HD.frozen 0
  have f1 := HD.frozen 1
  obtain ⟨d0, d1, d2, d3, d4, d5⟩ := HD.c6
  have ld := HD.lt
  have HD2 := Ow HD (.int .i64 Sn) (.int .i64 Sd)
  have OD2 := (OD.trans (Qx.set w3 (List.mem_singleton.2 rfl) 0 (.int .i64 Sn))).trans (Qx.set _ (List.mem_singleton.2 rfl) 1 (.int .i64 Sd))
  have B22 := Qh (Qh B2 (Ne.symm (hdn b2 hbr)) 0 (.int .i64 Sn)) (Ne.symm (hdn b2 hbr)) 1 (.int .i64 Sd)
  have H62 := Qh (Qh H6 (Ne.symm (hdn b6 (by omega))) 0 (.int .i64 Sn)) (Ne.symm (hdn b6 (by omega))) 1 (.int .i64 Sd)
  go_upto_region 4 with (fail)
  generalize World.setCell _ _ _ = w4 at *
  clear f0 f1 d0 d1 d2 d3 d4 d5 ld r0 r1 lr B2 H6 HD OD
  have hw4 : w.heap.size ≤ b2 := hbr
  go_wp2_with (go_at_call 48; (with_reducible refine Calls.mono (Y9 _ _) ?_); rintro e w5 ⟨rfl, h5⟩; replace OD2 := OD2.trans (Qx.of_ext h5); replace HD2 := HD2.ext h5; replace B22 := B22.ext h5; have f0 := B22.frozen 0; have f1 := B22.frozen 1; obtain ⟨x0, x1⟩ := B22.c2; have lx := B22.lt)
  have H4 := Ql B22 (.int .i64 0) (.int .i64 1)
  have OF := OD2.far hbr 0 1 (.int .i64 0) (.int .i64 1)
  have HF := Qh (Qh HD2 (hdn b2 hbr) 0 (.int .i64 0)) (hdn b2 hbr) 1 (.int .i64 1)
  obtain ⟨y0, y1⟩ := H4.c2
  go_wp2
  refine bodyPost_ret (v := .tuple #[.agg #[.int .i64 0, .int .i64 1], .int .i64 Se]) (by simp [results, Tryd.results80, go_sem, y0, y1]) rfl ⟨rfl, OF, HF⟩
end
section
/-! ### Days and schematic days -/
theorem Qc6 {c : Qc} {d : Dt} (hv : c.valid = true) : c.numV d = 0 ↔ c.has d = false := by
 unfold Qc.numV Qc.inE
 rw [if_pos hv]
 cases h : c.has d
 ·simp
 ·have := (Mq h).1
  simp; omega
theorem V1 {c : Qc} {d : Dt} (hv : c.valid = true) (h : c.numV d ≠ 0) : c.has d = true ∧ c.numV d = (c.num d).1 ∧ 1 ≤ c.numV d := by
 have hh : c.has d = true := by
  cases e : c.has d
  ·exact absurd ((Qc6 hv).2 e) h
  ·rfl
 have e : c.numV d = (c.num d).1 := by unfold Qc.numV Qc.inE; rw [if_pos hv, hh]; rfl
 exact ⟨hh, e, by rw [e]; exact (Mq hh).1⟩
theorem Lf {c : Qc} {a b : Dt} (hv : c.valid = true) (ha : c.has a = true) (hb : c.has b = true) : c.schV a b = 30 * ((c.num b).2 - (c.num a).2) + b.d - a.d := by
 unfold Qc.schV Qc.in2E; rw [if_pos hv, ha, hb]; rfl
theorem Dd {c : Qc} (h : c.valid = true) : c.ny ≤ 400 := by
 simp only [Qc.valid, Bool.and_eq_true, decide_eq_true_eq] at h
 exact h.1.2
theorem Un {c : Qc} {d : Dt} (hv : c.valid = true) (h : c.has d = true) : 0 ≤ (c.num d).2 ∧ (c.num d).2 ≤ 5200 ∧ 1 ≤ d.d ∧ d.d ≤ 30 := by
 obtain ⟨i, x, hx, _, hn, h1, h2⟩ := Kz h
 have hl := Mb c c.ny
 have hny := Dd hv
 have hi := (List.getElem?_eq_some_iff.1 hx).1
 have hil : c.items.length ≤ 13 * c.ny := hl
 have := Ws (c.yr x.y) x.n x.s
 have e : x.len c = (c.yr x.y).len x.n x.s := rfl
 rw [hn]
 simp only
 omega
/-- From a day to a later one (or the same) the schematic days are no fewer than none. -/
theorem sch_bd {c : Qc} {a b : Dt} (hv : c.valid = true) (ha : c.numV a ≠ 0) (hb : c.numV b ≠ 0) (h : c.numV a ≤ c.numV b) : 0 ≤ c.schV a b ∧ c.schV a b ≤ 1099511627775 := by
 obtain ⟨ka, ea, _⟩ := V1 hv ha
 obtain ⟨kb, eb, _⟩ := V1 hv hb
 obtain ⟨_, _, o3, o4⟩ := Vf ka kb
 have na := Un hv ka
 have nb := Un hv kb
 rw [Lf hv ka kb]
 rw [ea, eb] at h
 refine ⟨?_, by omega⟩
 rcases Int.lt_or_eq_of_le h with h1 | h1
 ·have := o3 h1; omega
 ·have := o4 h1; omega
theorem Qeb {c : Qc} {a : Dt} (hv : c.valid = true) (ha : c.numV a ≠ 0) : c.schV a a = 0 := by
 obtain ⟨ka, _, _⟩ := V1 hv ha
 rw [Lf hv ka ka]; omega
/-! ### Ratios that exist are what comes out -/
theorem Qd0 {n d : Int} {x : Rt} (hd : 1 ≤ d) (hx : x.ok = true) (h : Xd x n d) : Ji n d = (x, 0) := by
 obtain ⟨x1, x2, x3, x4, x5⟩ := Zk hx
 unfold Xd at h
 unfold Ji
 rw [if_neg (by omega)]
 have e : x.n.natAbs * d.natAbs = n.natAbs * x.d.natAbs := by rw [← Int.natAbs_mul, ← Int.natAbs_mul, h]
 rw [Gj (p := x.n.natAbs) (q := x.d.natAbs) (by omega) (by omega) x5 e, if_pos (by omega)]
 have hs : (n < 0) = (x.n < 0) := by
  refine propext ⟨fun hn => ?_, fun hn => ?_⟩
  ·have : n * x.d < 0 := Int.mul_neg_of_neg_of_pos hn (by omega)
   rcases Int.lt_or_le x.n 0 with h0 | h0
   ·exact h0
   ·have := Int.mul_nonneg h0 (show 0 ≤ d by omega)
    omega
  ·have : x.n * d < 0 := Int.mul_neg_of_neg_of_pos hn (by omega)
   rcases Int.lt_or_le n 0 with h0 | h0
   ·exact h0
   ·have := Int.mul_nonneg h0 (show 0 ≤ x.d by omega)
    omega
 rw [decide_eq_false (show ¬ d < 0 by omega)]
 simp only [hs, Bool.bne_false]
 by_cases h0 : x.n < 0
 ·rw [decide_eq_true h0]
  simp only [if_true]
  rw [show -((x.n.natAbs : Nat) : Int) = x.n by omega, show ((x.d.natAbs : Nat) : Int) = x.d by omega]
 ·rw [decide_eq_false h0]
  simp only [Bool.false_eq_true, if_false]
  rw [show ((x.n.natAbs : Nat) : Int) = x.n by omega, show ((x.d.natAbs : Nat) : Int) = x.d by omega]
theorem Qbm {x : Rt} {N D : Int} (hx : 1 ≤ x.d) (hD : 1 ≤ D) (h : x.val = (N : Rat) / (D : Rat)) : Xd x N D := by
 have h1 := Y1 hx
 have h2 := Y1 hD
 unfold Rt.val at h
 have a1 : (x.d : Rat) ≠ 0 := by grind
 have a2 : (D : Rat) ≠ 0 := by grind
 have h3 : (x.n : Rat) * (D : Rat) = (N : Rat) * (x.d : Rat) := by grind
 unfold Xd
 exact_mod_cast h3
theorem C6 {a b x : Rt} (ha : a.ok = true) (hb : b.ok = true) (hx : x.ok = true) (h : x.val = a.val + b.val) : Q7 a b = (x, 0) := by
 have hd := (Xg ha hb).2.2.1
 unfold Q7
 rw [ha, hb]
 refine Qd0 hd hx (Qbm (Zk hx).1 hd ?_)
 have h1 := Y1 (Zk ha).1
 have h2 := Y1 (Zk hb).1
 have a1 : (a.d : Rat) ≠ 0 := by grind
 have a2 : (b.d : Rat) ≠ 0 := by grind
 rw [h, Rat.intCast_add, Rat.intCast_mul, Rat.intCast_mul, Rat.intCast_mul]
 unfold Rt.val
 grind
theorem Pz {r : Rt} (h : r.ok = true) : 0 ≤ r.n ↔ (0 : Rat) ≤ r.val := by
 have h1 := Y1 (Zk h).1
 have e : r.val < 0 ↔ r.n < 0 := by
  unfold Rt.val
  rw [Rat.div_lt_iff h1, Rat.zero_mul]
  constructor
  ·intro h; exact_mod_cast h
  ·intro h; exact_mod_cast h
 rw [← Rat.not_lt, e]
 omega
theorem Vk : (Zs 0).ok = true := Ct (by decide) (by decide)
theorem Xj : (Zs 0).val = 0 := by rw [Qd1]; rfl
/-- No interest is borne by nothing, or in no days. -/
theorem Qbi {p r : Rt} {k : Int} (hp : p.nn = true) (hr : r.nn = true) (h1 : 0 ≤ k) (h2 : k ≤ 1099511627776) (h : p.n = 0 ∨ k = 0) : Zu p r k = (Zs 0, 0) := by
 obtain ⟨p1, p2⟩ := Jt hp
 obtain ⟨r1, r2⟩ := Jt hr
 have pd := (Zk p1).1
 have rd := (Zk r1).1
 unfold Zu Xe
 rw [hp, hr]
 simp only [Bool.and_self, if_true]
 rw [if_neg (by omega)]
 have hz : upTo (fun i => (Yo p r k i).n.natAbs) 4 = 0 := by
  refine (Fc 4).2 ?_
  rcases h with h | h
  ·exact ⟨0, by decide, by show p.n.natAbs = 0; omega⟩
  ·exact ⟨2, by decide, by show k.natAbs = 0; omega⟩
 have hq : 1 ≤ upTo (fun i => (Yo p r k i).d.natAbs) 4 := by
  refine Vi 4 fun i hi => ?_
  have h3 : i = 0 ∨ i = 1 ∨ i = 2 ∨ i = 3 := by omega
  rcases h3 with rfl | rfl | rfl | rfl
  ·show 1 ≤ p.d.natAbs; omega
  ·show 1 ≤ r.d.natAbs; omega
  ·exact Nat.le_refl _
  ·show 1 ≤ (360 : Int).natAbs; decide
 rw [hz]
 exact M3 hq
theorem Qbg {p r : Rt} {k : Int} (h : (Zu p r k).2 = 0) : (Zu p r k).1.nn = true := by
 obtain ⟨h1, h2, h3, _, h5, h6⟩ := Qbh h
 have hD := intV_d (Jt h1).1 (Jt h2).1
 have hn : 0 ≤ p.n * r.n * k := Int.mul_nonneg (Int.mul_nonneg (Jt h1).2 (Jt h2).2) h3
 unfold Rt.nn
 rw [h5]
 simp only [Bool.true_and, decide_eq_true_eq]
 unfold Xd at h6
 rcases Int.lt_or_le (Zu p r k).1.n 0 with h0 | h0
 ·have := Int.mul_neg_of_neg_of_pos h0 hD
  have := Int.mul_nonneg hn (show 0 ≤ (Zu p r k).1.d by have := (Zk h5).1; omega)
  omega
 ·exact h0
theorem Ve {r : Rt} (h : r.ok = true) (h2 : (0 : Rat) ≤ r.val) : r.nn = true := by
 unfold Rt.nn; rw [h]; simpa using (Pz h).2 h2
theorem Vz {r : Rt} (h : r.nn = true) : (0 : Rat) ≤ r.val := (Pz (Jt h).1).1 (Jt h).2
theorem Nv {a b : Rt} (h : (Q7 a b).2 = 0) (ha : a.nn = true) (hb : b.nn = true) : (Q7 a b).1.nn = true := by
 have h1 := Vz ha
 have h2 := Vz hb
 exact Ve (Nw h).2.2.1 (by rw [Nx h]; grind)
structure Db.Nn (x : Db) : Prop where
 p : x.p.nn = true
 i : x.i.nn = true
 s : x.s.nn = true
/-- What a payment does. -/
theorem Ds {x n : Rt} (hx : x.nn = true) (hn : n.nn = true) (h : (Qy x n).2 = 0) :
  (Qy x n).1.1.nn = true ∧ (Qy x n).1.2.nn = true ∧ (Qy x n).1.1.val - (Qy x n).1.2.val = x.val - n.val ∧ ((Qy x n).1.1 = Zs 0 ∨ (Qy x n).1.2 = Zs 0) ∧ (n = Zs 0 → (Qy x n).1.1 = x) := by
 have x1 := (Jt hx).1
 have n1 := (Jt hn).1
 have gx := Vz hx
 have gn := Vz hn
 have hc := cmp_lt n1 x1
 unfold Qy at h ⊢
 by_cases hl : (Yw n x).1 < 0
 ·rw [if_pos hl] at h ⊢
  simp only at h ⊢
  have hv := Nh h
  have hlt := hc.1 hl
  refine ⟨Ve (V7 h).2.2.1 (by rw [hv]; grind), Ve Vk (by rw [Xj]; exact Rat.le_refl), by rw [hv, Xj]; grind, .inr trivial, fun e => ?_⟩
  refine Li (V7 h).2.2.1 x1 ?_
  rw [hv, e, Xj]; grind
 ·rw [if_neg hl] at h ⊢
  simp only at h ⊢
  have hv := Nh h
  have hle : x.val ≤ n.val := Rat.not_lt.1 (fun hh => hl (hc.2 hh))
  refine ⟨Ve Vk (by rw [Xj]; exact Rat.le_refl), Ve (V7 h).2.2.1 (by rw [hv]; grind), by rw [hv, Xj]; grind, .inl trivial, fun e => ?_⟩
  refine (Li x1 Vk ?_).symm
  rw [e, Xj] at hle
  rw [Xj]
  grind
theorem Fl {c : Qc} {r : Rt} {x : Db} {a b : Dt} (h : (Zd c r x a b).2 = 0) (hx : x.Nn) : (Zd c r x a b).1.Nn ∧ (Zd c r x a b).1.p = x.p ∧ (Zd c r x a b).1.s = x.s := by
 unfold Zd at *
 by_cases h1 : (Zu x.p r (c.schV a b)).2 ≠ 0
 ·rw [if_pos h1] at h; exact absurd h h1
 ·rw [if_neg h1] at h ⊢
  by_cases h2 : (Q7 x.i (Zu x.p r (c.schV a b)).1).2 ≠ 0
  ·rw [if_pos h2] at h; exact absurd h h2
  ·rw [if_neg h2] at h ⊢
   exact ⟨⟨hx.p, Nv (Decidable.not_not.1 h2) hx.i (Qbg (Decidable.not_not.1 h1)), hx.s⟩, rfl, rfl⟩
theorem Dn {x : Db} {n : Rt} (h : (Jz x n).2 = 0) (hx : x.Nn) (hn : n.nn = true) :
  (Jz x n).1.Nn ∧ (x.p.val + x.i.val - x.s.val) - ((Jz x n).1.p.val + (Jz x n).1.i.val - (Jz x n).1.s.val) = n.val ∧
   ((Jz x n).1.i ≠ Zs 0 → (Jz x n).1.p = x.p) ∧ ((Jz x n).1.s ≠ x.s → (Jz x n).1.p = Zs 0 ∧ (Jz x n).1.i = Zs 0) := by
 unfold Jz at *
 by_cases h1 : (Qy x.i n).2 ≠ 0
 ·rw [if_pos h1] at h; exact absurd h h1
 ·rw [if_neg h1] at h ⊢
  by_cases h2 : (Qy x.p (Qy x.i n).1.2).2 ≠ 0
  ·rw [if_pos h2] at h; exact absurd h h2
  ·rw [if_neg h2] at h ⊢
   by_cases h3 : (Q7 x.s (Qy x.p (Qy x.i n).1.2).1.2).2 ≠ 0
   ·rw [if_pos h3] at h; exact absurd h h3
   ·rw [if_neg h3] at h ⊢
    replace h1 := Decidable.not_not.1 h1
    replace h2 := Decidable.not_not.1 h2
    replace h3 := Decidable.not_not.1 h3
    obtain ⟨a1, a2, a3, a4, a5⟩ := Ds hx.i hn h1
    generalize (Qy x.i n).1.1 = i' at *
    generalize (Qy x.i n).1.2 = m1 at *
    obtain ⟨b1, b2, b3, b4, b5⟩ := Ds hx.p a2 h2
    generalize (Qy x.p m1).1.1 = p' at *
    generalize (Qy x.p m1).1.2 = m2 at *
    have s1 := Nv h3 hx.s b2
    have s2 := Nx h3
    refine ⟨⟨b1, a1, s1⟩, ?_, fun hi => ?_, fun hs => ?_⟩
    ·simp only; rw [s2]; grind
    ·simp only at hi ⊢
     rcases a4 with e | e
     ·exact absurd e hi
     ·exact b5 e
    ·simp only at hs ⊢
     have hm2 : m2 ≠ Zs 0 := fun e => hs (Li (Nw h3).2.2.1 (Jt hx.s).1 (by rw [s2, e, Xj]; grind))
     have hp : p' = Zs 0 := by
      rcases b4 with e | e
      ·exact e
      ·exact absurd e hm2
     refine ⟨hp, ?_⟩
     rcases a4 with e | e
     ·exact e
     ·exfalso
      have gp := Vz hx.p
      have g2 := Vz b2
      rw [hp, e, Xj] at b3
      refine hm2 (Li (Jt b2).1 Vk ?_)
      rw [Xj]
      grind
/-! ### The payments, one after the other -/
def Zt (c : Qc) (l : Ln) (f : Nat → Zy) : Nat → Db × Int
 | 0 => (start l, 0)
 | k + 1 => if (Zt c l f k).2 ≠ 0 then Zt c l f k
  else if (Zd c l.r (Zt c l f k).1 (Z8 l f k) (f k).on).2 ≠ 0 then Zd c l.r (Zt c l f k).1 (Z8 l f k) (f k).on
  else Jz (Zd c l.r (Zt c l f k).1 (Z8 l f k) (f k).on).1 (f k).n
theorem Qd8 (c : Qc) (l : Ln) (f : Nat → Zy) (on : Dt) (n : Nat) (h : ∀ j, j < n → c.numV (f j).on ≤ c.numV on) :
  ∀ m k, k + m = n → (Zt c l f k).2 = 0 → Y7 c l.r f on k m (Zt c l f k).1 (Z8 l f k) = if (Zt c l f n).2 ≠ 0 then Zt c l f n else Zd c l.r (Zt c l f n).1 (Z8 l f n) on := by
 have hstay : ∀ m k, (Zt c l f k).2 ≠ 0 → Zt c l f (k + m) = Zt c l f k := by
  intro m
  induction m with
  | zero => intro k _; rfl
  | succ m ih =>
   intro k hk
   rw [← Nat.add_assoc, Zt, if_pos (by rw [ih k hk]; exact hk), ih k hk]
 intro m
 induction m with
 | zero =>
  intro k hk h0
  obtain rfl : k = n := by omega
  rw [if_neg (by rw [h0]; decide)]; rfl
 | succ m ih =>
  intro k hk h0
  have hd := h k (by omega)
  rw [Y7, if_neg (by omega)]
  have hs : Zt c l f (k + 1) = if (Zd c l.r (Zt c l f k).1 (Z8 l f k) (f k).on).2 ≠ 0 then Zd c l.r (Zt c l f k).1 (Z8 l f k) (f k).on
    else Jz (Zd c l.r (Zt c l f k).1 (Z8 l f k) (f k).on).1 (f k).n := by rw [Zt, if_neg (by rw [h0]; decide)]
  by_cases h1 : (Zd c l.r (Zt c l f k).1 (Z8 l f k) (f k).on).2 ≠ 0
  ·rw [if_pos h1] at hs ⊢
   have e := hstay m (k + 1) (by rw [hs]; exact h1)
   rw [show k + 1 + m = n by omega] at e
   rw [e, hs, if_pos h1]
  ·rw [if_neg h1] at hs ⊢
   rw [← hs]
   by_cases h2 : (Zt c l f (k + 1)).2 ≠ 0
   ·rw [if_pos h2]
    have e := hstay m (k + 1) h2
    rw [show k + 1 + m = n by omega] at e
    rw [e, if_pos h2]
   ·rw [if_neg h2]
    exact ih (k + 1) (by omega) (Decidable.not_not.1 h2)
theorem Qd7 {c : Qc} {l : Ln} {f : Nat → Zy} {on : Dt} {n : Nat} (h : ∀ j, j < n → c.numV (f j).on ≤ c.numV on) :
  Y7 c l.r f on 0 n (start l) l.f = if (Zt c l f n).2 ≠ 0 then Zt c l f n else Zd c l.r (Zt c l f n).1 (Z8 l f n) on :=
 Qd8 c l f on n h n 0 (by omega) rfl
theorem O8 {c : Qc} {l : Ln} {f : Nat → Zy} {n : Nat} (h : c.loanOk l f n = true) : l.p.pos = true ∧ l.r.shr = true ∧ c.numV l.f ≠ 0 ∧ ∀ i, i < n → (f i).n.pos = true ∧ c.numV (Z8 l f i) ≤ c.numV (f i).on := by
 simp only [Qc.loanOk, Bool.and_eq_true, decide_eq_true_eq, List.all_eq_true, List.mem_range] at h
 exact ⟨h.1.1.1, h.1.1.2, h.1.2, fun i hi => h.2 i hi⟩
theorem Gh {r : Rt} (h : r.pos = true) : r.nn = true := by
 simp only [Rt.pos, Rt.nn, Bool.and_eq_true, decide_eq_true_eq] at *
 exact ⟨h.1, by omega⟩
theorem shr_nn {r : Rt} (h : r.shr = true) : r.nn = true := by
 simp only [Rt.shr, Rt.nn, Bool.and_eq_true, decide_eq_true_eq] at *
 exact ⟨h.1.1, h.1.2⟩
theorem Qc5 {c : Qc} {d : Dt} (hv : c.valid = true) : 0 ≤ c.numV d := by
 by_cases h : c.numV d = 0
 ·omega
 ·have := (V1 hv h).2.2; omega
theorem Qb6 {c : Qc} {l : Ln} {f : Nat → Zy} {n : Nat} (hv : c.valid = true) (h : c.loanOk l f n = true) : ∀ i, i ≤ n → (1 ≤ c.numV (Z8 l f i) ∧ c.numV l.f ≤ c.numV (Z8 l f i) ∧ ∀ j, j < i → c.numV (f j).on ≤ c.numV (Z8 l f i)) := by
 obtain ⟨_, _, h3, h4⟩ := O8 h
 intro i
 induction i with
 | zero => intro _; exact ⟨(V1 hv h3).2.2, Int.le_refl _, fun j hj => absurd hj (by omega)⟩
 | succ i ih =>
  intro hi
  obtain ⟨k1, k2, k3⟩ := ih (by omega)
  have h5 := (h4 i (by omega)).2
  show 1 ≤ c.numV (f i).on ∧ c.numV l.f ≤ c.numV (f i).on ∧ _
  refine ⟨by omega, by omega, fun j hj => ?_⟩
  show c.numV (f j).on ≤ c.numV (f i).on
  by_cases e : j = i
  ·rw [e]; exact Int.le_refl _
  ·have := k3 j (by omega); omega
theorem C9 {c : Qc} {l : Ln} {f : Nat → Zy} {n : Nat} (h : c.loanOk l f n = true) : ∀ i, i ≤ n → (Zt c l f i).2 = 0 → (Zt c l f i).1.Nn := by
 obtain ⟨h1, _, _, h4⟩ := O8 h
 have hz := Ve Vk (by rw [Xj]; exact Rat.le_refl)
 intro i
 induction i with
 | zero => intro _ _; exact ⟨Gh h1, hz, hz⟩
 | succ i ih =>
  intro hi h0
  rw [Zt] at h0 ⊢
  by_cases a0 : (Zt c l f i).2 ≠ 0
  ·rw [if_pos a0] at h0; exact absurd h0 a0
  ·rw [if_neg a0] at h0 ⊢
   have k := ih (by omega) (Decidable.not_not.1 a0)
   by_cases a1 : (Zd c l.r (Zt c l f i).1 (Z8 l f i) (f i).on).2 ≠ 0
   ·rw [if_pos a1] at h0; exact absurd h0 a1
   ·rw [if_neg a1] at h0 ⊢
    exact (Dn h0 (Fl (Decidable.not_not.1 a1) k).1 (Gh (h4 i (by omega)).1)).1
theorem C1 {c : Qc} {r : Rt} {x : Db} {a b : Dt} (hx : x.Nn) (hr : r.nn = true) (h1 : 0 ≤ c.schV a b) (h2 : c.schV a b ≤ 1099511627776) (h : x.p.n = 0 ∨ c.schV a b = 0) : Zd c r x a b = (x, 0) := by
 unfold Zd
 rw [Qbi hx.p hr h1 h2 h, if_neg (by decide), C6 (x := x.i) (Jt hx.i).1 Vk (Jt hx.i).1 (by rw [Xj]; grind), if_neg (by simp)]
/-! ### What the laws say -/
theorem Dj {c : Qc} {l : Ln} {f : Nat → Zy} {n : Nat} {on : Dt} (hd : ∀ j, j < n → c.numV (f j).on ≤ c.numV on) (h : (c.owedV l f n on).2 = 0) :
  (Zt c l f n).2 = 0 ∧ (Zd c l.r (Zt c l f n).1 (Z8 l f n) on).2 = 0 ∧ (c.owedV l f n on).1 = (Zd c l.r (Zt c l f n).1 (Z8 l f n) on).1 ∧ c.loanE l f n = 0 ∧ c.numV on ≠ 0 ∧ c.numV l.f ≤ c.numV on := by
 unfold Qc.owedV at *
 by_cases h1 : c.loanE l f n ≠ 0
 ·rw [if_pos h1] at h; exact absurd h h1
 ·rw [if_neg h1] at h ⊢
  by_cases h2 : c.numV on = 0
  ·rw [if_pos h2] at h; exact absurd h (by decide)
  ·rw [if_neg h2] at h ⊢
   by_cases h3 : c.numV on < c.numV l.f
   ·rw [if_pos h3] at h; exact absurd h (by decide)
   ·rw [if_neg h3] at h ⊢
    rw [Qd7 hd] at h ⊢
    by_cases h4 : (Zt c l f n).2 ≠ 0
    ·rw [if_pos h4, if_pos h4] at h; exact absurd h h4
    ·rw [if_neg h4] at h ⊢
     by_cases h5 : (Zd c l.r (Zt c l f n).1 (Z8 l f n) on).2 ≠ 0
     ·rw [if_pos h5] at h; exact absurd h h5
     ·rw [if_neg h5]
      exact ⟨Decidable.not_not.1 h4, Decidable.not_not.1 h5, rfl, Decidable.not_not.1 h1, h2, by omega⟩
theorem Qb5 {c : Qc} {l : Ln} {f : Nat → Zy} {n : Nat} (h : c.loanE l f n = 0) : c.valid = true ∧ n ≤ 64 ∧ c.loanOk l f n = true := by
 unfold Qc.loanE at h
 cases hv : c.valid
 ·rw [hv, if_neg (by decide)] at h; exact absurd h (by decide)
 ·rw [hv, if_pos rfl] at h
  by_cases hn : 64 < n
  ·rw [if_pos hn] at h; exact absurd h (by decide)
  ·rw [if_neg hn] at h
   cases hl : c.loanOk l f n
   ·rw [hl] at h; exact absurd h (by decide)
   ·exact ⟨rfl, by omega, rfl⟩
/-- Principal plus interest minus surplus. -/
def Wn (x : Db) : Rt × Bool := if (Q7 x.p x.i).2 ≠ 0 then (Zc, false) else ((Zq (Q7 x.p x.i).1 x.s).1, decide ((Zq (Q7 x.p x.i).1 x.s).2 = 0))
theorem Ca {x : Db} (h : (Wn x).2 = true) : (Wn x).1.val = x.p.val + x.i.val - x.s.val ∧ (Wn x).1.ok = true := by
 unfold Wn at *
 by_cases h1 : (Q7 x.p x.i).2 ≠ 0
 ·rw [if_pos h1] at h; exact absurd h (by decide)
 ·rw [if_neg h1] at h ⊢
  have h2 := of_decide_eq_true h
  exact ⟨by rw [Nh h2, Nx (Decidable.not_not.1 h1)], (V7 h2).2.2.1⟩
theorem kept {c : Qc} {l : Ln} {f : Nat → Zy} {n i : Nat} (hE : c.loanE l f n = 0) (hi : i < n) (h1 : (c.owedV l f i (f i).on).2 = 0) (h2 : (c.owedV l f (i + 1) (f i).on).2 = 0) :
  (c.owedV l f i (f i).on).1.Nn ∧ (c.owedV l f (i + 1) (f i).on).1.Nn ∧
  ((Wn (c.owedV l f i (f i).on).1).2 = true → (Wn (c.owedV l f (i + 1) (f i).on).1).2 = true → (Zq (Wn (c.owedV l f i (f i).on).1).1 (Wn (c.owedV l f (i + 1) (f i).on).1).1).2 = 0 → (Zq (Wn (c.owedV l f i (f i).on).1).1 (Wn (c.owedV l f (i + 1) (f i).on).1).1).1 = (f i).n) ∧
  (0 < (c.owedV l f (i + 1) (f i).on).1.i.n → (c.owedV l f (i + 1) (f i).on).1.p = (c.owedV l f i (f i).on).1.p) ∧
  ((c.owedV l f (i + 1) (f i).on).1.s ≠ (c.owedV l f i (f i).on).1.s → ¬ 0 < (c.owedV l f (i + 1) (f i).on).1.p.n ∧ ¬ 0 < (c.owedV l f (i + 1) (f i).on).1.i.n) := by
 obtain ⟨hv, _, hl⟩ := Qb5 hE
 have hs := Qb6 hv hl
 obtain ⟨_, hr, _, h4⟩ := O8 hl
 have ho : c.numV (f i).on ≠ 0 := by have := (hs (i + 1) (by omega)).1; show c.numV (Z8 l f (i + 1)) ≠ 0; omega
 have hd1 : ∀ j, j < i → c.numV (f j).on ≤ c.numV (f i).on := fun j hj => (hs (i + 1) (by omega)).2.2 j (by omega)
 have hd2 : ∀ j, j < i + 1 → c.numV (f j).on ≤ c.numV (f i).on := fun j hj => (hs (i + 1) (by omega)).2.2 j hj
 obtain ⟨a1, a2, a3, _⟩ := Dj hd1 h1
 obtain ⟨b1, b2, b3, _⟩ := Dj hd2 h2
 have k := C9 hl i (by omega) a1
 have k1 := Fl a2 k
 have hb : Zt c l f (i + 1) = Jz (Zd c l.r (Zt c l f i).1 (Z8 l f i) (f i).on).1 (f i).n := by
  rw [Zt, if_neg (by rw [a1]; decide), if_neg (by rw [a2]; decide)]
 rw [a3, b3]
 rw [hb] at b1 b2 ⊢
 have hp := Gh (h4 i hi).1
 obtain ⟨p1, p2, p3, p4⟩ := Dn b1 k1.1 hp
 generalize (Zd c l.r (Zt c l f i).1 (Z8 l f i) (f i).on).1 = X at *
 generalize (Jz X (f i).n).1 = Y at *
 have hz := Qeb hv ho
 have hst : Zd c l.r Y (Z8 l f (i + 1)) (f i).on = (Y, 0) := C1 p1 (shr_nn hr) (by show 0 ≤ c.schV (f i).on (f i).on; omega) (by show c.schV (f i).on (f i).on ≤ _; omega) (.inr hz)
 rw [hst]
 simp only
 refine ⟨k1.1, p1, fun t1 t2 t3 => ?_, fun hi0 => p3 (fun e => by rw [e] at hi0; exact absurd hi0 (by decide)), fun hs0 => ?_⟩
 ·obtain ⟨v1, _⟩ := Ca t1
  obtain ⟨v2, _⟩ := Ca t2
  refine Li (V7 t3).2.2.1 (Jt hp).1 ?_
  rw [Nh t3, v1, v2, p2]
 ·obtain ⟨e1, e2⟩ := p4 hs0
  rw [e1, e2]
  exact ⟨by decide, by decide⟩
end
section
open Go Go.RowKit Go.Shelf
attribute [local go_sem] Zi
theorem sch_lo (c : Qc) (a b : Dt) : -9223372036854775808 ≤ c.schV a b := by
 by_cases h : c.in2E a b = 0
 ·have hv : c.valid = true := by
   rcases Va c a b with ⟨_, hE⟩ | ⟨hv, _, _⟩ | ⟨hv, _, _⟩
   ·rw [hE] at h; exact absurd h (by decide)
   ·exact hv
   ·exact hv
  have hh : (c.has a && c.has b) = true := by
   rcases Va c a b with ⟨_, hE⟩ | ⟨_, _, hE⟩ | ⟨_, hh, _⟩
   ·rw [hE] at h; exact absurd h (by decide)
   ·rw [hE] at h; exact absurd h (by decide)
   ·exact hh
  obtain ⟨h1, h2⟩ := Bool.and_eq_true_iff.1 hh
  rw [Lf hv h1 h2]
  have := Un hv h1
  have := Un hv h2
  omega
 ·unfold Qc.schV; rw [if_neg h]; decide
theorem sch_hi (c : Qc) (a b : Dt) : c.schV a b ≤ 9223372036854775807 := by
 by_cases h : c.in2E a b = 0
 ·have hv : c.valid = true := by
   rcases Va c a b with ⟨_, hE⟩ | ⟨hv, _, _⟩ | ⟨hv, _, _⟩
   ·rw [hE] at h; exact absurd h (by decide)
   ·exact hv
   ·exact hv
  have hh : (c.has a && c.has b) = true := by
   rcases Va c a b with ⟨_, hE⟩ | ⟨_, _, hE⟩ | ⟨_, hh, _⟩
   ·rw [hE] at h; exact absurd h (by decide)
   ·rw [hE] at h; exact absurd h (by decide)
   ·exact hh
  obtain ⟨h1, h2⟩ := Bool.and_eq_true_iff.1 hh
  rw [Lf hv h1 h2]
  have := Un hv h1
  have := Un hv h2
  omega
 ·unfold Qc.schV; rw [if_neg h]; decide
theorem Nu (A A' : Option Addr) (ca cb : Nat) (c : Qc) (l : Ln) (hr : l.r.In) (X : Db) (hX : X.In) (fr tu : Dt) (bt bd bl bb bf be : Nat) (v0 w : World) (hv0 : Qa v0 w) (C : Q8 v0 A ca A' cb c) (Z : Zl v0) (ht : Qb w bt 147 #[.func (.func 78) #[] #[.pointer (some ⟨be, 0, none⟩)]]) (hd : Qb w bd 84 #[.int .i64 X.p.n, .int .i64 X.p.d, .int .i64 X.i.n, .int .i64 X.i.d, .int .i64 X.s.n, .int .i64 X.s.d]) (hl : Qb w bl 79 #[.int .i64 l.p.n, .int .i64 l.p.d, .int .i64 l.r.n, .int .i64 l.r.d, .int .i64 l.f.y, .int .i64 l.f.m, .bool l.f.s, .int .i64 l.f.d]) (hb : Qb w bb 52 #[.slice A c.nk ca, .slice A' c.ny cb]) (hf : Qb w bf 27 #[.int .i64 fr.y, .int .i64 fr.m, .bool fr.s, .int .i64 fr.d]) (he : Qb w be 33 #[.int .i64 0]) (g3 : v0.heap.size ≤ be) (n1 : bd ≠ bf) (n2 : bd ≠ be) (n3 : bf ≠ be) (n4 : bt ∉ [bd, bf, be]) (n5 : bl ∉ [bd, bf, be]) (n6 : bb ∉ [bd, bf, be]) :
  Calls Tryd.prog 79 #[.agg #[.int .i64 tu.y, .int .i64 tu.m, .bool tu.s, .int .i64 tu.d], .pointer (some ⟨bt, 0, none⟩), .pointer (some ⟨bd, 0, none⟩), .pointer (some ⟨bl, 0, none⟩), .pointer (some ⟨bb, 0, none⟩), .pointer (some ⟨bf, 0, none⟩), .pointer (some ⟨be, 0, none⟩)] w fun e w' => e = .returned (.tuple #[]) ∧ Qx [bd, bf, be] w w' ∧ Qb w' bf 27 #[.int .i64 tu.y, .int .i64 tu.m, .bool tu.s, .int .i64 tu.d] ∧ Qb w' be 33 #[.int .i64 (Zd c l.r X fr tu).2] ∧ ∃ Y : Db, Y.In ∧ Qb w' bd 84 #[.int .i64 Y.p.n, .int .i64 Y.p.d, .int .i64 Y.i.n, .int .i64 Y.i.d, .int .i64 Y.s.n, .int .i64 Y.s.d] ∧ ((Zd c l.r X fr tu).2 = 0 → Y = (Zd c l.r X fr tu).1) := by
 have NI := fun w z => Oz X.p l.r (c.schV fr tu) hX.p hr (sch_lo c fr tu) (sch_hi c fr tu) w z
 have HV : Hid (Zd c l.r X fr tu = if (Zu X.p l.r (c.schV fr tu)).2 ≠ 0 then (X, (Zu X.p l.r (c.schV fr tu)).2) else if (Q7 X.i (Zu X.p l.r (c.schV fr tu)).1).2 ≠ 0 then (X, (Q7 X.i (Zu X.p l.r (c.schV fr tu)).1).2) else (⟨X.p, (Q7 X.i (Zu X.p l.r (c.schV fr tu)).1).1, X.s⟩, 0)) := rfl
 have hMi := Qbf X.p l.r (c.schV fr tu)
 generalize Zd c l.r X fr tu = V at *
 generalize Zu X.p l.r (c.schV fr tu) = M at *
 obtain ⟨⟨Mn, Md⟩, Me⟩ := M
 simp only [] at HV NI hMi
 go_enter Tryd.func79, Tryd.ntmps79
 go_upto_region 1 with (fail)
 obtain ⟨v, hv⟩ := Qg (w.alloc (.cells #[.int .i64 tu.y, .int .i64 tu.m, .bool tu.s, .int .i64 tu.d] 27))
 rw [← hv]
 have E : Qa w v := by rw [hv]; exact (Qa.refl _).alloc _
 have H7 : Qb v w.heap.size 27 #[.int .i64 tu.y, .int .i64 tu.m, .bool tu.s, .int .i64 tu.d] := by rw [hv]; exact (Qb.new _ _ _)
 clear hv
 obtain ⟨b1, hb1⟩ := Qg (w.heap.size)
 rw [← hb1] at H7 ⊢
 have hbr : w.heap.size ≤ b1 := by omega
 clear hb1
 have n7 : b1 ≠ be := by have := he.lt; omega
 have n8 : b1 ≠ bd := by have := hd.lt; omega
 have HE := hv0.trans E
 have HO : Qx [bd, bf, be] w v := Qx.of_ext E
 have Ht := ht.ext E
 have Hd := hd.ext E
 have Hl := hl.ext E
 have Hb := hb.ext E
 have Hf := hf.ext E
 have He := he.ext E
 clear E hv0
 apply Ut (S := fun w' b => Qa v0 w' ∧ w.heap.size ≤ b ∧ Qx [bd, bf, be] w w' ∧ Qb w' bt 147 #[.func (.func 78) #[] #[.pointer (some ⟨be, 0, none⟩)]] ∧ Qb w' bd 84 #[.int .i64 X.p.n, .int .i64 X.p.d, .int .i64 X.i.n, .int .i64 X.i.d, .int .i64 X.s.n, .int .i64 X.s.d] ∧ Qb w' bf 27 #[.int .i64 fr.y, .int .i64 fr.m, .bool fr.s, .int .i64 fr.d] ∧ Qb w' b1 27 #[.int .i64 tu.y, .int .i64 tu.m, .bool tu.s, .int .i64 tu.d] ∧ Qb w' be 33 #[.int .i64 Me] ∧ Qb w' b 61 #[.int .i64 Mn, .int .i64 Md] ∧ b1 ≠ b)
 ·refine Q5 15 [14] (fun x => Qa v0 x ∧ Qb x bt 147 #[.func (.func 78) #[] #[.pointer (some ⟨be, 0, none⟩)]] ∧ Qb x bd 84 #[.int .i64 X.p.n, .int .i64 X.p.d, .int .i64 X.i.n, .int .i64 X.i.d, .int .i64 X.s.n, .int .i64 X.s.d] ∧ Qb x bl 79 #[.int .i64 l.p.n, .int .i64 l.p.d, .int .i64 l.r.n, .int .i64 l.r.d, .int .i64 l.f.y, .int .i64 l.f.m, .bool l.f.s, .int .i64 l.f.d] ∧ Qb x bb 52 #[.slice A c.nk ca, .slice A' c.ny cb] ∧ Qb x bf 27 #[.int .i64 fr.y, .int .i64 fr.m, .bool fr.s, .int .i64 fr.d] ∧ Qb x b1 27 #[.int .i64 tu.y, .int .i64 tu.m, .bool tu.s, .int .i64 tu.d]) Qr rfl ?_
  intro vz hvz
  replace HO := HO.trans (Qx.of_ext hvz)
  replace HE := HE.trans hvz
  replace Ht := Ht.ext hvz
  replace Hd := Hd.ext hvz
  replace Hl := Hl.ext hvz
  replace Hb := Hb.ext hvz
  replace Hf := Hf.ext hvz
  replace H7 := H7.ext hvz
  replace He := He.ext hvz
  try replace Q := Q.ext hvz
  clear hvz
  refine Qp (g := 7) [0, 1, 2, 3, 4, 5, 6, 7] [_, _, _, _, _, _, _, _] ⟨rfl, rfl, rfl, rfl, rfl, rfl, rfl, rfl, trivial⟩ (by kernel_rfl) (by kernel_rfl) ⟨HE, Ht, Hd, Hl, Hb, Hf, H7⟩ ?_
  simp only [Qd, Qe, Qf]
  apply Exists.intro
  refine ⟨fun u hu => ?_, ?_⟩
  ·have t0 := hu.2.1.c1
   have lt := hu.2.1.lt
   obtain ⟨d0, d1, d2, d3, d4, d5⟩ := hu.2.2.1.c6
   have ld := hu.2.2.1.lt
   obtain ⟨p0, p1, p2, p3, p4, p5, p6, p7⟩ := hu.2.2.2.1.c8
   have lp := hu.2.2.2.1.lt
   obtain ⟨k0, k1⟩ := hu.2.2.2.2.1.c2
   have lk := hu.2.2.2.2.1.lt
   obtain ⟨f0, f1, f2, f3⟩ := hu.2.2.2.2.2.1.c4
   have lf := hu.2.2.2.2.2.1.lt
   obtain ⟨s0, s1, s2, s3⟩ := hu.2.2.2.2.2.2.c4
   have ls := hu.2.2.2.2.2.2.lt
   repeat (first | go_big_quiet_skip | (go_big_quiet_want; go_big_quiet_op; go_big_quiet_on))
   refine wpQuiet_nil ?_
   rfl
  refine Zn 8 13 rfl rfl (by kernel_rfl) ?_ ?_
  ·simp only [Qd, Qe, Qf]
   go_wp2_with (go_at_call 65; (with_reducible refine Calls.mono (Lm A A' ca cb c fr tu _ (C.ext HE)) ?_); rintro e wa ⟨rfl, h4⟩)
   replace HO := HO.trans (Qx.of_ext h4)
   replace HE := HE.trans h4
   replace Ht := Ht.ext h4
   replace Hd := Hd.ext h4
   replace Hl := Hl.ext h4
   replace Hb := Hb.ext h4
   replace Hf := Hf.ext h4
   replace H7 := H7.ext h4
   replace He := He.ext h4
   try replace Q := Q.ext h4
   clear h4
   refine Qi ⟨HE, Ht, Hd, Hl, Hb, Hf, H7⟩ ?_
   refine Zn 9 13 rfl rfl (by kernel_rfl) ?_ ?_
   ·simp only [Qd, Qe, Qf]
    go_wp2_with (go_at_call 19; (with_reducible refine Calls.mono (NI _ (Z.ext HE)) ?_); rintro e wc ⟨rfl, h4⟩)
    replace HO := HO.trans (Qx.of_ext h4)
    replace HE := HE.trans h4
    replace Ht := Ht.ext h4
    replace Hd := Hd.ext h4
    replace Hl := Hl.ext h4
    replace Hb := Hb.ext h4
    replace Hf := Hf.ext h4
    replace H7 := H7.ext h4
    replace He := He.ext h4
    try replace Q := Q.ext h4
    clear h4
    refine Qi ⟨HE, Ht, Hd, Hl, Hb, Hf, H7⟩ ?_
    refine Qp (g := 3) [10, 11] [_, _] ⟨rfl, rfl, trivial⟩ (by kernel_rfl) (by kernel_rfl) ⟨HE, Ht, Hd, Hl, Hb, Hf, H7⟩ ?_
    simp only [Qd, Qe, Qf]
    apply Exists.intro
    refine ⟨fun u hu => ?_, ?_⟩
    ·have t0 := hu.2.1.c1
     have lt := hu.2.1.lt
     obtain ⟨d0, d1, d2, d3, d4, d5⟩ := hu.2.2.1.c6
     have ld := hu.2.2.1.lt
     obtain ⟨p0, p1, p2, p3, p4, p5, p6, p7⟩ := hu.2.2.2.1.c8
     have lp := hu.2.2.2.1.lt
     obtain ⟨k0, k1⟩ := hu.2.2.2.2.1.c2
     have lk := hu.2.2.2.2.1.lt
     obtain ⟨f0, f1, f2, f3⟩ := hu.2.2.2.2.2.1.c4
     have lf := hu.2.2.2.2.2.1.lt
     obtain ⟨s0, s1, s2, s3⟩ := hu.2.2.2.2.2.2.c4
     have ls := hu.2.2.2.2.2.2.lt
     repeat (first | go_big_quiet_skip | (go_big_quiet_want; go_big_quiet_op; go_big_quiet_on))
     refine wpQuiet_nil ?_
     rfl
    refine Zn 12 13 rfl rfl (by kernel_rfl) ?_ ?_
    ·simp only [Qd, Qe, Qf]
     go_wp2_with (first | (go_at_call 78; (with_reducible refine Calls.mono (Yt ⟨Mn, Md⟩ Me 0 be _ He) ?_); rintro e we ⟨rfl, h5, He2⟩) | (go_at_fn 78; (with_reducible refine Calls.mono (Yt ⟨Mn, Md⟩ Me 0 be _ He) ?_); rintro e we ⟨rfl, h5, He2⟩))
     try rw [if_pos rfl] at He2
     have h5' := h5.mono (T := [bd, bf, be]) (fun k hk => by rw [List.mem_singleton.1 hk]; simp)
     replace HO := HO.trans h5'
     replace HE := h5.ext HE (fun k hk => by rw [List.mem_singleton.1 hk]; exact g3)
     replace Ht := h5.held Ht (by simp only [List.mem_singleton]; exact fun e => n4 (by rw [e]; simp))
     replace Hd := h5.held Hd (by simp only [List.mem_singleton]; exact n2)
     replace Hl := h5.held Hl (by simp only [List.mem_singleton]; exact fun e => n5 (by rw [e]; simp))
     replace Hb := h5.held Hb (by simp only [List.mem_singleton]; exact fun e => n6 (by rw [e]; simp))
     replace Hf := h5.held Hf (by simp only [List.mem_singleton]; exact n3)
     replace H7 := h5.held H7 (by simp only [List.mem_singleton]; exact n7)
     try replace Q := h5.held Q (by simp only [List.mem_singleton]; have := he.lt; omega)
     have He := He2
     clear h5 h5' He2
     refine Qi ⟨HE, Ht, Hd, Hl, Hb, Hf, H7⟩ ?_
     refine Qj 13 rfl (by kernel_rfl) ?_
     simp only [Qd, Qe, Qf]
     go_wp2
     obtain ⟨bq, hbq, Q, HE', hge⟩ := Yx HE 61 #[.int .i64 0, .int .i64 0]
     rw [← hbq]
     have hb1q : b1 ≠ bq := by have := H7.lt; omega
     have hwq : w.heap.size ≤ bq := by have := HO.size; omega
     have HO' := HO.trans (Qx.of_ext (S := [bd, bf, be]) ((Qa.refl _).alloc (.cells #[.int .i64 0, .int .i64 0] 61)))
     clear hbq
     replace Ht := Ht.alloc (.cells #[.int .i64 0, .int .i64 0] 61)
     replace Hd := Hd.alloc (.cells #[.int .i64 0, .int .i64 0] 61)
     replace Hl := Hl.alloc (.cells #[.int .i64 0, .int .i64 0] 61)
     replace Hb := Hb.alloc (.cells #[.int .i64 0, .int .i64 0] 61)
     replace Hf := Hf.alloc (.cells #[.int .i64 0, .int .i64 0] 61)
     replace H7 := H7.alloc (.cells #[.int .i64 0, .int .i64 0] 61)
     replace He := He.alloc (.cells #[.int .i64 0, .int .i64 0] 61)
     replace HE := HE'
     replace HO := HO'
     clear HE' HO'
     refine Qi ⟨HE, Ht, Hd, Hl, Hb, Hf, H7⟩ ?_
     refine Qn 14 rfl (by kernel_rfl) ?_
     simp only [Qd, Qe, Qf]
     have z0 := Q.frozen 0
     have z1 := Q.frozen 1
     obtain ⟨x0, x1⟩ := Q.c2
     have lx := Q.lt
     have Q2 := Ql Q (.int .i64 Mn) (.int .i64 Md)
     have hbq2 : ∀ b, b < w.heap.size → b ≠ bq := fun b h => by omega
     have Ht' := Qh (Qh Ht (hbq2 _ ht.lt) 0 (.int .i64 Mn)) (hbq2 _ ht.lt) 1 (.int .i64 Md)
     have Hd' := Qh (Qh Hd (hbq2 _ hd.lt) 0 (.int .i64 Mn)) (hbq2 _ hd.lt) 1 (.int .i64 Md)
     have Hl' := Qh (Qh Hl (hbq2 _ hl.lt) 0 (.int .i64 Mn)) (hbq2 _ hl.lt) 1 (.int .i64 Md)
     have Hb' := Qh (Qh Hb (hbq2 _ hb.lt) 0 (.int .i64 Mn)) (hbq2 _ hb.lt) 1 (.int .i64 Md)
     have Hf' := Qh (Qh Hf (hbq2 _ hf.lt) 0 (.int .i64 Mn)) (hbq2 _ hf.lt) 1 (.int .i64 Md)
     have He' := Qh (Qh He (hbq2 _ he.lt) 0 (.int .i64 Mn)) (hbq2 _ he.lt) 1 (.int .i64 Md)
     have H7' := Qh (Qh H7 hb1q 0 (.int .i64 Mn)) hb1q 1 (.int .i64 Md)
     have HO2 := HO.far hwq 0 1 (.int .i64 Mn) (.int .i64 Md)
     have HE2 := (HE.setCell (p := ⟨bq, 0, none⟩) hge (.int .i64 Mn)).setCell (p := ⟨bq, 1, none⟩) hge (.int .i64 Md)
     go_wp2
     refine Qm ?_
     refine Qt (by kernel_rfl) ?_
     exact Jw bq ⟨HE2, hwq, HO2, Ht', Hd', Hf', H7', He', Q2, hb1q⟩ rfl
    ·simp only [Qd, Qe, Qf]
     go_wp2
     obtain ⟨bq, hbq, Q, HE', hge⟩ := Yx HE 61 #[.int .i64 0, .int .i64 0]
     rw [← hbq]
     have hb1q : b1 ≠ bq := by have := H7.lt; omega
     have hwq : w.heap.size ≤ bq := by have := HO.size; omega
     have HO' := HO.trans (Qx.of_ext (S := [bd, bf, be]) ((Qa.refl _).alloc (.cells #[.int .i64 0, .int .i64 0] 61)))
     clear hbq
     replace Ht := Ht.alloc (.cells #[.int .i64 0, .int .i64 0] 61)
     replace Hd := Hd.alloc (.cells #[.int .i64 0, .int .i64 0] 61)
     replace Hl := Hl.alloc (.cells #[.int .i64 0, .int .i64 0] 61)
     replace Hb := Hb.alloc (.cells #[.int .i64 0, .int .i64 0] 61)
     replace Hf := Hf.alloc (.cells #[.int .i64 0, .int .i64 0] 61)
     replace H7 := H7.alloc (.cells #[.int .i64 0, .int .i64 0] 61)
     replace He := He.alloc (.cells #[.int .i64 0, .int .i64 0] 61)
     replace HE := HE'
     replace HO := HO'
     clear HE' HO'
     refine Qi ⟨HE, Ht, Hd, Hl, Hb, Hf, H7⟩ ?_
     refine Qj 12 rfl (by kernel_rfl) ?_
     simp only [Qd, Qe, Qf]
     go_wp2_with (first | (go_at_call 78; (with_reducible refine Calls.mono (Yt ⟨Mn, Md⟩ Me 0 be _ He) ?_); rintro e we ⟨rfl, h5, He2⟩) | (go_at_fn 78; (with_reducible refine Calls.mono (Yt ⟨Mn, Md⟩ Me 0 be _ He) ?_); rintro e we ⟨rfl, h5, He2⟩))
     try rw [if_pos rfl] at He2
     have h5' := h5.mono (T := [bd, bf, be]) (fun k hk => by rw [List.mem_singleton.1 hk]; simp)
     replace HO := HO.trans h5'
     replace HE := h5.ext HE (fun k hk => by rw [List.mem_singleton.1 hk]; exact g3)
     replace Ht := h5.held Ht (by simp only [List.mem_singleton]; exact fun e => n4 (by rw [e]; simp))
     replace Hd := h5.held Hd (by simp only [List.mem_singleton]; exact n2)
     replace Hl := h5.held Hl (by simp only [List.mem_singleton]; exact fun e => n5 (by rw [e]; simp))
     replace Hb := h5.held Hb (by simp only [List.mem_singleton]; exact fun e => n6 (by rw [e]; simp))
     replace Hf := h5.held Hf (by simp only [List.mem_singleton]; exact n3)
     replace H7 := h5.held H7 (by simp only [List.mem_singleton]; exact n7)
     try replace Q := h5.held Q (by simp only [List.mem_singleton]; have := he.lt; omega)
     have He := He2
     clear h5 h5' He2
     refine Qi ⟨HE, Ht, Hd, Hl, Hb, Hf, H7⟩ ?_
     refine Qn 14 rfl (by kernel_rfl) ?_
     simp only [Qd, Qe, Qf]
     have z0 := Q.frozen 0
     have z1 := Q.frozen 1
     obtain ⟨x0, x1⟩ := Q.c2
     have lx := Q.lt
     have Q2 := Ql Q (.int .i64 Mn) (.int .i64 Md)
     have hbq2 : ∀ b, b < w.heap.size → b ≠ bq := fun b h => by omega
     have Ht' := Qh (Qh Ht (hbq2 _ ht.lt) 0 (.int .i64 Mn)) (hbq2 _ ht.lt) 1 (.int .i64 Md)
     have Hd' := Qh (Qh Hd (hbq2 _ hd.lt) 0 (.int .i64 Mn)) (hbq2 _ hd.lt) 1 (.int .i64 Md)
     have Hl' := Qh (Qh Hl (hbq2 _ hl.lt) 0 (.int .i64 Mn)) (hbq2 _ hl.lt) 1 (.int .i64 Md)
     have Hb' := Qh (Qh Hb (hbq2 _ hb.lt) 0 (.int .i64 Mn)) (hbq2 _ hb.lt) 1 (.int .i64 Md)
     have Hf' := Qh (Qh Hf (hbq2 _ hf.lt) 0 (.int .i64 Mn)) (hbq2 _ hf.lt) 1 (.int .i64 Md)
     have He' := Qh (Qh He (hbq2 _ he.lt) 0 (.int .i64 Mn)) (hbq2 _ he.lt) 1 (.int .i64 Md)
     have H7' := Qh (Qh H7 hb1q 0 (.int .i64 Mn)) hb1q 1 (.int .i64 Md)
     have HO2 := HO.far hwq 0 1 (.int .i64 Mn) (.int .i64 Md)
     have HE2 := (HE.setCell (p := ⟨bq, 0, none⟩) hge (.int .i64 Mn)).setCell (p := ⟨bq, 1, none⟩) hge (.int .i64 Md)
     go_wp2
     refine Qm ?_
     refine Qt (by kernel_rfl) ?_
     exact Jw bq ⟨HE2, hwq, HO2, Ht', Hd', Hf', H7', He', Q2, hb1q⟩ rfl
   ·simp only [Qd, Qe, Qf]
    go_wp2
    obtain ⟨bq, hbq, Q, HE', hge⟩ := Yx HE 61 #[.int .i64 0, .int .i64 0]
    rw [← hbq]
    have hb1q : b1 ≠ bq := by have := H7.lt; omega
    have hwq : w.heap.size ≤ bq := by have := HO.size; omega
    have HO' := HO.trans (Qx.of_ext (S := [bd, bf, be]) ((Qa.refl _).alloc (.cells #[.int .i64 0, .int .i64 0] 61)))
    clear hbq
    replace Ht := Ht.alloc (.cells #[.int .i64 0, .int .i64 0] 61)
    replace Hd := Hd.alloc (.cells #[.int .i64 0, .int .i64 0] 61)
    replace Hl := Hl.alloc (.cells #[.int .i64 0, .int .i64 0] 61)
    replace Hb := Hb.alloc (.cells #[.int .i64 0, .int .i64 0] 61)
    replace Hf := Hf.alloc (.cells #[.int .i64 0, .int .i64 0] 61)
    replace H7 := H7.alloc (.cells #[.int .i64 0, .int .i64 0] 61)
    replace He := He.alloc (.cells #[.int .i64 0, .int .i64 0] 61)
    replace HE := HE'
    replace HO := HO'
    clear HE' HO'
    refine Qi ⟨HE, Ht, Hd, Hl, Hb, Hf, H7⟩ ?_
    refine Qj 9 rfl (by kernel_rfl) ?_
    simp only [Qd, Qe, Qf]
    go_wp2_with (go_at_call 19; (with_reducible refine Calls.mono (NI _ (Z.ext HE)) ?_); rintro e wc ⟨rfl, h4⟩)
    replace HO := HO.trans (Qx.of_ext h4)
    replace HE := HE.trans h4
    replace Ht := Ht.ext h4
    replace Hd := Hd.ext h4
    replace Hl := Hl.ext h4
    replace Hb := Hb.ext h4
    replace Hf := Hf.ext h4
    replace H7 := H7.ext h4
    replace He := He.ext h4
    try replace Q := Q.ext h4
    clear h4
    refine Qi ⟨HE, Ht, Hd, Hl, Hb, Hf, H7⟩ ?_
    refine Qp (g := 2) [10, 11] [_, _] ⟨rfl, rfl, trivial⟩ (by kernel_rfl) (by kernel_rfl) ⟨HE, Ht, Hd, Hl, Hb, Hf, H7⟩ ?_
    simp only [Qd, Qe, Qf]
    apply Exists.intro
    refine ⟨fun u hu => ?_, ?_⟩
    ·have t0 := hu.2.1.c1
     have lt := hu.2.1.lt
     obtain ⟨d0, d1, d2, d3, d4, d5⟩ := hu.2.2.1.c6
     have ld := hu.2.2.1.lt
     obtain ⟨p0, p1, p2, p3, p4, p5, p6, p7⟩ := hu.2.2.2.1.c8
     have lp := hu.2.2.2.1.lt
     obtain ⟨k0, k1⟩ := hu.2.2.2.2.1.c2
     have lk := hu.2.2.2.2.1.lt
     obtain ⟨f0, f1, f2, f3⟩ := hu.2.2.2.2.2.1.c4
     have lf := hu.2.2.2.2.2.1.lt
     obtain ⟨s0, s1, s2, s3⟩ := hu.2.2.2.2.2.2.c4
     have ls := hu.2.2.2.2.2.2.lt
     repeat (first | go_big_quiet_skip | (go_big_quiet_want; go_big_quiet_op; go_big_quiet_on))
     refine wpQuiet_nil ?_
     rfl
    refine Qj 12 rfl (by kernel_rfl) ?_
    simp only [Qd, Qe, Qf]
    go_wp2_with (first | (go_at_call 78; (with_reducible refine Calls.mono (Yt ⟨Mn, Md⟩ Me 0 be _ He) ?_); rintro e we ⟨rfl, h5, He2⟩) | (go_at_fn 78; (with_reducible refine Calls.mono (Yt ⟨Mn, Md⟩ Me 0 be _ He) ?_); rintro e we ⟨rfl, h5, He2⟩))
    try rw [if_pos rfl] at He2
    have h5' := h5.mono (T := [bd, bf, be]) (fun k hk => by rw [List.mem_singleton.1 hk]; simp)
    replace HO := HO.trans h5'
    replace HE := h5.ext HE (fun k hk => by rw [List.mem_singleton.1 hk]; exact g3)
    replace Ht := h5.held Ht (by simp only [List.mem_singleton]; exact fun e => n4 (by rw [e]; simp))
    replace Hd := h5.held Hd (by simp only [List.mem_singleton]; exact n2)
    replace Hl := h5.held Hl (by simp only [List.mem_singleton]; exact fun e => n5 (by rw [e]; simp))
    replace Hb := h5.held Hb (by simp only [List.mem_singleton]; exact fun e => n6 (by rw [e]; simp))
    replace Hf := h5.held Hf (by simp only [List.mem_singleton]; exact n3)
    replace H7 := h5.held H7 (by simp only [List.mem_singleton]; exact n7)
    try replace Q := h5.held Q (by simp only [List.mem_singleton]; have := he.lt; omega)
    have He := He2
    clear h5 h5' He2
    refine Qi ⟨HE, Ht, Hd, Hl, Hb, Hf, H7⟩ ?_
    refine Qn 14 rfl (by kernel_rfl) ?_
    simp only [Qd, Qe, Qf]
    have z0 := Q.frozen 0
    have z1 := Q.frozen 1
    obtain ⟨x0, x1⟩ := Q.c2
    have lx := Q.lt
    have Q2 := Ql Q (.int .i64 Mn) (.int .i64 Md)
    have hbq2 : ∀ b, b < w.heap.size → b ≠ bq := fun b h => by omega
    have Ht' := Qh (Qh Ht (hbq2 _ ht.lt) 0 (.int .i64 Mn)) (hbq2 _ ht.lt) 1 (.int .i64 Md)
    have Hd' := Qh (Qh Hd (hbq2 _ hd.lt) 0 (.int .i64 Mn)) (hbq2 _ hd.lt) 1 (.int .i64 Md)
    have Hl' := Qh (Qh Hl (hbq2 _ hl.lt) 0 (.int .i64 Mn)) (hbq2 _ hl.lt) 1 (.int .i64 Md)
    have Hb' := Qh (Qh Hb (hbq2 _ hb.lt) 0 (.int .i64 Mn)) (hbq2 _ hb.lt) 1 (.int .i64 Md)
    have Hf' := Qh (Qh Hf (hbq2 _ hf.lt) 0 (.int .i64 Mn)) (hbq2 _ hf.lt) 1 (.int .i64 Md)
    have He' := Qh (Qh He (hbq2 _ he.lt) 0 (.int .i64 Mn)) (hbq2 _ he.lt) 1 (.int .i64 Md)
    have H7' := Qh (Qh H7 hb1q 0 (.int .i64 Mn)) hb1q 1 (.int .i64 Md)
    have HO2 := HO.far hwq 0 1 (.int .i64 Mn) (.int .i64 Md)
    have HE2 := (HE.setCell (p := ⟨bq, 0, none⟩) hge (.int .i64 Mn)).setCell (p := ⟨bq, 1, none⟩) hge (.int .i64 Md)
    go_wp2
    refine Qm ?_
    refine Qt (by kernel_rfl) ?_
    exact Jw bq ⟨HE2, hwq, HO2, Ht', Hd', Hf', H7', He', Q2, hb1q⟩ rfl
  ·simp only [Qd, Qe, Qf]
   go_wp2
   obtain ⟨bq, hbq, Q, HE', hge⟩ := Yx HE 61 #[.int .i64 0, .int .i64 0]
   rw [← hbq]
   have hb1q : b1 ≠ bq := by have := H7.lt; omega
   have hwq : w.heap.size ≤ bq := by have := HO.size; omega
   have HO' := HO.trans (Qx.of_ext (S := [bd, bf, be]) ((Qa.refl _).alloc (.cells #[.int .i64 0, .int .i64 0] 61)))
   clear hbq
   replace Ht := Ht.alloc (.cells #[.int .i64 0, .int .i64 0] 61)
   replace Hd := Hd.alloc (.cells #[.int .i64 0, .int .i64 0] 61)
   replace Hl := Hl.alloc (.cells #[.int .i64 0, .int .i64 0] 61)
   replace Hb := Hb.alloc (.cells #[.int .i64 0, .int .i64 0] 61)
   replace Hf := Hf.alloc (.cells #[.int .i64 0, .int .i64 0] 61)
   replace H7 := H7.alloc (.cells #[.int .i64 0, .int .i64 0] 61)
   replace He := He.alloc (.cells #[.int .i64 0, .int .i64 0] 61)
   replace HE := HE'
   replace HO := HO'
   clear HE' HO'
   refine Qi ⟨HE, Ht, Hd, Hl, Hb, Hf, H7⟩ ?_
   refine Qj 8 rfl (by kernel_rfl) ?_
   simp only [Qd, Qe, Qf]
   go_wp2_with (go_at_call 65; (with_reducible refine Calls.mono (Lm A A' ca cb c fr tu _ (C.ext HE)) ?_); rintro e wa ⟨rfl, h4⟩)
   replace HO := HO.trans (Qx.of_ext h4)
   replace HE := HE.trans h4
   replace Ht := Ht.ext h4
   replace Hd := Hd.ext h4
   replace Hl := Hl.ext h4
   replace Hb := Hb.ext h4
   replace Hf := Hf.ext h4
   replace H7 := H7.ext h4
   replace He := He.ext h4
   try replace Q := Q.ext h4
   clear h4
   refine Qi ⟨HE, Ht, Hd, Hl, Hb, Hf, H7⟩ ?_
   refine Qj 9 rfl (by kernel_rfl) ?_
   simp only [Qd, Qe, Qf]
   go_wp2_with (go_at_call 19; (with_reducible refine Calls.mono (NI _ (Z.ext HE)) ?_); rintro e wc ⟨rfl, h4⟩)
   replace HO := HO.trans (Qx.of_ext h4)
   replace HE := HE.trans h4
   replace Ht := Ht.ext h4
   replace Hd := Hd.ext h4
   replace Hl := Hl.ext h4
   replace Hb := Hb.ext h4
   replace Hf := Hf.ext h4
   replace H7 := H7.ext h4
   replace He := He.ext h4
   try replace Q := Q.ext h4
   clear h4
   refine Qi ⟨HE, Ht, Hd, Hl, Hb, Hf, H7⟩ ?_
   refine Qp (g := 2) [10, 11] [_, _] ⟨rfl, rfl, trivial⟩ (by kernel_rfl) (by kernel_rfl) ⟨HE, Ht, Hd, Hl, Hb, Hf, H7⟩ ?_
   simp only [Qd, Qe, Qf]
   apply Exists.intro
   refine ⟨fun u hu => ?_, ?_⟩
   ·have t0 := hu.2.1.c1
    have lt := hu.2.1.lt
    obtain ⟨d0, d1, d2, d3, d4, d5⟩ := hu.2.2.1.c6
    have ld := hu.2.2.1.lt
    obtain ⟨p0, p1, p2, p3, p4, p5, p6, p7⟩ := hu.2.2.2.1.c8
    have lp := hu.2.2.2.1.lt
    obtain ⟨k0, k1⟩ := hu.2.2.2.2.1.c2
    have lk := hu.2.2.2.2.1.lt
    obtain ⟨f0, f1, f2, f3⟩ := hu.2.2.2.2.2.1.c4
    have lf := hu.2.2.2.2.2.1.lt
    obtain ⟨s0, s1, s2, s3⟩ := hu.2.2.2.2.2.2.c4
    have ls := hu.2.2.2.2.2.2.lt
    repeat (first | go_big_quiet_skip | (go_big_quiet_want; go_big_quiet_op; go_big_quiet_on))
    refine wpQuiet_nil ?_
    rfl
   refine Qj 12 rfl (by kernel_rfl) ?_
   simp only [Qd, Qe, Qf]
   go_wp2_with (first | (go_at_call 78; (with_reducible refine Calls.mono (Yt ⟨Mn, Md⟩ Me 0 be _ He) ?_); rintro e we ⟨rfl, h5, He2⟩) | (go_at_fn 78; (with_reducible refine Calls.mono (Yt ⟨Mn, Md⟩ Me 0 be _ He) ?_); rintro e we ⟨rfl, h5, He2⟩))
   try rw [if_pos rfl] at He2
   have h5' := h5.mono (T := [bd, bf, be]) (fun k hk => by rw [List.mem_singleton.1 hk]; simp)
   replace HO := HO.trans h5'
   replace HE := h5.ext HE (fun k hk => by rw [List.mem_singleton.1 hk]; exact g3)
   replace Ht := h5.held Ht (by simp only [List.mem_singleton]; exact fun e => n4 (by rw [e]; simp))
   replace Hd := h5.held Hd (by simp only [List.mem_singleton]; exact n2)
   replace Hl := h5.held Hl (by simp only [List.mem_singleton]; exact fun e => n5 (by rw [e]; simp))
   replace Hb := h5.held Hb (by simp only [List.mem_singleton]; exact fun e => n6 (by rw [e]; simp))
   replace Hf := h5.held Hf (by simp only [List.mem_singleton]; exact n3)
   replace H7 := h5.held H7 (by simp only [List.mem_singleton]; exact n7)
   try replace Q := h5.held Q (by simp only [List.mem_singleton]; have := he.lt; omega)
   have He := He2
   clear h5 h5' He2
   refine Qi ⟨HE, Ht, Hd, Hl, Hb, Hf, H7⟩ ?_
   refine Qn 14 rfl (by kernel_rfl) ?_
   simp only [Qd, Qe, Qf]
   have z0 := Q.frozen 0
   have z1 := Q.frozen 1
   obtain ⟨x0, x1⟩ := Q.c2
   have lx := Q.lt
   have Q2 := Ql Q (.int .i64 Mn) (.int .i64 Md)
   have hbq2 : ∀ b, b < w.heap.size → b ≠ bq := fun b h => by omega
   have Ht' := Qh (Qh Ht (hbq2 _ ht.lt) 0 (.int .i64 Mn)) (hbq2 _ ht.lt) 1 (.int .i64 Md)
   have Hd' := Qh (Qh Hd (hbq2 _ hd.lt) 0 (.int .i64 Mn)) (hbq2 _ hd.lt) 1 (.int .i64 Md)
   have Hl' := Qh (Qh Hl (hbq2 _ hl.lt) 0 (.int .i64 Mn)) (hbq2 _ hl.lt) 1 (.int .i64 Md)
   have Hb' := Qh (Qh Hb (hbq2 _ hb.lt) 0 (.int .i64 Mn)) (hbq2 _ hb.lt) 1 (.int .i64 Md)
   have Hf' := Qh (Qh Hf (hbq2 _ hf.lt) 0 (.int .i64 Mn)) (hbq2 _ hf.lt) 1 (.int .i64 Md)
   have He' := Qh (Qh He (hbq2 _ he.lt) 0 (.int .i64 Mn)) (hbq2 _ he.lt) 1 (.int .i64 Md)
   have H7' := Qh (Qh H7 hb1q 0 (.int .i64 Mn)) hb1q 1 (.int .i64 Md)
   have HO2 := HO.far hwq 0 1 (.int .i64 Mn) (.int .i64 Md)
   have HE2 := (HE.setCell (p := ⟨bq, 0, none⟩) hge (.int .i64 Mn)).setCell (p := ⟨bq, 1, none⟩) hge (.int .i64 Md)
   go_wp2
   refine Qm ?_
   refine Qt (by kernel_rfl) ?_
   exact Jw bq ⟨HE2, hwq, HO2, Ht', Hd', Hf', H7', He', Q2, hb1q⟩ rfl
 rintro b8 w3 ⟨HE3, hw8, HO3, Ht3, Hd3, Hf3, H73, He3, Q, n9⟩
 clear HE HO Ht Hd Hf He H7 Hl Hb NI
 have HE := HE3
 have HO := HO3
 have Ht := Ht3
 have Hd := Hd3
 have Hf := Hf3
 have H7 := H73
 have He := He3
 clear HE3 HO3 Ht3 Hd3 Hf3 H73 He3
 have e0 := He.c1
 have le := He.lt
 by_cases h0 : Me = 0
 ·subst h0
  have NA := fun w z => Ki X.i ⟨Mn, Md⟩ hX.i hMi w z
  have hSi := U0 X.i ⟨Mn, Md⟩
  have hV := HV.out
  rw [if_neg (by simp)] at hV
  generalize Q7 X.i ⟨Mn, Md⟩ = S at *
  obtain ⟨⟨Sn, Sd⟩, Se⟩ := S
  have hV2 : V.2 = Se ∧ (Se = 0 → V.1 = ⟨X.p, ⟨Sn, Sd⟩, X.s⟩) := by
   rw [hV]
   by_cases hs : Se = 0
   ·rw [if_neg (by simpa using hs)]; exact ⟨hs.symm, fun _ => rfl⟩
   ·rw [if_pos hs]; exact ⟨rfl, fun h => absurd h hs⟩
  replace hV2 := Lib.hid hV2
  clear HV hV
  go_upto_region 3 with (fail)
  clear e0 le
  refine Q5 10 [9] (fun x => Qa v0 x ∧ Qb x bt 147 #[.func (.func 78) #[] #[.pointer (some ⟨be, 0, none⟩)]] ∧ Qb x bd 84 #[.int .i64 X.p.n, .int .i64 X.p.d, .int .i64 X.i.n, .int .i64 X.i.d, .int .i64 X.s.n, .int .i64 X.s.d] ∧ Qb x b8 61 #[.int .i64 Mn, .int .i64 Md] ∧ True) Qr rfl ?_
  intro vz hvz
  replace HO := HO.trans (Qx.of_ext hvz)
  replace HE := HE.trans hvz
  replace Ht := Ht.ext hvz
  replace Hd := Hd.ext hvz
  replace Hf := Hf.ext hvz
  replace H7 := H7.ext hvz
  replace He := He.ext hvz
  replace Q := Q.ext hvz
  clear hvz
  refine Qp (g := 6) [0, 1, 2, 3] [_, _, _, _] ⟨rfl, rfl, rfl, rfl, trivial⟩ (by kernel_rfl) (by kernel_rfl) ⟨HE, Ht, Hd, Q, trivial⟩ ?_
  simp only [Qd, Qe, Qf]
  apply Exists.intro
  refine ⟨fun u hu => ?_, ?_⟩
  ·have t0 := hu.2.1.c1
   have lt := hu.2.1.lt
   obtain ⟨d0, d1, d2, d3, d4, d5⟩ := hu.2.2.1.c6
   have ld := hu.2.2.1.lt
   obtain ⟨r0, r1⟩ := hu.2.2.2.1.c2
   have lr := hu.2.2.2.1.lt
   repeat (first | go_big_quiet_skip | (go_big_quiet_want; go_big_quiet_op; go_big_quiet_on))
   refine wpQuiet_nil ?_
   rfl
  refine Qj 4 rfl (by kernel_rfl) ?_
  simp only [Qd, Qe, Qf]
  go_wp2_with (go_at_call 59; (with_reducible refine Calls.mono (NA _ (Z.ext HE)) ?_); rintro e wc ⟨rfl, h4⟩)
  replace HO := HO.trans (Qx.of_ext h4)
  replace HE := HE.trans h4
  replace Ht := Ht.ext h4
  replace Hd := Hd.ext h4
  replace Hf := Hf.ext h4
  replace H7 := H7.ext h4
  replace He := He.ext h4
  replace Q := Q.ext h4
  clear h4
  refine Qi ⟨HE, Ht, Hd, Q, trivial⟩ ?_
  refine Qp (g := 3) [5, 6] [_, _] ⟨rfl, rfl, trivial⟩ (by kernel_rfl) (by kernel_rfl) ⟨HE, Ht, Hd, Q, trivial⟩ ?_
  simp only [Qd, Qe, Qf]
  apply Exists.intro
  refine ⟨fun u hu => ?_, ?_⟩
  ·have t0 := hu.2.1.c1
   have lt := hu.2.1.lt
   obtain ⟨d0, d1, d2, d3, d4, d5⟩ := hu.2.2.1.c6
   have ld := hu.2.2.1.lt
   obtain ⟨r0, r1⟩ := hu.2.2.2.1.c2
   have lr := hu.2.2.2.1.lt
   repeat (first | go_big_quiet_skip | (go_big_quiet_want; go_big_quiet_op; go_big_quiet_on))
   refine wpQuiet_nil ?_
   rfl
  refine Qj 7 rfl (by kernel_rfl) ?_
  simp only [Qd, Qe, Qf]
  go_wp2_with (first | (go_at_call 78; (with_reducible refine Calls.mono (Yt ⟨Sn, Sd⟩ Se 0 be _ He) ?_); rintro e we ⟨rfl, h5, He2⟩) | (go_at_fn 78; (with_reducible refine Calls.mono (Yt ⟨Sn, Sd⟩ Se 0 be _ He) ?_); rintro e we ⟨rfl, h5, He2⟩))
  try rw [if_pos rfl] at He2
  have h5' := h5.mono (T := [bd, bf, be]) (fun k hk => by rw [List.mem_singleton.1 hk]; simp)
  replace HO := HO.trans h5'
  replace HE := h5.ext HE (fun k hk => by rw [List.mem_singleton.1 hk]; exact g3)
  replace Ht := h5.held Ht (by simp only [List.mem_singleton]; exact fun e => n4 (by rw [e]; simp))
  replace Hd := h5.held Hd (by simp only [List.mem_singleton]; exact n2)
  replace Hf := h5.held Hf (by simp only [List.mem_singleton]; exact n3)
  replace H7 := h5.held H7 (by simp only [List.mem_singleton]; exact n7)
  replace Q := h5.held Q (by simp only [List.mem_singleton]; have := he.lt; omega)
  have He := He2
  clear h5 h5' He2
  refine Qi ⟨HE, Ht, Hd, Q, trivial⟩ ?_
  refine Qp (g := 1) [8] [_] ⟨rfl, trivial⟩ (by kernel_rfl) (by kernel_rfl) ⟨HE, Ht, Hd, Q, trivial⟩ ?_
  simp only [Qd, Qe, Qf]
  apply Exists.intro
  refine ⟨fun u hu => ?_, ?_⟩
  ·have t0 := hu.2.1.c1
   have lt := hu.2.1.lt
   obtain ⟨d0, d1, d2, d3, d4, d5⟩ := hu.2.2.1.c6
   have ld := hu.2.2.1.lt
   obtain ⟨r0, r1⟩ := hu.2.2.2.1.c2
   have lr := hu.2.2.2.1.lt
   repeat (first | go_big_quiet_skip | (go_big_quiet_want; go_big_quiet_op; go_big_quiet_on))
   refine wpQuiet_nil ?_
   rfl
  refine Qn 9 rfl (by kernel_rfl) ?_
  simp only [Qd, Qe, Qf]
  have z2 := Hd.frozen 2
  have z3 := Hd.frozen 3
  obtain ⟨x0, x1, x2, x3, x4, x5⟩ := Hd.c6
  have lx := Hd.lt
  have Hd2 := L3 Hd (.int .i64 Sn) (.int .i64 Sd)
  have Hf := Qh (Qh Hf (Ne.symm n1) 2 (.int .i64 Sn)) (Ne.symm n1) 3 (.int .i64 Sd)
  have He := Qh (Qh He (Ne.symm n2) 2 (.int .i64 Sn)) (Ne.symm n2) 3 (.int .i64 Sd)
  have H7 := Qh (Qh H7 (n8) 2 (.int .i64 Sn)) (n8) 3 (.int .i64 Sd)
  have HO := (HO.trans (Qx.set _ (by simp : bd ∈ [bd, bf, be]) 2 (.int .i64 Sn))).trans (Qx.set _ (by simp : bd ∈ [bd, bf, be]) 3 (.int .i64 Sd))
  go_wp2
  refine Qm ?_
  refine Qt (by kernel_rfl) ?_
  have Hd := Hd2
  generalize World.setCell _ _ _ = wq at *
  clear z2 z3 x0 x1 x2 x3 x4 x5 lx
  have YY : ∃ Y : Db, Y.In ∧ Qb (World.setCell (World.setCell (World.setCell (World.setCell wq ⟨bf, 0, none⟩ (.int .i64 tu.y)) ⟨bf, 1, none⟩ (.int .i64 tu.m)) ⟨bf, 2, none⟩ (.bool tu.s)) ⟨bf, 3, none⟩ (.int .i64 tu.d)) bd 84 #[.int .i64 Y.p.n, .int .i64 Y.p.d, .int .i64 Y.i.n, .int .i64 Y.i.d, .int .i64 Y.s.n, .int .i64 Y.s.d] ∧ (V.2 = 0 → Y = V.1) :=
   ⟨⟨X.p, ⟨Sn, Sd⟩, X.s⟩, ⟨hX.p, hSi, hX.s⟩, Qh (Qh (Qh (Qh Hd n1 0 (.int .i64 tu.y)) n1 1 (.int .i64 tu.m)) n1 2 (.bool tu.s)) n1 3 (.int .i64 tu.d), fun h => (hV2.out.2 (hV2.out.1.symm.trans h)).symm⟩
  have hVe := Lib.hid hV2.out.1
  obtain ⟨s0, s1, s2, s3⟩ := H7.c4
  have ls := H7.lt
  obtain ⟨f0, f1, f2, f3⟩ := Hf.c4
  have lf := Hf.lt
  have z0 := Hf.frozen 0
  have z1 := Hf.frozen 1
  have z2 := Hf.frozen 2
  have z3 := Hf.frozen 3
  have Hf2 := Sa Hf (.int .i64 tu.y) (.int .i64 tu.m) (.bool tu.s) (.int .i64 tu.d)
  have He2 := Qh (Qh (Qh (Qh He (Ne.symm n3) 0 (.int .i64 tu.y)) (Ne.symm n3) 1 (.int .i64 tu.m)) (Ne.symm n3) 2 (.bool tu.s)) (Ne.symm n3) 3 (.int .i64 tu.d)
  have Hd2 := Qh (Qh (Qh (Qh Hd n1 0 (.int .i64 tu.y)) n1 1 (.int .i64 tu.m)) n1 2 (.bool tu.s)) n1 3 (.int .i64 tu.d)
  have OF := (((HO.trans (Qx.set _ (by simp : bf ∈ [bd, bf, be]) 0 (.int .i64 tu.y))).trans (Qx.set _ (by simp : bf ∈ [bd, bf, be]) 1 (.int .i64 tu.m))).trans (Qx.set _ (by simp : bf ∈ [bd, bf, be]) 2 (.bool tu.s))).trans (Qx.set _ (by simp : bf ∈ [bd, bf, be]) 3 (.int .i64 tu.d))
  go_wp2
  (try simp only [Exit.inBlock, Exit.then])
  refine bodyPost_end (results_none rfl _ _ _) rfl ⟨rfl, OF, Hf2, by rw [hVe.out]; exact He2, YY⟩
 ·have g0 : (Me == 0) = false := beq_eq_false_iff_ne.2 h0
  have hV := HV.out
  rw [if_pos h0] at hV
  have YY : ∃ Y : Db, Y.In ∧ Qb (World.setCell (World.setCell (World.setCell (World.setCell w3 ⟨bf, 0, none⟩ (.int .i64 tu.y)) ⟨bf, 1, none⟩ (.int .i64 tu.m)) ⟨bf, 2, none⟩ (.bool tu.s)) ⟨bf, 3, none⟩ (.int .i64 tu.d)) bd 84 #[.int .i64 Y.p.n, .int .i64 Y.p.d, .int .i64 Y.i.n, .int .i64 Y.i.d, .int .i64 Y.s.n, .int .i64 Y.s.d] ∧ (V.2 = 0 → Y = V.1) :=
   ⟨X, hX, Qh (Qh (Qh (Qh Hd n1 0 (.int .i64 tu.y)) n1 1 (.int .i64 tu.m)) n1 2 (.bool tu.s)) n1 3 (.int .i64 tu.d), fun h => by rw [hV]⟩
  have hVe : V.2 = Me := by rw [hV]
  clear HV hV h0
  replace hVe := Lib.hid hVe
  obtain ⟨s0, s1, s2, s3⟩ := H7.c4
  have ls := H7.lt
  obtain ⟨f0, f1, f2, f3⟩ := Hf.c4
  have lf := Hf.lt
  have z0 := Hf.frozen 0
  have z1 := Hf.frozen 1
  have z2 := Hf.frozen 2
  have z3 := Hf.frozen 3
  have Hf2 := Sa Hf (.int .i64 tu.y) (.int .i64 tu.m) (.bool tu.s) (.int .i64 tu.d)
  have He2 := Qh (Qh (Qh (Qh He (Ne.symm n3) 0 (.int .i64 tu.y)) (Ne.symm n3) 1 (.int .i64 tu.m)) (Ne.symm n3) 2 (.bool tu.s)) (Ne.symm n3) 3 (.int .i64 tu.d)
  have Hd2 := Qh (Qh (Qh (Qh Hd n1 0 (.int .i64 tu.y)) n1 1 (.int .i64 tu.m)) n1 2 (.bool tu.s)) n1 3 (.int .i64 tu.d)
  have OF := (((HO.trans (Qx.set _ (by simp : bf ∈ [bd, bf, be]) 0 (.int .i64 tu.y))).trans (Qx.set _ (by simp : bf ∈ [bd, bf, be]) 1 (.int .i64 tu.m))).trans (Qx.set _ (by simp : bf ∈ [bd, bf, be]) 2 (.bool tu.s))).trans (Qx.set _ (by simp : bf ∈ [bd, bf, be]) 3 (.int .i64 tu.d))
  go_wp2
  (try simp only [Exit.inBlock, Exit.then])
  refine bodyPost_end (results_none rfl _ _ _) rfl ⟨rfl, OF, Hf2, by rw [hVe.out]; exact He2, YY⟩
end
section
def Wv (v : Db × Int) : Db × Int := if v.2 ≠ 0 then (Jq, v.2) else v
def Jv (c : Qc) (r : Rt) (f : Nat → Zy) (on : Dt) (i m : Nat) (x : Db) (a : Dt) : Db × Int := Wv (Y7 c r f on i m x a)
def M6 (c : Qc) (r : Rt) (f : Nat → Zy) (on : Dt) (i m : Nat) (x : Db) (lf : Rt) : Db × Int := if (Q7 x.s lf).2 ≠ 0 then (Jq, (Q7 x.s lf).2) else Jv c r f on (i + 1) m ⟨x.p, x.i, (Q7 x.s lf).1⟩ (f i).on
def M5 (c : Qc) (r : Rt) (f : Nat → Zy) (on : Dt) (i m : Nat) (x : Db) (lf : Rt) : Db × Int := if (Qy x.p lf).2 ≠ 0 then (Jq, (Qy x.p lf).2) else M6 c r f on i m ⟨(Qy x.p lf).1.1, x.i, x.s⟩ (Qy x.p lf).1.2
def M4 (c : Qc) (r : Rt) (f : Nat → Zy) (on : Dt) (i m : Nat) (x : Db) (lf : Rt) : Db × Int := if (Qy x.i lf).2 ≠ 0 then (Jq, (Qy x.i lf).2) else M5 c r f on i m ⟨x.p, (Qy x.i lf).1.1, x.s⟩ (Qy x.i lf).1.2
theorem V0 {v : Db × Int} (h : v.2 ≠ 0) : Wv v = (Jq, v.2) := by unfold Wv; rw [if_pos h]
theorem P4 {v : Db × Int} (h : v.2 = 0) : Wv v = v := by unfold Wv; rw [if_neg (by simpa using h)]
theorem Qd6 {c : Qc} {r : Rt} {f : Nat → Zy} {on : Dt} {i m : Nat} {x : Db} {a : Dt} (h : c.numV on < c.numV (f i).on) : Jv c r f on i (m + 1) x a = Wv (Zd c r x a on) := by
 unfold Jv; rw [Y7, if_pos h]
theorem Qd4 {c : Qc} {r : Rt} {f : Nat → Zy} {on : Dt} {i m : Nat} {x : Db} {a : Dt} (h : ¬ c.numV on < c.numV (f i).on) (h2 : (Zd c r x a (f i).on).2 ≠ 0) : Jv c r f on i (m + 1) x a = (Jq, (Zd c r x a (f i).on).2) := by
 unfold Jv; rw [Y7, if_neg h, if_pos h2]; exact V0 h2
theorem Qd5 {c : Qc} {r : Rt} {f : Nat → Zy} {on : Dt} {i m : Nat} {x : Db} {a : Dt} (h : ¬ c.numV on < c.numV (f i).on) (h2 : (Zd c r x a (f i).on).2 = 0) : Jv c r f on i (m + 1) x a = M4 c r f on i m (Zd c r x a (f i).on).1 (f i).n := by
 unfold Jv
 rw [Y7, if_neg h, if_neg (by simpa using h2)]
 generalize (Zd c r x a (f i).on).1 = X
 generalize (f i).n = n
 unfold Jz M4 M5 M6 Jv
 by_cases e1 : (Qy X.i n).2 ≠ 0
 ·rw [if_pos e1, if_pos e1, if_pos e1]; exact V0 e1
 ·rw [if_neg e1, if_neg e1]
  simp only
  by_cases e2 : (Qy X.p (Qy X.i n).1.2).2 ≠ 0
  ·rw [if_pos e2, if_pos e2, if_pos e2]; exact V0 e2
  ·rw [if_neg e2, if_neg e2]
   by_cases e3 : (Q7 X.s (Qy X.p (Qy X.i n).1.2).1.2).2 ≠ 0
   ·rw [if_pos e3, if_pos e3, if_pos e3]; exact V0 e3
   ·rw [if_neg e3, if_neg e3]
    simp
theorem Qdf {c : Qc} {l : Ln} {f : Nat → Zy} {n : Nat} {on : Dt} (h1 : c.loanE l f n = 0) (h2 : c.numV on ≠ 0) (h3 : ¬ c.numV on < c.numV l.f) : c.owedV l f n on = Jv c l.r f on 0 n (start l) l.f := by
 unfold Qc.owedV Jv Wv
 rw [if_neg (by rw [h1]; decide), if_neg h2, if_neg h3]
 by_cases e : (Y7 c l.r f on 0 n (start l) l.f).2 ≠ 0
 ·rw [if_pos e, if_pos e]
 ·rw [if_neg e, if_neg e]
  have e' := Decidable.not_not.1 e
  exact Prod.ext rfl e'.symm
end
end Go.Proofs.YtneiofnlmblglaaDoor
