/- Walks of the program's functions and plain facts, packed; proved: the lemmas below; no conditions but those that each states. -/
import Derived.Test.YtneiofnlmblglaaGreatDoorM4
set_option maxRecDepth 100000
set_option maxHeartbeats 4000000
namespace Go.Proofs.YtneiofnlmblglaaGreatDoor
open Go Go.RowKit Go.Shelf
attribute [local go_sem] gv_yes
/-- From w to w' no old block changes but those of S. -/
structure Only (S : List Nat) (w w' : World) : Prop where
 base : ∀ B, B ≤ w.heap.size → (∀ k, k ∈ S → B ≤ k) → Below B w w'
 keep : ∀ k, k < w.heap.size → k ∉ S → w'.heap[k]? = w.heap[k]?
 size : w.heap.size ≤ w'.heap.size
namespace Only
variable {S T : List Nat} {a b c W : World}
theorem of_ext (h : Ext a b) : Only S a b := ⟨fun _ hB _ => Below.mono h hB, fun _ hk _ => h.block hk, h.size⟩
theorem refl (a : World) : Only S a a := of_ext (Ext.refl a)
theorem trans (h : Only S a b) (k : Only S b c) : Only S a c :=
 ⟨fun B hB hS => Below.trans (h.base B hB hS) (k.base B (Nat.le_trans hB h.size) hS), fun j hj hjS => (k.keep j (Nat.lt_of_lt_of_le hj h.size) hjS).trans (h.keep j hj hjS), Nat.le_trans h.size k.size⟩
theorem set (a : World) {b : Nat} (hb : b ∈ S) (j : Nat) (u : Value) : Only S a (a.setCell ⟨b, j, none⟩ u) :=
 ⟨fun B hB hS => Below.setCell (Below.refl B a) (p := ⟨b, j, none⟩) (hS b hb) u, fun k _ hk => Below.heap_setCell _ _ _ k (fun e => hk (by have e' : k = b := e; rw [e']; exact hb)), (KeepsWalks.setCell a _ u).size⟩
theorem mono (h : Only S a b) (hs : ∀ k, k ∈ S → k ∈ T) : Only T a b := ⟨fun B hB hT => h.base B hB fun k hk => hT k (hs k hk), fun k hk hkT => h.keep k hk fun h' => hkT (hs k h'), h.size⟩
theorem ext (h : Only S a b) (e : Ext W a) (hS : ∀ k, k ∈ S → W.heap.size ≤ k) : Ext W b := Below.trans e (h.base W.heap.size e.size hS)
theorem held (h : Only S a b) {k : Nat} {t : TypeId} {cs : Array Value} (hk : Held a k t cs) (hS : k ∉ S) : Held b k t cs := (h.keep k hk.lt hS).trans hk
/-- Stores into a box that is younger than a. -/
theorem far1 (h : Only S a b) {k : Nat} (hk : a.heap.size ≤ k) (j : Nat) (u : Value) : Only S a (b.setCell ⟨k, j, none⟩ u) :=
 ⟨fun B hB hS => Below.setCell (h.base B hB hS) (p := ⟨k, j, none⟩) (Nat.le_trans hB hk) u, fun i hi hiS => (Below.heap_setCell _ _ _ i (fun e => by have e' : i = k := e; omega)).trans (h.keep i hi hiS), Nat.le_trans h.size (KeepsWalks.setCell b _ u).size⟩
theorem far (h : Only S a b) {k : Nat} (hk : a.heap.size ≤ k) (i j : Nat) (u v : Value) : Only S a ((b.setCell ⟨k, i, none⟩ u).setCell ⟨k, j, none⟩ v) := (h.far1 hk i u).far1 hk j v
end Only
theorem ex_new {W w : World} (h : Ext W w) (t : TypeId) (cs : Array Value) : ∃ b, b = w.heap.size ∧ Held (w.alloc (.cells cs t)) b t cs ∧ Ext W (w.alloc (.cells cs t)) ∧ W.heap.size ≤ b := ⟨_, rfl, Held.new w t cs, h.alloc _, h.size⟩
def cut1y (A : Nat → Act) (S : World → Nat → Prop) : Exit → Act → World → Prop := fun e a' w' => e = .normal ∧ ∃ r, S w' r ∧ a' = A r
theorem cut1y_is {A : Nat → Act} {S : World → Nat → Prop} {w' : World} (r : Nat) {a' : Act} (h : S w' r) (ha : a' = A r) : cut1y A S .normal a' w' := ⟨rfl, r, h, ha⟩
theorem wp_cut1y {P : Program} {c : Code} {Q : Exit → Act → World → Prop} {a : Act} {w : World} {A : Nat → Act} (S : World → Nat → Prop) (h1 : c.wp P (cut1y A S) a w) (h2 : ∀ r w', S w' r → Q .normal (A r) w') : c.wp P Q a w :=
 Code.wp_mono (fun e a' w' ⟨he, r, hs, ha⟩ => by subst he; subst ha; exact h2 r w' hs) h1
section
variable {W : World} {b : Nat} {t : TypeId} {v0 v1 v2 v3 v4 v5 : Value}
theorem held6_0 (h : Held W b t #[v0, v1, v2, v3, v4, v5]) (u0 u1 : Value) : Held ((W.setCell ⟨b, 0, none⟩ u0).setCell ⟨b, 1, none⟩ u1) b t #[u0, u1, v2, v3, v4, v5] := by unfold Held at h ⊢; simp [World.setCell, Array.getElem?_modify, h]
theorem held6_2 (h : Held W b t #[v0, v1, v2, v3, v4, v5]) (u0 u1 : Value) : Held ((W.setCell ⟨b, 2, none⟩ u0).setCell ⟨b, 3, none⟩ u1) b t #[v0, v1, u0, u1, v4, v5] := by unfold Held at h ⊢; simp [World.setCell, Array.getElem?_modify, h]
theorem held6_4 (h : Held W b t #[v0, v1, v2, v3, v4, v5]) (u0 u1 : Value) : Held ((W.setCell ⟨b, 4, none⟩ u0).setCell ⟨b, 5, none⟩ u1) b t #[v0, v1, v2, v3, u0, u1] := by unfold Held at h ⊢; simp [World.setCell, Array.getElem?_modify, h]
theorem held4 (h : Held W b t #[v0, v1, v2, v3]) (u0 u1 u2 u3 : Value) : Held ((((W.setCell ⟨b, 0, none⟩ u0).setCell ⟨b, 1, none⟩ u1).setCell ⟨b, 2, none⟩ u2).setCell ⟨b, 3, none⟩ u3) b t #[u0, u1, u2, u3] := by unfold Held at h ⊢; simp [World.setCell, Array.getElem?_modify, h]
end
theorem quo_in {neg : Bool} {P Q : Nat} (hQ : 1 ≤ Q) : (quo neg P Q).1.In := by
 by_cases h : (quo neg P Q).2 = 0
 ·exact ok_in (quo_ok hQ h).1
 ·unfold quo at h ⊢
  by_cases hb : P / Nat.gcd P Q ≤ 1099511627776 ∧ Q / Nat.gcd P Q ≤ 1048576
  ·rw [if_pos hb] at h; exact absurd rfl h
  ·rw [if_neg hb]; unfold Rt.In rat0; decide
theorem rat0_in : rat0.In := by unfold Rt.In rat0; decide
theorem ratW0_in : (ratW 0).In := by unfold Rt.In ratW; decide
theorem ratV_in {n d : Int} (hd : 1 ≤ d) : (ratV n d).1.In := by unfold ratV; rw [if_neg (by omega)]; exact quo_in (by omega)
theorem addR_in (a b : Rt) : (addR a b).1.In := by
 unfold addR
 by_cases h : a.ok && b.ok
 ·rw [if_pos h]; obtain ⟨h1, h2⟩ := Bool.and_eq_true_iff.1 h; exact ratV_in (ok_mul h1 h2).2.2.1
 ·rw [if_neg h]; exact rat0_in
theorem subR_in (a b : Rt) : (subR a b).1.In := by
 unfold subR
 by_cases h : a.ok && b.ok
 ·rw [if_pos h]; obtain ⟨h1, h2⟩ := Bool.and_eq_true_iff.1 h; exact ratV_in (ok_mul h1 h2).2.2.1
 ·rw [if_neg h]; exact rat0_in
theorem intV_in (p r : Rt) (k : Int) : (intV p r k).1.In := by
 unfold intV
 by_cases h : p.nn && r.nn
 ·rw [if_pos h]
  obtain ⟨h1, h2⟩ := Bool.and_eq_true_iff.1 h
  by_cases hk : k < 0 ∨ 1099511627776 < k
  ·rw [if_pos hk]; exact rat0_in
  ·rw [if_neg hk]
   exact quo_in (upTo_pos 4 fun i hi => by have := (ok_bd (fact4_ok (k := k) (nn_parts h1).1 (nn_parts h2).1 (by omega) (by omega) i hi)).1; omega)
 ·rw [if_neg h]; exact rat0_in
theorem payV_in {x n : Rt} : (payV x n).1.1.In ∧ (payV x n).1.2.In := by
 unfold payV
 split
 ·exact ⟨subR_in _ _, ratW0_in⟩
 ·exact ⟨ratW0_in, subR_in _ _⟩
structure Db.In (x : Db) : Prop where
 p : x.p.In
 i : x.i.In
 s : x.s.In
theorem try_any (r : Rt) (f ee : Int) (be : Nat) (w : World) (hE : Held w be 33 #[.int .i64 ee]) :
  Calls Tryz.prog 105 #[.agg #[.int .i64 r.n, .int .i64 r.d], .int .i64 f, .pointer (some ⟨be, 0, none⟩)] w fun e w' => e = .returned (.agg #[.int .i64 r.n, .int .i64 r.d]) ∧ Only [be] w w' ∧ Held w' be 33 #[.int .i64 (if ee = 0 then f else ee)] := by
 by_cases h0 : ee = 0
 ·have g1 : (ee == 0) = true := by rw [h0]; rfl
  rw [if_pos h0]
  subst h0
  go_enter Tryz.func105, Tryz.ntmps105
  go_upto_region 1 with (fail)
  obtain ⟨v, hv⟩ := zgE ((w.alloc (.cells #[.int .i64 r.n, .int .i64 r.d] 73)).alloc (.cells #[.int .i64 0, .int .i64 0] 73))
  rw [← hv]
  have E : Ext w v := by rw [hv]; exact ((Ext.refl _).alloc _).alloc _
  have B1 : Held v w.heap.size 73 #[.int .i64 r.n, .int .i64 r.d] := by rw [hv]; exact (Held.new _ _ _).alloc _
  have B2 : Held v (w.heap.size + 1) 73 #[.int .i64 0, .int .i64 0] := by rw [hv]; exact Held.at _ _ _ _ (by simp)
  clear hv
  obtain ⟨b2, hb2⟩ := zgE (w.heap.size + 1)
  rw [← hb2] at B2 ⊢
  obtain ⟨b1, hb1⟩ := zgE (w.heap.size)
  rw [← hb1] at B1 ⊢
  have hbr : w.heap.size ≤ b2 := by omega
  have hbr1 : w.heap.size ≤ b1 := by omega
  have hn21 : b2 ≠ b1 := by omega
  clear hb1 hb2
  have H1 := hE.ext E
  have hne : b2 ≠ be := by have := hE.lt; omega
  obtain ⟨k0, k1⟩ := B1.c2
  have lk := B1.lt
  have f9 := H1.frozen 0
  have k9 := H1.c1
  have l9 := H1.lt
  have H5 : Held (v.setCell ⟨be, 0, none⟩ (.int .i64 f)) be 33 #[.int .i64 f] := by unfold Held at H1 ⊢; simp [World.setCell, Array.getElem?_modify, H1]
  have O1 : Only [be] w (v.setCell ⟨be, 0, none⟩ (.int .i64 f)) := (Only.of_ext E).trans (Only.set v (List.mem_singleton.2 rfl) 0 _)
  have B22 := held_oth B2 hne 0 (.int .i64 f)
  have B12 := held_oth B1 (show b1 ≠ be by have := hE.lt; have := hbr1; omega) 0 (.int .i64 f)
  go_upto_region 3 with (fail)
  generalize World.setCell v _ _ = vq at *
  clear f9 k9 l9 k0 k1 lk
  obtain ⟨k0, k1⟩ := B12.c2
  have lk := B12.lt
  have f0 := B22.frozen 0
  have f1 := B22.frozen 1
  obtain ⟨x0, x1⟩ := B22.c2
  have lx := B22.lt
  have H4 := held_two B22 (.int .i64 r.n) (.int .i64 r.d)
  have HF := held_oth (held_oth H5 (Ne.symm hne) 0 (.int .i64 r.n)) (Ne.symm hne) 1 (.int .i64 r.d)
  have OF : Only [be] w ((vq.setCell ⟨b2, 0, none⟩ (.int .i64 r.n)).setCell ⟨b2, 1, none⟩ (.int .i64 r.d)) := O1.far (by omega) 0 1 _ _
  obtain ⟨y0, y1⟩ := H4.c2
  go_wp2
  refine bodyPost_ret (v := .agg #[.int .i64 r.n, .int .i64 r.d]) (by simp [results, Tryz.results105, go_sem, y0, y1]) rfl ⟨rfl, OF, HF⟩
 ·have g1 : (ee == 0) = false := beq_eq_false_iff_ne.2 h0
  rw [if_neg h0]
  go_enter Tryz.func105, Tryz.ntmps105
  go_upto_region 1 with (fail)
  obtain ⟨v, hv⟩ := zgE ((w.alloc (.cells #[.int .i64 r.n, .int .i64 r.d] 73)).alloc (.cells #[.int .i64 0, .int .i64 0] 73))
  rw [← hv]
  have E : Ext w v := by rw [hv]; exact ((Ext.refl _).alloc _).alloc _
  have B1 : Held v w.heap.size 73 #[.int .i64 r.n, .int .i64 r.d] := by rw [hv]; exact (Held.new _ _ _).alloc _
  have B2 : Held v (w.heap.size + 1) 73 #[.int .i64 0, .int .i64 0] := by rw [hv]; exact Held.at _ _ _ _ (by simp)
  clear hv
  obtain ⟨b2, hb2⟩ := zgE (w.heap.size + 1)
  rw [← hb2] at B2 ⊢
  obtain ⟨b1, hb1⟩ := zgE (w.heap.size)
  rw [← hb1] at B1 ⊢
  have hbr : w.heap.size ≤ b2 := by omega
  have hbr1 : w.heap.size ≤ b1 := by omega
  have hn21 : b2 ≠ b1 := by omega
  clear hb1 hb2
  have H1 := hE.ext E
  have hne : b2 ≠ be := by have := hE.lt; omega
  obtain ⟨k0, k1⟩ := B1.c2
  have lk := B1.lt
  have k9 := H1.c1
  have l9 := H1.lt
  have O1 : Only [be] w v := Only.of_ext E
  have f0 := B2.frozen 0
  have f1 := B2.frozen 1
  obtain ⟨x0, x1⟩ := B2.c2
  have lx := B2.lt
  have H4 := held_two B2 (.int .i64 r.n) (.int .i64 r.d)
  have HF := held_oth (held_oth H1 (Ne.symm hne) 0 (.int .i64 r.n)) (Ne.symm hne) 1 (.int .i64 r.d)
  have OF : Only [be] w ((v.setCell ⟨b2, 0, none⟩ (.int .i64 r.n)).setCell ⟨b2, 1, none⟩ (.int .i64 r.d)) := O1.far (by omega) 0 1 _ _
  obtain ⟨y0, y1⟩ := H4.c2
  go_wp2
  refine bodyPost_ret (v := .agg #[.int .i64 r.n, .int .i64 r.d]) (by simp [results, Tryz.results105, go_sem, y0, y1]) rfl ⟨rfl, OF, HF⟩
theorem payI_any (X : Db) (n : Rt) (hx : X.i.In) (hn : n.In) (bd : Nat) (w : World) (hD : Held w bd 85 #[.int .i64 X.p.n, .int .i64 X.p.d, .int .i64 X.i.n, .int .i64 X.i.d, .int .i64 X.s.n, .int .i64 X.s.d]) (hZ : Zro w) :
  Calls Tryz.prog 107 #[.pointer (some ⟨bd, 2, none⟩), .agg #[.int .i64 n.n, .int .i64 n.d]] w fun e w' => e = .returned (.tuple #[.agg #[.int .i64 (payV X.i n).1.2.n, .int .i64 (payV X.i n).1.2.d], .int .i64 (payV X.i n).2]) ∧ Only [bd] w w' ∧ Held w' bd 85 #[.int .i64 X.p.n, .int .i64 X.p.d, .int .i64 (payV X.i n).1.1.n, .int .i64 (payV X.i n).1.1.d, .int .i64 X.s.n, .int .i64 X.s.d] := by
 have NL := fun w => less_any n X.i hn hx w
 have N1 := fun w z => subF_any X.i n hx hn w z
 have N2 := fun w z => subF_any n X.i hn hx w z
 have HP : Hid ((payV X.i n) = if (cmpR n X.i).1 < 0 then (((subR X.i n).1, ratW 0), (subR X.i n).2) else ((ratW 0, (subR n X.i).1), (subR n X.i).2)) := rfl
 obtain ⟨R, hR0⟩ := zgE (payV X.i n)
 rw [← hR0] at HP ⊢
 clear hR0
 obtain ⟨cb, hcb⟩ := zgE (decide ((cmpR n X.i).1 < 0))
 rw [← hcb] at NL
 replace hcb := Lib.hid hcb
 go_enter Tryz.func107, Tryz.ntmps107
 go_upto_region 1 with (fail)
 obtain ⟨v, hv⟩ := zgE ((w.alloc (.cells #[.int .i64 n.n, .int .i64 n.d] 73)).alloc (.cells #[.int .i64 0, .int .i64 0] 73))
 rw [← hv]
 have E : Ext w v := by rw [hv]; exact ((Ext.refl _).alloc _).alloc _
 have B1 : Held v w.heap.size 73 #[.int .i64 n.n, .int .i64 n.d] := by rw [hv]; exact (Held.new _ _ _).alloc _
 have B2 : Held v (w.heap.size + 1) 73 #[.int .i64 0, .int .i64 0] := by rw [hv]; exact Held.at _ _ _ _ (by simp)
 clear hv
 obtain ⟨b2, hb2⟩ := zgE (w.heap.size + 1)
 rw [← hb2] at B2 ⊢
 obtain ⟨b1, hb1⟩ := zgE (w.heap.size)
 rw [← hb1] at B1 ⊢
 have hbr : w.heap.size ≤ b2 := by omega
 have hbr1 : w.heap.size ≤ b1 := by omega
 have hn21 : b2 ≠ b1 := by omega
 clear hb1 hb2
 have HD := hD.ext E
 have Z0 := hZ.ext E
 have hdw := hD.lt
 have hdn : ∀ b, w.heap.size ≤ b → bd ≠ b := fun b h => by omega
 obtain ⟨k0, k1⟩ := B1.c2
 have lk := B1.lt
 obtain ⟨d0, d1, d2, d3, d4, d5⟩ := HD.c6
 have ld := HD.lt
 go_upto_region 1 with (fail)
 refine wp_region_xw v mixed (by kernel_rfl) (by repeat (first | exact Ext.refl _ | (refine Ext.alloc ?_ _) | (refine Ext.trans ?_ (by assumption)))) ?_
 intro hne hrx hry
 try simp only []
 try simp only [List.append_eq, List.cons_append, List.nil_append]
 skip
 repeat (first
  | go_big_quiet_skip
  | (go_big_quiet_want; go_big_quiet_op; go_big_quiet_on)
  | (go_big_quiet_want; go_big_quiet_op; apply Exists.intro; refine ⟨fun u => ?_, ?_⟩
     ·first
       | (go_at_call 136; (with_reducible refine Calls.mono (NL _) ?_); rintro e w' ⟨rfl, hb⟩; exact ⟨rfl, u.back hb⟩)
     go_big_quiet_on))
 clear hne hry hrx
 refine wpQuiet_nil ?_
 intro w2 h2
 obtain ⟨hcw2, hfw2, hzw2⟩ := Ext.rules h2
 try simp only [World.size_alloc] at hzw2
 obtain ⟨hcbw2, hfbw2, hzbw2⟩ := Ext.rules (show Ext v w2 from (by repeat (first | exact Ext.refl _ | (refine Ext.alloc ?_ _) | (refine Ext.trans ?_ (by assumption)))))
 clear hcw2 hfw2
 replace E := E.trans h2
 replace B1 := B1.ext h2
 replace B2 := B2.ext h2
 replace HD := HD.ext h2
 have Z3 := Z0.ext h2
 clear k0 k1 lk d0 d1 d2 d3 d4 d5 ld Z0 hD hZ NL
 cases cb
 ·have hR := HP.out
  rw [if_neg (of_decide_eq_false hcb.out.symm)] at hR
  clear HP hcb N1
  generalize subR n X.i = S at *
  obtain ⟨⟨Sn, Sd⟩, Se⟩ := S
  subst hR
  go_upto_region 5 with (fail)
  apply wp_cut1y (S := fun w' b => Ext w2 w' ∧ w2.heap.size ≤ b ∧ Held w' b 73 #[.int .i64 Sn, .int .i64 Sd])
  ·refine wp_region_z 11 [6, 7, 9, 10] (fun x => Ext w2 x) mixed rfl ?_
   intro vz hvz
   have HC := hvz
   refine z_stills (g := 7) [0, 1, 2, 3] [_, _, _, _] ⟨rfl, rfl, rfl, rfl, trivial⟩ (by kernel_rfl) (by kernel_rfl) HC ?_
   simp only [zgA, zgB, zgC]
   apply Exists.intro
   refine ⟨fun u hu => ?_, ?_⟩
   ·obtain ⟨k0, k1⟩ := (B1.ext hu).c2
    have lk := (B1.ext hu).lt
    obtain ⟨d0, d1, d2, d3, d4, d5⟩ := (HD.ext hu).c6
    have ld := (HD.ext hu).lt
    repeat (first | go_big_quiet_skip | (go_big_quiet_want; go_big_quiet_op; go_big_quiet_on))
    refine wpQuiet_nil ?_
    rfl
   refine z_two 4 8 rfl rfl (by kernel_rfl) ?_ ?_
   ·simp only [zgA, zgB, zgC]
    go_wp2_with (go_at_call 81; (with_reducible refine Calls.mono (N2 _ (Z3.ext HC)) ?_); rintro e wa ⟨rfl, h4⟩)
    replace HC := HC.trans h4
    try replace Q := Q.ext h4
    clear h4
    refine onQ_in HC ?_
    refine z_stills (g := 5) [5] [_] ⟨rfl, trivial⟩ (by kernel_rfl) (by kernel_rfl) HC ?_
    simp only [zgA, zgB, zgC]
    apply Exists.intro
    refine ⟨fun u hu => ?_, ?_⟩
    ·obtain ⟨k0, k1⟩ := (B1.ext hu).c2
     have lk := (B1.ext hu).lt
     obtain ⟨d0, d1, d2, d3, d4, d5⟩ := (HD.ext hu).c6
     have ld := (HD.ext hu).lt
     repeat (first | go_big_quiet_skip | (go_big_quiet_want; go_big_quiet_op; go_big_quiet_on))
     refine wpQuiet_nil ?_
     rfl
    refine z_pures (g := 3) [6, 7] [_, _] ⟨rfl, rfl, trivial⟩ (by kernel_rfl) (by kernel_rfl) ?_
    simp only [zgA, zgB, zgC]
    apply Exists.intro
    refine ⟨fun u hu => ?_, ?_⟩
    ·repeat (first | go_big_quiet_skip | (go_big_quiet_want; go_big_quiet_op; go_big_quiet_on))
     refine wpQuiet_nil ?_
     rfl
    refine z_one 8 rfl (by kernel_rfl) ?_
    simp only [zgA, zgB, zgC]
    go_wp2
    obtain ⟨bq, hbq, Q, HC', hge⟩ := ex_new HC 73 #[.int .i64 0, .int .i64 0]
    rw [← hbq]
    clear hbq
    replace HC := HC'
    clear HC'
    refine onQ_in HC ?_
    refine z_end 9 rfl (by kernel_rfl) ?_
    simp only [zgA, zgB, zgC]
    have f0 := Q.frozen 0
    have f1 := Q.frozen 1
    obtain ⟨z0, z1⟩ := Q.c2
    have lz := Q.lt
    have Q2 := held_two Q (.int .i64 Sn) (.int .i64 Sd)
    have HE2 := (HC.setCell (p := ⟨bq, 0, none⟩) hge (.int .i64 Sn)).setCell (p := ⟨bq, 1, none⟩) hge (.int .i64 Sd)
    go_wp2
    refine onQ_last ?_
    refine z_end 10 rfl (by kernel_rfl) ?_
    simp only [zgA, zgB, zgC]
    go_wp2
    refine onQ_last ?_
    refine z_done (by kernel_rfl) ?_
    exact cut1y_is bq ⟨HE2, hge, Q2⟩ rfl
   ·simp only [zgA, zgB, zgC]
    go_wp2
    obtain ⟨bq, hbq, Q, HC', hge⟩ := ex_new HC 73 #[.int .i64 0, .int .i64 0]
    rw [← hbq]
    clear hbq
    replace HC := HC'
    clear HC'
    refine onQ_in HC ?_
    refine z_one 4 rfl (by kernel_rfl) ?_
    simp only [zgA, zgB, zgC]
    go_wp2_with (go_at_call 81; (with_reducible refine Calls.mono (N2 _ (Z3.ext HC)) ?_); rintro e wa ⟨rfl, h4⟩)
    replace HC := HC.trans h4
    try replace Q := Q.ext h4
    clear h4
    refine onQ_in HC ?_
    refine z_stills (g := 4) [5] [_] ⟨rfl, trivial⟩ (by kernel_rfl) (by kernel_rfl) HC ?_
    simp only [zgA, zgB, zgC]
    apply Exists.intro
    refine ⟨fun u hu => ?_, ?_⟩
    ·obtain ⟨k0, k1⟩ := (B1.ext hu).c2
     have lk := (B1.ext hu).lt
     obtain ⟨d0, d1, d2, d3, d4, d5⟩ := (HD.ext hu).c6
     have ld := (HD.ext hu).lt
     repeat (first | go_big_quiet_skip | (go_big_quiet_want; go_big_quiet_op; go_big_quiet_on))
     refine wpQuiet_nil ?_
     rfl
    refine z_pures (g := 2) [6, 7] [_, _] ⟨rfl, rfl, trivial⟩ (by kernel_rfl) (by kernel_rfl) ?_
    simp only [zgA, zgB, zgC]
    apply Exists.intro
    refine ⟨fun u hu => ?_, ?_⟩
    ·repeat (first | go_big_quiet_skip | (go_big_quiet_want; go_big_quiet_op; go_big_quiet_on))
     refine wpQuiet_nil ?_
     rfl
    refine z_end 9 rfl (by kernel_rfl) ?_
    simp only [zgA, zgB, zgC]
    have f0 := Q.frozen 0
    have f1 := Q.frozen 1
    obtain ⟨z0, z1⟩ := Q.c2
    have lz := Q.lt
    have Q2 := held_two Q (.int .i64 Sn) (.int .i64 Sd)
    have HE2 := (HC.setCell (p := ⟨bq, 0, none⟩) hge (.int .i64 Sn)).setCell (p := ⟨bq, 1, none⟩) hge (.int .i64 Sd)
    go_wp2
    refine onQ_last ?_
    refine z_end 10 rfl (by kernel_rfl) ?_
    simp only [zgA, zgB, zgC]
    go_wp2
    refine onQ_last ?_
    refine z_done (by kernel_rfl) ?_
    exact cut1y_is bq ⟨HE2, hge, Q2⟩ rfl
  rintro b6 w3 ⟨E3, hg6, H6⟩
  have hw2 := E.size
  replace HD := HD.ext E3
  replace B2 := B2.ext E3
  replace E := E.trans E3
  have OD : Only [bd] w w3 := Only.of_ext E
  clear E3 B1 N2 Z3
  obtain ⟨r0, r1⟩ := H6.c2
  have lr := H6.lt
  have f0 := HD.frozen 2
  have f1 := HD.frozen 3
  obtain ⟨d0, d1, d2, d3, d4, d5⟩ := HD.c6
  have ld := HD.lt
  have HD2 := held6_2 HD (.int .i64 0) (.int .i64 1)
  have OD2 := (OD.trans (Only.set w3 (List.mem_singleton.2 rfl) 2 (.int .i64 0))).trans (Only.set _ (List.mem_singleton.2 rfl) 3 (.int .i64 1))
  have B22 := held_oth (held_oth B2 (Ne.symm (hdn b2 hbr)) 2 (.int .i64 0)) (Ne.symm (hdn b2 hbr)) 3 (.int .i64 1)
  have H62 := held_oth (held_oth H6 (Ne.symm (hdn b6 (by omega))) 2 (.int .i64 0)) (Ne.symm (hdn b6 (by omega))) 3 (.int .i64 1)
  clear f0 f1 d0 d1 d2 d3 d4 d5 ld r0 r1 lr HD2 OD2 B22 H62
  go_upto_region 6 with (fail)
  go_upto_region 7 with (go_at_call 74; (with_reducible refine Calls.mono (whole_any _ _) ?_); rintro e wa ⟨rfl, h4⟩; replace HD := HD.ext h4; replace B2 := B2.ext h4; replace H6 := H6.ext h4; replace OD := OD.trans (Only.of_ext h4); have HD2 := held6_2 HD (.int .i64 0) (.int .i64 1); have OD2 := (OD.trans (Only.set _ (List.mem_singleton.2 rfl) 2 (.int .i64 0))).trans (Only.set _ (List.mem_singleton.2 rfl) 3 (.int .i64 1)); have B22 := held_oth (held_oth B2 (Ne.symm (hdn b2 hbr)) 2 (.int .i64 0)) (Ne.symm (hdn b2 hbr)) 3 (.int .i64 1); have H62 := held_oth (held_oth H6 (Ne.symm (hdn b6 (by omega))) 2 (.int .i64 0)) (Ne.symm (hdn b6 (by omega))) 3 (.int .i64 1); have f0 := HD.frozen 2; have f1 := HD.frozen 3; obtain ⟨d0, d1, d2, d3, d4, d5⟩ := HD.c6; have ld := HD.lt)
  generalize World.setCell _ _ _ = w4 at *
  clear f0 f1 d0 d1 d2 d3 d4 d5 ld B2 H6 HD OD h4
  have hw4 : w.heap.size ≤ b2 := hbr
  obtain ⟨r0, r1⟩ := H62.c2
  have lr := H62.lt
  have f0 := B22.frozen 0
  have f1 := B22.frozen 1
  obtain ⟨x0, x1⟩ := B22.c2
  have lx := B22.lt
  have H4 := held_two B22 (.int .i64 Sn) (.int .i64 Sd)
  have OF := OD2.far hbr 0 1 (.int .i64 Sn) (.int .i64 Sd)
  have HF := held_oth (held_oth HD2 (hdn b2 hbr) 0 (.int .i64 Sn)) (hdn b2 hbr) 1 (.int .i64 Sd)
  obtain ⟨y0, y1⟩ := H4.c2
  go_wp2
  refine bodyPost_ret (v := .tuple #[.agg #[.int .i64 Sn, .int .i64 Sd], .int .i64 Se]) (by simp [results, Tryz.results107, go_sem, y0, y1]) rfl ⟨rfl, OF, HF⟩
 ·have hR := HP.out
  rw [if_pos (of_decide_eq_true hcb.out.symm)] at hR
  clear HP hcb N2
  generalize subR X.i n = S at *
  obtain ⟨⟨Sn, Sd⟩, Se⟩ := S
  subst hR
  go_upto_region 2 with (fail)
  apply wp_cut1y (S := fun w' b => Ext w2 w' ∧ w2.heap.size ≤ b ∧ Held w' b 73 #[.int .i64 Sn, .int .i64 Sd])
  ·refine wp_region_z 11 [6, 7, 9, 10] (fun x => Ext w2 x) mixed rfl ?_
   intro vz hvz
   have HC := hvz
   refine z_stills (g := 7) [0, 1, 2, 3] [_, _, _, _] ⟨rfl, rfl, rfl, rfl, trivial⟩ (by kernel_rfl) (by kernel_rfl) HC ?_
   simp only [zgA, zgB, zgC]
   apply Exists.intro
   refine ⟨fun u hu => ?_, ?_⟩
   ·obtain ⟨k0, k1⟩ := (B1.ext hu).c2
    have lk := (B1.ext hu).lt
    obtain ⟨d0, d1, d2, d3, d4, d5⟩ := (HD.ext hu).c6
    have ld := (HD.ext hu).lt
    repeat (first | go_big_quiet_skip | (go_big_quiet_want; go_big_quiet_op; go_big_quiet_on))
    refine wpQuiet_nil ?_
    rfl
   refine z_two 4 8 rfl rfl (by kernel_rfl) ?_ ?_
   ·simp only [zgA, zgB, zgC]
    go_wp2_with (go_at_call 81; (with_reducible refine Calls.mono (N1 _ (Z3.ext HC)) ?_); rintro e wa ⟨rfl, h4⟩)
    replace HC := HC.trans h4
    try replace Q := Q.ext h4
    clear h4
    refine onQ_in HC ?_
    refine z_stills (g := 5) [5] [_] ⟨rfl, trivial⟩ (by kernel_rfl) (by kernel_rfl) HC ?_
    simp only [zgA, zgB, zgC]
    apply Exists.intro
    refine ⟨fun u hu => ?_, ?_⟩
    ·obtain ⟨k0, k1⟩ := (B1.ext hu).c2
     have lk := (B1.ext hu).lt
     obtain ⟨d0, d1, d2, d3, d4, d5⟩ := (HD.ext hu).c6
     have ld := (HD.ext hu).lt
     repeat (first | go_big_quiet_skip | (go_big_quiet_want; go_big_quiet_op; go_big_quiet_on))
     refine wpQuiet_nil ?_
     rfl
    refine z_pures (g := 3) [6, 7] [_, _] ⟨rfl, rfl, trivial⟩ (by kernel_rfl) (by kernel_rfl) ?_
    simp only [zgA, zgB, zgC]
    apply Exists.intro
    refine ⟨fun u hu => ?_, ?_⟩
    ·repeat (first | go_big_quiet_skip | (go_big_quiet_want; go_big_quiet_op; go_big_quiet_on))
     refine wpQuiet_nil ?_
     rfl
    refine z_one 8 rfl (by kernel_rfl) ?_
    simp only [zgA, zgB, zgC]
    go_wp2
    obtain ⟨bq, hbq, Q, HC', hge⟩ := ex_new HC 73 #[.int .i64 0, .int .i64 0]
    rw [← hbq]
    clear hbq
    replace HC := HC'
    clear HC'
    refine onQ_in HC ?_
    refine z_end 9 rfl (by kernel_rfl) ?_
    simp only [zgA, zgB, zgC]
    have f0 := Q.frozen 0
    have f1 := Q.frozen 1
    obtain ⟨z0, z1⟩ := Q.c2
    have lz := Q.lt
    have Q2 := held_two Q (.int .i64 Sn) (.int .i64 Sd)
    have HE2 := (HC.setCell (p := ⟨bq, 0, none⟩) hge (.int .i64 Sn)).setCell (p := ⟨bq, 1, none⟩) hge (.int .i64 Sd)
    go_wp2
    refine onQ_last ?_
    refine z_end 10 rfl (by kernel_rfl) ?_
    simp only [zgA, zgB, zgC]
    go_wp2
    refine onQ_last ?_
    refine z_done (by kernel_rfl) ?_
    exact cut1y_is bq ⟨HE2, hge, Q2⟩ rfl
   ·simp only [zgA, zgB, zgC]
    go_wp2
    obtain ⟨bq, hbq, Q, HC', hge⟩ := ex_new HC 73 #[.int .i64 0, .int .i64 0]
    rw [← hbq]
    clear hbq
    replace HC := HC'
    clear HC'
    refine onQ_in HC ?_
    refine z_one 4 rfl (by kernel_rfl) ?_
    simp only [zgA, zgB, zgC]
    go_wp2_with (go_at_call 81; (with_reducible refine Calls.mono (N1 _ (Z3.ext HC)) ?_); rintro e wa ⟨rfl, h4⟩)
    replace HC := HC.trans h4
    try replace Q := Q.ext h4
    clear h4
    refine onQ_in HC ?_
    refine z_stills (g := 4) [5] [_] ⟨rfl, trivial⟩ (by kernel_rfl) (by kernel_rfl) HC ?_
    simp only [zgA, zgB, zgC]
    apply Exists.intro
    refine ⟨fun u hu => ?_, ?_⟩
    ·obtain ⟨k0, k1⟩ := (B1.ext hu).c2
     have lk := (B1.ext hu).lt
     obtain ⟨d0, d1, d2, d3, d4, d5⟩ := (HD.ext hu).c6
     have ld := (HD.ext hu).lt
     repeat (first | go_big_quiet_skip | (go_big_quiet_want; go_big_quiet_op; go_big_quiet_on))
     refine wpQuiet_nil ?_
     rfl
    refine z_pures (g := 2) [6, 7] [_, _] ⟨rfl, rfl, trivial⟩ (by kernel_rfl) (by kernel_rfl) ?_
    simp only [zgA, zgB, zgC]
    apply Exists.intro
    refine ⟨fun u hu => ?_, ?_⟩
    ·repeat (first | go_big_quiet_skip | (go_big_quiet_want; go_big_quiet_op; go_big_quiet_on))
     refine wpQuiet_nil ?_
     rfl
    refine z_end 9 rfl (by kernel_rfl) ?_
    simp only [zgA, zgB, zgC]
    have f0 := Q.frozen 0
    have f1 := Q.frozen 1
    obtain ⟨z0, z1⟩ := Q.c2
    have lz := Q.lt
    have Q2 := held_two Q (.int .i64 Sn) (.int .i64 Sd)
    have HE2 := (HC.setCell (p := ⟨bq, 0, none⟩) hge (.int .i64 Sn)).setCell (p := ⟨bq, 1, none⟩) hge (.int .i64 Sd)
    go_wp2
    refine onQ_last ?_
    refine z_end 10 rfl (by kernel_rfl) ?_
    simp only [zgA, zgB, zgC]
    go_wp2
    refine onQ_last ?_
    refine z_done (by kernel_rfl) ?_
    exact cut1y_is bq ⟨HE2, hge, Q2⟩ rfl
  rintro b6 w3 ⟨E3, hg6, H6⟩
  have hw2 := E.size
  replace HD := HD.ext E3
  replace B2 := B2.ext E3
  replace E := E.trans E3
  have OD : Only [bd] w w3 := Only.of_ext E
  clear E3 B1 N1 Z3
  obtain ⟨r0, r1⟩ := H6.c2
  have lr := H6.lt
  have f0 := HD.frozen 2
  have f1 := HD.frozen 3
  obtain ⟨d0, d1, d2, d3, d4, d5⟩ := HD.c6
  have ld := HD.lt
  have HD2 := held6_2 HD (.int .i64 Sn) (.int .i64 Sd)
  have OD2 := (OD.trans (Only.set w3 (List.mem_singleton.2 rfl) 2 (.int .i64 Sn))).trans (Only.set _ (List.mem_singleton.2 rfl) 3 (.int .i64 Sd))
  have B22 := held_oth (held_oth B2 (Ne.symm (hdn b2 hbr)) 2 (.int .i64 Sn)) (Ne.symm (hdn b2 hbr)) 3 (.int .i64 Sd)
  have H62 := held_oth (held_oth H6 (Ne.symm (hdn b6 (by omega))) 2 (.int .i64 Sn)) (Ne.symm (hdn b6 (by omega))) 3 (.int .i64 Sd)
  go_upto_region 4 with (fail)
  generalize World.setCell _ _ _ = w4 at *
  clear f0 f1 d0 d1 d2 d3 d4 d5 ld r0 r1 lr B2 H6 HD OD
  have hw4 : w.heap.size ≤ b2 := hbr
  go_wp2_with (go_at_call 74; (with_reducible refine Calls.mono (whole_any _ _) ?_); rintro e w5 ⟨rfl, h5⟩; replace OD2 := OD2.trans (Only.of_ext h5); replace HD2 := HD2.ext h5; replace B22 := B22.ext h5; have f0 := B22.frozen 0; have f1 := B22.frozen 1; obtain ⟨x0, x1⟩ := B22.c2; have lx := B22.lt)
  have H4 := held_two B22 (.int .i64 0) (.int .i64 1)
  have OF := OD2.far hbr 0 1 (.int .i64 0) (.int .i64 1)
  have HF := held_oth (held_oth HD2 (hdn b2 hbr) 0 (.int .i64 0)) (hdn b2 hbr) 1 (.int .i64 1)
  obtain ⟨y0, y1⟩ := H4.c2
  go_wp2
  refine bodyPost_ret (v := .tuple #[.agg #[.int .i64 0, .int .i64 1], .int .i64 Se]) (by simp [results, Tryz.results107, go_sem, y0, y1]) rfl ⟨rfl, OF, HF⟩
theorem payP_any (X : Db) (n : Rt) (hx : X.p.In) (hn : n.In) (bd : Nat) (w : World) (hD : Held w bd 85 #[.int .i64 X.p.n, .int .i64 X.p.d, .int .i64 X.i.n, .int .i64 X.i.d, .int .i64 X.s.n, .int .i64 X.s.d]) (hZ : Zro w) :
  Calls Tryz.prog 107 #[.pointer (some ⟨bd, 0, none⟩), .agg #[.int .i64 n.n, .int .i64 n.d]] w fun e w' => e = .returned (.tuple #[.agg #[.int .i64 (payV X.p n).1.2.n, .int .i64 (payV X.p n).1.2.d], .int .i64 (payV X.p n).2]) ∧ Only [bd] w w' ∧ Held w' bd 85 #[.int .i64 (payV X.p n).1.1.n, .int .i64 (payV X.p n).1.1.d, .int .i64 X.i.n, .int .i64 X.i.d, .int .i64 X.s.n, .int .i64 X.s.d] := by
 have NL := fun w => less_any n X.p hn hx w
 have N1 := fun w z => subF_any X.p n hx hn w z
 have N2 := fun w z => subF_any n X.p hn hx w z
 have HP : Hid ((payV X.p n) = if (cmpR n X.p).1 < 0 then (((subR X.p n).1, ratW 0), (subR X.p n).2) else ((ratW 0, (subR n X.p).1), (subR n X.p).2)) := rfl
 obtain ⟨R, hR0⟩ := zgE (payV X.p n)
 rw [← hR0] at HP ⊢
 clear hR0
 obtain ⟨cb, hcb⟩ := zgE (decide ((cmpR n X.p).1 < 0))
 rw [← hcb] at NL
 replace hcb := Lib.hid hcb
 go_enter Tryz.func107, Tryz.ntmps107
 go_upto_region 1 with (fail)
 obtain ⟨v, hv⟩ := zgE ((w.alloc (.cells #[.int .i64 n.n, .int .i64 n.d] 73)).alloc (.cells #[.int .i64 0, .int .i64 0] 73))
 rw [← hv]
 have E : Ext w v := by rw [hv]; exact ((Ext.refl _).alloc _).alloc _
 have B1 : Held v w.heap.size 73 #[.int .i64 n.n, .int .i64 n.d] := by rw [hv]; exact (Held.new _ _ _).alloc _
 have B2 : Held v (w.heap.size + 1) 73 #[.int .i64 0, .int .i64 0] := by rw [hv]; exact Held.at _ _ _ _ (by simp)
 clear hv
 obtain ⟨b2, hb2⟩ := zgE (w.heap.size + 1)
 rw [← hb2] at B2 ⊢
 obtain ⟨b1, hb1⟩ := zgE (w.heap.size)
 rw [← hb1] at B1 ⊢
 have hbr : w.heap.size ≤ b2 := by omega
 have hbr1 : w.heap.size ≤ b1 := by omega
 have hn21 : b2 ≠ b1 := by omega
 clear hb1 hb2
 have HD := hD.ext E
 have Z0 := hZ.ext E
 have hdw := hD.lt
 have hdn : ∀ b, w.heap.size ≤ b → bd ≠ b := fun b h => by omega
 obtain ⟨k0, k1⟩ := B1.c2
 have lk := B1.lt
 obtain ⟨d0, d1, d2, d3, d4, d5⟩ := HD.c6
 have ld := HD.lt
 go_upto_region 1 with (fail)
 refine wp_region_xw v mixed (by kernel_rfl) (by repeat (first | exact Ext.refl _ | (refine Ext.alloc ?_ _) | (refine Ext.trans ?_ (by assumption)))) ?_
 intro hne hrx hry
 try simp only []
 try simp only [List.append_eq, List.cons_append, List.nil_append]
 skip
 repeat (first
  | go_big_quiet_skip
  | (go_big_quiet_want; go_big_quiet_op; go_big_quiet_on)
  | (go_big_quiet_want; go_big_quiet_op; apply Exists.intro; refine ⟨fun u => ?_, ?_⟩
     ·first
       | (go_at_call 136; (with_reducible refine Calls.mono (NL _) ?_); rintro e w' ⟨rfl, hb⟩; exact ⟨rfl, u.back hb⟩)
     go_big_quiet_on))
 clear hne hry hrx
 refine wpQuiet_nil ?_
 intro w2 h2
 obtain ⟨hcw2, hfw2, hzw2⟩ := Ext.rules h2
 try simp only [World.size_alloc] at hzw2
 obtain ⟨hcbw2, hfbw2, hzbw2⟩ := Ext.rules (show Ext v w2 from (by repeat (first | exact Ext.refl _ | (refine Ext.alloc ?_ _) | (refine Ext.trans ?_ (by assumption)))))
 clear hcw2 hfw2
 replace E := E.trans h2
 replace B1 := B1.ext h2
 replace B2 := B2.ext h2
 replace HD := HD.ext h2
 have Z3 := Z0.ext h2
 clear k0 k1 lk d0 d1 d2 d3 d4 d5 ld Z0 hD hZ NL
 cases cb
 ·have hR := HP.out
  rw [if_neg (of_decide_eq_false hcb.out.symm)] at hR
  clear HP hcb N1
  generalize subR n X.p = S at *
  obtain ⟨⟨Sn, Sd⟩, Se⟩ := S
  subst hR
  go_upto_region 5 with (fail)
  apply wp_cut1y (S := fun w' b => Ext w2 w' ∧ w2.heap.size ≤ b ∧ Held w' b 73 #[.int .i64 Sn, .int .i64 Sd])
  ·refine wp_region_z 11 [6, 7, 9, 10] (fun x => Ext w2 x) mixed rfl ?_
   intro vz hvz
   have HC := hvz
   refine z_stills (g := 7) [0, 1, 2, 3] [_, _, _, _] ⟨rfl, rfl, rfl, rfl, trivial⟩ (by kernel_rfl) (by kernel_rfl) HC ?_
   simp only [zgA, zgB, zgC]
   apply Exists.intro
   refine ⟨fun u hu => ?_, ?_⟩
   ·obtain ⟨k0, k1⟩ := (B1.ext hu).c2
    have lk := (B1.ext hu).lt
    obtain ⟨d0, d1, d2, d3, d4, d5⟩ := (HD.ext hu).c6
    have ld := (HD.ext hu).lt
    repeat (first | go_big_quiet_skip | (go_big_quiet_want; go_big_quiet_op; go_big_quiet_on))
    refine wpQuiet_nil ?_
    rfl
   refine z_two 4 8 rfl rfl (by kernel_rfl) ?_ ?_
   ·simp only [zgA, zgB, zgC]
    go_wp2_with (go_at_call 81; (with_reducible refine Calls.mono (N2 _ (Z3.ext HC)) ?_); rintro e wa ⟨rfl, h4⟩)
    replace HC := HC.trans h4
    try replace Q := Q.ext h4
    clear h4
    refine onQ_in HC ?_
    refine z_stills (g := 5) [5] [_] ⟨rfl, trivial⟩ (by kernel_rfl) (by kernel_rfl) HC ?_
    simp only [zgA, zgB, zgC]
    apply Exists.intro
    refine ⟨fun u hu => ?_, ?_⟩
    ·obtain ⟨k0, k1⟩ := (B1.ext hu).c2
     have lk := (B1.ext hu).lt
     obtain ⟨d0, d1, d2, d3, d4, d5⟩ := (HD.ext hu).c6
     have ld := (HD.ext hu).lt
     repeat (first | go_big_quiet_skip | (go_big_quiet_want; go_big_quiet_op; go_big_quiet_on))
     refine wpQuiet_nil ?_
     rfl
    refine z_pures (g := 3) [6, 7] [_, _] ⟨rfl, rfl, trivial⟩ (by kernel_rfl) (by kernel_rfl) ?_
    simp only [zgA, zgB, zgC]
    apply Exists.intro
    refine ⟨fun u hu => ?_, ?_⟩
    ·repeat (first | go_big_quiet_skip | (go_big_quiet_want; go_big_quiet_op; go_big_quiet_on))
     refine wpQuiet_nil ?_
     rfl
    refine z_one 8 rfl (by kernel_rfl) ?_
    simp only [zgA, zgB, zgC]
    go_wp2
    obtain ⟨bq, hbq, Q, HC', hge⟩ := ex_new HC 73 #[.int .i64 0, .int .i64 0]
    rw [← hbq]
    clear hbq
    replace HC := HC'
    clear HC'
    refine onQ_in HC ?_
    refine z_end 9 rfl (by kernel_rfl) ?_
    simp only [zgA, zgB, zgC]
    have f0 := Q.frozen 0
    have f1 := Q.frozen 1
    obtain ⟨z0, z1⟩ := Q.c2
    have lz := Q.lt
    have Q2 := held_two Q (.int .i64 Sn) (.int .i64 Sd)
    have HE2 := (HC.setCell (p := ⟨bq, 0, none⟩) hge (.int .i64 Sn)).setCell (p := ⟨bq, 1, none⟩) hge (.int .i64 Sd)
    go_wp2
    refine onQ_last ?_
    refine z_end 10 rfl (by kernel_rfl) ?_
    simp only [zgA, zgB, zgC]
    go_wp2
    refine onQ_last ?_
    refine z_done (by kernel_rfl) ?_
    exact cut1y_is bq ⟨HE2, hge, Q2⟩ rfl
   ·simp only [zgA, zgB, zgC]
    go_wp2
    obtain ⟨bq, hbq, Q, HC', hge⟩ := ex_new HC 73 #[.int .i64 0, .int .i64 0]
    rw [← hbq]
    clear hbq
    replace HC := HC'
    clear HC'
    refine onQ_in HC ?_
    refine z_one 4 rfl (by kernel_rfl) ?_
    simp only [zgA, zgB, zgC]
    go_wp2_with (go_at_call 81; (with_reducible refine Calls.mono (N2 _ (Z3.ext HC)) ?_); rintro e wa ⟨rfl, h4⟩)
    replace HC := HC.trans h4
    try replace Q := Q.ext h4
    clear h4
    refine onQ_in HC ?_
    refine z_stills (g := 4) [5] [_] ⟨rfl, trivial⟩ (by kernel_rfl) (by kernel_rfl) HC ?_
    simp only [zgA, zgB, zgC]
    apply Exists.intro
    refine ⟨fun u hu => ?_, ?_⟩
    ·obtain ⟨k0, k1⟩ := (B1.ext hu).c2
     have lk := (B1.ext hu).lt
     obtain ⟨d0, d1, d2, d3, d4, d5⟩ := (HD.ext hu).c6
     have ld := (HD.ext hu).lt
     repeat (first | go_big_quiet_skip | (go_big_quiet_want; go_big_quiet_op; go_big_quiet_on))
     refine wpQuiet_nil ?_
     rfl
    refine z_pures (g := 2) [6, 7] [_, _] ⟨rfl, rfl, trivial⟩ (by kernel_rfl) (by kernel_rfl) ?_
    simp only [zgA, zgB, zgC]
    apply Exists.intro
    refine ⟨fun u hu => ?_, ?_⟩
    ·repeat (first | go_big_quiet_skip | (go_big_quiet_want; go_big_quiet_op; go_big_quiet_on))
     refine wpQuiet_nil ?_
     rfl
    refine z_end 9 rfl (by kernel_rfl) ?_
    simp only [zgA, zgB, zgC]
    have f0 := Q.frozen 0
    have f1 := Q.frozen 1
    obtain ⟨z0, z1⟩ := Q.c2
    have lz := Q.lt
    have Q2 := held_two Q (.int .i64 Sn) (.int .i64 Sd)
    have HE2 := (HC.setCell (p := ⟨bq, 0, none⟩) hge (.int .i64 Sn)).setCell (p := ⟨bq, 1, none⟩) hge (.int .i64 Sd)
    go_wp2
    refine onQ_last ?_
    refine z_end 10 rfl (by kernel_rfl) ?_
    simp only [zgA, zgB, zgC]
    go_wp2
    refine onQ_last ?_
    refine z_done (by kernel_rfl) ?_
    exact cut1y_is bq ⟨HE2, hge, Q2⟩ rfl
  rintro b6 w3 ⟨E3, hg6, H6⟩
  have hw2 := E.size
  replace HD := HD.ext E3
  replace B2 := B2.ext E3
  replace E := E.trans E3
  have OD : Only [bd] w w3 := Only.of_ext E
  clear E3 B1 N2 Z3
  obtain ⟨r0, r1⟩ := H6.c2
  have lr := H6.lt
  have f0 := HD.frozen 0
  have f1 := HD.frozen 1
  obtain ⟨d0, d1, d2, d3, d4, d5⟩ := HD.c6
  have ld := HD.lt
  have HD2 := held6_0 HD (.int .i64 0) (.int .i64 1)
  have OD2 := (OD.trans (Only.set w3 (List.mem_singleton.2 rfl) 0 (.int .i64 0))).trans (Only.set _ (List.mem_singleton.2 rfl) 1 (.int .i64 1))
  have B22 := held_oth (held_oth B2 (Ne.symm (hdn b2 hbr)) 0 (.int .i64 0)) (Ne.symm (hdn b2 hbr)) 1 (.int .i64 1)
  have H62 := held_oth (held_oth H6 (Ne.symm (hdn b6 (by omega))) 0 (.int .i64 0)) (Ne.symm (hdn b6 (by omega))) 1 (.int .i64 1)
  clear f0 f1 d0 d1 d2 d3 d4 d5 ld r0 r1 lr HD2 OD2 B22 H62
  go_upto_region 6 with (fail)
  go_upto_region 7 with (go_at_call 74; (with_reducible refine Calls.mono (whole_any _ _) ?_); rintro e wa ⟨rfl, h4⟩; replace HD := HD.ext h4; replace B2 := B2.ext h4; replace H6 := H6.ext h4; replace OD := OD.trans (Only.of_ext h4); have HD2 := held6_0 HD (.int .i64 0) (.int .i64 1); have OD2 := (OD.trans (Only.set _ (List.mem_singleton.2 rfl) 0 (.int .i64 0))).trans (Only.set _ (List.mem_singleton.2 rfl) 1 (.int .i64 1)); have B22 := held_oth (held_oth B2 (Ne.symm (hdn b2 hbr)) 0 (.int .i64 0)) (Ne.symm (hdn b2 hbr)) 1 (.int .i64 1); have H62 := held_oth (held_oth H6 (Ne.symm (hdn b6 (by omega))) 0 (.int .i64 0)) (Ne.symm (hdn b6 (by omega))) 1 (.int .i64 1); have f0 := HD.frozen 0; have f1 := HD.frozen 1; obtain ⟨d0, d1, d2, d3, d4, d5⟩ := HD.c6; have ld := HD.lt)
  generalize World.setCell _ _ _ = w4 at *
  clear f0 f1 d0 d1 d2 d3 d4 d5 ld B2 H6 HD OD h4
  have hw4 : w.heap.size ≤ b2 := hbr
  obtain ⟨r0, r1⟩ := H62.c2
  have lr := H62.lt
  have f0 := B22.frozen 0
  have f1 := B22.frozen 1
  obtain ⟨x0, x1⟩ := B22.c2
  have lx := B22.lt
  have H4 := held_two B22 (.int .i64 Sn) (.int .i64 Sd)
  have OF := OD2.far hbr 0 1 (.int .i64 Sn) (.int .i64 Sd)
  have HF := held_oth (held_oth HD2 (hdn b2 hbr) 0 (.int .i64 Sn)) (hdn b2 hbr) 1 (.int .i64 Sd)
  obtain ⟨y0, y1⟩ := H4.c2
  go_wp2
  refine bodyPost_ret (v := .tuple #[.agg #[.int .i64 Sn, .int .i64 Sd], .int .i64 Se]) (by simp [results, Tryz.results107, go_sem, y0, y1]) rfl ⟨rfl, OF, HF⟩
 ·have hR := HP.out
  rw [if_pos (of_decide_eq_true hcb.out.symm)] at hR
  clear HP hcb N2
  generalize subR X.p n = S at *
  obtain ⟨⟨Sn, Sd⟩, Se⟩ := S
  subst hR
  go_upto_region 2 with (fail)
  apply wp_cut1y (S := fun w' b => Ext w2 w' ∧ w2.heap.size ≤ b ∧ Held w' b 73 #[.int .i64 Sn, .int .i64 Sd])
  ·refine wp_region_z 11 [6, 7, 9, 10] (fun x => Ext w2 x) mixed rfl ?_
   intro vz hvz
   have HC := hvz
   refine z_stills (g := 7) [0, 1, 2, 3] [_, _, _, _] ⟨rfl, rfl, rfl, rfl, trivial⟩ (by kernel_rfl) (by kernel_rfl) HC ?_
   simp only [zgA, zgB, zgC]
   apply Exists.intro
   refine ⟨fun u hu => ?_, ?_⟩
   ·obtain ⟨k0, k1⟩ := (B1.ext hu).c2
    have lk := (B1.ext hu).lt
    obtain ⟨d0, d1, d2, d3, d4, d5⟩ := (HD.ext hu).c6
    have ld := (HD.ext hu).lt
    repeat (first | go_big_quiet_skip | (go_big_quiet_want; go_big_quiet_op; go_big_quiet_on))
    refine wpQuiet_nil ?_
    rfl
   refine z_two 4 8 rfl rfl (by kernel_rfl) ?_ ?_
   ·simp only [zgA, zgB, zgC]
    go_wp2_with (go_at_call 81; (with_reducible refine Calls.mono (N1 _ (Z3.ext HC)) ?_); rintro e wa ⟨rfl, h4⟩)
    replace HC := HC.trans h4
    try replace Q := Q.ext h4
    clear h4
    refine onQ_in HC ?_
    refine z_stills (g := 5) [5] [_] ⟨rfl, trivial⟩ (by kernel_rfl) (by kernel_rfl) HC ?_
    simp only [zgA, zgB, zgC]
    apply Exists.intro
    refine ⟨fun u hu => ?_, ?_⟩
    ·obtain ⟨k0, k1⟩ := (B1.ext hu).c2
     have lk := (B1.ext hu).lt
     obtain ⟨d0, d1, d2, d3, d4, d5⟩ := (HD.ext hu).c6
     have ld := (HD.ext hu).lt
     repeat (first | go_big_quiet_skip | (go_big_quiet_want; go_big_quiet_op; go_big_quiet_on))
     refine wpQuiet_nil ?_
     rfl
    refine z_pures (g := 3) [6, 7] [_, _] ⟨rfl, rfl, trivial⟩ (by kernel_rfl) (by kernel_rfl) ?_
    simp only [zgA, zgB, zgC]
    apply Exists.intro
    refine ⟨fun u hu => ?_, ?_⟩
    ·repeat (first | go_big_quiet_skip | (go_big_quiet_want; go_big_quiet_op; go_big_quiet_on))
     refine wpQuiet_nil ?_
     rfl
    refine z_one 8 rfl (by kernel_rfl) ?_
    simp only [zgA, zgB, zgC]
    go_wp2
    obtain ⟨bq, hbq, Q, HC', hge⟩ := ex_new HC 73 #[.int .i64 0, .int .i64 0]
    rw [← hbq]
    clear hbq
    replace HC := HC'
    clear HC'
    refine onQ_in HC ?_
    refine z_end 9 rfl (by kernel_rfl) ?_
    simp only [zgA, zgB, zgC]
    have f0 := Q.frozen 0
    have f1 := Q.frozen 1
    obtain ⟨z0, z1⟩ := Q.c2
    have lz := Q.lt
    have Q2 := held_two Q (.int .i64 Sn) (.int .i64 Sd)
    have HE2 := (HC.setCell (p := ⟨bq, 0, none⟩) hge (.int .i64 Sn)).setCell (p := ⟨bq, 1, none⟩) hge (.int .i64 Sd)
    go_wp2
    refine onQ_last ?_
    refine z_end 10 rfl (by kernel_rfl) ?_
    simp only [zgA, zgB, zgC]
    go_wp2
    refine onQ_last ?_
    refine z_done (by kernel_rfl) ?_
    exact cut1y_is bq ⟨HE2, hge, Q2⟩ rfl
   ·simp only [zgA, zgB, zgC]
    go_wp2
    obtain ⟨bq, hbq, Q, HC', hge⟩ := ex_new HC 73 #[.int .i64 0, .int .i64 0]
    rw [← hbq]
    clear hbq
    replace HC := HC'
    clear HC'
    refine onQ_in HC ?_
    refine z_one 4 rfl (by kernel_rfl) ?_
    simp only [zgA, zgB, zgC]
    go_wp2_with (go_at_call 81; (with_reducible refine Calls.mono (N1 _ (Z3.ext HC)) ?_); rintro e wa ⟨rfl, h4⟩)
    replace HC := HC.trans h4
    try replace Q := Q.ext h4
    clear h4
    refine onQ_in HC ?_
    refine z_stills (g := 4) [5] [_] ⟨rfl, trivial⟩ (by kernel_rfl) (by kernel_rfl) HC ?_
    simp only [zgA, zgB, zgC]
    apply Exists.intro
    refine ⟨fun u hu => ?_, ?_⟩
    ·obtain ⟨k0, k1⟩ := (B1.ext hu).c2
     have lk := (B1.ext hu).lt
     obtain ⟨d0, d1, d2, d3, d4, d5⟩ := (HD.ext hu).c6
     have ld := (HD.ext hu).lt
     repeat (first | go_big_quiet_skip | (go_big_quiet_want; go_big_quiet_op; go_big_quiet_on))
     refine wpQuiet_nil ?_
     rfl
    refine z_pures (g := 2) [6, 7] [_, _] ⟨rfl, rfl, trivial⟩ (by kernel_rfl) (by kernel_rfl) ?_
    simp only [zgA, zgB, zgC]
    apply Exists.intro
    refine ⟨fun u hu => ?_, ?_⟩
    ·repeat (first | go_big_quiet_skip | (go_big_quiet_want; go_big_quiet_op; go_big_quiet_on))
     refine wpQuiet_nil ?_
     rfl
    refine z_end 9 rfl (by kernel_rfl) ?_
    simp only [zgA, zgB, zgC]
    have f0 := Q.frozen 0
    have f1 := Q.frozen 1
    obtain ⟨z0, z1⟩ := Q.c2
    have lz := Q.lt
    have Q2 := held_two Q (.int .i64 Sn) (.int .i64 Sd)
    have HE2 := (HC.setCell (p := ⟨bq, 0, none⟩) hge (.int .i64 Sn)).setCell (p := ⟨bq, 1, none⟩) hge (.int .i64 Sd)
    go_wp2
    refine onQ_last ?_
    refine z_end 10 rfl (by kernel_rfl) ?_
    simp only [zgA, zgB, zgC]
    go_wp2
    refine onQ_last ?_
    refine z_done (by kernel_rfl) ?_
    exact cut1y_is bq ⟨HE2, hge, Q2⟩ rfl
  rintro b6 w3 ⟨E3, hg6, H6⟩
  have hw2 := E.size
  replace HD := HD.ext E3
  replace B2 := B2.ext E3
  replace E := E.trans E3
  have OD : Only [bd] w w3 := Only.of_ext E
  clear E3 B1 N1 Z3
  obtain ⟨r0, r1⟩ := H6.c2
  have lr := H6.lt
  have f0 := HD.frozen 0
  have f1 := HD.frozen 1
  obtain ⟨d0, d1, d2, d3, d4, d5⟩ := HD.c6
  have ld := HD.lt
  have HD2 := held6_0 HD (.int .i64 Sn) (.int .i64 Sd)
  have OD2 := (OD.trans (Only.set w3 (List.mem_singleton.2 rfl) 0 (.int .i64 Sn))).trans (Only.set _ (List.mem_singleton.2 rfl) 1 (.int .i64 Sd))
  have B22 := held_oth (held_oth B2 (Ne.symm (hdn b2 hbr)) 0 (.int .i64 Sn)) (Ne.symm (hdn b2 hbr)) 1 (.int .i64 Sd)
  have H62 := held_oth (held_oth H6 (Ne.symm (hdn b6 (by omega))) 0 (.int .i64 Sn)) (Ne.symm (hdn b6 (by omega))) 1 (.int .i64 Sd)
  go_upto_region 4 with (fail)
  generalize World.setCell _ _ _ = w4 at *
  clear f0 f1 d0 d1 d2 d3 d4 d5 ld r0 r1 lr B2 H6 HD OD
  have hw4 : w.heap.size ≤ b2 := hbr
  go_wp2_with (go_at_call 74; (with_reducible refine Calls.mono (whole_any _ _) ?_); rintro e w5 ⟨rfl, h5⟩; replace OD2 := OD2.trans (Only.of_ext h5); replace HD2 := HD2.ext h5; replace B22 := B22.ext h5; have f0 := B22.frozen 0; have f1 := B22.frozen 1; obtain ⟨x0, x1⟩ := B22.c2; have lx := B22.lt)
  have H4 := held_two B22 (.int .i64 0) (.int .i64 1)
  have OF := OD2.far hbr 0 1 (.int .i64 0) (.int .i64 1)
  have HF := held_oth (held_oth HD2 (hdn b2 hbr) 0 (.int .i64 0)) (hdn b2 hbr) 1 (.int .i64 1)
  obtain ⟨y0, y1⟩ := H4.c2
  go_wp2
  refine bodyPost_ret (v := .tuple #[.agg #[.int .i64 0, .int .i64 1], .int .i64 Se]) (by simp [results, Tryz.results107, go_sem, y0, y1]) rfl ⟨rfl, OF, HF⟩
end Go.Proofs.YtneiofnlmblglaaGreatDoor
