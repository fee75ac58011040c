/- Walks of the program's functions and plain facts, packed; proved: the lemmas below; no conditions but those that each states. -/
import Derived.Test.YtneiofnlmblglaaDoorU9
import Derived.Test.YtneiofnlmblglaaDoorU10
import Derived.Test.YtneiofnlmblglaaDoorU6
import Derived.Test.YtneiofnlmblglaaDoorU2
set_option maxRecDepth 100000
set_option maxHeartbeats 4000000
namespace Go.Proofs.YtneiofnlmblglaaDoor
section
open Go Go.RowKit Go.Shelf
attribute [local go_sem] Zi
attribute [local go_sem high] Hu
theorem Vg {w : World} {b : Nat} {t : TypeId} {cs : Array Value} {n sz : Nat} {f : Nat → List Value} (h : Qb w b t cs) (hf : ∀ i j v, i < n → (f i)[j]? = some v → cs[i * sz + j]? = some v) : Qo w (some ⟨b, 0, none⟩) n sz f :=
 fun _ => ⟨b, 0, rfl, h.lt, fun i j v hi hv => by rw [Nat.zero_add, h.cell]; exact hf i j v hi hv⟩
theorem Wa (n d : Int) (w : World) :
  Calls Tryd.prog 31 #[.int .i64 n, .int .i64 d] w fun e w' => e = .returned (.agg #[.int .i64 n, .int .i64 d]) ∧ Qa w w' := by
 go_enter Tryd.func31, Tryd.ntmps31
 go_wp2
 refine bodyPost_ret (v := .agg #[.int .i64 n, .int .i64 d]) (by simp [results, Tryd.results31, go_sem]) rfl ⟨rfl, (by repeat (first | exact Qa.refl _ | (refine Qa.alloc ?_ _) | (refine Qa.trans ?_ (by assumption))))⟩
theorem Yh (y m d : Int) (w : World) :
  Calls Tryd.prog 35 #[.int .i64 y, .int .i64 m, .int .i64 d] w fun e w' => e = .returned (.agg #[.int .i64 y, .int .i64 m, .bool false, .int .i64 d]) ∧ Qa w w' := by
 go_enter Tryd.func35, Tryd.ntmps35
 go_wp2
 refine bodyPost_ret (v := .agg #[.int .i64 y, .int .i64 m, .bool false, .int .i64 d]) (by simp [results, Tryd.results35, go_sem]) rfl ⟨rfl, (by repeat (first | exact Qa.refl _ | (refine Qa.alloc ?_ _) | (refine Qa.trans ?_ (by assumption))))⟩
theorem Mi (s : ByteArray) (n : Int) (w : World) :
  Calls Tryd.prog 40 #[.string s, .int .i64 n] w fun e w' => ∃ b, e = .returned (.slice (some ⟨b, 0, none⟩) 1 1) ∧ Qa w w' ∧ Zf w' (.slice (some ⟨b, 0, none⟩) 1 1) [⟨s, n⟩] := by
 go_enter Tryd.func40, Tryd.ntmps40
 go_wp2
 go_ret
 refine ⟨w.heap.size, rfl, (by repeat (first | exact Qa.refl _ | (refine Qa.alloc ?_ _) | (refine Qa.trans ?_ (by assumption)))), some ⟨w.heap.size, 0, none⟩, 1, rfl, ?_, Nat.le_refl _, by decide, fun h => (by cases h)⟩
 refine Vg (t := 71) (cs := #[.string s, .int .i64 n]) (by repeat (first | (refine Qb.at _ _ _ _ ?_; (simp; done)) | refine Qb.alloc ?_ _)) ?_
 intro i j v hi hv
 obtain rfl : i = 0 := by simp at hi; omega
 have hj : j < 2 := (List.getElem?_eq_some_iff.1 hv).1
 rw [← hv]
 have : j = 0 ∨ j = 1 := by omega
 rcases this with rfl | rfl <;> rfl
theorem Ef (w : World) :
  Calls Tryd.prog 30 #[] w fun e w' => ∃ A A' ca cb, e = .returned (.agg #[.slice A 1 ca, .slice A' 3 cb]) ∧ Qa w w' ∧ Q8 w' A ca A' cb Yn := by
 go_enter Tryd.func30, Tryd.ntmps30
 go_wp2
 refine bodyPost_ret (v := .agg #[.slice (some ⟨w.heap.size + 1, 0, none⟩) 1 1, .slice (some ⟨w.heap.size + 1 + 1, 0, none⟩) 3 3]) (by simp [results, Tryd.results30, go_sem]) rfl ⟨_, _, _, _, rfl, (by repeat (first | exact Qa.refl _ | (refine Qa.alloc ?_ _) | (refine Qa.trans ?_ (by assumption)))), ⟨?_, ?_, by decide, by decide, by decide, by decide⟩⟩
 ·refine Vg (t := 9) (cs := #[.string sU8]) (by repeat (first | (refine Qb.at _ _ _ _ ?_; (simp; done)) | refine Qb.alloc ?_ _)) ?_
  intro i j v hi hv
  have hi : i < 1 := hi
  have hj : j < 1 := (List.getElem?_eq_some_iff.1 hv).1
  rw [← hv]
  obtain rfl : i = 0 := by omega
  obtain rfl : j = 0 := by omega
  rfl
 ·refine Vg (t := 57) (cs := #[.int .i64 0, .string sA, .int .i64 4095, .int .i64 0, .int .i64 0, .string sB, .int .i64 4095, .int .i64 0, .int .i64 0, .string sC, .int .i64 4095, .int .i64 0]) (by repeat (first | (refine Qb.at _ _ _ _ ?_; (simp; done)) | refine Qb.alloc ?_ _)) ?_
  intro i j v hi hv
  have hi : i < 3 := hi
  have hj : j < 4 := (List.getElem?_eq_some_iff.1 hv).1
  rw [← hv]
  have h1 : i = 0 ∨ i = 1 ∨ i = 2 := by omega
  have h2 : j = 0 ∨ j = 1 ∨ j = 2 ∨ j = 3 := by omega
  rcases h1 with rfl | rfl | rfl <;> rcases h2 with rfl | rfl | rfl | rfl <;> rfl
theorem Qa7 {W : World} {b : Nat} {t : TypeId} {v0 v1 v2 v3 v4 v5 v6 v7 : Value} (h : Qb W b t #[v0, v1, v2, v3, v4, v5, v6, v7]) (u0 u1 u2 u3 u4 u5 u6 u7 : Value) : Qb ((((((((W.setCell ⟨b, 0, none⟩ u0).setCell ⟨b, 1, none⟩ u1).setCell ⟨b, 2, none⟩ u2).setCell ⟨b, 3, none⟩ u3).setCell ⟨b, 4, none⟩ u4).setCell ⟨b, 5, none⟩ u5).setCell ⟨b, 6, none⟩ u6).setCell ⟨b, 7, none⟩ u7) b t #[u0, u1, u2, u3, u4, u5, u6, u7] := by unfold Qb at h ⊢; simp [World.setCell, Array.getElem?_modify, h]
theorem ext8 {W0 W : World} {b : Nat} (h : Qa W0 W) (hb : W0.heap.size ≤ b) (u0 u1 u2 u3 u4 u5 u6 u7 : Value) : Qa W0 ((((((((W.setCell ⟨b, 0, none⟩ u0).setCell ⟨b, 1, none⟩ u1).setCell ⟨b, 2, none⟩ u2).setCell ⟨b, 3, none⟩ u3).setCell ⟨b, 4, none⟩ u4).setCell ⟨b, 5, none⟩ u5).setCell ⟨b, 6, none⟩ u6).setCell ⟨b, 7, none⟩ u7) :=
 (((((((h.setCell (p := ⟨b, 0, none⟩) hb u0).setCell (p := ⟨b, 1, none⟩) hb u1).setCell (p := ⟨b, 2, none⟩) hb u2).setCell (p := ⟨b, 3, none⟩) hb u3).setCell (p := ⟨b, 4, none⟩) hb u4).setCell (p := ⟨b, 5, none⟩) hb u5).setCell (p := ⟨b, 6, none⟩) hb u6).setCell (p := ⟨b, 7, none⟩) hb u7
theorem Qa8 {W : World} {b b' : Nat} {t : TypeId} {cs : Array Value} (h : Qb W b t cs) (hne : b ≠ b') (u0 u1 u2 u3 u4 u5 u6 u7 : Value) : Qb ((((((((W.setCell ⟨b', 0, none⟩ u0).setCell ⟨b', 1, none⟩ u1).setCell ⟨b', 2, none⟩ u2).setCell ⟨b', 3, none⟩ u3).setCell ⟨b', 4, none⟩ u4).setCell ⟨b', 5, none⟩ u5).setCell ⟨b', 6, none⟩ u6).setCell ⟨b', 7, none⟩ u7) b t cs :=
 Qh (Qh (Qh (Qh (Qh (Qh (Qh (Qh h hne 0 u0) hne 1 u1) hne 2 u2) hne 3 u3) hne 4 u4) hne 5 u5) hne 6 u6) hne 7 u7
theorem Qb3 (w : World) :
  Calls Tryd.prog 33 #[] w fun e w' => ∃ b, e = .returned (.tuple #[.agg #[.int .i64 60, .int .i64 1, .int .i64 1, .int .i64 5, .int .i64 0, .int .i64 1, .bool false, .int .i64 1], .slice (some ⟨b, 0, none⟩) 1 1]) ∧ Qa w w' ∧ Qo w' (some ⟨b, 0, none⟩) 1 6 (J5 p8) := by
 go_enter Tryd.func33, Tryd.ntmps33
 go_upto_region 1 with (fail)
 obtain ⟨v, hv⟩ := Qg (w.alloc (.cells #[.int .i64 0, .int .i64 0, .int .i64 0, .int .i64 0, .int .i64 0, .int .i64 0, .bool false, .int .i64 0] 79))
 rw [← hv]
 have E : Qa w v := by rw [hv]; exact (Qa.refl _).alloc _
 have B1 : Qb v w.heap.size 79 #[.int .i64 0, .int .i64 0, .int .i64 0, .int .i64 0, .int .i64 0, .int .i64 0, .bool false, .int .i64 0] := by rw [hv]; exact Qb.new _ _ _
 clear hv
 obtain ⟨b1, hb1⟩ := Qg (w.heap.size)
 rw [← hb1] at B1 ⊢
 have hbr : w.heap.size ≤ b1 := by omega
 clear hb1
 go_wp2_with (first | (go_at_call 31; (with_reducible refine Calls.mono (Wa 10 1 _) ?_); rintro e wa ⟨rfl, hx⟩; replace E := E.trans hx; replace B1 := B1.ext hx; clear hx; have BA := B1.alloc (.cells #[.int .i64 0, .int .i64 7, .bool false, .int .i64 1, .int .i64 10, .int .i64 1] 124); have z0 := BA.frozen 0; have z1 := BA.frozen 1; have z2 := BA.frozen 2; have z3 := BA.frozen 3; have z4 := BA.frozen 4; have z5 := BA.frozen 5; have z6 := BA.frozen 6; have z7 := BA.frozen 7; obtain ⟨x0, x1, x2, x3, x4, x5, x6, x7⟩ := BA.c8; have lx := BA.lt) | (go_at_call 31; (with_reducible refine Calls.mono (Wa _ _ _) ?_); rintro e wa ⟨rfl, hx⟩; replace E := E.trans hx; replace B1 := B1.ext hx; clear hx) | (go_at_call 35; (with_reducible refine Calls.mono (Yh _ _ _ _) ?_); rintro e wa ⟨rfl, hx⟩; replace E := E.trans hx; replace B1 := B1.ext hx; clear hx))
 have H8 := Qa7 (B1.alloc (.cells #[.int .i64 0, .int .i64 7, .bool false, .int .i64 1, .int .i64 10, .int .i64 1] 124)) (.int .i64 60) (.int .i64 1) (.int .i64 1) (.int .i64 5) (.int .i64 0) (.int .i64 1) (.bool false) (.int .i64 1)
 have E8 := ext8 (E.alloc (.cells #[.int .i64 0, .int .i64 7, .bool false, .int .i64 1, .int .i64 10, .int .i64 1] 124)) hbr (.int .i64 60) (.int .i64 1) (.int .i64 1) (.int .i64 5) (.int .i64 0) (.int .i64 1) (.bool false) (.int .i64 1)
 have P8 := Qa8 (Qb.new wa 124 #[.int .i64 0, .int .i64 7, .bool false, .int .i64 1, .int .i64 10, .int .i64 1]) (show wa.heap.size ≠ b1 by have := B1.lt; omega) (.int .i64 60) (.int .i64 1) (.int .i64 1) (.int .i64 5) (.int .i64 0) (.int .i64 1) (.bool false) (.int .i64 1)
 obtain ⟨y0, y1, y2, y3, y4, y5, y6, y7⟩ := H8.c8
 refine bodyPost_ret (v := .tuple #[.agg #[.int .i64 60, .int .i64 1, .int .i64 1, .int .i64 5, .int .i64 0, .int .i64 1, .bool false, .int .i64 1], .slice (some ⟨wa.heap.size, 0, none⟩) 1 1]) (by simp [results, Tryd.results33, go_sem, y0, y1, y2, y3, y4, y5, y6, y7]) rfl ⟨_, rfl, E8, ?_⟩
 refine Vg P8 ?_
 intro i j v hi hv
 obtain rfl : i = 0 := by omega
 have hj : j < 6 := (List.getElem?_eq_some_iff.1 hv).1
 rw [← hv]
 have : j = 0 ∨ j = 1 ∨ j = 2 ∨ j = 3 ∨ j = 4 ∨ j = 5 := by omega
 rcases this with rfl | rfl | rfl | rfl | rfl | rfl <;> rfl
theorem Bi (v1 v2 : Value) (a b : List Lt) (w : World) (h1 : Zf w v1 a) (h2 : Zf w v2 b) :
  Calls Tryd.prog 14 #[v1, v2] w fun e w' => e = .returned (.bool (decide (a = b))) ∧ Qa w w' := by
 obtain ⟨A, ca, rfl, hA, hca, hca', _⟩ := h1
 obtain ⟨B, cb, rfl, hB, hcb, hcb', _⟩ := h2
 obtain ⟨R, hR0⟩ := Qg (decide (a = b))
 rw [← hR0]
 have HR := Lib.hid hR0
 clear hR0
 by_cases hn : a.length = b.length
 ·have HL := Lib.hid hn
  obtain ⟨n, hnl⟩ := Qg (a.length)
  rw [← hn] at hcb hB ⊢
  rw [← hnl] at hca hcb hA hB ⊢
  have h63 : n ≤ 9223372036854775807 := Nat.le_trans hca (Nat.le_trans hca' (by decide))
  replace hnl := Lib.hid hnl
  have hno : Hid (∀ k, k < n → Q4 a k ≠ Q4 b k → R = false) := fun k hk h => by
   rw [HR.out]; exact decide_eq_false fun e => h (by rw [e])
  have hyes : Hid ((∀ k, k < n → Q4 a k = Q4 b k) → R = true) := fun h => by
   rw [HR.out]
   refine decide_eq_true (List.ext_getElem HL.out fun i h1 h2 => ?_)
   have := h i (by rw [hnl.out]; exact h1)
   rwa [Xf h1, Xf h2] at this
  clear HR HL hn hnl hca' hcb' hca hcb
  generalize Q4 a = f at *
  generalize Q4 b = g at *
  go_enter Tryd.func14, Tryd.ntmps14
  go_wp2
  go_loopw [5] (fun i wr => ∃ k : Nat, k ≤ n ∧ i = .int .i64 k ∧ Hid (∀ j, j < k → f j = g j) ∧ Qa w wr) (fun i _ => n - (intOf i).toNat)
  case atStart => exact ⟨0, Nat.zero_le _, rfl, (fun i hi => absurd hi (by omega)), Qa.refl _⟩
  case round =>
   obtain ⟨k, hk, rfl, hp, hE⟩ := hrel
   obtain ⟨wo, rfl⟩ := Qg wr
   by_cases hlt : k < n
   ·obtain ⟨b1, o1, rfl, hb, hc⟩ := (hA.ext hE) (by omega)
    obtain ⟨b2, o2, rfl, hb', hd⟩ := (hB.ext hE) (by omega)
    have c0 : wo.cell? ⟨b1, o1 + k * 2, none⟩ = some (.string (f k).g) := by simpa [Zh] using hc k 0 _ hlt rfl
    have c1 : wo.cell? ⟨b1, o1 + k * 2 + 1, none⟩ = some (.int .i64 (f k).n) := by simpa [Zh] using hc k 1 _ hlt rfl
    have d0 : wo.cell? ⟨b2, o2 + k * 2, none⟩ = some (.string (g k).g) := by simpa [Zh] using hd k 0 _ hlt rfl
    have d1 : wo.cell? ⟨b2, o2 + k * 2 + 1, none⟩ = some (.int .i64 (g k).n) := by simpa [Zh] using hd k 1 _ hlt rfl
    have hq : Hid ((((f k).g.toList == (g k).g.toList) && ((f k).n == (g k).n)) = decide (f k = g k)) := by
     unfold Hid
     rw [← Lc, Bool.eq_iff_iff]
     simp only [Bool.and_eq_true, decide_eq_true_eq, beq_iff_eq]
     constructor
     ·rintro ⟨e1, e2⟩
      cases hf : f k; cases hg : g k
      rw [hf, hg] at e1 e2
      simp_all
     ·intro e; rw [e]; exact ⟨rfl, rfl⟩
    have hs : Hid (f k = g k → ∀ j, j < k + 1 → f j = g j) := fun e j hj => by
     by_cases h : j = k
     ·subst h; exact e
     ·exact hp.out j (by omega)
    have hnk := Lib.hid (hno.out k hlt)
    clear hc hd hA hB hp
    generalize f k = x at *
    generalize g k = y at *
    go_upto_region 6 with (fail)
    clear hno hyes
    generalize hg1 : (x.g.toList == y.g.toList) = e1 at *
    generalize hg2 : (x.n == y.n) = e2 at *
    by_cases hxy : x = y
    ·obtain ⟨rfl, rfl⟩ : e1 = true ∧ e2 = true := by
      have h := hq.out
      rw [decide_eq_true hxy] at h
      simpa using h
     have hp' := Lib.hid (hs.out hxy)
     clear hs hq hnk hxy
     refine Zr wo Qr (by kernel_rfl) (by repeat (first | exact Qa.refl _ | (refine Qa.alloc ?_ _) | (refine Qa.trans ?_ (by assumption)))) ?_
     intro hne hrx hry
     try simp only []
     try simp only [List.append_eq, List.cons_append, List.nil_append]
     skip
     repeat (first
      | go_big_quiet_skip
      | (go_big_quiet_want; go_big_quiet_op; go_big_quiet_on))
     clear hne hry hrx
     refine wpQuiet_nil ?_
     intro wn hwn
     obtain ⟨hcwn, hfwn, hzwn⟩ := Qa.rules hwn
     try simp only [World.size_alloc] at hzwn
     obtain ⟨hcbwn, hfbwn, hzbwn⟩ := Qa.rules (show Qa wo wn from (by repeat (first | exact Qa.refl _ | (refine Qa.alloc ?_ _) | (refine Qa.trans ?_ (by assumption)))))
     clear hcwn hfwn
     go_wp2
     exact ⟨⟨k + 1, by omega, by go_num, hp', hE.trans hwn⟩, by simp [intOf]; omega⟩
    ·have hr := hnk.out hxy
     have h : e1 = false ∨ (e1 = true ∧ e2 = false) := by
      have h := hq.out
      rw [decide_eq_false hxy] at h
      cases e1 <;> simp_all
     clear hs hq hnk hxy
     rcases h with rfl | ⟨rfl, rfl⟩
     ·skip
      refine Zr wo Qr (by kernel_rfl) (by repeat (first | exact Qa.refl _ | (refine Qa.alloc ?_ _) | (refine Qa.trans ?_ (by assumption)))) ?_
      intro hne hrx hry
      try simp only []
      try simp only [List.append_eq, List.cons_append, List.nil_append]
      skip
      repeat (first
       | go_big_quiet_skip
       | (go_big_quiet_want; go_big_quiet_op; go_big_quiet_on))
      clear hne hry hrx
      refine wpQuiet_nil ?_
      intro wn hwn
      obtain ⟨hcwn, hfwn, hzwn⟩ := Qa.rules hwn
      try simp only [World.size_alloc] at hzwn
      obtain ⟨hcbwn, hfbwn, hzbwn⟩ := Qa.rules (show Qa wo wn from (by repeat (first | exact Qa.refl _ | (refine Qa.alloc ?_ _) | (refine Qa.trans ?_ (by assumption)))))
      clear hcwn hfwn
      go_wp2
      go_ret
      exact ⟨by rw [hr]; rfl, hE.trans hwn⟩
     ·skip
      refine Zr wo Qr (by kernel_rfl) (by repeat (first | exact Qa.refl _ | (refine Qa.alloc ?_ _) | (refine Qa.trans ?_ (by assumption)))) ?_
      intro hne hrx hry
      try simp only []
      try simp only [List.append_eq, List.cons_append, List.nil_append]
      skip
      repeat (first
       | go_big_quiet_skip
       | (go_big_quiet_want; go_big_quiet_op; go_big_quiet_on))
      clear hne hry hrx
      refine wpQuiet_nil ?_
      intro wn hwn
      obtain ⟨hcwn, hfwn, hzwn⟩ := Qa.rules hwn
      try simp only [World.size_alloc] at hzwn
      obtain ⟨hcbwn, hfbwn, hzbwn⟩ := Qa.rules (show Qa wo wn from (by repeat (first | exact Qa.refl _ | (refine Qa.alloc ?_ _) | (refine Qa.trans ?_ (by assumption)))))
      clear hcwn hfwn
      go_wp2
      go_ret
      exact ⟨by rw [hr]; rfl, hE.trans hwn⟩
   ·obtain rfl : k = n := by omega
    have hr := hyes.out hp.out
    clear hyes hno
    go_wp2
    go_ret
    exact ⟨by rw [hr]; rfl, hE⟩
 ·have hne : ((a.length : Int) == (b.length : Int)) = false := beq_eq_false_iff_ne.2 (by omega)
  have hnn : ((a.length : Int) != (b.length : Int)) = true := by rw [bne, hne]; rfl
  have hr : R = false := by rw [HR.out]; exact decide_eq_false fun e => hn (by rw [e])
  clear hn HR
  go_enter Tryd.func14, Tryd.ntmps14
  go_wp2
  go_ret
  exact ⟨by rw [hr]; rfl, Qa.refl _⟩
end
section
theorem Bm {x y : ByteArray} : Z2 x y = true ↔ x.toList < y.toList := by simp [Z2]
theorem sl_no {x y : ByteArray} : Z2 x y = false ↔ ¬ x.toList < y.toList := by simp [Z2]
theorem Gs {x y z : ByteArray} (h1 : Z2 x y = true) (h2 : Z2 y z = true) : Z2 x z = true := by
 rw [Bm] at h1 h2 ⊢; exact List.lt_trans h1 h2
theorem sl_eq {x y : ByteArray} (h1 : Z2 x y = false) (h2 : Z2 y x = false) : x.toList = y.toList := by
 rw [sl_no] at h1 h2
 exact List.le_antisymm (List.not_lt.1 h2) (List.not_lt.1 h1)
structure LtOk (x : Lt) : Prop where
 g : Zw x.g = true
 n0 : x.n ≠ 0
 hi : x.n ≤ 1099511627776
 lo : -1099511627776 ≤ x.n
structure Xa (l : List Lt) : Prop where
 a : ∀ x ∈ l, LtOk x
 s : l.Pairwise fun x y => Z2 x.g y.g = true
theorem Xa.tail {x : Lt} {l : List Lt} (h : Xa (x :: l)) : Xa l := ⟨fun y hy => h.a y (List.mem_cons_of_mem _ hy), (List.pairwise_cons.1 h.s).2⟩
theorem Xa.up {x : Lt} {l : List Lt} (h : Xa (x :: l)) : ∀ y ∈ l, Z2 x.g y.g = true := (List.pairwise_cons.1 h.s).1
theorem Pf {l : List Lt} (h : Ya l = 0) : Xa l := by
 unfold Ya Jm at h
 split at h
 ·exact absurd h (by decide)
 split at h
 ·rename_i h1
  have h2 : ∀ k, k < l.length → Xo (Q4 l) k = true := fun k hk => List.all_eq_true.1 h1 k (by simpa using hk)
  have h3 : ∀ k, k < l.length → LtOk (Q4 l k) := fun k hk => by
   have := h2 k hk
   unfold Xo at this
   simp only [Bool.and_eq_true, decide_eq_true_eq] at this
   exact ⟨this.1.1, this.2.1, this.2.2.1, this.2.2.2⟩
  have h4 : ∀ k, k + 1 < l.length → Z2 (Q4 l k).g (Q4 l (k + 1)).g = true := fun k hk => by
   have := h2 (k + 1) hk
   unfold Xo at this
   simp only [Bool.and_eq_true, decide_eq_true_eq, Bool.or_eq_true] at this
   rcases this.1.2 with h | h
   ·omega
   ·exact h
  have h5 : ∀ j i, i < j → j < l.length → Z2 (Q4 l i).g (Q4 l j).g = true := fun j => by
   induction j with
   | zero => intro i hi; omega
   | succ j ih =>
    intro i hi hj
    by_cases e : i = j
    ·subst e; exact h4 i hj
    ·exact Gs (ih i (by omega) (by omega)) (h4 j hj)
  refine ⟨fun x hx => ?_, List.pairwise_iff_getElem.2 fun i j hi hj hij => ?_⟩
  ·obtain ⟨i, hi, rfl⟩ := List.mem_iff_getElem.1 hx
   rw [← Xf hi]; exact h3 i hi
  ·rw [← Xf hi, ← Xf hj]; exact h5 j i hij hj
 ·exact absurd h (by decide)
theorem Qdc {l : List Lt} (h : Xa l) (h64 : l.length ≤ 64) : Ya l = 0 := by
 refine Pe (fun j hj => ?_) (by omega)
 have h1 := h.a _ (List.getElem_mem hj)
 rw [← Xf hj] at h1
 unfold Xo
 simp only [Bool.and_eq_true, decide_eq_true_eq, Bool.or_eq_true]
 refine ⟨⟨h1.g, ?_⟩, h1.n0, h1.hi, h1.lo⟩
 by_cases e : j = 0
 ·exact .inl e
 ·right
  have h2 := List.pairwise_iff_getElem.1 h.s (j - 1) j (by omega) hj (by omega)
  rwa [← Xf hj, ← Xf (by omega)] at h2
theorem Qcp {s : ByteArray} (h : Zw s = true) : s.size ≠ 0 := by
 unfold Zw at h
 simp only [Bool.and_eq_true, decide_eq_true_eq] at h
 omega
theorem Vc {x y : Lt} (h : LtOk x) : Yz x y = x.g := by unfold Yz; rw [if_neg (Qcp h.g)]
theorem Ml {y : Lt} : Yz Yu y = y.g := rfl
/-- Where the pairs of a merge come from. -/
def Wq (a b : List Lt) (p : Lt × Lt) : Prop := (p.1 ∈ a ∧ p.2 = Yu) ∨ (p.1 = Yu ∧ p.2 ∈ b) ∨ (p.1 ∈ a ∧ p.2 ∈ b)
theorem Wq.l {a b : List Lt} {x : Lt} {p : Lt × Lt} (h : Wq a b p) : Wq (x :: a) b p := by
 rcases h with ⟨h1, h2⟩ | ⟨h1, h2⟩ | ⟨h1, h2⟩
 ·exact .inl ⟨List.mem_cons_of_mem _ h1, h2⟩
 ·exact .inr (.inl ⟨h1, h2⟩)
 ·exact .inr (.inr ⟨List.mem_cons_of_mem _ h1, h2⟩)
theorem Wq.r {a b : List Lt} {y : Lt} {p : Lt × Lt} (h : Wq a b p) : Wq a (y :: b) p := by
 rcases h with ⟨h1, h2⟩ | ⟨h1, h2⟩ | ⟨h1, h2⟩
 ·exact .inl ⟨h1, h2⟩
 ·exact .inr (.inl ⟨h1, List.mem_cons_of_mem _ h2⟩)
 ·exact .inr (.inr ⟨h1, List.mem_cons_of_mem _ h2⟩)
theorem X7 : ∀ (m : Nat) (a b : List Lt) (p : Lt × Lt), p ∈ Zz m a b → Wq a b p
 | 0, _, _, p, h => by simp [Zz] at h
 | m + 1, [], [], p, h => by simp [Zz] at h
 | m + 1, x :: a, [], p, h => by
  rw [Zz, List.mem_cons] at h
  rcases h with rfl | h
  ·exact .inl ⟨List.mem_cons_self, rfl⟩
  ·exact (X7 m a [] p h).l
 | m + 1, [], y :: b, p, h => by
  rw [Zz, List.mem_cons] at h
  rcases h with rfl | h
  ·exact .inr (.inl ⟨rfl, List.mem_cons_self⟩)
  ·exact (X7 m [] b p h).r
 | m + 1, x :: a, y :: b, p, h => by
  rw [Zz] at h
  split at h
  ·rw [List.mem_cons] at h
   rcases h with rfl | h
   ·exact .inl ⟨List.mem_cons_self, rfl⟩
   ·exact (X7 m a (y :: b) p h).l
  split at h
  ·rw [List.mem_cons] at h
   rcases h with rfl | h
   ·exact .inr (.inl ⟨rfl, List.mem_cons_self⟩)
   ·exact (X7 m (x :: a) b p h).r
  ·rw [List.mem_cons] at h
   rcases h with rfl | h
   ·exact .inr (.inr ⟨List.mem_cons_self, List.mem_cons_self⟩)
   ·exact (X7 m a b p h).l.r
theorem Wq.up {a b : List Lt} {p : Lt × Lt} {u : ByteArray} (h : Wq a b p) (ha : Xa a) (h1 : ∀ x ∈ a, Z2 u x.g = true) (h2 : ∀ y ∈ b, Z2 u y.g = true) : Z2 u (Yz p.1 p.2) = true := by
 rcases h with ⟨h3, h4⟩ | ⟨h3, h4⟩ | ⟨h3, h4⟩
 ·rw [Vc (ha.a _ h3)]; exact h1 _ h3
 ·rw [h3, Ml]; exact h2 _ h4
 ·rw [Vc (ha.a _ h3)]; exact h1 _ h3
theorem V4 : ∀ (m : Nat) (a b : List Lt), Xa a → Xa b → (Zz m a b).Pairwise fun p q => Z2 (Yz p.1 p.2) (Yz q.1 q.2) = true
 | 0, _, _, _, _ => by rw [Zz]; exact List.Pairwise.nil
 | m + 1, [], [], _, _ => by rw [Zz]; exact List.Pairwise.nil
 | m + 1, x :: a, [], ha, hb => by
  rw [Zz]
  refine List.pairwise_cons.2 ⟨fun p hp => ?_, V4 m a [] ha.tail hb⟩
  rw [Vc (ha.a x List.mem_cons_self)]
  exact (X7 m a [] p hp).up ha.tail ha.up (fun y hy => absurd hy (by simp))
 | m + 1, [], y :: b, ha, hb => by
  rw [Zz]
  refine List.pairwise_cons.2 ⟨fun p hp => ?_, V4 m [] b ha hb.tail⟩
  rw [Ml]
  exact (X7 m [] b p hp).up ha (fun y hy => absurd hy (by simp)) hb.up
 | m + 1, x :: a, y :: b, ha, hb => by
  rw [Zz]
  split
  ·rename_i h
   refine List.pairwise_cons.2 ⟨fun p hp => ?_, V4 m a (y :: b) ha.tail hb⟩
   rw [Vc (ha.a x List.mem_cons_self)]
   refine (X7 m a (y :: b) p hp).up ha.tail ha.up (fun z hz => ?_)
   rcases List.mem_cons.1 hz with rfl | hz
   ·exact h
   ·exact Gs h (hb.up z hz)
  rename_i hxy
  split
  ·rename_i h
   refine List.pairwise_cons.2 ⟨fun p hp => ?_, V4 m (x :: a) b ha hb.tail⟩
   rw [Ml]
   refine (X7 m (x :: a) b p hp).up ha (fun z hz => ?_) hb.up
   rcases List.mem_cons.1 hz with rfl | hz
   ·exact h
   ·exact Gs h (ha.up z hz)
  ·rename_i hyx
   refine List.pairwise_cons.2 ⟨fun p hp => ?_, V4 m a b ha.tail hb.tail⟩
   rw [Vc (ha.a x List.mem_cons_self)]
   have e := sl_eq (by simpa using hxy) (by simpa using hyx)
   refine (X7 m a b p hp).up ha.tail ha.up (fun z hz => ?_)
   have h1 := hb.up z hz
   rw [Bm] at h1 ⊢
   rw [e]; exact h1
theorem out_ok {sg : Int} {m : Nat} {a b : List Lt} (ha : Xa a) (hb : Xa b) (h : Yd sg (Zz m a b) = true) : Xa (Yp sg (Zz m a b)) := by
 refine ⟨fun x hx => ?_, ?_⟩
 ·obtain ⟨p, hp, hx⟩ := List.mem_flatMap.1 hx
  have h1 : Yv sg p.1 p.2 = true := List.all_eq_true.1 h p hp
  unfold X4 at hx
  split at hx
  ·exact absurd hx (by simp)
  rename_i h0
  simp only [List.mem_singleton] at hx
  subst hx
  unfold Yv at h1
  simp only [Bool.not_eq_true', Bool.or_eq_false_iff, decide_eq_false_iff_not] at h1
  refine ⟨?_, h0, by show Uh sg p.1 p.2 ≤ _; omega, by show _ ≤ Uh sg p.1 p.2; omega⟩
  rcases X7 m a b p hp with ⟨h3, _⟩ | ⟨h3, h4⟩ | ⟨h3, _⟩
  ·show Zw (Yz p.1 p.2) = true
   rw [Vc (ha.a _ h3)]; exact (ha.a _ h3).g
  ·show Zw (Yz p.1 p.2) = true
   rw [h3, Ml]; exact (hb.a _ h4).g
  ·show Zw (Yz p.1 p.2) = true
   rw [Vc (ha.a _ h3)]; exact (ha.a _ h3).g
 ·unfold Yp
  refine List.pairwise_flatMap.2 ⟨fun p _ => ?_, (V4 m a b ha hb).imp fun {p q} hpq x hx y hy => ?_⟩
  ·unfold X4
   split
   ·exact List.Pairwise.nil
   ·exact List.pairwise_singleton _ _
  ·unfold X4 at hx hy
   split at hx
   ·exact absurd hx (by simp)
   split at hy
   ·exact absurd hy (by simp)
   simp only [List.mem_singleton] at hx hy
   subst hx; subst hy
   exact hpq
theorem Ii {sg : Int} {a b : List Lt} (h : Je sg a b = 0) : Ya (J3 sg a b) = 0 := by
 unfold J3 Y6
 unfold Je at h
 rw [if_pos h]
 unfold J7 at h
 split at h
 ·rename_i h1; exact absurd h h1
 rename_i h1
 have h2 : Wz (Q4 a) a.length (Q4 b) b.length = 0 := Decidable.not_not.1 h1
 unfold Wz at h2
 split at h2
 ·rename_i h3; exact absurd h2 h3
 rename_i h3
 have ha : Ya a = 0 := Decidable.not_not.1 h3
 have hb : Ya b = 0 := h2
 split at h
 ·rename_i h4
  split at h
  ·exact absurd h (by decide)
  rename_i h5
  unfold Xq at h4 h5 ⊢
  rw [Mj, Mj] at h4 h5 ⊢
  exact Qdc (out_ok (Pf ha) (Pf hb) h4) (by omega)
 ·exact absurd h (by decide)
theorem Gz : ∀ (d : List Dl) (s : List Lt), Ya s = 0 → (Qs s d).2 = 0 → Ya (Qs s d).1 = 0
 | [], s, h, _ => h
 | x :: r, s, h, h2 => by
  unfold Qs at h2 ⊢
  split at h2
  ·rename_i h3; exact absurd h2 h3
  rename_i h3
  rw [if_neg h3]
  exact Gz r _ (Ii (Decidable.not_not.1 h3)) h2
theorem Gy : ∀ (a : List Dl) (s : List Lt) (b : List Dl), (Qs s a).2 = 0 → Qs s (a ++ b) = Qs (Qs s a).1 b
 | [], s, b, _ => rfl
 | x :: r, s, b, h => by
  rw [List.cons_append]
  conv => lhs; unfold Qs
  unfold Qs at h
  split at h
  ·rename_i h3; exact absurd h h3
  rename_i h3
  rw [if_neg h3, Gy r _ b h]
  have e : Qs s (x :: r) = Qs (J3 (Ys x.i) s x.l) r := by
   conv => lhs; unfold Qs
   rw [if_neg h3]
  rw [e]
theorem Bv : ∀ (a : List Dl) (s : List Lt) (b : List Dl), (Qs s (a ++ b)).2 = 0 → (Qs s a).2 = 0
 | [], s, b, _ => rfl
 | x :: r, s, b, h => by
  rw [List.cons_append] at h
  unfold Qs at h ⊢
  split at h
  ·rename_i h3; exact absurd h h3
  rename_i h3
  rw [if_neg h3]
  exact Bv r _ b h
/-- What a valid period says, deal by deal. -/
structure Jl (c : Qc) (p : Pd) : Prop where
 n : Zw p.h = true
 a0 : 0 < c.numV p.a
 ab : c.numV p.a ≤ c.numV p.b
 o : Ya p.o = 0
 k : Ya p.c = 0
 m : p.d.length ≤ 64
 l : ∀ x ∈ p.d, Zw x.w = true ∧ x.w ≠ p.h ∧ X1 x.l = true ∧ c.numV p.a ≤ c.numV x.on ∧ c.numV x.on ≤ c.numV p.b
 s : p.d.Pairwise fun x y => c.numV x.on ≤ c.numV y.on
theorem Gg {c : Qc} {p : Pd} (h : c.perOk p = true) : Jl c p := by
 have k := K8 h
 unfold Qc.perOk at h
 rw [Bool.and_eq_true] at h
 obtain ⟨h1, h2⟩ := h
 unfold Qc.perHead Qc.spanV at h1
 simp only [Bool.and_eq_true, decide_eq_true_eq] at h1
 have h3 : ∀ i, i < p.d.length → c.dealOk p i = true := fun i hi => List.all_eq_true.1 h2 i (by simpa using hi)
 refine ⟨h1.1.1.1.1, h1.1.1.1.2.1, h1.1.1.1.2.2, h1.1.1.2, h1.1.2, h1.2, fun x hx => ?_, k.sorted⟩
 obtain ⟨i, hi, rfl⟩ := List.mem_iff_getElem.1 hx
 have h4 := h3 i hi
 unfold Qc.dealOk at h4
 simp only [Bool.not_eq_true', Bool.or_eq_false_iff, decide_eq_false_iff_not, Bool.not_eq_false'] at h4
 rw [Pd.dl_get hi] at h4
 have h5 := k.lo 0 (by omega)
 have h6 := k.mono (i := 0) (j := i) (by omega) hi
 have h7 : p.d.getD i Qv = p.d[i] := by simp [List.getD_eq_getElem?_getD, hi]
 rw [h7] at h6
 have h8 : c.numV p.a ≤ c.numV (p.d.getD 0 Qv).on := h5
 exact ⟨h4.1.1.2, h4.1.2, h4.2, by omega, by omega⟩
theorem K9 {c : Qc} {p : Pd} (h : Jl c p) : c.perOk p = true := by
 refine Qdm ?_ fun k hk => ?_
 ·unfold Qc.perHead Qc.spanV
  simp only [Bool.and_eq_true, decide_eq_true_eq]
  exact ⟨⟨⟨⟨h.n, h.a0, h.ab⟩, h.o⟩, h.k⟩, h.m⟩
 ·obtain ⟨h1, h2, h3, h4, h5⟩ := h.l _ (List.getElem_mem hk)
  unfold Qc.dealOk
  rw [Pd.dl_get hk]
  simp only [Bool.not_eq_true', Bool.or_eq_false_iff, decide_eq_false_iff_not, Bool.not_eq_false']
  refine ⟨⟨⟨⟨?_, by omega⟩, h1⟩, h2⟩, h3⟩
  cases k with
  | zero => show ¬ _ < c.numV p.a; omega
  | succ k =>
   show ¬ _ < c.numV (p.dl k).on
   rw [Pd.dl_get (by omega)]
   have := List.pairwise_iff_getElem.1 h.s k (k + 1) (by omega) hk (by omega)
   omega
theorem Gf {c : Qc} {p : Pd} (hv : c.valid = true) (h : Jl c p) : c.perE p = 0 := by
 unfold Qc.perE; rw [if_pos hv, if_pos (K9 h)]
theorem Da {c : Qc} {d : Dt} (h : c.numV d ≠ 0) : c.has d = true ∧ c.inE d = 0 ∧ c.numV d = (c.num d).1 := by
 unfold Qc.numV at h ⊢
 split at h
 ·rename_i h1
  refine ⟨?_, h1, by rw [if_pos h1]⟩
  unfold Qc.inE at h1
  split at h1
  ·split at h1
   ·assumption
   ·exact absurd h1 (by decide)
  ·exact absurd h1 (by decide)
 ·exact absurd rfl h
theorem Tw {c : Qc} {d : Dt} (hv : c.valid = true) (h : c.has d = true) : c.inE d = 0 ∧ c.numV d = (c.num d).1 := by
 have h1 : c.inE d = 0 := by unfold Qc.inE; rw [if_pos hv, if_pos h]
 exact ⟨h1, by unfold Qc.numV; rw [if_pos h1]⟩
theorem Qc1 {c : Qc} {d e : Dt} (hv : c.valid = true) (h0 : 0 < c.numV d) (h1 : c.numV d < c.numV e) : c.numV (c.addV d 1) = c.numV d + 1 := by
 obtain ⟨hd, hi, en⟩ := Da (show c.numV d ≠ 0 by omega)
 obtain ⟨he, _, ee⟩ := Da (show c.numV e ≠ 0 by omega)
 have h2 := Mq he
 obtain ⟨o, ho⟩ := at_in (c := c) (n := (c.num d).1 + 1) (by omega) (by omega)
 obtain ⟨hho, hn⟩ := F8 ho
 unfold Qc.addV
 rw [if_pos hi, ho]
 show c.numV o = _
 rw [(Tw hv hho).2, hn, en]
theorem Qag {c : Qc} {n : Int} : ∀ {l : List Dl}, l.Pairwise (fun a b => c.numV a.on ≤ c.numV b.on) → (∀ x ∈ l.take (c.cutK n l), c.numV x.on ≤ n) ∧ ∀ x ∈ l.drop (c.cutK n l), n < c.numV x.on
 | l, h => by
  obtain ⟨h1, h2⟩ := Ti c n l h
  rw [← h1, ← h2]
  exact ⟨fun x hx => by simpa using (List.mem_filter.1 hx).2, fun x hx => by simpa using (List.mem_filter.1 hx).2⟩
/-- Both parts of a period that is divided. -/
structure DivOk (c : Qc) (p x y : Pd) : Prop where
 b : c.behV x y = true
 xy : x.c = y.o
 j : Jb x y = p
 s : Qs x.o x.d = (x.c, 0)
 t : Qs y.o y.d = Qs p.o p.d
 m : x.d.length + y.d.length = p.d.length
 px : Jl c x
 py : Jl c y
theorem Td {c : Qc} {p : Pd} {d : Dt} (hv : c.valid = true) (hp : Jl c p) (h1 : c.numV p.a ≤ c.numV d) (h2 : c.numV d < c.numV p.b) (hs : (Qs p.o (p.d.take (c.cutK (c.numV d) p.d))).2 = 0) : DivOk c p (c.divX p d) (c.divY p d) := by
 have h0 := hp.a0
 have hn := Qc1 hv (show 0 < c.numV d by omega) h2
 obtain ⟨t1, t2⟩ := Qag (c := c) (n := c.numV d) hp.s
 have hk := Oi c (c.numV d) p.d
 have hsum := Gz _ _ hp.o hs
 have hm := hp.m
 unfold Qc.divX Qc.divY
 have hl : (p.d.take (c.cutK (c.numV d) p.d)).length = c.cutK (c.numV d) p.d := by rw [List.length_take]; omega
 have hr : (p.d.drop (c.cutK (c.numV d) p.d)).length = p.d.length - c.cutK (c.numV d) p.d := by rw [List.length_drop]
 have hta := List.take_append_drop (c.cutK (c.numV d) p.d) p.d
 have st := hp.s.sublist (List.take_sublist (c.cutK (c.numV d) p.d) p.d)
 have sd := hp.s.sublist (List.drop_sublist (c.cutK (c.numV d) p.d) p.d)
 have lt : ∀ x ∈ p.d.take (c.cutK (c.numV d) p.d), x ∈ p.d := fun x hx => List.mem_of_mem_take hx
 have ld : ∀ x ∈ p.d.drop (c.cutK (c.numV d) p.d), x ∈ p.d := fun x hx => List.mem_of_mem_drop hx
 generalize hT : p.d.take (c.cutK (c.numV d) p.d) = T at *
 generalize hD : p.d.drop (c.cutK (c.numV d) p.d) = D at *
 have happ := Gy T p.o D hs
 rw [hta] at happ
 refine ⟨?_, rfl, ?_, ?_, happ.symm, by show T.length + D.length = _; omega, ⟨hp.n, hp.a0, h1, hp.o, hsum, by show T.length ≤ 64; omega, fun x hx => ?_, st⟩, ⟨hp.n, by show 0 < c.numV (c.addV d 1); omega, by show c.numV (c.addV d 1) ≤ c.numV p.b; omega, hsum, hp.k, by show D.length ≤ 64; omega, fun x hx => ?_, sd⟩⟩
 ·unfold Qc.behV
  simp only [Bool.and_eq_true, decide_eq_true_eq]
  exact ⟨trivial, hn⟩
 ·unfold Jb
  simp only
  rw [hta]
 ·show Qs p.o T = ((Qs p.o T).1, 0)
  rw [← hs]
 ·obtain ⟨g1, g2, g3, g4, g5⟩ := hp.l x (lt x hx)
  exact ⟨g1, g2, g3, g4, t1 x hx⟩
 ·obtain ⟨g1, g2, g3, g4, g5⟩ := hp.l x (ld x hx)
  refine ⟨g1, g2, g3, ?_, g5⟩
  have := t2 x hx
  show c.numV (c.addV d 1) ≤ _
  omega
theorem Cq {c : Qc} {x y : Pd} (hv : c.valid = true) (hx : Jl c x) (hy : Jl c y) : c.validE [x, y] = 0 := by
 unfold Qc.validE Qc.chk Qc.persE
 rw [hv, if_neg (by simp)]
 simp [K9 hx, K9 hy]
theorem Sw {c : Qc} {x y : Pd} (hv : c.valid = true) (hx : Jl c x) (hy : Jl c y) (hb : c.behV x y = true) (he : x.c = y.o) (hm : x.d.length + y.d.length ≤ 64) : c.joinE x y = 0 ∧ c.joinP x y = Jb x y :=
 Sv (Cq hv hx hy) (by rw [hb, decide_eq_true he]; rfl) (by omega)
theorem Qbt {c : Qc} {x y : Pd} (hx : Jl c x) (hy : Jl c y) (hb : c.behV x y = true) (hm : x.d.length + y.d.length ≤ 64) : Jl c (Jb x y) := by
 unfold Qc.behV at hb
 simp only [Bool.and_eq_true, decide_eq_true_eq] at hb
 obtain ⟨hh, hn⟩ := hb
 have h1 := hx.ab
 have h2 := hy.ab
 refine ⟨hx.n, hx.a0, by show c.numV x.a ≤ c.numV y.b; omega, hx.o, hy.k, by show (x.d ++ y.d).length ≤ 64; rw [List.length_append]; exact hm, fun z hz => ?_, ?_⟩
 ·show _ ∧ z.w ≠ x.h ∧ _ ∧ c.numV x.a ≤ _ ∧ _ ≤ c.numV y.b
  rcases List.mem_append.1 hz with hz | hz
  ·obtain ⟨g1, g2, g3, g4, g5⟩ := hx.l z hz
   exact ⟨g1, g2, g3, g4, by omega⟩
  ·obtain ⟨g1, g2, g3, g4, g5⟩ := hy.l z hz
   exact ⟨g1, by rw [hh]; exact g2, g3, by omega, g5⟩
 ·show (x.d ++ y.d).Pairwise _
  refine List.pairwise_append.2 ⟨hx.s, hy.s, fun a ha b hb => ?_⟩
  obtain ⟨_, _, _, _, g5⟩ := hx.l a ha
  obtain ⟨_, _, _, g4, _⟩ := hy.l b hb
  omega
/-- DivideJoins: what Divide, Join and Close answer. -/
theorem Qae {c : Qc} {p : Pd} {d : Dt} (h : c.divE p d = 0) : c.joinE (c.divP p d).1 (c.divP p d).2 = 0 ∧ c.joinP (c.divP p d).1 (c.divP p d).2 = p ∧ c.closeV (c.divP p d).2 = c.closeV p := by
 have hP : c.divP p d = (c.divX p d, c.divY p d) := by unfold Qc.divP; rw [if_neg (by simpa using h)]
 rw [hP]
 unfold Qc.divE at h
 split at h
 ·rename_i h1; exact absurd h h1
 rename_i h1
 split at h
 ·exact absurd h (by decide)
 rename_i h2
 split at h
 ·exact absurd h (by decide)
 rename_i h3
 have hp0 : c.perE p = 0 := Decidable.not_not.1 h1
 obtain ⟨hv, hpo⟩ := Gc hp0
 have hp := Gg hpo
 have hm := hp.m
 have D := Td hv hp (by omega) (by omega) h
 have hmm := D.m
 obtain ⟨j1, j2⟩ := Sw hv D.px D.py D.b D.xy (by omega)
 refine ⟨j1, j2.trans D.j, ?_⟩
 unfold Qc.closeV
 show (if c.perE (c.divY p d) ≠ 0 then _ else Qs (c.divY p d).o (c.divY p d).d) = _
 rw [Gf hv D.py, hp0, D.t]
/-- The join of the first periods, w, whose last one is q. -/
structure Ux (c : Qc) (w q : Pd) : Prop where
 h : w.h = q.h
 b : w.b = q.b
 k : w.c = q.c
 ok : Jl c w
theorem Ay {c : Qc} {w q p : Pd} (h : w.h = q.h) (b : w.b = q.b) (g : c.behV q p = true) : c.behV w p = true := by
 unfold Qc.behV at g ⊢; rw [h, b]; exact g
theorem Ss {c : Qc} {w q p : Pd} (hv : c.valid = true) (J : Ux c w q) (hp : Jl c p) (hb : c.behV q p = true) (he : q.c = p.o) :
  (64 < w.d.length + p.d.length ∧ c.joinE w p = 3) ∨ (c.joinE w p = 0 ∧ c.joinP w p = Jb w p ∧ Ux c (Jb w p) p) := by
 have b := Ay J.h J.b hb
 have e := J.k.trans he
 by_cases hm : 64 < w.d.length + p.d.length
 ·exact .inl ⟨hm, (Su (Cq hv J.ok hp) (by rw [b, decide_eq_true e]; rfl) hm).1⟩
 ·obtain ⟨j1, j2⟩ := Sw hv J.ok hp b e (by omega)
  refine .inr ⟨j1, j2, ?_, rfl, rfl, Qbt J.ok hp b (by omega)⟩
  have hh : c.behV q p = true := hb
  unfold Qc.behV at hh
  simp only [Bool.and_eq_true, decide_eq_true_eq] at hh
  exact J.h.trans hh.1
/-- Periods that follow each other. -/
def Qc.links (c : Qc) : List Pd → Prop
 | x :: y :: r => (c.behV x y = true ∧ x.c = y.o) ∧ c.links (y :: r)
 | _ => True
theorem O7 {c : Qc} : ∀ {l : List Pd} {i : Nat} (h : i + 1 < l.length), c.links l → c.behV l[i] l[i + 1] = true ∧ l[i].c = l[i + 1].o
 | x :: y :: r, 0, _, hl => hl.1
 | x :: y :: r, i + 1, h, hl => O7 (l := y :: r) (i := i) (by simpa using h) hl.2
 | [x], _, h, _ => absurd h (by simp)
 | [], _, h, _ => absurd h (by simp)
def Jo (l : List Pd) : Pd := match l with | [] => Zx | x :: r => r.foldl Jb x
theorem Qbv {l : List Pd} {i : Nat} (h : i + 1 < l.length) : Jo (l.take (i + 2)) = Jb (Jo (l.take (i + 1))) l[i + 1] := by
 cases l with
 | nil => exact absurd h (by simp)
 | cons x r =>
  have h' : i < r.length := by simpa using h
  rw [List.take_succ_cons, List.take_succ_cons]
  show (r.take (i + 1)).foldl Jb x = Jb ((r.take i).foldl Jb x) _
  rw [List.take_succ_eq_append_getElem h', List.foldl_append]
  rfl
theorem Sy {l : List Pd} (h : 0 < l.length) : Jo (l.take 1) = l[0] := by
 cases l with
 | nil => exact absurd h (by simp)
 | cons x r => rfl
theorem O3 {l : List Pd} (h : l ≠ []) (x : Pd) : Jo (l ++ [x]) = Jb (Jo l) x := by
 cases l with
 | nil => exact absurd rfl h
 | cons y r => show (r ++ [x]).foldl Jb y = _; rw [List.foldl_append]; rfl
theorem Qbs (x y z : Pd) : Jb (Jb x y) z = Jb x (Jb y z) := by unfold Jb; simp
/-- The balance of what is joined. -/
theorem Qbu {x y : Pd} (hx : Qs x.o x.d = (x.c, 0)) (he : x.c = y.o) : Qs (Jb x y).o (Jb x y).d = Qs y.o y.d := by
 show Qs x.o (x.d ++ y.d) = _
 rw [Gy _ _ _ (by rw [hx]), hx, he]
/-- What Carry has made. -/
structure Kd (c : Qc) (k : List Pd) : Prop where
 a : ∀ x ∈ k, Jl c x ∧ Qs x.o x.d = (x.c, 0)
 l : c.links k
theorem Eg {c : Qc} {q : Option Pd} {p : Pd} (hp : Jl c p) (ho : Ya (q.elim p.o (·.c)) = 0) (hs : (Qs (q.elim p.o (·.c)) p.d).2 = 0) : Jl c (Jp q p) ∧ Qs (Jp q p).o (Jp q p).d = ((Jp q p).c, 0) :=
 ⟨⟨hp.n, hp.a0, hp.ab, ho, Gz _ _ ho hs, hp.m, hp.l, hp.s⟩, by show Qs (q.elim p.o (·.c)) p.d = ((Qs (q.elim p.o (·.c)) p.d).1, 0); rw [← hs]⟩
theorem Rh {c : Qc} : ∀ (l : List Pd) (q : Option Pd), (∀ p ∈ l, Jl c p) → (∀ x, q = some x → Jl c x) → (c.carR q l).2 = 0 → (c.carR q l).1.length = l.length ∧ (∀ x ∈ (c.carR q l).1, Jl c x ∧ Qs x.o x.d = (x.c, 0)) ∧ (match q with | some x => c.links (x :: (c.carR q l).1) | none => c.links (c.carR q l).1) ∧ (q = none → ((c.carR q l).1.head?.map (·.o)) = l.head?.map (·.o))
 | [], q, _, _, _ => by
  refine ⟨rfl, fun x hx => absurd hx (by simp [Qc.carR]), ?_, fun _ => rfl⟩
  cases q with
  | none => trivial
  | some x => trivial
 | p :: r, q, hl, hq, h => by
  cases h1 : (q.any fun q => !c.behV q p)
  ·by_cases h2 : (Qs (q.elim p.o (·.c)) p.d).2 = 0
   ·have hp := hl p List.mem_cons_self
    have ho : Ya (q.elim p.o (·.c)) = 0 := by
     cases q with
     | none => exact hp.o
     | some x => exact (hq x rfl).k
    obtain ⟨g1, g2⟩ := Eg hp ho h2
    rw [Ko h1 h2] at h ⊢
    split at h
    ·rename_i h3; exact absurd h h3
    rename_i h3
    rw [if_neg h3]
    obtain ⟨i1, i2, i3, _⟩ := Rh r (some (Jp q p)) (fun x hx => hl x (List.mem_cons_of_mem _ hx)) (fun x hx => by cases hx; exact g1) (Decidable.not_not.1 h3)
    refine ⟨by simp [i1], fun x hx => ?_, ?_, fun hn => by subst hn; rfl⟩
    ·rcases List.mem_cons.1 hx with rfl | hx
     ·exact ⟨g1, g2⟩
     ·exact i2 x hx
    ·cases q with
     | none => exact i3
     | some x =>
      refine ⟨⟨?_, rfl⟩, i3⟩
      have : c.behV x p = true := by simpa using h1
      exact this
   ·rw [Od h1 h2] at h
    exact absurd h h2
  ·rw [Oc h1] at h
   exact absurd h (by decide)
theorem Aj {c : Qc} {l : List Pd} (h : c.archE l = 0) : c.valid = true ∧ ∀ p ∈ l, Jl c p := by
 unfold Qc.archE at h
 split at h
 ·rename_i h1; exact absurd h h1
 rename_i h1
 have hv : c.valid = true := by
  have h2 : c.chk = 0 := Decidable.not_not.1 h1
  unfold Qc.chk at h2
  split at h2
  ·assumption
  ·exact absurd h2 (by decide)
 refine ⟨hv, fun p hp => ?_⟩
 split at h
 ·exact absurd h (by decide)
 unfold Qc.persE at h
 split at h
 ·rename_i h3; exact Gg (List.all_eq_true.1 h3 p hp)
 ·exact absurd h (by decide)
theorem En {c : Qc} {l : List Pd} (h : (c.carryV l).2 = 0) : c.valid = true ∧ Kd c (c.carryV l).1 ∧ (c.carryV l).1.length = l.length ∧ (c.carryV l).1.head?.map (·.o) = l.head?.map (·.o) := by
 unfold Qc.carryV at h ⊢
 split at h
 ·rename_i h1; exact absurd h h1
 rename_i h1
 rw [if_neg h1]
 obtain ⟨hv, hp⟩ := Aj (Decidable.not_not.1 h1)
 obtain ⟨g1, g2, g3, g4⟩ := Rh l none hp (fun x hx => by cases hx) h
 exact ⟨hv, ⟨g2, g3⟩, g1, g4 rfl⟩
theorem Em {c : Qc} {l : List Pd} (h : (c.carryV l).2 ≠ 0 ∨ l = []) : (c.carryV l).1 = [] := by
 unfold Qc.carryV at h ⊢
 split
 ·rfl
 rename_i h1
 rw [if_neg h1] at h
 rcases h with h | h
 ·exact Rg c none l h
 ·subst h; rfl
/-- The loop of CarryJoins: w is the join of the first i + 1 periods. -/
structure Ke (c : Qc) (k : List Pd) (i : Nat) (w : Pd) : Prop where
 hi : i < k.length
 j : Ux c w (k.getD i Qk)
 s : Qs w.o w.d = (w.c, 0)
 o : w.o = (k.getD 0 Qk).o
theorem U7 {k : List Pd} {i : Nat} (h : i < k.length) : k.getD i Qk = k[i] := by simp [List.getD_eq_getElem?_getD, h]
theorem E7 {c : Qc} {k : List Pd} (h : Kd c k) (h0 : 0 < k.length) : Ke c k 0 (k.getD 0 Qk) := by
 have g := h.a _ (List.getElem_mem h0)
 rw [← U7 h0] at g
 exact ⟨h0, ⟨rfl, rfl, rfl, g.1⟩, g.2, rfl⟩
theorem E9 {c : Qc} {k : List Pd} {i : Nat} {w : Pd} (hv : c.valid = true) (h : Kd c k) (J : Ke c k i w) (hi : i + 1 < k.length) : c.joinE w (k.getD (i + 1) Qk) = 3 ∨ (c.joinE w (k.getD (i + 1) Qk) = 0 ∧ Ke c k (i + 1) (c.joinP w (k.getD (i + 1) Qk))) := by
 have g := h.a _ (List.getElem_mem hi)
 have hl := O7 hi h.l
 rw [← U7 hi] at g hl
 rw [← U7 J.hi] at hl
 rcases Ss hv J.j g.1 hl.1 hl.2 with h1 | ⟨h1, h2, h3⟩
 ·exact .inl h1.2
 ·refine .inr ⟨h1, hi, by rw [h2]; exact h3, ?_, by rw [h2]; exact J.o⟩
  rw [h2, Qbu J.s (J.j.k.trans hl.2), g.2]; rfl
theorem cj_end {c : Qc} {k : List Pd} {i : Nat} {w : Pd} (hv : c.valid = true) (J : Ke c k i w) (hi : i + 1 = k.length) : c.closeV w = (w.c, 0) ∧ w.c = (k.getD (k.length - 1) Qk).c ∧ w.o = (k.getD 0 Qk).o := by
 refine ⟨?_, ?_, J.o⟩
 ·unfold Qc.closeV; rw [Gf hv J.j.ok]; exact J.s
 ·rw [← hi]; exact J.j.k
/-- The loop of TopCarries: P are the parts made, r is what is left of p, W is the balance of the whole. -/
structure Ue (c : Qc) (p : Pd) (W : List Lt) (P : List Pd) (r : Pd) : Prop where
 a : ∀ x ∈ P, Jl c x ∧ Qs x.o x.d = (x.c, 0)
 s : Qs r.o r.d = (W, 0)
 l : c.links (P ++ [r])
 j : Jo (P ++ [r]) = p
 ok : Jl c r
theorem Qen {c : Qc} {p : Pd} (h : (c.closeV p).2 = 0) : c.valid = true ∧ Ue c p (c.closeV p).1 [] p := by
 unfold Qc.closeV at h ⊢
 split at h
 ·rename_i h1; exact absurd h h1
 rename_i h1
 rw [if_neg h1]
 obtain ⟨hv, hp⟩ := Gc (Decidable.not_not.1 h1)
 exact ⟨hv, fun x hx => absurd hx (by simp), by rw [← h], trivial, rfl, Gg hp⟩
theorem S9 {c : Qc} {r a b : Pd} (h1 : a.h = r.h) (h2 : a.a = r.a) (h3 : a.o = r.o) (g : c.behV a b = true) (e : a.c = b.o) : ∀ P : List Pd, c.links (P ++ [r]) → c.links (P ++ [a] ++ [b])
 | [], _ => ⟨⟨g, e⟩, trivial⟩
 | [x], h => by
  refine ⟨⟨?_, h.1.2.trans h3.symm⟩, ⟨g, e⟩, trivial⟩
  have := h.1.1
  unfold Qc.behV at this ⊢
  rw [h1, h2]; exact this
 | x :: y :: P, h => ⟨h.1, S9 h1 h2 h3 g e (y :: P) h.2⟩
theorem Qbx {r a b : Pd} (h : Jb a b = r) (P : List Pd) : Jo (P ++ [a] ++ [b]) = Jo (P ++ [r]) := by
 rw [O3 (by simp)]
 by_cases e : P = []
 ·subst e; exact h
 ·rw [O3 e, O3 e, Qbs, h]
theorem Qeo {c : Qc} {p : Pd} {W : List Lt} {P : List Pd} {r : Pd} {d : Dt} (hv : c.valid = true) (T : Ue c p W P r) (h0 : c.numV d ≠ 0) : c.divE r d = 8 ∨ (c.divE r d = 0 ∧ Ue c p W (P ++ [(c.divP r d).1]) (c.divP r d).2) := by
 have hp := Gf hv T.ok
 by_cases hr : c.numV d < c.numV r.a ∨ c.numV r.b ≤ c.numV d
 ·exact .inl (Ot hp h0 hr).1
 ·have hs : (Qs r.o (r.d.take (c.cutK (c.numV d) r.d))).2 = 0 := by
   refine Bv _ _ (r.d.drop (c.cutK (c.numV d) r.d)) ?_
   rw [List.take_append_drop, T.s]
  have hE : c.divE r d = 0 := by rw [Tc hp h0 hr]; exact hs
  have hP : c.divP r d = (c.divX r d, c.divY r d) := by unfold Qc.divP; rw [if_neg (by simpa using hE)]
  have D := Td hv T.ok (by omega) (by omega) hs
  rw [hP]
  refine .inr ⟨hE, fun x hx => ?_, D.t.trans T.s, ?_, ?_, D.py⟩
  ·rcases List.mem_append.1 hx with hx | hx
   ·exact T.a x hx
   ·rw [List.mem_singleton] at hx; subst hx; exact ⟨D.px, D.s⟩
  ·exact S9 (c := c) (r := r) (a := c.divX r d) (b := c.divY r d) rfl rfl rfl D.b D.xy P T.l
  ·rw [Qbx D.j]; exact T.j
theorem Ri {c : Qc} {r : Pd} {W : List Lt} (hr : (Qs r.o r.d) = (W, 0)) : ∀ (P : List Pd) (q : Option Pd), (∀ x ∈ P, Qs x.o x.d = (x.c, 0)) → (match q with | some x => c.links (x :: (P ++ [r])) | none => c.links (P ++ [r])) → c.carR q (P ++ [r]) = (P ++ [⟨r.h, r.a, r.b, r.o, r.d, W⟩], 0)
 | [], q, _, hl => by
  have h1 : (q.any fun q => !c.behV q r) = false := by
   cases q with
   | none => rfl
   | some x => simpa using hl.1.1
  have h2 : q.elim r.o (·.c) = r.o := by
   cases q with
   | none => rfl
   | some x => exact hl.1.2
  have h3 : (Qs (q.elim r.o (·.c)) r.d) = (W, 0) := by rw [h2, hr]
  show c.carR q (r :: []) = _
  rw [Ko h1 (by rw [h3]), if_neg (by simp [Qc.carR])]
  unfold Jp
  rw [h3, h2]
  rfl
 | p :: P, q, ha, hl => by
  have h1 : (q.any fun q => !c.behV q p) = false := by
   cases q with
   | none => rfl
   | some x => simpa using hl.1.1
  have h2 : q.elim p.o (·.c) = p.o := by
   cases q with
   | none => rfl
   | some x => exact hl.1.2
  have hp := ha p List.mem_cons_self
  have h3 : (Qs (q.elim p.o (·.c)) p.d) = (p.c, 0) := by rw [h2, hp]
  have h4 : Jp q p = p := by unfold Jp; rw [h3, h2]
  show c.carR q (p :: (P ++ [r])) = _
  rw [Ko h1 (by rw [h3]), h4, Ri hr P (some p) (fun x hx => ha x (List.mem_cons_of_mem _ hx)) (by
   cases q with
   | none => exact hl
   | some x => exact hl.2), if_neg (by simp)]
  rfl
theorem Qel {c : Qc} {p : Pd} {W : List Lt} {P : List Pd} {r : Pd} (hv : c.valid = true) (T : Ue c p W P r) (hn : P.length ≤ 12) : c.carryV (P ++ [r]) = (P ++ [⟨r.h, r.a, r.b, r.o, r.d, W⟩], 0) := by
 unfold Qc.carryV
 have h : c.archE (P ++ [r]) = 0 := by
  unfold Qc.archE Qc.chk
  rw [hv, if_neg (by simp), if_neg (by simp; omega)]
  unfold Qc.persE
  rw [if_pos]
  refine List.all_eq_true.2 fun x hx => ?_
  rcases List.mem_append.1 hx with hx | hx
  ·exact K9 (T.a x hx).1
  ·rw [List.mem_singleton] at hx; subst hx; exact K9 T.ok
 rw [h, if_neg (by simp)]
 exact Ri T.s P none (fun x hx => (T.a x hx).2) T.l
theorem Sx : ∀ (r : List Pd) (x : Pd) (i : Nat), ((r.take i).foldl Jb x).d.length ≤ (r.foldl Jb x).d.length
 | [], x, i => by simp
 | y :: r, x, 0 => by
  have : ∀ (r : List Pd) (x : Pd), x.d.length ≤ (r.foldl Jb x).d.length := fun r => by
   induction r with
   | nil => intro x; exact Nat.le_refl _
   | cons y r ih => intro x; refine Nat.le_trans ?_ (ih (Jb x y)); show _ ≤ (x.d ++ y.d).length; rw [List.length_append]; omega
  exact this (y :: r) x
 | y :: r, x, i + 1 => Sx r (Jb x y) i
theorem Qbw (l : List Pd) (i : Nat) : (Jo (l.take (i + 1))).d.length ≤ (Jo l).d.length := by
 cases l with
 | nil => simp [Jo]
 | cons x r => exact Sx r x i
/-- The second loop of TopCarries: the join of the first i + 1 parts. -/
theorem Qem {c : Qc} {l : List Pd} (hv : c.valid = true) (ha : ∀ x ∈ l, Jl c x) (hl : c.links l) (hm : (Jo l).d.length ≤ 64) : ∀ i, i < l.length → Ux c (Jo (l.take (i + 1))) (l.getD i Qk) ∧ (i + 1 < l.length → c.joinE (Jo (l.take (i + 1))) (l.getD (i + 1) Qk) = 0 ∧ c.joinP (Jo (l.take (i + 1))) (l.getD (i + 1) Qk) = Jo (l.take (i + 2))) := by
 have step : ∀ i, i + 1 < l.length → Ux c (Jo (l.take (i + 1))) (l.getD i Qk) → c.joinE (Jo (l.take (i + 1))) (l.getD (i + 1) Qk) = 0 ∧ c.joinP (Jo (l.take (i + 1))) (l.getD (i + 1) Qk) = Jo (l.take (i + 2)) ∧ Ux c (Jo (l.take (i + 2))) (l.getD (i + 1) Qk) := fun i hi J => by
  have g := ha _ (List.getElem_mem hi)
  have hk := O7 hi hl
  have hs := Qbv hi
  have hlen := Qbw l (i + 1)
  rw [← U7 hi] at g hk hs
  rw [← U7 (by omega)] at hk
  rcases Ss hv J g hk.1 hk.2 with ⟨h1, _⟩ | ⟨h1, h2, h3⟩
  ·rw [hs] at hlen
   have : (Jb (Jo (l.take (i + 1))) (l.getD (i + 1) Qk)).d.length = (Jo (l.take (i + 1))).d.length + (l.getD (i + 1) Qk).d.length := List.length_append
   omega
  ·rw [hs]; exact ⟨h1, h2, h3⟩
 have base : ∀ i, i < l.length → Ux c (Jo (l.take (i + 1))) (l.getD i Qk) := fun i => by
  induction i with
  | zero =>
   intro h
   rw [Sy h, U7 h]
   exact ⟨rfl, rfl, rfl, ha _ (List.getElem_mem h)⟩
  | succ i ih => intro h; exact (step i h (ih (by omega))).2.2
 exact fun i hi => ⟨base i hi, fun h => ⟨(step i h (base i hi)).1, (step i h (base i hi)).2.1⟩⟩
theorem Qek {c : Qc} {p : Pd} {W : List Lt} {P : List Pd} {r : Pd} (T : Ue c p W P r) : ∀ x ∈ P ++ [r], Jl c x := fun x hx => by
 rcases List.mem_append.1 hx with hx | hx
 ·exact (T.a x hx).1
 ·rw [List.mem_singleton] at hx; subst hx; exact T.ok
theorem Bu : ∀ (d : List Dl) (s : List Lt), (Qs s d).2 ≠ 0 → (Qs s d).1 = []
 | [], s, h => absurd rfl h
 | x :: r, s, h => by
  unfold Qs at h ⊢
  split
  ·rfl
  ·rename_i h3
   rw [if_neg h3] at h
   exact Bu r _ h
theorem Ib {c : Qc} {p : Pd} (h : (c.closeV p).2 ≠ 0) : (c.closeV p).1 = [] := by
 unfold Qc.closeV at h ⊢
 split
 ·rfl
 ·rename_i h3
  rw [if_neg h3] at h
  exact Bu _ _ h
theorem Ap {c : Qc} {n : Int} (h : c.atE n = 0) : c.numV (c.atV n) ≠ 0 := by
 unfold Qc.atE at h
 split at h
 ·rename_i hv
  split at h
  ·rename_i h1
   obtain ⟨o, ho⟩ := Option.isSome_iff_exists.1 h1
   obtain ⟨g1, g2⟩ := F8 ho
   have g3 := Mq g1
   unfold Qc.atV
   rw [if_pos hv, ho]
   show c.numV o ≠ 0
   rw [(Tw hv g1).2]
   omega
  ·exact absurd h (by decide)
 ·exact absurd h (by decide)
end
end Go.Proofs.YtneiofnlmblglaaDoor
