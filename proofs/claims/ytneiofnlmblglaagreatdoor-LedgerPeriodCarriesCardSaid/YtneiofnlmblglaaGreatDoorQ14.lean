/- Walks of the program's functions and plain facts, packed; proved: the lemmas below; no conditions but those that each states. -/
import Derived.Test.YtneiofnlmblglaaGreatDoorQ11
import Derived.Test.YtneiofnlmblglaaGreatDoorQ13
import Derived.Test.YtneiofnlmblglaaGreatDoorQ9
import Derived.Test.YtneiofnlmblglaaGreatDoorQ7
import Derived.Test.YtneiofnlmblglaaGreatDoorQ8
import Derived.Test.YtneiofnlmblglaaGreatDoorQ12
set_option maxRecDepth 100000
set_option maxHeartbeats 4000000
namespace Go.Proofs.YtneiofnlmblglaaGreatDoor
section
open Go Go.RowKit Go.Shelf
attribute [local go_sem] Zt
attribute [local go_sem high] Pc
theorem Vh {w : World} {b : Nat} {t : TypeId} {cs : Array Value} {n sz : Nat} {f : Nat → List Value} (h : Qb w b t cs) (hf : ∀ i j v, i < n → (f i)[j]? = some v → cs[i * sz + j]? = some v) : Qk w (some ⟨b, 0, none⟩) n sz f :=
 fun _ => ⟨b, 0, rfl, h.lt, fun i j v hi hv => by rw [Nat.zero_add, h.cell]; exact hf i j v hi hv⟩
theorem Wb (n d : Int) (w : World) :
  Calls Tryz.prog 35 #[.int .i64 n, .int .i64 d] w fun e w' => e = .returned (.agg #[.int .i64 n, .int .i64 d]) ∧ Qa w w' := by
 go_enter Tryz.func35, Tryz.ntmps35
 go_wp2
 refine bodyPost_ret (v := .agg #[.int .i64 n, .int .i64 d]) (by simp [results, Tryz.results35, go_sem]) rfl ⟨rfl, (by repeat (first | exact Qa.refl _ | (refine Qa.alloc ?_ _) | (refine Qa.trans ?_ (by assumption))))⟩
theorem Y5 (y m d : Int) (w : World) :
  Calls Tryz.prog 39 #[.int .i64 y, .int .i64 m, .int .i64 d] w fun e w' => e = .returned (.agg #[.int .i64 y, .int .i64 m, .bool false, .int .i64 d]) ∧ Qa w w' := by
 go_enter Tryz.func39, Tryz.ntmps39
 go_wp2
 refine bodyPost_ret (v := .agg #[.int .i64 y, .int .i64 m, .bool false, .int .i64 d]) (by simp [results, Tryz.results39, go_sem]) rfl ⟨rfl, (by repeat (first | exact Qa.refl _ | (refine Qa.alloc ?_ _) | (refine Qa.trans ?_ (by assumption))))⟩
theorem Mm (s : ByteArray) (n : Int) (w : World) :
  Calls Tryz.prog 44 #[.string s, .int .i64 n] w fun e w' => ∃ b, e = .returned (.slice (some ⟨b, 0, none⟩) 1 1) ∧ Qa w w' ∧ Zp w' (.slice (some ⟨b, 0, none⟩) 1 1) [⟨s, n⟩] := by
 go_enter Tryz.func44, Tryz.ntmps44
 go_wp2
 go_ret
 refine ⟨w.heap.size, rfl, (by repeat (first | exact Qa.refl _ | (refine Qa.alloc ?_ _) | (refine Qa.trans ?_ (by assumption)))), some ⟨w.heap.size, 0, none⟩, 1, rfl, ?_, Nat.le_refl _, by decide, fun h => (by cases h)⟩
 refine Vh (t := 68) (cs := #[.string s, .int .i64 n]) (by repeat (first | (refine Qb.at _ _ _ _ ?_; (simp; done)) | refine Qb.alloc ?_ _)) ?_
 intro i j v hi hv
 obtain rfl : i = 0 := by simp at hi; omega
 have hj : j < 2 := (List.getElem?_eq_some_iff.1 hv).1
 rw [← hv]
 have : j = 0 ∨ j = 1 := by omega
 rcases this with rfl | rfl <;> rfl
theorem Qdn (w : World) :
  Calls Tryz.prog 33 #[] w fun e w' => ∃ A A' ca cb, e = .returned (.agg #[.slice A 1 ca, .slice A' 3 cb]) ∧ Qa w w' ∧ Qv w' A ca A' cb Xb := by
 go_enter Tryz.func33, Tryz.ntmps33
 go_wp2
 refine bodyPost_ret (v := .agg #[.slice (some ⟨w.heap.size + 1, 0, none⟩) 1 1, .slice (some ⟨w.heap.size + 1 + 1, 0, none⟩) 3 3]) (by simp [results, Tryz.results33, go_sem]) rfl ⟨_, _, _, _, rfl, (by repeat (first | exact Qa.refl _ | (refine Qa.alloc ?_ _) | (refine Qa.trans ?_ (by assumption)))), ⟨?_, ?_, by decide, by decide, by decide, by decide⟩⟩
 ·refine Vh (t := 9) (cs := #[.string sU8]) (by repeat (first | (refine Qb.at _ _ _ _ ?_; (simp; done)) | refine Qb.alloc ?_ _)) ?_
  intro i j v hi hv
  have hi : i < 1 := hi
  have hj : j < 1 := (List.getElem?_eq_some_iff.1 hv).1
  rw [← hv]
  obtain rfl : i = 0 := by omega
  obtain rfl : j = 0 := by omega
  rfl
 ·refine Vh (t := 119) (cs := #[.int .i64 0, .string sA, .int .i64 4095, .int .i64 0, .int .i64 0, .string sB, .int .i64 4095, .int .i64 0, .int .i64 0, .string sC, .int .i64 4095, .int .i64 0]) (by repeat (first | (refine Qb.at _ _ _ _ ?_; (simp; done)) | refine Qb.alloc ?_ _)) ?_
  intro i j v hi hv
  have hi : i < 3 := hi
  have hj : j < 4 := (List.getElem?_eq_some_iff.1 hv).1
  rw [← hv]
  have h1 : i = 0 ∨ i = 1 ∨ i = 2 := by omega
  have h2 : j = 0 ∨ j = 1 ∨ j = 2 ∨ j = 3 := by omega
  rcases h1 with rfl | rfl | rfl <;> rcases h2 with rfl | rfl | rfl | rfl <;> rfl
theorem Qee {W : World} {b : Nat} {t : TypeId} {v0 v1 v2 v3 v4 v5 v6 v7 : Value} (h : Qb W b t #[v0, v1, v2, v3, v4, v5, v6, v7]) (u0 u1 u2 u3 u4 u5 u6 u7 : Value) : Qb ((((((((W.setCell ⟨b, 0, none⟩ u0).setCell ⟨b, 1, none⟩ u1).setCell ⟨b, 2, none⟩ u2).setCell ⟨b, 3, none⟩ u3).setCell ⟨b, 4, none⟩ u4).setCell ⟨b, 5, none⟩ u5).setCell ⟨b, 6, none⟩ u6).setCell ⟨b, 7, none⟩ u7) b t #[u0, u1, u2, u3, u4, u5, u6, u7] := by unfold Qb at h ⊢; simp [World.setCell, Array.getElem?_modify, h]
theorem ext8 {W0 W : World} {b : Nat} (h : Qa W0 W) (hb : W0.heap.size ≤ b) (u0 u1 u2 u3 u4 u5 u6 u7 : Value) : Qa W0 ((((((((W.setCell ⟨b, 0, none⟩ u0).setCell ⟨b, 1, none⟩ u1).setCell ⟨b, 2, none⟩ u2).setCell ⟨b, 3, none⟩ u3).setCell ⟨b, 4, none⟩ u4).setCell ⟨b, 5, none⟩ u5).setCell ⟨b, 6, none⟩ u6).setCell ⟨b, 7, none⟩ u7) :=
 (((((((h.setCell (p := ⟨b, 0, none⟩) hb u0).setCell (p := ⟨b, 1, none⟩) hb u1).setCell (p := ⟨b, 2, none⟩) hb u2).setCell (p := ⟨b, 3, none⟩) hb u3).setCell (p := ⟨b, 4, none⟩) hb u4).setCell (p := ⟨b, 5, none⟩) hb u5).setCell (p := ⟨b, 6, none⟩) hb u6).setCell (p := ⟨b, 7, none⟩) hb u7
theorem Qaj {W : World} {b b' : Nat} {t : TypeId} {cs : Array Value} (h : Qb W b t cs) (hne : b ≠ b') (u0 u1 u2 u3 u4 u5 u6 u7 : Value) : Qb ((((((((W.setCell ⟨b', 0, none⟩ u0).setCell ⟨b', 1, none⟩ u1).setCell ⟨b', 2, none⟩ u2).setCell ⟨b', 3, none⟩ u3).setCell ⟨b', 4, none⟩ u4).setCell ⟨b', 5, none⟩ u5).setCell ⟨b', 6, none⟩ u6).setCell ⟨b', 7, none⟩ u7) b t cs :=
 Qh (Qh (Qh (Qh (Qh (Qh (Qh (Qh h hne 0 u0) hne 1 u1) hne 2 u2) hne 3 u3) hne 4 u4) hne 5 u5) hne 6 u6) hne 7 u7
theorem Iz (w : World) :
  Calls Tryz.prog 37 #[] w fun e w' => ∃ b, e = .returned (.tuple #[.agg #[.int .i64 60, .int .i64 1, .int .i64 1, .int .i64 5, .int .i64 0, .int .i64 1, .bool false, .int .i64 1], .slice (some ⟨b, 0, none⟩) 1 1]) ∧ Qa w w' ∧ Qk w' (some ⟨b, 0, none⟩) 1 6 (Yi p8) := by
 go_enter Tryz.func37, Tryz.ntmps37
 go_upto_region 1 with (fail)
 obtain ⟨v, hv⟩ := Qg (w.alloc (.cells #[.int .i64 0, .int .i64 0, .int .i64 0, .int .i64 0, .int .i64 0, .int .i64 0, .bool false, .int .i64 0] 80))
 rw [← hv]
 have E : Qa w v := by rw [hv]; exact (Qa.refl _).alloc _
 have B1 : Qb v w.heap.size 80 #[.int .i64 0, .int .i64 0, .int .i64 0, .int .i64 0, .int .i64 0, .int .i64 0, .bool false, .int .i64 0] := by rw [hv]; exact Qb.new _ _ _
 clear hv
 obtain ⟨b1, hb1⟩ := Qg (w.heap.size)
 rw [← hb1] at B1 ⊢
 have hbr : w.heap.size ≤ b1 := by omega
 clear hb1
 go_wp2_with (first | (go_at_call 35; (with_reducible refine Calls.mono (Wb 10 1 _) ?_); rintro e wa ⟨rfl, hx⟩; replace E := E.trans hx; replace B1 := B1.ext hx; clear hx; have BA := B1.alloc (.cells #[.int .i64 0, .int .i64 7, .bool false, .int .i64 1, .int .i64 10, .int .i64 1] 127); have z0 := BA.frozen 0; have z1 := BA.frozen 1; have z2 := BA.frozen 2; have z3 := BA.frozen 3; have z4 := BA.frozen 4; have z5 := BA.frozen 5; have z6 := BA.frozen 6; have z7 := BA.frozen 7; obtain ⟨x0, x1, x2, x3, x4, x5, x6, x7⟩ := BA.c8; have lx := BA.lt) | (go_at_call 35; (with_reducible refine Calls.mono (Wb _ _ _) ?_); rintro e wa ⟨rfl, hx⟩; replace E := E.trans hx; replace B1 := B1.ext hx; clear hx) | (go_at_call 39; (with_reducible refine Calls.mono (Y5 _ _ _ _) ?_); rintro e wa ⟨rfl, hx⟩; replace E := E.trans hx; replace B1 := B1.ext hx; clear hx))
 have H8 := Qee (B1.alloc (.cells #[.int .i64 0, .int .i64 7, .bool false, .int .i64 1, .int .i64 10, .int .i64 1] 127)) (.int .i64 60) (.int .i64 1) (.int .i64 1) (.int .i64 5) (.int .i64 0) (.int .i64 1) (.bool false) (.int .i64 1)
 have E8 := ext8 (E.alloc (.cells #[.int .i64 0, .int .i64 7, .bool false, .int .i64 1, .int .i64 10, .int .i64 1] 127)) hbr (.int .i64 60) (.int .i64 1) (.int .i64 1) (.int .i64 5) (.int .i64 0) (.int .i64 1) (.bool false) (.int .i64 1)
 have P8 := Qaj (Qb.new wa 127 #[.int .i64 0, .int .i64 7, .bool false, .int .i64 1, .int .i64 10, .int .i64 1]) (show wa.heap.size ≠ b1 by have := B1.lt; omega) (.int .i64 60) (.int .i64 1) (.int .i64 1) (.int .i64 5) (.int .i64 0) (.int .i64 1) (.bool false) (.int .i64 1)
 obtain ⟨y0, y1, y2, y3, y4, y5, y6, y7⟩ := H8.c8
 refine bodyPost_ret (v := .tuple #[.agg #[.int .i64 60, .int .i64 1, .int .i64 1, .int .i64 5, .int .i64 0, .int .i64 1, .bool false, .int .i64 1], .slice (some ⟨wa.heap.size, 0, none⟩) 1 1]) (by simp [results, Tryz.results37, go_sem, y0, y1, y2, y3, y4, y5, y6, y7]) rfl ⟨_, rfl, E8, ?_⟩
 refine Vh P8 ?_
 intro i j v hi hv
 obtain rfl : i = 0 := by omega
 have hj : j < 6 := (List.getElem?_eq_some_iff.1 hv).1
 rw [← hv]
 have : j = 0 ∨ j = 1 ∨ j = 2 ∨ j = 3 ∨ j = 4 ∨ j = 5 := by omega
 rcases this with rfl | rfl | rfl | rfl | rfl | rfl <;> rfl
theorem Ae (v1 v2 : Value) (a b : List Lt) (w : World) (h1 : Zp w v1 a) (h2 : Zp w v2 b) :
  Calls Tryz.prog 45 #[v1, v2] w fun e w' => e = .returned (.bool (decide (a = b))) ∧ Qa w w' := by
 obtain ⟨A, ca, rfl, hA, hca, hca', _⟩ := h1
 obtain ⟨B, cb, rfl, hB, hcb, hcb', _⟩ := h2
 obtain ⟨R, hR0⟩ := Qg (decide (a = b))
 rw [← hR0]
 have HR := Lib.hid hR0
 clear hR0
 by_cases hn : a.length = b.length
 ·have HL := Lib.hid hn
  obtain ⟨n, hnl⟩ := Qg (a.length)
  rw [← hn] at hcb hB ⊢
  rw [← hnl] at hca hcb hA hB ⊢
  have h63 : n ≤ 9223372036854775807 := Nat.le_trans hca (Nat.le_trans hca' (by decide))
  replace hnl := Lib.hid hnl
  have hno : Hid (∀ k, k < n → Za a k ≠ Za b k → R = false) := fun k hk h => by
   rw [HR.out]; exact decide_eq_false fun e => h (by rw [e])
  have hyes : Hid ((∀ k, k < n → Za a k = Za b k) → R = true) := fun h => by
   rw [HR.out]
   refine decide_eq_true (List.ext_getElem HL.out fun i h1 h2 => ?_)
   have := h i (by rw [hnl.out]; exact h1)
   rwa [Lr h1, Lr h2] at this
  clear HR HL hn hnl hca' hcb' hca hcb
  generalize Za a = f at *
  generalize Za b = g at *
  go_enter Tryz.func45, Tryz.ntmps45
  go_wp2
  go_loopw [5] (fun i wr => ∃ k : Nat, k ≤ n ∧ i = .int .i64 k ∧ Hid (∀ j, j < k → f j = g j) ∧ Qa w wr) (fun i _ => n - (intOf i).toNat)
  case atStart => exact ⟨0, Nat.zero_le _, rfl, (fun i hi => absurd hi (by omega)), Qa.refl _⟩
  case round =>
   obtain ⟨k, hk, rfl, hp, hE⟩ := hrel
   obtain ⟨wo, rfl⟩ := Qg wr
   by_cases hlt : k < n
   ·obtain ⟨b1, o1, rfl, hb, hc⟩ := (hA.ext hE) (by omega)
    obtain ⟨b2, o2, rfl, hb', hd⟩ := (hB.ext hE) (by omega)
    have c0 : wo.cell? ⟨b1, o1 + k * 2, none⟩ = some (.string (f k).g) := by simpa [Qz] using hc k 0 _ hlt rfl
    have c1 : wo.cell? ⟨b1, o1 + k * 2 + 1, none⟩ = some (.int .i64 (f k).n) := by simpa [Qz] using hc k 1 _ hlt rfl
    have d0 : wo.cell? ⟨b2, o2 + k * 2, none⟩ = some (.string (g k).g) := by simpa [Qz] using hd k 0 _ hlt rfl
    have d1 : wo.cell? ⟨b2, o2 + k * 2 + 1, none⟩ = some (.int .i64 (g k).n) := by simpa [Qz] using hd k 1 _ hlt rfl
    have hq : Hid ((((f k).g.toList == (g k).g.toList) && ((f k).n == (g k).n)) = decide (f k = g k)) := by
     unfold Hid
     rw [← K2, Bool.eq_iff_iff]
     simp only [Bool.and_eq_true, decide_eq_true_eq, beq_iff_eq]
     constructor
     ·rintro ⟨e1, e2⟩
      cases hf : f k; cases hg : g k
      rw [hf, hg] at e1 e2
      simp_all
     ·intro e; rw [e]; exact ⟨rfl, rfl⟩
    have hs : Hid (f k = g k → ∀ j, j < k + 1 → f j = g j) := fun e j hj => by
     by_cases h : j = k
     ·subst h; exact e
     ·exact hp.out j (by omega)
    have hnk := Lib.hid (hno.out k hlt)
    clear hc hd hA hB hp
    generalize f k = x at *
    generalize g k = y at *
    go_upto_region 6 with (fail)
    clear hno hyes
    generalize hg1 : (x.g.toList == y.g.toList) = e1 at *
    generalize hg2 : (x.n == y.n) = e2 at *
    by_cases hxy : x = y
    ·obtain ⟨rfl, rfl⟩ : e1 = true ∧ e2 = true := by
      have h := hq.out
      rw [decide_eq_true hxy] at h
      simpa using h
     have hp' := Lib.hid (hs.out hxy)
     clear hs hq hnk hxy
     refine Q8 wo Qm (by kernel_rfl) (by repeat (first | exact Qa.refl _ | (refine Qa.alloc ?_ _) | (refine Qa.trans ?_ (by assumption)))) ?_
     intro hne hrx hry
     try simp only []
     try simp only [List.append_eq, List.cons_append, List.nil_append]
     skip
     repeat (first
      | go_big_quiet_skip
      | (go_big_quiet_want; go_big_quiet_op; go_big_quiet_on))
     clear hne hry hrx
     refine wpQuiet_nil ?_
     intro wn hwn
     obtain ⟨hcwn, hfwn, hzwn⟩ := Qa.rules hwn
     try simp only [World.size_alloc] at hzwn
     obtain ⟨hcbwn, hfbwn, hzbwn⟩ := Qa.rules (show Qa wo wn from (by repeat (first | exact Qa.refl _ | (refine Qa.alloc ?_ _) | (refine Qa.trans ?_ (by assumption)))))
     clear hcwn hfwn
     go_wp2
     exact ⟨⟨k + 1, by omega, by go_num, hp', hE.trans hwn⟩, by simp [intOf]; omega⟩
    ·have hr := hnk.out hxy
     have h : e1 = false ∨ (e1 = true ∧ e2 = false) := by
      have h := hq.out
      rw [decide_eq_false hxy] at h
      cases e1 <;> simp_all
     clear hs hq hnk hxy
     rcases h with rfl | ⟨rfl, rfl⟩
     ·skip
      refine Q8 wo Qm (by kernel_rfl) (by repeat (first | exact Qa.refl _ | (refine Qa.alloc ?_ _) | (refine Qa.trans ?_ (by assumption)))) ?_
      intro hne hrx hry
      try simp only []
      try simp only [List.append_eq, List.cons_append, List.nil_append]
      skip
      repeat (first
       | go_big_quiet_skip
       | (go_big_quiet_want; go_big_quiet_op; go_big_quiet_on))
      clear hne hry hrx
      refine wpQuiet_nil ?_
      intro wn hwn
      obtain ⟨hcwn, hfwn, hzwn⟩ := Qa.rules hwn
      try simp only [World.size_alloc] at hzwn
      obtain ⟨hcbwn, hfbwn, hzbwn⟩ := Qa.rules (show Qa wo wn from (by repeat (first | exact Qa.refl _ | (refine Qa.alloc ?_ _) | (refine Qa.trans ?_ (by assumption)))))
      clear hcwn hfwn
      go_wp2
      go_ret
      exact ⟨by rw [hr]; rfl, hE.trans hwn⟩
     ·skip
      refine Q8 wo Qm (by kernel_rfl) (by repeat (first | exact Qa.refl _ | (refine Qa.alloc ?_ _) | (refine Qa.trans ?_ (by assumption)))) ?_
      intro hne hrx hry
      try simp only []
      try simp only [List.append_eq, List.cons_append, List.nil_append]
      skip
      repeat (first
       | go_big_quiet_skip
       | (go_big_quiet_want; go_big_quiet_op; go_big_quiet_on))
      clear hne hry hrx
      refine wpQuiet_nil ?_
      intro wn hwn
      obtain ⟨hcwn, hfwn, hzwn⟩ := Qa.rules hwn
      try simp only [World.size_alloc] at hzwn
      obtain ⟨hcbwn, hfbwn, hzbwn⟩ := Qa.rules (show Qa wo wn from (by repeat (first | exact Qa.refl _ | (refine Qa.alloc ?_ _) | (refine Qa.trans ?_ (by assumption)))))
      clear hcwn hfwn
      go_wp2
      go_ret
      exact ⟨by rw [hr]; rfl, hE.trans hwn⟩
   ·obtain rfl : k = n := by omega
    have hr := hyes.out hp.out
    clear hyes hno
    go_wp2
    go_ret
    exact ⟨by rw [hr]; rfl, hE⟩
 ·have hne : ((a.length : Int) == (b.length : Int)) = false := beq_eq_false_iff_ne.2 (by omega)
  have hnn : ((a.length : Int) != (b.length : Int)) = true := by rw [bne, hne]; rfl
  have hr : R = false := by rw [HR.out]; exact decide_eq_false fun e => hn (by rw [e])
  clear hn HR
  go_enter Tryz.func45, Tryz.ntmps45
  go_wp2
  go_ret
  exact ⟨by rw [hr]; rfl, Qa.refl _⟩
end
section
open Go Go.RowKit Go.Shelf
attribute [local go_sem] Zt
attribute [local go_sem high] Qef Qfb Ir
theorem Ao {w : World} {b : Nat} (h : Qb w b 91 #[.int .i64 10, .int .i64 1, .int .i64 1, .int .i64 3, .int .i64 5, .int .i64 1, .int .i64 1, .int .i64 1]) : Qk w (some ⟨b, 0, none⟩) 2 4 (Ym t8) := by
 refine Vh h ?_
 intro i j v hi hv
 have hj : j < 4 := (List.getElem?_eq_some_iff.1 hv).1
 rw [← hv]
 have h1 : i = 0 ∨ i = 1 := by omega
 have h2 : j = 0 ∨ j = 1 ∨ j = 2 ∨ j = 3 := by omega
 rcases h1 with rfl | rfl <;> rcases h2 with rfl | rfl | rfl | rfl <;> rfl
theorem Vs {w : World} {b : Nat} (h : Qb w b 95 #[.int .i64 2, .int .i64 1, .int .i64 2, .int .i64 0, .int .i64 1, .bool false, .int .i64 1, .int .i64 0, .int .i64 1, .bool false, .int .i64 30]) : Qk w (some ⟨b, 0, none⟩) 1 11 (Zo w8) := by
 refine Vh h ?_
 intro i j v hi hv
 obtain rfl : i = 0 := by omega
 have hj : j < 11 := (List.getElem?_eq_some_iff.1 hv).1
 rw [← hv]
 have : j = 0 ∨ j = 1 ∨ j = 2 ∨ j = 3 ∨ j = 4 ∨ j = 5 ∨ j = 6 ∨ j = 7 ∨ j = 8 ∨ j = 9 ∨ j = 10 := by omega
 rcases this with rfl | rfl | rfl | rfl | rfl | rfl | rfl | rfl | rfl | rfl | rfl <;> rfl
theorem Oo {A A' : Option Addr} {ca cb : Nat} {w : World} (hC : Qv w A ca A' cb Xb) {bp : Nat} (hB : Qk w (some ⟨bp, 0, none⟩) 1 6 (Yi p8)) (hZ : Zy w) : Calls Tryz.prog 38 #[.agg #[.slice A 1 ca, .slice A' 3 cb], .agg #[.int .i64 60, .int .i64 1, .int .i64 1, .int .i64 5, .int .i64 0, .int .i64 1, .bool false, .int .i64 1], .slice (some ⟨bp, 0, none⟩) 1 1, .agg #[.int .i64 1, .int .i64 7, .bool false, .int .i64 1]] w fun e w' => e = .returned (.tuple #[.agg #[.int .i64 56, .int .i64 1, .int .i64 56, .int .i64 5, .int .i64 0, .int .i64 1], .int .i64 0]) ∧ Qa w w' := by
 have := P9 A A' ca cb Xb (some ⟨bp, 0, none⟩) 1 1 l8 p8 (by unfold Rt.In; decide) (by unfold Rt.In; decide) (fun i _ => show (Rt.mk 10 1).In by unfold Rt.In; decide) w hC hB (by decide) hZ d8
 rw [Qal] at this
 exact this
theorem Fm {A A' : Option Addr} {ca cb : Nat} {w : World} (hC : Qv w A ca A' cb Xb) {bp : Nat} (hB : Qk w (some ⟨bp, 0, none⟩) 1 6 (Yi p8)) (hZ : Zy w) : Calls Tryz.prog 40 #[.agg #[.slice A 1 ca, .slice A' 3 cb], .agg #[.int .i64 60, .int .i64 1, .int .i64 1, .int .i64 5, .int .i64 0, .int .i64 1, .bool false, .int .i64 1], .slice (some ⟨bp, 0, none⟩) 1 1, .agg #[.int .i64 1, .int .i64 7, .bool false, .int .i64 1]] w fun e w' => e = .returned (.tuple #[.agg #[.int .i64 336, .int .i64 5], .int .i64 0]) ∧ Qa w w' := by
 have := Qbj A A' ca cb Xb (some ⟨bp, 0, none⟩) 1 1 l8 p8 (by unfold Rt.In; decide) (by unfold Rt.In; decide) (fun i _ => show (Rt.mk 10 1).In by unfold Rt.In; decide) w hC hB (by decide) hZ d8
 rw [Qbl] at this
 exact this
theorem Cj : ∀ i, i < 2 → (t8 i).a.In ∧ (t8 i).r.In := fun i hi => by
 have : i = 0 ∨ i = 1 := by omega
 rcases this with rfl | rfl <;> (unfold Rt.In; decide)
theorem Vt {A A' : Option Addr} {ca cb : Nat} {w : World} (hC : Qv w A ca A' cb Xb) {bt bc : Nat} (hT : Qk w (some ⟨bt, 0, none⟩) 2 4 (Ym t8)) (hS : Qk w (some ⟨bc, 0, none⟩) 1 11 (Zo w8)) (hZ : Zy w) : Calls Tryz.prog 41 #[.agg #[.slice A 1 ca, .slice A' 3 cb], .slice (some ⟨bt, 0, none⟩) 2 2, .slice (some ⟨bc, 0, none⟩) 1 1] w fun e w' => e = .returned (.tuple #[.agg #[.int .i64 (-5), .int .i64 1], .int .i64 0]) ∧ Qa w w' := by
 have := Qbt A A' ca cb Xb (some ⟨bt, 0, none⟩) 2 2 t8 (some ⟨bc, 0, none⟩) 1 1 w8 w hC Cj hT (by decide) (fun i _ => ⟨show (Rt.mk 1 2).In by unfold Rt.In; decide, show (-9223372036854775808 : Int) ≤ 2 by decide, show (2 : Int) ≤ 9223372036854775807 by decide⟩) hS (by decide) hZ
 rw [e8_bal] at this
 exact this
theorem w8_few {A A' : Option Addr} {ca cb : Nat} {w : World} (hC : Qv w A ca A' cb Xb) {bt : Nat} (hT : Qk w (some ⟨bt, 0, none⟩) 2 4 (Ym t8)) (hZ : Zy w) : Calls Tryz.prog 42 #[.agg #[.slice A 1 ca, .slice A' 3 cb], .slice (some ⟨bt, 0, none⟩) 2 2, .agg #[.int .i64 1, .int .i64 2], .agg #[.int .i64 0, .int .i64 1, .bool false, .int .i64 1], .agg #[.int .i64 0, .int .i64 1, .bool false, .int .i64 30]] w fun e w' => e = .returned (.tuple #[.int .i64 3, .int .i64 0]) ∧ Qa w w' := by
 have := Ey A A' ca cb Xb (some ⟨bt, 0, none⟩) 2 2 t8 ⟨1, 2⟩ (by unfold Rt.In; decide) f8 u8' w hC Cj hT (by decide) hZ
 rw [e8_few] at this
 exact this
theorem Qah (w : World) : Calls Tryz.prog 43 #[.agg #[.int .i64 10, .int .i64 2, .int .i64 5], .agg #[.int .i64 4, .int .i64 5], .agg #[.int .i64 1, .int .i64 10], .int .i64 1] w fun e w' => e = .returned (.tuple #[.agg #[.int .i64 12, .int .i64 4, .int .i64 7], .int .i64 0]) ∧ Qa w w' := by
 have := Qbd h8 ⟨4, 5⟩ ⟨1, 10⟩ 1 (by unfold Rt.In; decide) (by unfold Rt.In; decide) (by decide) (by decide) w
 rw [Qb1] at this
 exact this
theorem Am {A A' : Option Addr} {ca cb : Nat} {w : World} (hC : Qv w A ca A' cb Xb) {o x y d : Nat} (hO : Zp w (.slice (some ⟨o, 0, none⟩) 1 1) [⟨X6, 10⟩]) (hX : Zp w (.slice (some ⟨x, 0, none⟩) 1 1) [⟨X6, 5⟩]) (hY : Zp w (.slice (some ⟨y, 0, none⟩) 1 1) [⟨X6, 20⟩]) (hD : Qb w d 70 #[.int .i64 0, .int .i64 1, .bool false, .int .i64 2, .bool true, .string ⟨#[98]⟩, .slice (some ⟨x, 0, none⟩) 1 1, .int .i64 0, .int .i64 1, .bool false, .int .i64 2, .bool false, .string ⟨#[98]⟩, .slice (some ⟨y, 0, none⟩) 1 1]) :
  Calls Tryz.prog 9 #[.agg #[.slice A 1 ca, .slice A' 3 cb], .agg #[.string ⟨#[97]⟩, .int .i64 0, .int .i64 1, .bool false, .int .i64 1, .int .i64 0, .int .i64 1, .bool false, .int .i64 30, .slice (some ⟨o, 0, none⟩) 1 1, .slice (some ⟨d, 0, none⟩) 2 2, .slice none 0 0]] w fun e w' => ∃ v, e = .returned (.tuple #[v, .int .i64 0]) ∧ Qa w w' ∧ Zp w' v [⟨X6, -5⟩] := by
 have hDl : Ys w (.slice (some ⟨d, 0, none⟩) 2 2) pd8.d := by
  refine ⟨some ⟨d, 0, none⟩, 2, fun i => if i = 0 then .slice (some ⟨x, 0, none⟩) 1 1 else .slice (some ⟨y, 0, none⟩) 1 1, rfl, ?_, Nat.le_refl _, by decide, fun h => (by cases h), ?_⟩
  ·refine Vh hD ?_
   intro i j v hi hv
   have hi : i < 2 := hi
   have hj : j < 7 := (List.getElem?_eq_some_iff.1 hv).1
   rw [← hv]
   have h1 : i = 0 ∨ i = 1 := by omega
   have h2 : j = 0 ∨ j = 1 ∨ j = 2 ∨ j = 3 ∨ j = 4 ∨ j = 5 ∨ j = 6 := by omega
   rcases h1 with rfl | rfl <;> rcases h2 with rfl | rfl | rfl | rfl | rfl | rfl | rfl <;> rfl
  ·intro i hi
   have hi : i < 2 := hi
   have h1 : i = 0 ∨ i = 1 := by omega
   rcases h1 with rfl | rfl
   ·exact hX
   ·exact hY
 have := Qcz A A' ca cb Xb pd8 _ _ _ w hC ⟨hO, hDl, Vi w⟩
 rw [Qa5] at this
 exact this
theorem Ar (w : World) (hZ : Zy w) :
  Calls Tryz.prog 15 #[] w fun e w' => e = .returned (.bool true) ∧ Qa w w' := by
 go_enter Tryz.func15, Tryz.ntmps15
 go_upto_region 2 with (go_at_call 33; (with_reducible refine Calls.mono (Qdn _) ?_); rintro e w1 ⟨A, A', ca, cb, rfl, h1, C⟩)
 obtain ⟨v1, hv⟩ := Qg (w1.alloc (.cells #[.slice A 1 ca, .slice A' 3 cb] 25))
 rw [← hv]
 have h2 : Qa w1 v1 := by rw [hv]; exact (Qa.refl _).alloc _
 have B1 : Qb v1 w1.heap.size 25 #[.slice A 1 ca, .slice A' 3 cb] := by rw [hv]; exact Qb.new _ _ _
 clear hv
 generalize w1.heap.size = b1 at *
 have E := h1.trans h2
 replace C := C.ext h2
 have Z := hZ.ext E
 clear h1 h2 hZ
 have NI := fun w hz => Ch ⟨60, 1⟩ ⟨1, 5⟩ 180 (by unfold Rt.In; decide) (by unfold Rt.In; decide) (by decide) (by decide) w hz
 simp only [e8_int] at NI
 go_upto_region 3 with (first | (go_at_call 35; (with_reducible refine Calls.mono (Wb _ _ _) ?_); rintro e wa ⟨rfl, hx⟩; replace E := E.trans hx; replace C := C.ext hx; replace Z := Z.ext hx; replace B1 := B1.ext hx; clear hx) | (go_at_call 34; (with_reducible refine Calls.mono (NI _ Z) ?_); rintro e w2 ⟨rfl, hx⟩; replace E := E.trans hx; replace C := C.ext hx; replace Z := Z.ext hx; replace B1 := B1.ext hx; clear hx))
 obtain ⟨v2, hv⟩ := Qg (w2.alloc (.cells #[.int .i64 6, .int .i64 1] 73))
 rw [← hv]
 have h2 : Qa w2 v2 := by rw [hv]; exact (Qa.refl _).alloc _
 have B2 : Qb v2 w2.heap.size 73 #[.int .i64 6, .int .i64 1] := by rw [hv]; exact Qb.new _ _ _
 clear hv
 generalize w2.heap.size = b2 at *
 replace E := E.trans h2
 replace C := C.ext h2
 replace Z := Z.ext h2
 replace B1 := B1.ext h2
 clear h2
 have ND := fun w => Iv ⟨1, 3⟩ (by unfold Rt.In; decide) w
 simp only [e8_dbl] at ND
 clear NI
 go_upto_region 4 with (first | (go_at_call 35; (with_reducible refine Calls.mono (Wb _ _ _) ?_); rintro e wa ⟨rfl, hx⟩; replace E := E.trans hx; replace C := C.ext hx; replace Z := Z.ext hx; replace B1 := B1.ext hx; replace B2 := B2.ext hx; clear hx) | (go_at_call 36; (with_reducible refine Calls.mono (ND _) ?_); rintro e w3 ⟨rfl, hx⟩; replace E := E.trans hx; replace C := C.ext hx; replace Z := Z.ext hx; replace B1 := B1.ext hx; replace B2 := B2.ext hx; clear hx))
 clear ND
 go_upto_region 5 with (go_at_call 37; (with_reducible refine Calls.mono (Iz _) ?_); rintro e w4 ⟨bp, rfl, hx, PR⟩; replace E := E.trans hx; replace C := C.ext hx; replace Z := Z.ext hx; replace B1 := B1.ext hx; replace B2 := B2.ext hx; clear hx)
 obtain ⟨v4, hv⟩ := Qg (w4.alloc (.cells #[.int .i64 60, .int .i64 1, .int .i64 1, .int .i64 5, .int .i64 0, .int .i64 1, .bool false, .int .i64 1] 80))
 rw [← hv]
 have h2 : Qa w4 v4 := by rw [hv]; exact (Qa.refl _).alloc _
 have B4 : Qb v4 w4.heap.size 80 #[.int .i64 60, .int .i64 1, .int .i64 1, .int .i64 5, .int .i64 0, .int .i64 1, .bool false, .int .i64 1] := by rw [hv]; exact Qb.new _ _ _
 clear hv
 generalize w4.heap.size = b4 at *
 replace E := E.trans h2
 replace PR := PR.ext h2
 replace C := C.ext h2
 replace Z := Z.ext h2
 replace B1 := B1.ext h2
 replace B2 := B2.ext h2
 clear h2
 go_upto_region 5 with (fail)
 apply Uk (S := fun w' r => Qa v4 w' ∧ Qb w' r 85 #[.int .i64 56, .int .i64 1, .int .i64 56, .int .i64 5, .int .i64 0, .int .i64 1])
 ·refine Q3 11 [6, 7, 9, 10] (fun x => Qa v4 x) Qm rfl ?_
  intro vz hvz
  have HC := hvz
  refine Qp (g := 8) [0, 1, 2] [_, _, _] ⟨rfl, rfl, rfl, trivial⟩ (by kernel_rfl) (by kernel_rfl) HC ?_
  simp only [Qc, Qd, Qe]
  apply Exists.intro
  refine ⟨fun u hu => ?_, ?_⟩
  ·obtain ⟨k0, k1⟩ := (B1.ext hu).c2
   have lk := (B1.ext hu).lt
   obtain ⟨p0, p1, p2, p3, p4, p5, p6, p7⟩ := (B4.ext hu).c8
   have lp := (B4.ext hu).lt
   repeat (first | go_big_quiet_skip | (go_big_quiet_want; go_big_quiet_op; go_big_quiet_on))
   refine wpQuiet_nil ?_
   rfl
  refine Zu 3 8 rfl rfl (by kernel_rfl) ?_ ?_
  ·simp only [Qc, Qd, Qe]
   go_wp2_with (go_at_call 39; (with_reducible refine Calls.mono (Y5 _ _ _ _) ?_); rintro e wa ⟨rfl, hx⟩)
   replace HC := HC.trans hx
   try replace H5 := H5.ext hx
   clear hx
   refine Qi HC ?_
   refine Zu 4 8 rfl rfl (by kernel_rfl) ?_ ?_
   ·simp only [Qc, Qd, Qe]
    go_wp2_with (go_at_call 38; (with_reducible refine Calls.mono (Oo (C.ext HC) (PR.ext HC) (Z.ext HC)) ?_); rintro e wa ⟨rfl, hx⟩)
    replace HC := HC.trans hx
    try replace H5 := H5.ext hx
    clear hx
    refine Qi HC ?_
    refine Qp (g := 5) [5] [_] ⟨rfl, trivial⟩ (by kernel_rfl) (by kernel_rfl) HC ?_
    simp only [Qc, Qd, Qe]
    apply Exists.intro
    refine ⟨fun u hu => ?_, ?_⟩
    ·obtain ⟨k0, k1⟩ := (B1.ext hu).c2
     have lk := (B1.ext hu).lt
     obtain ⟨p0, p1, p2, p3, p4, p5, p6, p7⟩ := (B4.ext hu).c8
     have lp := (B4.ext hu).lt
     repeat (first | go_big_quiet_skip | (go_big_quiet_want; go_big_quiet_op; go_big_quiet_on))
     refine wpQuiet_nil ?_
     rfl
    refine Jy (g := 3) [6, 7] [_, _] ⟨rfl, rfl, trivial⟩ (by kernel_rfl) (by kernel_rfl) ?_
    simp only [Qc, Qd, Qe]
    apply Exists.intro
    refine ⟨fun u hu => ?_, ?_⟩
    ·repeat (first | go_big_quiet_skip | (go_big_quiet_want; go_big_quiet_op; go_big_quiet_on))
     refine wpQuiet_nil ?_
     rfl
    refine Qj 8 rfl (by kernel_rfl) ?_
    simp only [Qc, Qd, Qe]
    go_wp2
    obtain ⟨b9, wb, hbq, hwb, H5, HC', hx, g5⟩ := Q4 HC 85 #[.int .i64 0, .int .i64 0, .int .i64 0, .int .i64 0, .int .i64 0, .int .i64 0]
    rw [← hbq, ← hwb]
    replace HC := HC'
    clear hbq hwb hx HC'
    refine Qi HC ?_
    refine Qn 9 rfl (by kernel_rfl) ?_
    simp only [Qc, Qd, Qe]
    have z0 := H5.frozen 0
    have z1 := H5.frozen 1
    have z2 := H5.frozen 2
    have z3 := H5.frozen 3
    have z4 := H5.frozen 4
    have z5 := H5.frozen 5
    obtain ⟨x0, x1, x2, x3, x4, x5⟩ := H5.c6
    have lx := H5.lt
    go_wp2
    have H6 := Yw H5 (.int .i64 56) (.int .i64 1) (.int .i64 56) (.int .i64 5) (.int .i64 0) (.int .i64 1)
    replace HC := Yv HC g5 (.int .i64 56) (.int .i64 1) (.int .i64 56) (.int .i64 5) (.int .i64 0) (.int .i64 1)
    clear z0 x0 z1 x1 z2 x2 z3 x3 z4 x4 z5 x5 lx H5
    generalize World.setCell _ _ _ = wq at *
    refine Qo ?_
    refine Qn 10 rfl (by kernel_rfl) ?_
    simp only [Qc, Qd, Qe]
    go_wp2
    refine Qo ?_
    refine Qs (by kernel_rfl) ?_
    exact Ya b9 ⟨HC, H6⟩ rfl
   ·simp only [Qc, Qd, Qe]
    go_wp2
    obtain ⟨b9, wb, hbq, hwb, H5, HC', hx, g5⟩ := Q4 HC 85 #[.int .i64 0, .int .i64 0, .int .i64 0, .int .i64 0, .int .i64 0, .int .i64 0]
    rw [← hbq, ← hwb]
    replace HC := HC'
    clear hbq hwb hx HC'
    refine Qi HC ?_
    refine Qj 4 rfl (by kernel_rfl) ?_
    simp only [Qc, Qd, Qe]
    go_wp2_with (go_at_call 38; (with_reducible refine Calls.mono (Oo (C.ext HC) (PR.ext HC) (Z.ext HC)) ?_); rintro e wa ⟨rfl, hx⟩)
    replace HC := HC.trans hx
    try replace H5 := H5.ext hx
    clear hx
    refine Qi HC ?_
    refine Qp (g := 4) [5] [_] ⟨rfl, trivial⟩ (by kernel_rfl) (by kernel_rfl) HC ?_
    simp only [Qc, Qd, Qe]
    apply Exists.intro
    refine ⟨fun u hu => ?_, ?_⟩
    ·obtain ⟨k0, k1⟩ := (B1.ext hu).c2
     have lk := (B1.ext hu).lt
     obtain ⟨p0, p1, p2, p3, p4, p5, p6, p7⟩ := (B4.ext hu).c8
     have lp := (B4.ext hu).lt
     repeat (first | go_big_quiet_skip | (go_big_quiet_want; go_big_quiet_op; go_big_quiet_on))
     refine wpQuiet_nil ?_
     rfl
    refine Jy (g := 2) [6, 7] [_, _] ⟨rfl, rfl, trivial⟩ (by kernel_rfl) (by kernel_rfl) ?_
    simp only [Qc, Qd, Qe]
    apply Exists.intro
    refine ⟨fun u hu => ?_, ?_⟩
    ·repeat (first | go_big_quiet_skip | (go_big_quiet_want; go_big_quiet_op; go_big_quiet_on))
     refine wpQuiet_nil ?_
     rfl
    refine Qn 9 rfl (by kernel_rfl) ?_
    simp only [Qc, Qd, Qe]
    have z0 := H5.frozen 0
    have z1 := H5.frozen 1
    have z2 := H5.frozen 2
    have z3 := H5.frozen 3
    have z4 := H5.frozen 4
    have z5 := H5.frozen 5
    obtain ⟨x0, x1, x2, x3, x4, x5⟩ := H5.c6
    have lx := H5.lt
    go_wp2
    have H6 := Yw H5 (.int .i64 56) (.int .i64 1) (.int .i64 56) (.int .i64 5) (.int .i64 0) (.int .i64 1)
    replace HC := Yv HC g5 (.int .i64 56) (.int .i64 1) (.int .i64 56) (.int .i64 5) (.int .i64 0) (.int .i64 1)
    clear z0 x0 z1 x1 z2 x2 z3 x3 z4 x4 z5 x5 lx H5
    generalize World.setCell _ _ _ = wq at *
    refine Qo ?_
    refine Qn 10 rfl (by kernel_rfl) ?_
    simp only [Qc, Qd, Qe]
    go_wp2
    refine Qo ?_
    refine Qs (by kernel_rfl) ?_
    exact Ya b9 ⟨HC, H6⟩ rfl
  ·simp only [Qc, Qd, Qe]
   go_wp2
   obtain ⟨b9, wb, hbq, hwb, H5, HC', hx, g5⟩ := Q4 HC 85 #[.int .i64 0, .int .i64 0, .int .i64 0, .int .i64 0, .int .i64 0, .int .i64 0]
   rw [← hbq, ← hwb]
   replace HC := HC'
   clear hbq hwb hx HC'
   refine Qi HC ?_
   refine Qj 3 rfl (by kernel_rfl) ?_
   simp only [Qc, Qd, Qe]
   go_wp2_with (go_at_call 39; (with_reducible refine Calls.mono (Y5 _ _ _ _) ?_); rintro e wa ⟨rfl, hx⟩)
   replace HC := HC.trans hx
   try replace H5 := H5.ext hx
   clear hx
   refine Qi HC ?_
   refine Qj 4 rfl (by kernel_rfl) ?_
   simp only [Qc, Qd, Qe]
   go_wp2_with (go_at_call 38; (with_reducible refine Calls.mono (Oo (C.ext HC) (PR.ext HC) (Z.ext HC)) ?_); rintro e wa ⟨rfl, hx⟩)
   replace HC := HC.trans hx
   try replace H5 := H5.ext hx
   clear hx
   refine Qi HC ?_
   refine Qp (g := 4) [5] [_] ⟨rfl, trivial⟩ (by kernel_rfl) (by kernel_rfl) HC ?_
   simp only [Qc, Qd, Qe]
   apply Exists.intro
   refine ⟨fun u hu => ?_, ?_⟩
   ·obtain ⟨k0, k1⟩ := (B1.ext hu).c2
    have lk := (B1.ext hu).lt
    obtain ⟨p0, p1, p2, p3, p4, p5, p6, p7⟩ := (B4.ext hu).c8
    have lp := (B4.ext hu).lt
    repeat (first | go_big_quiet_skip | (go_big_quiet_want; go_big_quiet_op; go_big_quiet_on))
    refine wpQuiet_nil ?_
    rfl
   refine Jy (g := 2) [6, 7] [_, _] ⟨rfl, rfl, trivial⟩ (by kernel_rfl) (by kernel_rfl) ?_
   simp only [Qc, Qd, Qe]
   apply Exists.intro
   refine ⟨fun u hu => ?_, ?_⟩
   ·repeat (first | go_big_quiet_skip | (go_big_quiet_want; go_big_quiet_op; go_big_quiet_on))
    refine wpQuiet_nil ?_
    rfl
   refine Qn 9 rfl (by kernel_rfl) ?_
   simp only [Qc, Qd, Qe]
   have z0 := H5.frozen 0
   have z1 := H5.frozen 1
   have z2 := H5.frozen 2
   have z3 := H5.frozen 3
   have z4 := H5.frozen 4
   have z5 := H5.frozen 5
   obtain ⟨x0, x1, x2, x3, x4, x5⟩ := H5.c6
   have lx := H5.lt
   go_wp2
   have H6 := Yw H5 (.int .i64 56) (.int .i64 1) (.int .i64 56) (.int .i64 5) (.int .i64 0) (.int .i64 1)
   replace HC := Yv HC g5 (.int .i64 56) (.int .i64 1) (.int .i64 56) (.int .i64 5) (.int .i64 0) (.int .i64 1)
   clear z0 x0 z1 x1 z2 x2 z3 x3 z4 x4 z5 x5 lx H5
   generalize World.setCell _ _ _ = wq at *
   refine Qo ?_
   refine Qn 10 rfl (by kernel_rfl) ?_
   simp only [Qc, Qd, Qe]
   go_wp2
   refine Qo ?_
   refine Qs (by kernel_rfl) ?_
   exact Ya b9 ⟨HC, H6⟩ rfl
 rintro b5 v5 ⟨h2, B5⟩
 replace E := E.trans h2
 replace C := C.ext h2
 replace Z := Z.ext h2
 replace B1 := B1.ext h2
 replace B2 := B2.ext h2
 replace PR := PR.ext h2
 replace B4 := B4.ext h2
 clear h2
 go_upto_region 6 with (fail)
 apply Uk (S := fun w' r => Qa v5 w' ∧ Qb w' r 73 #[.int .i64 336, .int .i64 5])
 ·refine Q3 11 [6, 7, 9, 10] (fun x => Qa v5 x) Qm rfl ?_
  intro vz hvz
  have HC := hvz
  refine Qp (g := 8) [0, 1, 2] [_, _, _] ⟨rfl, rfl, rfl, trivial⟩ (by kernel_rfl) (by kernel_rfl) HC ?_
  simp only [Qc, Qd, Qe]
  apply Exists.intro
  refine ⟨fun u hu => ?_, ?_⟩
  ·obtain ⟨k0, k1⟩ := (B1.ext hu).c2
   have lk := (B1.ext hu).lt
   obtain ⟨p0, p1, p2, p3, p4, p5, p6, p7⟩ := (B4.ext hu).c8
   have lp := (B4.ext hu).lt
   repeat (first | go_big_quiet_skip | (go_big_quiet_want; go_big_quiet_op; go_big_quiet_on))
   refine wpQuiet_nil ?_
   rfl
  refine Zu 3 8 rfl rfl (by kernel_rfl) ?_ ?_
  ·simp only [Qc, Qd, Qe]
   go_wp2_with (go_at_call 39; (with_reducible refine Calls.mono (Y5 _ _ _ _) ?_); rintro e wa ⟨rfl, hx⟩)
   replace HC := HC.trans hx
   try replace H5 := H5.ext hx
   clear hx
   refine Qi HC ?_
   refine Zu 4 8 rfl rfl (by kernel_rfl) ?_ ?_
   ·simp only [Qc, Qd, Qe]
    go_wp2_with (go_at_call 40; (with_reducible refine Calls.mono (Fm (C.ext HC) (PR.ext HC) (Z.ext HC)) ?_); rintro e wa ⟨rfl, hx⟩)
    replace HC := HC.trans hx
    try replace H5 := H5.ext hx
    clear hx
    refine Qi HC ?_
    refine Qp (g := 5) [5] [_] ⟨rfl, trivial⟩ (by kernel_rfl) (by kernel_rfl) HC ?_
    simp only [Qc, Qd, Qe]
    apply Exists.intro
    refine ⟨fun u hu => ?_, ?_⟩
    ·obtain ⟨k0, k1⟩ := (B1.ext hu).c2
     have lk := (B1.ext hu).lt
     obtain ⟨p0, p1, p2, p3, p4, p5, p6, p7⟩ := (B4.ext hu).c8
     have lp := (B4.ext hu).lt
     repeat (first | go_big_quiet_skip | (go_big_quiet_want; go_big_quiet_op; go_big_quiet_on))
     refine wpQuiet_nil ?_
     rfl
    refine Jy (g := 3) [6, 7] [_, _] ⟨rfl, rfl, trivial⟩ (by kernel_rfl) (by kernel_rfl) ?_
    simp only [Qc, Qd, Qe]
    apply Exists.intro
    refine ⟨fun u hu => ?_, ?_⟩
    ·repeat (first | go_big_quiet_skip | (go_big_quiet_want; go_big_quiet_op; go_big_quiet_on))
     refine wpQuiet_nil ?_
     rfl
    refine Qj 8 rfl (by kernel_rfl) ?_
    simp only [Qc, Qd, Qe]
    go_wp2
    obtain ⟨b9, wb, hbq, hwb, H5, HC', hx, g5⟩ := Q4 HC 73 #[.int .i64 0, .int .i64 0]
    rw [← hbq, ← hwb]
    replace HC := HC'
    clear hbq hwb hx HC'
    refine Qi HC ?_
    refine Qn 9 rfl (by kernel_rfl) ?_
    simp only [Qc, Qd, Qe]
    have z0 := H5.frozen 0
    have z1 := H5.frozen 1
    obtain ⟨x0, x1⟩ := H5.c2
    have lx := H5.lt
    go_wp2
    have H6 := Ql H5 (.int .i64 336) (.int .i64 5)
    replace HC := (HC.setCell (p := ⟨b9, 0, none⟩) g5 (.int .i64 336)).setCell (p := ⟨b9, 1, none⟩) g5 (.int .i64 5)
    clear z0 x0 z1 x1 lx H5
    generalize World.setCell _ _ _ = wq at *
    refine Qo ?_
    refine Qn 10 rfl (by kernel_rfl) ?_
    simp only [Qc, Qd, Qe]
    go_wp2
    refine Qo ?_
    refine Qs (by kernel_rfl) ?_
    exact Ya b9 ⟨HC, H6⟩ rfl
   ·simp only [Qc, Qd, Qe]
    go_wp2
    obtain ⟨b9, wb, hbq, hwb, H5, HC', hx, g5⟩ := Q4 HC 73 #[.int .i64 0, .int .i64 0]
    rw [← hbq, ← hwb]
    replace HC := HC'
    clear hbq hwb hx HC'
    refine Qi HC ?_
    refine Qj 4 rfl (by kernel_rfl) ?_
    simp only [Qc, Qd, Qe]
    go_wp2_with (go_at_call 40; (with_reducible refine Calls.mono (Fm (C.ext HC) (PR.ext HC) (Z.ext HC)) ?_); rintro e wa ⟨rfl, hx⟩)
    replace HC := HC.trans hx
    try replace H5 := H5.ext hx
    clear hx
    refine Qi HC ?_
    refine Qp (g := 4) [5] [_] ⟨rfl, trivial⟩ (by kernel_rfl) (by kernel_rfl) HC ?_
    simp only [Qc, Qd, Qe]
    apply Exists.intro
    refine ⟨fun u hu => ?_, ?_⟩
    ·obtain ⟨k0, k1⟩ := (B1.ext hu).c2
     have lk := (B1.ext hu).lt
     obtain ⟨p0, p1, p2, p3, p4, p5, p6, p7⟩ := (B4.ext hu).c8
     have lp := (B4.ext hu).lt
     repeat (first | go_big_quiet_skip | (go_big_quiet_want; go_big_quiet_op; go_big_quiet_on))
     refine wpQuiet_nil ?_
     rfl
    refine Jy (g := 2) [6, 7] [_, _] ⟨rfl, rfl, trivial⟩ (by kernel_rfl) (by kernel_rfl) ?_
    simp only [Qc, Qd, Qe]
    apply Exists.intro
    refine ⟨fun u hu => ?_, ?_⟩
    ·repeat (first | go_big_quiet_skip | (go_big_quiet_want; go_big_quiet_op; go_big_quiet_on))
     refine wpQuiet_nil ?_
     rfl
    refine Qn 9 rfl (by kernel_rfl) ?_
    simp only [Qc, Qd, Qe]
    have z0 := H5.frozen 0
    have z1 := H5.frozen 1
    obtain ⟨x0, x1⟩ := H5.c2
    have lx := H5.lt
    go_wp2
    have H6 := Ql H5 (.int .i64 336) (.int .i64 5)
    replace HC := (HC.setCell (p := ⟨b9, 0, none⟩) g5 (.int .i64 336)).setCell (p := ⟨b9, 1, none⟩) g5 (.int .i64 5)
    clear z0 x0 z1 x1 lx H5
    generalize World.setCell _ _ _ = wq at *
    refine Qo ?_
    refine Qn 10 rfl (by kernel_rfl) ?_
    simp only [Qc, Qd, Qe]
    go_wp2
    refine Qo ?_
    refine Qs (by kernel_rfl) ?_
    exact Ya b9 ⟨HC, H6⟩ rfl
  ·simp only [Qc, Qd, Qe]
   go_wp2
   obtain ⟨b9, wb, hbq, hwb, H5, HC', hx, g5⟩ := Q4 HC 73 #[.int .i64 0, .int .i64 0]
   rw [← hbq, ← hwb]
   replace HC := HC'
   clear hbq hwb hx HC'
   refine Qi HC ?_
   refine Qj 3 rfl (by kernel_rfl) ?_
   simp only [Qc, Qd, Qe]
   go_wp2_with (go_at_call 39; (with_reducible refine Calls.mono (Y5 _ _ _ _) ?_); rintro e wa ⟨rfl, hx⟩)
   replace HC := HC.trans hx
   try replace H5 := H5.ext hx
   clear hx
   refine Qi HC ?_
   refine Qj 4 rfl (by kernel_rfl) ?_
   simp only [Qc, Qd, Qe]
   go_wp2_with (go_at_call 40; (with_reducible refine Calls.mono (Fm (C.ext HC) (PR.ext HC) (Z.ext HC)) ?_); rintro e wa ⟨rfl, hx⟩)
   replace HC := HC.trans hx
   try replace H5 := H5.ext hx
   clear hx
   refine Qi HC ?_
   refine Qp (g := 4) [5] [_] ⟨rfl, trivial⟩ (by kernel_rfl) (by kernel_rfl) HC ?_
   simp only [Qc, Qd, Qe]
   apply Exists.intro
   refine ⟨fun u hu => ?_, ?_⟩
   ·obtain ⟨k0, k1⟩ := (B1.ext hu).c2
    have lk := (B1.ext hu).lt
    obtain ⟨p0, p1, p2, p3, p4, p5, p6, p7⟩ := (B4.ext hu).c8
    have lp := (B4.ext hu).lt
    repeat (first | go_big_quiet_skip | (go_big_quiet_want; go_big_quiet_op; go_big_quiet_on))
    refine wpQuiet_nil ?_
    rfl
   refine Jy (g := 2) [6, 7] [_, _] ⟨rfl, rfl, trivial⟩ (by kernel_rfl) (by kernel_rfl) ?_
   simp only [Qc, Qd, Qe]
   apply Exists.intro
   refine ⟨fun u hu => ?_, ?_⟩
   ·repeat (first | go_big_quiet_skip | (go_big_quiet_want; go_big_quiet_op; go_big_quiet_on))
    refine wpQuiet_nil ?_
    rfl
   refine Qn 9 rfl (by kernel_rfl) ?_
   simp only [Qc, Qd, Qe]
   have z0 := H5.frozen 0
   have z1 := H5.frozen 1
   obtain ⟨x0, x1⟩ := H5.c2
   have lx := H5.lt
   go_wp2
   have H6 := Ql H5 (.int .i64 336) (.int .i64 5)
   replace HC := (HC.setCell (p := ⟨b9, 0, none⟩) g5 (.int .i64 336)).setCell (p := ⟨b9, 1, none⟩) g5 (.int .i64 5)
   clear z0 x0 z1 x1 lx H5
   generalize World.setCell _ _ _ = wq at *
   refine Qo ?_
   refine Qn 10 rfl (by kernel_rfl) ?_
   simp only [Qc, Qd, Qe]
   go_wp2
   refine Qo ?_
   refine Qs (by kernel_rfl) ?_
   exact Ya b9 ⟨HC, H6⟩ rfl
 rintro b6 v6 ⟨h2, B6⟩
 replace E := E.trans h2
 replace C := C.ext h2
 replace Z := Z.ext h2
 replace B1 := B1.ext h2
 replace B2 := B2.ext h2
 replace PR := PR.ext h2
 replace B4 := B4.ext h2
 replace B5 := B5.ext h2
 clear h2
 clear PR B4
 go_upto_region 7 with (fail)
 obtain ⟨k0, k1⟩ := B2.c2
 have lk := B2.lt
 obtain ⟨x0, x1, x2, x3, x4, x5⟩ := B5.c6
 have lx := B5.lt
 obtain ⟨y0, y1⟩ := B6.c2
 have ly := B6.lt
 refine Q8 v6 Qm (by kernel_rfl) (by repeat (first | exact Qa.refl _ | (refine Qa.alloc ?_ _) | (refine Qa.trans ?_ (by assumption)))) ?_
 intro hne hrx hry
 try simp only []
 try simp only [List.append_eq, List.cons_append, List.nil_append]
 skip
 repeat (first
  | go_big_quiet_skip
  | (go_big_quiet_want; go_big_quiet_op; go_big_quiet_on)
  | (go_big_quiet_want; go_big_quiet_op; apply Exists.intro; refine ⟨fun u => ?_, ?_⟩
     ·first
       | (go_at_call 35; (with_reducible refine Calls.mono (Wb _ _ _) ?_); rintro e w' ⟨rfl, hb⟩; exact ⟨rfl, u.back hb⟩)
     go_big_quiet_on))
 clear hne hry hrx
 refine wpQuiet_nil ?_
 intro v7 h2
 obtain ⟨hcv7, hfv7, hzv7⟩ := Qa.rules h2
 try simp only [World.size_alloc] at hzv7
 obtain ⟨hcbv7, hfbv7, hzbv7⟩ := Qa.rules (show Qa v6 v7 from (by repeat (first | exact Qa.refl _ | (refine Qa.alloc ?_ _) | (refine Qa.trans ?_ (by assumption)))))
 clear hcv7 hfv7
 replace E := E.trans h2
 replace C := C.ext h2
 replace Z := Z.ext h2
 replace B1 := B1.ext h2
 replace B2 := B2.ext h2
 replace B5 := B5.ext h2
 replace B6 := B6.ext h2
 clear h2
 clear k0 k1 lk x0 x1 x2 x3 x4 x5 lx y0 y1 ly B2 B5 B6
 go_upto_region 10 with (go_at_call 35; (with_reducible refine Calls.mono (Wb _ _ _) ?_); rintro e wa ⟨rfl, hx⟩; replace E := E.trans hx; replace C := C.ext hx; replace Z := Z.ext hx; replace B1 := B1.ext hx; clear hx)
 obtain ⟨v9, hv⟩ := Qg (wa.alloc (.cells #[.int .i64 10, .int .i64 1, .int .i64 1, .int .i64 3, .int .i64 5, .int .i64 1, .int .i64 1, .int .i64 1] 91))
 rw [← hv]
 have h2 : Qa wa v9 := by rw [hv]; exact (Qa.refl _).alloc _
 have B7 : Qb v9 wa.heap.size 91 #[.int .i64 10, .int .i64 1, .int .i64 1, .int .i64 3, .int .i64 5, .int .i64 1, .int .i64 1, .int .i64 1] := by rw [hv]; exact Qb.new _ _ _
 clear hv
 generalize wa.heap.size = b7 at *
 have PT := Ao B7
 clear B7
 replace E := E.trans h2
 replace C := C.ext h2
 replace Z := Z.ext h2
 replace B1 := B1.ext h2
 clear h2
 go_upto_region 10 with (fail)
 apply W9 (S := fun w' r _ => Qa v9 w' ∧ Qb w' r 73 #[.int .i64 (-5), .int .i64 1])
 ·refine Q3 14 [9, 10, 12, 13] (fun x => Qa v9 x) Qm rfl ?_
  intro vz hvz
  have HC := hvz
  refine Qp (g := 12) [0, 1] [_, _] ⟨rfl, rfl, trivial⟩ (by kernel_rfl) (by kernel_rfl) HC ?_
  simp only [Qc, Qd, Qe]
  apply Exists.intro
  refine ⟨fun u hu => ?_, ?_⟩
  ·obtain ⟨k0, k1⟩ := (B1.ext hu).c2
   have lk := (B1.ext hu).lt
   repeat (first | go_big_quiet_skip | (go_big_quiet_want; go_big_quiet_op; go_big_quiet_on))
   refine wpQuiet_nil ?_
   rfl
  refine Zu 2 11 rfl rfl (by kernel_rfl) ?_ ?_
  ·simp only [Qc, Qd, Qe]
   go_wp2_with (go_at_call 35; (with_reducible refine Calls.mono (Wb _ _ _) ?_); rintro e wa ⟨rfl, hx⟩)
   replace HC := HC.trans hx
   try replace H5 := H5.ext hx
   clear hx
   refine Qi HC ?_
   refine Zu 3 11 rfl rfl (by kernel_rfl) ?_ ?_
   ·simp only [Qc, Qd, Qe]
    go_wp2_with (go_at_call 39; (with_reducible refine Calls.mono (Y5 _ _ _ _) ?_); rintro e wa ⟨rfl, hx⟩)
    replace HC := HC.trans hx
    try replace H5 := H5.ext hx
    clear hx
    refine Qi HC ?_
    refine Zu 4 11 rfl rfl (by kernel_rfl) ?_ ?_
    ·simp only [Qc, Qd, Qe]
     go_wp2_with (go_at_call 39; (with_reducible refine Calls.mono (Y5 _ _ _ _) ?_); rintro e wa ⟨rfl, hx⟩)
     replace HC := HC.trans hx
     try replace H5 := H5.ext hx
     clear hx
     refine Qi HC ?_
     refine Qp (g := 8) [5] [_] ⟨rfl, trivial⟩ (by kernel_rfl) (by kernel_rfl) HC ?_
     simp only [Qc, Qd, Qe]
     apply Exists.intro
     refine ⟨fun u hu => ?_, ?_⟩
     ·obtain ⟨k0, k1⟩ := (B1.ext hu).c2
      have lk := (B1.ext hu).lt
      repeat (first | go_big_quiet_skip | (go_big_quiet_want; go_big_quiet_op; go_big_quiet_on))
      refine wpQuiet_nil ?_
      rfl
     refine Zu 6 11 rfl rfl (by kernel_rfl) ?_ ?_
     ·simp only [Qc, Qd, Qe]
      go_wp2
      obtain ⟨bc, wb, hbq, hwb, HCW, HC', hx, _⟩ := Q4 HC 95 #[.int .i64 2, .int .i64 1, .int .i64 2, .int .i64 0, .int .i64 1, .bool false, .int .i64 1, .int .i64 0, .int .i64 1, .bool false, .int .i64 30]
      rw [← hbq, ← hwb]
      replace HC := HC'
      try replace H5 := H5.ext hx
      clear hbq hwb hx HC'
      refine Qi HC ?_
      refine Zu 7 11 rfl rfl (by kernel_rfl) ?_ ?_
      ·simp only [Qc, Qd, Qe]
       go_wp2_with (go_at_call 41; (with_reducible refine Calls.mono (Vt (C.ext HC) (PT.ext HC) (Vs HCW) (Z.ext HC)) ?_); rintro e wa ⟨rfl, hx⟩)
       replace HC := HC.trans hx
       try replace H5 := H5.ext hx
       clear hx
       refine Qi HC ?_
       refine Qp (g := 5) [8] [_] ⟨rfl, trivial⟩ (by kernel_rfl) (by kernel_rfl) HC ?_
       simp only [Qc, Qd, Qe]
       apply Exists.intro
       refine ⟨fun u hu => ?_, ?_⟩
       ·obtain ⟨k0, k1⟩ := (B1.ext hu).c2
        have lk := (B1.ext hu).lt
        repeat (first | go_big_quiet_skip | (go_big_quiet_want; go_big_quiet_op; go_big_quiet_on))
        refine wpQuiet_nil ?_
        rfl
       refine Jy (g := 3) [9, 10] [_, _] ⟨rfl, rfl, trivial⟩ (by kernel_rfl) (by kernel_rfl) ?_
       simp only [Qc, Qd, Qe]
       apply Exists.intro
       refine ⟨fun u hu => ?_, ?_⟩
       ·repeat (first | go_big_quiet_skip | (go_big_quiet_want; go_big_quiet_op; go_big_quiet_on))
        refine wpQuiet_nil ?_
        rfl
       refine Qj 11 rfl (by kernel_rfl) ?_
       simp only [Qc, Qd, Qe]
       go_wp2
       obtain ⟨b9, wb, hbq, hwb, H5, HC', hx, g5⟩ := Q4 HC 73 #[.int .i64 0, .int .i64 0]
       rw [← hbq, ← hwb]
       replace HC := HC'
       try replace HCW := HCW.ext hx
       clear hbq hwb hx HC'
       refine Qi HC ?_
       refine Qn 12 rfl (by kernel_rfl) ?_
       simp only [Qc, Qd, Qe]
       have z0 := H5.frozen 0
       have z1 := H5.frozen 1
       obtain ⟨x0, x1⟩ := H5.c2
       have lx := H5.lt
       go_wp2
       have H6 := Ql H5 (.int .i64 (-5)) (.int .i64 1)
       replace HC := (HC.setCell (p := ⟨b9, 0, none⟩) g5 (.int .i64 (-5))).setCell (p := ⟨b9, 1, none⟩) g5 (.int .i64 1)
       clear z0 x0 z1 x1 lx H5
       generalize World.setCell _ _ _ = wq at *
       refine Qo ?_
       refine Qn 13 rfl (by kernel_rfl) ?_
       simp only [Qc, Qd, Qe]
       go_wp2
       refine Qo ?_
       refine Qs (by kernel_rfl) ?_
       exact Jf b9 bc ⟨HC, H6⟩ rfl
      ·simp only [Qc, Qd, Qe]
       go_wp2
       obtain ⟨b9, wb, hbq, hwb, H5, HC', hx, g5⟩ := Q4 HC 73 #[.int .i64 0, .int .i64 0]
       rw [← hbq, ← hwb]
       replace HC := HC'
       try replace HCW := HCW.ext hx
       clear hbq hwb hx HC'
       refine Qi HC ?_
       refine Qj 7 rfl (by kernel_rfl) ?_
       simp only [Qc, Qd, Qe]
       go_wp2_with (go_at_call 41; (with_reducible refine Calls.mono (Vt (C.ext HC) (PT.ext HC) (Vs HCW) (Z.ext HC)) ?_); rintro e wa ⟨rfl, hx⟩)
       replace HC := HC.trans hx
       try replace H5 := H5.ext hx
       clear hx
       refine Qi HC ?_
       refine Qp (g := 4) [8] [_] ⟨rfl, trivial⟩ (by kernel_rfl) (by kernel_rfl) HC ?_
       simp only [Qc, Qd, Qe]
       apply Exists.intro
       refine ⟨fun u hu => ?_, ?_⟩
       ·obtain ⟨k0, k1⟩ := (B1.ext hu).c2
        have lk := (B1.ext hu).lt
        repeat (first | go_big_quiet_skip | (go_big_quiet_want; go_big_quiet_op; go_big_quiet_on))
        refine wpQuiet_nil ?_
        rfl
       refine Jy (g := 2) [9, 10] [_, _] ⟨rfl, rfl, trivial⟩ (by kernel_rfl) (by kernel_rfl) ?_
       simp only [Qc, Qd, Qe]
       apply Exists.intro
       refine ⟨fun u hu => ?_, ?_⟩
       ·repeat (first | go_big_quiet_skip | (go_big_quiet_want; go_big_quiet_op; go_big_quiet_on))
        refine wpQuiet_nil ?_
        rfl
       refine Qn 12 rfl (by kernel_rfl) ?_
       simp only [Qc, Qd, Qe]
       have z0 := H5.frozen 0
       have z1 := H5.frozen 1
       obtain ⟨x0, x1⟩ := H5.c2
       have lx := H5.lt
       go_wp2
       have H6 := Ql H5 (.int .i64 (-5)) (.int .i64 1)
       replace HC := (HC.setCell (p := ⟨b9, 0, none⟩) g5 (.int .i64 (-5))).setCell (p := ⟨b9, 1, none⟩) g5 (.int .i64 1)
       clear z0 x0 z1 x1 lx H5
       generalize World.setCell _ _ _ = wq at *
       refine Qo ?_
       refine Qn 13 rfl (by kernel_rfl) ?_
       simp only [Qc, Qd, Qe]
       go_wp2
       refine Qo ?_
       refine Qs (by kernel_rfl) ?_
       exact Jf b9 bc ⟨HC, H6⟩ rfl
     ·simp only [Qc, Qd, Qe]
      go_wp2
      obtain ⟨b9, wb, hbq, hwb, H5, HC', hx, g5⟩ := Q4 HC 73 #[.int .i64 0, .int .i64 0]
      rw [← hbq, ← hwb]
      replace HC := HC'
      try replace HCW := HCW.ext hx
      clear hbq hwb hx HC'
      refine Qi HC ?_
      refine Qj 6 rfl (by kernel_rfl) ?_
      simp only [Qc, Qd, Qe]
      go_wp2
      obtain ⟨bc, wb, hbq, hwb, HCW, HC', hx, _⟩ := Q4 HC 95 #[.int .i64 2, .int .i64 1, .int .i64 2, .int .i64 0, .int .i64 1, .bool false, .int .i64 1, .int .i64 0, .int .i64 1, .bool false, .int .i64 30]
      rw [← hbq, ← hwb]
      replace HC := HC'
      try replace H5 := H5.ext hx
      clear hbq hwb hx HC'
      refine Qi HC ?_
      refine Qj 7 rfl (by kernel_rfl) ?_
      simp only [Qc, Qd, Qe]
      go_wp2_with (go_at_call 41; (with_reducible refine Calls.mono (Vt (C.ext HC) (PT.ext HC) (Vs HCW) (Z.ext HC)) ?_); rintro e wa ⟨rfl, hx⟩)
      replace HC := HC.trans hx
      try replace H5 := H5.ext hx
      clear hx
      refine Qi HC ?_
      refine Qp (g := 4) [8] [_] ⟨rfl, trivial⟩ (by kernel_rfl) (by kernel_rfl) HC ?_
      simp only [Qc, Qd, Qe]
      apply Exists.intro
      refine ⟨fun u hu => ?_, ?_⟩
      ·obtain ⟨k0, k1⟩ := (B1.ext hu).c2
       have lk := (B1.ext hu).lt
       repeat (first | go_big_quiet_skip | (go_big_quiet_want; go_big_quiet_op; go_big_quiet_on))
       refine wpQuiet_nil ?_
       rfl
      refine Jy (g := 2) [9, 10] [_, _] ⟨rfl, rfl, trivial⟩ (by kernel_rfl) (by kernel_rfl) ?_
      simp only [Qc, Qd, Qe]
      apply Exists.intro
      refine ⟨fun u hu => ?_, ?_⟩
      ·repeat (first | go_big_quiet_skip | (go_big_quiet_want; go_big_quiet_op; go_big_quiet_on))
       refine wpQuiet_nil ?_
       rfl
      refine Qn 12 rfl (by kernel_rfl) ?_
      simp only [Qc, Qd, Qe]
      have z0 := H5.frozen 0
      have z1 := H5.frozen 1
      obtain ⟨x0, x1⟩ := H5.c2
      have lx := H5.lt
      go_wp2
      have H6 := Ql H5 (.int .i64 (-5)) (.int .i64 1)
      replace HC := (HC.setCell (p := ⟨b9, 0, none⟩) g5 (.int .i64 (-5))).setCell (p := ⟨b9, 1, none⟩) g5 (.int .i64 1)
      clear z0 x0 z1 x1 lx H5
      generalize World.setCell _ _ _ = wq at *
      refine Qo ?_
      refine Qn 13 rfl (by kernel_rfl) ?_
      simp only [Qc, Qd, Qe]
      go_wp2
      refine Qo ?_
      refine Qs (by kernel_rfl) ?_
      exact Jf b9 bc ⟨HC, H6⟩ rfl
    ·simp only [Qc, Qd, Qe]
     go_wp2
     obtain ⟨b9, wb, hbq, hwb, H5, HC', hx, g5⟩ := Q4 HC 73 #[.int .i64 0, .int .i64 0]
     rw [← hbq, ← hwb]
     replace HC := HC'
     try replace HCW := HCW.ext hx
     clear hbq hwb hx HC'
     refine Qi HC ?_
     refine Qj 4 rfl (by kernel_rfl) ?_
     simp only [Qc, Qd, Qe]
     go_wp2_with (go_at_call 39; (with_reducible refine Calls.mono (Y5 _ _ _ _) ?_); rintro e wa ⟨rfl, hx⟩)
     replace HC := HC.trans hx
     try replace H5 := H5.ext hx
     clear hx
     refine Qi HC ?_
     refine Qp (g := 7) [5] [_] ⟨rfl, trivial⟩ (by kernel_rfl) (by kernel_rfl) HC ?_
     simp only [Qc, Qd, Qe]
     apply Exists.intro
     refine ⟨fun u hu => ?_, ?_⟩
     ·obtain ⟨k0, k1⟩ := (B1.ext hu).c2
      have lk := (B1.ext hu).lt
      repeat (first | go_big_quiet_skip | (go_big_quiet_want; go_big_quiet_op; go_big_quiet_on))
      refine wpQuiet_nil ?_
      rfl
     refine Qj 6 rfl (by kernel_rfl) ?_
     simp only [Qc, Qd, Qe]
     go_wp2
     obtain ⟨bc, wb, hbq, hwb, HCW, HC', hx, _⟩ := Q4 HC 95 #[.int .i64 2, .int .i64 1, .int .i64 2, .int .i64 0, .int .i64 1, .bool false, .int .i64 1, .int .i64 0, .int .i64 1, .bool false, .int .i64 30]
     rw [← hbq, ← hwb]
     replace HC := HC'
     try replace H5 := H5.ext hx
     clear hbq hwb hx HC'
     refine Qi HC ?_
     refine Qj 7 rfl (by kernel_rfl) ?_
     simp only [Qc, Qd, Qe]
     go_wp2_with (go_at_call 41; (with_reducible refine Calls.mono (Vt (C.ext HC) (PT.ext HC) (Vs HCW) (Z.ext HC)) ?_); rintro e wa ⟨rfl, hx⟩)
     replace HC := HC.trans hx
     try replace H5 := H5.ext hx
     clear hx
     refine Qi HC ?_
     refine Qp (g := 4) [8] [_] ⟨rfl, trivial⟩ (by kernel_rfl) (by kernel_rfl) HC ?_
     simp only [Qc, Qd, Qe]
     apply Exists.intro
     refine ⟨fun u hu => ?_, ?_⟩
     ·obtain ⟨k0, k1⟩ := (B1.ext hu).c2
      have lk := (B1.ext hu).lt
      repeat (first | go_big_quiet_skip | (go_big_quiet_want; go_big_quiet_op; go_big_quiet_on))
      refine wpQuiet_nil ?_
      rfl
     refine Jy (g := 2) [9, 10] [_, _] ⟨rfl, rfl, trivial⟩ (by kernel_rfl) (by kernel_rfl) ?_
     simp only [Qc, Qd, Qe]
     apply Exists.intro
     refine ⟨fun u hu => ?_, ?_⟩
     ·repeat (first | go_big_quiet_skip | (go_big_quiet_want; go_big_quiet_op; go_big_quiet_on))
      refine wpQuiet_nil ?_
      rfl
     refine Qn 12 rfl (by kernel_rfl) ?_
     simp only [Qc, Qd, Qe]
     have z0 := H5.frozen 0
     have z1 := H5.frozen 1
     obtain ⟨x0, x1⟩ := H5.c2
     have lx := H5.lt
     go_wp2
     have H6 := Ql H5 (.int .i64 (-5)) (.int .i64 1)
     replace HC := (HC.setCell (p := ⟨b9, 0, none⟩) g5 (.int .i64 (-5))).setCell (p := ⟨b9, 1, none⟩) g5 (.int .i64 1)
     clear z0 x0 z1 x1 lx H5
     generalize World.setCell _ _ _ = wq at *
     refine Qo ?_
     refine Qn 13 rfl (by kernel_rfl) ?_
     simp only [Qc, Qd, Qe]
     go_wp2
     refine Qo ?_
     refine Qs (by kernel_rfl) ?_
     exact Jf b9 bc ⟨HC, H6⟩ rfl
   ·simp only [Qc, Qd, Qe]
    go_wp2
    obtain ⟨b9, wb, hbq, hwb, H5, HC', hx, g5⟩ := Q4 HC 73 #[.int .i64 0, .int .i64 0]
    rw [← hbq, ← hwb]
    replace HC := HC'
    try replace HCW := HCW.ext hx
    clear hbq hwb hx HC'
    refine Qi HC ?_
    refine Qj 3 rfl (by kernel_rfl) ?_
    simp only [Qc, Qd, Qe]
    go_wp2_with (go_at_call 39; (with_reducible refine Calls.mono (Y5 _ _ _ _) ?_); rintro e wa ⟨rfl, hx⟩)
    replace HC := HC.trans hx
    try replace H5 := H5.ext hx
    clear hx
    refine Qi HC ?_
    refine Qj 4 rfl (by kernel_rfl) ?_
    simp only [Qc, Qd, Qe]
    go_wp2_with (go_at_call 39; (with_reducible refine Calls.mono (Y5 _ _ _ _) ?_); rintro e wa ⟨rfl, hx⟩)
    replace HC := HC.trans hx
    try replace H5 := H5.ext hx
    clear hx
    refine Qi HC ?_
    refine Qp (g := 7) [5] [_] ⟨rfl, trivial⟩ (by kernel_rfl) (by kernel_rfl) HC ?_
    simp only [Qc, Qd, Qe]
    apply Exists.intro
    refine ⟨fun u hu => ?_, ?_⟩
    ·obtain ⟨k0, k1⟩ := (B1.ext hu).c2
     have lk := (B1.ext hu).lt
     repeat (first | go_big_quiet_skip | (go_big_quiet_want; go_big_quiet_op; go_big_quiet_on))
     refine wpQuiet_nil ?_
     rfl
    refine Qj 6 rfl (by kernel_rfl) ?_
    simp only [Qc, Qd, Qe]
    go_wp2
    obtain ⟨bc, wb, hbq, hwb, HCW, HC', hx, _⟩ := Q4 HC 95 #[.int .i64 2, .int .i64 1, .int .i64 2, .int .i64 0, .int .i64 1, .bool false, .int .i64 1, .int .i64 0, .int .i64 1, .bool false, .int .i64 30]
    rw [← hbq, ← hwb]
    replace HC := HC'
    try replace H5 := H5.ext hx
    clear hbq hwb hx HC'
    refine Qi HC ?_
    refine Qj 7 rfl (by kernel_rfl) ?_
    simp only [Qc, Qd, Qe]
    go_wp2_with (go_at_call 41; (with_reducible refine Calls.mono (Vt (C.ext HC) (PT.ext HC) (Vs HCW) (Z.ext HC)) ?_); rintro e wa ⟨rfl, hx⟩)
    replace HC := HC.trans hx
    try replace H5 := H5.ext hx
    clear hx
    refine Qi HC ?_
    refine Qp (g := 4) [8] [_] ⟨rfl, trivial⟩ (by kernel_rfl) (by kernel_rfl) HC ?_
    simp only [Qc, Qd, Qe]
    apply Exists.intro
    refine ⟨fun u hu => ?_, ?_⟩
    ·obtain ⟨k0, k1⟩ := (B1.ext hu).c2
     have lk := (B1.ext hu).lt
     repeat (first | go_big_quiet_skip | (go_big_quiet_want; go_big_quiet_op; go_big_quiet_on))
     refine wpQuiet_nil ?_
     rfl
    refine Jy (g := 2) [9, 10] [_, _] ⟨rfl, rfl, trivial⟩ (by kernel_rfl) (by kernel_rfl) ?_
    simp only [Qc, Qd, Qe]
    apply Exists.intro
    refine ⟨fun u hu => ?_, ?_⟩
    ·repeat (first | go_big_quiet_skip | (go_big_quiet_want; go_big_quiet_op; go_big_quiet_on))
     refine wpQuiet_nil ?_
     rfl
    refine Qn 12 rfl (by kernel_rfl) ?_
    simp only [Qc, Qd, Qe]
    have z0 := H5.frozen 0
    have z1 := H5.frozen 1
    obtain ⟨x0, x1⟩ := H5.c2
    have lx := H5.lt
    go_wp2
    have H6 := Ql H5 (.int .i64 (-5)) (.int .i64 1)
    replace HC := (HC.setCell (p := ⟨b9, 0, none⟩) g5 (.int .i64 (-5))).setCell (p := ⟨b9, 1, none⟩) g5 (.int .i64 1)
    clear z0 x0 z1 x1 lx H5
    generalize World.setCell _ _ _ = wq at *
    refine Qo ?_
    refine Qn 13 rfl (by kernel_rfl) ?_
    simp only [Qc, Qd, Qe]
    go_wp2
    refine Qo ?_
    refine Qs (by kernel_rfl) ?_
    exact Jf b9 bc ⟨HC, H6⟩ rfl
  ·simp only [Qc, Qd, Qe]
   go_wp2
   obtain ⟨b9, wb, hbq, hwb, H5, HC', hx, g5⟩ := Q4 HC 73 #[.int .i64 0, .int .i64 0]
   rw [← hbq, ← hwb]
   replace HC := HC'
   try replace HCW := HCW.ext hx
   clear hbq hwb hx HC'
   refine Qi HC ?_
   refine Qj 2 rfl (by kernel_rfl) ?_
   simp only [Qc, Qd, Qe]
   go_wp2_with (go_at_call 35; (with_reducible refine Calls.mono (Wb _ _ _) ?_); rintro e wa ⟨rfl, hx⟩)
   replace HC := HC.trans hx
   try replace H5 := H5.ext hx
   clear hx
   refine Qi HC ?_
   refine Qj 3 rfl (by kernel_rfl) ?_
   simp only [Qc, Qd, Qe]
   go_wp2_with (go_at_call 39; (with_reducible refine Calls.mono (Y5 _ _ _ _) ?_); rintro e wa ⟨rfl, hx⟩)
   replace HC := HC.trans hx
   try replace H5 := H5.ext hx
   clear hx
   refine Qi HC ?_
   refine Qj 4 rfl (by kernel_rfl) ?_
   simp only [Qc, Qd, Qe]
   go_wp2_with (go_at_call 39; (with_reducible refine Calls.mono (Y5 _ _ _ _) ?_); rintro e wa ⟨rfl, hx⟩)
   replace HC := HC.trans hx
   try replace H5 := H5.ext hx
   clear hx
   refine Qi HC ?_
   refine Qp (g := 7) [5] [_] ⟨rfl, trivial⟩ (by kernel_rfl) (by kernel_rfl) HC ?_
   simp only [Qc, Qd, Qe]
   apply Exists.intro
   refine ⟨fun u hu => ?_, ?_⟩
   ·obtain ⟨k0, k1⟩ := (B1.ext hu).c2
    have lk := (B1.ext hu).lt
    repeat (first | go_big_quiet_skip | (go_big_quiet_want; go_big_quiet_op; go_big_quiet_on))
    refine wpQuiet_nil ?_
    rfl
   refine Qj 6 rfl (by kernel_rfl) ?_
   simp only [Qc, Qd, Qe]
   go_wp2
   obtain ⟨bc, wb, hbq, hwb, HCW, HC', hx, _⟩ := Q4 HC 95 #[.int .i64 2, .int .i64 1, .int .i64 2, .int .i64 0, .int .i64 1, .bool false, .int .i64 1, .int .i64 0, .int .i64 1, .bool false, .int .i64 30]
   rw [← hbq, ← hwb]
   replace HC := HC'
   try replace H5 := H5.ext hx
   clear hbq hwb hx HC'
   refine Qi HC ?_
   refine Qj 7 rfl (by kernel_rfl) ?_
   simp only [Qc, Qd, Qe]
   go_wp2_with (go_at_call 41; (with_reducible refine Calls.mono (Vt (C.ext HC) (PT.ext HC) (Vs HCW) (Z.ext HC)) ?_); rintro e wa ⟨rfl, hx⟩)
   replace HC := HC.trans hx
   try replace H5 := H5.ext hx
   clear hx
   refine Qi HC ?_
   refine Qp (g := 4) [8] [_] ⟨rfl, trivial⟩ (by kernel_rfl) (by kernel_rfl) HC ?_
   simp only [Qc, Qd, Qe]
   apply Exists.intro
   refine ⟨fun u hu => ?_, ?_⟩
   ·obtain ⟨k0, k1⟩ := (B1.ext hu).c2
    have lk := (B1.ext hu).lt
    repeat (first | go_big_quiet_skip | (go_big_quiet_want; go_big_quiet_op; go_big_quiet_on))
    refine wpQuiet_nil ?_
    rfl
   refine Jy (g := 2) [9, 10] [_, _] ⟨rfl, rfl, trivial⟩ (by kernel_rfl) (by kernel_rfl) ?_
   simp only [Qc, Qd, Qe]
   apply Exists.intro
   refine ⟨fun u hu => ?_, ?_⟩
   ·repeat (first | go_big_quiet_skip | (go_big_quiet_want; go_big_quiet_op; go_big_quiet_on))
    refine wpQuiet_nil ?_
    rfl
   refine Qn 12 rfl (by kernel_rfl) ?_
   simp only [Qc, Qd, Qe]
   have z0 := H5.frozen 0
   have z1 := H5.frozen 1
   obtain ⟨x0, x1⟩ := H5.c2
   have lx := H5.lt
   go_wp2
   have H6 := Ql H5 (.int .i64 (-5)) (.int .i64 1)
   replace HC := (HC.setCell (p := ⟨b9, 0, none⟩) g5 (.int .i64 (-5))).setCell (p := ⟨b9, 1, none⟩) g5 (.int .i64 1)
   clear z0 x0 z1 x1 lx H5
   generalize World.setCell _ _ _ = wq at *
   refine Qo ?_
   refine Qn 13 rfl (by kernel_rfl) ?_
   simp only [Qc, Qd, Qe]
   go_wp2
   refine Qo ?_
   refine Qs (by kernel_rfl) ?_
   exact Jf b9 bc ⟨HC, H6⟩ rfl
 rintro b10 bc v10 ⟨h2, B10⟩
 replace E := E.trans h2
 replace C := C.ext h2
 replace Z := Z.ext h2
 replace B1 := B1.ext h2
 replace PT := PT.ext h2
 clear h2
 go_upto_region 11 with (fail)
 obtain ⟨k0, k1⟩ := B1.c2
 have lk := B1.lt
 refine Q8 v10 Qm (by kernel_rfl) (by repeat (first | exact Qa.refl _ | (refine Qa.alloc ?_ _) | (refine Qa.trans ?_ (by assumption)))) ?_
 intro hne hrx hry
 try simp only []
 try simp only [List.append_eq, List.cons_append, List.nil_append]
 skip
 repeat (first
  | go_big_quiet_skip
  | (go_big_quiet_want; go_big_quiet_op; go_big_quiet_on)
  | (go_big_quiet_want; go_big_quiet_op; apply Exists.intro; refine ⟨fun u => ?_, ?_⟩
     ·first
       | (go_at_call 35; (with_reducible refine Calls.mono (Wb _ _ _) ?_); rintro e w' ⟨rfl, hb⟩; exact ⟨rfl, u.back hb⟩)
       | (go_at_call 39; (with_reducible refine Calls.mono (Y5 _ _ _ _) ?_); rintro e w' ⟨rfl, hb⟩; exact ⟨rfl, u.back hb⟩)
       | (go_at_call 42; (with_reducible refine Calls.mono (w8_few (C.ext u.e) (PT.ext u.e) (Z.ext u.e)) ?_); rintro e w' ⟨rfl, hb⟩; exact ⟨rfl, u.back hb⟩)
     go_big_quiet_on))
 clear hne hry hrx
 refine wpQuiet_nil ?_
 intro v11 h2
 obtain ⟨hcv11, hfv11, hzv11⟩ := Qa.rules h2
 try simp only [World.size_alloc] at hzv11
 obtain ⟨hcbv11, hfbv11, hzbv11⟩ := Qa.rules (show Qa v10 v11 from (by repeat (first | exact Qa.refl _ | (refine Qa.alloc ?_ _) | (refine Qa.trans ?_ (by assumption)))))
 clear hcv11 hfv11
 replace E := E.trans h2
 replace C := C.ext h2
 replace Z := Z.ext h2
 replace B1 := B1.ext h2
 replace PT := PT.ext h2
 replace B10 := B10.ext h2
 clear h2
 clear k0 k1 lk PT
 go_upto_region 13 with (first | (go_at_call 35; (with_reducible refine Calls.mono (Wb _ _ _) ?_); rintro e wa ⟨rfl, hx⟩; replace E := E.trans hx; replace C := C.ext hx; replace Z := Z.ext hx; replace B1 := B1.ext hx; replace B10 := B10.ext hx; clear hx) | (go_at_call 43; (with_reducible refine Calls.mono (Qah _) ?_); rintro e w12 ⟨rfl, hx⟩; replace E := E.trans hx; replace C := C.ext hx; replace Z := Z.ext hx; replace B1 := B1.ext hx; replace B10 := B10.ext hx; clear hx))
 obtain ⟨v12, hv⟩ := Qg (w12.alloc (.cells #[.int .i64 12, .int .i64 4, .int .i64 7] 99))
 rw [← hv]
 have h2 : Qa w12 v12 := by rw [hv]; exact (Qa.refl _).alloc _
 have B12 : Qb v12 w12.heap.size 99 #[.int .i64 12, .int .i64 4, .int .i64 7] := by rw [hv]; exact Qb.new _ _ _
 clear hv
 generalize w12.heap.size = b12 at *
 replace E := E.trans h2
 replace C := C.ext h2
 replace Z := Z.ext h2
 replace B1 := B1.ext h2
 replace B10 := B10.ext h2
 clear h2
 obtain ⟨x0, x1⟩ := B10.c2
 have lx := B10.lt
 obtain ⟨y0, y1, y2⟩ := B12.c3
 have ly := B12.lt
 refine Q8 v12 Qm (by kernel_rfl) (by repeat (first | exact Qa.refl _ | (refine Qa.alloc ?_ _) | (refine Qa.trans ?_ (by assumption)))) ?_
 intro hne hrx hry
 try simp only []
 try simp only [List.append_eq, List.cons_append, List.nil_append]
 skip
 repeat (first
  | go_big_quiet_skip
  | (go_big_quiet_want; go_big_quiet_op; go_big_quiet_on)
  | (go_big_quiet_want; go_big_quiet_op; apply Exists.intro; refine ⟨fun u => ?_, ?_⟩
     ·first
       | (go_at_call 35; (with_reducible refine Calls.mono (Wb _ _ _) ?_); rintro e w' ⟨rfl, hb⟩; exact ⟨rfl, u.back hb⟩)
     go_big_quiet_on))
 clear hne hry hrx
 refine wpQuiet_nil ?_
 intro v13 h2
 obtain ⟨hcv13, hfv13, hzv13⟩ := Qa.rules h2
 try simp only [World.size_alloc] at hzv13
 obtain ⟨hcbv13, hfbv13, hzbv13⟩ := Qa.rules (show Qa v12 v13 from (by repeat (first | exact Qa.refl _ | (refine Qa.alloc ?_ _) | (refine Qa.trans ?_ (by assumption)))))
 clear hcv13 hfv13
 clear x0 x1 lx y0 y1 y2 ly B10 B12
 replace E := E.trans h2
 replace C := C.ext h2
 replace Z := Z.ext h2
 replace B1 := B1.ext h2
 clear h2
 go_upto_region 15 with (fail)
 refine Q3 18 [14, 15, 16, 17] (fun x => Qa v13 x) Qm rfl ?_
 intro vz hvz
 have HC := hvz
 refine Qp (g := 17) [0] [_] ⟨rfl, trivial⟩ (by kernel_rfl) (by kernel_rfl) HC ?_
 simp only [List.getElem_toArray, List.getElem_cons_zero]
 apply Exists.intro
 refine ⟨fun u hu => ?_, ?_⟩
 ·obtain ⟨k0, k1⟩ := (B1.ext hu).c2
  have lk := (B1.ext hu).lt
  repeat (first | go_big_quiet_skip | (go_big_quiet_want; go_big_quiet_op; go_big_quiet_on))
  refine wpQuiet_nil ?_
  rfl
 refine Qj 1 rfl (by kernel_rfl) ?_
 simp only [Qc, Qd, Qe]
 go_wp2_with (go_at_call 39; (with_reducible refine Calls.mono (Y5 _ _ _ _) ?_); rintro e wa ⟨rfl, hx⟩)
 replace HC := HC.trans hx
 try replace LO := LO.ext hx
 try replace LX := LX.ext hx
 try replace LY := LY.ext hx
 clear hx
 refine Qi HC ?_
 refine Qj 2 rfl (by kernel_rfl) ?_
 simp only [Qc, Qd, Qe]
 go_wp2_with (go_at_call 39; (with_reducible refine Calls.mono (Y5 _ _ _ _) ?_); rintro e wa ⟨rfl, hx⟩)
 replace HC := HC.trans hx
 try replace LO := LO.ext hx
 try replace LX := LX.ext hx
 try replace LY := LY.ext hx
 clear hx
 refine Qi HC ?_
 refine Qj 3 rfl (by kernel_rfl) ?_
 simp only [Qc, Qd, Qe]
 go_wp2_with (go_at_call 44; (with_reducible refine Calls.mono (Mm _ _ _) ?_); rintro e wa ⟨bo, rfl, hx, LO⟩)
 replace HC := HC.trans hx
 try replace LX := LX.ext hx
 try replace LY := LY.ext hx
 clear hx
 refine Qi HC ?_
 refine Qj 4 rfl (by kernel_rfl) ?_
 simp only [Qc, Qd, Qe]
 go_wp2_with (go_at_call 39; (with_reducible refine Calls.mono (Y5 _ _ _ _) ?_); rintro e wa ⟨rfl, hx⟩)
 replace HC := HC.trans hx
 try replace LO := LO.ext hx
 try replace LX := LX.ext hx
 try replace LY := LY.ext hx
 clear hx
 refine Qi HC ?_
 refine Qj 5 rfl (by kernel_rfl) ?_
 simp only [Qc, Qd, Qe]
 go_wp2_with (go_at_call 44; (with_reducible refine Calls.mono (Mm _ _ _) ?_); rintro e wa ⟨bx, rfl, hx, LX⟩)
 replace HC := HC.trans hx
 try replace LO := LO.ext hx
 try replace LY := LY.ext hx
 clear hx
 refine Qi HC ?_
 refine Qp (g := 11) [6] [_] ⟨rfl, trivial⟩ (by kernel_rfl) (by kernel_rfl) HC ?_
 simp only [Qc, Qd, Qe]
 apply Exists.intro
 refine ⟨fun u hu => ?_, ?_⟩
 ·obtain ⟨k0, k1⟩ := (B1.ext hu).c2
  have lk := (B1.ext hu).lt
  repeat (first | go_big_quiet_skip | (go_big_quiet_want; go_big_quiet_op; go_big_quiet_on))
  refine wpQuiet_nil ?_
  rfl
 refine Qj 7 rfl (by kernel_rfl) ?_
 simp only [Qc, Qd, Qe]
 go_wp2_with (go_at_call 39; (with_reducible refine Calls.mono (Y5 _ _ _ _) ?_); rintro e wa ⟨rfl, hx⟩)
 replace HC := HC.trans hx
 try replace LO := LO.ext hx
 try replace LX := LX.ext hx
 try replace LY := LY.ext hx
 clear hx
 refine Qi HC ?_
 refine Qj 8 rfl (by kernel_rfl) ?_
 simp only [Qc, Qd, Qe]
 go_wp2_with (go_at_call 44; (with_reducible refine Calls.mono (Mm _ _ _) ?_); rintro e wa ⟨by', rfl, hx, LY⟩)
 replace HC := HC.trans hx
 try replace LO := LO.ext hx
 try replace LX := LX.ext hx
 clear hx
 refine Qi HC ?_
 refine Qp (g := 8) [9] [_] ⟨rfl, trivial⟩ (by kernel_rfl) (by kernel_rfl) HC ?_
 simp only [Qc, Qd, Qe]
 apply Exists.intro
 refine ⟨fun u hu => ?_, ?_⟩
 ·obtain ⟨k0, k1⟩ := (B1.ext hu).c2
  have lk := (B1.ext hu).lt
  repeat (first | go_big_quiet_skip | (go_big_quiet_want; go_big_quiet_op; go_big_quiet_on))
  refine wpQuiet_nil ?_
  rfl
 refine Qj 10 rfl (by kernel_rfl) ?_
 simp only [Qc, Qd, Qe]
 go_wp2
 obtain ⟨bd, wb, hbq, hwb, HD, HC', hx, _⟩ := Q4 HC 70 #[.int .i64 0, .int .i64 1, .bool false, .int .i64 2, .bool true, .string ⟨#[98]⟩, .slice (some ⟨bx, 0, none⟩) 1 1, .int .i64 0, .int .i64 1, .bool false, .int .i64 2, .bool false, .string ⟨#[98]⟩, .slice (some ⟨by', 0, none⟩) 1 1]
 rw [← hbq, ← hwb]
 replace HC := HC'
 try replace LO := LO.ext hx
 try replace LX := LX.ext hx
 try replace LY := LY.ext hx
 clear hbq hwb hx HC'
 refine Qi HC ?_
 refine Qp (g := 6) [11] [_] ⟨rfl, trivial⟩ (by kernel_rfl) (by kernel_rfl) HC ?_
 simp only [Qc, Qd, Qe]
 apply Exists.intro
 refine ⟨fun u hu => ?_, ?_⟩
 ·obtain ⟨k0, k1⟩ := (B1.ext hu).c2
  have lk := (B1.ext hu).lt
  repeat (first | go_big_quiet_skip | (go_big_quiet_want; go_big_quiet_op; go_big_quiet_on))
  refine wpQuiet_nil ?_
  rfl
 refine Qj 12 rfl (by kernel_rfl) ?_
 simp only [Qc, Qd, Qe]
 have NC := Am (C.ext HC) LO LX LY HD
 go_wp2_with (go_at_call 9; (with_reducible refine Calls.mono (NC) ?_); rintro e wa ⟨v16, rfl, hx, L16⟩)
 replace HC := HC.trans hx
 clear hx NC
 refine Qi HC ?_
 refine Qp (g := 4) [13] [_] ⟨rfl, trivial⟩ (by kernel_rfl) (by kernel_rfl) HC ?_
 simp only [Qc, Qd, Qe]
 apply Exists.intro
 refine ⟨fun u hu => ?_, ?_⟩
 ·obtain ⟨k0, k1⟩ := (B1.ext hu).c2
  have lk := (B1.ext hu).lt
  repeat (first | go_big_quiet_skip | (go_big_quiet_want; go_big_quiet_op; go_big_quiet_on))
  refine wpQuiet_nil ?_
  rfl
 refine Jy (g := 2) [14, 15] [_, _] ⟨rfl, rfl, trivial⟩ (by kernel_rfl) (by kernel_rfl) ?_
 simp only [Qc, Qd, Qe]
 apply Exists.intro
 refine ⟨fun u hu => ?_, ?_⟩
 ·repeat (first | go_big_quiet_skip | (go_big_quiet_want; go_big_quiet_op; go_big_quiet_on))
  refine wpQuiet_nil ?_
  rfl
 refine Qn 16 rfl (by kernel_rfl) ?_
 simp only [Qc, Qd, Qe]
 go_wp2
 refine Qo ?_
 refine Qn 17 rfl (by kernel_rfl) ?_
 simp only [Qc, Qd, Qe]
 go_wp2
 refine Qo ?_
 refine Qs (by kernel_rfl) ?_
 replace E := E.trans HC
 clear HC LO LX LY HD
 go_wp2_with (first | (go_at_call 44; (with_reducible refine Calls.mono (Mm _ _ _) ?_); rintro e wa ⟨bl, rfl, hx, LL⟩; have NS := Ae _ _ [⟨X6, -5⟩] [⟨X6, -5⟩] _ (L16.ext hx) LL; rw [decide_eq_true (rfl : ([⟨X6, -5⟩] : List Lt) = [⟨X6, -5⟩])] at NS) | (go_at_call 45; (with_reducible refine Calls.mono (NS) ?_); rintro e wz ⟨rfl, hz⟩))
 go_ret
 exact ⟨rfl, (E.trans hx).trans hz⟩
end
end Go.Proofs.YtneiofnlmblglaaGreatDoor
