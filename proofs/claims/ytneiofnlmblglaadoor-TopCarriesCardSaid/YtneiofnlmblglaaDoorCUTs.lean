/- The walk of TopCarries. -/
import Derived.Test.YtneiofnlmblglaaDoorCUTb
import Derived.Test.YtneiofnlmblglaaDoorCUTr
import Derived.Test.YtneiofnlmblglaaDoorU9
import Derived.Test.YtneiofnlmblglaaDoorU12
set_option maxRecDepth 100000
set_option maxHeartbeats 4000000
namespace Go.Proofs.YtneiofnlmblglaaDoor
open Go Go.RowKit Go.Shelf
attribute [local go_sem] Zi
attribute [local go_sem high] Qap
def cutB (A : Nat → Act) (S : World → Nat → Prop) : Exit → Act → World → Prop := fun e a' w' => e = .normal ∧ ∃ p, S w' p ∧ a' = A p
theorem cutB_is {A : Nat → Act} {S : World → Nat → Prop} {w' : World} (p : Nat) {a' : Act} (h : S w' p) (ha : a' = A p) : cutB A S .normal a' w' := ⟨rfl, p, h, ha⟩
theorem wp_cutB {P : Program} {c : Code} {Q : Exit → Act → World → Prop} {a : Act} {w : World} {A : Nat → Act} (S : World → Nat → Prop) (h1 : c.wp P (cutB A S) a w) (h2 : ∀ p w', S w' p → Q .normal (A p) w') : c.wp P Q a w :=
 Code.wp_mono (fun e a' w' ⟨he, p, hs, ha⟩ => by subst he; subst ha; exact h2 p w' hs) h1
theorem int_getS {w : World} {b off n k : Nat} {g : Nat → Int} (h : Qo w (some ⟨b, off, none⟩) n 1 (fun i => [.int .i64 (g i)])) (hk : k < n) : b < w.heap.size ∧ w.cell? ⟨b, off + k, none⟩ = some (.int .i64 (g k)) := by
 obtain ⟨b', off', e, hb, hc⟩ := h (by omega)
 cases e
 have := hc k 0 (.int .i64 (g k)) hk rfl
 simp only [Nat.mul_one, Nat.add_zero] at this
 exact ⟨hb, this⟩
theorem rows_some {w : World} {D : Option Addr} {n sz : Nat} {f : Nat → List Value} (h : Qo w D n sz f) (hn : 0 < n) : ∃ b off, D = some ⟨b, off, none⟩ := by
 obtain ⟨b, off, e, _, _⟩ := h hn
 exact ⟨b, off, e⟩
theorem persAt_rows {w : World} {base n : Nat} {v : Value} {l : List Pd} (hn : n = l.length) {vo vd vc : Nat → Value} (h : w.ownsRow base 31 12 v n (Qz (fun i => Qq (l.getD i Qk) (vo i) (vd i) (vc i)) n)) (hat : ∀ i, i < n → Zv w (l.getD i Qk) (vo i) (vd i) (vc i)) : Ym w v l := by
 subst hn
 obtain ⟨F, c, g1, g2, g3, g4, g5, _⟩ := Wg (f := fun i => Qq (l.getD i Qk) (vo i) (vd i) (vc i)) (fun _ => rfl) h
 exact ⟨F, c, vo, vd, vc, g1, g2, g3, g4, g5, hat⟩
theorem own_setB {W : World} {b : Nat} {e : TypeId} {base size k : Nat} {v : Value} {xs : List Value} (hr : W.ownsRow base e size v k xs) (hb : b < base) (j : Nat) (u : Value) : (W.setCell ⟨b, j, none⟩ u).ownsRow base e size v k xs := by
 refine ⟨hr.1, hr.2.imp id ?_⟩
 rintro ⟨g, cap, cur, h1, h2, h3, h4⟩
 refine ⟨g, cap, cur, h1, h2, ?_, h4⟩
 have hne : b ≠ g := by omega
 simp [World.setCell, Array.getElem?_modify, hne, h3]
theorem own12B {W : World} {b : Nat} {e : TypeId} {base size k : Nat} {v : Value} {xs : List Value} (hr : W.ownsRow base e size v k xs) (hb : b < base) (u0 u1 u2 u3 u4 u5 u6 u7 u8 u9 u10 u11 : Value) : (((((((((((((W.setCell ⟨b, 0, none⟩ u0).setCell ⟨b, 1, none⟩ u1).setCell ⟨b, 2, none⟩ u2).setCell ⟨b, 3, none⟩ u3).setCell ⟨b, 4, none⟩ u4).setCell ⟨b, 5, none⟩ u5).setCell ⟨b, 6, none⟩ u6).setCell ⟨b, 7, none⟩ u7).setCell ⟨b, 8, none⟩ u8).setCell ⟨b, 9, none⟩ u9).setCell ⟨b, 10, none⟩ u10).setCell ⟨b, 11, none⟩ u11)).ownsRow base e size v k xs := own_setB (own_setB (own_setB (own_setB (own_setB (own_setB (own_setB (own_setB (own_setB (own_setB (own_setB (own_setB hr hb 0 u0) hb 1 u1) hb 2 u2) hb 3 u3) hb 4 u4) hb 5 u5) hb 6 u6) hb 7 u7) hb 8 u8) hb 9 u9) hb 10 u10) hb 11 u11
theorem pers_push3 {w1 : World} {b k : Nat} {v' uo ud uc : Value} {g0 g : Nat → Pd} {vo vd vc : Nat → Value} (e : ∀ i, i < k → g0 i = g i) (hL : ∀ i, i < k → Zv w1 (g0 i) (vo i) (vd i) (vc i)) (hl : Zv w1 (g k) uo ud uc)
  (hown : w1.ownsRow b 31 12 v' (k + 1) (Qz (fun i => Qq (g0 i) (vo i) (vd i) (vc i)) k ++ Qq (g k) uo ud uc)) : ∃ ro rd rc : Nat → Value, w1.ownsRow b 31 12 v' (k + 1) (Qz (fun i => Qq (g i) (ro i) (rd i) (rc i)) (k + 1)) ∧ ∀ i, i < k + 1 → Zv w1 (g i) (ro i) (rd i) (rc i) := by
 refine ⟨fun i => if i = k then uo else vo i, fun i => if i = k then ud else vd i, fun i => if i = k then uc else vc i, ?_, fun i hi => ?_⟩
 ·rw [X0, Uj (f' := fun i => Qq (g0 i) (vo i) (vd i) (vc i)) k (fun i hi => by simp [show i ≠ k by omega, e i hi])]
  simpa using hown
 ·by_cases e' : i = k
  ·subst e'; simpa using hl
  ·simpa [e'] using (by rw [← e i (by omega)]; exact hL i (by omega) : Zv w1 (g i) (vo i) (vd i) (vc i))
theorem sameP_any (v1 v2 : Value) (a b : List Lt) (w : World) (h1 : Zf w v1 a) (h2 : Zf w v2 b) :
  Calls Tryd.prog 11 #[v1, v2] w fun e w' => e = .returned (.bool (decide (a = b))) ∧ Qa w w' := by
 obtain ⟨A, ca, rfl, hA, hca, hca', _⟩ := h1
 obtain ⟨B, cb, rfl, hB, hcb, hcb', _⟩ := h2
 obtain ⟨R, hR0⟩ := Qg (decide (a = b))
 rw [← hR0]
 have HR := Lib.hid hR0
 clear hR0
 by_cases hn : a.length = b.length
 ·have HL := Lib.hid hn
  obtain ⟨n, hnl⟩ := Qg (a.length)
  rw [← hn] at hcb hB ⊢
  rw [← hnl] at hca hcb hA hB ⊢
  have h63 : n ≤ 9223372036854775807 := Nat.le_trans hca (Nat.le_trans hca' (by decide))
  replace hnl := Lib.hid hnl
  have hno : Hid (∀ k, k < n → Q4 a k ≠ Q4 b k → R = false) := fun k hk h => by
   rw [HR.out]; exact decide_eq_false fun e => h (by rw [e])
  have hyes : Hid ((∀ k, k < n → Q4 a k = Q4 b k) → R = true) := fun h => by
   rw [HR.out]
   refine decide_eq_true (List.ext_getElem HL.out fun i h1 h2 => ?_)
   have := h i (by rw [hnl.out]; exact h1)
   rwa [Xf h1, Xf h2] at this
  clear HR HL hn hnl hca' hcb' hca hcb
  generalize Q4 a = f at *
  generalize Q4 b = g at *
  go_enter Tryd.func11, Tryd.ntmps11
  go_wp2
  go_loopw [5] (fun i wr => ∃ k : Nat, k ≤ n ∧ i = .int .i64 k ∧ Hid (∀ j, j < k → f j = g j) ∧ Qa w wr) (fun i _ => n - (intOf i).toNat)
  case atStart => exact ⟨0, Nat.zero_le _, rfl, (fun i hi => absurd hi (by omega)), Qa.refl _⟩
  case round =>
   obtain ⟨k, hk, rfl, hp, hE⟩ := hrel
   obtain ⟨wo, rfl⟩ := Qg wr
   by_cases hlt : k < n
   ·obtain ⟨b1, o1, rfl, hb, hc⟩ := (hA.ext hE) (by omega)
    obtain ⟨b2, o2, rfl, hb', hd⟩ := (hB.ext hE) (by omega)
    have c0 : wo.cell? ⟨b1, o1 + k * 2, none⟩ = some (.string (f k).g) := by simpa [Zh] using hc k 0 _ hlt rfl
    have c1 : wo.cell? ⟨b1, o1 + k * 2 + 1, none⟩ = some (.int .i64 (f k).n) := by simpa [Zh] using hc k 1 _ hlt rfl
    have d0 : wo.cell? ⟨b2, o2 + k * 2, none⟩ = some (.string (g k).g) := by simpa [Zh] using hd k 0 _ hlt rfl
    have d1 : wo.cell? ⟨b2, o2 + k * 2 + 1, none⟩ = some (.int .i64 (g k).n) := by simpa [Zh] using hd k 1 _ hlt rfl
    have hq : Hid ((((f k).g.toList == (g k).g.toList) && ((f k).n == (g k).n)) = decide (f k = g k)) := by
     unfold Hid
     rw [← Lc, Bool.eq_iff_iff]
     simp only [Bool.and_eq_true, decide_eq_true_eq, beq_iff_eq]
     constructor
     ·rintro ⟨e1, e2⟩
      cases hf : f k; cases hg : g k
      rw [hf, hg] at e1 e2
      simp_all
     ·intro e; rw [e]; exact ⟨rfl, rfl⟩
    have hs : Hid (f k = g k → ∀ j, j < k + 1 → f j = g j) := fun e j hj => by
     by_cases h : j = k
     ·subst h; exact e
     ·exact hp.out j (by omega)
    have hnk := Lib.hid (hno.out k hlt)
    clear hc hd hA hB hp
    generalize f k = x at *
    generalize g k = y at *
    go_upto_region 6 with (fail)
    clear hno hyes
    generalize hg1 : (x.g.toList == y.g.toList) = e1 at *
    generalize hg2 : (x.n == y.n) = e2 at *
    by_cases hxy : x = y
    ·obtain ⟨rfl, rfl⟩ : e1 = true ∧ e2 = true := by
      have h := hq.out
      rw [decide_eq_true hxy] at h
      simpa using h
     have hp' := Lib.hid (hs.out hxy)
     clear hs hq hnk hxy
     refine Zr wo Qr (by kernel_rfl) (by repeat (first | exact Qa.refl _ | (refine Qa.alloc ?_ _) | (refine Qa.trans ?_ (by assumption)))) ?_
     intro hne hrx hry
     try simp only []
     try simp only [List.append_eq, List.cons_append, List.nil_append]
     skip
     repeat (first
      | go_big_quiet_skip
      | (go_big_quiet_want; go_big_quiet_op; go_big_quiet_on))
     clear hne hry hrx
     refine wpQuiet_nil ?_
     intro wn hwn
     obtain ⟨hcwn, hfwn, hzwn⟩ := Qa.rules hwn
     try simp only [World.size_alloc] at hzwn
     obtain ⟨hcbwn, hfbwn, hzbwn⟩ := Qa.rules (show Qa wo wn from (by repeat (first | exact Qa.refl _ | (refine Qa.alloc ?_ _) | (refine Qa.trans ?_ (by assumption)))))
     clear hcwn hfwn
     go_wp2
     exact ⟨⟨k + 1, by omega, by go_num, hp', hE.trans hwn⟩, by simp [intOf]; omega⟩
    ·have hr := hnk.out hxy
     have h : e1 = false ∨ (e1 = true ∧ e2 = false) := by
      have h := hq.out
      rw [decide_eq_false hxy] at h
      cases e1 <;> simp_all
     clear hs hq hnk hxy
     rcases h with rfl | ⟨rfl, rfl⟩
     ·skip
      refine Zr wo Qr (by kernel_rfl) (by repeat (first | exact Qa.refl _ | (refine Qa.alloc ?_ _) | (refine Qa.trans ?_ (by assumption)))) ?_
      intro hne hrx hry
      try simp only []
      try simp only [List.append_eq, List.cons_append, List.nil_append]
      skip
      repeat (first
       | go_big_quiet_skip
       | (go_big_quiet_want; go_big_quiet_op; go_big_quiet_on))
      clear hne hry hrx
      refine wpQuiet_nil ?_
      intro wn hwn
      obtain ⟨hcwn, hfwn, hzwn⟩ := Qa.rules hwn
      try simp only [World.size_alloc] at hzwn
      obtain ⟨hcbwn, hfbwn, hzbwn⟩ := Qa.rules (show Qa wo wn from (by repeat (first | exact Qa.refl _ | (refine Qa.alloc ?_ _) | (refine Qa.trans ?_ (by assumption)))))
      clear hcwn hfwn
      go_wp2
      go_ret
      exact ⟨by rw [hr]; rfl, hE.trans hwn⟩
     ·skip
      refine Zr wo Qr (by kernel_rfl) (by repeat (first | exact Qa.refl _ | (refine Qa.alloc ?_ _) | (refine Qa.trans ?_ (by assumption)))) ?_
      intro hne hrx hry
      try simp only []
      try simp only [List.append_eq, List.cons_append, List.nil_append]
      skip
      repeat (first
       | go_big_quiet_skip
       | (go_big_quiet_want; go_big_quiet_op; go_big_quiet_on))
      clear hne hry hrx
      refine wpQuiet_nil ?_
      intro wn hwn
      obtain ⟨hcwn, hfwn, hzwn⟩ := Qa.rules hwn
      try simp only [World.size_alloc] at hzwn
      obtain ⟨hcbwn, hfbwn, hzbwn⟩ := Qa.rules (show Qa wo wn from (by repeat (first | exact Qa.refl _ | (refine Qa.alloc ?_ _) | (refine Qa.trans ?_ (by assumption)))))
      clear hcwn hfwn
      go_wp2
      go_ret
      exact ⟨by rw [hr]; rfl, hE.trans hwn⟩
   ·obtain rfl : k = n := by omega
    have hr := hyes.out hp.out
    clear hyes hno
    go_wp2
    go_ret
    exact ⟨by rw [hr]; rfl, hE⟩
 ·have hne : ((a.length : Int) == (b.length : Int)) = false := beq_eq_false_iff_ne.2 (by omega)
  have hnn : ((a.length : Int) != (b.length : Int)) = true := by rw [bne, hne]; rfl
  have hr : R = false := by rw [HR.out]; exact decide_eq_false fun e => hn (by rw [e])
  clear hn HR
  go_enter Tryd.func11, Tryd.ntmps11
  go_wp2
  go_ret
  exact ⟨by rw [hr]; rfl, Qa.refl _⟩
theorem sameQ_any (v1 v2 : Value) (a : List Lt) (w : World) (h1 : Zf w v1 a) (h2 : Zf w v2 a) :
  Calls Tryd.prog 11 #[v1, v2] w fun e w' => e = .returned (.bool true) ∧ Qa w w' := by
 have h := sameP_any v1 v2 a a w h1 h2
 rw [decide_eq_true rfl] at h
 exact h
set_option maxHeartbeats 40000000 in
theorem topCarries_walk (A A' : Option Addr) (ca cb : Nat) (c : Qc) (p : Pd) (vo vd vc : Value) (DE : Option Addr) (n cape : Nat) (g : Nat → Int) (w : World) (hC : Q8 w A ca A' cb c) (hP : Zv w p vo vd vc) (hD : Qo w DE n 1 (fun i => [.int .i64 (g i)])) (hn63 : n ≤ 9223372036854775807) (hG : ∀ i, i < n → -9223372036854775808 ≤ g i ∧ g i ≤ 9223372036854775807) (hZ : Zl w) :
  Calls Tryd.prog 3 #[.agg #[.slice A c.nk ca, .slice A' c.ny cb], .agg #[.string p.h, .int .i64 p.a.y, .int .i64 p.a.m, .bool p.a.s, .int .i64 p.a.d, .int .i64 p.b.y, .int .i64 p.b.m, .bool p.b.s, .int .i64 p.b.d, vo, vd, vc], .slice DE n cape] w fun e w' => e = .returned (.bool true) ∧ Qa w w' := by
 obtain ⟨t1, s1, e1, _⟩ := id hP.o
 subst e1
 obtain ⟨t2, s2, _, e2, _⟩ := id hP.d
 subst e2
 obtain ⟨t3, s3, e3, _⟩ := id hP.c
 subst e3
 have N1 := fun v a b e h1 h2 => Kr A A' ca cb c p a b e v h1 h2
 have NA := fun k v h (hk : k < n) => Al A A' ca cb c (g k) v h (hG k hk).1 (hG k hk).2
 simp only [Dt.val] at NA
 have hbad : Hid ((c.closeV p).2 ≠ 0 → (c.closeV p).1 = []) := fun h => Ib h
 have hgood : Hid ((c.closeV p).2 = 0 → c.valid = true ∧ Ue c p (c.closeV p).1 [] p) := fun h => Qen h
 have hcl : Hid (c.closeV p = c.closeV p) := rfl
 obtain ⟨V, hV⟩ := Qg (c.closeV p)
 simp only [← hV] at N1 hbad hgood
 replace hV := Lib.hid hV
 clear hcl
 obtain ⟨S, se⟩ := V
 simp only at N1 hbad hgood
 clear hG
 go_enter Tryd.func3, Tryd.ntmps3
 go_upto_region 1 with (fail)
 obtain ⟨v, hv⟩ := Qg ((w.alloc (.cells #[.slice A c.nk ca, .slice A' c.ny cb] 25)).alloc (.cells #[.string p.h, .int .i64 p.a.y, .int .i64 p.a.m, .bool p.a.s, .int .i64 p.a.d, .int .i64 p.b.y, .int .i64 p.b.m, .bool p.b.s, .int .i64 p.b.d, .slice t1 p.o.length s1, .slice t2 p.d.length s2, .slice t3 p.c.length s3] 31))
 rw [← hv]
 have E : Qa w v := by rw [hv]; exact ((Qa.refl _).alloc _).alloc _
 have B1 : Qb v w.heap.size 25 #[.slice A c.nk ca, .slice A' c.ny cb] := by rw [hv]; exact (Qb.new _ _ _).alloc _
 have B2 : Qb v (w.heap.size + 1) 31 #[.string p.h, .int .i64 p.a.y, .int .i64 p.a.m, .bool p.a.s, .int .i64 p.a.d, .int .i64 p.b.y, .int .i64 p.b.m, .bool p.b.s, .int .i64 p.b.d, .slice t1 p.o.length s1, .slice t2 p.d.length s2, .slice t3 p.c.length s3] := by rw [hv]; exact Qb.at _ _ _ _ (by simp)
 clear hv
 obtain ⟨b2, hb2⟩ := Qg (w.heap.size + 1)
 rw [← hb2] at B2 ⊢
 obtain ⟨b1, hb1⟩ := Qg (w.heap.size)
 rw [← hb1] at B1 ⊢
 have hbr : w.heap.size ≤ b2 := by omega
 have hbr1 : w.heap.size ≤ b1 := by omega
 have hn21 : b2 ≠ b1 := by omega
 clear hb1 hb2
 have Z := hZ.ext E
 have C := hC.ext E
 have P := hP.ext E
 clear hC hP hZ
 obtain ⟨k0, k1⟩ := B1.c2
 have kl := B1.lt
 obtain ⟨p0, p1, p2, p3, p4, p5, p6, p7, p8, p9, p10, p11⟩ := B2.c12
 have pl := B2.lt
 go_upto_region 2 with (go_at_call 6; (with_reducible refine Calls.mono (N1 _ _ _ _ C P) ?_); rintro e w1 ⟨x1, rfl, hx, LS⟩; replace E := E.trans hx; replace Z := Z.ext hx; replace C := C.ext hx; replace P := P.ext hx; replace B1 := B1.ext hx; replace B2 := B2.ext hx; clear hx; clear k0 k1 kl p0 p1 p2 p3 p4 p5 p6 p7 p8 p9 p10 p11 pl; obtain ⟨k0, k1⟩ := B1.c2; have kl := B1.lt; obtain ⟨p0, p1, p2, p3, p4, p5, p6, p7, p8, p9, p10, p11⟩ := B2.c12; have pl := B2.lt; obtain ⟨A5, c5, e5, _⟩ := id LS; subst e5)
 go_upto_region 2 with (fail)
 by_cases e0 : se = 0
 rotate_left
 ·have g0 : (se == 0) = false := beq_eq_false_iff_ne.2 e0
  have g0n : (se != 0) = true := by rw [bne, g0]; rfl
  obtain rfl : S = [] := hbad.out e0
  clear hbad hgood hV LS
  rw [List.length_nil]
  go_wp2_with (first | (go_at_call 7; (with_reducible refine Calls.mono (O6 _ Z) ?_); rintro e x4 ⟨rfl, hx⟩; replace E := E.trans hx))
  go_ret
  exact ⟨rfl, E⟩
 subst e0
 obtain ⟨hv, T0⟩ := hgood.out rfl
 have hp64 := T0.ok.m
 replace T0 := Lib.hid T0
 clear hbad hgood
 go_upto_region 6 with (fail)
 obtain ⟨v5, hv5⟩ := Qg (w1.alloc (.cells #[.string p.h, .int .i64 p.a.y, .int .i64 p.a.m, .bool p.a.s, .int .i64 p.a.d, .int .i64 p.b.y, .int .i64 p.b.m, .bool p.b.s, .int .i64 p.b.d, .slice t1 p.o.length s1, .slice t2 p.d.length s2, .slice t3 p.c.length s3] 31))
 rw [← hv5]
 have hy : Qa w1 v5 := by rw [hv5]; exact (Qa.refl _).alloc _
 have BR : Qb v5 w1.heap.size 31 #[.string p.h, .int .i64 p.a.y, .int .i64 p.a.m, .bool p.a.s, .int .i64 p.a.d, .int .i64 p.b.y, .int .i64 p.b.m, .bool p.b.s, .int .i64 p.b.d, .slice t1 p.o.length s1, .slice t2 p.d.length s2, .slice t3 p.c.length s3] := by rw [hv5]; exact Qb.new _ _ _
 have hsbr : v5.heap.size = w1.heap.size + 1 := by rw [hv5]; simp
 clear hv5
 obtain ⟨br, hbe⟩ := Qg (w1.heap.size)
 rw [← hbe] at BR hsbr ⊢
 have hbr : w1.heap.size ≤ br := Nat.le_of_eq hbe.symm
 clear hbe
 clear k0 k1 kl p0 p1 p2 p3 p4 p5 p6 p7 p8 p9 p10 p11 pl
 have hb5 : br < v5.heap.size := BR.lt
 obtain ⟨i0, hi, hz0, hz1, hz2⟩ := info_parts Sh
 go_upto_region 7 with (fail)
 go_loopw [9, 11] (fun pv iv wr => ∃ (k : Nat) (L : List Pd) (R : Pd) (F1 : Option Addr) (m1 : Nat) (F2 : Option Addr) (m2 : Nat) (F3 : Option Addr) (m3 : Nat), k ≤ n ∧ k ≤ 12 ∧ L.length ≤ k ∧ iv = .int .i64 k ∧ Yc wr v5.heap.size pv L.length (fun i => L.getD i Qk) ∧ Hid (Ue c p S L R) ∧ Qb wr br 31 #[.string R.h, .int .i64 R.a.y, .int .i64 R.a.m, .bool R.a.s, .int .i64 R.a.d, .int .i64 R.b.y, .int .i64 R.b.m, .bool R.b.s, .int .i64 R.b.d, .slice F1 R.o.length m1, .slice F2 R.d.length m2, .slice F3 R.c.length m3] ∧ WAt w1 wr R (.slice F1 R.o.length m1) (.slice F2 R.d.length m2) (.slice F3 R.c.length m3) ∧ Qa w1 wr) (fun _ iv _ => n - (intOf iv).toNat)
 case atStart => exact ⟨0, [], p, t1, s1, t2, s2, t3, s3, Nat.zero_le _, by decide, Nat.le_refl _, rfl, Dy _ _ _, T0, BR, .inl P, hy⟩
 case round =>
  clear BR T0 hy
  obtain ⟨k, L, R, F1, m1, F2, m2, F3, m3, hk, hk12, hLk, rfl, PL, hT, BR, WR, hE⟩ := hrel
  obtain ⟨wo, rfl⟩ := Qg wr
  obtain ⟨ro, rd, rc, hO, hLo⟩ := PL
  obtain ⟨FO, mO, rfl⟩ := Zo hO
  have PL : Yc wo v5.heap.size (.slice FO L.length mO) L.length (fun i => L.getD i Qk) := ⟨ro, rd, rc, hO, hLo⟩
  have B1o := B1.ext hE
  have hq0 : Hid (∀ q, (Value.slice FO L.length mO).ownBlock = some q → v5.heap.size ≤ q ∧ q < wo.heap.size) := fun q h => hO.lt q h
  have hz5 : v5.heap.size ≤ wo.heap.size := by have := BR.lt; omega
  replace hLo := Lib.hid hLo
  by_cases hm : k < n ∧ k < 12
  rotate_left
  ·clear NA hD
   refine Or.elim (Nat.lt_or_ge k n) (fun hge => ?_) (fun hge => ?_)
   have hI : decide ((k : Int) < 12) = false := decide_eq_false (by omega)
   go_upto_region 17 with (fail)
   rotate_left
   have hI : ¬ k < n := by omega
   go_upto_region 17 with (fail)
   all_goals
    clear hge hI hm
    obtain ⟨x0, x1, x2, x3, x4, x5, x6, x7, x8, x9, x10, x11⟩ := Qb.c12 BR
    have xl := Qb.lt BR
    have hO2 := hO.alloc (.cells #[.string R.h, .int .i64 R.a.y, .int .i64 R.a.m, .bool R.a.s, .int .i64 R.a.d, .int .i64 R.b.y, .int .i64 R.b.m, .bool R.b.s, .int .i64 R.b.d, .slice F1 R.o.length m1, .slice F2 R.d.length m2, .slice F3 R.c.length m3] 31)
    go_upto_region 18 with (at_builtin; refine wpList_append_own_at _ rfl _ _ 37 rfl v5.heap.size 31 i0 (.agg #[.string ⟨#[]⟩, .int .i64 0, .int .i64 0, .bool false, .int .i64 0, .int .i64 0, .int .i64 0, .bool false, .int .i64 0, .slice none 0 0, .slice none 0 0, .slice none 0 0]) 12 152 Tryd.underlying37 hi hz0 hz1 hz2 rfl (by decide) _ _ _ rfl hO2 ⟨wo.heap.size, 0, none⟩ 1 1 (Qq R (.slice F1 R.o.length m1) (.slice F2 R.d.length m2) (.slice F3 R.c.length m3)) rfl rfl (U4 _ _ _) (Lq _ _ _ _ _ _ _ _ _ _) (by unfold maxLen; omega) (by omega) (by simp; omega) ?_; intro o' w8 hown hgrow _ _)
    clear x0 x1 x2 x3 x4 x5 x6 x7 x8 x9 x10 x11 xl
    obtain ⟨FN, mN, rfl⟩ := Zo hown
    obtain ⟨he1, he2⟩ := last_of (L := L) (x := R) rfl
    have E8 : Qa w1 w8 := (hE.alloc _).grown hgrow (fun q h => by have := (hq0.out q h).1; omega)
    have W8 : WAt w1 w8 R (.slice F1 R.o.length m1) (.slice F2 R.d.length m2) (.slice F3 R.c.length m3) := WR.imp id (fun h => Zj.kept (h.alloc (.cells #[.string R.h, .int .i64 R.a.y, .int .i64 R.a.m, .bool R.a.s, .int .i64 R.a.d, .int .i64 R.b.y, .int .i64 R.b.m, .bool R.b.s, .int .i64 R.b.d, .slice F1 R.o.length m1, .slice F2 R.d.length m2, .slice F3 R.c.length m3] 31)) hO2 hgrow rfl)
    obtain ⟨ro8, rd8, rc8, hO8, hA8⟩ := pers_push3 (g := fun i => (L ++ [R]).getD i Qk) he1 (fun i hi => V5 (Zj.kept ((hLo.out i hi).alloc (.cells #[.string R.h, .int .i64 R.a.y, .int .i64 R.a.m, .bool R.a.s, .int .i64 R.a.d, .int .i64 R.b.y, .int .i64 R.b.m, .bool R.b.s, .int .i64 R.b.d, .slice F1 R.o.length m1, .slice F2 R.d.length m2, .slice F3 R.c.length m3] 31)) hO2 hgrow rfl)) (by rw [he2]; exact W8.at E8) (by rw [he2]; exact hown)
    have PQ : Ym w8 (.slice FN (L.length + 1) mN) (L ++ [R]) := persAt_rows (by simp) hO8 hA8
    have hcv := Qel hv hT.out (Nat.le_trans hLk hk12)
    have hall := Lib.hid (Qek hT.out)
    have hlk := Lib.hid hT.out.l
    have hjp := Lib.hid hT.out.j
    clear hown hgrow hO2 hO hLo WR W8 hO8 hA8 PL hq0 he1 he2 BR hT hz5 B1o i0 hi hz0 hz1 hz2
    obtain ⟨K, hK⟩ := Qg (L ++ [(⟨R.h, R.a, R.b, R.o, R.d, S⟩ : Pd)])
    have hKn : K.length = L.length + 1 := by rw [hK]; simp
    have hKc : (K.getD L.length Qk).c = S := by rw [hK, (last_of (L := L) (x := (⟨R.h, R.a, R.b, R.o, R.d, S⟩ : Pd)) rfl).2]
    rw [← hK] at hcv
    obtain ⟨Q, hQ⟩ := Qg (L ++ [R])
    have hQn : Q.length = L.length + 1 := by rw [hQ]; simp
    rw [← hQ] at hcv PQ hall hlk hjp
    clear hK hQ
    generalize L.length = m at *
    have hjn := Lib.hid (Qem hv hall.out hlk.out (by rw [hjp.out]; exact hp64))
    have N4 := fun w h1 h2 => carry_any A A' ca cb c Q (.slice FN (m + 1) mN) w h1 h2
    rw [hcv] at N4
    simp only at N4
    have B1o := B1.ext E8
    obtain ⟨k0, k1⟩ := B1o.c2
    have kl := B1o.lt
    go_upto_region 19 with (go_at_call 10; (with_reducible refine Calls.mono (N4 _ (C.ext E8) PQ) ?_); rintro e w9 ⟨x9, rfl, h9, PK⟩; obtain ⟨DK, cK, so, sd, sc, e9, hDK, _, _, _, hatK⟩ := id PK; subst e9; rw [hKn])
    clear N4 hcv k0 k1 kl B1o
    rw [hKn] at hDK hatK
    replace E := E.trans (E8.trans h9)
    replace C := C.ext (E8.trans h9)
    replace Z := Z.ext (E8.trans h9)
    replace P := P.ext (E8.trans h9)
    replace LS := LS.ext (E8.trans h9)
    replace B1 := B1.ext (E8.trans h9)
    replace B2 := B2.ext (E8.trans h9)
    replace PQ := PQ.ext h9
    clear E8 h9 PK hKn
    have LK := (hatK m (by omega)).c
    rw [hKc] at LK
    obtain ⟨b, off, hDe, hb, hc⟩ := hDK (by omega)
    have c11 : w9.cell? ⟨b, off + m * 12 + 11, none⟩ = some (sc m) := by simpa [Qq] using hc m 11 _ (by omega) rfl
    subst hDe
    clear hc hatK hDK hKc
    generalize sc m = v7 at *
    obtain ⟨A7, c7, e7, _⟩ := id LK
    subst e7
    go_upto_region 21 with (go_at_call 11; (with_reducible refine Calls.mono (sameQ_any (.slice A7 S.length c7) (.slice A5 S.length c5) S _ LK LS) ?_); rintro e w10 ⟨rfl, h9⟩)
    clear c11 LK hb
    replace E := E.trans h9
    replace C := C.ext h9
    replace Z := Z.ext h9
    replace P := P.ext h9
    replace LS := LS.ext h9
    replace B1 := B1.ext h9
    replace B2 := B2.ext h9
    replace PQ := PQ.ext h9
    clear h9
    obtain ⟨DS, cS, so, sd, sc, e9, hDS, _, _, _, hatS⟩ := id PQ
    rw [hQn] at e9 hDS hatS
    obtain ⟨rfl, rfl⟩ : FN = DS ∧ mN = cS := by simpa using e9
    clear e9 PQ
    replace hatS := Lib.hid hatS
    obtain ⟨b, off, hDe, hb, hc⟩ := hDS (by omega)
    have P0 := hatS.out 0 (by omega)
    obtain ⟨W0, hW0⟩ := Qg (Q.getD 0 Qk)
    have hn0 : 0 < m + 1 := by omega
    have c0 : w10.cell? ⟨b, off, none⟩ = some (.string (Q.getD 0 Qk).h) := by simpa [Qq] using hc 0 0 _ hn0 rfl
    have c1 : w10.cell? ⟨b, off + 1, none⟩ = some (.int .i64 (Q.getD 0 Qk).a.y) := by simpa [Qq] using hc 0 1 _ hn0 rfl
    have c2 : w10.cell? ⟨b, off + 2, none⟩ = some (.int .i64 (Q.getD 0 Qk).a.m) := by simpa [Qq] using hc 0 2 _ hn0 rfl
    have c3 : w10.cell? ⟨b, off + 3, none⟩ = some (.bool (Q.getD 0 Qk).a.s) := by simpa [Qq] using hc 0 3 _ hn0 rfl
    have c4 : w10.cell? ⟨b, off + 4, none⟩ = some (.int .i64 (Q.getD 0 Qk).a.d) := by simpa [Qq] using hc 0 4 _ hn0 rfl
    have c5 : w10.cell? ⟨b, off + 5, none⟩ = some (.int .i64 (Q.getD 0 Qk).b.y) := by simpa [Qq] using hc 0 5 _ hn0 rfl
    have c6 : w10.cell? ⟨b, off + 6, none⟩ = some (.int .i64 (Q.getD 0 Qk).b.m) := by simpa [Qq] using hc 0 6 _ hn0 rfl
    have c7 : w10.cell? ⟨b, off + 7, none⟩ = some (.bool (Q.getD 0 Qk).b.s) := by simpa [Qq] using hc 0 7 _ hn0 rfl
    have c8 : w10.cell? ⟨b, off + 8, none⟩ = some (.int .i64 (Q.getD 0 Qk).b.d) := by simpa [Qq] using hc 0 8 _ hn0 rfl
    have c9 : w10.cell? ⟨b, off + 9, none⟩ = some (so 0) := by simpa [Qq] using hc 0 9 _ hn0 rfl
    have c10 : w10.cell? ⟨b, off + 10, none⟩ = some (sd 0) := by simpa [Qq] using hc 0 10 _ hn0 rfl
    have c11 : w10.cell? ⟨b, off + 11, none⟩ = some (sc 0) := by simpa [Qq] using hc 0 11 _ hn0 rfl
    rw [← hW0] at P0 c0 c1 c2 c3 c4 c5 c6 c7 c8
    clear hc
    subst hDe
    generalize so 0 = v1 at P0 c9
    generalize sd 0 = v2 at P0 c10
    generalize sc 0 = v3 at P0 c11
    obtain ⟨t4, s4, e1, _⟩ := id P0.o
    subst e1
    obtain ⟨t5, s5, _, e2, _⟩ := id P0.d
    subst e2
    obtain ⟨t6, s6, e3, _⟩ := id P0.c
    subst e3
    replace hW0 := Lib.hid hW0
    go_upto_region 22 with (fail)
    obtain ⟨v11, hv5⟩ := Qg (w10.alloc (.cells #[.string W0.h, .int .i64 W0.a.y, .int .i64 W0.a.m, .bool W0.a.s, .int .i64 W0.a.d, .int .i64 W0.b.y, .int .i64 W0.b.m, .bool W0.b.s, .int .i64 W0.b.d, .slice t4 W0.o.length s4, .slice t5 W0.d.length s5, .slice t6 W0.c.length s6] 31))
    rw [← hv5]
    have hy : Qa w10 v11 := by rw [hv5]; exact (Qa.refl _).alloc _
    have BW : Qb v11 w10.heap.size 31 #[.string W0.h, .int .i64 W0.a.y, .int .i64 W0.a.m, .bool W0.a.s, .int .i64 W0.a.d, .int .i64 W0.b.y, .int .i64 W0.b.m, .bool W0.b.s, .int .i64 W0.b.d, .slice t4 W0.o.length s4, .slice t5 W0.d.length s5, .slice t6 W0.c.length s6] := by rw [hv5]; exact Qb.new _ _ _
    have hsbw : v11.heap.size = w10.heap.size + 1 := by rw [hv5]; simp
    clear hv5
    obtain ⟨bw, hbe⟩ := Qg (w10.heap.size)
    rw [← hbe] at BW hsbw ⊢
    have hbw : w10.heap.size ≤ bw := Nat.le_of_eq hbe.symm
    clear hbe
    clear hsbw c0 c1 c2 c3 c4 c5 c6 c7 c8 c9 c10 c11
    go_upto_region 23 with (fail)
    go_loopw [19] (fun iv wr => ∃ (i : Nat) (X : Pd) (F1 : Option Addr) (m1 : Nat) (F2 : Option Addr) (m2 : Nat) (F3 : Option Addr) (m3 : Nat), 1 ≤ i ∧ i ≤ m + 1 ∧ iv = .int .i64 i ∧ Hid (X = Jo (Q.take i)) ∧ Qb wr bw 31 #[.string X.h, .int .i64 X.a.y, .int .i64 X.a.m, .bool X.a.s, .int .i64 X.a.d, .int .i64 X.b.y, .int .i64 X.b.m, .bool X.b.s, .int .i64 X.b.d, .slice F1 X.o.length m1, .slice F2 X.d.length m2, .slice F3 X.c.length m3] ∧ WAt w10 wr X (.slice F1 X.o.length m1) (.slice F2 X.d.length m2) (.slice F3 X.c.length m3) ∧ Qa w10 wr) (fun iv _ => m + 1 - (intOf iv).toNat)
    case atStart => exact ⟨1, W0, t4, s4, t5, s5, t6, s6, Nat.le_refl _, hn0, rfl, (by rw [hW0.out, Sy (by rw [hQn]; omega), U7 (by rw [hQn]; omega)]; exact rfl), BW, .inl P0, hy⟩
    case round =>
     clear BW P0 hy hW0
     obtain ⟨i, X, F1, m1, F2, m2, F3, m3, hi1, him, rfl, hX, BW, WX, hE⟩ := hrel
     obtain ⟨wo, rfl⟩ := Qg wr
     have B1o := B1.ext hE
     by_cases hlt : i < m + 1
     ·have hltI : (i : Int) < (m : Int) + 1 := by omega
      obtain ⟨b1', off1, hDD, hb, hc⟩ := (hDS.ext hE) (by omega)
      obtain ⟨rfl, rfl⟩ : b = b1' ∧ off = off1 := by simpa using hDD
      clear hDD
      have c0 : wo.cell? ⟨b, off + i * 12, none⟩ = some (.string (Q.getD i Qk).h) := by simpa [Qq] using hc i 0 _ hlt rfl
      have c1 : wo.cell? ⟨b, off + i * 12 + 1, none⟩ = some (.int .i64 (Q.getD i Qk).a.y) := by simpa [Qq] using hc i 1 _ hlt rfl
      have c2 : wo.cell? ⟨b, off + i * 12 + 2, none⟩ = some (.int .i64 (Q.getD i Qk).a.m) := by simpa [Qq] using hc i 2 _ hlt rfl
      have c3 : wo.cell? ⟨b, off + i * 12 + 3, none⟩ = some (.bool (Q.getD i Qk).a.s) := by simpa [Qq] using hc i 3 _ hlt rfl
      have c4 : wo.cell? ⟨b, off + i * 12 + 4, none⟩ = some (.int .i64 (Q.getD i Qk).a.d) := by simpa [Qq] using hc i 4 _ hlt rfl
      have c5 : wo.cell? ⟨b, off + i * 12 + 5, none⟩ = some (.int .i64 (Q.getD i Qk).b.y) := by simpa [Qq] using hc i 5 _ hlt rfl
      have c6 : wo.cell? ⟨b, off + i * 12 + 6, none⟩ = some (.int .i64 (Q.getD i Qk).b.m) := by simpa [Qq] using hc i 6 _ hlt rfl
      have c7 : wo.cell? ⟨b, off + i * 12 + 7, none⟩ = some (.bool (Q.getD i Qk).b.s) := by simpa [Qq] using hc i 7 _ hlt rfl
      have c8 : wo.cell? ⟨b, off + i * 12 + 8, none⟩ = some (.int .i64 (Q.getD i Qk).b.d) := by simpa [Qq] using hc i 8 _ hlt rfl
      have c9 : wo.cell? ⟨b, off + i * 12 + 9, none⟩ = some (so i) := by simpa [Qq] using hc i 9 _ hlt rfl
      have c10 : wo.cell? ⟨b, off + i * 12 + 10, none⟩ = some (sd i) := by simpa [Qq] using hc i 10 _ hlt rfl
      have c11 : wo.cell? ⟨b, off + i * 12 + 11, none⟩ = some (sc i) := by simpa [Qq] using hc i 11 _ hlt rfl
      clear hc
      have P1 := (hatS.out i hlt).ext hE
      have st := ((hjn.out (i - 1) (by rw [hQn]; omega)).2 (by rw [hQn]; omega))
      rw [show i - 1 + 1 = i by omega, show i - 1 + 2 = i + 1 by omega, ← hX.out] at st
      obtain ⟨G, hG⟩ := Qg (Q.getD i Qk)
      rw [← hG] at P1 st c0 c1 c2 c3 c4 c5 c6 c7 c8
      clear hG
      generalize so i = v1 at P1 c9
      generalize sd i = v2 at P1 c10
      generalize sc i = v3 at P1 c11
      obtain ⟨t7, s7, e1, _⟩ := id P1.o
      subst e1
      obtain ⟨t8, s8, _, e2, _⟩ := id P1.d
      subst e2
      obtain ⟨t9, s9, e3, _⟩ := id P1.c
      subst e3
      have N2 := fun w h1 h2 h3 => joinO_any A A' ca cb c X G (.slice F1 X.o.length m1) (.slice F2 X.d.length m2) (.slice F3 X.c.length m3) (.slice t7 G.o.length s7) (.slice t8 G.d.length s8) (.slice t9 G.c.length s9) w h1 h2 h3
      rw [st.1] at N2
      have hY := Lib.hid st.2
      clear st
      generalize c.joinP X G = Y at *
      go_upto_region 25 with (fail)
      apply wp_cutG (S := fun w' F1 m1 F2 m2 F3 m3 p1 => Qa wo w' ∧ wo.heap.size ≤ p1 ∧ Qb w' p1 31 #[.string Y.h, .int .i64 Y.a.y, .int .i64 Y.a.m, .bool Y.a.s, .int .i64 Y.a.d, .int .i64 Y.b.y, .int .i64 Y.b.m, .bool Y.b.s, .int .i64 Y.b.d, .slice F1 Y.o.length m1, .slice F2 Y.d.length m2, .slice F3 Y.c.length m3] ∧ Zj w' w10.heap.size Y (.slice F1 Y.o.length m1) (.slice F2 Y.d.length m2) (.slice F3 Y.c.length m3))
      ·refine Q5 13 [8, 9, 11, 12] (fun x => Qa wo x) Qr rfl ?_
       intro vz hvz
       have HC := hvz
       refine Qp (g := 7) [0, 1, 2, 3, 4, 5] [_, _, _, _, _, _] ⟨rfl, rfl, rfl, rfl, rfl, rfl, trivial⟩ (by kernel_rfl) (by kernel_rfl) HC ?_
       simp only [Qd, Qe, Qf]
       apply Exists.intro
       refine ⟨fun u hu => ?_, ?_⟩
       ·obtain ⟨k0, k1⟩ := Qb.c2 (Qb.ext B1o hu)
        have kl := Qb.lt (Qb.ext B1o hu)
        obtain ⟨x0, x1, x2, x3, x4, x5, x6, x7, x8, x9, x10, x11⟩ := Qb.c12 (Qb.ext BW hu)
        have xl := Qb.lt (Qb.ext BW hu)
        have r0 := (hu.cell (p := ⟨b, off + i * 12, none⟩) hb).trans c0
        have r1 := (hu.cell (p := ⟨b, off + i * 12 + 1, none⟩) hb).trans c1
        have r2 := (hu.cell (p := ⟨b, off + i * 12 + 2, none⟩) hb).trans c2
        have r3 := (hu.cell (p := ⟨b, off + i * 12 + 3, none⟩) hb).trans c3
        have r4 := (hu.cell (p := ⟨b, off + i * 12 + 4, none⟩) hb).trans c4
        have r5 := (hu.cell (p := ⟨b, off + i * 12 + 5, none⟩) hb).trans c5
        have r6 := (hu.cell (p := ⟨b, off + i * 12 + 6, none⟩) hb).trans c6
        have r7 := (hu.cell (p := ⟨b, off + i * 12 + 7, none⟩) hb).trans c7
        have r8 := (hu.cell (p := ⟨b, off + i * 12 + 8, none⟩) hb).trans c8
        have r9 := (hu.cell (p := ⟨b, off + i * 12 + 9, none⟩) hb).trans c9
        have r10 := (hu.cell (p := ⟨b, off + i * 12 + 10, none⟩) hb).trans c10
        have r11 := (hu.cell (p := ⟨b, off + i * 12 + 11, none⟩) hb).trans c11
        have hbu := Nat.lt_of_lt_of_le hb hu.size
        repeat (first | go_big_quiet_skip | (go_big_quiet_want; go_big_quiet_op; go_big_quiet_on))
        refine wpQuiet_nil ?_
        rfl
       refine Zn 6 10 rfl rfl (by kernel_rfl) ?_ ?_
       ·simp only [Qd, Qe, Qf]
        have hz := Nat.le_trans hE.size HC.size
        go_wp2_with (go_at_call 12; (with_reducible refine Calls.mono (N2 _ (C.ext (hE.trans HC)) ((WX.ext HC).at (hE.trans HC)) (P1.ext HC)) ?_); rintro e wc ⟨vo', vd', vc', rfl, hj, PO0⟩; have PO := Zj.le PO0 hz; obtain ⟨G1, n1, rfl⟩ := Zo PO.o; obtain ⟨G2, n2, rfl⟩ := Xy PO.d; obtain ⟨G3, n3, rfl⟩ := Zo PO.c)
        replace HC := HC.trans hj
        try replace H10 := H10.ext hj
        clear hj hz PO0
        refine Qi HC ?_
        refine Qp (g := 5) [7] [_] ⟨rfl, trivial⟩ (by kernel_rfl) (by kernel_rfl) HC ?_
        simp only [Qd, Qe, Qf]
        apply Exists.intro
        refine ⟨fun u hu => ?_, ?_⟩
        ·obtain ⟨k0, k1⟩ := Qb.c2 (Qb.ext B1o hu)
         have kl := Qb.lt (Qb.ext B1o hu)
         obtain ⟨x0, x1, x2, x3, x4, x5, x6, x7, x8, x9, x10, x11⟩ := Qb.c12 (Qb.ext BW hu)
         have xl := Qb.lt (Qb.ext BW hu)
         have r0 := (hu.cell (p := ⟨b, off + i * 12, none⟩) hb).trans c0
         have r1 := (hu.cell (p := ⟨b, off + i * 12 + 1, none⟩) hb).trans c1
         have r2 := (hu.cell (p := ⟨b, off + i * 12 + 2, none⟩) hb).trans c2
         have r3 := (hu.cell (p := ⟨b, off + i * 12 + 3, none⟩) hb).trans c3
         have r4 := (hu.cell (p := ⟨b, off + i * 12 + 4, none⟩) hb).trans c4
         have r5 := (hu.cell (p := ⟨b, off + i * 12 + 5, none⟩) hb).trans c5
         have r6 := (hu.cell (p := ⟨b, off + i * 12 + 6, none⟩) hb).trans c6
         have r7 := (hu.cell (p := ⟨b, off + i * 12 + 7, none⟩) hb).trans c7
         have r8 := (hu.cell (p := ⟨b, off + i * 12 + 8, none⟩) hb).trans c8
         have r9 := (hu.cell (p := ⟨b, off + i * 12 + 9, none⟩) hb).trans c9
         have r10 := (hu.cell (p := ⟨b, off + i * 12 + 10, none⟩) hb).trans c10
         have r11 := (hu.cell (p := ⟨b, off + i * 12 + 11, none⟩) hb).trans c11
         have hbu := Nat.lt_of_lt_of_le hb hu.size
         repeat (first | go_big_quiet_skip | (go_big_quiet_want; go_big_quiet_op; go_big_quiet_on))
         refine wpQuiet_nil ?_
         rfl
        refine Jg (g := 3) [8, 9] [_, _] ⟨rfl, rfl, trivial⟩ (by kernel_rfl) (by kernel_rfl) ?_
        simp only [Qd, Qe, Qf]
        apply Exists.intro
        refine ⟨fun u hu => ?_, ?_⟩
        ·repeat (first | go_big_quiet_skip | (go_big_quiet_want; go_big_quiet_op; go_big_quiet_on))
         refine wpQuiet_nil ?_
         rfl
        refine Qj 10 rfl (by kernel_rfl) ?_
        simp only [Qd, Qe, Qf]
        go_wp2
        obtain ⟨p1, wb, hbq, hwb, H10, HC', hx, gp1⟩ := Q0 HC 31 #[.string ⟨#[]⟩, .int .i64 0, .int .i64 0, .bool false, .int .i64 0, .int .i64 0, .int .i64 0, .bool false, .int .i64 0, .slice none 0 0, .slice none 0 0, .slice none 0 0]
        rw [← hbq, ← hwb]
        replace HC := HC'
        try replace PO := PO.ext hx
        clear hbq hwb hx HC'
        refine Qi HC ?_
        refine Qn 11 rfl (by kernel_rfl) ?_
        simp only [Qd, Qe, Qf]
        obtain ⟨z0, z1, z2, z3, z4, z5, z6, z7, z8, z9, z10, z11⟩ := Qb.f12 H10
        obtain ⟨y0, y1, y2, y3, y4, y5, y6, y7, y8, y9, y10, y11⟩ := Qb.c12 H10
        have yl := Qb.lt H10
        go_wp2
        obtain ⟨wq, hq, HX, ko, kd, kh, ke⟩ := Wj H10 (by decide) (by decide) (.string Y.h) (.int .i64 Y.a.y) (.int .i64 Y.a.m) (.bool Y.a.s) (.int .i64 Y.a.d) (.int .i64 Y.b.y) (.int .i64 Y.b.m) (.bool Y.b.s) (.int .i64 Y.b.d) (.slice G1 Y.o.length n1) (.slice G2 Y.d.length n2) (.slice G3 Y.c.length n3)
        rw [← hq]
        replace PO := Zj.mk (ko PO.o) (kd PO.d) (ko PO.c)
        replace HC := ke HC gp1
        clear hq ko kd kh ke H10 z0 y0 z1 y1 z2 y2 z3 y3 z4 y4 z5 y5 z6 y6 z7 y7 z8 y8 z9 y9 z10 y10 z11 y11 yl
        refine Qm ?_
        refine Qn 12 rfl (by kernel_rfl) ?_
        simp only [Qd, Qe, Qf]
        go_wp2
        refine Qm ?_
        refine Qt (by kernel_rfl) ?_
        exact cutG_is G1 n1 G2 n2 G3 n3 p1 ⟨HC, gp1, HX, PO⟩ rfl
       ·simp only [Qd, Qe, Qf]
        go_wp2
        obtain ⟨p1, wb, hbq, hwb, H10, HC', hx, gp1⟩ := Q0 HC 31 #[.string ⟨#[]⟩, .int .i64 0, .int .i64 0, .bool false, .int .i64 0, .int .i64 0, .int .i64 0, .bool false, .int .i64 0, .slice none 0 0, .slice none 0 0, .slice none 0 0]
        rw [← hbq, ← hwb]
        replace HC := HC'
        try replace PO := PO.ext hx
        clear hbq hwb hx HC'
        refine Qi HC ?_
        refine Qj 6 rfl (by kernel_rfl) ?_
        simp only [Qd, Qe, Qf]
        have hz := Nat.le_trans hE.size HC.size
        go_wp2_with (go_at_call 12; (with_reducible refine Calls.mono (N2 _ (C.ext (hE.trans HC)) ((WX.ext HC).at (hE.trans HC)) (P1.ext HC)) ?_); rintro e wc ⟨vo', vd', vc', rfl, hj, PO0⟩; have PO := Zj.le PO0 hz; obtain ⟨G1, n1, rfl⟩ := Zo PO.o; obtain ⟨G2, n2, rfl⟩ := Xy PO.d; obtain ⟨G3, n3, rfl⟩ := Zo PO.c)
        replace HC := HC.trans hj
        try replace H10 := H10.ext hj
        clear hj hz PO0
        refine Qi HC ?_
        refine Qp (g := 4) [7] [_] ⟨rfl, trivial⟩ (by kernel_rfl) (by kernel_rfl) HC ?_
        simp only [Qd, Qe, Qf]
        apply Exists.intro
        refine ⟨fun u hu => ?_, ?_⟩
        ·obtain ⟨k0, k1⟩ := Qb.c2 (Qb.ext B1o hu)
         have kl := Qb.lt (Qb.ext B1o hu)
         obtain ⟨x0, x1, x2, x3, x4, x5, x6, x7, x8, x9, x10, x11⟩ := Qb.c12 (Qb.ext BW hu)
         have xl := Qb.lt (Qb.ext BW hu)
         have r0 := (hu.cell (p := ⟨b, off + i * 12, none⟩) hb).trans c0
         have r1 := (hu.cell (p := ⟨b, off + i * 12 + 1, none⟩) hb).trans c1
         have r2 := (hu.cell (p := ⟨b, off + i * 12 + 2, none⟩) hb).trans c2
         have r3 := (hu.cell (p := ⟨b, off + i * 12 + 3, none⟩) hb).trans c3
         have r4 := (hu.cell (p := ⟨b, off + i * 12 + 4, none⟩) hb).trans c4
         have r5 := (hu.cell (p := ⟨b, off + i * 12 + 5, none⟩) hb).trans c5
         have r6 := (hu.cell (p := ⟨b, off + i * 12 + 6, none⟩) hb).trans c6
         have r7 := (hu.cell (p := ⟨b, off + i * 12 + 7, none⟩) hb).trans c7
         have r8 := (hu.cell (p := ⟨b, off + i * 12 + 8, none⟩) hb).trans c8
         have r9 := (hu.cell (p := ⟨b, off + i * 12 + 9, none⟩) hb).trans c9
         have r10 := (hu.cell (p := ⟨b, off + i * 12 + 10, none⟩) hb).trans c10
         have r11 := (hu.cell (p := ⟨b, off + i * 12 + 11, none⟩) hb).trans c11
         have hbu := Nat.lt_of_lt_of_le hb hu.size
         repeat (first | go_big_quiet_skip | (go_big_quiet_want; go_big_quiet_op; go_big_quiet_on))
         refine wpQuiet_nil ?_
         rfl
        refine Jg (g := 2) [8, 9] [_, _] ⟨rfl, rfl, trivial⟩ (by kernel_rfl) (by kernel_rfl) ?_
        simp only [Qd, Qe, Qf]
        apply Exists.intro
        refine ⟨fun u hu => ?_, ?_⟩
        ·repeat (first | go_big_quiet_skip | (go_big_quiet_want; go_big_quiet_op; go_big_quiet_on))
         refine wpQuiet_nil ?_
         rfl
        refine Qn 11 rfl (by kernel_rfl) ?_
        simp only [Qd, Qe, Qf]
        obtain ⟨z0, z1, z2, z3, z4, z5, z6, z7, z8, z9, z10, z11⟩ := Qb.f12 H10
        obtain ⟨y0, y1, y2, y3, y4, y5, y6, y7, y8, y9, y10, y11⟩ := Qb.c12 H10
        have yl := Qb.lt H10
        go_wp2
        obtain ⟨wq, hq, HX, ko, kd, kh, ke⟩ := Wj H10 (by decide) (by decide) (.string Y.h) (.int .i64 Y.a.y) (.int .i64 Y.a.m) (.bool Y.a.s) (.int .i64 Y.a.d) (.int .i64 Y.b.y) (.int .i64 Y.b.m) (.bool Y.b.s) (.int .i64 Y.b.d) (.slice G1 Y.o.length n1) (.slice G2 Y.d.length n2) (.slice G3 Y.c.length n3)
        rw [← hq]
        replace PO := Zj.mk (ko PO.o) (kd PO.d) (ko PO.c)
        replace HC := ke HC gp1
        clear hq ko kd kh ke H10 z0 y0 z1 y1 z2 y2 z3 y3 z4 y4 z5 y5 z6 y6 z7 y7 z8 y8 z9 y9 z10 y10 z11 y11 yl
        refine Qm ?_
        refine Qn 12 rfl (by kernel_rfl) ?_
        simp only [Qd, Qe, Qf]
        go_wp2
        refine Qm ?_
        refine Qt (by kernel_rfl) ?_
        exact cutG_is G1 n1 G2 n2 G3 n3 p1 ⟨HC, gp1, HX, PO⟩ rfl
      rintro G1 n1 G2 n2 G3 n3 p1 w4 ⟨h4, gp1, HY, PO⟩
      clear N2 c0 c1 c2 c3 c4 c5 c6 c7 c8 c9 c10 c11 hb P1
      replace BW := BW.ext h4
      have hE4 := hE.trans h4
      obtain ⟨z0, z1, z2, z3, z4, z5, z6, z7, z8, z9, z10, z11⟩ := Qb.f12 BW
      obtain ⟨x0, x1, x2, x3, x4, x5, x6, x7, x8, x9, x10, x11⟩ := Qb.c12 BW
      have xl := Qb.lt BW
      obtain ⟨y0, y1, y2, y3, y4, y5, y6, y7, y8, y9, y10, y11⟩ := Qb.c12 HY
      have yl := Qb.lt HY
      go_wp2
      obtain ⟨wq, hq, HX, ko, kd, kh, ke⟩ := Wj BW (by decide) (by decide) (.string Y.h) (.int .i64 Y.a.y) (.int .i64 Y.a.m) (.bool Y.a.s) (.int .i64 Y.a.d) (.int .i64 Y.b.y) (.int .i64 Y.b.m) (.bool Y.b.s) (.int .i64 Y.b.d) (.slice G1 Y.o.length n1) (.slice G2 Y.d.length n2) (.slice G3 Y.c.length n3)
      rw [← hq]
      exact ⟨⟨i + 1, Y, G1, n1, G2, n2, G3, n3, by omega, by omega, by go_num, hY, HX, .inr ⟨ko PO.o, kd PO.d, ko PO.c⟩, ke hE4 hbw⟩, by simp [intOf]; omega⟩
     ·have hi2 : i = m + 1 := by omega
      have hXp : X = p := by rw [hX.out, hi2, ← hQn, List.take_length]; exact hjp.out
      clear hX hjp
      subst hi2
      subst hXp
      clear hjn hatS hDS hall hlk
      have hltI : ¬ ((m : Int) + 1 < (m : Int) + 1) := by omega
      have LX := WX.at hE
      replace B2 := B2.ext hE
      replace P := P.ext hE
      replace LS := LS.ext hE
      obtain ⟨x0, x1, x2, x3, x4, x5, x6, x7, x8, x9, x10, x11⟩ := Qb.c12 BW
      have xl := Qb.lt BW
      obtain ⟨k0, k1⟩ := Qb.c2 B1o
      have kl := Qb.lt B1o
      go_upto_region 30 with (go_at_call 6; (with_reducible refine Calls.mono (N1 _ _ _ _ (C.ext hE) LX) ?_); rintro e w5 ⟨vx, rfl, h5, L5⟩; obtain ⟨A6, c6, e5, _⟩ := id L5; subst e5)
      replace hE := hE.trans h5
      replace BW := BW.ext h5
      replace LX := LX.ext h5
      replace B2 := B2.ext h5
      replace P := P.ext h5
      replace LS := LS.ext h5
      clear h5 k0 k1 kl N1 x0 x1 x2 x3 x4 x5 x6 x7 x8 x9 x10 x11 xl B1o WX
      obtain ⟨x0, x1, x2, x3, x4, x5, x6, x7, x8, x9, x10, x11⟩ := Qb.c12 BW
      have xl := Qb.lt BW
      obtain ⟨q0, q1, q2, q3, q4, q5, q6, q7, q8, q9, q10, q11⟩ := Qb.c12 B2
      have ql := Qb.lt B2
      have NZ := fun w h => O6 w h
      go_wp2_with (first | (go_at_call 11; (with_reducible refine Calls.mono (sameQ_any (.slice A6 S.length c6) (.slice A5 S.length c5) S _ L5 LS) ?_); rintro e wz ⟨rfl, hx⟩; replace hE := hE.trans hx; replace BW := BW.ext hx; replace LX := LX.ext hx; replace B2 := B2.ext hx; replace P := P.ext hx; replace LS := LS.ext hx; replace L5 := L5.ext hx; clear hx x0 x1 x2 x3 x4 x5 x6 x7 x8 x9 x10 x11 xl q0 q1 q2 q3 q4 q5 q6 q7 q8 q9 q10 q11 ql; obtain ⟨x0, x1, x2, x3, x4, x5, x6, x7, x8, x9, x10, x11⟩ := Qb.c12 BW; have xl := Qb.lt BW; obtain ⟨q0, q1, q2, q3, q4, q5, q6, q7, q8, q9, q10, q11⟩ := Qb.c12 B2; have ql := Qb.lt B2) | (go_at_call 11; (with_reducible refine Calls.mono (sameQ_any (.slice F3 X.c.length m3) (.slice t3 X.c.length s3) X.c _ LX.c P.c) ?_); rintro e wz ⟨rfl, hx⟩; replace hE := hE.trans hx; replace BW := BW.ext hx; replace LX := LX.ext hx; replace B2 := B2.ext hx; replace P := P.ext hx; replace LS := LS.ext hx; replace L5 := L5.ext hx; clear hx x0 x1 x2 x3 x4 x5 x6 x7 x8 x9 x10 x11 xl q0 q1 q2 q3 q4 q5 q6 q7 q8 q9 q10 q11 ql; obtain ⟨x0, x1, x2, x3, x4, x5, x6, x7, x8, x9, x10, x11⟩ := Qb.c12 BW; have xl := Qb.lt BW; obtain ⟨q0, q1, q2, q3, q4, q5, q6, q7, q8, q9, q10, q11⟩ := Qb.c12 B2; have ql := Qb.lt B2) | (go_at_call 11; (with_reducible refine Calls.mono (sameQ_any (.slice F1 X.o.length m1) (.slice t1 X.o.length s1) X.o _ LX.o P.o) ?_); rintro e wz ⟨rfl, hx⟩; replace hE := hE.trans hx; replace BW := BW.ext hx; replace LX := LX.ext hx; replace B2 := B2.ext hx; replace P := P.ext hx; replace LS := LS.ext hx; replace L5 := L5.ext hx; clear hx x0 x1 x2 x3 x4 x5 x6 x7 x8 x9 x10 x11 xl q0 q1 q2 q3 q4 q5 q6 q7 q8 q9 q10 q11 ql; obtain ⟨x0, x1, x2, x3, x4, x5, x6, x7, x8, x9, x10, x11⟩ := Qb.c12 BW; have xl := Qb.lt BW; obtain ⟨q0, q1, q2, q3, q4, q5, q6, q7, q8, q9, q10, q11⟩ := Qb.c12 B2; have ql := Qb.lt B2) | (go_at_call 7; (with_reducible refine Calls.mono (O6 _ (Z.ext hE)) ?_); rintro e wz ⟨rfl, hx⟩; replace hE := hE.trans hx))
      go_ret
      exact ⟨rfl, E.trans hE⟩
  obtain ⟨hlt, h12⟩ := hm
  have hI : (k : Int) < 12 := by omega
  obtain ⟨b, off, rfl⟩ := rows_some hD (by omega)
  obtain ⟨hb, c0⟩ := int_getS ((hD.ext E).ext hE) hlt
  have NAk := fun w h => NA k w h hlt
  have hat := fun h => Ap (c := c) (n := g k) h
  generalize c.atV (g k) = D at *
  generalize c.atE (g k) = de at *
  replace hat := Lib.hid hat
  go_upto_region 9 with (fail)
  apply wp_cutB (S := fun w' p1 => Qa wo w' ∧ Qb w' p1 27 #[.int .i64 D.y, .int .i64 D.m, .bool D.s, .int .i64 D.d])
  ·refine Q5 12 [7, 8, 10, 11] (fun x => Qa wo x) Qr rfl ?_
   intro vz hvz
   have HC := hvz
   refine Qp (g := 7) [0, 1, 2, 3, 4] [_, _, _, _, _] ⟨rfl, rfl, rfl, rfl, rfl, trivial⟩ (by kernel_rfl) (by kernel_rfl) HC ?_
   simp only [Qd, Qe, Qf]
   apply Exists.intro
   refine ⟨fun u hu => ?_, ?_⟩
   ·obtain ⟨k0, k1⟩ := Qb.c2 (Qb.ext B1o hu)
    have kl := Qb.lt (Qb.ext B1o hu)
    have r0 := (hu.cell (p := ⟨b, off + k, none⟩) hb).trans c0
    have hbu := Nat.lt_of_lt_of_le hb hu.size
    repeat (first | go_big_quiet_skip | (go_big_quiet_want; go_big_quiet_op; go_big_quiet_on))
    refine wpQuiet_nil ?_
    rfl
   refine Zn 5 9 rfl rfl (by kernel_rfl) ?_ ?_
   ·simp only [Qd, Qe, Qf]
    go_wp2_with (go_at_call 8; (with_reducible refine Calls.mono (NAk _ (C.ext (hE.trans HC))) ?_); rintro e wc ⟨rfl, hj⟩)
    replace HC := HC.trans hj
    try replace H10 := H10.ext hj
    clear hj
    refine Qi HC ?_
    refine Qp (g := 5) [6] [_] ⟨rfl, trivial⟩ (by kernel_rfl) (by kernel_rfl) HC ?_
    simp only [Qd, Qe, Qf]
    apply Exists.intro
    refine ⟨fun u hu => ?_, ?_⟩
    ·obtain ⟨k0, k1⟩ := Qb.c2 (Qb.ext B1o hu)
     have kl := Qb.lt (Qb.ext B1o hu)
     have r0 := (hu.cell (p := ⟨b, off + k, none⟩) hb).trans c0
     have hbu := Nat.lt_of_lt_of_le hb hu.size
     repeat (first | go_big_quiet_skip | (go_big_quiet_want; go_big_quiet_op; go_big_quiet_on))
     refine wpQuiet_nil ?_
     rfl
    refine Jg (g := 3) [7, 8] [_, _] ⟨rfl, rfl, trivial⟩ (by kernel_rfl) (by kernel_rfl) ?_
    simp only [Qd, Qe, Qf]
    apply Exists.intro
    refine ⟨fun u hu => ?_, ?_⟩
    ·repeat (first | go_big_quiet_skip | (go_big_quiet_want; go_big_quiet_op; go_big_quiet_on))
     refine wpQuiet_nil ?_
     rfl
    refine Qj 9 rfl (by kernel_rfl) ?_
    simp only [Qd, Qe, Qf]
    go_wp2
    obtain ⟨p1, wb, hbq, hwb, H10, HC', hx, gp1⟩ := Q0 HC 27 #[.int .i64 0, .int .i64 0, .bool false, .int .i64 0]
    rw [← hbq, ← hwb]
    replace HC := HC'
    clear hbq hwb hx HC'
    refine Qi HC ?_
    refine Qn 10 rfl (by kernel_rfl) ?_
    simp only [Qd, Qe, Qf]
    have z0 := Qb.frozen H10 0
    have z1 := Qb.frozen H10 1
    have z2 := Qb.frozen H10 2
    have z3 := Qb.frozen H10 3
    obtain ⟨y0, y1, y2, y3⟩ := Qb.c4 H10
    have yl := Qb.lt H10
    go_wp2
    have HX : Qb _ p1 27 #[.int .i64 D.y, .int .i64 D.m, .bool D.s, .int .i64 D.d] := J4 (J4 (J4 (J4 H10 0 (.int .i64 D.y)) 1 (.int .i64 D.m)) 2 (.bool D.s)) 3 (.int .i64 D.d)
    replace HC := (((HC.setCell (p := ⟨p1, 0, none⟩) gp1 (.int .i64 D.y)).setCell (p := ⟨p1, 1, none⟩) gp1 (.int .i64 D.m)).setCell (p := ⟨p1, 2, none⟩) gp1 (.bool D.s)).setCell (p := ⟨p1, 3, none⟩) gp1 (.int .i64 D.d)
    clear H10 z0 z1 z2 z3 y0 y1 y2 y3 yl
    refine Qm ?_
    refine Qn 11 rfl (by kernel_rfl) ?_
    simp only [Qd, Qe, Qf]
    go_wp2
    refine Qm ?_
    refine Qt (by kernel_rfl) ?_
    exact cutB_is p1 ⟨HC, HX⟩ rfl
   ·simp only [Qd, Qe, Qf]
    go_wp2
    obtain ⟨p1, wb, hbq, hwb, H10, HC', hx, gp1⟩ := Q0 HC 27 #[.int .i64 0, .int .i64 0, .bool false, .int .i64 0]
    rw [← hbq, ← hwb]
    replace HC := HC'
    clear hbq hwb hx HC'
    refine Qi HC ?_
    refine Qj 5 rfl (by kernel_rfl) ?_
    simp only [Qd, Qe, Qf]
    go_wp2_with (go_at_call 8; (with_reducible refine Calls.mono (NAk _ (C.ext (hE.trans HC))) ?_); rintro e wc ⟨rfl, hj⟩)
    replace HC := HC.trans hj
    try replace H10 := H10.ext hj
    clear hj
    refine Qi HC ?_
    refine Qp (g := 4) [6] [_] ⟨rfl, trivial⟩ (by kernel_rfl) (by kernel_rfl) HC ?_
    simp only [Qd, Qe, Qf]
    apply Exists.intro
    refine ⟨fun u hu => ?_, ?_⟩
    ·obtain ⟨k0, k1⟩ := Qb.c2 (Qb.ext B1o hu)
     have kl := Qb.lt (Qb.ext B1o hu)
     have r0 := (hu.cell (p := ⟨b, off + k, none⟩) hb).trans c0
     have hbu := Nat.lt_of_lt_of_le hb hu.size
     repeat (first | go_big_quiet_skip | (go_big_quiet_want; go_big_quiet_op; go_big_quiet_on))
     refine wpQuiet_nil ?_
     rfl
    refine Jg (g := 2) [7, 8] [_, _] ⟨rfl, rfl, trivial⟩ (by kernel_rfl) (by kernel_rfl) ?_
    simp only [Qd, Qe, Qf]
    apply Exists.intro
    refine ⟨fun u hu => ?_, ?_⟩
    ·repeat (first | go_big_quiet_skip | (go_big_quiet_want; go_big_quiet_op; go_big_quiet_on))
     refine wpQuiet_nil ?_
     rfl
    refine Qn 10 rfl (by kernel_rfl) ?_
    simp only [Qd, Qe, Qf]
    have z0 := Qb.frozen H10 0
    have z1 := Qb.frozen H10 1
    have z2 := Qb.frozen H10 2
    have z3 := Qb.frozen H10 3
    obtain ⟨y0, y1, y2, y3⟩ := Qb.c4 H10
    have yl := Qb.lt H10
    go_wp2
    have HX : Qb _ p1 27 #[.int .i64 D.y, .int .i64 D.m, .bool D.s, .int .i64 D.d] := J4 (J4 (J4 (J4 H10 0 (.int .i64 D.y)) 1 (.int .i64 D.m)) 2 (.bool D.s)) 3 (.int .i64 D.d)
    replace HC := (((HC.setCell (p := ⟨p1, 0, none⟩) gp1 (.int .i64 D.y)).setCell (p := ⟨p1, 1, none⟩) gp1 (.int .i64 D.m)).setCell (p := ⟨p1, 2, none⟩) gp1 (.bool D.s)).setCell (p := ⟨p1, 3, none⟩) gp1 (.int .i64 D.d)
    clear H10 z0 z1 z2 z3 y0 y1 y2 y3 yl
    refine Qm ?_
    refine Qn 11 rfl (by kernel_rfl) ?_
    simp only [Qd, Qe, Qf]
    go_wp2
    refine Qm ?_
    refine Qt (by kernel_rfl) ?_
    exact cutB_is p1 ⟨HC, HX⟩ rfl
  rintro bd w4 ⟨h4, BD⟩
  clear c0 hb NAk B1o
  by_cases ed : de = 0
  rotate_left
  ·have g0 : (de == 0) = false := beq_eq_false_iff_ne.2 ed
   have g0n : (de != 0) = true := by rw [bne, g0]; rfl
   clear hat hO hLo
   go_wp2
   exact ⟨⟨k + 1, L, R, F1, m1, F2, m2, F3, m3, by omega, by omega, by omega, by go_num, PL.ext h4, hT, BR.ext h4, WR.ext h4, hE.trans h4⟩, by simp [intOf]; omega⟩
  subst ed
  have hst := Lib.hid (Qeo (d := D) hv hT.out (hat.out rfl))
  clear hat
  have N3 := fun w h1 h2 => divideO_any A A' ca cb c R (.slice F1 R.o.length m1) (.slice F2 R.d.length m2) (.slice F3 R.c.length m3) D w h1 h2
  generalize c.divE R D = RE at *
  generalize c.divP R D = XY at *
  obtain ⟨X, Y⟩ := XY
  simp only at N3 hst
  replace hst : Hid (RE = 8 ∨ (RE = 0 ∧ Ue c p S (L ++ [X]) Y)) := hst
  have B1o := B1.ext (hE.trans h4)
  have BR4 := BR.ext h4
  obtain ⟨k0, k1⟩ := Qb.c2 B1o
  have kl := Qb.lt B1o
  obtain ⟨d0, d1, d2, d3⟩ := Qb.c4 BD
  have dl := Qb.lt BD
  obtain ⟨x0, x1, x2, x3, x4, x5, x6, x7, x8, x9, x10, x11⟩ := Qb.c12 BR4
  have xl := Qb.lt BR4
  have hz4 := (hE.trans h4).size
  go_upto_region 12 with (go_at_call 9; (with_reducible refine Calls.mono (N3 _ (C.ext (hE.trans h4)) ((WR.ext h4).at (hE.trans h4))) ?_); rintro e w6 ⟨xo, xd, xc, yo, yd, yc, rfl, h6, PX0, PY0⟩; have PX := Zj.le PX0 (Nat.le_trans hz5 h4.size); have PY := Zj.le PY0 hz4; obtain ⟨G1, n1, rfl⟩ := Zo PX.o; obtain ⟨G2, n2, rfl⟩ := Xy PX.d; obtain ⟨G3, n3, rfl⟩ := Zo PX.c; obtain ⟨U1, q1, rfl⟩ := Zo PY.o; obtain ⟨U2, q2, rfl⟩ := Xy PY.d; obtain ⟨U3, q3, rfl⟩ := Zo PY.c; clear PX0 PY0 N3 k0 k1 kl d0 d1 d2 d3 dl x0 x1 x2 x3 x4 x5 x6 x7 x8 x9 x10 x11 xl)
  obtain ⟨v7, hv7⟩ := Qg ((w6.alloc (.cells #[.string X.h, .int .i64 X.a.y, .int .i64 X.a.m, .bool X.a.s, .int .i64 X.a.d, .int .i64 X.b.y, .int .i64 X.b.m, .bool X.b.s, .int .i64 X.b.d, .slice G1 X.o.length n1, .slice G2 X.d.length n2, .slice G3 X.c.length n3] 31)).alloc (.cells #[.string Y.h, .int .i64 Y.a.y, .int .i64 Y.a.m, .bool Y.a.s, .int .i64 Y.a.d, .int .i64 Y.b.y, .int .i64 Y.b.m, .bool Y.b.s, .int .i64 Y.b.d, .slice U1 Y.o.length q1, .slice U2 Y.d.length q2, .slice U3 Y.c.length q3] 31))
  rw [← hv7]
  have h7 : Qa w6 v7 := by rw [hv7]; exact ((Qa.refl _).alloc _).alloc _
  have BX : Qb v7 w6.heap.size 31 #[.string X.h, .int .i64 X.a.y, .int .i64 X.a.m, .bool X.a.s, .int .i64 X.a.d, .int .i64 X.b.y, .int .i64 X.b.m, .bool X.b.s, .int .i64 X.b.d, .slice G1 X.o.length n1, .slice G2 X.d.length n2, .slice G3 X.c.length n3] := by rw [hv7]; exact (Qb.new _ _ _).alloc _
  have BY : Qb v7 (w6.heap.size + 1) 31 #[.string Y.h, .int .i64 Y.a.y, .int .i64 Y.a.m, .bool Y.a.s, .int .i64 Y.a.d, .int .i64 Y.b.y, .int .i64 Y.b.m, .bool Y.b.s, .int .i64 Y.b.d, .slice U1 Y.o.length q1, .slice U2 Y.d.length q2, .slice U3 Y.c.length q3] := by rw [hv7]; exact Qb.at _ _ _ _ (by simp)
  clear hv7
  obtain ⟨bx, hbx⟩ := Qg (w6.heap.size)
  rw [← hbx] at BX BY ⊢
  have h46 := h4.trans h6
  have h47 := h46.trans h7
  have hbo : wo.heap.size ≤ bx := by have := h46.size; omega
  have hr1 := hE.size
  clear hbx B1o BR4 BD
  replace PX := PX.ext h7
  replace PY := PY.ext h7
  go_upto_region 12 with (fail)
  rcases hst.out with e8 | ⟨e8, hT'⟩
  ·subst e8
   clear hst hO hLo PX PY BX BY
   go_wp2
   exact ⟨⟨k + 1, L, R, F1, m1, F2, m2, F3, m3, by omega, by omega, by omega, by go_num, PL.ext h47, hT, BR.ext h47, WR.ext h47, hE.trans h47⟩, by simp [intOf]; omega⟩
  subst e8
  clear hst hT
  replace hT' := Lib.hid hT'
  have hO7 := Zp hO h47
  have hL7 := fun i hi => (hLo.out i hi).ext h47
  clear hO hLo PL
  obtain ⟨x0, x1, x2, x3, x4, x5, x6, x7, x8, x9, x10, x11⟩ := Qb.c12 BX
  have xl := Qb.lt BX
  go_upto_region 16 with (at_builtin; refine wpList_append_own_at _ rfl _ _ 37 rfl v5.heap.size 31 i0 (.agg #[.string ⟨#[]⟩, .int .i64 0, .int .i64 0, .bool false, .int .i64 0, .int .i64 0, .int .i64 0, .bool false, .int .i64 0, .slice none 0 0, .slice none 0 0, .slice none 0 0]) 12 152 Tryd.underlying37 hi hz0 hz1 hz2 rfl (by decide) _ _ _ rfl (hO7.alloc _) ⟨v7.heap.size, 0, none⟩ 1 1 (Qq X (.slice G1 X.o.length n1) (.slice G2 X.d.length n2) (.slice G3 X.c.length n3)) rfl rfl (U4 _ _ _) (Lq _ _ _ _ _ _ _ _ _ _) (by unfold maxLen; omega) (by omega) (by have := h47.size; simp; omega) ?_; intro o' w8 hown hgrow _ _)
  clear x0 x1 x2 x3 x4 x5 x6 x7 x8 x9 x10 x11 xl
  obtain ⟨FN, mN, rfl⟩ := Zo hown
  obtain ⟨he1, he2⟩ := last_of (L := L) (x := X) rfl
  have hq : ∀ q, (Value.slice FO L.length mO).ownBlock = some q → v5.heap.size ≤ q ∧ q < wo.heap.size := hq0.out
  have D8 : Yc w8 v5.heap.size (.slice FN (L.length + 1) mN) (L.length + 1) (fun i => (L ++ [X]).getD i Qk) := pers_push2 he1 hO7 hL7 (by rw [he2]; exact PX) (by rw [he2]; exact hown) hgrow
  have BR8 : Qb w8 br 31 #[.string R.h, .int .i64 R.a.y, .int .i64 R.a.m, .bool R.a.s, .int .i64 R.a.d, .int .i64 R.b.y, .int .i64 R.b.m, .bool R.b.s, .int .i64 R.b.d, .slice F1 R.o.length m1, .slice F2 R.d.length m2, .slice F3 R.c.length m3] := ((BR.ext h47).alloc _).kept hgrow (by
   intro h; have := (hq _ h.symm).1; omega)
  have BY8 : Qb w8 (bx + 1) 31 #[.string Y.h, .int .i64 Y.a.y, .int .i64 Y.a.m, .bool Y.a.s, .int .i64 Y.a.d, .int .i64 Y.b.y, .int .i64 Y.b.m, .bool Y.b.s, .int .i64 Y.b.d, .slice U1 Y.o.length q1, .slice U2 Y.d.length q2, .slice U3 Y.c.length q3] := (BY.alloc _).kept hgrow (by
   intro h; have := (hq _ h.symm).2; omega)
  have PY8 := Zj.kept (PY.alloc (.cells #[.string X.h, .int .i64 X.a.y, .int .i64 X.a.m, .bool X.a.s, .int .i64 X.a.d, .int .i64 X.b.y, .int .i64 X.b.m, .bool X.b.s, .int .i64 X.b.d, .slice G1 X.o.length n1, .slice G2 X.d.length n2, .slice G3 X.c.length n3] 31)) (hO7.alloc (.cells #[.string X.h, .int .i64 X.a.y, .int .i64 X.a.m, .bool X.a.s, .int .i64 X.a.d, .int .i64 X.b.y, .int .i64 X.b.m, .bool X.b.s, .int .i64 X.b.d, .slice G1 X.o.length n1, .slice G2 X.d.length n2, .slice G3 X.c.length n3] 31)) hgrow rfl
  have E8 : Qa w1 w8 := ((hE.trans h47).alloc _).grown hgrow (fun q h => by have := (hq q h).1; omega)
  clear hO7 hL7 hown hgrow PX BX PY BY BR WR hq
  obtain ⟨z0, z1, z2, z3, z4, z5, z6, z7, z8, z9, z10, z11⟩ := Qb.f12 BR8
  obtain ⟨x0, x1, x2, x3, x4, x5, x6, x7, x8, x9, x10, x11⟩ := Qb.c12 BR8
  have xl := Qb.lt BR8
  obtain ⟨y0, y1, y2, y3, y4, y5, y6, y7, y8, y9, y10, y11⟩ := Qb.c12 BY8
  have yl := Qb.lt BY8
  go_wp2
  obtain ⟨wq, hwq, HX, ko, kd, kh, ke⟩ := Wj BR8 (by decide) (by decide) (.string Y.h) (.int .i64 Y.a.y) (.int .i64 Y.a.m) (.bool Y.a.s) (.int .i64 Y.a.d) (.int .i64 Y.b.y) (.int .i64 Y.b.m) (.bool Y.b.s) (.int .i64 Y.b.d) (.slice U1 Y.o.length q1) (.slice U2 Y.d.length q2) (.slice U3 Y.c.length q3)
  obtain ⟨ro8, rd8, rc8, hO8, hL8⟩ := D8
  have hO9 := own12B hO8 hb5 (.string Y.h) (.int .i64 Y.a.y) (.int .i64 Y.a.m) (.bool Y.a.s) (.int .i64 Y.a.d) (.int .i64 Y.b.y) (.int .i64 Y.b.m) (.bool Y.b.s) (.int .i64 Y.b.d) (.slice U1 Y.o.length q1) (.slice U2 Y.d.length q2) (.slice U3 Y.c.length q3)
  rw [← hwq] at hO9 ⊢
  exact ⟨⟨k + 1, L ++ [X], Y, U1, q1, U2, q2, U3, q3, by omega, by omega, by rw [List.length_append]; simp; omega, by go_num, ⟨ro8, rd8, rc8, by rw [List.length_append]; exact hO9, fun i hi => by
   have := hL8 i (by rw [List.length_append] at hi; exact hi)
   exact ⟨ko this.o, kd this.d, ko this.c⟩⟩, hT', HX, .inr ⟨ko PY8.o, kd PY8.d, ko PY8.c⟩, ke E8 hbr⟩, by simp [intOf]; omega⟩
end Go.Proofs.YtneiofnlmblglaaDoor