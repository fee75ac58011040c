/- Walks of the program's functions and plain facts, packed; proved: the lemmas below; no conditions but those that each states. -/
import Derived.Test.YtneiofnlmblglaaDoorU9
import Derived.Test.YtneiofnlmblglaaDoorU6
import Derived.Shelf.Spec.SlicesGrow
import Derived.Laws.AppendOwnNone
import Derived.Test.YtneiofnlmblglaaDoorU4
import Derived.Test.YtneiofnlmblglaaDoorU5
set_option maxRecDepth 100000
set_option maxHeartbeats 4000000
namespace Go.Proofs.YtneiofnlmblglaaDoor
section
open Go Go.RowKit Go.Shelf
attribute [local go_sem] Zi
theorem Tl {f : Nat → List Value} {sz : Nat} (hf : ∀ i, (f i).length = sz) {i j : Nat} (hj : j < sz) (u : Value) : ∀ {n}, i < n → (Qz f n).set (i * sz + j) u = Qz (fun y => if y = i then (f i).set j u else f y) n
 | n + 1, hi => by
  have hl := Yy (f := f) (sz := sz) hf n
  rw [X0, X0]
  by_cases e : i = n
  ·subst e
   rw [List.set_append_right _ _ (by omega), hl, if_pos rfl, show i * sz + j - i * sz = j by omega]
   rw [Uj (f' := fun y => if y = i then (f i).set j u else f y) i (fun y hy => by simp [show y ≠ i by omega])]
  ·have hin : i < n := by omega
   have hb : i * sz + j < n * sz := by
    have h1 : (i + 1) * sz ≤ n * sz := Nat.mul_le_mul_right _ hin
    rw [Nat.succ_mul] at h1; omega
   rw [List.set_append_left _ _ (by omega), Tl hf hj u hin, if_neg (by omega)]
theorem Iy (g : Nat → Dl) (vs : Nat → Value) {n k : Nat} (hk : k < n) (u : Value) : (Qz (fun i => Qu (g i) (vs i)) n).set (k * 7 + 6) u = Qz (fun i => Qu (g i) (if i = k then u else vs i)) n := by
 rw [Tl (f := fun i => Qu (g i) (vs i)) (sz := 7) (fun _ => rfl) (by decide) u hk]
 refine Uj n (fun i _ => ?_)
 by_cases e : i = k
 ·subst e; simp [Qu]
 ·simp [e]
theorem Iz {w : World} {base q n cap k : Nat} {g : Nat → Dl} {vs : Nat → Value} (h : w.ownsRow base 67 7 (.slice (some ⟨q, 0, none⟩) n cap) n (Qz (fun i => Qu (g i) (vs i)) n)) (hk : k < n) : w.cell? ⟨q, k * 7 + 6, none⟩ = some (vs k) := by
 rw [World.ownsRow.cellAt h (k * 7 + 6) (by omega), Wr (f := fun i => Qu (g i) (vs i)) (sz := 7) (fun _ => rfl) hk (by decide)]
 rfl
theorem Oo {w : World} {g : Nat → Dl} {vs : Nat → Value} {n : Nat} (h : ∀ i, i < n → Zf w (vs i) (g i).l) : ∀ u ∈ Qz (fun i => Qu (g i) (vs i)) n, u.oneCell' = true := fun u hu => by
 obtain ⟨i, hi, hm⟩ := List.mem_flatMap.1 hu
 obtain ⟨A, c, hv, _⟩ := h i (List.mem_range.1 hi)
 rw [hv] at hm
 exact Ep _ _ _ _ u hm
theorem Pg {W : World} {base : Nat} {e : TypeId} {sz : Nat} {g n cap : Nat} {xs : List Value} {v : Value} {l : List Lt} (h : Yl W base v l) (hO : W.ownsRow base e sz (.slice (some ⟨g, 0, none⟩) n cap) n xs) (hne : 71 ≠ e) (j : Nat) (u : Value) : Yl (W.setCell ⟨g, j, none⟩ u) base v l :=
 World.ownsRow.kept h (World.ownsRow.stored hO j u).2 (K4 h hO hne)
theorem Ia (v : Value) (l : List Dl) (w : World) (hD : J2 w v l) (hn : l.length ≤ 1000000) :
  Calls Tryd.prog 54 #[v] w fun e w' => ∃ v', e = .returned v' ∧ Qa w w' ∧ ∃ vs : Nat → Value, w'.ownsRow w.heap.size 67 7 v' l.length (Qz (fun i => Qu (l.getD i Qv) (vs i)) l.length) ∧ ∀ i, i < l.length → Zf w (vs i) (l.getD i Qv).l := by
 obtain ⟨T, cap, vs, rfl, hT, hcap, hmax, hnil, hat⟩ := hD
 have hone := Oo (g := fun i => l.getD i Qv) hat
 obtain ⟨g, hg⟩ := Qg (fun i => l.getD i Qv)
 have hg' : ∀ i, l.getD i Qv = g i := fun i => by rw [hg]
 simp only [hg'] at hT hat hone ⊢
 clear hg hg'
 generalize l.length = n at *
 replace hat := Lib.hid hat
 have q23 : ∀ (w : World) (a : Option Addr) (n c n' c' : Nat), (binOp .eql 29 (.slice a n c) (.slice none n' c')).run Tryd.prog w = .ok (.bool a.isNone) w := fun w a n c n' c' => Lib.run_eql_slice_nil w _ _ a n c n' c' Tryd.underlying29
 cases T with
 | none =>
  obtain ⟨rfl, rfl⟩ := hnil rfl
  go_enter Tryd.func54, Tryd.ntmps54
  go_wp2
  go_ret
  first | exact ⟨_, rfl, Qa.refl _, vs, World.ownsRow_nil _ _ _ _, hat.out⟩ | exact ⟨_, rfl, Qa.refl _, vs, World.ownsRow_nil _ _ _ _⟩
 | some a =>
  obtain ⟨i0, hi, hz0, hz1, hz2⟩ := info_parts Ox
  have hlen := Yy (f := fun i => Qu (g i) (vs i)) (sz := 7) (fun _ => rfl) n
  have HN := fun v (h : Qo v (some a) n 7 (fun i => Qu (g i) (vs i))) => Vo (f := fun i => Qu (g i) (vs i)) (sz := 7) (fun _ => rfl) (by decide) h
  go_enter Tryd.func54, Tryd.ntmps54
  go_wp2_with (at_builtin; refine wpList_append_own _ rfl _ _ 29 rfl w.heap.size 67 i0 (.agg #[.int .i64 0, .int .i64 0, .bool false, .int .i64 0, .bool false, .string ⟨#[]⟩, .slice none 0 0]) 7 80 Tryd.underlying29 hi hz0 hz1 hz2 rfl (by decide) _ _ _ rfl (World.ownsRow_made w #[] 0 (Nat.le_refl _) (Nat.zero_le _) rfl) a n cap (Qz (fun i => Qu (g i) (vs i)) n) rfl hlen (HN _ (hT.ext ((Qa.refl _).alloc _)) a rfl) hone (by unfold maxLen; omega) (by omega) (by simp) ?_; intro v' w1 hown hgrow hnil2)
  go_ret
  refine ⟨v', rfl, ((Qa.refl w).alloc _).grown hgrow (fun q hq => by have h : some w.heap.size = some q := hq; cases h; exact Nat.le_refl _), vs, by simpa using hown, hat.out⟩
theorem Lr (v : Value) (l : List Dl) (w : World) (hD : J2 w v l) (hn : l.length ≤ 1000000) (hl : ∀ i, i < l.length → (l.getD i Qv).l.length ≤ 1000000) :
  Calls Tryd.prog 25 #[v] w fun e w' => ∃ v', e = .returned v' ∧ Qa w w' ∧ Jh w' w.heap.size v' l.length (fun i => l.getD i Qv) := by
 have NC := fun w h => Ia v l w h hn
 obtain ⟨D, cap, vs, rfl, hT, hcap, hmax, _, hat⟩ := id hD
 obtain ⟨g, hg⟩ := Qg (fun i => l.getD i Qv)
 have hg' : ∀ i, l.getD i Qv = g i := fun i => by rw [hg]
 simp only [hg'] at hT hat hl NC ⊢
 clear hg hg' hmax
 generalize l.length = n at *
 replace hat := Lib.hid hat
 replace hl := Lib.hid hl
 go_enter Tryd.func25, Tryd.ntmps25
 go_upto_region 2 with (go_at_call 54; (with_reducible refine Calls.mono (NC _ hD) ?_); rintro e w1 ⟨v', rfl, h1, vs1, hO1, _⟩; obtain ⟨FO, mO, rfl⟩ := Zo hO1)
 clear NC hD
 go_upto_region 3 with (fail)
 go_loopw [9] (fun iv wr => ∃ (k : Nat) (vs' : Nat → Value), k ≤ n ∧ iv = .int .i64 k ∧ Qa w wr ∧ wr.ownsRow w.heap.size 67 7 (.slice FO n mO) n (Qz (fun i => Qu (g i) (vs' i)) n) ∧ Hid (∀ i, i < k → Yl wr w.heap.size (vs' i) (g i).l)) (fun iv _ => n - (intOf iv).toNat)
 case atStart => exact ⟨0, vs1, Nat.zero_le _, rfl, h1, hO1, fun i h => absurd h (by omega)⟩
 case round =>
  clear hO1 h1
  obtain ⟨k, vs', hk, rfl, hE, hO, hLo⟩ := hrel
  obtain ⟨wo, rfl⟩ := Qg wr
  by_cases hlt : k < n
  rotate_left
  ·obtain rfl : n = k := by omega
   go_wp2
   go_ret
   exact ⟨_, rfl, hE, vs', hO, hLo.out⟩
  obtain ⟨q, cq, hv, hbq, _⟩ := Mv hO (by omega)
  injection hv with hv1 _ hv2
  subst hv1
  subst hv2
  obtain ⟨b, off, rfl, hb, hc⟩ := (hT.ext hE) (by omega)
  have c6 : wo.cell? ⟨b, off + k * 7 + 6, none⟩ = some (vs k) := by simpa [Qu] using hc k 6 _ hlt rfl
  have HL := (hat.out k hlt).ext hE
  have hs := hl.out k hlt
  obtain ⟨VL, hvl⟩ := Qg (vs k)
  rw [← hvl] at c6 HL
  clear hc hvl hat hl
  obtain ⟨TL, cl, hVL, _⟩ := id HL
  subst hVL
  have NL := fun w h => Wf (.slice TL (g k).l.length cl) (g k).l w h hs
  go_upto_region 6 with (go_at_call 24; (with_reducible refine Calls.mono (NL _ HL) ?_); rintro e w2 ⟨vl, rfl, h2, hS⟩; obtain ⟨F0, m0, rfl⟩ := Zo hS; have hO2 := Zp hO h2; have fz := World.ownsRow.frozenAt hO2 (k * 7 + 6); have xz := Iz hO2 hlt; have xl := K5 hO2)
  have hS2 : Yl w2 w.heap.size (.slice F0 (g k).l.length m0) (g k).l := Yi hS hE.size
  have hO3 := (World.ownsRow.stored hO2 (k * 7 + 6) (.slice F0 (g k).l.length m0)).1
  rw [Iy g vs' hlt] at hO3
  have hE3 := (hE.trans h2).setCell (p := ⟨q, k * 7 + 6, none⟩) hbq (.slice F0 (g k).l.length m0)
  have hL3 : Hid (∀ i, i < k + 1 → Yl (w2.setCell ⟨q, k * 7 + 6, none⟩ (.slice F0 (g k).l.length m0)) w.heap.size (if i = k then .slice F0 (g k).l.length m0 else vs' i) (g i).l) := fun i hi => by
   by_cases e : i = k
   ·subst e; rw [if_pos rfl]; exact Pg hS2 hO2 (by decide) _ _
   ·rw [if_neg e]; exact Pg (Zp (hLo.out i (by omega)) h2) hO2 (by decide) _ _
  generalize w2.setCell ⟨q, k * 7 + 6, none⟩ (.slice F0 (g k).l.length m0) = w3 at *
  clear fz xz xl hO2 hS hS2 h2 hLo hO NL HL c6 hE hb
  go_wp2
  exact ⟨⟨k + 1, _, by omega, by go_num, hE3, hO3, hL3⟩, by simp [intOf]; omega⟩
theorem Pc {w : World} {base k : Nat} {v : Value} {l : List Lt} (h : w.ownsRow base 71 2 v k (l.flatMap Jr)) : Yl w base v l := by
 have hk := h.1
 rw [Mf] at hk
 obtain rfl : k = l.length := by omega
 exact h
theorem Pb (w : World) (b : Nat) : Yl w b (.slice none 0 0) [] := World.ownsRow_nil _ _ _ _
theorem C5 (v1 v2 : Value) (a b : List Lt) (w : World) (h1 : Zf w v1 a) (h2 : Zf w v2 b) :
  Calls Tryd.prog 44 #[v1, v2] w fun e w' => ∃ F k m, e = .returned (.tuple #[.slice F k m, .int .i64 (Je 1 a b)]) ∧ Qa w w' ∧ Yl w' w.heap.size (.slice F k m) (J3 1 a b) := by
 obtain ⟨T, cap, rfl, hT, hcap, hmax, _⟩ := h1
 obtain ⟨S, cm, rfl, hS, hcm, hmm, _⟩ := h2
 refine Calls.mono (Fo T a.length cap (Q4 a) S b.length cm (Q4 b) w hT hcap (Nat.le_trans hcap (Nat.le_trans hmax (by decide))) hS hcm (Nat.le_trans hcm (Nat.le_trans hmm (by decide)))) ?_
 rintro e w' ⟨F, k, c, rfl, hx, ho⟩
 exact ⟨F, k, c, rfl, hx, Pc ho⟩
theorem Qeh (v1 v2 : Value) (a b : List Lt) (w : World) (h1 : Zf w v1 a) (h2 : Zf w v2 b) :
  Calls Tryd.prog 43 #[v1, v2] w fun e w' => ∃ F k m, e = .returned (.tuple #[.slice F k m, .int .i64 (Je (-1) a b)]) ∧ Qa w w' ∧ Yl w' w.heap.size (.slice F k m) (J3 (-1) a b) := by
 obtain ⟨T, cap, rfl, hT, hcap, hmax, _⟩ := h1
 obtain ⟨S, cm, rfl, hS, hcm, hmm, _⟩ := h2
 refine Calls.mono (Br T a.length cap (Q4 a) S b.length cm (Q4 b) w hT hcap (Nat.le_trans hcap (Nat.le_trans hmax (by decide))) hS hcm (Nat.le_trans hcm (Nat.le_trans hmm (by decide)))) ?_
 rintro e w' ⟨F, k, c, rfl, hx, ho⟩
 exact ⟨F, k, c, rfl, hx, Pc ho⟩
theorem N8 (vo vd : Value) (o : List Lt) (d : List Dl) (w : World) (hO : Zf w vo o) (hD : J2 w vd d) (ho : o.length ≤ 1000000) :
  Calls Tryd.prog 17 #[vo, vd] w fun e w' => ∃ v', e = .returned (.tuple #[v', .int .i64 (Qs o d).2]) ∧ Qa w w' ∧ Yl w' w.heap.size v' (Qs o d).1 := by
 obtain ⟨D, cap, vs, rfl, hD, hcap, hmax, _, hat⟩ := hD
 have hn : d.length ≤ 9223372036854775807 := Nat.le_trans hcap (Nat.le_trans hmax (by decide))
 have NC := Wf vo o w hO ho
 obtain ⟨A0, cc0, rfl, _⟩ := id hO
 obtain ⟨R, hR⟩ := Qg (Qs o d)
 rw [← hR]
 replace hR := Lib.hid hR
 go_enter Tryd.func17, Tryd.ntmps17
 go_upto_region 2 with (go_at_call 24; (with_reducible refine Calls.mono (NC) ?_); rintro e w1 ⟨v0, rfl, h1, hown⟩)
 have hS0 : Yl w1 w.heap.size v0 o := hown
 obtain ⟨F0, m0, rfl⟩ := Zo hown
 clear NC hown hO
 go_upto_region 3 with (fail)
 obtain ⟨n, hnl⟩ := Qg (d.length)
 rw [← hnl] at hn hD hat hcap ⊢
 replace hnl := Lib.hid hnl
 obtain ⟨g, hg⟩ := Qg (fun i => d.getD i Qv)
 have hg' : ∀ i, d.getD i Qv = g i := fun i => by rw [hg]
 have hdr : Hid (∀ s k, k < n → Qs s (d.drop k) = if Je (Ys (g k).i) s (g k).l ≠ 0 then ([], Je (Ys (g k).i) s (g k).l) else Qs (J3 (Ys (g k).i) s (g k).l) (d.drop (k + 1))) := fun s k hk => by
  rw [Bt s (by rw [← hnl.out]; exact hk), hg']
 simp only [hg'] at hD hat
 clear hg hg'
 replace hat := Lib.hid hat
 have hD1 := hD.ext h1
 go_loopw [6, 16] (fun sv iv wr => ∃ (k : Nat) (s : List Lt), k ≤ n ∧ iv = .int .i64 k ∧ Yl wr w.heap.size sv s ∧ Hid (R = Qs s (d.drop k)) ∧ Qa w wr) (fun _ i _ => n - (intOf i).toNat)
 case atStart => exact ⟨0, o, Nat.zero_le _, rfl, hS0, by unfold Hid; rw [hR.out]; rfl, h1⟩
 case round =>
  clear hS0
  obtain ⟨k, s, hk, rfl, hS, hrun, hE⟩ := hrel
  obtain ⟨wo, rfl⟩ := Qg wr
  by_cases hlt : k < n
  ·obtain ⟨b, off, rfl, hb, hc⟩ := (hD.ext hE) (by omega)
   have hL := (hat.out k hlt).ext hE
   have c0 : wo.cell? ⟨b, off + k * 7, none⟩ = some (.int .i64 (g k).on.y) := by simpa [Qu] using hc k 0 _ hlt rfl
   have c1 : wo.cell? ⟨b, off + k * 7 + 1, none⟩ = some (.int .i64 (g k).on.m) := by simpa [Qu] using hc k 1 _ hlt rfl
   have c2 : wo.cell? ⟨b, off + k * 7 + 2, none⟩ = some (.bool (g k).on.s) := by simpa [Qu] using hc k 2 _ hlt rfl
   have c3 : wo.cell? ⟨b, off + k * 7 + 3, none⟩ = some (.int .i64 (g k).on.d) := by simpa [Qu] using hc k 3 _ hlt rfl
   have c4 : wo.cell? ⟨b, off + k * 7 + 4, none⟩ = some (.bool (g k).i) := by simpa [Qu] using hc k 4 _ hlt rfl
   have c5 : wo.cell? ⟨b, off + k * 7 + 5, none⟩ = some (.string (g k).w) := by simpa [Qu] using hc k 5 _ hlt rfl
   have c6 : wo.cell? ⟨b, off + k * 7 + 6, none⟩ = some (vs k) := by simpa [Qu] using hc k 6 _ hlt rfl
   have HS := Lib.hid (hdr.out s k hlt)
   obtain ⟨VL, hvl⟩ := Qg (vs k)
   rw [← hvl] at c6 hL
   clear hvl hc hdr hat hR hD hD1
   obtain ⟨TL, cl, hVL, _⟩ := id hL
   subst hVL
   obtain ⟨AS, cs, hsv⟩ := Zo hS
   subst hsv
   obtain ⟨SD, hSD⟩ := Qg (Qs s (d.drop k))
   rw [← hSD] at HS hrun
   clear hSD
   go_upto_region 5 with (fail)
   obtain ⟨v3, hv⟩ := Qg (wo.alloc (.cells #[.int .i64 (g k).on.y, .int .i64 (g k).on.m, .bool (g k).on.s, .int .i64 (g k).on.d, .bool (g k).i, .string (g k).w, .slice TL (g k).l.length cl] 67))
   rw [← hv]
   have E3 : Qa wo v3 := by rw [hv]; exact (Qa.refl _).alloc _
   have H3 : Qb v3 wo.heap.size 67 #[.int .i64 (g k).on.y, .int .i64 (g k).on.m, .bool (g k).on.s, .int .i64 (g k).on.d, .bool (g k).i, .string (g k).w, .slice TL (g k).l.length cl] := by rw [hv]; exact Qb.new _ _ _
   clear hv
   generalize wo.heap.size = b3 at *
   clear c0 c1 c2 c3 c4 c5 c6
   replace hL := hL.ext E3
   replace hS : Yl v3 w.heap.size _ s := Zp hS E3
   replace hE := hE.trans E3
   clear E3
   have NA := fun h1 h2 => C5 (.slice AS s.length cs) (.slice TL (g k).l.length cl) s (g k).l v3 h1 h2
   have NB := fun h1 h2 => Qeh (.slice AS s.length cs) (.slice TL (g k).l.length cl) s (g k).l v3 h1 h2
   obtain ⟨q0, q1, q2, q3, q4, q5, q6⟩ := L8 H3
   have lq := H3.lt
   cases hi : (g k).i
   ·have NX := NB (Xp hS) hL
    rw [hi] at HS
    have HS2 : Hid (SD = if Je (-1) s (g k).l ≠ 0 then ([], Je (-1) s (g k).l) else Qs (J3 (-1) s (g k).l) (d.drop (k + 1))) := HS
    rw [hi] at q4
    clear HS hi
    generalize hce : Je (-1) s (g k).l = E1 at *
    generalize J3 (-1) s (g k).l = L1 at *
    by_cases e0 : E1 = 0
    ·subst e0
     have HS3 := Lib.hid (HS2.out.trans (if_neg (by simp)))
     clear HS2 hce
     go_wp2_with (first | (go_at_call 43; (with_reducible refine Calls.mono (NX) ?_); rintro e w6 ⟨F6, k6, m6, rfl, h6, L6⟩) | (go_at_fn 43; (with_reducible refine Calls.mono (NX) ?_); rintro e w6 ⟨F6, k6, m6, rfl, h6, L6⟩))
     exact ⟨⟨k + 1, L1, by omega, by go_num, Yi L6 hE.size, Lib.hid (hrun.out.trans HS3.out), hE.trans h6⟩, by simp [intOf]; omega⟩
    ·have g0 : (E1 == 0) = false := beq_eq_false_iff_ne.2 e0
     have g0n : (E1 != 0) = true := by rw [bne, g0]; rfl
     have HS3 := Lib.hid (hrun.out.trans (HS2.out.trans (if_pos e0)))
     clear HS2 hrun hce e0
     go_wp2_with (first | (go_at_call 43; (with_reducible refine Calls.mono (NX) ?_); rintro e w6 ⟨F6, k6, m6, rfl, h6, L6⟩) | (go_at_fn 43; (with_reducible refine Calls.mono (NX) ?_); rintro e w6 ⟨F6, k6, m6, rfl, h6, L6⟩))
     go_ret2
     exact ⟨_, by rw [HS3.out]; rfl, hE.trans h6, by rw [HS3.out]; exact Pb _ _⟩
   ·have NX := NA (Xp hS) hL
    rw [hi] at HS
    have HS2 : Hid (SD = if Je 1 s (g k).l ≠ 0 then ([], Je 1 s (g k).l) else Qs (J3 1 s (g k).l) (d.drop (k + 1))) := HS
    rw [hi] at q4
    clear HS hi
    generalize hce : Je 1 s (g k).l = E1 at *
    generalize J3 1 s (g k).l = L1 at *
    by_cases e0 : E1 = 0
    ·subst e0
     have HS3 := Lib.hid (HS2.out.trans (if_neg (by simp)))
     clear HS2 hce
     go_wp2_with (first | (go_at_call 44; (with_reducible refine Calls.mono (NX) ?_); rintro e w6 ⟨F6, k6, m6, rfl, h6, L6⟩) | (go_at_fn 44; (with_reducible refine Calls.mono (NX) ?_); rintro e w6 ⟨F6, k6, m6, rfl, h6, L6⟩))
     exact ⟨⟨k + 1, L1, by omega, by go_num, Yi L6 hE.size, Lib.hid (hrun.out.trans HS3.out), hE.trans h6⟩, by simp [intOf]; omega⟩
    ·have g0 : (E1 == 0) = false := beq_eq_false_iff_ne.2 e0
     have g0n : (E1 != 0) = true := by rw [bne, g0]; rfl
     have HS3 := Lib.hid (hrun.out.trans (HS2.out.trans (if_pos e0)))
     clear HS2 hrun hce e0
     go_wp2_with (first | (go_at_call 44; (with_reducible refine Calls.mono (NX) ?_); rintro e w6 ⟨F6, k6, m6, rfl, h6, L6⟩) | (go_at_fn 44; (with_reducible refine Calls.mono (NX) ?_); rintro e w6 ⟨F6, k6, m6, rfl, h6, L6⟩))
     go_ret2
     exact ⟨_, by rw [HS3.out]; rfl, hE.trans h6, by rw [HS3.out]; exact Pb _ _⟩
  ·obtain rfl : k = n := by omega
   have hr : Hid (R = (s, 0)) := by
    unfold Hid
    rw [hrun.out, hnl.out, List.drop_length]; rfl
   clear hrun hdr hat hR
   go_wp2
   go_ret2
   exact ⟨_, by rw [hr.out]; rfl, hE, by rw [hr.out]; exact hS⟩
end
section
def Zx : Pd := ⟨⟨#[]⟩, ⟨0, 0, false, 0⟩, ⟨0, 0, false, 0⟩, [], [], []⟩
/-- How many of the first deals are not after a day. -/
def Qc.cutK (c : Qc) (n : Int) : List Dl → Nat
 | [] => 0
 | d :: r => if c.numV d.on ≤ n then c.cutK n r + 1 else 0
def Qc.divX (c : Qc) (p : Pd) (d : Dt) : Pd := ⟨p.h, p.a, d, p.o, p.d.take (c.cutK (c.numV d) p.d), (Qs p.o (p.d.take (c.cutK (c.numV d) p.d))).1⟩
def Qc.divY (c : Qc) (p : Pd) (d : Dt) : Pd := ⟨p.h, c.addV d 1, p.b, (Qs p.o (p.d.take (c.cutK (c.numV d) p.d))).1, p.d.drop (c.cutK (c.numV d) p.d), p.c⟩
def Qc.divE (c : Qc) (p : Pd) (d : Dt) : Int :=
 if c.perE p ≠ 0 then c.perE p else if c.numV d = 0 then 71 else if c.numV d < c.numV p.a ∨ c.numV p.b ≤ c.numV d then 8 else (Qs p.o (p.d.take (c.cutK (c.numV d) p.d))).2
def Qc.divP (c : Qc) (p : Pd) (d : Dt) : Pd × Pd := if c.divE p d ≠ 0 then (Zx, Zx) else (c.divX p d, c.divY p d)
theorem Oi (c : Qc) (n : Int) : ∀ l, c.cutK n l ≤ l.length
 | [] => Nat.le_refl _
 | d :: r => by
  have := Oi c n r
  unfold Qc.cutK
  split <;> simp <;> omega
theorem Ip (c : Qc) (n : Int) (l : List Dl) {k : Nat} (hk : k < l.length) : c.cutK n (l.drop k) = if c.numV (l.getD k Qv).on ≤ n then c.cutK n (l.drop (k + 1)) + 1 else 0 := by
 rw [List.drop_eq_getElem_cons hk]
 simp [Qc.cutK, List.getD_eq_getElem?_getD, hk]
/-- Sorted deals: those not after a day are the first ones. -/
theorem Ti (c : Qc) (n : Int) : ∀ l : List Dl, l.Pairwise (fun a b => c.numV a.on ≤ c.numV b.on) → l.filter (fun d => decide (c.numV d.on ≤ n)) = l.take (c.cutK n l) ∧ l.filter (fun d => !decide (c.numV d.on ≤ n)) = l.drop (c.cutK n l)
 | [], _ => ⟨rfl, rfl⟩
 | d :: r, h => by
  obtain ⟨h1, h2⟩ := List.pairwise_cons.1 h
  obtain ⟨i1, i2⟩ := Ti c n r h2
  unfold Qc.cutK
  by_cases e : c.numV d.on ≤ n
  ·rw [if_pos e, List.filter_cons_of_pos (by simpa using e), List.filter_cons_of_neg (by simpa using e), i1, i2]
   exact ⟨rfl, rfl⟩
  ·have hr : ∀ x ∈ r, ¬ c.numV x.on ≤ n := fun x hx hn => e (Int.le_trans (h1 x hx) hn)
   rw [if_neg e, List.filter_cons_of_neg (by simpa using e), List.filter_cons_of_pos (by simpa using e)]
   refine ⟨?_, ?_⟩
   ·rw [List.take_zero]; exact List.filter_eq_nil_iff.2 fun x hx => by simpa using hr x hx
   ·rw [List.drop_zero, List.filter_eq_self.2 fun x hx => by simpa using hr x hx]
theorem Gc {c : Qc} {p : Pd} (h : c.perE p = 0) : c.valid = true ∧ c.perOk p = true := by
 unfold Qc.perE at h
 by_cases hv : c.valid = true
 ·rw [if_pos hv] at h
  by_cases hp : c.perOk p = true
  ·exact ⟨hv, hp⟩
  ·rw [if_neg hp] at h; exact absurd h (by decide)
 ·rw [if_neg hv] at h; exact absurd h (by decide)
/-- What a valid period says. -/
structure Ud (c : Qc) (p : Pd) : Prop where
 a0 : 0 < c.numV p.a
 ab : c.numV p.a ≤ c.numV p.b
 o : p.o.length ≤ 64
 k : p.c.length ≤ 64
 d : p.d.length ≤ 64
 l : ∀ i, i < p.d.length → (p.d.getD i Qv).l.length ≤ 64
 lo : ∀ i, i < p.d.length → c.lastD p i ≤ c.numV (p.d.getD i Qv).on
 hi : ∀ i, i < p.d.length → c.numV (p.d.getD i Qv).on ≤ c.numV p.b
theorem Hg {l : List Lt} (h : Ya l = 0) : l.length ≤ 64 := by
 unfold Ya Jm at h
 split at h
 ·exact absurd h (by decide)
 ·omega
theorem K8 {c : Qc} {p : Pd} (h : c.perOk p = true) : Ud c p := by
 unfold Qc.perOk at h
 rw [Bool.and_eq_true] at h
 obtain ⟨h1, h2⟩ := h
 unfold Qc.perHead Qc.spanV at h1
 simp only [Bool.and_eq_true, decide_eq_true_eq] at h1
 have h3 : ∀ i, i < p.d.length → c.dealOk p i = true := fun i hi => List.all_eq_true.1 h2 i (by simpa using hi)
 have h4 : ∀ i, i < p.d.length → c.lastD p i ≤ c.numV (p.dl i).on ∧ c.numV (p.dl i).on ≤ c.numV p.b ∧ X1 (p.dl i).l = true := fun i hi => by
  have := h3 i hi
  unfold Qc.dealOk at this
  simp only [Bool.not_eq_true', Bool.or_eq_false_iff, decide_eq_false_iff_not, Bool.not_eq_false'] at this
  exact ⟨by omega, by omega, this.2⟩
 exact ⟨h1.1.1.1.2.1, h1.1.1.1.2.2, Hg h1.1.1.2, Hg h1.1.2, h1.2, fun i hi => Hg (Qaz.1 (h4 i hi).2.2).2.1, fun i hi => (h4 i hi).1, fun i hi => (h4 i hi).2.1⟩
theorem Ud.pos {c : Qc} {p : Pd} (h : Ud c p) : ∀ i, i < p.d.length → 0 < c.numV (p.d.getD i Qv).on
 | 0, hi => by
  have h1 : c.numV p.a ≤ c.numV (p.d.getD 0 Qv).on := h.lo 0 hi
  have := h.a0
  omega
 | i + 1, hi => by
  have h1 := h.pos i (by omega)
  have h2 : c.numV (p.d.getD i Qv).on ≤ c.numV (p.d.getD (i + 1) Qv).on := h.lo (i + 1) hi
  omega
theorem Ud.mono {c : Qc} {p : Pd} (h : Ud c p) : ∀ {i j}, i ≤ j → j < p.d.length → c.numV (p.d.getD i Qv).on ≤ c.numV (p.d.getD j Qv).on
 | i, 0, hij, hj => by obtain rfl : i = 0 := by omega
                       exact Int.le_refl _
 | i, j + 1, hij, hj => by
  by_cases e : i = j + 1
  ·subst e; exact Int.le_refl _
  ·have h1 := h.mono (i := i) (j := j) (by omega) (by omega)
   have h2 : c.numV (p.d.getD j Qv).on ≤ c.numV (p.d.getD (j + 1) Qv).on := h.lo (j + 1) hj
   omega
theorem Ud.sorted {c : Qc} {p : Pd} (h : Ud c p) : p.d.Pairwise (fun a b => c.numV a.on ≤ c.numV b.on) := by
 rw [List.pairwise_iff_getElem]
 intro i j hi hj hij
 have := h.mono (i := i) (j := j) (by omega) hj
 simpa [List.getD_eq_getElem?_getD, hi, hj] using this
theorem Ni : ∀ (d : List Dl) (s : List Lt), s.length ≤ 64 → (Qs s d).1.length ≤ 64
 | [], s, h => h
 | x :: r, s, h => by
  unfold Qs
  split
  ·simp
  ·exact Ni r _ (Ih _ _ _ _ _)
theorem Nj {α : Type} (z : α) (l : List α) {k i : Nat} (h : i < k) : (l.take k).getD i z = l.getD i z := by simp [List.getD_eq_getElem?_getD, h]
theorem Te {α : Type} (z : α) (l : List α) (k i : Nat) : (l.drop k).getD i z = l.getD (k + i) z := by simp [List.getD_eq_getElem?_getD, List.getElem?_drop]
theorem Qaa {c : Qc} {p : Pd} {d : Dt} {e : Int} (h : c.perE p = e) (h0 : e ≠ 0) : c.divE p d = e ∧ c.divP p d = (Zx, Zx) := by
 have h1 : c.divE p d = e := by unfold Qc.divE; rw [h, if_pos h0]
 exact ⟨h1, by unfold Qc.divP; rw [h1, if_pos h0]⟩
theorem I9 {c : Qc} {p : Pd} {d : Dt} (h : c.perE p = 0) (h0 : c.numV d = 0) : c.divE p d = 71 ∧ c.divP p d = (Zx, Zx) := by
 have h1 : c.divE p d = 71 := by unfold Qc.divE; rw [if_neg (by simpa using h), if_pos h0]
 exact ⟨h1, by unfold Qc.divP; rw [h1, if_pos (by decide)]⟩
theorem Ot {c : Qc} {p : Pd} {d : Dt} (h : c.perE p = 0) (h0 : c.numV d ≠ 0) (h2 : c.numV d < c.numV p.a ∨ c.numV p.b ≤ c.numV d) : c.divE p d = 8 ∧ c.divP p d = (Zx, Zx) := by
 have h1 : c.divE p d = 8 := by unfold Qc.divE; rw [if_neg (by simpa using h), if_neg h0, if_pos h2]
 exact ⟨h1, by unfold Qc.divP; rw [h1, if_pos (by decide)]⟩
theorem Tc {c : Qc} {p : Pd} {d : Dt} (h : c.perE p = 0) (h0 : c.numV d ≠ 0) (h2 : ¬ (c.numV d < c.numV p.a ∨ c.numV p.b ≤ c.numV d)) : c.divE p d = (Qs p.o (p.d.take (c.cutK (c.numV d) p.d))).2 := by
 unfold Qc.divE; rw [if_neg (by simpa using h), if_neg h0, if_neg h2]
instance : DecidableEq Lt := fun a b => if h : a.g = b.g ∧ a.n = b.n then .isTrue (by cases a; cases b; simp_all) else .isFalse (fun e => h ⟨by rw [e], by rw [e]⟩)
def Qc.behV (c : Qc) (x y : Pd) : Bool := decide (x.h = y.h) && decide (c.numV y.a = c.numV x.b + 1)
def Jb (x y : Pd) : Pd := ⟨x.h, x.a, y.b, x.o, x.d ++ y.d, y.c⟩
def Qc.joinE (c : Qc) (x y : Pd) : Int :=
 if c.validE [x, y] ≠ 0 then c.validE [x, y] else if (c.behV x y && decide (x.c = y.o)) = true then (if 64 < x.d.length + y.d.length then 3 else 0) else 84
def Qc.joinP (c : Qc) (x y : Pd) : Pd := if c.joinE x y ≠ 0 then Zx else Jb x y
theorem Qbr {c : Qc} {x y : Pd} {e : Int} (h : c.validE [x, y] = e) (h0 : e ≠ 0) : c.joinE x y = e ∧ c.joinP x y = Zx := by
 have h1 : c.joinE x y = e := by unfold Qc.joinE; rw [h, if_pos h0]
 exact ⟨h1, by unfold Qc.joinP; rw [h1, if_pos h0]⟩
theorem St {c : Qc} {x y : Pd} (h : c.validE [x, y] = 0) (h0 : (c.behV x y && decide (x.c = y.o)) = false) : c.joinE x y = 84 ∧ c.joinP x y = Zx := by
 have h1 : c.joinE x y = 84 := by unfold Qc.joinE; rw [if_neg (by simpa using h), if_neg (by rw [h0]; decide)]
 exact ⟨h1, by unfold Qc.joinP; rw [h1, if_pos (by decide)]⟩
theorem Su {c : Qc} {x y : Pd} (h : c.validE [x, y] = 0) (h0 : (c.behV x y && decide (x.c = y.o)) = true) (h2 : 64 < x.d.length + y.d.length) : c.joinE x y = 3 ∧ c.joinP x y = Zx := by
 have h1 : c.joinE x y = 3 := by unfold Qc.joinE; rw [if_neg (by simpa using h), if_pos h0, if_pos h2]
 exact ⟨h1, by unfold Qc.joinP; rw [h1, if_pos (by decide)]⟩
theorem Sv {c : Qc} {x y : Pd} (h : c.validE [x, y] = 0) (h0 : (c.behV x y && decide (x.c = y.o)) = true) (h2 : ¬ 64 < x.d.length + y.d.length) : c.joinE x y = 0 ∧ c.joinP x y = Jb x y := by
 have h1 : c.joinE x y = 0 := by unfold Qc.joinE; rw [if_neg (by simpa using h), if_pos h0, if_neg h2]
 exact ⟨h1, by unfold Qc.joinP; rw [h1, if_neg (by decide)]⟩
theorem Qey {c : Qc} {x y : Pd} (h : c.validE [x, y] = 0) : c.valid = true ∧ c.perOk x = true ∧ c.perOk y = true := by
 unfold Qc.validE at h
 cases hv : c.valid
 ·unfold Qc.chk at h
  rw [hv] at h
  simp at h
 ·have h0 : c.chk = 0 := by unfold Qc.chk; rw [hv]; rfl
  rw [if_neg (by simpa using h0)] at h
  unfold Qc.persE at h
  cases hx : c.perOk x <;> cases hy : c.perOk y <;> simp [hx, hy] at h ⊢
/-- Balances carried forward: what is left to do behind a period. -/
def Qc.carR (c : Qc) : Option Pd → List Pd → List Pd × Int
 | _, [] => ([], 0)
 | q, p :: r =>
  if (q.any fun q => !c.behV q p) = true then ([], 84)
  else if (Qs (q.elim p.o (·.c)) p.d).2 ≠ 0 then ([], (Qs (q.elim p.o (·.c)) p.d).2)
  else if (c.carR (some ⟨p.h, p.a, p.b, q.elim p.o (·.c), p.d, (Qs (q.elim p.o (·.c)) p.d).1⟩) r).2 ≠ 0 then ([], (c.carR (some ⟨p.h, p.a, p.b, q.elim p.o (·.c), p.d, (Qs (q.elim p.o (·.c)) p.d).1⟩) r).2)
  else (⟨p.h, p.a, p.b, q.elim p.o (·.c), p.d, (Qs (q.elim p.o (·.c)) p.d).1⟩ :: (c.carR (some ⟨p.h, p.a, p.b, q.elim p.o (·.c), p.d, (Qs (q.elim p.o (·.c)) p.d).1⟩) r).1, 0)
def Qc.archE (c : Qc) (l : List Pd) : Int := if c.chk ≠ 0 then c.chk else if 32 < l.length then 3 else c.persE l
def Qc.carryV (c : Qc) (l : List Pd) : List Pd × Int := if c.archE l ≠ 0 then ([], c.archE l) else c.carR none l
/-- What is made so far, and what is left. -/
def Y5 (L : List Pd) (R : List Pd × Int) : List Pd × Int := if R.2 ≠ 0 then ([], R.2) else (L ++ R.1, 0)
def Jp (q : Option Pd) (p : Pd) : Pd := ⟨p.h, p.a, p.b, q.elim p.o (·.c), p.d, (Qs (q.elim p.o (·.c)) p.d).1⟩
theorem Oc {c : Qc} {q : Option Pd} {p : Pd} {r : List Pd} (h : (q.any fun q => !c.behV q p) = true) : c.carR q (p :: r) = ([], 84) := by
 unfold Qc.carR; rw [if_pos h]
theorem Od {c : Qc} {q : Option Pd} {p : Pd} {r : List Pd} (h : (q.any fun q => !c.behV q p) = false) (h0 : (Qs (q.elim p.o (·.c)) p.d).2 ≠ 0) : c.carR q (p :: r) = ([], (Qs (q.elim p.o (·.c)) p.d).2) := by
 unfold Qc.carR; rw [if_neg (by rw [h]; decide), if_pos h0]
theorem Ko {c : Qc} {q : Option Pd} {p : Pd} {r : List Pd} (h : (q.any fun q => !c.behV q p) = false) (h0 : (Qs (q.elim p.o (·.c)) p.d).2 = 0) : c.carR q (p :: r) = if (c.carR (some (Jp q p)) r).2 ≠ 0 then ([], (c.carR (some (Jp q p)) r).2) else (Jp q p :: (c.carR (some (Jp q p)) r).1, 0) := by
 conv => lhs; unfold Qc.carR
 rw [if_neg (by rw [h]; decide), if_neg (fun g => g h0)]; rfl
theorem Rf {L : List Pd} {R : List Pd × Int} {e : Int} (h : R = ([], e)) (h0 : e ≠ 0) : Y5 L R = ([], e) := by
 unfold Y5; rw [h, if_pos h0]
theorem Eh {c : Qc} {q : Option Pd} {p : Pd} {r L : List Pd} (h : (q.any fun q => !c.behV q p) = true) : Y5 L (c.carR q (p :: r)) = ([], 84) := Rf (Oc h) (by decide)
theorem El {c : Qc} {q : Option Pd} {p : Pd} {r L : List Pd} (h : (q.any fun q => !c.behV q p) = false) (h0 : (Qs (q.elim p.o (·.c)) p.d).2 ≠ 0) : Y5 L (c.carR q (p :: r)) = ([], (Qs (q.elim p.o (·.c)) p.d).2) := Rf (Od h h0) h0
theorem Ek {c : Qc} {q : Option Pd} {p : Pd} {r L : List Pd} (h : (q.any fun q => !c.behV q p) = false) (h0 : (Qs (q.elim p.o (·.c)) p.d).2 = 0) : Y5 L (c.carR q (p :: r)) = Y5 (L ++ [Jp q p]) (c.carR (some (Jp q p)) r) := by
 rw [Ko h h0]
 generalize c.carR (some (Jp q p)) r = R
 obtain ⟨R1, e⟩ := R
 by_cases g : e = 0
 ·subst g; simp [Y5]
 ·simp [Y5, g]
theorem Ei {c : Qc} {q : Option Pd} {L : List Pd} : Y5 L (c.carR q []) = (L, 0) := by
 unfold Qc.carR Y5; rw [if_neg (by simp)]; simp
theorem Rg (c : Qc) (q : Option Pd) : ∀ l : List Pd, (c.carR q l).2 ≠ 0 → (c.carR q l).1 = []
 | [], h => absurd rfl h
 | p :: r, h => by
  cases h1 : (q.any fun q => !c.behV q p)
  ·by_cases h2 : (Qs (q.elim p.o (·.c)) p.d).2 = 0
   ·rw [Ko h1 h2] at h ⊢
    split at h
    ·rename_i h3; rw [if_pos h3]
    ·exact absurd rfl h
   ·rw [Od h1 h2]
  ·rw [Oc h1]
theorem Ej {c : Qc} {l : List Pd} : Y5 [] (c.carR none l) = c.carR none l := by
 have := Rg c none l
 generalize c.carR none l = R at *
 obtain ⟨R1, e⟩ := R
 by_cases g : e = 0
 ·subst g; simp [Y5]
 ·have h := this g
  simp only at h
  simp [Y5, g, h]
end
section
open Go Go.RowKit Go.Shelf
attribute [local go_sem] Zi
theorem Xu {W : World} {b i : Nat} {t : TypeId} {cs : Array Value} {u : Value} (h : Qb W b t cs) (hi : cs[i]? = some u) : W.setCell ⟨b, i, none⟩ u = W := by
 unfold Qb at h
 obtain ⟨hi1, hi2⟩ := Array.getElem?_eq_some_iff.1 hi
 cases W with
 | mk heap tape drawn os output =>
  unfold World.setCell
  simp only at h ⊢
  congr 1
  apply Array.ext_getElem?
  intro j
  rw [Array.getElem?_modify]
  split
  ·rename_i hj
   subst hj
   rw [h]
   simp [Array.setIfInBounds, hi1, ← hi2]
  ·rfl
theorem Yq {W : World} {b : Nat} {t : TypeId} {u0 u1 u2 u3 u4 u5 u6 u7 u8 u9 u10 u11 : Value} (h : Qb W b t #[u0, u1, u2, u3, u4, u5, u6, u7, u8, u9, u10, u11]) : ((((((((((((W.setCell ⟨b, 0, none⟩ u0).setCell ⟨b, 1, none⟩ u1).setCell ⟨b, 2, none⟩ u2).setCell ⟨b, 3, none⟩ u3).setCell ⟨b, 4, none⟩ u4).setCell ⟨b, 5, none⟩ u5).setCell ⟨b, 6, none⟩ u6).setCell ⟨b, 7, none⟩ u7).setCell ⟨b, 8, none⟩ u8).setCell ⟨b, 9, none⟩ u9).setCell ⟨b, 10, none⟩ u10).setCell ⟨b, 11, none⟩ u11) = W := by
 rw [Xu (i := 0) (u := u0) h rfl, Xu (i := 1) (u := u1) h rfl, Xu (i := 2) (u := u2) h rfl, Xu (i := 3) (u := u3) h rfl, Xu (i := 4) (u := u4) h rfl, Xu (i := 5) (u := u5) h rfl, Xu (i := 6) (u := u6) h rfl, Xu (i := 7) (u := u7) h rfl, Xu (i := 8) (u := u8) h rfl, Xu (i := 9) (u := u9) h rfl, Xu (i := 10) (u := u10) h rfl, Xu (i := 11) (u := u11) h rfl]
theorem Qa5 {W : World} {b : Nat} {t : TypeId} {v0 v1 v2 v3 v4 v5 v6 v7 v8 v9 v10 v11 : Value} (h : Qb W b t #[v0, v1, v2, v3, v4, v5, v6, v7, v8, v9, v10, v11]) (u0 u1 u2 u3 u4 u5 u6 u7 u8 u9 u10 u11 : Value) : Qb ((((((((((((W.setCell ⟨b, 0, none⟩ u0).setCell ⟨b, 1, none⟩ u1).setCell ⟨b, 2, none⟩ u2).setCell ⟨b, 3, none⟩ u3).setCell ⟨b, 4, none⟩ u4).setCell ⟨b, 5, none⟩ u5).setCell ⟨b, 6, none⟩ u6).setCell ⟨b, 7, none⟩ u7).setCell ⟨b, 8, none⟩ u8).setCell ⟨b, 9, none⟩ u9).setCell ⟨b, 10, none⟩ u10).setCell ⟨b, 11, none⟩ u11) b t #[u0, u1, u2, u3, u4, u5, u6, u7, u8, u9, u10, u11] := by unfold Qb at h ⊢; simp [World.setCell, Array.getElem?_modify, h]
theorem ext12Q {w W : World} {b : Nat} (h : Qa w W) (hb : w.heap.size ≤ b) (u0 u1 u2 u3 u4 u5 u6 u7 u8 u9 u10 u11 : Value) : Qa w ((((((((((((W.setCell ⟨b, 0, none⟩ u0).setCell ⟨b, 1, none⟩ u1).setCell ⟨b, 2, none⟩ u2).setCell ⟨b, 3, none⟩ u3).setCell ⟨b, 4, none⟩ u4).setCell ⟨b, 5, none⟩ u5).setCell ⟨b, 6, none⟩ u6).setCell ⟨b, 7, none⟩ u7).setCell ⟨b, 8, none⟩ u8).setCell ⟨b, 9, none⟩ u9).setCell ⟨b, 10, none⟩ u10).setCell ⟨b, 11, none⟩ u11) := ((((((((((((h.setCell (p := ⟨b, 0, none⟩) hb u0).setCell (p := ⟨b, 1, none⟩) hb u1).setCell (p := ⟨b, 2, none⟩) hb u2).setCell (p := ⟨b, 3, none⟩) hb u3).setCell (p := ⟨b, 4, none⟩) hb u4).setCell (p := ⟨b, 5, none⟩) hb u5).setCell (p := ⟨b, 6, none⟩) hb u6).setCell (p := ⟨b, 7, none⟩) hb u7).setCell (p := ⟨b, 8, none⟩) hb u8).setCell (p := ⟨b, 9, none⟩) hb u9).setCell (p := ⟨b, 10, none⟩) hb u10).setCell (p := ⟨b, 11, none⟩) hb u11)
theorem oth12Q {W : World} {b b' : Nat} {t : TypeId} {cs : Array Value} (h : Qb W b' t cs) (hne : b' ≠ b) (u0 u1 u2 u3 u4 u5 u6 u7 u8 u9 u10 u11 : Value) : Qb ((((((((((((W.setCell ⟨b, 0, none⟩ u0).setCell ⟨b, 1, none⟩ u1).setCell ⟨b, 2, none⟩ u2).setCell ⟨b, 3, none⟩ u3).setCell ⟨b, 4, none⟩ u4).setCell ⟨b, 5, none⟩ u5).setCell ⟨b, 6, none⟩ u6).setCell ⟨b, 7, none⟩ u7).setCell ⟨b, 8, none⟩ u8).setCell ⟨b, 9, none⟩ u9).setCell ⟨b, 10, none⟩ u10).setCell ⟨b, 11, none⟩ u11) b' t cs := (Qh (Qh (Qh (Qh (Qh (Qh (Qh (Qh (Qh (Qh (Qh (Qh h hne 0 u0) hne 1 u1) hne 2 u2) hne 3 u3) hne 4 u4) hne 5 u5) hne 6 u6) hne 7 u7) hne 8 u8) hne 9 u9) hne 10 u10) hne 11 u11)
theorem Hz {W : World} {b : Nat} {t e : TypeId} {v0 v1 v2 v3 v4 v5 v6 v7 v8 v9 v10 v11 : Value} (h : Qb W b t #[v0, v1, v2, v3, v4, v5, v6, v7, v8, v9, v10, v11]) (hte : t ≠ e) {base size k : Nat} {v : Value} {xs : List Value} (hr : W.ownsRow base e size v k xs) (u0 u1 u2 u3 u4 u5 u6 u7 u8 u9 u10 u11 : Value) : (((((((((((((W.setCell ⟨b, 0, none⟩ u0).setCell ⟨b, 1, none⟩ u1).setCell ⟨b, 2, none⟩ u2).setCell ⟨b, 3, none⟩ u3).setCell ⟨b, 4, none⟩ u4).setCell ⟨b, 5, none⟩ u5).setCell ⟨b, 6, none⟩ u6).setCell ⟨b, 7, none⟩ u7).setCell ⟨b, 8, none⟩ u8).setCell ⟨b, 9, none⟩ u9).setCell ⟨b, 10, none⟩ u10).setCell ⟨b, 11, none⟩ u11)).ownsRow base e size v k xs := by
 have T0 := h
 have T1 : Qb _ _ _ #[u0, v1, v2, v3, v4, v5, v6, v7, v8, v9, v10, v11] := J4 T0 0 u0
 have R1 := Y0 T0 hte hr 0 u0
 have T2 : Qb _ _ _ #[u0, u1, v2, v3, v4, v5, v6, v7, v8, v9, v10, v11] := J4 T1 1 u1
 have R2 := Y0 T1 hte R1 1 u1
 have T3 : Qb _ _ _ #[u0, u1, u2, v3, v4, v5, v6, v7, v8, v9, v10, v11] := J4 T2 2 u2
 have R3 := Y0 T2 hte R2 2 u2
 have T4 : Qb _ _ _ #[u0, u1, u2, u3, v4, v5, v6, v7, v8, v9, v10, v11] := J4 T3 3 u3
 have R4 := Y0 T3 hte R3 3 u3
 have T5 : Qb _ _ _ #[u0, u1, u2, u3, u4, v5, v6, v7, v8, v9, v10, v11] := J4 T4 4 u4
 have R5 := Y0 T4 hte R4 4 u4
 have T6 : Qb _ _ _ #[u0, u1, u2, u3, u4, u5, v6, v7, v8, v9, v10, v11] := J4 T5 5 u5
 have R6 := Y0 T5 hte R5 5 u5
 have T7 : Qb _ _ _ #[u0, u1, u2, u3, u4, u5, u6, v7, v8, v9, v10, v11] := J4 T6 6 u6
 have R7 := Y0 T6 hte R6 6 u6
 have T8 : Qb _ _ _ #[u0, u1, u2, u3, u4, u5, u6, u7, v8, v9, v10, v11] := J4 T7 7 u7
 have R8 := Y0 T7 hte R7 7 u7
 have T9 : Qb _ _ _ #[u0, u1, u2, u3, u4, u5, u6, u7, u8, v9, v10, v11] := J4 T8 8 u8
 have R9 := Y0 T8 hte R8 8 u8
 have T10 : Qb _ _ _ #[u0, u1, u2, u3, u4, u5, u6, u7, u8, u9, v10, v11] := J4 T9 9 u9
 have R10 := Y0 T9 hte R9 9 u9
 have T11 : Qb _ _ _ #[u0, u1, u2, u3, u4, u5, u6, u7, u8, u9, u10, v11] := J4 T10 10 u10
 have R11 := Y0 T10 hte R10 10 u10
 have T12 : Qb _ _ _ #[u0, u1, u2, u3, u4, u5, u6, u7, u8, u9, u10, u11] := J4 T11 11 u11
 have R12 := Y0 T11 hte R11 11 u11
 exact R12
theorem I0 {W : World} {b : Nat} {t : TypeId} {v0 v1 v2 v3 v4 v5 v6 v7 v8 v9 v10 v11 : Value} (h : Qb W b t #[v0, v1, v2, v3, v4, v5, v6, v7, v8, v9, v10, v11]) (h1 : t ≠ 71) (h2 : t ≠ 67) {base n : Nat} {v : Value} {g : Nat → Dl} (hr : Jh W base v n g) (u0 u1 u2 u3 u4 u5 u6 u7 u8 u9 u10 u11 : Value) : Jh ((((((((((((W.setCell ⟨b, 0, none⟩ u0).setCell ⟨b, 1, none⟩ u1).setCell ⟨b, 2, none⟩ u2).setCell ⟨b, 3, none⟩ u3).setCell ⟨b, 4, none⟩ u4).setCell ⟨b, 5, none⟩ u5).setCell ⟨b, 6, none⟩ u6).setCell ⟨b, 7, none⟩ u7).setCell ⟨b, 8, none⟩ u8).setCell ⟨b, 9, none⟩ u9).setCell ⟨b, 10, none⟩ u10).setCell ⟨b, 11, none⟩ u11) base v n g := by
 obtain ⟨vs, g1, g2⟩ := hr
 exact ⟨vs, Hz h h2 g1 u0 u1 u2 u3 u4 u5 u6 u7 u8 u9 u10 u11, fun i hi => Hz h h1 (g2 i hi) u0 u1 u2 u3 u4 u5 u6 u7 u8 u9 u10 u11⟩
theorem Qb.f12 {W : World} {b : Nat} {t : TypeId} {cs : Array Value} (h : Qb W b t cs) : W.frozen? ⟨b, 0, none⟩ = false ∧ W.frozen? ⟨b, 1, none⟩ = false ∧ W.frozen? ⟨b, 2, none⟩ = false ∧ W.frozen? ⟨b, 3, none⟩ = false ∧ W.frozen? ⟨b, 4, none⟩ = false ∧ W.frozen? ⟨b, 5, none⟩ = false ∧ W.frozen? ⟨b, 6, none⟩ = false ∧ W.frozen? ⟨b, 7, none⟩ = false ∧ W.frozen? ⟨b, 8, none⟩ = false ∧ W.frozen? ⟨b, 9, none⟩ = false ∧ W.frozen? ⟨b, 10, none⟩ = false ∧ W.frozen? ⟨b, 11, none⟩ = false := ⟨h.frozen 0, h.frozen 1, h.frozen 2, h.frozen 3, h.frozen 4, h.frozen 5, h.frozen 6, h.frozen 7, h.frozen 8, h.frozen 9, h.frozen 10, h.frozen 11⟩
/-- A whole period stored: what stays. -/
theorem Wj {W : World} {b : Nat} {t : TypeId} {v0 v1 v2 v3 v4 v5 v6 v7 v8 v9 v10 v11 : Value} (h : Qb W b t #[v0, v1, v2, v3, v4, v5, v6, v7, v8, v9, v10, v11]) (h1 : t ≠ 71) (h2 : t ≠ 67) (u0 u1 u2 u3 u4 u5 u6 u7 u8 u9 u10 u11 : Value) : ∃ wq : World, wq = ((((((((((((W.setCell ⟨b, 0, none⟩ u0).setCell ⟨b, 1, none⟩ u1).setCell ⟨b, 2, none⟩ u2).setCell ⟨b, 3, none⟩ u3).setCell ⟨b, 4, none⟩ u4).setCell ⟨b, 5, none⟩ u5).setCell ⟨b, 6, none⟩ u6).setCell ⟨b, 7, none⟩ u7).setCell ⟨b, 8, none⟩ u8).setCell ⟨b, 9, none⟩ u9).setCell ⟨b, 10, none⟩ u10).setCell ⟨b, 11, none⟩ u11) ∧ Qb wq b t #[u0, u1, u2, u3, u4, u5, u6, u7, u8, u9, u10, u11] ∧ (∀ {base size k : Nat} {v : Value} {xs : List Value}, W.ownsRow base 71 size v k xs → wq.ownsRow base 71 size v k xs) ∧ (∀ {base n : Nat} {v : Value} {g : Nat → Dl}, Jh W base v n g → Jh wq base v n g) ∧ (∀ {b' : Nat} {t' : TypeId} {cs : Array Value}, Qb W b' t' cs → b' ≠ b → Qb wq b' t' cs) ∧ (∀ {w : World}, Qa w W → w.heap.size ≤ b → Qa w wq) :=
 ⟨_, rfl, Qa5 h u0 u1 u2 u3 u4 u5 u6 u7 u8 u9 u10 u11, fun hr => Hz h h1 hr u0 u1 u2 u3 u4 u5 u6 u7 u8 u9 u10 u11, fun hr => I0 h h1 h2 hr u0 u1 u2 u3 u4 u5 u6 u7 u8 u9 u10 u11, fun h' hne => oth12Q h' hne u0 u1 u2 u3 u4 u5 u6 u7 u8 u9 u10 u11, fun e hb => ext12Q e hb u0 u1 u2 u3 u4 u5 u6 u7 u8 u9 u10 u11⟩
def Gw (a : Option Addr) (l h m s : Nat) : Value := sliced a l h m s
theorem Qed {P : Program} (w : World) (t : TypeId) (a : Option Addr) (len cap : Nat) (ht : P.underlying t = some (.slice (P.elem t))) (kl : IntKind) (l : Int) (h0 : 0 ≤ l) (h1 : l ≤ len) :
  (Instr.slice t (.slice a len cap) (some (.int kl l)) none none).run P w = ((sizeOf (P.elem t)).run P w).andThen fun s w => .ok (Gw a l.toNat len cap s) w := run_slice_l (P := P) w t a len cap ht kl l h0 h1
theorem I6 {w : World} {D : Option Addr} {n cap k m : Nat} {l : List Dl} (h : J2 w (.slice D n cap) l) (hkm : k ≤ m) (hm : m ≤ l.length) : J2 w (Gw D k m cap 7) ((l.take m).drop k) := by
 obtain ⟨D', cap', vs, e, hT, hcap, hmax, hnil, hat⟩ := h
 obtain ⟨rfl, rfl, rfl⟩ : D = D' ∧ n = l.length ∧ cap = cap' := by simpa using e
 have hl : ((l.take m).drop k).length = m - k := by simp; omega
 have hg : ∀ i, i < m - k → ((l.take m).drop k).getD i Qv = l.getD (k + i) Qv := fun i hi => by rw [Te, Nj _ _ (by omega)]
 unfold Gw sliced
 by_cases hc : cap = k
 ·rw [if_pos hc]
  have h0 : m - k = 0 := by omega
  refine ⟨D, 0, vs, ?_, ?_, by omega, by decide, fun _ => ⟨by omega, rfl⟩, fun i hi => absurd hi (by omega)⟩
  ·rw [hl, h0, show cap - k = 0 by omega]
  ·rw [hl, h0]; exact fun h => absurd h (by omega)
 ·rw [if_neg hc]
  cases D with
  | none => obtain ⟨_, h0⟩ := hnil rfl; omega
  | some a =>
   refine ⟨some (a.add (k * 7)), cap - k, fun i => vs (k + i), ?_, ?_, by omega, by omega, fun h => (by cases h), fun i hi => ?_⟩
   ·rw [hl]; rfl
   ·rw [hl]
    intro h0
    obtain ⟨b, off, ha, hb, hc⟩ := hT (by omega)
    cases ha
    refine ⟨b, off + k * 7, congrArg some (by unfold Addr.add; split <;> simp_all), hb, fun i j v hi hv => ?_⟩
    have hv2 : (Qu (l.getD (k + i) Qv) (vs (k + i)))[j]? = some v := by rw [← hg i hi]; exact hv
    have := hc (k + i) j v (by omega) hv2
    rw [show off + k * 7 + i * 7 + j = off + (k + i) * 7 + j by omega]; exact this
   ·rw [hl] at hi
    rw [hg i hi]; exact hat (k + i) (by omega)
theorem I7 {w : World} {D : Option Addr} {n cap m : Nat} {l : List Dl} (h : J2 w (.slice D n cap) l) (hm : m ≤ l.length) : J2 w (.slice D m cap) (l.take m) := by
 obtain ⟨D', cap', vs, e, hT, hcap, hmax, hnil, hat⟩ := h
 obtain ⟨rfl, rfl, rfl⟩ : D = D' ∧ n = l.length ∧ cap = cap' := by simpa using e
 have hl : (l.take m).length = m := by simp; omega
 refine ⟨D, cap, vs, by rw [hl], ?_, by omega, hmax, fun h => ⟨by have := hnil h; omega, (hnil h).2⟩, fun i hi => ?_⟩
 ·rw [hl]; exact (hT.take hm).congr (fun i hi => by show Qu _ _ = Qu _ _; rw [Nj _ _ hi])
 ·rw [hl] at hi; rw [Nj _ _ hi]; exact hat i (by omega)
theorem I1 (w : World) : J2 w (.slice none 0 0) [] := ⟨none, 0, fun _ => .slice none 0 0, rfl, Qo.nil, Nat.le_refl _, Nat.zero_le _, fun _ => ⟨rfl, rfl⟩, fun i hi => absurd hi (by simp)⟩
theorem Y8 (w : World) (b : Nat) : Zj w b Zx (.slice none 0 0) (.slice none 0 0) (.slice none 0 0) := ⟨World.ownsRow_nil _ _ _ _, I5 _ _ _, World.ownsRow_nil _ _ _ _⟩
theorem Qdl (w : World) : Zv w Zx (.slice none 0 0) (.slice none 0 0) (.slice none 0 0) := ⟨Vw w, I1 w, Vw w⟩
end
section
open Go Go.RowKit Go.Shelf
attribute [local go_sem] Zi
attribute [local go_sem high] Hu
theorem Qcc {l1 l2 : List Lt} {k : Nat} (h : Q4 l1 k ≠ Q4 l2 k) : l1 ≠ l2 := fun e => h (by rw [e])
theorem Qca {l1 l2 : List Lt} (hl : l1.length = l2.length) (h : ∀ k, k < l1.length → Q4 l1 k = Q4 l2 k) : l1 = l2 := by
 refine List.ext_getElem hl fun i h1 h2 => ?_
 have := h i h1
 rwa [Xf h1, Xf h2] at this
theorem lt_ext {x y : Lt} (h1 : x.g = y.g) (h2 : x.n = y.n) : x = y := by cases x; cases y; simp_all
theorem Qc9 {c : Qc} (hv : c.valid = true) (d : Dt) : 0 ≤ c.numV d ∧ c.numV d ≤ 1000000000 := by
 refine ⟨Qc5 hv, ?_⟩
 by_cases h : c.numV d = 0
 ·omega
 ·obtain ⟨h1, h2, _⟩ := V1 hv h
  have h3 := (Hw h1).2
  have h4 := (Vn c c.ny).2
  have h5 := Dd hv
  omega
theorem Qas (v1 v2 : Value) (l1 l2 : List Lt) (w : World) (h1 : Zf w v1 l1) (h2 : Zf w v2 l2) :
  Calls Tryd.prog 28 #[v1, v2] w fun e w' => e = .returned (.bool (decide (l1 = l2))) ∧ Qa w w' := by
 obtain ⟨A, ca, rfl, hA, hca, hca', _⟩ := h1
 obtain ⟨B, cb, rfl, hB, hcb, hcb', _⟩ := h2
 have hn1 : l1.length ≤ 9223372036854775807 := Nat.le_trans hca (Nat.le_trans hca' (by decide))
 have hn2 : l2.length ≤ 9223372036854775807 := Nat.le_trans hcb (Nat.le_trans hcb' (by decide))
 clear hca hca' hcb hcb'
 by_cases hl : l1.length = l2.length
 rotate_left
 ·have hr : decide (l1 = l2) = false := decide_eq_false fun e => hl (by rw [e])
  rw [hr]
  have g1 : ((l1.length : Int) == (l2.length : Int)) = false := beq_eq_false_iff_ne.2 (by omega)
  have g2 : (l1.length == l2.length) = false := beq_eq_false_iff_ne.2 hl
  clear hr hA hB
  generalize l1.length = n1 at *
  generalize l2.length = n2 at *
  go_enter Tryd.func28, Tryd.ntmps28
  go_wp2
  go_ret
  exact ⟨rfl, Qa.refl _⟩
 obtain ⟨R, hR⟩ := Qg (decide (l1 = l2))
 have hno : Hid (∀ k, k < l1.length → Q4 l1 k ≠ Q4 l2 k → R = false) := fun _ _ h => by rw [hR]; exact decide_eq_false (Qcc h)
 have hyes : Hid ((∀ k, k < l1.length → Q4 l1 k = Q4 l2 k) → R = true) := fun h => by rw [hR]; exact decide_eq_true (Qca hl h)
 rw [← hR]
 clear hR
 rw [← hl] at hB ⊢
 clear hl hn2
 generalize l1.length = n at *
 generalize Q4 l1 = f at *
 generalize Q4 l2 = g at *
 go_enter Tryd.func28, Tryd.ntmps28
 go_upto_region 4 with (fail)
 go_loopw [13] (fun i wr => ∃ k : Nat, k ≤ n ∧ i = .int .i64 k ∧ Hid (∀ j, j < k → f j = g j) ∧ Qa w wr) (fun i _ => n - (intOf i).toNat)
 case atStart => exact ⟨0, Nat.zero_le _, rfl, fun j h => absurd h (by omega), Qa.refl _⟩
 case round =>
  obtain ⟨k, hk, rfl, heq, hE⟩ := hrel
  obtain ⟨wo, rfl⟩ := Qg wr
  by_cases hlt : k < n
  ·obtain ⟨b, off, rfl, hb, hc⟩ := (hA.ext hE) (by omega)
   have c0 : wo.cell? ⟨b, off + k * 2, none⟩ = some (.string (f k).g) := by simpa [Zh] using hc k 0 _ hlt rfl
   have c1 : wo.cell? ⟨b, off + k * 2 + 1, none⟩ = some (.int .i64 (f k).n) := by simpa [Zh] using hc k 1 _ hlt rfl
   clear hc
   obtain ⟨b2, off2, rfl, hb2, hc⟩ := (hB.ext hE) (by omega)
   have d0 : wo.cell? ⟨b2, off2 + k * 2, none⟩ = some (.string (g k).g) := by simpa [Zh] using hc k 0 _ hlt rfl
   have d1 : wo.cell? ⟨b2, off2 + k * 2 + 1, none⟩ = some (.int .i64 (g k).n) := by simpa [Zh] using hc k 1 _ hlt rfl
   clear hc hA hB
   by_cases e : f k = g k
   ·have hall : Hid (∀ j, j < k + 1 → f j = g j) := fun j hj => by
     by_cases e2 : j = k
     ·subst e2; exact e
     ·exact heq.out j (by omega)
    rw [← e] at d0 d1
    clear heq hno hyes e
    generalize (f k).g = s at *
    generalize (f k).n = z at *
    go_upto_region 6 with (fail)
    refine Zr wo Qr (by kernel_rfl) (by repeat (first | exact Qa.refl _ | (refine Qa.alloc ?_ _) | (refine Qa.trans ?_ (by assumption)))) ?_
    intro hne hrx hry
    try simp only []
    try simp only [List.append_eq, List.cons_append, List.nil_append]
    skip
    repeat (first
     | go_big_quiet_skip
     | (go_big_quiet_want; go_big_quiet_op; go_big_quiet_on))
    clear hne hry hrx
    refine wpQuiet_nil ?_
    intro w2 h2
    obtain ⟨hcw2, hfw2, hzw2⟩ := Qa.rules h2
    try simp only [World.size_alloc] at hzw2
    obtain ⟨hcbw2, hfbw2, hzbw2⟩ := Qa.rules (show Qa wo w2 from (by repeat (first | exact Qa.refl _ | (refine Qa.alloc ?_ _) | (refine Qa.trans ?_ (by assumption)))))
    clear hcw2 hfw2
    go_wp2
    exact ⟨⟨k + 1, by omega, by go_num, hall, hE.trans h2⟩, by simp [intOf]; omega⟩
   ·obtain rfl := hno.out k hlt e
    have hq : (((f k).g.toList == (g k).g.toList) && ((f k).n == (g k).n)) = false := by
     rw [Bool.and_eq_false_iff]
     by_cases e1 : (f k).g = (g k).g
     ·exact .inr (beq_eq_false_iff_ne.2 fun e2 => e (lt_ext e1 e2))
     ·exact .inl (beq_eq_false_iff_ne.2 fun e2 => e1 (Bz e2))
    clear heq hno hyes e
    generalize (f k).g = s at *
    generalize (f k).n = z at *
    generalize (g k).g = s' at *
    generalize (g k).n = z' at *
    generalize hq1 : (s.toList == s'.toList) = q1 at *
    generalize hq2 : (z == z') = q2 at *
    have hq' : (q1 = true → q2 = false) := by cases q1 <;> simp_all
    go_upto_region 6 with (fail)
    refine Zr wo Qr (by kernel_rfl) (by repeat (first | exact Qa.refl _ | (refine Qa.alloc ?_ _) | (refine Qa.trans ?_ (by assumption)))) ?_
    intro hne hrx hry
    try simp only []
    try simp only [List.append_eq, List.cons_append, List.nil_append]
    skip
    repeat (first
     | go_big_quiet_skip
     | (go_big_quiet_want; go_big_quiet_op; go_big_quiet_on))
    clear hne hry hrx
    refine wpQuiet_nil ?_
    intro w2 h2
    obtain ⟨hcw2, hfw2, hzw2⟩ := Qa.rules h2
    try simp only [World.size_alloc] at hzw2
    obtain ⟨hcbw2, hfbw2, hzbw2⟩ := Qa.rules (show Qa wo w2 from (by repeat (first | exact Qa.refl _ | (refine Qa.alloc ?_ _) | (refine Qa.trans ?_ (by assumption)))))
    clear hcw2 hfw2
    cases q1 <;> cases q2 <;> first | (exact absurd (hq' rfl) (by decide)) | (go_wp2; go_ret; exact ⟨rfl, hE.trans h2⟩)
  ·obtain rfl : k = n := by omega
   obtain rfl := hyes.out heq.out
   go_wp2
   go_ret
   exact ⟨rfl, hE⟩
theorem Ra (A A' : Option Addr) (ca cb : Nat) (c : Qc) (x y : Pd) (xo xd xc yo yd yc : Value) (w : World) (hC : Q8 w A ca A' cb c) (hv : c.valid = true) (hX : Zv w x xo xd xc) (hY : Zv w y yo yd yc) :
  Calls Tryd.prog 27 #[.agg #[.slice A c.nk ca, .slice A' c.ny cb], .agg #[.string x.h, .int .i64 x.a.y, .int .i64 x.a.m, .bool x.a.s, .int .i64 x.a.d, .int .i64 x.b.y, .int .i64 x.b.m, .bool x.b.s, .int .i64 x.b.d, xo, xd, xc], .agg #[.string y.h, .int .i64 y.a.y, .int .i64 y.a.m, .bool y.a.s, .int .i64 y.a.d, .int .i64 y.b.y, .int .i64 y.b.m, .bool y.b.s, .int .i64 y.b.d, yo, yd, yc]] w fun e w' => e = .returned (.bool (c.behV x y)) ∧ Qa w w' := by
 obtain ⟨o1, p1, e1, _⟩ := id hX.o
 subst e1
 obtain ⟨d1, q1, _, e2, _⟩ := id hX.d
 subst e2
 obtain ⟨c1, r1, e3, _⟩ := id hX.c
 subst e3
 obtain ⟨o2, p2, e1, _⟩ := id hY.o
 subst e1
 obtain ⟨d2, q2, _, e2, _⟩ := id hY.d
 subst e2
 obtain ⟨c2, r2, e3, _⟩ := id hY.c
 subst e3
 obtain ⟨R, hR⟩ := Qg (c.behV x y)
 rw [← hR]
 unfold Qc.behV at hR
 replace hR := Lib.hid hR
 have NX := fun w h => Xc A A' ca cb c x.b w h
 have NY := fun w h => Xc A A' ca cb c y.a w h
 have bx := Qc9 hv x.b
 clear hv hX hY
 go_enter Tryd.func27, Tryd.ntmps27
 go_upto_region 1 with (fail)
 obtain ⟨v, hv⟩ := Qg (((w.alloc (.cells #[.slice A c.nk ca, .slice A' c.ny cb] 52)).alloc (.cells #[.string x.h, .int .i64 x.a.y, .int .i64 x.a.m, .bool x.a.s, .int .i64 x.a.d, .int .i64 x.b.y, .int .i64 x.b.m, .bool x.b.s, .int .i64 x.b.d, .slice o1 x.o.length p1, .slice d1 x.d.length q1, .slice c1 x.c.length r1] 31)).alloc (.cells #[.string y.h, .int .i64 y.a.y, .int .i64 y.a.m, .bool y.a.s, .int .i64 y.a.d, .int .i64 y.b.y, .int .i64 y.b.m, .bool y.b.s, .int .i64 y.b.d, .slice o2 y.o.length p2, .slice d2 y.d.length q2, .slice c2 y.c.length r2] 31))
 rw [← hv]
 have E : Qa w v := by rw [hv]; exact (((Qa.refl _).alloc _).alloc _).alloc _
 have B1 : Qb v w.heap.size 52 #[.slice A c.nk ca, .slice A' c.ny cb] := by rw [hv]; exact ((Qb.new _ _ _).alloc _).alloc _
 have B2 : Qb v (w.heap.size + 1) 31 #[.string x.h, .int .i64 x.a.y, .int .i64 x.a.m, .bool x.a.s, .int .i64 x.a.d, .int .i64 x.b.y, .int .i64 x.b.m, .bool x.b.s, .int .i64 x.b.d, .slice o1 x.o.length p1, .slice d1 x.d.length q1, .slice c1 x.c.length r1] := by rw [hv]; exact (Qb.at _ _ _ _ (by simp)).alloc _
 have B3 : Qb v (w.heap.size + 1 + 1) 31 #[.string y.h, .int .i64 y.a.y, .int .i64 y.a.m, .bool y.a.s, .int .i64 y.a.d, .int .i64 y.b.y, .int .i64 y.b.m, .bool y.b.s, .int .i64 y.b.d, .slice o2 y.o.length p2, .slice d2 y.d.length q2, .slice c2 y.c.length r2] := by rw [hv]; exact Qb.at _ _ _ _ (by simp)
 clear hv
 obtain ⟨b3, hb3⟩ := Qg (w.heap.size + 1 + 1)
 rw [← hb3] at B3 ⊢
 obtain ⟨b2, hb2⟩ := Qg (w.heap.size + 1)
 rw [← hb2] at B2 ⊢
 obtain ⟨b1, hb1⟩ := Qg (w.heap.size)
 rw [← hb1] at B1 ⊢
 have hbr : w.heap.size ≤ b3 := by omega
 have hbr1 : w.heap.size ≤ b1 := by omega
 have hbr2 : w.heap.size ≤ b2 := by omega
 have hn21 : b2 ≠ b1 := by omega
 have hn31 : b3 ≠ b1 := by omega
 have hn32 : b3 ≠ b2 := by omega
 clear hb1 hb2 hb3
 have C := hC.ext E
 clear hC
 obtain ⟨k0, k1⟩ := B1.c2
 have kl := B1.lt
 obtain ⟨x0, x1, x2, x3, x4, x5, x6, x7, x8, x9, x10, x11⟩ := B2.c12
 have xl := B2.lt
 obtain ⟨y0, y1, y2, y3, y4, y5, y6, y7, y8, y9, y10, y11⟩ := B3.c12
 have yl := B3.lt
 generalize c.numV x.b = nx at *
 generalize c.numV y.a = ny at *
 have hd : Hid (decide (ny = nx + 1) = (ny == nx + 1)) := (by unfold Hid; cases h : (ny == nx + 1) <;> simp_all)
 by_cases hh : x.h = y.h
 ·have gh : (x.h.toList == y.h.toList) = true := by rw [hh]; exact beq_self_eq_true _
  have hr : Hid (R = (ny == nx + 1)) := by unfold Hid; rw [hR.out, decide_eq_true hh, Bool.true_and]; exact hd.out
  clear hh hd hR
  refine Zr v Qr (by kernel_rfl) (by repeat (first | exact Qa.refl _ | (refine Qa.alloc ?_ _) | (refine Qa.trans ?_ (by assumption)))) ?_
  intro hne hrx hry
  try simp only []
  try simp only [List.append_eq, List.cons_append, List.nil_append]
  skip
  repeat (first
   | go_big_quiet_skip
   | (go_big_quiet_want; go_big_quiet_op; go_big_quiet_on)
   | (go_big_quiet_want; go_big_quiet_op; apply Exists.intro; refine ⟨fun u => ?_, ?_⟩
      ·first
        | (go_at_call 22; (with_reducible refine Calls.mono (NX _ (C.ext u.e)) ?_); rintro e w' ⟨rfl, hb⟩; exact ⟨rfl, u.back hb⟩)
        | (go_at_call 22; (with_reducible refine Calls.mono (NY _ (C.ext u.e)) ?_); rintro e w' ⟨rfl, hb⟩; exact ⟨rfl, u.back hb⟩)
      go_big_quiet_on))
  clear hne hry hrx
  refine wpQuiet_nil ?_
  intro w2 h2
  obtain ⟨hcw2, hfw2, hzw2⟩ := Qa.rules h2
  try simp only [World.size_alloc] at hzw2
  obtain ⟨hcbw2, hfbw2, hzbw2⟩ := Qa.rules (show Qa v w2 from (by repeat (first | exact Qa.refl _ | (refine Qa.alloc ?_ _) | (refine Qa.trans ?_ (by assumption)))))
  clear hcw2 hfw2
  go_wp2
  go_ret
  exact ⟨by rw [hr.out]; rfl, E.trans h2⟩
 ·have gh : (x.h.toList == y.h.toList) = false := beq_eq_false_iff_ne.2 fun h => hh (Bz h)
  have hr : Hid (R = false) := by unfold Hid; rw [hR.out, decide_eq_false hh]; rfl
  clear hh hd hR
  refine Zr v Qr (by kernel_rfl) (by repeat (first | exact Qa.refl _ | (refine Qa.alloc ?_ _) | (refine Qa.trans ?_ (by assumption)))) ?_
  intro hne hrx hry
  try simp only []
  try simp only [List.append_eq, List.cons_append, List.nil_append]
  skip
  repeat (first
   | go_big_quiet_skip
   | (go_big_quiet_want; go_big_quiet_op; go_big_quiet_on)
   | (go_big_quiet_want; go_big_quiet_op; apply Exists.intro; refine ⟨fun u => ?_, ?_⟩
      ·first
        | (go_at_call 22; (with_reducible refine Calls.mono (NX _ (C.ext u.e)) ?_); rintro e w' ⟨rfl, hb⟩; exact ⟨rfl, u.back hb⟩)
        | (go_at_call 22; (with_reducible refine Calls.mono (NY _ (C.ext u.e)) ?_); rintro e w' ⟨rfl, hb⟩; exact ⟨rfl, u.back hb⟩)
      go_big_quiet_on))
  clear hne hry hrx
  refine wpQuiet_nil ?_
  intro w2 h2
  obtain ⟨hcw2, hfw2, hzw2⟩ := Qa.rules h2
  try simp only [World.size_alloc] at hzw2
  obtain ⟨hcbw2, hfbw2, hzbw2⟩ := Qa.rules (show Qa v w2 from (by repeat (first | exact Qa.refl _ | (refine Qa.alloc ?_ _) | (refine Qa.trans ?_ (by assumption)))))
  clear hcw2 hfw2
  go_wp2
  go_ret
  exact ⟨by rw [hr.out]; rfl, E.trans h2⟩
end
section
open Go Go.RowKit Go.Shelf
attribute [local go_sem] Zi
def Ts : Ren := ⟨fun | 4 => 55 | n => n, fun | 0 => 0 | 3 => 3 | 4 => 4 | 9 => 9 | 20 => 20 | 22 => 29 | 25 => 67 | n => n, fun n => n⟩
theorem Tq : Lays8.n4 Tryd.prog Ts where
 mixed := by kernel_rfl
 f4 := ⟨Tryd.f55.name, by kernel_rfl, Tryd.func55.trans (congrArg some (by kernel_rfl))⟩
 t0 := Tryd.underlying0
 a0 := Tryd.isAgg0
 z0 := Tryd.sizeOf0
 v0 := Tryd.zeroValue0
 t3 := Tryd.underlying3
 a3 := Tryd.isAgg3
 z3 := Tryd.sizeOf3
 v3 := Tryd.zeroValue3
 t4 := Tryd.underlying4
 a4 := Tryd.isAgg4
 z4 := Tryd.sizeOf4
 v4 := Tryd.zeroValue4
 t9 := Tryd.underlying9
 a9 := Tryd.isAgg9
 z9 := Tryd.sizeOf9
 v9 := Tryd.zeroValue9
 t20 := Tryd.underlying20
 a20 := Tryd.isAgg20
 z20 := Tryd.sizeOf20
 v20 := Tryd.zeroValue20
 t22 := Tryd.underlying29
 a22 := Tryd.isAgg29
 z22 := Tryd.sizeOf29
 v22 := Tryd.zeroValue29
theorem Qa0 (n : Nat) (w : World) (hn : n ≤ 1000000) :
  Calls Tryd.prog 55 #[.slice none 0 0, .int .i64 n] w fun e w' => ∃ F m, e = .returned (.slice F 0 m) ∧ Qa w w' ∧ w'.ownsRow w.heap.size 67 7 (.slice F 0 m) 0 [] := by
 by_cases h0 : n = 0
 ·subst h0
  refine Calls.mono (Any8.slices_Grow_room Tq none 0 0 0 w (Nat.le_refl _) (by decide) (by decide) (Nat.le_refl _)) ?_
  rintro e w' ⟨rfl, rfl⟩
  exact ⟨none, 0, rfl, Qa.refl _, World.ownsRow_nil _ _ _ _⟩
 ·obtain ⟨i0, hi, hz0, hz1, hz2⟩ := info_parts Ox
  refine Calls.mono (Any8.slices_Grow_grow Tq i0 _ hi hz0 (by rw [hz1]; decide) none 0 0 n [] w (Nat.le_refl _) (by omega) (by rw [hz2]; omega) (by omega) (by simp) (fun _ => rfl) (fun a h => by cases h)) ?_
  rintro e w' ⟨rfl, rfl⟩
  have hw : Qa w w.drew := ⟨rfl, rfl, rfl, Nat.le_refl _, fun _ _ => rfl⟩
  refine ⟨_, _, rfl, hw.alloc _, ?_⟩
  have hs : w.drew.heap.size = w.heap.size := rfl
  rw [← hs]
  refine World.ownsRow_made w.drew _ _ (Nat.le_refl _) (grownCap_le_maxLen _ _ _ _ (by unfold maxLen; omega)) ?_
  have hg := grownCap_ge w (0 + n) 0 (Ts.t 25)
  simp only [Nat.zero_add] at hg
  simp [Builtin.zeroCells, Value.cells]
  omega
theorem Tj (f g : Nat → List Value) (n : Nat) : ∀ m, Qz f n ++ Qz g m = Qz (fun i => if i < n then f i else g (i - n)) (n + m)
 | 0 => by
  rw [show Qz g 0 = [] from rfl, List.append_nil]
  exact Uj n (fun i hi => by rw [if_pos hi])
 | m + 1 => by
  rw [X0, ← List.append_assoc, Tj f g n m, show n + (m + 1) = (n + m) + 1 by omega, X0, if_neg (by omega), show n + m - n = m by omega]
theorem I3 {w : World} {base : Nat} {v : Value} {x y : List Dl} {vs1 vs2 : Nat → Value} (h : w.ownsRow base 67 7 v (x.length + y.length) (Qz (fun i => Qu (x.getD i Qv) (vs1 i)) x.length ++ Qz (fun i => Qu (y.getD i Qv) (vs2 i)) y.length)) (h1 : ∀ i, i < x.length → Zf w (vs1 i) (x.getD i Qv).l) (h2 : ∀ i, i < y.length → Zf w (vs2 i) (y.getD i Qv).l) : J2 w v (x ++ y) := by
 rw [Tj] at h
 have hl : (x ++ y).length = x.length + y.length := by simp
 have hx : ∀ i, i < x.length → (x ++ y).getD i Qv = x.getD i Qv := fun i hi => by simp [List.getD_eq_getElem?_getD, List.getElem?_append_left hi]
 have hy : ∀ i, ¬ i < x.length → (x ++ y).getD i Qv = y.getD (i - x.length) Qv := fun i hi => by simp [List.getD_eq_getElem?_getD, List.getElem?_append_right (show x.length ≤ i by omega)]
 have e : Qz (fun i => if i < x.length then Qu (x.getD i Qv) (vs1 i) else Qu (y.getD (i - x.length) Qv) (vs2 (i - x.length))) (x.length + y.length) = Qz (fun i => Qu ((x ++ y).getD i Qv) (if i < x.length then vs1 i else vs2 (i - x.length))) (x.length + y.length) := Uj _ (fun i _ => by
  by_cases c : i < x.length
  ·rw [if_pos c, if_pos c, hx i c]
  ·rw [if_neg c, if_neg c, hy i c])
 rw [e] at h
 obtain ⟨F, c, g1, g2, g3, g4, g5, _⟩ := Wg (f := fun i => Qu ((x ++ y).getD i Qv) (if i < x.length then vs1 i else vs2 (i - x.length))) (fun _ => rfl) h
 refine ⟨F, c, _, by rw [hl]; exact g1, by rw [hl]; exact g2, by rw [hl]; exact g3, g4, fun h => by rw [hl]; exact g5 h, fun i hi => ?_⟩
 by_cases c : i < x.length
 ·simp only [if_pos c]; rw [hx i c]; exact h1 i c
 ·simp only [if_neg c]; rw [hy i c]; exact h2 _ (by rw [hl] at hi; omega)
theorem Ij (bs : Nat) (D1 D2 : Option Addr) (c1 c2 : Nat) (x y : List Dl) (w : World) (hB : Qb w bs 29 #[.slice D1 x.length c1, .slice D2 y.length c2]) (h1 : J2 w (.slice D1 x.length c1) x) (h2 : J2 w (.slice D2 y.length c2) y) (hx : x.length ≤ 64) (hy : y.length ≤ 64) :
  Calls Tryd.prog 29 #[.slice (some ⟨bs, 0, none⟩) 2 2] w fun e w' => ∃ v', e = .returned v' ∧ Qa w w' ∧ J2 w' v' (x ++ y) := by
 obtain ⟨i0, hi, hz0, hz1, hz2⟩ := info_parts Ox
 have NG := fun n w h => Qa0 n w h
 obtain ⟨D1', c1', vs1, e1, hD1, hcap1, hmax1, hnil1, hat1⟩ := h1
 obtain ⟨rfl, rfl⟩ : D1 = D1' ∧ c1 = c1' := by simpa using e1
 obtain ⟨D2', c2', vs2, e2, hD2, hcap2, hmax2, hnil2, hat2⟩ := h2
 obtain ⟨rfl, rfl⟩ : D2 = D2' ∧ c2 = c2' := by simpa using e2
 clear e1 e2
 obtain ⟨a0, a1⟩ := hB.c2
 have al := hB.lt
 go_enter Tryd.func29, Tryd.ntmps29
 go_upto_region 3 with (fail)
 go_loopw [3, 11] (fun sv iv wr => ∃ k : Nat, k ≤ 2 ∧ iv = .int .i64 k ∧ sv = .int .i64 ((if k = 0 then 0 else if k = 1 then x.length else x.length + y.length : Nat) : Int) ∧ wr = w) (fun _ iv _ => 2 - (intOf iv).toNat)
 case atStart => exact ⟨0, by decide, rfl, rfl, rfl⟩
 case round =>
  obtain ⟨k, hk, rfl, rfl, hw⟩ := hrel
  obtain rfl : w = wr := hw.symm
  clear hw
  have hk3 : k = 0 ∨ k = 1 ∨ k = 2 := by omega
  rcases hk3 with rfl | rfl | rfl
  ·go_wp2
   exact ⟨⟨1, by decide, by go_num, by simp, by simp⟩, by simp [intOf]⟩
  ·go_wp2
   exact ⟨⟨2, by decide, by go_num, by simp, by simp⟩, by simp [intOf]⟩
  ·have NG2 : Calls Tryd.prog 55 #[.slice none 0 0, .int .i64 ((x.length : Int) + (y.length : Int))] w fun e w' => ∃ F m, e = .returned (.slice F 0 m) ∧ Qa w w' ∧ w'.ownsRow w.heap.size 67 7 (.slice F 0 m) 0 [] := by simpa using NG (x.length + y.length) w (by omega)
   clear NG
   go_upto_region 11 with (go_at_call 55; (with_reducible refine Calls.mono (NG2) ?_); rintro e w2 ⟨FG, mG, rfl, hx2, hO0⟩)
   clear NG2
   clear a0 a1 al
   have L1 := Yy (f := fun i => Qu (x.getD i Qv) (vs1 i)) (sz := 7) (fun _ => rfl) x.length
   have L2 := Yy (f := fun i => Qu (y.getD i Qv) (vs2 i)) (sz := 7) (fun _ => rfl) y.length
   have O1 := Oo (g := fun i => x.getD i Qv) hat1
   have O2 := Oo (g := fun i => y.getD i Qv) hat2
   have W1 := fun v (h : Qo v D1 x.length 7 (fun i => Qu (x.getD i Qv) (vs1 i))) => Vo (f := fun i => Qu (x.getD i Qv) (vs1 i)) (sz := 7) (fun _ => rfl) (by decide) h
   have W2 := fun v (h : Qo v D2 y.length 7 (fun i => Qu (y.getD i Qv) (vs2 i))) => Vo (f := fun i => Qu (y.getD i Qv) (vs2 i)) (sz := 7) (fun _ => rfl) (by decide) h
   obtain ⟨XX, hXX⟩ := Qg (Qz (fun i => Qu (x.getD i Qv) (vs1 i)) x.length)
   obtain ⟨YY, hYY⟩ := Qg (Qz (fun i => Qu (y.getD i Qv) (vs2 i)) y.length)
   simp only [← hXX] at L1 O1 W1
   simp only [← hYY] at L2 O2 W2
   replace hXX := Lib.hid hXX
   replace hYY := Lib.hid hYY
   go_loopw [6, 27] (fun ov iv wr => ∃ k : Nat, k ≤ 2 ∧ iv = .int .i64 k ∧ wr.ownsRow w.heap.size 67 7 ov (if k = 0 then 0 else if k = 1 then x.length else x.length + y.length) (if k = 0 then [] else if k = 1 then XX else XX ++ YY) ∧ Qa w wr) (fun _ iv _ => 2 - (intOf iv).toNat)
   case atStart => exact ⟨0, by decide, rfl, by simpa using hO0, hx2⟩
   case round =>
    clear hO0 hx2
    obtain ⟨k, hk, rfl, hO, hE⟩ := hrel
    obtain ⟨wo, rfl⟩ := Qg wr
    have hk3 : k = 0 ∨ k = 1 ∨ k = 2 := by omega
    rcases hk3 with rfl | rfl | rfl
    ·simp only [if_true] at hO
     obtain ⟨FO, mO, rfl⟩ := Zo hO
     obtain ⟨a0, a1⟩ := (hB.ext hE).c2
     have al := (hB.ext hE).lt
     cases D1 with
     | none =>
      obtain ⟨hxz, hcz⟩ := hnil1 rfl
      have hXz : XX = [] := List.length_eq_zero_iff.1 (by rw [L1, hxz])
      replace hXz := Lib.hid hXz
      replace hxz := Lib.hid hxz
      replace hcz := Lib.hid hcz
      clear hnil1 hnil2
      go_wp2_with (at_builtin; refine wpList_append_own_none rfl _ _ 29 rfl w.heap.size 67 i0 7 Tryd.underlying29 hi _ _ _ rfl hO (by show Value.slice none x.length c1 = _; rw [hxz.out, hcz.out]) ?_)
      exact ⟨⟨1, by decide, by go_num, by simpa [hXz.out, hxz.out] using hO, hE⟩, by simp [intOf]⟩
     | some ad =>
      go_wp2_with (at_builtin; refine wpList_append_own_at _ rfl _ _ 29 rfl w.heap.size 67 i0 (.agg #[.int .i64 0, .int .i64 0, .bool false, .int .i64 0, .bool false, .string ⟨#[]⟩, .slice none 0 0]) 7 80 Tryd.underlying29 hi hz0 hz1 hz2 rfl (by decide) _ _ _ rfl hO ad x.length c1 XX rfl L1 (W1 _ (hD1.ext hE) ad rfl) O1 (by unfold maxLen; omega) (by omega) hE.size ?_; intro v' w1 hown hgrow _ _)
      exact ⟨⟨1, by decide, by go_num, by simpa using hown, hE.grown hgrow (fun q hq => (hO.lt q hq).1)⟩, by simp [intOf]⟩
    ·simp only [show ¬ (1 = 0) by decide, if_false, if_true] at hO
     obtain ⟨FO, mO, rfl⟩ := Zo hO
     obtain ⟨a0, a1⟩ := (hB.ext hE).c2
     have al := (hB.ext hE).lt
     cases D2 with
     | none =>
      obtain ⟨hxz, hcz⟩ := hnil2 rfl
      have hXz : YY = [] := List.length_eq_zero_iff.1 (by rw [L2, hxz])
      replace hXz := Lib.hid hXz
      replace hxz := Lib.hid hxz
      replace hcz := Lib.hid hcz
      clear hnil1 hnil2
      go_wp2_with (at_builtin; refine wpList_append_own_none rfl _ _ 29 rfl w.heap.size 67 i0 7 Tryd.underlying29 hi _ _ _ rfl hO (by show Value.slice none y.length c2 = _; rw [hxz.out, hcz.out]) ?_)
      exact ⟨⟨2, by decide, by go_num, by simpa [hXz.out, hxz.out] using hO, hE⟩, by simp [intOf]⟩
     | some ad =>
      go_wp2_with (at_builtin; refine wpList_append_own_at _ rfl _ _ 29 rfl w.heap.size 67 i0 (.agg #[.int .i64 0, .int .i64 0, .bool false, .int .i64 0, .bool false, .string ⟨#[]⟩, .slice none 0 0]) 7 80 Tryd.underlying29 hi hz0 hz1 hz2 rfl (by decide) _ _ _ rfl hO ad y.length c2 YY rfl L2 (W2 _ (hD2.ext hE) ad rfl) O2 (by unfold maxLen; omega) (by omega) hE.size ?_; intro v' w1 hown hgrow _ _)
      exact ⟨⟨2, by decide, by go_num, by simpa using hown, hE.grown hgrow (fun q hq => (hO.lt q hq).1)⟩, by simp [intOf]⟩
    ·simp only [show ¬ (2 = 0) by decide, show ¬ (2 = 1) by decide, if_false] at hO
     rw [hXX.out, hYY.out] at hO
     go_wp2
     go_ret
     exact ⟨_, rfl, hE, I3 hO (fun i hi => (hat1 i hi).ext hE) (fun i hi => (hat2 i hi).ext hE)⟩
end
section
open Go Go.RowKit Go.Shelf
attribute [local go_sem] Zi
attribute [local go_sem high] Py
theorem L7 {W : World} {b : Nat} {t : TypeId} {v0 v1 v2 v3 v4 v5 v6 : Value} (h : Qb W b t #[v0, v1, v2, v3, v4, v5, v6]) (u0 u1 u2 u3 u4 u5 u6 : Value) : Qb (((((((W.setCell ⟨b, 0, none⟩ u0).setCell ⟨b, 1, none⟩ u1).setCell ⟨b, 2, none⟩ u2).setCell ⟨b, 3, none⟩ u3).setCell ⟨b, 4, none⟩ u4).setCell ⟨b, 5, none⟩ u5).setCell ⟨b, 6, none⟩ u6) b t #[u0, u1, u2, u3, u4, u5, u6] := by unfold Qb at h ⊢; simp [World.setCell, Array.getElem?_modify, h]
theorem Lv {w W : World} {b : Nat} (h : Qa w W) (hb : w.heap.size ≤ b) (u0 u1 u2 u3 u4 u5 u6 : Value) : Qa w (((((((W.setCell ⟨b, 0, none⟩ u0).setCell ⟨b, 1, none⟩ u1).setCell ⟨b, 2, none⟩ u2).setCell ⟨b, 3, none⟩ u3).setCell ⟨b, 4, none⟩ u4).setCell ⟨b, 5, none⟩ u5).setCell ⟨b, 6, none⟩ u6) := (((((((h.setCell (p := ⟨b, 0, none⟩) hb u0).setCell (p := ⟨b, 1, none⟩) hb u1).setCell (p := ⟨b, 2, none⟩) hb u2).setCell (p := ⟨b, 3, none⟩) hb u3).setCell (p := ⟨b, 4, none⟩) hb u4).setCell (p := ⟨b, 5, none⟩) hb u5).setCell (p := ⟨b, 6, none⟩) hb u6)
theorem Mt {W : World} {b b' : Nat} {t : TypeId} {cs : Array Value} (h : Qb W b' t cs) (hne : b' ≠ b) (u0 u1 u2 u3 u4 u5 u6 : Value) : Qb (((((((W.setCell ⟨b, 0, none⟩ u0).setCell ⟨b, 1, none⟩ u1).setCell ⟨b, 2, none⟩ u2).setCell ⟨b, 3, none⟩ u3).setCell ⟨b, 4, none⟩ u4).setCell ⟨b, 5, none⟩ u5).setCell ⟨b, 6, none⟩ u6) b' t cs := (Qh (Qh (Qh (Qh (Qh (Qh (Qh h hne 0 u0) hne 1 u1) hne 2 u2) hne 3 u3) hne 4 u4) hne 5 u5) hne 6 u6)
end
section
structure J6 where
 e : Int
 r : Int
 l : Int
 deriving DecidableEq
def Vt : J6 := ⟨0, 0, 0⟩
def nOk (n : Int) : Bool := decide (0 ≤ n) && decide (n ≤ 1048576)
def J6.ok (h : J6) : Bool := nOk h.e && nOk h.r && nOk h.l
def Zb (n : Int) (d : Rt) : Int := n - d.n * n / d.d
def Vq (b d : Rt) (h : J6) : J6 := ⟨Zb h.e d + (Zb h.l d + 1) / 2, Zb h.r d + Zb h.l d / 2, b.n * Zb h.e d / b.d⟩
def Vp (b d : Rt) : Nat → J6 → J6 × Int
 | 0, h => (h, 0)
 | m + 1, h => if (Vq b d h).ok then Vp b d m (Vq b d h) else (Vt, 6)
def Wh (h : J6) (b d : Rt) (y : Int) : J6 × Int := if h.ok then (if b.shr && d.shr then (if y < 0 ∨ 40 < y then (Vt, 8) else Vp b d y.toNat h) else (Vt, 2)) else (Vt, 82)
theorem Hk {n : Int} : nOk n = true ↔ 0 ≤ n ∧ n ≤ 1048576 := by simp [nOk]
theorem Gq {r : Rt} (h : r.shr = true) : 0 ≤ r.n ∧ r.n ≤ r.d ∧ 1 ≤ r.d ∧ r.d ≤ 1048576 := by
 simp only [Rt.shr, Bool.and_eq_true, decide_eq_true_eq] at h
 have := Zk h.1.1
 omega
theorem K6 {n : Int} {r : Rt} (h : r.shr = true) (h1 : 0 ≤ n) (h2 : n ≤ 1048576) : 0 ≤ r.n * n ∧ r.n * n ≤ 1099511627776 ∧ 0 ≤ r.n * n / r.d ∧ r.n * n / r.d ≤ n := by
 obtain ⟨r1, r2, r3, r4⟩ := Gq h
 have m0 := Int.mul_nonneg r1 h1
 have m1 := Vy (a := r.n) (b := n) (A := 1048576) (B := 1048576) (by omega) (by omega) h1 h2
 refine ⟨m0, by omega, Int.ediv_nonneg m0 (by omega), Int.ediv_le_of_le_mul (by omega) ?_⟩
 rw [Int.mul_comm n]
 exact Int.mul_le_mul_of_nonneg_right r2 h1
theorem Oq {n : Int} {d : Rt} (h : d.shr = true) (h1 : 0 ≤ n) (h2 : n ≤ 1048576) : 0 ≤ Zb n d ∧ Zb n d ≤ 1048576 := by
 have := K6 h h1 h2
 unfold Zb; omega
def sA : ByteArray := ⟨#[97]⟩
def sB : ByteArray := ⟨#[98]⟩
def sC : ByteArray := ⟨#[99]⟩
def sU8 : ByteArray := ⟨#[117, 114]⟩
def Xt : ByteArray := ⟨#[98, 97, 114, 108, 101, 121]⟩
def yr8 : Nat → Yr
 | 0 => ⟨0, sA, 4095, 0⟩
 | 1 => ⟨0, sB, 4095, 0⟩
 | _ => ⟨0, sC, 4095, 0⟩
def Yn : Qc := ⟨1, fun _ => sU8, 3, yr8⟩
def l8 : Ln := ⟨⟨60, 1⟩, ⟨1, 5⟩, ⟨0, 1, false, 1⟩⟩
def p8 : Nat → Zy := fun _ => ⟨⟨0, 7, false, 1⟩, ⟨10, 1⟩⟩
def d8 : Dt := ⟨1, 7, false, 1⟩
def t8 : Nat → Tk
 | 0 => ⟨⟨10, 1⟩, ⟨1, 3⟩⟩
 | _ => ⟨⟨5, 1⟩, ⟨1, 1⟩⟩
def f8 : Dt := ⟨0, 1, false, 1⟩
def u8' : Dt := ⟨0, 1, false, 30⟩
def w8 : Nat → Cw := fun _ => ⟨2, ⟨1, 2⟩, f8, u8'⟩
def h8 : J6 := ⟨10, 2, 5⟩
def pd8 : Pd := ⟨sA, f8, u8', [⟨Xt, 10⟩], [⟨⟨0, 1, false, 2⟩, true, sB, [⟨Xt, 5⟩]⟩, ⟨⟨0, 1, false, 2⟩, false, sB, [⟨Xt, 20⟩]⟩], []⟩
theorem e8_int : Zu ⟨60, 1⟩ ⟨1, 5⟩ 180 = (⟨6, 1⟩, 0) := by kernel_rfl
theorem e8_dbl : Xm ⟨1, 3⟩ = (1080, 0) := by kernel_rfl
theorem Qaj : Yn.owedV l8 p8 1 d8 = (⟨⟨56, 1⟩, ⟨56, 5⟩, ⟨0, 1⟩⟩, 0) := by kernel_rfl
theorem Qak : Yn.settleV l8 p8 1 d8 = (⟨336, 5⟩, 0) := by kernel_rfl
theorem e8_bal : Yn.balV t8 2 w8 1 = (⟨-5, 1⟩, 0) := by kernel_rfl
theorem e8_few : Yn.fewV t8 2 ⟨1, 2⟩ f8 u8' = (3, 0) := by kernel_rfl
theorem Qai : Wh h8 ⟨4, 5⟩ ⟨1, 10⟩ 1 = (⟨12, 4, 7⟩, 0) := by kernel_rfl
theorem Qah : Yn.closeV pd8 = ([⟨Xt, -5⟩], 0) := by kernel_rfl
end
section
open Go Go.RowKit Go.Shelf
attribute [local go_sem] Zi
def Xs (h : J6) : Nat → Bool
 | 0 => true
 | 1 => true && (decide (0 ≤ h.e) && decide (h.e ≤ 1048576))
 | 2 => (true && (decide (0 ≤ h.e) && decide (h.e ≤ 1048576))) && (decide (0 ≤ h.r) && decide (h.r ≤ 1048576))
 | _ => ((true && (decide (0 ≤ h.e) && decide (h.e ≤ 1048576))) && (decide (0 ≤ h.r) && decide (h.r ≤ 1048576))) && (decide (0 ≤ h.l) && decide (h.l ≤ 1048576))
section
variable {W w : World} {b : Nat} {t : TypeId} {v0 v1 v2 : Value}
theorem Tx (h : Qb W b t #[v0, v1, v2]) (u : Value) : Qb (W.setCell ⟨b, 0, none⟩ u) b t #[u, v1, v2] := by unfold Qb at h ⊢; simp [World.setCell, Array.getElem?_modify, h]
theorem Ty (h : Qb W b t #[v0, v1, v2]) (u : Value) : Qb (W.setCell ⟨b, 1, none⟩ u) b t #[v0, u, v2] := by unfold Qb at h ⊢; simp [World.setCell, Array.getElem?_modify, h]
theorem Tz (h : Qb W b t #[v0, v1, v2]) (u : Value) : Qb (W.setCell ⟨b, 2, none⟩ u) b t #[v0, v1, u] := by unfold Qb at h ⊢; simp [World.setCell, Array.getElem?_modify, h]
theorem U9 (h : Qb W b t #[v0, v1, v2]) (u0 u1 u2 : Value) : Qb (((W.setCell ⟨b, 0, none⟩ u0).setCell ⟨b, 1, none⟩ u1).setCell ⟨b, 2, none⟩ u2) b t #[u0, u1, u2] := by unfold Qb at h ⊢; simp [World.setCell, Array.getElem?_modify, h]
theorem U5 (h : Qa w W) (hb : w.heap.size ≤ b) (u0 u1 u2 : Value) : Qa w (((W.setCell ⟨b, 0, none⟩ u0).setCell ⟨b, 1, none⟩ u1).setCell ⟨b, 2, none⟩ u2) := ((h.setCell (p := ⟨b, 0, none⟩) hb u0).setCell (p := ⟨b, 1, none⟩) hb u1).setCell (p := ⟨b, 2, none⟩) hb u2
end
def stJ (d : Rt) (g : J6) : Nat → J6
 | 0 => g
 | 1 => ⟨Zb g.e d, g.r, g.l⟩
 | 2 => ⟨Zb g.e d, Zb g.r d, g.l⟩
 | _ => ⟨Zb g.e d, Zb g.r d, Zb g.l d⟩
theorem Qdb (h : J6) : Xs h 3 = h.ok := rfl
theorem Qbd (h : J6) (w : World) :
  Calls Tryd.prog 66 #[.agg #[.int .i64 h.e, .int .i64 h.r, .int .i64 h.l]] w fun e w' => e = .returned (.bool h.ok) ∧ Qa w w' := by
 rw [show h.ok = Xs h 3 from (Qdb h).symm]
 have hix0 : ∀ w, (Instr.index 157 (.agg #[.int .i64 h.e, .int .i64 h.r, .int .i64 h.l]) (.int .i64 0)).run Tryd.prog w = .ok (.int .i64 h.e) w := fun w => by kernel_rfl
 have hix1 : ∀ w, (Instr.index 157 (.agg #[.int .i64 h.e, .int .i64 h.r, .int .i64 h.l]) (.int .i64 1)).run Tryd.prog w = .ok (.int .i64 h.r) w := fun w => by kernel_rfl
 have hix2 : ∀ w, (Instr.index 157 (.agg #[.int .i64 h.e, .int .i64 h.r, .int .i64 h.l]) (.int .i64 2)).run Tryd.prog w = .ok (.int .i64 h.l) w := fun w => by kernel_rfl
 go_enter Tryd.func66, Tryd.ntmps66
 go_upto_region 1 with (fail)
 obtain ⟨v, hv⟩ := Qg (w.alloc (.cells #[.int .i64 h.e, .int .i64 h.r, .int .i64 h.l] 98))
 rw [← hv]
 have E : Qa w v := by rw [hv]; exact (Qa.refl _).alloc _
 have B1 : Qb v w.heap.size 98 #[.int .i64 h.e, .int .i64 h.r, .int .i64 h.l] := by rw [hv]; exact (Qb.new _ _ _)
 clear hv
 obtain ⟨b1, hb1⟩ := Qg (w.heap.size)
 rw [← hb1] at B1 ⊢
 have hbr : w.heap.size ≤ b1 := by omega
 clear hb1
 obtain ⟨k0, k1, k2⟩ := B1.c3
 have lk := B1.lt
 go_upto_region 3 with (fail)
 go_loopw [3, 13] (fun ov iv wr => ∃ k : Nat, k ≤ 3 ∧ iv = .int .i64 (k : Int) ∧ ov = .bool (Xs h k) ∧ Qa w wr) (fun _ iv _ => 3 - (intOf iv).toNat)
 case atStart => exact ⟨0, by decide, rfl, rfl, E⟩
 case round =>
  clear E k0 k1 k2 lk B1
  obtain ⟨k, hk, rfl, rfl, hE⟩ := hrel
  obtain ⟨wo, rfl⟩ := Qg wr
  by_cases hlt : k < 3
  ·have h3 : k = 0 ∨ k = 1 ∨ k = 2 := by omega
   rcases h3 with rfl | rfl | rfl
   ·skip
    have hh : Hid (Xs h 1 = (Xs h 0 && (decide (0 ≤ h.e) && decide (h.e ≤ 1048576)))) := rfl
    cases hq : Xs h 0
    ·rw [hq] at hh
     go_wp2
     exact ⟨⟨1, by decide, rfl, by rw [hh.out]; rfl, hE⟩, by simp [intOf]⟩
    ·rw [hq] at hh
     by_cases h1 : 0 ≤ h.e
     ·have g1 : decide (0 ≤ h.e) = true := decide_eq_true h1
      by_cases h2 : h.e ≤ 1048576
      ·have g2 : decide (h.e ≤ 1048576) = true := decide_eq_true h2
       go_wp2
       exact ⟨⟨1, by decide, rfl, by rw [hh.out, g1, g2]; rfl, hE⟩, by simp [intOf]⟩
      ·have g2 : decide (h.e ≤ 1048576) = false := decide_eq_false h2
       go_wp2
       exact ⟨⟨1, by decide, rfl, by rw [hh.out, g1, g2]; rfl, hE⟩, by simp [intOf]⟩
     ·have g1 : decide (0 ≤ h.e) = false := decide_eq_false h1
      go_wp2
      exact ⟨⟨1, by decide, rfl, by rw [hh.out, g1]; rfl, hE⟩, by simp [intOf]⟩
   ·skip
    have hh : Hid (Xs h 2 = (Xs h 1 && (decide (0 ≤ h.r) && decide (h.r ≤ 1048576)))) := rfl
    cases hq : Xs h 1
    ·rw [hq] at hh
     go_wp2
     exact ⟨⟨2, by decide, rfl, by rw [hh.out]; rfl, hE⟩, by simp [intOf]⟩
    ·rw [hq] at hh
     by_cases h1 : 0 ≤ h.r
     ·have g1 : decide (0 ≤ h.r) = true := decide_eq_true h1
      by_cases h2 : h.r ≤ 1048576
      ·have g2 : decide (h.r ≤ 1048576) = true := decide_eq_true h2
       go_wp2
       exact ⟨⟨2, by decide, rfl, by rw [hh.out, g1, g2]; rfl, hE⟩, by simp [intOf]⟩
      ·have g2 : decide (h.r ≤ 1048576) = false := decide_eq_false h2
       go_wp2
       exact ⟨⟨2, by decide, rfl, by rw [hh.out, g1, g2]; rfl, hE⟩, by simp [intOf]⟩
     ·have g1 : decide (0 ≤ h.r) = false := decide_eq_false h1
      go_wp2
      exact ⟨⟨2, by decide, rfl, by rw [hh.out, g1]; rfl, hE⟩, by simp [intOf]⟩
   ·skip
    have hh : Hid (Xs h 3 = (Xs h 2 && (decide (0 ≤ h.l) && decide (h.l ≤ 1048576)))) := rfl
    cases hq : Xs h 2
    ·rw [hq] at hh
     go_wp2
     exact ⟨⟨3, by decide, rfl, by rw [hh.out]; rfl, hE⟩, by simp [intOf]⟩
    ·rw [hq] at hh
     by_cases h1 : 0 ≤ h.l
     ·have g1 : decide (0 ≤ h.l) = true := decide_eq_true h1
      by_cases h2 : h.l ≤ 1048576
      ·have g2 : decide (h.l ≤ 1048576) = true := decide_eq_true h2
       go_wp2
       exact ⟨⟨3, by decide, rfl, by rw [hh.out, g1, g2]; rfl, hE⟩, by simp [intOf]⟩
      ·have g2 : decide (h.l ≤ 1048576) = false := decide_eq_false h2
       go_wp2
       exact ⟨⟨3, by decide, rfl, by rw [hh.out, g1, g2]; rfl, hE⟩, by simp [intOf]⟩
     ·have g1 : decide (0 ≤ h.l) = false := decide_eq_false h1
      go_wp2
      exact ⟨⟨3, by decide, rfl, by rw [hh.out, g1]; rfl, hE⟩, by simp [intOf]⟩
  ·obtain rfl : k = 3 := by omega
   go_wp2
   go_ret
   exact ⟨rfl, hE⟩
theorem Qa1 (h : J6) (b d : Rt) (y : Int) (hb : b.In) (hd : d.In) (hy1 : -9223372036854775808 ≤ y) (hy2 : y ≤ 9223372036854775807) (w : World) :
  Calls Tryd.prog 39 #[.agg #[.int .i64 h.e, .int .i64 h.r, .int .i64 h.l], .agg #[.int .i64 b.n, .int .i64 b.d], .agg #[.int .i64 d.n, .int .i64 d.d], .int .i64 y] w fun e w' => e = .returned (.tuple #[.agg #[.int .i64 (Wh h b d y).1.e, .int .i64 (Wh h b d y).1.r, .int .i64 (Wh h b d y).1.l], .int .i64 (Wh h b d y).2]) ∧ Qa w w' := by
 obtain ⟨V, hV0⟩ := Qg (Wh h b d y)
 rw [← hV0]
 replace hV0 := Lib.hid hV0
 have NH := fun h w => Qbd h w
 have NB := fun w => Lg b hb w
 have ND := fun w => Lg d hd w
 go_enter Tryd.func39, Tryd.ntmps39
 go_upto_region 1 with (fail)
 obtain ⟨v, hv⟩ := Qg ((((w.alloc (.cells #[.int .i64 h.e, .int .i64 h.r, .int .i64 h.l] 98)).alloc (.cells #[.int .i64 b.n, .int .i64 b.d] 61)).alloc (.cells #[.int .i64 d.n, .int .i64 d.d] 61)).alloc (.cells #[.int .i64 0, .int .i64 0, .int .i64 0] 98))
 rw [← hv]
 have E : Qa w v := by rw [hv]; exact ((((Qa.refl _).alloc _).alloc _).alloc _).alloc _
 have Hh : Qb v w.heap.size 98 #[.int .i64 h.e, .int .i64 h.r, .int .i64 h.l] := by rw [hv]; exact (((Qb.new _ _ _).alloc _).alloc _).alloc _
 have Hb : Qb v (w.heap.size + 1) 61 #[.int .i64 b.n, .int .i64 b.d] := by rw [hv]; exact ((Qb.at _ _ _ _ (by simp)).alloc _).alloc _
 have Hd : Qb v (w.heap.size + 1 + 1) 61 #[.int .i64 d.n, .int .i64 d.d] := by rw [hv]; exact (Qb.at _ _ _ _ (by simp)).alloc _
 have Hr : Qb v (w.heap.size + 1 + 1 + 1) 98 #[.int .i64 0, .int .i64 0, .int .i64 0] := by rw [hv]; exact Qb.at _ _ _ _ (by simp)
 clear hv
 obtain ⟨b4, hb4⟩ := Qg (w.heap.size + 1 + 1 + 1)
 rw [← hb4] at Hr ⊢
 obtain ⟨b3, hb3⟩ := Qg (w.heap.size + 1 + 1)
 rw [← hb3] at Hd ⊢
 obtain ⟨b2, hb2⟩ := Qg (w.heap.size + 1)
 rw [← hb2] at Hb ⊢
 obtain ⟨b1, hb1⟩ := Qg (w.heap.size)
 rw [← hb1] at Hh ⊢
 have hbr : w.heap.size ≤ b4 := by omega
 have hbr1 : w.heap.size ≤ b1 := by omega
 have hbr2 : w.heap.size ≤ b2 := by omega
 have hbr3 : w.heap.size ≤ b3 := by omega
 have hn21 : b2 ≠ b1 := by omega
 have hn31 : b3 ≠ b1 := by omega
 have hn32 : b3 ≠ b2 := by omega
 have hn41 : b4 ≠ b1 := by omega
 have hn42 : b4 ≠ b2 := by omega
 have hn43 : b4 ≠ b3 := by omega
 clear hb1 hb2 hb3 hb4
 have HE := E
 clear E
 obtain ⟨k0, k1, k2⟩ := Hh.c3
 have lk := Hh.lt
 obtain ⟨p0, p1⟩ := Hb.c2
 have lp := Hb.lt
 obtain ⟨q0, q1⟩ := Hd.c2
 have lq := Hd.lt
 have K1 := fun u (hu : Qa v u) => (Hb.ext hu).c2
 cases ho : h.ok
 ·have NH1 := fun w => NH h w
  simp only [ho] at NH1
  have hr := hV0.out
  unfold Wh at hr
  rw [ho, if_neg (by decide)] at hr
  subst hr
  clear hV0 ho NH K1
  go_upto_region 2 with (go_at_call 66; (with_reducible refine Calls.mono (NH1 _) ?_); rintro e w1 ⟨rfl, h1⟩)
  replace HE := HE.trans h1
  replace Hr := Hr.ext h1
  have y0 := Hr.frozen 0
  have y1 := Hr.frozen 1
  have y2 := Hr.frozen 2
  obtain ⟨x0, x1, x2⟩ := Hr.c3
  have lx := Hr.lt
  have R3 := U9 Hr (.int .i64 0) (.int .i64 0) (.int .i64 0)
  have EF := U5 HE hbr (.int .i64 0) (.int .i64 0) (.int .i64 0)
  obtain ⟨r0, r1, r2⟩ := R3.c3
  go_wp2
  refine bodyPost_ret (v := .tuple #[.agg #[.int .i64 0, .int .i64 0, .int .i64 0], .int .i64 82]) (by simp [results, Tryd.results39, go_sem, r0, r1, r2]) rfl ⟨rfl, EF⟩
 ·have NH1 := fun w => NH h w
  simp only [ho] at NH1
  clear K1
  have A1 : ∀ u, Qa v u → True := fun _ _ => trivial
  go_upto_region 3 with (go_at_call 66; (with_reducible refine Calls.mono (NH1 _) ?_); rintro e w1 ⟨rfl, h1⟩)
  replace HE := HE.trans h1
  replace Hr := Hr.ext h1
  replace Hh := Hh.ext h1
  replace Hb := Hb.ext h1
  replace Hd := Hd.ext h1
  clear h1 k0 k1 k2 lk p0 p1 lp q0 q1 lq A1 NH1
  obtain ⟨p0, p1⟩ := Hb.c2
  have lp := Hb.lt
  obtain ⟨q0, q1⟩ := Hd.c2
  have lq := Hd.lt
  cases hbs : b.shr
  ·simp only [hbs] at NB
   have hr := hV0.out
   unfold Wh at hr
   rw [ho, hbs, if_pos rfl, Bool.false_and, if_neg (by decide)] at hr
   subst hr
   clear hV0 ho hbs
   go_upto_region 4 with (go_at_call 63; (with_reducible refine Calls.mono (NB _) ?_); rintro e w2 ⟨rfl, h2⟩)
   replace HE := HE.trans h2
   replace Hr := Hr.ext h2
   have y0 := Hr.frozen 0
   have y1 := Hr.frozen 1
   have y2 := Hr.frozen 2
   obtain ⟨x0, x1, x2⟩ := Hr.c3
   have lx := Hr.lt
   have R3 := U9 Hr (.int .i64 0) (.int .i64 0) (.int .i64 0)
   have EF := U5 HE hbr (.int .i64 0) (.int .i64 0) (.int .i64 0)
   obtain ⟨r0, r1, r2⟩ := R3.c3
   go_wp2
   refine bodyPost_ret (v := .tuple #[.agg #[.int .i64 0, .int .i64 0, .int .i64 0], .int .i64 2]) (by simp [results, Tryd.results39, go_sem, r0, r1, r2]) rfl ⟨rfl, EF⟩
  ·simp only [hbs] at NB
   cases hds : d.shr
   ·simp only [hds] at ND
    have hr := hV0.out
    unfold Wh at hr
    rw [ho, hbs, hds, if_pos rfl, Bool.and_false, if_neg (by decide)] at hr
    subst hr
    clear hV0 ho hbs hds
    go_upto_region 4 with (first | (go_at_call 63; (with_reducible refine Calls.mono (NB _) ?_); rintro e w2 ⟨rfl, h2⟩; clear q0 q1 lq; obtain ⟨q0, q1⟩ := (Hd.ext h2).c2; have lq := (Hd.ext h2).lt) | (go_at_call 63; (with_reducible refine Calls.mono (ND _) ?_); rintro e w3 ⟨rfl, h3⟩))
    replace HE := (HE.trans h2).trans h3
    replace Hr := (Hr.ext h2).ext h3
    have y0 := Hr.frozen 0
    have y1 := Hr.frozen 1
    have y2 := Hr.frozen 2
    obtain ⟨x0, x1, x2⟩ := Hr.c3
    have lx := Hr.lt
    have R3 := U9 Hr (.int .i64 0) (.int .i64 0) (.int .i64 0)
    have EF := U5 HE hbr (.int .i64 0) (.int .i64 0) (.int .i64 0)
    obtain ⟨r0, r1, r2⟩ := R3.c3
    go_wp2
    refine bodyPost_ret (v := .tuple #[.agg #[.int .i64 0, .int .i64 0, .int .i64 0], .int .i64 2]) (by simp [results, Tryd.results39, go_sem, r0, r1, r2]) rfl ⟨rfl, EF⟩
   ·simp only [hds] at ND
    have hV1 : Hid (V = if y < 0 ∨ 40 < y then (Vt, 8) else Vp b d y.toNat h) := by
     unfold Hid; rw [hV0.out]; unfold Wh; rw [ho, hbs, hds, if_pos rfl, Bool.and_self, if_pos rfl]
    clear hV0
    go_upto_region 5 with (first | (go_at_call 63; (with_reducible refine Calls.mono (NB _) ?_); rintro e w2 ⟨rfl, h2⟩; clear q0 q1 lq; obtain ⟨q0, q1⟩ := (Hd.ext h2).c2; have lq := (Hd.ext h2).lt) | (go_at_call 63; (with_reducible refine Calls.mono (ND _) ?_); rintro e w3 ⟨rfl, h3⟩))
    replace HE := (HE.trans h2).trans h3
    replace Hr := (Hr.ext h2).ext h3
    replace Hh := (Hh.ext h2).ext h3
    replace Hb := (Hb.ext h2).ext h3
    replace Hd := (Hd.ext h2).ext h3
    clear h2 h3 p0 p1 lp q0 q1 lq NB ND
    by_cases y0 : y < 0
    ·have gy : decide (y < 0) = true := decide_eq_true y0
     have hr := hV1.out
     rw [if_pos (.inl y0)] at hr
     subst hr
     clear hV1 y0
     have y0 := Hr.frozen 0
     have y1 := Hr.frozen 1
     have y2 := Hr.frozen 2
     obtain ⟨x0, x1, x2⟩ := Hr.c3
     have lx := Hr.lt
     have R3 := U9 Hr (.int .i64 0) (.int .i64 0) (.int .i64 0)
     have EF := U5 HE hbr (.int .i64 0) (.int .i64 0) (.int .i64 0)
     obtain ⟨r0, r1, r2⟩ := R3.c3
     go_wp2
     refine bodyPost_ret (v := .tuple #[.agg #[.int .i64 0, .int .i64 0, .int .i64 0], .int .i64 8]) (by simp [results, Tryd.results39, go_sem, r0, r1, r2]) rfl ⟨rfl, EF⟩
    ·have gy : decide (y < 0) = false := decide_eq_false y0
     by_cases y1 : 40 < y
     ·have gy1 : decide (40 < y) = true := decide_eq_true y1
      have hr := hV1.out
      rw [if_pos (.inr y1)] at hr
      subst hr
      clear hV1 y0 y1
      have y0 := Hr.frozen 0
      have y1 := Hr.frozen 1
      have y2 := Hr.frozen 2
      obtain ⟨x0, x1, x2⟩ := Hr.c3
      have lx := Hr.lt
      have R3 := U9 Hr (.int .i64 0) (.int .i64 0) (.int .i64 0)
      have EF := U5 HE hbr (.int .i64 0) (.int .i64 0) (.int .i64 0)
      obtain ⟨r0, r1, r2⟩ := R3.c3
      go_wp2
      refine bodyPost_ret (v := .tuple #[.agg #[.int .i64 0, .int .i64 0, .int .i64 0], .int .i64 8]) (by simp [results, Tryd.results39, go_sem, r0, r1, r2]) rfl ⟨rfl, EF⟩
     ·have gy1 : decide (40 < y) = false := decide_eq_false y1
      obtain ⟨n, rfl⟩ : ∃ n : Nat, y = (n : Int) := ⟨y.toNat, by omega⟩
      have hV2 : Hid (V = Vp b d n h) := by
       have := hV1.out
       rw [if_neg (by omega), Int.toNat_natCast] at this
       exact this
      clear hV1 hb hd
      replace ho := Lib.hid ho
      replace hbs := Lib.hid hbs
      replace hds := Lib.hid hds
      go_upto_region 8 with (fail)
      go_loopw [34] (fun iv wr => ∃ k : Nat, k ≤ n ∧ iv = .int .i64 (k : Int) ∧ ∃ g : J6, Hid (g.ok = true) ∧ Qa w wr ∧ Qb wr b1 98 #[.int .i64 g.e, .int .i64 g.r, .int .i64 g.l] ∧ Qb wr b2 61 #[.int .i64 b.n, .int .i64 b.d] ∧ Qb wr b3 61 #[.int .i64 d.n, .int .i64 d.d] ∧ Qb wr b4 98 #[.int .i64 0, .int .i64 0, .int .i64 0] ∧ Hid (V = Vp b d (n - k) g)) (fun iv _ => n - (intOf iv).toNat)
      case atStart => exact ⟨0, Nat.zero_le _, rfl, h, ho, HE, Hh, Hb, Hd, Hr, hV2.out⟩
      case round =>
       clear HE Hh Hb Hd Hr hV2 ho
       obtain ⟨k, hk, rfl, g, hg, HE, Hh, Hb, Hd, Hr, hV⟩ := hrel
       obtain ⟨wo, rfl⟩ := Qg wr
       by_cases hlt : k < n
       ·obtain ⟨m, hm⟩ : ∃ m, n - k = m + 1 := ⟨n - k - 1, by omega⟩
        have hm2 : n - (k + 1) = m := by omega
        have hV' : Hid (V = if (Vq b d g).ok then Vp b d m (Vq b d g) else (Vt, 6)) := by unfold Hid; rw [hV.out, hm]; rfl
        clear hV hm
        have hgo := hg.out
        simp only [J6.ok, Bool.and_eq_true] at hgo
        obtain ⟨g01, g02⟩ := Hk.1 hgo.1.1
        obtain ⟨g11, g12⟩ := Hk.1 hgo.1.2
        obtain ⟨g21, g22⟩ := Hk.1 hgo.2
        clear hgo
        have hds := hds.out
        have hdd := (Gq hds)
        go_upto_region 10 with (fail)
        obtain ⟨v4, hv⟩ := Qg (wo.alloc (.cells #[.pointer (some ⟨b1, 0, none⟩), .pointer (some ⟨b1, 1, none⟩), .pointer (some ⟨b1, 2, none⟩)] 133))
        rw [← hv]
        have E4 : Qa wo v4 := by rw [hv]; exact (Qa.refl _).alloc _
        have Hp : Qb v4 wo.heap.size 133 #[.pointer (some ⟨b1, 0, none⟩), .pointer (some ⟨b1, 1, none⟩), .pointer (some ⟨b1, 2, none⟩)] := by rw [hv]; exact Qb.new _ _ _
        clear hv
        have hlh := Hh.lt
        obtain ⟨bp, hbp⟩ := Qg (wo.heap.size)
        rw [← hbp] at Hp ⊢
        have hp1 : bp ≠ b1 := by omega
        clear hbp hlh
        replace HE := HE.trans E4
        replace Hh := Hh.ext E4
        replace Hb := Hb.ext E4
        replace Hd := Hd.ext E4
        replace Hr := Hr.ext E4
        clear E4
        go_loopw [41] (fun jv wr => ∃ j : Nat, j ≤ 3 ∧ jv = .int .i64 (j : Int) ∧ Qa w wr ∧ Qb wr b1 98 #[.int .i64 (stJ d g j).e, .int .i64 (stJ d g j).r, .int .i64 (stJ d g j).l] ∧ Qb wr b2 61 #[.int .i64 b.n, .int .i64 b.d] ∧ Qb wr b3 61 #[.int .i64 d.n, .int .i64 d.d] ∧ Qb wr bp 133 #[.pointer (some ⟨b1, 0, none⟩), .pointer (some ⟨b1, 1, none⟩), .pointer (some ⟨b1, 2, none⟩)] ∧ Qb wr b4 98 #[.int .i64 0, .int .i64 0, .int .i64 0]) (fun jv _ => 3 - (intOf jv).toNat)
        case atStart => exact ⟨0, by decide, rfl, HE, Hh, Hb, Hd, Hp, Hr⟩
        case round =>
         clear HE Hh Hb Hd Hp Hr
         obtain ⟨j, hj, rfl, HE, Hh, Hb, Hd, Hp, Hr⟩ := hrel
         obtain ⟨wi, rfl⟩ := Qg wr
         by_cases hlt3 : j < 3
         ·have h3 : j = 0 ∨ j = 1 ∨ j = 2 := by omega
          rcases h3 with rfl | rfl | rfl
          ·have Hh : Qb wi b1 98 #[.int .i64 (g.e), .int .i64 (g.r), .int .i64 (g.l)] := Hh
           have pb := K6 hds g01 g02
           have v1 : IntKind.i64.wrap (d.n * g.e) = d.n * g.e := Zm (by omega) (by omega)
           have v2 : IntKind.i64.wrap ((d.n * g.e).tdiv d.d) = d.n * g.e / d.d := by
            rw [Int.tdiv_eq_ediv_of_nonneg pb.1]; exact Zm (by omega) (by omega)
           have v3 : IntKind.i64.wrap (g.e - d.n * g.e / d.d) = Zb g.e d := by
            unfold Zb; exact Zm (by omega) (by omega)
           clear pb
           obtain ⟨s0, s1, s2⟩ := Hp.c3
           have ls := Hp.lt
           go_upto_region 12 with (fail)
           clear s0 s1 s2 ls
           refine Q5 15 [14] (fun x => Qb x b1 98 #[.int .i64 (g.e), .int .i64 (g.r), .int .i64 (g.l)] ∧ Qb x b3 61 #[.int .i64 d.n, .int .i64 d.d]) Qr rfl ?_
           intro vz hvz
           replace HE := HE.trans hvz
           replace Hh := Hh.ext hvz
           replace Hd := Hd.ext hvz
           replace Hb := Hb.ext hvz
           replace Hp := Hp.ext hvz
           replace Hr := Hr.ext hvz
           clear hvz
           refine Qp (g := 1) [0, 1, 2, 3, 4, 5, 6, 7, 8, 9, 10, 11, 12, 13] [_, _, _, _, _, _, _, _, _, _, _, _, _, _] ⟨rfl, rfl, rfl, rfl, rfl, rfl, rfl, rfl, rfl, rfl, rfl, rfl, rfl, rfl, trivial⟩ (by kernel_rfl) (by kernel_rfl) ⟨Hh, Hd⟩ ?_
           simp only [Qd, Qe, Qf]
           apply Exists.intro
           refine ⟨fun u hu => ?_, ?_⟩
           ·obtain ⟨x0, x1, x2⟩ := hu.1.c3
            have lx := hu.1.lt
            obtain ⟨d0, d1⟩ := hu.2.c2
            have ld := hu.2.lt
            repeat (first | go_big_quiet_skip | (go_big_quiet_want; go_big_quiet_op; go_big_quiet_on))
            refine wpQuiet_nil ?_
            rfl
           refine Qn 14 rfl (by kernel_rfl) ?_
           simp only [Qd, Qe, Qf]
           have z0 := Hh.frozen 0
           obtain ⟨x0, x1, x2⟩ := Hh.c3; have lx := Hh.lt
           have Hh2 := Tx Hh (.int .i64 (Zb g.e d))
           have Hd := Qh Hd hn31 0 (.int .i64 (Zb g.e d))
           have Hb := Qh Hb hn21 0 (.int .i64 (Zb g.e d))
           have Hp := Qh Hp hp1 0 (.int .i64 (Zb g.e d))
           have Hr := Qh Hr hn41 0 (.int .i64 (Zb g.e d))
           have HE := HE.setCell (p := ⟨b1, 0, none⟩) hbr1 (.int .i64 (Zb g.e d))
           have Hh := Hh2
           go_wp2
           refine Qm ?_
           refine Qt (by kernel_rfl) ?_
           generalize World.setCell _ _ _ = wq at *
           clear z0 x0 x1 x2 lx Hh2
           go_wp2
           exact ⟨⟨1, by decide, rfl, HE, Hh, Hb, Hd, Hp, Hr⟩, by simp [intOf]⟩
          ·have Hh : Qb wi b1 98 #[.int .i64 (Zb g.e d), .int .i64 (g.r), .int .i64 (g.l)] := Hh
           have pb := K6 hds g11 g12
           have v1 : IntKind.i64.wrap (d.n * g.r) = d.n * g.r := Zm (by omega) (by omega)
           have v2 : IntKind.i64.wrap ((d.n * g.r).tdiv d.d) = d.n * g.r / d.d := by
            rw [Int.tdiv_eq_ediv_of_nonneg pb.1]; exact Zm (by omega) (by omega)
           have v3 : IntKind.i64.wrap (g.r - d.n * g.r / d.d) = Zb g.r d := by
            unfold Zb; exact Zm (by omega) (by omega)
           clear pb
           obtain ⟨s0, s1, s2⟩ := Hp.c3
           have ls := Hp.lt
           go_upto_region 12 with (fail)
           clear s0 s1 s2 ls
           refine Q5 15 [14] (fun x => Qb x b1 98 #[.int .i64 (Zb g.e d), .int .i64 (g.r), .int .i64 (g.l)] ∧ Qb x b3 61 #[.int .i64 d.n, .int .i64 d.d]) Qr rfl ?_
           intro vz hvz
           replace HE := HE.trans hvz
           replace Hh := Hh.ext hvz
           replace Hd := Hd.ext hvz
           replace Hb := Hb.ext hvz
           replace Hp := Hp.ext hvz
           replace Hr := Hr.ext hvz
           clear hvz
           refine Qp (g := 1) [0, 1, 2, 3, 4, 5, 6, 7, 8, 9, 10, 11, 12, 13] [_, _, _, _, _, _, _, _, _, _, _, _, _, _] ⟨rfl, rfl, rfl, rfl, rfl, rfl, rfl, rfl, rfl, rfl, rfl, rfl, rfl, rfl, trivial⟩ (by kernel_rfl) (by kernel_rfl) ⟨Hh, Hd⟩ ?_
           simp only [Qd, Qe, Qf]
           apply Exists.intro
           refine ⟨fun u hu => ?_, ?_⟩
           ·obtain ⟨x0, x1, x2⟩ := hu.1.c3
            have lx := hu.1.lt
            obtain ⟨d0, d1⟩ := hu.2.c2
            have ld := hu.2.lt
            repeat (first | go_big_quiet_skip | (go_big_quiet_want; go_big_quiet_op; go_big_quiet_on))
            refine wpQuiet_nil ?_
            rfl
           refine Qn 14 rfl (by kernel_rfl) ?_
           simp only [Qd, Qe, Qf]
           have z0 := Hh.frozen 1
           obtain ⟨x0, x1, x2⟩ := Hh.c3; have lx := Hh.lt
           have Hh2 := Ty Hh (.int .i64 (Zb g.r d))
           have Hd := Qh Hd hn31 1 (.int .i64 (Zb g.r d))
           have Hb := Qh Hb hn21 1 (.int .i64 (Zb g.r d))
           have Hp := Qh Hp hp1 1 (.int .i64 (Zb g.r d))
           have Hr := Qh Hr hn41 1 (.int .i64 (Zb g.r d))
           have HE := HE.setCell (p := ⟨b1, 1, none⟩) hbr1 (.int .i64 (Zb g.r d))
           have Hh := Hh2
           go_wp2
           refine Qm ?_
           refine Qt (by kernel_rfl) ?_
           generalize World.setCell _ _ _ = wq at *
           clear z0 x0 x1 x2 lx Hh2
           go_wp2
           exact ⟨⟨2, by decide, rfl, HE, Hh, Hb, Hd, Hp, Hr⟩, by simp [intOf]⟩
          ·have Hh : Qb wi b1 98 #[.int .i64 (Zb g.e d), .int .i64 (Zb g.r d), .int .i64 (g.l)] := Hh
           have pb := K6 hds g21 g22
           have v1 : IntKind.i64.wrap (d.n * g.l) = d.n * g.l := Zm (by omega) (by omega)
           have v2 : IntKind.i64.wrap ((d.n * g.l).tdiv d.d) = d.n * g.l / d.d := by
            rw [Int.tdiv_eq_ediv_of_nonneg pb.1]; exact Zm (by omega) (by omega)
           have v3 : IntKind.i64.wrap (g.l - d.n * g.l / d.d) = Zb g.l d := by
            unfold Zb; exact Zm (by omega) (by omega)
           clear pb
           obtain ⟨s0, s1, s2⟩ := Hp.c3
           have ls := Hp.lt
           go_upto_region 12 with (fail)
           clear s0 s1 s2 ls
           refine Q5 15 [14] (fun x => Qb x b1 98 #[.int .i64 (Zb g.e d), .int .i64 (Zb g.r d), .int .i64 (g.l)] ∧ Qb x b3 61 #[.int .i64 d.n, .int .i64 d.d]) Qr rfl ?_
           intro vz hvz
           replace HE := HE.trans hvz
           replace Hh := Hh.ext hvz
           replace Hd := Hd.ext hvz
           replace Hb := Hb.ext hvz
           replace Hp := Hp.ext hvz
           replace Hr := Hr.ext hvz
           clear hvz
           refine Qp (g := 1) [0, 1, 2, 3, 4, 5, 6, 7, 8, 9, 10, 11, 12, 13] [_, _, _, _, _, _, _, _, _, _, _, _, _, _] ⟨rfl, rfl, rfl, rfl, rfl, rfl, rfl, rfl, rfl, rfl, rfl, rfl, rfl, rfl, trivial⟩ (by kernel_rfl) (by kernel_rfl) ⟨Hh, Hd⟩ ?_
           simp only [Qd, Qe, Qf]
           apply Exists.intro
           refine ⟨fun u hu => ?_, ?_⟩
           ·obtain ⟨x0, x1, x2⟩ := hu.1.c3
            have lx := hu.1.lt
            obtain ⟨d0, d1⟩ := hu.2.c2
            have ld := hu.2.lt
            repeat (first | go_big_quiet_skip | (go_big_quiet_want; go_big_quiet_op; go_big_quiet_on))
            refine wpQuiet_nil ?_
            rfl
           refine Qn 14 rfl (by kernel_rfl) ?_
           simp only [Qd, Qe, Qf]
           have z0 := Hh.frozen 2
           obtain ⟨x0, x1, x2⟩ := Hh.c3; have lx := Hh.lt
           have Hh2 := Tz Hh (.int .i64 (Zb g.l d))
           have Hd := Qh Hd hn31 2 (.int .i64 (Zb g.l d))
           have Hb := Qh Hb hn21 2 (.int .i64 (Zb g.l d))
           have Hp := Qh Hp hp1 2 (.int .i64 (Zb g.l d))
           have Hr := Qh Hr hn41 2 (.int .i64 (Zb g.l d))
           have HE := HE.setCell (p := ⟨b1, 2, none⟩) hbr1 (.int .i64 (Zb g.l d))
           have Hh := Hh2
           go_wp2
           refine Qm ?_
           refine Qt (by kernel_rfl) ?_
           generalize World.setCell _ _ _ = wq at *
           clear z0 x0 x1 x2 lx Hh2
           go_wp2
           exact ⟨⟨3, by decide, rfl, HE, Hh, Hb, Hd, Hp, Hr⟩, by simp [intOf]⟩
         ·obtain rfl : j = 3 := by omega
          have Hh : Qb wi b1 98 #[.int .i64 (Zb g.e d), .int .i64 (Zb g.r d), .int .i64 (Zb g.l d)] := Hh
          have hbs := hbs.out
          have hbb := Gq hbs
          have de := Oq hds g01 g02
          have dr := Oq hds g11 g12
          have dl := Oq hds g21 g22
          have pb := K6 hbs de.1 de.2
          have hst : Hid (Vq b d g = ⟨Zb g.e d + (Zb g.l d + 1) / 2, Zb g.r d + Zb g.l d / 2, b.n * Zb g.e d / b.d⟩) := rfl
          generalize Zb g.e d = xe at *
          generalize Zb g.r d = xr at *
          generalize Zb g.l d = xl at *
          have v1 : IntKind.i64.wrap (b.n * xe) = b.n * xe := Zm (by omega) (by omega)
          have v2 : IntKind.i64.wrap ((b.n * xe).tdiv b.d) = b.n * xe / b.d := by
           rw [Int.tdiv_eq_ediv_of_nonneg pb.1]; exact Zm (by omega) (by omega)
          have v3 : IntKind.i64.wrap (xl + 1) = xl + 1 := Zm (by omega) (by omega)
          have v4' : IntKind.i64.wrap ((xl + 1).tdiv 2) = (xl + 1) / 2 := by
           rw [Int.tdiv_eq_ediv_of_nonneg (by omega)]; exact Zm (by omega) (by omega)
          have v5 : IntKind.i64.wrap (xe + (xl + 1) / 2) = xe + (xl + 1) / 2 := Zm (by omega) (by omega)
          have v6 : IntKind.i64.wrap (xl.tdiv 2) = xl / 2 := by
           rw [Int.tdiv_eq_ediv_of_nonneg (by omega)]; exact Zm (by omega) (by omega)
          have v7 : IntKind.i64.wrap (xr + xl / 2) = xr + xl / 2 := Zm (by omega) (by omega)
          have hb0 : (b.d == 0) = false := beq_eq_false_iff_ne.2 (by omega)
          have hb1 : b.d ≠ 0 := by omega
          clear pb de dr dl hbb
          generalize b.n * xe / b.d = zl at *
          generalize hz1 : (xl + 1) / 2 = z1 at *
          generalize hz2 : xl / 2 = z2 at *
          clear hz1 hz2
          obtain ⟨k0, k1, k2⟩ := Hh.c3
          have lk := Hh.lt
          have f0 := Hh.frozen 0
          obtain ⟨p0, p1⟩ := Hb.c2
          have lp := Hb.lt
          have Ha := Tx Hh (.int .i64 (xe + z1))
          have Hba := Qh Hb hn21 0 (.int .i64 (xe + z1))
          have Hda := Qh Hd hn31 0 (.int .i64 (xe + z1))
          have Hra := Qh Hr hn41 0 (.int .i64 (xe + z1))
          have Ea := HE.setCell (p := ⟨b1, 0, none⟩) hbr1 (.int .i64 (xe + z1))
          go_upto_region 16 with (fail)
          generalize World.setCell _ _ _ = wa at *
          clear k0 k1 k2 lk f0 p0 p1 lp Hh HE Hb Hd Hr Hp
          obtain ⟨k0, k1, k2⟩ := Ha.c3
          have lk := Ha.lt
          have f0 := Ha.frozen 1
          have Hb' := Ty Ha (.int .i64 (xr + z2))
          have Hbb := Qh Hba hn21 1 (.int .i64 (xr + z2))
          have Hdb := Qh Hda hn31 1 (.int .i64 (xr + z2))
          have Hrb := Qh Hra hn41 1 (.int .i64 (xr + z2))
          have Eb := Ea.setCell (p := ⟨b1, 1, none⟩) hbr1 (.int .i64 (xr + z2))
          go_upto_region 17 with (fail)
          generalize World.setCell _ _ _ = wb at *
          clear k0 k1 k2 lk f0 Ha Hba Hda Hra Ea
          obtain ⟨k0, k1, k2⟩ := Hb'.c3
          have lk := Hb'.lt
          have f0 := Hb'.frozen 2
          have Hc' := Tz Hb' (.int .i64 zl)
          have Hbc := Qh Hbb hn21 2 (.int .i64 zl)
          have Hdc := Qh Hdb hn31 2 (.int .i64 zl)
          have Hrc := Qh Hrb hn41 2 (.int .i64 zl)
          have Ec := Eb.setCell (p := ⟨b1, 2, none⟩) hbr1 (.int .i64 zl)
          go_upto_region 18 with (fail)
          generalize World.setCell _ _ _ = wc at *
          clear k0 k1 k2 lk f0 Hb' Hbb Hdb Hrb Eb v1 v2 v3 v4' v5 v6 v7 hb0 hb1
          have NG := fun w => NH ⟨xe + z1, xr + z2, zl⟩ w
          have hst2 : Hid (Vq b d g = ⟨xe + z1, xr + z2, zl⟩) := hst
          obtain ⟨k0, k1, k2⟩ := Hc'.c3
          have lk := Hc'.lt
          cases hgk : J6.ok ⟨xe + z1, xr + z2, zl⟩
          ·simp only [hgk] at NG
           have hr := hV'.out
           rw [hst2.out, hgk, if_neg (by decide)] at hr
           subst hr
           clear hV' hst hst2 hgk NH
           go_upto_region 19 with (go_at_call 66; (with_reducible refine Calls.mono (NG _) ?_); rintro e w6 ⟨rfl, h6⟩)
           have HE := Ec.trans h6
           have Hr := Hrc.ext h6
           have y0 := Hr.frozen 0
           have y1 := Hr.frozen 1
           have y2 := Hr.frozen 2
           obtain ⟨x0, x1, x2⟩ := Hr.c3
           have lx := Hr.lt
           have R3 := U9 Hr (.int .i64 0) (.int .i64 0) (.int .i64 0)
           have EF := U5 HE hbr (.int .i64 0) (.int .i64 0) (.int .i64 0)
           obtain ⟨r0, r1, r2⟩ := R3.c3
           go_wp2
           refine bodyPost_ret (v := .tuple #[.agg #[.int .i64 0, .int .i64 0, .int .i64 0], .int .i64 6]) (by simp [results, Tryd.results39, go_sem, r0, r1, r2]) rfl ⟨rfl, EF⟩
          ·simp only [hgk] at NG
           have hr := hV'.out
           rw [hst2.out, hgk, if_pos rfl, ← hm2] at hr
           replace hr := Lib.hid hr
           replace hgk := Lib.hid hgk
           clear hV' hst hst2 NH hm2
           go_wp2_with (go_at_call 66; (with_reducible refine Calls.mono (NG _) ?_); rintro e w6 ⟨rfl, h6⟩)
           exact ⟨⟨k + 1, by omega, by go_num, ⟨xe + z1, xr + z2, zl⟩, hgk, Ec.trans h6, Hc'.ext h6, Hbc.ext h6, Hdc.ext h6, Hrc.ext h6, hr⟩, by simp [intOf]; omega⟩
       ·obtain rfl : k = n := by omega
        have hr := hV.out
        rw [Nat.sub_self] at hr
        have hr2 : V = (g, 0) := hr
        subst hr2
        clear hV hr
        obtain ⟨k0, k1, k2⟩ := Hh.c3
        have lk := Hh.lt
        have y0 := Hr.frozen 0
        have y1 := Hr.frozen 1
        have y2 := Hr.frozen 2
        obtain ⟨x0, x1, x2⟩ := Hr.c3
        have lx := Hr.lt
        have R3 := U9 Hr (.int .i64 g.e) (.int .i64 g.r) (.int .i64 g.l)
        have EF := U5 HE hbr (.int .i64 g.e) (.int .i64 g.r) (.int .i64 g.l)
        obtain ⟨r0, r1, r2⟩ := R3.c3
        go_wp2
        refine bodyPost_ret (v := .tuple #[.agg #[.int .i64 g.e, .int .i64 g.r, .int .i64 g.l], .int .i64 0]) (by simp [results, Tryd.results39, go_sem, r0, r1, r2]) rfl ⟨rfl, EF⟩
end
end Go.Proofs.YtneiofnlmblglaaDoor
