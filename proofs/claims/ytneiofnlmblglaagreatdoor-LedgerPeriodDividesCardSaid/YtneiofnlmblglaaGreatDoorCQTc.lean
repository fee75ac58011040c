/- Divide of the reference. -/
import Derived.Test.YtneiofnlmblglaaGreatDoorQ13
set_option maxRecDepth 100000
set_option maxHeartbeats 4000000
namespace Go.Proofs.YtneiofnlmblglaaGreatDoor
open Go Go.RowKit Go.Shelf
attribute [local go_sem] Zt
attribute [local go_sem high] Qb0
def cutR (A : Option Addr → Nat → Nat → Act) (S : World → Option Addr → Nat → Nat → Prop) : Exit → Act → World → Prop := fun e a' w' => e = .normal ∧ ∃ F m b, S w' F m b ∧ a' = A F m b
theorem cutR_is {A : Option Addr → Nat → Nat → Act} {S : World → Option Addr → Nat → Nat → Prop} {w' : World} (F : Option Addr) (m b : Nat) {a' : Act} (h : S w' F m b) (ha : a' = A F m b) : cutR A S .normal a' w' := ⟨rfl, F, m, b, h, ha⟩
theorem wp_cutR {P : Program} {c : Code} {Q : Exit → Act → World → Prop} {a : Act} {w : World} {A : Option Addr → Nat → Nat → Act} (S : World → Option Addr → Nat → Nat → Prop) (h1 : c.wp P (cutR A S) a w) (h2 : ∀ F m b w', S w' F m b → Q .normal (A F m b) w') : c.wp P Q a w :=
 Code.wp_mono (fun e a' w' ⟨he, F, m, b, hs, ha⟩ => by subst he; subst ha; exact h2 F m b w' hs) h1
theorem cut_lt (c : Qf) (n : Int) : ∀ (l : List Dl) (k : Nat), k < c.cutK n l → c.numV (l.getD k Qx).on ≤ n
 | [], k, h => absurd h (by simp [Qf.cutK])
 | d :: r, k, h => by
  unfold Qf.cutK at h
  split at h
  ·cases k with
   | zero => simpa using ‹_›
   | succ k => simpa using cut_lt c n r k (by omega)
  ·omega
theorem cut_ge (c : Qf) (n : Int) : ∀ (l : List Dl), l.Pairwise (fun a b => c.numV a.on ≤ c.numV b.on) → ∀ k, k < l.length → c.cutK n l ≤ k → ¬ c.numV (l.getD k Qx).on ≤ n
 | [], _, k, hk, _ => absurd hk (by simp)
 | d :: r, hp, k, hk, h => by
  obtain ⟨h1, h2⟩ := List.pairwise_cons.1 hp
  unfold Qf.cutK at h
  split at h
  ·cases k with
   | zero => omega
   | succ k => simpa using cut_ge c n r h2 k (by simpa using hk) (by omega)
  ·rename_i hd
   cases k with
   | zero => simpa using hd
   | succ k =>
    have hk' : k < r.length := by simpa using hk
    have : c.numV d.on ≤ c.numV (r.getD k Qx).on := h1 _ (by rw [List.getD_eq_getElem?_getD, List.getElem?_eq_getElem hk']; exact List.getElem_mem hk')
    simp only [List.getD_cons_succ]
    omega
theorem take_one (l : List Dl) {k : Nat} (hk : k < l.length) : (l.take (k + 1)).drop k = [l.getD k Qx] := by
 rw [List.drop_take, show k + 1 - k = 1 by omega, List.drop_eq_getElem_cons hk, List.getD_eq_getElem?_getD, List.getElem?_eq_getElem hk]
 rfl
theorem Zc.congr {W : World} {b n : Nat} {v : Value} {g g' : Nat → Dl} (h : Zc W b v n g) (e : ∀ i, i < n → g i = g' i) : Zc W b v n g' := by
 obtain ⟨vs, h1, h2⟩ := h
 refine ⟨vs, ?_, fun i hi => by rw [← e i hi]; exact h2 i hi⟩
 rw [Vv (f' := fun i => Qq (g i) (vs i)) n (fun i hi => by rw [e i hi])]
 exact h1
theorem Zc.kept {W w1 : World} {b n b' k : Nat} {v v' : Value} {g : Nat → Dl} {xs : List Value} (h : Zc W b v n g) (hr : W.ownsRow b' 70 7 v' k xs) (hg : W.grownBy w1 v'.ownBlock) (ne : v.ownBlock = none ∨ v.ownBlock ≠ v'.ownBlock) : Zc w1 b v n g := by
 obtain ⟨vs, h1, h2⟩ := h
 exact ⟨vs, h1.kept hg ne, fun i hi => World.ownsRow.kept (h2 i hi) hg (Mt (h2 i hi) hr (by decide))⟩
theorem Zn.kept {W w1 : World} {b b' k : Nat} {v v' : Value} {l : List Lt} {xs : List Value} (h : Zn W b v l) (hr : W.ownsRow b' 70 7 v' k xs) (hg : W.grownBy w1 v'.ownBlock) : Zn w1 b v l := World.ownsRow.kept h hg (Mt h hr (by decide))
theorem deals_push2 {W w1 : World} {b k : Nat} {v v' vl : Value} {g : Nat → Dl} {vs : Nat → Value} (hO : W.ownsRow b 70 7 v k (Q0 (fun i => Qq (g i) (vs i)) k)) (hL : ∀ i, i < k → Zn W b (vs i) (g i).l) (hl : Zn W b vl (g k).l)
  (hown : w1.ownsRow b 70 7 v' (k + 1) (Q0 (fun i => Qq (g i) (vs i)) k ++ Qq (g k) vl)) (hgrow : W.grownBy w1 v.ownBlock) : Zc w1 b v' (k + 1) g := by
 refine ⟨fun i => if i = k then vl else vs i, ?_, fun i hi => ?_⟩
 ·rw [W4, Vv (f' := fun i => Qq (g i) (vs i)) k (fun i hi => by simp [show i ≠ k by omega])]
  simpa using hown
 ·by_cases e : i = k
  ·subst e; simpa using Zn.kept hl hO hgrow
  ·simpa [e] using Zn.kept (hL i (by omega)) hO hgrow
/-- What the loop of Divide has made. -/
structure DivJ (W8 W : World) (bA bB BB : Nat) (ca cb : Array Value) (v1 v5 : Value) (o c : List Lt) (va vb : Value) (g : Nat → Dl) (na nb K : Nat) : Prop where
 e : Qa W8 W
 a : Qb W bA 31 ca
 b : Qb W bB 31 cb
 s1 : Zn W W8.heap.size v1 o
 s5 : Zn W W8.heap.size v5 c
 da : Zc W W8.heap.size va na g
 db : Zc W BB vb nb (fun i => g (K + i))
 ha : ∀ q, va.ownBlock = some q → q < BB
 hB : BB ≤ W.heap.size
 h8 : W8.heap.size ≤ BB
 la : W8.heap.size ≤ bA
 lb : W8.heap.size ≤ bB
 ne : bA ≠ bB
section
variable {W8 W W' : World} {bA bB BB na nb K : Nat} {ca cb : Array Value} {v1 v5 va vb v' vl : Value} {o c : List Lt} {g : Nat → Dl} {vs : Nat → Value}
theorem DivJ.ext (h : DivJ W8 W bA bB BB ca cb v1 v5 o c va vb g na nb K) (x : Qa W W') : DivJ W8 W' bA bB BB ca cb v1 v5 o c va vb g na nb K :=
 ⟨h.e.trans x, h.a.ext x, h.b.ext x, Q5 h.s1 x, Q5 h.s5 x, h.da.ext x, h.db.ext x, h.ha, Nat.le_trans h.hB x.size, h.h8, h.la, h.lb, h.ne⟩
theorem DivJ.setA (h : DivJ W8 W bA bB BB ca cb v1 v5 o c va vb g na nb K) (i : Nat) (u : Value) : DivJ W8 (W.setCell ⟨bA, i, none⟩ u) bA bB BB (ca.setIfInBounds i u) cb v1 v5 o c va vb g na nb K :=
 ⟨h.e.setCell (p := ⟨bA, i, none⟩) h.la u, Jk h.a i u, Qh h.b (Ne.symm h.ne) i u, Zg h.a (by decide) h.s1 i u, Zg h.a (by decide) h.s5 i u, Zc.set h.a (by decide) (by decide) h.da i u, Zc.set h.a (by decide) (by decide) h.db i u, h.ha, by
  have := ((Qa.refl W).size); simpa [World.setCell] using h.hB, h.h8, h.la, h.lb, h.ne⟩
theorem DivJ.setB (h : DivJ W8 W bA bB BB ca cb v1 v5 o c va vb g na nb K) (i : Nat) (u : Value) : DivJ W8 (W.setCell ⟨bB, i, none⟩ u) bA bB BB ca (cb.setIfInBounds i u) v1 v5 o c va vb g na nb K :=
 ⟨h.e.setCell (p := ⟨bB, i, none⟩) h.lb u, Qh h.a h.ne i u, Jk h.b i u, Zg h.b (by decide) h.s1 i u, Zg h.b (by decide) h.s5 i u, Zc.set h.b (by decide) (by decide) h.da i u, Zc.set h.b (by decide) (by decide) h.db i u, h.ha, by
  simpa [World.setCell] using h.hB, h.h8, h.la, h.lb, h.ne⟩
theorem DivJ.pushA (h : DivJ W8 W bA bB BB ca cb v1 v5 o c va (.slice none 0 0) g na 0 K) (hO : W.ownsRow W8.heap.size 70 7 va na (Q0 (fun i => Qq (g i) (vs i)) na)) (hL : ∀ i, i < na → Zn W W8.heap.size (vs i) (g i).l) (hl : Zn W W8.heap.size vl (g na).l)
  (hown : W'.ownsRow W8.heap.size 70 7 v' (na + 1) (Q0 (fun i => Qq (g i) (vs i)) na ++ Qq (g na) vl)) (hg : W.grownBy W' va.ownBlock) : DivJ W8 W' bA bB W'.heap.size ca cb v1 v5 o c v' (.slice none 0 0) g (na + 1) 0 K :=
 ⟨h.e.grown hg (fun q hq => (hO.lt q hq).1), h.a.kept hg (h.a.not_row (by decide) hO), h.b.kept hg (h.b.not_row (by decide) hO), Zn.kept h.s1 hO hg, Zn.kept h.s5 hO hg, deals_push2 hO hL hl hown hg, Od _ _ _, fun q hq => (hown.lt q hq).2, Nat.le_refl _, Nat.le_trans h.h8 (Nat.le_trans h.hB hg.size), h.la, h.lb, h.ne⟩
theorem DivJ.pushB (h : DivJ W8 W bA bB BB ca cb v1 v5 o c va vb g na nb K) (hO : W.ownsRow BB 70 7 vb nb (Q0 (fun i => Qq (g (K + i)) (vs i)) nb)) (hL : ∀ i, i < nb → Zn W BB (vs i) (g (K + i)).l) (hl : Zn W BB vl (g (K + nb)).l)
  (hown : W'.ownsRow BB 70 7 v' (nb + 1) (Q0 (fun i => Qq (g (K + i)) (vs i)) nb ++ Qq (g (K + nb)) vl)) (hg : W.grownBy W' vb.ownBlock) : DivJ W8 W' bA bB BB ca cb v1 v5 o c va v' g na (nb + 1) K :=
 ⟨h.e.grown hg (fun q hq => Nat.le_trans h.h8 (hO.lt q hq).1), h.a.kept hg (h.a.not_row (by decide) hO), h.b.kept hg (h.b.not_row (by decide) hO), Zn.kept h.s1 hO hg, Zn.kept h.s5 hO hg, h.da.kept hO hg (by
  cases hv : va.ownBlock with
  | none => exact .inl rfl
  | some q => exact .inr (fun e => by have h1 := h.ha q hv; have h2 := (hO.lt q e.symm).1; omega)), deals_push2 (g := fun i => g (K + i)) hO hL hl hown hg, h.ha, Nat.le_trans h.hB hg.size, h.h8, h.la, h.lb, h.ne⟩
end
theorem divideR_any (A A' : Option Addr) (ca cb : Nat) (c : Qf) (p : Pd) (vo vd vc : Value) (d : Dt) (w : World) (hC : Qv w A ca A' cb c) (hP : Jj w p vo vd vc) :
  Calls Tryz.prog 24 #[.agg #[.slice A c.nk ca, .slice A' c.ny cb], .agg #[.string p.h, .int .i64 p.a.y, .int .i64 p.a.m, .bool p.a.s, .int .i64 p.a.d, .int .i64 p.b.y, .int .i64 p.b.m, .bool p.b.s, .int .i64 p.b.d, vo, vd, vc], .agg #[.int .i64 d.y, .int .i64 d.m, .bool d.s, .int .i64 d.d]] w fun e w' => ∃ vo1 vd1 vc1 vo2 vd2 vc2, e = .returned (.tuple #[.agg #[.string (c.divP p d).1.h, .int .i64 (c.divP p d).1.a.y, .int .i64 (c.divP p d).1.a.m, .bool (c.divP p d).1.a.s, .int .i64 (c.divP p d).1.a.d, .int .i64 (c.divP p d).1.b.y, .int .i64 (c.divP p d).1.b.m, .bool (c.divP p d).1.b.s, .int .i64 (c.divP p d).1.b.d, vo1, vd1, vc1], .agg #[.string (c.divP p d).2.h, .int .i64 (c.divP p d).2.a.y, .int .i64 (c.divP p d).2.a.m, .bool (c.divP p d).2.a.s, .int .i64 (c.divP p d).2.a.d, .int .i64 (c.divP p d).2.b.y, .int .i64 (c.divP p d).2.b.m, .bool (c.divP p d).2.b.s, .int .i64 (c.divP p d).2.b.d, vo2, vd2, vc2], .int .i64 (c.divE p d)]) ∧ Qa w w' ∧ Jj w' (c.divP p d).1 vo1 vd1 vc1 ∧ Jj w' (c.divP p d).2 vo2 vd2 vc2 := by
 obtain ⟨t1, s1, e1, _⟩ := id hP.o
 subst e1
 obtain ⟨t2, s2, _, e2, _⟩ := id hP.d
 subst e2
 obtain ⟨t3, s3, e3, _⟩ := id hP.c
 subst e3
 obtain ⟨n, hnl⟩ := Qg (p.d.length)
 rw [← hnl] at hP ⊢
 replace hnl := Lib.hid hnl
 have NV := fun w h1 h2 => Qa6 A A' ca cb c p (.slice t1 p.o.length s1) (.slice t2 n s2) (.slice t3 p.c.length s3) w h1 h2
 obtain ⟨pe, hpe⟩ := Qg (c.perE p)
 simp only [← hpe] at NV
 replace hpe := Lib.hid hpe
 obtain ⟨RE, hRE⟩ := Qg (c.divE p d)
 obtain ⟨RX, hRX⟩ := Qg (c.divP p d)
 rw [← hRE, ← hRX]
 have HR := Lib.hid (And.intro hRE hRX)
 clear hRE hRX
 go_enter Tryz.func24, Tryz.ntmps24
 go_upto_region 1 with (fail)
 obtain ⟨v, hv⟩ := Qg (((((w.alloc (.cells #[.slice A c.nk ca, .slice A' c.ny cb] 25)).alloc (.cells #[.string p.h, .int .i64 p.a.y, .int .i64 p.a.m, .bool p.a.s, .int .i64 p.a.d, .int .i64 p.b.y, .int .i64 p.b.m, .bool p.b.s, .int .i64 p.b.d, .slice t1 p.o.length s1, .slice t2 n s2, .slice t3 p.c.length s3] 31)).alloc (.cells #[.int .i64 d.y, .int .i64 d.m, .bool d.s, .int .i64 d.d] 27)).alloc (.cells #[.string ⟨#[]⟩, .int .i64 0, .int .i64 0, .bool false, .int .i64 0, .int .i64 0, .int .i64 0, .bool false, .int .i64 0, .slice none 0 0, .slice none 0 0, .slice none 0 0] 31)).alloc (.cells #[.string ⟨#[]⟩, .int .i64 0, .int .i64 0, .bool false, .int .i64 0, .int .i64 0, .int .i64 0, .bool false, .int .i64 0, .slice none 0 0, .slice none 0 0, .slice none 0 0] 31))
 rw [← hv]
 have E : Qa w v := by rw [hv]; exact (((((Qa.refl _).alloc _).alloc _).alloc _).alloc _).alloc _
 have B1 : Qb v w.heap.size 25 #[.slice A c.nk ca, .slice A' c.ny cb] := by rw [hv]; exact ((((Qb.new _ _ _).alloc _).alloc _).alloc _).alloc _
 have B2 : Qb v (w.heap.size + 1) 31 #[.string p.h, .int .i64 p.a.y, .int .i64 p.a.m, .bool p.a.s, .int .i64 p.a.d, .int .i64 p.b.y, .int .i64 p.b.m, .bool p.b.s, .int .i64 p.b.d, .slice t1 p.o.length s1, .slice t2 n s2, .slice t3 p.c.length s3] := by rw [hv]; exact (((Qb.at _ _ _ _ (by simp)).alloc _).alloc _).alloc _
 have B3 : Qb v (w.heap.size + 1 + 1) 27 #[.int .i64 d.y, .int .i64 d.m, .bool d.s, .int .i64 d.d] := by rw [hv]; exact ((Qb.at _ _ _ _ (by simp)).alloc _).alloc _
 have B4 : Qb v (w.heap.size + 1 + 1 + 1) 31 #[.string ⟨#[]⟩, .int .i64 0, .int .i64 0, .bool false, .int .i64 0, .int .i64 0, .int .i64 0, .bool false, .int .i64 0, .slice none 0 0, .slice none 0 0, .slice none 0 0] := by rw [hv]; exact (Qb.at _ _ _ _ (by simp)).alloc _
 have B5 : Qb v (w.heap.size + 1 + 1 + 1 + 1) 31 #[.string ⟨#[]⟩, .int .i64 0, .int .i64 0, .bool false, .int .i64 0, .int .i64 0, .int .i64 0, .bool false, .int .i64 0, .slice none 0 0, .slice none 0 0, .slice none 0 0] := by rw [hv]; exact Qb.at _ _ _ _ (by simp)
 clear hv
 obtain ⟨b5, hb5⟩ := Qg (w.heap.size + 1 + 1 + 1 + 1)
 rw [← hb5] at B5 ⊢
 obtain ⟨b4, hb4⟩ := Qg (w.heap.size + 1 + 1 + 1)
 rw [← hb4] at B4 ⊢
 obtain ⟨b3, hb3⟩ := Qg (w.heap.size + 1 + 1)
 rw [← hb3] at B3 ⊢
 obtain ⟨b2, hb2⟩ := Qg (w.heap.size + 1)
 rw [← hb2] at B2 ⊢
 obtain ⟨b1, hb1⟩ := Qg (w.heap.size)
 rw [← hb1] at B1 ⊢
 have hbr : w.heap.size ≤ b5 := by omega
 have hbr1 : w.heap.size ≤ b1 := by omega
 have hbr2 : w.heap.size ≤ b2 := by omega
 have hbr3 : w.heap.size ≤ b3 := by omega
 have hbr4 : w.heap.size ≤ b4 := by omega
 have hn21 : b2 ≠ b1 := by omega
 have hn31 : b3 ≠ b1 := by omega
 have hn32 : b3 ≠ b2 := by omega
 have hn41 : b4 ≠ b1 := by omega
 have hn42 : b4 ≠ b2 := by omega
 have hn43 : b4 ≠ b3 := by omega
 have hn51 : b5 ≠ b1 := by omega
 have hn52 : b5 ≠ b2 := by omega
 have hn53 : b5 ≠ b3 := by omega
 have hn54 : b5 ≠ b4 := by omega
 clear hb1 hb2 hb3 hb4 hb5
 have C := hC.ext E
 clear hC
 obtain ⟨k0, k1⟩ := B1.c2
 have kl := B1.lt
 obtain ⟨p0, p1, p2, p3, p4, p5, p6, p7, p8, p9, p10, p11⟩ := B2.c12
 have pl := B2.lt
 obtain ⟨d0, d1, d2, d3⟩ := B3.c4
 have dl := B3.lt
 go_upto_region 2 with (fail)
 obtain ⟨v1, hv⟩ := Qg (v.alloc (.cells #[.string ⟨#[]⟩, .int .i64 0, .int .i64 0, .bool false, .int .i64 0, .int .i64 0, .int .i64 0, .bool false, .int .i64 0, .slice none 0 0, .slice none 0 0, .slice none 0 0] 31))
 rw [← hv]
 have hx : Qa v v1 := by rw [hv]; exact (Qa.refl _).alloc _
 have B7 : Qb v1 v.heap.size 31 #[.string ⟨#[]⟩, .int .i64 0, .int .i64 0, .bool false, .int .i64 0, .int .i64 0, .int .i64 0, .bool false, .int .i64 0, .slice none 0 0, .slice none 0 0, .slice none 0 0] := by rw [hv]; exact Qb.new _ _ _
 clear hv
 generalize v.heap.size = bb1 at *
 clear k0 k1 kl p0 p1 p2 p3 p4 p5 p6 p7 p8 p9 p10 p11 pl d0 d1 d2 d3 dl
 replace E := E.trans hx
 replace C := C.ext hx
 replace B4 := B4.ext hx
 replace B5 := B5.ext hx
 replace B1 := B1.ext hx
 replace B2 := B2.ext hx
 replace B3 := B3.ext hx
 clear hx
 obtain ⟨k0, k1⟩ := B1.c2
 have kl := B1.lt
 obtain ⟨p0, p1, p2, p3, p4, p5, p6, p7, p8, p9, p10, p11⟩ := B2.c12
 have pl := B2.lt
 obtain ⟨d0, d1, d2, d3⟩ := B3.c4
 have dl := B3.lt
 obtain ⟨z0, z1, z2, z3, z4, z5, z6, z7, z8, z9, z10, z11⟩ := B7.c12
 have zl := B7.lt
 clear z0 z1 z2 z3 z4 z5 z6 z7 z8 z9 z10 z11 zl
 go_upto_region 3 with (go_at_call 12; (with_reducible refine Calls.mono (NV _ C (hP.ext E)) ?_); rintro e w1 ⟨rfl, hx⟩; replace E := E.trans hx; replace C := C.ext hx; replace B4 := B4.ext hx; replace B5 := B5.ext hx; replace B7 := B7.ext hx; replace B1 := B1.ext hx; replace B2 := B2.ext hx; replace B3 := B3.ext hx; clear hx; clear k0 k1 kl p0 p1 p2 p3 p4 p5 p6 p7 p8 p9 p10 p11 pl d0 d1 d2 d3 dl; obtain ⟨k0, k1⟩ := B1.c2; have kl := B1.lt; obtain ⟨p0, p1, p2, p3, p4, p5, p6, p7, p8, p9, p10, p11⟩ := B2.c12; have pl := B2.lt; obtain ⟨d0, d1, d2, d3⟩ := B3.c4; have dl := B3.lt)
 by_cases e0 : pe = 0
 rotate_left
 ·have g0 : (pe == 0) = false := beq_eq_false_iff_ne.2 e0
  have g0n : (pe != 0) = true := by rw [bne, g0]; rfl
  have hr := Dx (d := d) hpe.out.symm e0
  obtain rfl : RE = pe := HR.out.1.trans hr.1
  obtain rfl : RX = (Jl, Jl) := HR.out.2.trans hr.2
  clear HR hr hpe
  clear k0 k1 kl p0 p1 p2 p3 p4 p5 p6 p7 p8 p9 p10 p11 pl d0 d1 d2 d3 dl
  go_upto_region 4 with (fail)
  refine Q3 6 [5] (fun x => Qa w1 x) Qm rfl ?_
  intro vz hvz
  have HC := hvz
  refine Qp (g := 3) [0, 1, 2] [_, _, _] ⟨rfl, rfl, rfl, trivial⟩ (by kernel_rfl) (by kernel_rfl) HC ?_
  simp only [Qc, Qd, Qe]
  apply Exists.intro
  refine ⟨fun u hu => ?_, ?_⟩
  ·obtain ⟨x0, x1, x2, x3, x4, x5, x6, x7, x8, x9, x10, x11⟩ := Qb.c12 (Qb.ext B4 hu)
   have xl := Qb.lt (Qb.ext B4 hu)
   obtain ⟨y0, y1, y2, y3, y4, y5, y6, y7, y8, y9, y10, y11⟩ := Qb.c12 (Qb.ext B5 hu)
   have yl := Qb.lt (Qb.ext B5 hu)
   obtain ⟨z0, z1, z2, z3, z4, z5, z6, z7, z8, z9, z10, z11⟩ := Qb.c12 (Qb.ext B7 hu)
   have zl := Qb.lt (Qb.ext B7 hu)
   repeat (first | go_big_quiet_skip | (go_big_quiet_want; go_big_quiet_op; go_big_quiet_on))
   refine wpQuiet_nil ?_
   rfl
  refine Qj 3 rfl (by kernel_rfl) ?_
  simp only [Qc, Qd, Qe]
  have Hs := Qb.ext B4 HC
  obtain ⟨z0, z1, z2, z3, z4, z5, z6, z7, z8, z9, z10, z11⟩ := Qb.f12 Hs
  obtain ⟨x0, x1, x2, x3, x4, x5, x6, x7, x8, x9, x10, x11⟩ := Qb.c12 Hs
  have xl := Qb.lt Hs
  go_wp2
  rw [Jz Hs]
  clear Hs z0 x0 z1 x1 z2 x2 z3 x3 z4 x4 z5 x5 z6 x6 z7 x7 z8 x8 z9 x9 z10 x10 z11 x11 xl
  refine Qi HC ?_
  refine Qj 4 rfl (by kernel_rfl) ?_
  simp only [Qc, Qd, Qe]
  have Hs := Qb.ext B5 HC
  obtain ⟨z0, z1, z2, z3, z4, z5, z6, z7, z8, z9, z10, z11⟩ := Qb.f12 Hs
  obtain ⟨x0, x1, x2, x3, x4, x5, x6, x7, x8, x9, x10, x11⟩ := Qb.c12 Hs
  have xl := Qb.lt Hs
  go_wp2
  rw [Jz Hs]
  clear Hs z0 x0 z1 x1 z2 x2 z3 x3 z4 x4 z5 x5 z6 x6 z7 x7 z8 x8 z9 x9 z10 x10 z11 x11 xl
  refine Qi HC ?_
  refine Qn 5 rfl (by kernel_rfl) ?_
  simp only [Qc, Qd, Qe]
  go_wp2
  refine Qo ?_
  refine Qs (by kernel_rfl) ?_
  skip
  skip
  obtain ⟨x0, x1, x2, x3, x4, x5, x6, x7, x8, x9, x10, x11⟩ := Qb.c12 (Qb.ext B4 HC)
  have xl := Qb.lt (Qb.ext B4 HC)
  obtain ⟨y0, y1, y2, y3, y4, y5, y6, y7, y8, y9, y10, y11⟩ := Qb.c12 (Qb.ext B5 HC)
  have yl := Qb.lt (Qb.ext B5 HC)
  go_wp2
  refine bodyPost_ret (v := .tuple #[.agg #[.string ⟨#[]⟩, .int .i64 0, .int .i64 0, .bool false, .int .i64 0, .int .i64 0, .int .i64 0, .bool false, .int .i64 0, .slice none 0 0, .slice none 0 0, .slice none 0 0], .agg #[.string ⟨#[]⟩, .int .i64 0, .int .i64 0, .bool false, .int .i64 0, .int .i64 0, .int .i64 0, .bool false, .int .i64 0, .slice none 0 0, .slice none 0 0, .slice none 0 0], .int .i64 RE]) (by simp [results, Tryz.results24, go_sem, x0, y0, x1, y1, x2, y2, x3, y3, x4, y4, x5, y5, x6, y6, x7, y7, x8, y8, x9, y9, x10, y10, x11, y11]) rfl ⟨_, _, _, _, _, _, rfl, E.trans HC, Yh _, Yh _⟩
 subst e0
 have hper := Lib.hid (hpe.out.symm)
 have hv := (Fh hper.out).1
 have ND := fun w h => Gm A A' ca cb c d w h hv
 clear NV
 go_upto_region 5 with (fail)
 by_cases en : c.numV d = 0
 ·have g1 : (c.numV d == 0) = true := beq_iff_eq.2 en
  have hr := Rb (d := d) hper.out en
  obtain rfl : RE = 71 := HR.out.1.trans hr.1
  obtain rfl : RX = (Jl, Jl) := HR.out.2.trans hr.2
  clear HR hr hper hpe en
  go_upto_region 6 with (go_at_call 60; (with_reducible refine Calls.mono (ND _ C) ?_); rintro e w2 ⟨rfl, hx⟩; replace E := E.trans hx; replace C := C.ext hx; replace B4 := B4.ext hx; replace B5 := B5.ext hx; replace B7 := B7.ext hx; replace B1 := B1.ext hx; replace B2 := B2.ext hx; replace B3 := B3.ext hx; clear hx; clear k0 k1 kl p0 p1 p2 p3 p4 p5 p6 p7 p8 p9 p10 p11 pl d0 d1 d2 d3 dl; obtain ⟨k0, k1⟩ := B1.c2; have kl := B1.lt; obtain ⟨p0, p1, p2, p3, p4, p5, p6, p7, p8, p9, p10, p11⟩ := B2.c12; have pl := B2.lt; obtain ⟨d0, d1, d2, d3⟩ := B3.c4; have dl := B3.lt)
  clear k0 k1 kl p0 p1 p2 p3 p4 p5 p6 p7 p8 p9 p10 p11 pl d0 d1 d2 d3 dl
  go_upto_region 6 with (fail)
  refine Q3 5 [4] (fun x => Qa w2 x) Qm rfl ?_
  intro vz hvz
  have HC := hvz
  refine Qp (g := 3) [0, 1] [_, _] ⟨rfl, rfl, trivial⟩ (by kernel_rfl) (by kernel_rfl) HC ?_
  simp only [Qc, Qd, Qe]
  apply Exists.intro
  refine ⟨fun u hu => ?_, ?_⟩
  ·obtain ⟨x0, x1, x2, x3, x4, x5, x6, x7, x8, x9, x10, x11⟩ := Qb.c12 (Qb.ext B4 hu)
   have xl := Qb.lt (Qb.ext B4 hu)
   obtain ⟨y0, y1, y2, y3, y4, y5, y6, y7, y8, y9, y10, y11⟩ := Qb.c12 (Qb.ext B5 hu)
   have yl := Qb.lt (Qb.ext B5 hu)
   obtain ⟨z0, z1, z2, z3, z4, z5, z6, z7, z8, z9, z10, z11⟩ := Qb.c12 (Qb.ext B7 hu)
   have zl := Qb.lt (Qb.ext B7 hu)
   repeat (first | go_big_quiet_skip | (go_big_quiet_want; go_big_quiet_op; go_big_quiet_on))
   refine wpQuiet_nil ?_
   rfl
  refine Qj 2 rfl (by kernel_rfl) ?_
  simp only [Qc, Qd, Qe]
  have Hs := Qb.ext B4 HC
  obtain ⟨z0, z1, z2, z3, z4, z5, z6, z7, z8, z9, z10, z11⟩ := Qb.f12 Hs
  obtain ⟨x0, x1, x2, x3, x4, x5, x6, x7, x8, x9, x10, x11⟩ := Qb.c12 Hs
  have xl := Qb.lt Hs
  go_wp2
  rw [Jz Hs]
  clear Hs z0 x0 z1 x1 z2 x2 z3 x3 z4 x4 z5 x5 z6 x6 z7 x7 z8 x8 z9 x9 z10 x10 z11 x11 xl
  refine Qi HC ?_
  refine Qj 3 rfl (by kernel_rfl) ?_
  simp only [Qc, Qd, Qe]
  have Hs := Qb.ext B5 HC
  obtain ⟨z0, z1, z2, z3, z4, z5, z6, z7, z8, z9, z10, z11⟩ := Qb.f12 Hs
  obtain ⟨x0, x1, x2, x3, x4, x5, x6, x7, x8, x9, x10, x11⟩ := Qb.c12 Hs
  have xl := Qb.lt Hs
  go_wp2
  rw [Jz Hs]
  clear Hs z0 x0 z1 x1 z2 x2 z3 x3 z4 x4 z5 x5 z6 x6 z7 x7 z8 x8 z9 x9 z10 x10 z11 x11 xl
  refine Qi HC ?_
  refine Qn 4 rfl (by kernel_rfl) ?_
  simp only [Qc, Qd, Qe]
  go_wp2
  refine Qo ?_
  refine Qs (by kernel_rfl) ?_
  skip
  skip
  obtain ⟨x0, x1, x2, x3, x4, x5, x6, x7, x8, x9, x10, x11⟩ := Qb.c12 (Qb.ext B4 HC)
  have xl := Qb.lt (Qb.ext B4 HC)
  obtain ⟨y0, y1, y2, y3, y4, y5, y6, y7, y8, y9, y10, y11⟩ := Qb.c12 (Qb.ext B5 HC)
  have yl := Qb.lt (Qb.ext B5 HC)
  go_wp2
  refine bodyPost_ret (v := .tuple #[.agg #[.string ⟨#[]⟩, .int .i64 0, .int .i64 0, .bool false, .int .i64 0, .int .i64 0, .int .i64 0, .bool false, .int .i64 0, .slice none 0 0, .slice none 0 0, .slice none 0 0], .agg #[.string ⟨#[]⟩, .int .i64 0, .int .i64 0, .bool false, .int .i64 0, .int .i64 0, .int .i64 0, .bool false, .int .i64 0, .slice none 0 0, .slice none 0 0, .slice none 0 0], .int .i64 71]) (by simp [results, Tryz.results24, go_sem, x0, y0, x1, y1, x2, y2, x3, y3, x4, y4, x5, y5, x6, y6, x7, y7, x8, y8, x9, y9, x10, y10, x11, y11]) rfl ⟨_, _, _, _, _, _, rfl, E.trans HC, Yh _, Yh _⟩
 have g1 : (c.numV d == 0) = false := beq_eq_false_iff_ne.2 en
 go_upto_region 7 with (go_at_call 60; (with_reducible refine Calls.mono (ND _ C) ?_); rintro e w2 ⟨rfl, hx⟩; replace E := E.trans hx; replace C := C.ext hx; replace B4 := B4.ext hx; replace B5 := B5.ext hx; replace B7 := B7.ext hx; replace B1 := B1.ext hx; replace B2 := B2.ext hx; replace B3 := B3.ext hx; clear hx; clear k0 k1 kl p0 p1 p2 p3 p4 p5 p6 p7 p8 p9 p10 p11 pl d0 d1 d2 d3 dl; obtain ⟨k0, k1⟩ := B1.c2; have kl := B1.lt; obtain ⟨p0, p1, p2, p3, p4, p5, p6, p7, p8, p9, p10, p11⟩ := B2.c12; have pl := B2.lt; obtain ⟨d0, d1, d2, d3⟩ := B3.c4; have dl := B3.lt)
 have hok := pdOk (Fh hper.out).2
 have NI1 := fun w h => Vx A A' ca cb c p.a d w h hv
 have NI2 := fun w h => Vx A A' ca cb c p.b d w h hv
 rw [decide_eq_true hok.a0, Bool.true_and] at NI1
 rw [decide_eq_true (show 0 < c.numV p.b by have := hok.a0; have := hok.ab; omega), Bool.true_and] at NI2
 by_cases e2 : c.numV p.a ≤ c.numV d
 rotate_left
 ·have g2 : decide (c.numV p.a ≤ c.numV d) = false := decide_eq_false e2
  rw [g2] at NI1
  have hr := N7 (d := d) hper.out en (.inl (by omega))
  obtain rfl : RE = 8 := HR.out.1.trans hr.1
  obtain rfl : RX = (Jl, Jl) := HR.out.2.trans hr.2
  clear HR hr hper hpe en e2 hok
  go_upto_region 8 with (first | (go_at_call 61; (with_reducible refine Calls.mono (NI1 _ C) ?_); rintro e w3 ⟨rfl, hx⟩; replace E := E.trans hx; replace C := C.ext hx; replace B4 := B4.ext hx; replace B5 := B5.ext hx; replace B7 := B7.ext hx; replace B1 := B1.ext hx; replace B2 := B2.ext hx; replace B3 := B3.ext hx; clear hx; clear k0 k1 kl p0 p1 p2 p3 p4 p5 p6 p7 p8 p9 p10 p11 pl d0 d1 d2 d3 dl; obtain ⟨k0, k1⟩ := B1.c2; have kl := B1.lt; obtain ⟨p0, p1, p2, p3, p4, p5, p6, p7, p8, p9, p10, p11⟩ := B2.c12; have pl := B2.lt; obtain ⟨d0, d1, d2, d3⟩ := B3.c4; have dl := B3.lt) | (go_at_call 61; (with_reducible refine Calls.mono (NI2 _ C) ?_); rintro e w4 ⟨rfl, hx⟩; replace E := E.trans hx; replace C := C.ext hx; replace B4 := B4.ext hx; replace B5 := B5.ext hx; replace B7 := B7.ext hx; replace B1 := B1.ext hx; replace B2 := B2.ext hx; replace B3 := B3.ext hx; clear hx; clear k0 k1 kl p0 p1 p2 p3 p4 p5 p6 p7 p8 p9 p10 p11 pl d0 d1 d2 d3 dl; obtain ⟨k0, k1⟩ := B1.c2; have kl := B1.lt; obtain ⟨p0, p1, p2, p3, p4, p5, p6, p7, p8, p9, p10, p11⟩ := B2.c12; have pl := B2.lt; obtain ⟨d0, d1, d2, d3⟩ := B3.c4; have dl := B3.lt))
  clear k0 k1 kl p0 p1 p2 p3 p4 p5 p6 p7 p8 p9 p10 p11 pl d0 d1 d2 d3 dl
  go_upto_region 8 with (fail)
  refine Q3 5 [4] (fun x => Qa w3 x) Qm rfl ?_
  intro vz hvz
  have HC := hvz
  refine Qp (g := 3) [0, 1] [_, _] ⟨rfl, rfl, trivial⟩ (by kernel_rfl) (by kernel_rfl) HC ?_
  simp only [Qc, Qd, Qe]
  apply Exists.intro
  refine ⟨fun u hu => ?_, ?_⟩
  ·obtain ⟨x0, x1, x2, x3, x4, x5, x6, x7, x8, x9, x10, x11⟩ := Qb.c12 (Qb.ext B4 hu)
   have xl := Qb.lt (Qb.ext B4 hu)
   obtain ⟨y0, y1, y2, y3, y4, y5, y6, y7, y8, y9, y10, y11⟩ := Qb.c12 (Qb.ext B5 hu)
   have yl := Qb.lt (Qb.ext B5 hu)
   obtain ⟨z0, z1, z2, z3, z4, z5, z6, z7, z8, z9, z10, z11⟩ := Qb.c12 (Qb.ext B7 hu)
   have zl := Qb.lt (Qb.ext B7 hu)
   repeat (first | go_big_quiet_skip | (go_big_quiet_want; go_big_quiet_op; go_big_quiet_on))
   refine wpQuiet_nil ?_
   rfl
  refine Qj 2 rfl (by kernel_rfl) ?_
  simp only [Qc, Qd, Qe]
  have Hs := Qb.ext B4 HC
  obtain ⟨z0, z1, z2, z3, z4, z5, z6, z7, z8, z9, z10, z11⟩ := Qb.f12 Hs
  obtain ⟨x0, x1, x2, x3, x4, x5, x6, x7, x8, x9, x10, x11⟩ := Qb.c12 Hs
  have xl := Qb.lt Hs
  go_wp2
  rw [Jz Hs]
  clear Hs z0 x0 z1 x1 z2 x2 z3 x3 z4 x4 z5 x5 z6 x6 z7 x7 z8 x8 z9 x9 z10 x10 z11 x11 xl
  refine Qi HC ?_
  refine Qj 3 rfl (by kernel_rfl) ?_
  simp only [Qc, Qd, Qe]
  have Hs := Qb.ext B5 HC
  obtain ⟨z0, z1, z2, z3, z4, z5, z6, z7, z8, z9, z10, z11⟩ := Qb.f12 Hs
  obtain ⟨x0, x1, x2, x3, x4, x5, x6, x7, x8, x9, x10, x11⟩ := Qb.c12 Hs
  have xl := Qb.lt Hs
  go_wp2
  rw [Jz Hs]
  clear Hs z0 x0 z1 x1 z2 x2 z3 x3 z4 x4 z5 x5 z6 x6 z7 x7 z8 x8 z9 x9 z10 x10 z11 x11 xl
  refine Qi HC ?_
  refine Qn 4 rfl (by kernel_rfl) ?_
  simp only [Qc, Qd, Qe]
  go_wp2
  refine Qo ?_
  refine Qs (by kernel_rfl) ?_
  skip
  skip
  obtain ⟨x0, x1, x2, x3, x4, x5, x6, x7, x8, x9, x10, x11⟩ := Qb.c12 (Qb.ext B4 HC)
  have xl := Qb.lt (Qb.ext B4 HC)
  obtain ⟨y0, y1, y2, y3, y4, y5, y6, y7, y8, y9, y10, y11⟩ := Qb.c12 (Qb.ext B5 HC)
  have yl := Qb.lt (Qb.ext B5 HC)
  go_wp2
  refine bodyPost_ret (v := .tuple #[.agg #[.string ⟨#[]⟩, .int .i64 0, .int .i64 0, .bool false, .int .i64 0, .int .i64 0, .int .i64 0, .bool false, .int .i64 0, .slice none 0 0, .slice none 0 0, .slice none 0 0], .agg #[.string ⟨#[]⟩, .int .i64 0, .int .i64 0, .bool false, .int .i64 0, .int .i64 0, .int .i64 0, .bool false, .int .i64 0, .slice none 0 0, .slice none 0 0, .slice none 0 0], .int .i64 8]) (by simp [results, Tryz.results24, go_sem, x0, y0, x1, y1, x2, y2, x3, y3, x4, y4, x5, y5, x6, y6, x7, y7, x8, y8, x9, y9, x10, y10, x11, y11]) rfl ⟨_, _, _, _, _, _, rfl, E.trans HC, Yh _, Yh _⟩
 have g2 : decide (c.numV p.a ≤ c.numV d) = true := decide_eq_true e2
 rw [g2] at NI1
 by_cases e3 : c.numV p.b ≤ c.numV d
 ·have g3 : decide (c.numV p.b ≤ c.numV d) = true := decide_eq_true e3
  rw [g3] at NI2
  have hr := N7 (d := d) hper.out en (.inr e3)
  obtain rfl : RE = 8 := HR.out.1.trans hr.1
  obtain rfl : RX = (Jl, Jl) := HR.out.2.trans hr.2
  clear HR hr hper hpe en e2 e3 hok
  go_upto_region 8 with (first | (go_at_call 61; (with_reducible refine Calls.mono (NI1 _ C) ?_); rintro e w3 ⟨rfl, hx⟩; replace E := E.trans hx; replace C := C.ext hx; replace B4 := B4.ext hx; replace B5 := B5.ext hx; replace B7 := B7.ext hx; replace B1 := B1.ext hx; replace B2 := B2.ext hx; replace B3 := B3.ext hx; clear hx; clear k0 k1 kl p0 p1 p2 p3 p4 p5 p6 p7 p8 p9 p10 p11 pl d0 d1 d2 d3 dl; obtain ⟨k0, k1⟩ := B1.c2; have kl := B1.lt; obtain ⟨p0, p1, p2, p3, p4, p5, p6, p7, p8, p9, p10, p11⟩ := B2.c12; have pl := B2.lt; obtain ⟨d0, d1, d2, d3⟩ := B3.c4; have dl := B3.lt) | (go_at_call 61; (with_reducible refine Calls.mono (NI2 _ C) ?_); rintro e w4 ⟨rfl, hx⟩; replace E := E.trans hx; replace C := C.ext hx; replace B4 := B4.ext hx; replace B5 := B5.ext hx; replace B7 := B7.ext hx; replace B1 := B1.ext hx; replace B2 := B2.ext hx; replace B3 := B3.ext hx; clear hx; clear k0 k1 kl p0 p1 p2 p3 p4 p5 p6 p7 p8 p9 p10 p11 pl d0 d1 d2 d3 dl; obtain ⟨k0, k1⟩ := B1.c2; have kl := B1.lt; obtain ⟨p0, p1, p2, p3, p4, p5, p6, p7, p8, p9, p10, p11⟩ := B2.c12; have pl := B2.lt; obtain ⟨d0, d1, d2, d3⟩ := B3.c4; have dl := B3.lt))
  clear k0 k1 kl p0 p1 p2 p3 p4 p5 p6 p7 p8 p9 p10 p11 pl d0 d1 d2 d3 dl
  go_upto_region 8 with (fail)
  refine Q3 5 [4] (fun x => Qa w4 x) Qm rfl ?_
  intro vz hvz
  have HC := hvz
  refine Qp (g := 3) [0, 1] [_, _] ⟨rfl, rfl, trivial⟩ (by kernel_rfl) (by kernel_rfl) HC ?_
  simp only [Qc, Qd, Qe]
  apply Exists.intro
  refine ⟨fun u hu => ?_, ?_⟩
  ·obtain ⟨x0, x1, x2, x3, x4, x5, x6, x7, x8, x9, x10, x11⟩ := Qb.c12 (Qb.ext B4 hu)
   have xl := Qb.lt (Qb.ext B4 hu)
   obtain ⟨y0, y1, y2, y3, y4, y5, y6, y7, y8, y9, y10, y11⟩ := Qb.c12 (Qb.ext B5 hu)
   have yl := Qb.lt (Qb.ext B5 hu)
   obtain ⟨z0, z1, z2, z3, z4, z5, z6, z7, z8, z9, z10, z11⟩ := Qb.c12 (Qb.ext B7 hu)
   have zl := Qb.lt (Qb.ext B7 hu)
   repeat (first | go_big_quiet_skip | (go_big_quiet_want; go_big_quiet_op; go_big_quiet_on))
   refine wpQuiet_nil ?_
   rfl
  refine Qj 2 rfl (by kernel_rfl) ?_
  simp only [Qc, Qd, Qe]
  have Hs := Qb.ext B4 HC
  obtain ⟨z0, z1, z2, z3, z4, z5, z6, z7, z8, z9, z10, z11⟩ := Qb.f12 Hs
  obtain ⟨x0, x1, x2, x3, x4, x5, x6, x7, x8, x9, x10, x11⟩ := Qb.c12 Hs
  have xl := Qb.lt Hs
  go_wp2
  rw [Jz Hs]
  clear Hs z0 x0 z1 x1 z2 x2 z3 x3 z4 x4 z5 x5 z6 x6 z7 x7 z8 x8 z9 x9 z10 x10 z11 x11 xl
  refine Qi HC ?_
  refine Qj 3 rfl (by kernel_rfl) ?_
  simp only [Qc, Qd, Qe]
  have Hs := Qb.ext B5 HC
  obtain ⟨z0, z1, z2, z3, z4, z5, z6, z7, z8, z9, z10, z11⟩ := Qb.f12 Hs
  obtain ⟨x0, x1, x2, x3, x4, x5, x6, x7, x8, x9, x10, x11⟩ := Qb.c12 Hs
  have xl := Qb.lt Hs
  go_wp2
  rw [Jz Hs]
  clear Hs z0 x0 z1 x1 z2 x2 z3 x3 z4 x4 z5 x5 z6 x6 z7 x7 z8 x8 z9 x9 z10 x10 z11 x11 xl
  refine Qi HC ?_
  refine Qn 4 rfl (by kernel_rfl) ?_
  simp only [Qc, Qd, Qe]
  go_wp2
  refine Qo ?_
  refine Qs (by kernel_rfl) ?_
  skip
  skip
  obtain ⟨x0, x1, x2, x3, x4, x5, x6, x7, x8, x9, x10, x11⟩ := Qb.c12 (Qb.ext B4 HC)
  have xl := Qb.lt (Qb.ext B4 HC)
  obtain ⟨y0, y1, y2, y3, y4, y5, y6, y7, y8, y9, y10, y11⟩ := Qb.c12 (Qb.ext B5 HC)
  have yl := Qb.lt (Qb.ext B5 HC)
  go_wp2
  refine bodyPost_ret (v := .tuple #[.agg #[.string ⟨#[]⟩, .int .i64 0, .int .i64 0, .bool false, .int .i64 0, .int .i64 0, .int .i64 0, .bool false, .int .i64 0, .slice none 0 0, .slice none 0 0, .slice none 0 0], .agg #[.string ⟨#[]⟩, .int .i64 0, .int .i64 0, .bool false, .int .i64 0, .int .i64 0, .int .i64 0, .bool false, .int .i64 0, .slice none 0 0, .slice none 0 0, .slice none 0 0], .int .i64 8]) (by simp [results, Tryz.results24, go_sem, x0, y0, x1, y1, x2, y2, x3, y3, x4, y4, x5, y5, x6, y6, x7, y7, x8, y8, x9, y9, x10, y10, x11, y11]) rfl ⟨_, _, _, _, _, _, rfl, E.trans HC, Yh _, Yh _⟩
 have g3 : decide (c.numV p.b ≤ c.numV d) = false := decide_eq_false e3
 rw [g3] at NI2
 go_upto_region 9 with (first | (go_at_call 61; (with_reducible refine Calls.mono (NI1 _ C) ?_); rintro e w3 ⟨rfl, hx⟩; replace E := E.trans hx; replace C := C.ext hx; replace B4 := B4.ext hx; replace B5 := B5.ext hx; replace B7 := B7.ext hx; replace B1 := B1.ext hx; replace B2 := B2.ext hx; replace B3 := B3.ext hx; clear hx; clear k0 k1 kl p0 p1 p2 p3 p4 p5 p6 p7 p8 p9 p10 p11 pl d0 d1 d2 d3 dl; obtain ⟨k0, k1⟩ := B1.c2; have kl := B1.lt; obtain ⟨p0, p1, p2, p3, p4, p5, p6, p7, p8, p9, p10, p11⟩ := B2.c12; have pl := B2.lt; obtain ⟨d0, d1, d2, d3⟩ := B3.c4; have dl := B3.lt) | (go_at_call 61; (with_reducible refine Calls.mono (NI2 _ C) ?_); rintro e w4 ⟨rfl, hx⟩; replace E := E.trans hx; replace C := C.ext hx; replace B4 := B4.ext hx; replace B5 := B5.ext hx; replace B7 := B7.ext hx; replace B1 := B1.ext hx; replace B2 := B2.ext hx; replace B3 := B3.ext hx; clear hx; clear k0 k1 kl p0 p1 p2 p3 p4 p5 p6 p7 p8 p9 p10 p11 pl d0 d1 d2 d3 dl; obtain ⟨k0, k1⟩ := B1.c2; have kl := B1.lt; obtain ⟨p0, p1, p2, p3, p4, p5, p6, p7, p8, p9, p10, p11⟩ := B2.c12; have pl := B2.lt; obtain ⟨d0, d1, d2, d3⟩ := B3.c4; have dl := B3.lt))
 have hsum := Lib.hid (Cm (d := d) hper.out en (by omega))
 have hsort := Lib.hid (show p.d.Pairwise (fun a b => c.numV a.on ≤ c.numV b.on) from hok.sorted)
 have hpos := Lib.hid hok.pos
 have hlo := hok.o
 have hlc := hok.k
 have hld := hok.d
 rw [← hnl.out] at hld
 have hll := Lib.hid hok.l
 obtain ⟨K, hK0⟩ := Qg (c.cutK (c.numV d) p.d)
 have hKn : K ≤ n := by rw [hK0, hnl.out]; exact Gx _ _ _
 have hK := Lib.hid hK0
 clear hK0 hok hper hpe e2 e3 en g1 g2 g3 NI1 NI2 ND
 obtain ⟨T2, c2, vs, e2, hD, hcap, hmax, _, _⟩ := id hP.d
 obtain ⟨rfl, e3, rfl⟩ : t2 = T2 ∧ n = p.d.length ∧ s2 = c2 := by simpa using e2
 rw [← hnl.out] at hD hcap
 clear e2 e3
 obtain ⟨g, hg⟩ := Qg (fun i => p.d.getD i Qx)
 have hg' : ∀ i, p.d.getD i Qx = g i := fun i => by rw [hg]
 have hside : Hid (∀ k, k < n → (c.numV (g k).on ≤ c.numV d ↔ k < K) ∧ 0 < c.numV (g k).on ∧ (g k).l.length ≤ 64) := fun k hk => by
  have hk' : k < p.d.length := by rw [← hnl.out]; exact hk
  rw [← hg']
  refine ⟨⟨fun h => ?_, fun h => cut_lt c _ _ k (by rw [← hK.out]; exact h)⟩, hpos.out k hk', hll.out k hk'⟩
  by_cases e : k < K
  ·exact e
  ·exact absurd h (cut_ge c _ _ hsort.out k hk' (by rw [← hK.out]; omega))
 have htake : Hid (∀ i, i < K → g i = (p.d.take K).getD i Qx) := fun i hi => by rw [Lo _ _ hi, hg']
 have hdrop : Hid (∀ i, i < n - K → g (K + i) = (p.d.drop K).getD i Qx) := fun i _ => by rw [Ol, hg']
 have hone : Hid (∀ k, k < n → Ys w (Kj t2 k (k + 1) s2 7) [g k]) := fun k hk => by
  have hk' : k < p.d.length := by rw [← hnl.out]; exact hk
  have h := Bs hP.d (show k ≤ k + 1 by omega) (show k + 1 ≤ p.d.length by omega)
  rw [take_one p.d hk', hg'] at h
  exact h
 have hsumK : Hid (c.divE p d = (Zm p.o (p.d.take K)).2) := by
  have h := hsum.out
  rw [← hK.out] at h
  exact h
 have hdiv : Hid (c.divX p d = ⟨p.h, p.a, d, p.o, p.d.take K, (Zm p.o (p.d.take K)).1⟩ ∧ c.divY p d = ⟨p.h, c.addV d 1, p.b, (Zm p.o (p.d.take K)).1, p.d.drop K, p.c⟩) := by
  unfold Hid Qf.divX Qf.divY
  rw [← hK.out]
  exact ⟨rfl, rfl⟩
 have hlT : (p.d.take K).length = K := by rw [List.length_take, ← hnl.out]; omega
 have hlR : (p.d.drop K).length = n - K := by rw [List.length_drop, ← hnl.out]
 have hsl : (Zm p.o (p.d.take K)).1.length ≤ 64 := Gu _ _ hlo
 simp only [hg'] at hD
 clear hg hg' hsum hK hll hpos hsort
 generalize p.d.take K = DTK at *
 generalize p.d.drop K = DRK at *
 replace hlT := Lib.hid hlT
 replace hlR := Lib.hid hlR
 have NA := fun w h => Qe4 A A' ca cb c d 1 w h (by decide) (by decide)
 have NCO := fun w h => Vo (.slice t1 p.o.length s1) p.o w h (by omega)
 have NCC := fun w h => Vo (.slice t3 p.c.length s3) p.c w h (by omega)
 generalize c.addV d 1 = ad at *
 generalize c.addE d 1 = ae at *
 simp only [Dt.val] at NA
 have hlt4 := B4.lt
 have hlt5 := B5.lt
 have hsz4 := E.size
 clear k0 k1 kl p0 p1 p2 p3 p4 p5 p6 p7 p8 p9 p10 p11 pl d0 d1 d2 d3 dl
 apply wp_cutR (S := fun w' F m b => Qa w4 w' ∧ w4.heap.size ≤ b ∧ Qb w' b 31 #[.string p.h, .int .i64 p.a.y, .int .i64 p.a.m, .bool p.a.s, .int .i64 p.a.d, .int .i64 d.y, .int .i64 d.m, .bool d.s, .int .i64 d.d, .slice F p.o.length m, .slice none 0 0, .slice none 0 0] ∧ Zn w' w4.heap.size (.slice F p.o.length m) p.o)
 ·refine Q3 11 [10] (fun x => Qa w4 x) Qm rfl ?_
  intro vz hvz
  have HC := hvz
  refine Qp (g := 4) [0, 1, 2, 3, 4, 5, 6] [_, _, _, _, _, _, _] ⟨rfl, rfl, rfl, rfl, rfl, rfl, rfl, trivial⟩ (by kernel_rfl) (by kernel_rfl) HC ?_
  simp only [Qc, Qd, Qe]
  apply Exists.intro
  refine ⟨fun u hu => ?_, ?_⟩
  ·obtain ⟨p0, p1, p2, p3, p4, p5, p6, p7, p8, p9, p10, p11⟩ := Qb.c12 (Qb.ext B2 hu)
   have pl := Qb.lt (Qb.ext B2 hu)
   obtain ⟨d0, d1, d2, d3⟩ := Qb.c4 (Qb.ext B3 hu)
   have dl := Qb.lt (Qb.ext B3 hu)
   repeat (first | go_big_quiet_skip | (go_big_quiet_want; go_big_quiet_op; go_big_quiet_on))
   refine wpQuiet_nil ?_
   rfl
  refine Zu 7 9 rfl rfl (by kernel_rfl) ?_ ?_
  ·simp only [Qc, Qd, Qe]
   have hz := HC.size
   go_wp2_with (go_at_call 20; (with_reducible refine Calls.mono (NCO _ (hP.ext (E.trans HC)).o) ?_); rintro e wc ⟨vl, rfl, hb, SL0⟩; obtain ⟨F1, m1, rfl⟩ := Z5 SL0)
   have SL := Yc SL0 hz
   replace HC := HC.trans hb
   try replace HN := HN.ext hb
   clear hb SL0 hz
   refine Qi HC ?_
   refine Qp (g := 2) [8] [_] ⟨rfl, trivial⟩ (by kernel_rfl) (by kernel_rfl) HC ?_
   simp only [Qc, Qd, Qe]
   apply Exists.intro
   refine ⟨fun u hu => ?_, ?_⟩
   ·obtain ⟨p0, p1, p2, p3, p4, p5, p6, p7, p8, p9, p10, p11⟩ := Qb.c12 (Qb.ext B2 hu)
    have pl := Qb.lt (Qb.ext B2 hu)
    obtain ⟨d0, d1, d2, d3⟩ := Qb.c4 (Qb.ext B3 hu)
    have dl := Qb.lt (Qb.ext B3 hu)
    repeat (first | go_big_quiet_skip | (go_big_quiet_want; go_big_quiet_op; go_big_quiet_on))
    refine wpQuiet_nil ?_
    rfl
   refine Qj 9 rfl (by kernel_rfl) ?_
   simp only [Qc, Qd, Qe]
   go_wp2
   obtain ⟨bA, wb, hbq, hwb, HN, HC', hx, gp⟩ := Q4 HC 31 #[.string ⟨#[]⟩, .int .i64 0, .int .i64 0, .bool false, .int .i64 0, .int .i64 0, .int .i64 0, .bool false, .int .i64 0, .slice none 0 0, .slice none 0 0, .slice none 0 0]
   rw [← hbq, ← hwb]
   replace HC := HC'
   try replace SL := Q5 SL hx
   clear hbq hwb hx HC'
   refine Qi HC ?_
   refine Qn 10 rfl (by kernel_rfl) ?_
   simp only [Qc, Qd, Qe]
   obtain ⟨z0, z1, z2, z3, z4, z5, z6, z7, z8, z9, z10, z11⟩ := Qb.f12 HN
   obtain ⟨x0, x1, x2, x3, x4, x5, x6, x7, x8, x9, x10, x11⟩ := Qb.c12 HN
   have xl := Qb.lt HN
   go_wp2
   obtain ⟨wq, hq, HX, ko, kd, kh, ke⟩ := Uh HN (by decide) (by decide) (.string p.h) (.int .i64 p.a.y) (.int .i64 p.a.m) (.bool p.a.s) (.int .i64 p.a.d) (.int .i64 d.y) (.int .i64 d.m) (.bool d.s) (.int .i64 d.d) (.slice F1 p.o.length m1) (.slice none 0 0) (.slice none 0 0)
   rw [← hq]
   replace HC := ke HC gp
   replace SL := ko SL
   clear hq ko kd kh ke HN z0 x0 z1 x1 z2 x2 z3 x3 z4 x4 z5 x5 z6 x6 z7 x7 z8 x8 z9 x9 z10 x10 z11 x11 xl
   refine Qo ?_
   refine Qs (by kernel_rfl) ?_
   exact cutR_is F1 m1 bA ⟨HC, gp, HX, SL⟩ rfl
  ·simp only [Qc, Qd, Qe]
   go_wp2
   obtain ⟨bA, wb, hbq, hwb, HN, HC', hx, gp⟩ := Q4 HC 31 #[.string ⟨#[]⟩, .int .i64 0, .int .i64 0, .bool false, .int .i64 0, .int .i64 0, .int .i64 0, .bool false, .int .i64 0, .slice none 0 0, .slice none 0 0, .slice none 0 0]
   rw [← hbq, ← hwb]
   replace HC := HC'
   try replace SL := Q5 SL hx
   clear hbq hwb hx HC'
   refine Qi HC ?_
   refine Qj 7 rfl (by kernel_rfl) ?_
   simp only [Qc, Qd, Qe]
   have hz := HC.size
   go_wp2_with (go_at_call 20; (with_reducible refine Calls.mono (NCO _ (hP.ext (E.trans HC)).o) ?_); rintro e wc ⟨vl, rfl, hb, SL0⟩; obtain ⟨F1, m1, rfl⟩ := Z5 SL0)
   have SL := Yc SL0 hz
   replace HC := HC.trans hb
   try replace HN := HN.ext hb
   clear hb SL0 hz
   refine Qi HC ?_
   refine Qp (g := 1) [8] [_] ⟨rfl, trivial⟩ (by kernel_rfl) (by kernel_rfl) HC ?_
   simp only [Qc, Qd, Qe]
   apply Exists.intro
   refine ⟨fun u hu => ?_, ?_⟩
   ·obtain ⟨p0, p1, p2, p3, p4, p5, p6, p7, p8, p9, p10, p11⟩ := Qb.c12 (Qb.ext B2 hu)
    have pl := Qb.lt (Qb.ext B2 hu)
    obtain ⟨d0, d1, d2, d3⟩ := Qb.c4 (Qb.ext B3 hu)
    have dl := Qb.lt (Qb.ext B3 hu)
    repeat (first | go_big_quiet_skip | (go_big_quiet_want; go_big_quiet_op; go_big_quiet_on))
    refine wpQuiet_nil ?_
    rfl
   refine Qn 10 rfl (by kernel_rfl) ?_
   simp only [Qc, Qd, Qe]
   obtain ⟨z0, z1, z2, z3, z4, z5, z6, z7, z8, z9, z10, z11⟩ := Qb.f12 HN
   obtain ⟨x0, x1, x2, x3, x4, x5, x6, x7, x8, x9, x10, x11⟩ := Qb.c12 HN
   have xl := Qb.lt HN
   go_wp2
   obtain ⟨wq, hq, HX, ko, kd, kh, ke⟩ := Uh HN (by decide) (by decide) (.string p.h) (.int .i64 p.a.y) (.int .i64 p.a.m) (.bool p.a.s) (.int .i64 p.a.d) (.int .i64 d.y) (.int .i64 d.m) (.bool d.s) (.int .i64 d.d) (.slice F1 p.o.length m1) (.slice none 0 0) (.slice none 0 0)
   rw [← hq]
   replace HC := ke HC gp
   replace SL := ko SL
   clear hq ko kd kh ke HN z0 x0 z1 x1 z2 x2 z3 x3 z4 x4 z5 x5 z6 x6 z7 x7 z8 x8 z9 x9 z10 x10 z11 x11 xl
   refine Qo ?_
   refine Qs (by kernel_rfl) ?_
   exact cutR_is F1 m1 bA ⟨HC, gp, HX, SL⟩ rfl
 rintro F1 m1 bA w5 ⟨h5, gA, HA, S1⟩
 have J := h5
 clear h5
 have B1o := Qb.ext B1 J
 have B3o := Qb.ext B3 J
 obtain ⟨k0, k1⟩ := Qb.c2 B1o
 have kl := Qb.lt B1o
 obtain ⟨d0, d1, d2, d3⟩ := Qb.c4 B3o
 have dl := Qb.lt B3o
 go_upto_region 11 with (go_at_call 62; (with_reducible refine Calls.mono (NA _ (C.ext J)) ?_); rintro e w6 ⟨rfl, hx⟩; clear k0 k1 kl d0 d1 d2 d3 dl B1o B3o)
 obtain ⟨v7, hv⟩ := Qg (w6.alloc (.cells #[.int .i64 ad.y, .int .i64 ad.m, .bool ad.s, .int .i64 ad.d] 27))
 rw [← hv]
 have hy : Qa w6 v7 := by rw [hv]; exact (Qa.refl _).alloc _
 have HD : Qb v7 w6.heap.size 27 #[.int .i64 ad.y, .int .i64 ad.m, .bool ad.s, .int .i64 ad.d] := by rw [hv]; exact Qb.new _ _ _
 clear hv
 generalize w6.heap.size = bD at *
 replace J := (J.trans hx).trans hy
 replace HA := (HA.ext hx).ext hy
 replace S1 := Q5 (Q5 S1 hx) hy
 clear hx hy
 apply wp_cutR (S := fun w' F m b => Qa v7 w' ∧ v7.heap.size ≤ b ∧ Qb w' b 31 #[.string p.h, .int .i64 ad.y, .int .i64 ad.m, .bool ad.s, .int .i64 ad.d, .int .i64 p.b.y, .int .i64 p.b.m, .bool p.b.s, .int .i64 p.b.d, .slice none 0 0, .slice none 0 0, .slice F p.c.length m] ∧ Zn w' v7.heap.size (.slice F p.c.length m) p.c)
 ·refine Q3 11 [10] (fun x => Qa v7 x) Qm rfl ?_
  intro vz hvz
  have HC := hvz
  refine Qp (g := 4) [0, 1, 2, 3, 4, 5, 6] [_, _, _, _, _, _, _] ⟨rfl, rfl, rfl, rfl, rfl, rfl, rfl, trivial⟩ (by kernel_rfl) (by kernel_rfl) HC ?_
  simp only [Qc, Qd, Qe]
  apply Exists.intro
  refine ⟨fun u hu => ?_, ?_⟩
  ·obtain ⟨p0, p1, p2, p3, p4, p5, p6, p7, p8, p9, p10, p11⟩ := Qb.c12 (Qb.ext B2 (Qa.trans J hu))
   have pl := Qb.lt (Qb.ext B2 (Qa.trans J hu))
   obtain ⟨e0, e1, e2, e3⟩ := Qb.c4 (Qb.ext HD hu)
   have el := Qb.lt (Qb.ext HD hu)
   repeat (first | go_big_quiet_skip | (go_big_quiet_want; go_big_quiet_op; go_big_quiet_on))
   refine wpQuiet_nil ?_
   rfl
  refine Zu 7 9 rfl rfl (by kernel_rfl) ?_ ?_
  ·simp only [Qc, Qd, Qe]
   have hz := HC.size
   go_wp2_with (go_at_call 20; (with_reducible refine Calls.mono (NCC _ (hP.ext (E.trans (Qa.trans J HC))).c) ?_); rintro e wc ⟨vl, rfl, hb, SL0⟩; obtain ⟨F5, m5, rfl⟩ := Z5 SL0)
   have SL := Yc SL0 hz
   replace HC := HC.trans hb
   try replace HN := HN.ext hb
   clear hb SL0 hz
   refine Qi HC ?_
   refine Qp (g := 2) [8] [_] ⟨rfl, trivial⟩ (by kernel_rfl) (by kernel_rfl) HC ?_
   simp only [Qc, Qd, Qe]
   apply Exists.intro
   refine ⟨fun u hu => ?_, ?_⟩
   ·obtain ⟨p0, p1, p2, p3, p4, p5, p6, p7, p8, p9, p10, p11⟩ := Qb.c12 (Qb.ext B2 (Qa.trans J hu))
    have pl := Qb.lt (Qb.ext B2 (Qa.trans J hu))
    obtain ⟨e0, e1, e2, e3⟩ := Qb.c4 (Qb.ext HD hu)
    have el := Qb.lt (Qb.ext HD hu)
    repeat (first | go_big_quiet_skip | (go_big_quiet_want; go_big_quiet_op; go_big_quiet_on))
    refine wpQuiet_nil ?_
    rfl
   refine Qj 9 rfl (by kernel_rfl) ?_
   simp only [Qc, Qd, Qe]
   go_wp2
   obtain ⟨bB, wb, hbq, hwb, HN, HC', hx, gp⟩ := Q4 HC 31 #[.string ⟨#[]⟩, .int .i64 0, .int .i64 0, .bool false, .int .i64 0, .int .i64 0, .int .i64 0, .bool false, .int .i64 0, .slice none 0 0, .slice none 0 0, .slice none 0 0]
   rw [← hbq, ← hwb]
   replace HC := HC'
   try replace SL := Q5 SL hx
   clear hbq hwb hx HC'
   refine Qi HC ?_
   refine Qn 10 rfl (by kernel_rfl) ?_
   simp only [Qc, Qd, Qe]
   obtain ⟨z0, z1, z2, z3, z4, z5, z6, z7, z8, z9, z10, z11⟩ := Qb.f12 HN
   obtain ⟨x0, x1, x2, x3, x4, x5, x6, x7, x8, x9, x10, x11⟩ := Qb.c12 HN
   have xl := Qb.lt HN
   go_wp2
   obtain ⟨wq, hq, HX, ko, kd, kh, ke⟩ := Uh HN (by decide) (by decide) (.string p.h) (.int .i64 ad.y) (.int .i64 ad.m) (.bool ad.s) (.int .i64 ad.d) (.int .i64 p.b.y) (.int .i64 p.b.m) (.bool p.b.s) (.int .i64 p.b.d) (.slice none 0 0) (.slice none 0 0) (.slice F5 p.c.length m5)
   rw [← hq]
   replace HC := ke HC gp
   replace SL := ko SL
   clear hq ko kd kh ke HN z0 x0 z1 x1 z2 x2 z3 x3 z4 x4 z5 x5 z6 x6 z7 x7 z8 x8 z9 x9 z10 x10 z11 x11 xl
   refine Qo ?_
   refine Qs (by kernel_rfl) ?_
   exact cutR_is F5 m5 bB ⟨HC, gp, HX, SL⟩ rfl
  ·simp only [Qc, Qd, Qe]
   go_wp2
   obtain ⟨bB, wb, hbq, hwb, HN, HC', hx, gp⟩ := Q4 HC 31 #[.string ⟨#[]⟩, .int .i64 0, .int .i64 0, .bool false, .int .i64 0, .int .i64 0, .int .i64 0, .bool false, .int .i64 0, .slice none 0 0, .slice none 0 0, .slice none 0 0]
   rw [← hbq, ← hwb]
   replace HC := HC'
   try replace SL := Q5 SL hx
   clear hbq hwb hx HC'
   refine Qi HC ?_
   refine Qj 7 rfl (by kernel_rfl) ?_
   simp only [Qc, Qd, Qe]
   have hz := HC.size
   go_wp2_with (go_at_call 20; (with_reducible refine Calls.mono (NCC _ (hP.ext (E.trans (Qa.trans J HC))).c) ?_); rintro e wc ⟨vl, rfl, hb, SL0⟩; obtain ⟨F5, m5, rfl⟩ := Z5 SL0)
   have SL := Yc SL0 hz
   replace HC := HC.trans hb
   try replace HN := HN.ext hb
   clear hb SL0 hz
   refine Qi HC ?_
   refine Qp (g := 1) [8] [_] ⟨rfl, trivial⟩ (by kernel_rfl) (by kernel_rfl) HC ?_
   simp only [Qc, Qd, Qe]
   apply Exists.intro
   refine ⟨fun u hu => ?_, ?_⟩
   ·obtain ⟨p0, p1, p2, p3, p4, p5, p6, p7, p8, p9, p10, p11⟩ := Qb.c12 (Qb.ext B2 (Qa.trans J hu))
    have pl := Qb.lt (Qb.ext B2 (Qa.trans J hu))
    obtain ⟨e0, e1, e2, e3⟩ := Qb.c4 (Qb.ext HD hu)
    have el := Qb.lt (Qb.ext HD hu)
    repeat (first | go_big_quiet_skip | (go_big_quiet_want; go_big_quiet_op; go_big_quiet_on))
    refine wpQuiet_nil ?_
    rfl
   refine Qn 10 rfl (by kernel_rfl) ?_
   simp only [Qc, Qd, Qe]
   obtain ⟨z0, z1, z2, z3, z4, z5, z6, z7, z8, z9, z10, z11⟩ := Qb.f12 HN
   obtain ⟨x0, x1, x2, x3, x4, x5, x6, x7, x8, x9, x10, x11⟩ := Qb.c12 HN
   have xl := Qb.lt HN
   go_wp2
   obtain ⟨wq, hq, HX, ko, kd, kh, ke⟩ := Uh HN (by decide) (by decide) (.string p.h) (.int .i64 ad.y) (.int .i64 ad.m) (.bool ad.s) (.int .i64 ad.d) (.int .i64 p.b.y) (.int .i64 p.b.m) (.bool p.b.s) (.int .i64 p.b.d) (.slice none 0 0) (.slice none 0 0) (.slice F5 p.c.length m5)
   rw [← hq]
   replace HC := ke HC gp
   replace SL := ko SL
   clear hq ko kd kh ke HN z0 x0 z1 x1 z2 x2 z3 x3 z4 x4 z5 x5 z6 x6 z7 x7 z8 x8 z9 x9 z10 x10 z11 x11 xl
   refine Qo ?_
   refine Qs (by kernel_rfl) ?_
   exact cutR_is F5 m5 bB ⟨HC, gp, HX, SL⟩ rfl
 rintro F5 m5 bB w8 ⟨h8, gB, HB, S5⟩
 have hAlt := HA.lt
 have J0 : DivJ w4 w8 bA bB w8.heap.size #[.string p.h, .int .i64 p.a.y, .int .i64 p.a.m, .bool p.a.s, .int .i64 p.a.d, .int .i64 d.y, .int .i64 d.m, .bool d.s, .int .i64 d.d, .slice F1 p.o.length m1, .slice none 0 0, .slice none 0 0] #[.string p.h, .int .i64 ad.y, .int .i64 ad.m, .bool ad.s, .int .i64 ad.d, .int .i64 p.b.y, .int .i64 p.b.m, .bool p.b.s, .int .i64 p.b.d, .slice none 0 0, .slice none 0 0, .slice F5 p.c.length m5] (.slice F1 p.o.length m1) (.slice F5 p.c.length m5) p.o p.c (.slice none 0 0) (.slice none 0 0) g 0 0 K :=
  ⟨J.trans h8, HA.ext h8, HB, Q5 S1 h8, Yc S5 J.size, Od _ _ _, Od _ _ _, fun q hq => absurd hq (by simp [Value.ownBlock]), Nat.le_refl _, (J.trans h8).size, gA, Nat.le_trans J.size gB, by omega⟩
 clear HA HB S1 S5 J h8 gA gB hAlt HD NA NCO NCC
 go_upto_region 13 with (fail)
 obtain ⟨i0, hi, hz0, hz1, hz2⟩ := info_parts Gb
 generalize hnd : c.numV d = nd at *
 go_loopw [15] (fun iv wr => ∃ (k BB na mA nb mB : Nat) (FA FB : Option Addr), k ≤ n ∧ iv = .int .i64 k ∧ na = min k K ∧ nb = k - K ∧ (k ≤ K → FB = none ∧ mB = 0) ∧ DivJ w4 wr bA bB BB #[.string p.h, .int .i64 p.a.y, .int .i64 p.a.m, .bool p.a.s, .int .i64 p.a.d, .int .i64 d.y, .int .i64 d.m, .bool d.s, .int .i64 d.d, .slice F1 p.o.length m1, .slice FA na mA, .slice none 0 0] #[.string p.h, .int .i64 ad.y, .int .i64 ad.m, .bool ad.s, .int .i64 ad.d, .int .i64 p.b.y, .int .i64 p.b.m, .bool p.b.s, .int .i64 p.b.d, .slice none 0 0, .slice FB nb mB, .slice F5 p.c.length m5] (.slice F1 p.o.length m1) (.slice F5 p.c.length m5) p.o p.c (.slice FA na mA) (.slice FB nb mB) g na nb K) (fun iv _ => n - (intOf iv).toNat)
 case atStart => exact ⟨0, _, 0, 0, 0, 0, none, none, Nat.zero_le _, rfl, by omega, by omega, fun _ => ⟨rfl, rfl⟩, J0⟩
 case round =>
  clear J0
  obtain ⟨k, BB, na, mA, nb, mB, FA, FB, hk, rfl, hna, hnb, hfb, J⟩ := hrel
  obtain ⟨wo, rfl⟩ := Qg wr
  have hna64 : na ≤ 64 := by omega
  have hnb64 : nb ≤ 64 := by omega
  replace hna := Lib.hid hna
  replace hnb := Lib.hid hnb
  have C8 := C.ext J.e
  have B1o := B1.ext J.e
  have B2o := B2.ext J.e
  have B3o := B3.ext J.e
  obtain ⟨k0, k1⟩ := B1o.c2
  have kl := B1o.lt
  obtain ⟨p0, p1, p2, p3, p4, p5, p6, p7, p8, p9, p10, p11⟩ := B2o.c12
  have pl := B2o.lt
  obtain ⟨d0, d1, d2, d3⟩ := B3o.c4
  have dl := B3o.lt
  by_cases hlt : k < n
  ·obtain ⟨b, off, rfl, hb, hc⟩ := (hD.ext (E.trans J.e)) (by omega)
   have c0 : wo.cell? ⟨b, off + k * 7, none⟩ = some (.int .i64 (g k).on.y) := by simpa [Qq] using hc k 0 _ hlt rfl
   have c1 : wo.cell? ⟨b, off + k * 7 + 1, none⟩ = some (.int .i64 (g k).on.m) := by simpa [Qq] using hc k 1 _ hlt rfl
   have c2 : wo.cell? ⟨b, off + k * 7 + 2, none⟩ = some (.bool (g k).on.s) := by simpa [Qq] using hc k 2 _ hlt rfl
   have c3 : wo.cell? ⟨b, off + k * 7 + 3, none⟩ = some (.int .i64 (g k).on.d) := by simpa [Qq] using hc k 3 _ hlt rfl
   clear hc
   obtain ⟨hif, hps, h64⟩ := hside.out k hlt
   have hon0 := hone.out k hlt
   obtain ⟨TD, cD, vsD, eD0, _⟩ := id hon0
   have eD : Kj (some ⟨b, off, none⟩) k (k + 1) s2 7 = .slice TD 1 cD := eD0
   rw [eD] at hon0
   have hon := Lib.hid hon0
   clear eD0 hon0
   replace eD := Lib.hid eD
   have hs1 : (k : Int) + 1 ≤ (s2 : Int) := by omega
   have hs2 : ((k : Int) + 1).toNat = k + 1 := by omega
   have hs3 : (k : Int) ≤ (k : Int) + 1 := by omega
   have NI := fun w h => Vx A A' ca cb c (g k).on d w h hv
   rw [hnd, decide_eq_true hps, Bool.true_and] at NI
   have NK := fun w h => Pm (.slice TD 1 cD) [g k] w h (fun i hi => by obtain rfl : i = 0 := (by simp at hi; omega); show (g k).l.length * 24 ≤ _; omega) (show 1 * 80 ≤ 140737488351232 by decide)
   go_upto_region 15 with (fail)
   by_cases ho : c.numV (g k).on ≤ nd
   ·have hkK := hif.1 ho
    rw [decide_eq_true ho] at NI
    clear hside hif
    refine Q8 wo Qm (by kernel_rfl) (by repeat (first | exact Qa.refl _ | (refine Qa.alloc ?_ _) | (refine Qa.trans ?_ (by assumption)))) ?_
    intro hne hrx hry
    try simp only []
    try simp only [List.append_eq, List.cons_append, List.nil_append]
    skip
    repeat (first
     | go_big_quiet_skip
     | (go_big_quiet_want; go_big_quiet_op; go_big_quiet_on)
     | (go_big_quiet_want; go_big_quiet_op; apply Exists.intro; refine ⟨fun u => ?_, ?_⟩
        ·first
          | (go_at_call 61; (with_reducible refine Calls.mono (NI _ (C8.ext u.e)) ?_); rintro e w' ⟨rfl, hb⟩; exact ⟨rfl, u.back hb⟩)
        go_big_quiet_on))
    clear hne hry hrx
    refine wpQuiet_nil ?_
    intro w5 h5
    obtain ⟨hcw5, hfw5, hzw5⟩ := Qa.rules h5
    try simp only [World.size_alloc] at hzw5
    obtain ⟨hcbw5, hfbw5, hzbw5⟩ := Qa.rules (show Qa wo w5 from (by repeat (first | exact Qa.refl _ | (refine Qa.alloc ?_ _) | (refine Qa.trans ?_ (by assumption)))))
    clear hcw5 hfw5
    obtain rfl : k = na := by have := hna.out; omega
    obtain rfl : nb = 0 := by have := hnb.out; omega
    obtain ⟨rfl, rfl⟩ := hfb (by omega)
    clear hna hnb hfb
    have J5 := J.ext h5
    clear J B1o B3o k0 k1 kl d0 d1 d2 d3 dl p0 p1 p2 p3 p4 p5 p6 p7 p8 p9 p10 p11 pl B2o C8 h5 NI c0 c1 c2 c3 hb
    obtain ⟨vsA, hO, hLO⟩ := J5.da
    go_upto_region 16 with (fail)
    refine Q3 12 [9, 10, 11] (fun x => Qa w5 x) Qm rfl ?_
    intro vz hvz
    have HC := hvz
    refine Qp (g := 4) [0, 1, 2, 3, 4, 5, 6, 7] [_, _, _, _, _, _, _, _] ⟨rfl, rfl, rfl, rfl, rfl, rfl, rfl, rfl, trivial⟩ (by kernel_rfl) (by kernel_rfl) HC ?_
    simp only [Qc, Qd, Qe]
    apply Exists.intro
    refine ⟨fun u hu => ?_, ?_⟩
    ·obtain ⟨p0, p1, p2, p3, p4, p5, p6, p7, p8, p9, p10, p11⟩ := Qb.c12 (Qb.ext B2 (Qa.trans J5.e hu))
     have pl := Qb.lt (Qb.ext B2 (Qa.trans J5.e hu))
     obtain ⟨a0, a1, a2, a3, a4, a5, a6, a7, a8, a9, a10, a11⟩ := Qb.c12 (Qb.ext J5.a hu)
     have al := Qb.lt (Qb.ext J5.a hu)
     repeat (first | go_big_quiet_skip | (go_big_quiet_want; go_big_quiet_op; go_big_quiet_on))
     refine wpQuiet_nil ?_
     rfl
    refine Qj 8 rfl (by kernel_rfl) ?_
    simp only [Qc, Qd, Qe]
    rw [eD.out]
    go_wp2_with (go_at_call 27; (with_reducible refine Calls.mono (NK _ (hon.out.ext (E.trans (J5.e.trans HC)))) ?_); rintro e w6 ⟨vn, rfl, hb6, DN⟩; obtain ⟨vsn, hN, hNL⟩ := DN; obtain ⟨q, cq, rfl, hqb, hqs⟩ := Ku hN (show 0 < 1 by decide))
    have hl0 := hNL 0 (show 0 < 1 by decide)
    obtain ⟨F0, m0, e0⟩ := Z5 hl0
    replace e0 : vsn 0 = .slice F0 (g k).l.length m0 := e0
    rw [e0] at hl0
    have hs5 := HC.size
    replace HC := HC.trans hb6
    have J6 := J5.ext HC
    have hO6 := Q5 hO HC
    have hLO6 := fun i hi => Q5 (hLO i hi) HC
    have hnews := hN.cells (g := q) rfl
    rw [show Q0 (fun i => Qq ([g k].getD i Qx) (vsn i)) [g k].length = Qq (g k) (.slice F0 (g k).l.length m0) by simp [Q0, e0]] at hnews
    have hl6 : Zn w6 w4.heap.size (.slice F0 (g k).l.length m0) (g k).l := Yc hl0 (by have := J5.hB; have := J5.h8; omega)
    clear hN hNL hl0 e0 hb6 hO hLO
    refine Qi HC ?_
    refine Qn 9 rfl (by kernel_rfl) ?_
    simp only [Qc, Qd, Qe]
    go_wp2_with (at_builtin; refine wpList_append_own_at _ rfl _ _ 29 rfl w4.heap.size 70 i0 (.agg #[.int .i64 0, .int .i64 0, .bool false, .int .i64 0, .bool false, .string ⟨#[]⟩, .slice none 0 0]) 7 80 Tryz.underlying29 hi hz0 hz1 hz2 rfl (by decide) _ _ _ rfl hO6 ⟨q, 0, none⟩ 1 cq (Qq (g k) (.slice F0 (g k).l.length m0)) rfl rfl hnews (L9 _ _ _ _) (by unfold maxLen; omega) (by omega) (by have := J6.hB; have := J6.h8; omega) ?_; intro o' w7 hown hgrow _ _; obtain ⟨F7, m7, rfl⟩ := Z5 hown)
    have J7 := J6.pushA hO6 hLO6 hl6 hown hgrow
    clear hown hgrow hO6 hLO6 hl6 hnews J6
    refine Qo ?_
    refine Qn 10 rfl (by kernel_rfl) ?_
    simp only [Qc, Qd, Qe]
    go_wp2
    refine Qo ?_
    refine Qn 11 rfl (by kernel_rfl) ?_
    simp only [Qc, Qd, Qe]
    have fA := Qb.frozen J7.a 10
    obtain ⟨a0, a1, a2, a3, a4, a5, a6, a7, a8, a9, a10, a11⟩ := Qb.c12 J7.a
    have al := Qb.lt J7.a
    go_wp2
    have J9 : DivJ w4 _ bA bB _ #[.string p.h, .int .i64 p.a.y, .int .i64 p.a.m, .bool p.a.s, .int .i64 p.a.d, .int .i64 d.y, .int .i64 d.m, .bool d.s, .int .i64 d.d, .slice F1 p.o.length m1, .slice F7 (k + 1) m7, .slice none 0 0] #[.string p.h, .int .i64 ad.y, .int .i64 ad.m, .bool ad.s, .int .i64 ad.d, .int .i64 p.b.y, .int .i64 p.b.m, .bool p.b.s, .int .i64 p.b.d, .slice none 0 0, .slice none 0 0, .slice F5 p.c.length m5] (.slice F1 p.o.length m1) (.slice F5 p.c.length m5) p.o p.c (.slice F7 (k + 1) m7) (.slice none 0 0) g (k + 1) 0 K := J7.setA 10 (.slice F7 (k + 1) m7)
    generalize World.setCell _ _ _ = w9 at *
    clear J7 fA a0 a1 a2 a3 a4 a5 a6 a7 a8 a9 a10 a11 al
    refine Qo ?_
    refine Qs (by kernel_rfl) ?_
    skip
    go_wp2
    exact ⟨⟨k + 1, _, k + 1, m7, 0, 0, F7, none, by omega, by go_num, by omega, by omega, fun _ => ⟨rfl, rfl⟩, J9⟩, by simp [intOf]; omega⟩
   ·have hkK : K ≤ k := by
     by_cases e : k < K
     ·exact absurd (hif.2 e) ho
     ·omega
    rw [decide_eq_false ho] at NI
    clear hside hif
    refine Q8 wo Qm (by kernel_rfl) (by repeat (first | exact Qa.refl _ | (refine Qa.alloc ?_ _) | (refine Qa.trans ?_ (by assumption)))) ?_
    intro hne hrx hry
    try simp only []
    try simp only [List.append_eq, List.cons_append, List.nil_append]
    skip
    repeat (first
     | go_big_quiet_skip
     | (go_big_quiet_want; go_big_quiet_op; go_big_quiet_on)
     | (go_big_quiet_want; go_big_quiet_op; apply Exists.intro; refine ⟨fun u => ?_, ?_⟩
        ·first
          | (go_at_call 61; (with_reducible refine Calls.mono (NI _ (C8.ext u.e)) ?_); rintro e w' ⟨rfl, hb⟩; exact ⟨rfl, u.back hb⟩)
        go_big_quiet_on))
    clear hne hry hrx
    refine wpQuiet_nil ?_
    intro w5 h5
    obtain ⟨hcw5, hfw5, hzw5⟩ := Qa.rules h5
    try simp only [World.size_alloc] at hzw5
    obtain ⟨hcbw5, hfbw5, hzbw5⟩ := Qa.rules (show Qa wo w5 from (by repeat (first | exact Qa.refl _ | (refine Qa.alloc ?_ _) | (refine Qa.trans ?_ (by assumption)))))
    clear hcw5 hfw5
    have J5 := J.ext h5
    clear J B1o B3o k0 k1 kl d0 d1 d2 d3 dl p0 p1 p2 p3 p4 p5 p6 p7 p8 p9 p10 p11 pl B2o C8 h5 NI c0 c1 c2 c3 hb
    obtain ⟨vsA, hO, hLO⟩ := J5.db
    go_upto_region 17 with (fail)
    refine Q3 12 [9, 10, 11] (fun x => Qa w5 x) Qm rfl ?_
    intro vz hvz
    have HC := hvz
    refine Qp (g := 4) [0, 1, 2, 3, 4, 5, 6, 7] [_, _, _, _, _, _, _, _] ⟨rfl, rfl, rfl, rfl, rfl, rfl, rfl, rfl, trivial⟩ (by kernel_rfl) (by kernel_rfl) HC ?_
    simp only [Qc, Qd, Qe]
    apply Exists.intro
    refine ⟨fun u hu => ?_, ?_⟩
    ·obtain ⟨p0, p1, p2, p3, p4, p5, p6, p7, p8, p9, p10, p11⟩ := Qb.c12 (Qb.ext B2 (Qa.trans J5.e hu))
     have pl := Qb.lt (Qb.ext B2 (Qa.trans J5.e hu))
     obtain ⟨a0, a1, a2, a3, a4, a5, a6, a7, a8, a9, a10, a11⟩ := Qb.c12 (Qb.ext J5.b hu)
     have al := Qb.lt (Qb.ext J5.b hu)
     repeat (first | go_big_quiet_skip | (go_big_quiet_want; go_big_quiet_op; go_big_quiet_on))
     refine wpQuiet_nil ?_
     rfl
    refine Qj 8 rfl (by kernel_rfl) ?_
    simp only [Qc, Qd, Qe]
    rw [eD.out]
    go_wp2_with (go_at_call 27; (with_reducible refine Calls.mono (NK _ (hon.out.ext (E.trans (J5.e.trans HC)))) ?_); rintro e w6 ⟨vn, rfl, hb6, DN⟩; obtain ⟨vsn, hN, hNL⟩ := DN; obtain ⟨q, cq, rfl, hqb, hqs⟩ := Ku hN (show 0 < 1 by decide))
    have hl0 := hNL 0 (show 0 < 1 by decide)
    obtain ⟨F0, m0, e0⟩ := Z5 hl0
    replace e0 : vsn 0 = .slice F0 (g k).l.length m0 := e0
    rw [e0] at hl0
    have hs5 := HC.size
    replace HC := HC.trans hb6
    have J6 := J5.ext HC
    have hO6 := Q5 hO HC
    have hLO6 := fun i hi => Q5 (hLO i hi) HC
    have hnews := hN.cells (g := q) rfl
    rw [show Q0 (fun i => Qq ([g k].getD i Qx) (vsn i)) [g k].length = Qq (g k) (.slice F0 (g k).l.length m0) by simp [Q0, e0]] at hnews
    have hl6 : Zn w6 BB (.slice F0 (g k).l.length m0) (g k).l := Yc hl0 (by have := J5.hB; have := J5.h8; omega)
    clear hN hNL hl0 e0 hb6 hO hLO
    refine Qi HC ?_
    refine Qn 9 rfl (by kernel_rfl) ?_
    simp only [Qc, Qd, Qe]
    go_wp2_with (at_builtin; refine wpList_append_own_at _ rfl _ _ 29 rfl BB 70 i0 (.agg #[.int .i64 0, .int .i64 0, .bool false, .int .i64 0, .bool false, .string ⟨#[]⟩, .slice none 0 0]) 7 80 Tryz.underlying29 hi hz0 hz1 hz2 rfl (by decide) _ _ _ rfl hO6 ⟨q, 0, none⟩ 1 cq (Qq (g k) (.slice F0 (g k).l.length m0)) rfl rfl hnews (L9 _ _ _ _) (by unfold maxLen; omega) (by omega) (by have := J6.hB; have := J6.h8; omega) ?_; intro o' w7 hown hgrow _ _; obtain ⟨F7, m7, rfl⟩ := Z5 hown)
    have ek : K + nb = k := by have := hnb.out; omega
    have J7 := J6.pushB hO6 hLO6 (by rw [ek]; exact hl6) (by rw [ek]; exact hown) hgrow
    clear hown hgrow hO6 hLO6 hl6 hnews J6
    refine Qo ?_
    refine Qn 10 rfl (by kernel_rfl) ?_
    simp only [Qc, Qd, Qe]
    go_wp2
    refine Qo ?_
    refine Qn 11 rfl (by kernel_rfl) ?_
    simp only [Qc, Qd, Qe]
    have fA := Qb.frozen J7.b 10
    obtain ⟨a0, a1, a2, a3, a4, a5, a6, a7, a8, a9, a10, a11⟩ := Qb.c12 J7.b
    have al := Qb.lt J7.b
    go_wp2
    have J9 : DivJ w4 _ bA bB _ #[.string p.h, .int .i64 p.a.y, .int .i64 p.a.m, .bool p.a.s, .int .i64 p.a.d, .int .i64 d.y, .int .i64 d.m, .bool d.s, .int .i64 d.d, .slice F1 p.o.length m1, .slice FA na mA, .slice none 0 0] #[.string p.h, .int .i64 ad.y, .int .i64 ad.m, .bool ad.s, .int .i64 ad.d, .int .i64 p.b.y, .int .i64 p.b.m, .bool p.b.s, .int .i64 p.b.d, .slice none 0 0, .slice F7 (nb + 1) m7, .slice F5 p.c.length m5] (.slice F1 p.o.length m1) (.slice F5 p.c.length m5) p.o p.c (.slice FA na mA) (.slice F7 (nb + 1) m7) g na (nb + 1) K := J7.setB 10 (.slice F7 (nb + 1) m7)
    generalize World.setCell _ _ _ = w9 at *
    clear J7 fA a0 a1 a2 a3 a4 a5 a6 a7 a8 a9 a10 a11 al
    refine Qo ?_
    refine Qs (by kernel_rfl) ?_
    skip
    go_wp2
    exact ⟨⟨k + 1, _, na, mA, nb + 1, m7, FA, F7, by omega, by go_num, by have := hna.out; omega, by have := hnb.out; omega, fun h => absurd h (by omega), J9⟩, by simp [intOf]; omega⟩
  ·obtain rfl : k = n := by omega
   go_upto_region 18 with (fail)
   clear hside hone hD hi hz0 hz1 hz2 k0 k1 kl d0 d1 d2 d3 dl p0 p1 p2 p3 p4 p5 p6 p7 p8 p9 p10 p11 pl B1o B2o B3o C8
   obtain rfl : na = DTK.length := by have := hna.out; rw [hlT.out]; omega
   obtain rfl : nb = DRK.length := by have := hnb.out; rw [hlR.out]; omega
   have DA : Zc wo w4.heap.size (.slice FA DTK.length mA) DTK.length (fun i => DTK.getD i Qx) := J.da.congr (fun i hi => htake.out i (by rw [hlT.out] at hi; exact hi))
   have DB : Zc wo BB (.slice FB DRK.length mB) DRK.length (fun i => DRK.getD i Qx) := J.db.congr (fun i hi => hdrop.out i (by rw [hlR.out] at hi; exact hi))
   have hlT64 : DTK.length ≤ 64 := by rw [hlT.out]; omega
   clear htake hdrop hlT hlR hna hnb hfb
   have NB := fun w h => Qed ⟨p.h, p.a, d, p.o, DTK, []⟩ (.slice F1 p.o.length m1) (.slice FA DTK.length mA) (.slice none 0 0) w h (show p.o.length * 24 ≤ 140737488351232 by omega)
   dsimp only at NB
   generalize Zm p.o DTK = SV at *
   obtain ⟨S, se⟩ := SV
   simp only at NB hsl hsumK hdiv
   obtain ⟨a0, a1, a2, a3, a4, a5, a6, a7, a8, a9, a10, a11⟩ := Qb.c12 J.a
   have al := Qb.lt J.a
   have PA : Jj wo ⟨p.h, p.a, d, p.o, DTK, []⟩ (.slice F1 p.o.length m1) (.slice FA DTK.length mA) (.slice none 0 0) := ⟨Yf J.s1, Kf DA, Vi _⟩
   go_upto_region 19 with (go_at_call 30; (with_reducible refine Calls.mono (NB _ PA) ?_); rintro e w1' ⟨vr, rfl, hx, SR⟩; obtain ⟨FR, mR, rfl⟩ := Z5 SR)
   clear PA NB a0 a1 a2 a3 a4 a5 a6 a7 a8 a9 a10 a11 al
   replace J := J.ext hx
   replace DA := DA.ext hx
   replace DB := DB.ext hx
   clear hx
   replace B4 := B4.ext J.e
   replace B5 := B5.ext J.e
   replace B7 := B7.ext J.e
   replace E := E.trans J.e
   by_cases es : se = 0
   rotate_left
   ·have g0 : (se == 0) = false := beq_eq_false_iff_ne.2 es
    have g0n : (se != 0) = true := by rw [bne, g0]; rfl
    obtain rfl : RE = se := HR.out.1.trans hsumK.out
    obtain rfl : RX = (Jl, Jl) := by rw [HR.out.2]; unfold Qf.divP; rw [hsumK.out]; exact if_pos es
    clear HR hsumK hdiv
    go_upto_region 20 with (fail)
    refine Q3 6 [5] (fun x => Qa w1' x) Qm rfl ?_
    intro vz hvz
    have HC := hvz
    refine Qp (g := 3) [0, 1, 2] [_, _, _] ⟨rfl, rfl, rfl, trivial⟩ (by kernel_rfl) (by kernel_rfl) HC ?_
    simp only [Qc, Qd, Qe]
    apply Exists.intro
    refine ⟨fun u hu => ?_, ?_⟩
    ·obtain ⟨x0, x1, x2, x3, x4, x5, x6, x7, x8, x9, x10, x11⟩ := Qb.c12 (Qb.ext B4 hu)
     have xl := Qb.lt (Qb.ext B4 hu)
     obtain ⟨y0, y1, y2, y3, y4, y5, y6, y7, y8, y9, y10, y11⟩ := Qb.c12 (Qb.ext B5 hu)
     have yl := Qb.lt (Qb.ext B5 hu)
     obtain ⟨z0, z1, z2, z3, z4, z5, z6, z7, z8, z9, z10, z11⟩ := Qb.c12 (Qb.ext B7 hu)
     have zl := Qb.lt (Qb.ext B7 hu)
     repeat (first | go_big_quiet_skip | (go_big_quiet_want; go_big_quiet_op; go_big_quiet_on))
     refine wpQuiet_nil ?_
     rfl
    refine Qj 3 rfl (by kernel_rfl) ?_
    simp only [Qc, Qd, Qe]
    have Hs := Qb.ext B4 HC
    obtain ⟨z0, z1, z2, z3, z4, z5, z6, z7, z8, z9, z10, z11⟩ := Qb.f12 Hs
    obtain ⟨x0, x1, x2, x3, x4, x5, x6, x7, x8, x9, x10, x11⟩ := Qb.c12 Hs
    have xl := Qb.lt Hs
    go_wp2
    rw [Jz Hs]
    clear Hs z0 x0 z1 x1 z2 x2 z3 x3 z4 x4 z5 x5 z6 x6 z7 x7 z8 x8 z9 x9 z10 x10 z11 x11 xl
    refine Qi HC ?_
    refine Qj 4 rfl (by kernel_rfl) ?_
    simp only [Qc, Qd, Qe]
    have Hs := Qb.ext B5 HC
    obtain ⟨z0, z1, z2, z3, z4, z5, z6, z7, z8, z9, z10, z11⟩ := Qb.f12 Hs
    obtain ⟨x0, x1, x2, x3, x4, x5, x6, x7, x8, x9, x10, x11⟩ := Qb.c12 Hs
    have xl := Qb.lt Hs
    go_wp2
    rw [Jz Hs]
    clear Hs z0 x0 z1 x1 z2 x2 z3 x3 z4 x4 z5 x5 z6 x6 z7 x7 z8 x8 z9 x9 z10 x10 z11 x11 xl
    refine Qi HC ?_
    refine Qn 5 rfl (by kernel_rfl) ?_
    simp only [Qc, Qd, Qe]
    go_wp2
    refine Qo ?_
    refine Qs (by kernel_rfl) ?_
    skip
    skip
    obtain ⟨x0, x1, x2, x3, x4, x5, x6, x7, x8, x9, x10, x11⟩ := Qb.c12 (Qb.ext B4 HC)
    have xl := Qb.lt (Qb.ext B4 HC)
    obtain ⟨y0, y1, y2, y3, y4, y5, y6, y7, y8, y9, y10, y11⟩ := Qb.c12 (Qb.ext B5 HC)
    have yl := Qb.lt (Qb.ext B5 HC)
    go_wp2
    refine bodyPost_ret (v := .tuple #[.agg #[.string ⟨#[]⟩, .int .i64 0, .int .i64 0, .bool false, .int .i64 0, .int .i64 0, .int .i64 0, .bool false, .int .i64 0, .slice none 0 0, .slice none 0 0, .slice none 0 0], .agg #[.string ⟨#[]⟩, .int .i64 0, .int .i64 0, .bool false, .int .i64 0, .int .i64 0, .int .i64 0, .bool false, .int .i64 0, .slice none 0 0, .slice none 0 0, .slice none 0 0], .int .i64 RE]) (by simp [results, Tryz.results24, go_sem, x0, y0, x1, y1, x2, y2, x3, y3, x4, y4, x5, y5, x6, y6, x7, y7, x8, y8, x9, y9, x10, y10, x11, y11]) rfl ⟨_, _, _, _, _, _, rfl, E.trans HC, Yh _, Yh _⟩
   subst es
   obtain rfl : RE = 0 := HR.out.1.trans hsumK.out
   have hRX : Hid (RX = (⟨p.h, p.a, d, p.o, DTK, S⟩, ⟨p.h, ad, p.b, S, DRK, p.c⟩)) := by
    unfold Hid
    rw [HR.out.2]; unfold Qf.divP; rw [hsumK.out, if_neg (by simp), hdiv.out.1, hdiv.out.2]
   have hrx := hRX.out
   subst hrx
   clear HR hsumK hdiv hRX
   have fA := J.a.frozen 11
   obtain ⟨a0, a1, a2, a3, a4, a5, a6, a7, a8, a9, a10, a11⟩ := Qb.c12 J.a
   have al := Qb.lt J.a
   go_upto_region 22 with (fail)
   replace SR := Zg J.a (by decide) SR 11 (.slice FR S.length mR)
   replace DA := Zc.set J.a (by decide) (by decide) DA 11 (.slice FR S.length mR)
   replace DB := Zc.set J.a (by decide) (by decide) DB 11 (.slice FR S.length mR)
   replace B4 := Qh B4 (show b4 ≠ bA by have := J.la; omega) 11 (.slice FR S.length mR)
   replace B5 := Qh B5 (show b5 ≠ bA by have := J.la; omega) 11 (.slice FR S.length mR)
   replace E := E.setCell (p := ⟨bA, 11, none⟩) (show w.heap.size ≤ bA by have := J.la; omega) (.slice FR S.length mR)
   replace J : DivJ w4 _ bA bB BB #[.string p.h, .int .i64 p.a.y, .int .i64 p.a.m, .bool p.a.s, .int .i64 p.a.d, .int .i64 d.y, .int .i64 d.m, .bool d.s, .int .i64 d.d, .slice F1 p.o.length m1, .slice FA DTK.length mA, .slice FR S.length mR] #[.string p.h, .int .i64 ad.y, .int .i64 ad.m, .bool ad.s, .int .i64 ad.d, .int .i64 p.b.y, .int .i64 p.b.m, .bool p.b.s, .int .i64 p.b.d, .slice none 0 0, .slice FB DRK.length mB, .slice F5 p.c.length m5] (.slice F1 p.o.length m1) (.slice F5 p.c.length m5) p.o p.c (.slice FA DTK.length mA) (.slice FB DRK.length mB) g DTK.length DRK.length K := J.setA 11 (.slice FR S.length mR)
   generalize w1'.setCell _ _ = wa at *
   clear fA a0 a1 a2 a3 a4 a5 a6 a7 a8 a9 a10 a11 al
   have LA := Yf SR
   have NCR := fun w h => Vo (.slice FR S.length mR) S w h (by omega)
   obtain ⟨a0, a1, a2, a3, a4, a5, a6, a7, a8, a9, a10, a11⟩ := Qb.c12 J.b
   have al := Qb.lt J.b
   go_upto_region 23 with (go_at_call 20; (with_reducible refine Calls.mono (NCR _ LA) ?_); rintro e wb ⟨v3, rfl, hx, S3⟩; obtain ⟨F3, m3, rfl⟩ := Z5 S3; clear a0 a1 a2 a3 a4 a5 a6 a7 a8 a9 a10 a11 al; have J2 := DivJ.ext J hx; have fB := Qb.frozen J2.b 9; obtain ⟨a0, a1, a2, a3, a4, a5, a6, a7, a8, a9, a10, a11⟩ := Qb.c12 J2.b; have al := Qb.lt J2.b)
   replace DA := DA.ext hx
   replace DB := DB.ext hx
   replace SR := Q5 SR hx
   replace B4 := B4.ext hx
   replace B5 := B5.ext hx
   replace E := E.trans hx
   clear hx J NCR LA
   replace SR := Zg J2.b (by decide) SR 9 (.slice F3 S.length m3)
   replace S3 := Zg J2.b (by decide) S3 9 (.slice F3 S.length m3)
   replace DA := Zc.set J2.b (by decide) (by decide) DA 9 (.slice F3 S.length m3)
   replace DB := Zc.set J2.b (by decide) (by decide) DB 9 (.slice F3 S.length m3)
   replace B4 := Qh B4 (show b4 ≠ bB by have := J2.lb; omega) 9 (.slice F3 S.length m3)
   replace B5 := Qh B5 (show b5 ≠ bB by have := J2.lb; omega) 9 (.slice F3 S.length m3)
   replace E := E.setCell (p := ⟨bB, 9, none⟩) (show w.heap.size ≤ bB by have := J2.lb; omega) (.slice F3 S.length m3)
   have J : DivJ w4 _ bA bB BB #[.string p.h, .int .i64 p.a.y, .int .i64 p.a.m, .bool p.a.s, .int .i64 p.a.d, .int .i64 d.y, .int .i64 d.m, .bool d.s, .int .i64 d.d, .slice F1 p.o.length m1, .slice FA DTK.length mA, .slice FR S.length mR] #[.string p.h, .int .i64 ad.y, .int .i64 ad.m, .bool ad.s, .int .i64 ad.d, .int .i64 p.b.y, .int .i64 p.b.m, .bool p.b.s, .int .i64 p.b.d, .slice F3 S.length m3, .slice FB DRK.length mB, .slice F5 p.c.length m5] (.slice F1 p.o.length m1) (.slice F5 p.c.length m5) p.o p.c (.slice FA DTK.length mA) (.slice FB DRK.length mB) g DTK.length DRK.length K := J2.setB 9 (.slice F3 S.length m3)
   generalize wb.setCell _ _ = wc at *
   clear J2 fB a0 a1 a2 a3 a4 a5 a6 a7 a8 a9 a10 a11 al
   have HA := J.a
   have HB := J.b
   have S1 := J.s1
   have S5 := J.s5
   have n4A : bA ≠ b4 := by have := J.la; omega
   have n4B : bB ≠ b4 := by have := J.lb; omega
   have n5A : bA ≠ b5 := by have := J.la; omega
   have n5B : bB ≠ b5 := by have := J.lb; omega
   clear J
   skip
   skip
   refine Q3 5 [4] (fun x => Qb x bA 31 #[.string p.h, .int .i64 p.a.y, .int .i64 p.a.m, .bool p.a.s, .int .i64 p.a.d, .int .i64 d.y, .int .i64 d.m, .bool d.s, .int .i64 d.d, .slice F1 p.o.length m1, .slice FA DTK.length mA, .slice FR S.length mR] ∧ Qb x bB 31 #[.string p.h, .int .i64 ad.y, .int .i64 ad.m, .bool ad.s, .int .i64 ad.d, .int .i64 p.b.y, .int .i64 p.b.m, .bool p.b.s, .int .i64 p.b.d, .slice F3 S.length m3, .slice FB DRK.length mB, .slice F5 p.c.length m5]) Qm rfl ?_
   intro vz hvz
   replace B4 := B4.ext hvz
   replace B5 := B5.ext hvz
   replace S1 := Q5 S1 hvz
   replace S3 := Q5 S3 hvz
   replace S5 := Q5 S5 hvz
   replace SR := Q5 SR hvz
   replace DA := DA.ext hvz
   replace DB := DB.ext hvz
   replace E := E.trans hvz
   have HC := And.intro (Qb.ext HA hvz) (Qb.ext HB hvz)
   clear hvz HA HB
   refine Qp (g := 3) [0, 1] [_, _] ⟨rfl, rfl, trivial⟩ (by kernel_rfl) (by kernel_rfl) HC ?_
   simp only [Qc, Qd, Qe]
   apply Exists.intro
   refine ⟨fun u hu => ?_, ?_⟩
   ·obtain ⟨x0, x1, x2, x3, x4, x5, x6, x7, x8, x9, x10, x11⟩ := Qb.c12 hu.1
    have xl := Qb.lt hu.1
    obtain ⟨y0, y1, y2, y3, y4, y5, y6, y7, y8, y9, y10, y11⟩ := Qb.c12 hu.2
    have yl := Qb.lt hu.2
    repeat (first | go_big_quiet_skip | (go_big_quiet_want; go_big_quiet_op; go_big_quiet_on))
    refine wpQuiet_nil ?_
    rfl
   refine Qj 2 rfl (by kernel_rfl) ?_
   simp only [Qc, Qd, Qe]
   obtain ⟨z0, z1, z2, z3, z4, z5, z6, z7, z8, z9, z10, z11⟩ := Qb.f12 B4
   obtain ⟨x0, x1, x2, x3, x4, x5, x6, x7, x8, x9, x10, x11⟩ := Qb.c12 B4
   have xl := Qb.lt B4
   go_wp2
   obtain ⟨wq, hq, HX, ko, kd, kh, ke⟩ := Uh B4 (by decide) (by decide) (.string p.h) (.int .i64 p.a.y) (.int .i64 p.a.m) (.bool p.a.s) (.int .i64 p.a.d) (.int .i64 d.y) (.int .i64 d.m) (.bool d.s) (.int .i64 d.d) (.slice F1 p.o.length m1) (.slice FA DTK.length mA) (.slice FR S.length mR)
   rw [← hq]
   replace S1 := ko S1
   replace S3 := ko S3
   replace S5 := ko S5
   replace SR := ko SR
   replace DA := kd DA
   replace DB := kd DB
   replace HC := And.intro (kh HC.1 n4A) (kh HC.2 n4B)
   replace B5 := kh B5 hn54
   replace E := ke E hbr4
   clear hq ko kd kh ke B4 z0 x0 z1 x1 z2 x2 z3 x3 z4 x4 z5 x5 z6 x6 z7 x7 z8 x8 z9 x9 z10 x10 z11 x11 xl
   have B4 := HX
   clear HX
   refine Qi HC ?_
   refine Qj 3 rfl (by kernel_rfl) ?_
   simp only [Qc, Qd, Qe]
   obtain ⟨z0, z1, z2, z3, z4, z5, z6, z7, z8, z9, z10, z11⟩ := Qb.f12 B5
   obtain ⟨x0, x1, x2, x3, x4, x5, x6, x7, x8, x9, x10, x11⟩ := Qb.c12 B5
   have xl := Qb.lt B5
   go_wp2
   obtain ⟨wq, hq, HX, ko, kd, kh, ke⟩ := Uh B5 (by decide) (by decide) (.string p.h) (.int .i64 ad.y) (.int .i64 ad.m) (.bool ad.s) (.int .i64 ad.d) (.int .i64 p.b.y) (.int .i64 p.b.m) (.bool p.b.s) (.int .i64 p.b.d) (.slice F3 S.length m3) (.slice FB DRK.length mB) (.slice F5 p.c.length m5)
   rw [← hq]
   replace S1 := ko S1
   replace S3 := ko S3
   replace S5 := ko S5
   replace SR := ko SR
   replace DA := kd DA
   replace DB := kd DB
   replace HC := And.intro (kh HC.1 n5A) (kh HC.2 n5B)
   replace B4 := kh B4 (Ne.symm hn54)
   replace E := ke E hbr
   clear hq ko kd kh ke B5 z0 x0 z1 x1 z2 x2 z3 x3 z4 x4 z5 x5 z6 x6 z7 x7 z8 x8 z9 x9 z10 x10 z11 x11 xl
   have B5 := HX
   clear HX
   refine Qi HC ?_
   refine Qn 4 rfl (by kernel_rfl) ?_
   simp only [Qc, Qd, Qe]
   go_wp2
   refine Qo ?_
   refine Qs (by kernel_rfl) ?_
   skip
   obtain ⟨x0, x1, x2, x3, x4, x5, x6, x7, x8, x9, x10, x11⟩ := Qb.c12 B4
   have xl := Qb.lt B4
   obtain ⟨y0, y1, y2, y3, y4, y5, y6, y7, y8, y9, y10, y11⟩ := Qb.c12 B5
   have yl := Qb.lt B5
   go_wp2
   refine bodyPost_ret (v := .tuple #[.agg #[.string p.h, .int .i64 p.a.y, .int .i64 p.a.m, .bool p.a.s, .int .i64 p.a.d, .int .i64 d.y, .int .i64 d.m, .bool d.s, .int .i64 d.d, .slice F1 p.o.length m1, .slice FA DTK.length mA, .slice FR S.length mR], .agg #[.string p.h, .int .i64 ad.y, .int .i64 ad.m, .bool ad.s, .int .i64 ad.d, .int .i64 p.b.y, .int .i64 p.b.m, .bool p.b.s, .int .i64 p.b.d, .slice F3 S.length m3, .slice FB DRK.length mB, .slice F5 p.c.length m5], .int .i64 0]) (by simp [results, Tryz.results24, go_sem, x0, y0, x1, y1, x2, y2, x3, y3, x4, y4, x5, y5, x6, y6, x7, y7, x8, y8, x9, y9, x10, y10, x11, y11]) rfl ⟨_, _, _, _, _, _, rfl, E, ⟨Yf S1, Kf DA, Yf SR⟩, ⟨Yf S3, Kf DB, Yf S5⟩⟩
end Go.Proofs.YtneiofnlmblglaaGreatDoor