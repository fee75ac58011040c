/- Join of the program. -/
import Derived.Test.YtneiofnlmblglaaDoorU10
set_option maxRecDepth 100000
set_option maxHeartbeats 4000000
namespace Go.Proofs.YtneiofnlmblglaaDoor
open Go Go.RowKit Go.Shelf
attribute [local go_sem] Zi
theorem persAt_two {w : World} {b : Nat} {t : TypeId} {p q : Pd} {vo vd vc uo ud uc : Value} (h : Qb w b t (Qq p vo vd vc ++ Qq q uo ud uc).toArray) (hP : Zv w p vo vd vc) (hQ : Zv w q uo ud uc) : Ym w (.slice (some ⟨b, 0, none⟩) 2 2) [p, q] :=
 ⟨some ⟨b, 0, none⟩, 2, fun i => if i = 0 then vo else uo, fun i => if i = 0 then vd else ud, fun i => if i = 0 then vc else uc, rfl,
  (Up (f := fun i => Qq (if i = 0 then p else q) (if i = 0 then vo else uo) (if i = 0 then vd else ud) (if i = 0 then vc else uc)) (n := 2) (fun _ => rfl) (by simpa [Qz, List.range_succ] using h)).congr (fun i hi => by
   have hi : i = 0 ∨ i = 1 := by have h2 : i < 2 := hi; omega
   rcases hi with rfl | rfl <;> rfl), Nat.le_refl _, by decide, fun h => (by cases h), fun i hi => by
   have hi : i = 0 ∨ i = 1 := by have h2 : i < 2 := hi; omega
   rcases hi with rfl | rfl
   ·exact hP
   ·exact hQ⟩
theorem joinO_any (A A' : Option Addr) (ca cb : Nat) (c : Qc) (x y : Pd) (xo xd xc yo yd yc : Value) (w : World) (hC : Q8 w A ca A' cb c) (hX : Zv w x xo xd xc) (hY : Zv w y yo yd yc) :
  Calls Tryd.prog 12 #[.agg #[.slice A c.nk ca, .slice A' c.ny cb], .agg #[.string x.h, .int .i64 x.a.y, .int .i64 x.a.m, .bool x.a.s, .int .i64 x.a.d, .int .i64 x.b.y, .int .i64 x.b.m, .bool x.b.s, .int .i64 x.b.d, xo, xd, xc], .agg #[.string y.h, .int .i64 y.a.y, .int .i64 y.a.m, .bool y.a.s, .int .i64 y.a.d, .int .i64 y.b.y, .int .i64 y.b.m, .bool y.b.s, .int .i64 y.b.d, yo, yd, yc]] w fun e w' => ∃ vo vd vc, e = .returned (.tuple #[.agg #[.string (c.joinP x y).h, .int .i64 (c.joinP x y).a.y, .int .i64 (c.joinP x y).a.m, .bool (c.joinP x y).a.s, .int .i64 (c.joinP x y).a.d, .int .i64 (c.joinP x y).b.y, .int .i64 (c.joinP x y).b.m, .bool (c.joinP x y).b.s, .int .i64 (c.joinP x y).b.d, vo, vd, vc], .int .i64 (c.joinE x y)]) ∧ Qa w w' ∧ Zj w' w.heap.size (c.joinP x y) vo vd vc := by
 obtain ⟨t1, s1, e1, _⟩ := id hX.o
 subst e1
 obtain ⟨t2, s2, _, e2, _⟩ := id hX.d
 subst e2
 obtain ⟨t3, s3, e3, _⟩ := id hX.c
 subst e3
 obtain ⟨t4, s4, e4, _⟩ := id hY.o
 subst e4
 obtain ⟨t5, s5, _, e5, _⟩ := id hY.d
 subst e5
 obtain ⟨t6, s6, e6, _⟩ := id hY.c
 subst e6
 have NV := fun w h1 v h2 => Fd A A' ca cb c v [x, y] w h1 h2
 obtain ⟨pe, hpe⟩ := Qg (c.validE [x, y])
 simp only [← hpe] at NV
 replace hpe := Lib.hid hpe
 obtain ⟨RE, hRE⟩ := Qg (c.joinE x y)
 obtain ⟨RX, hRX⟩ := Qg (c.joinP x y)
 rw [← hRE, ← hRX]
 have HR := Lib.hid (And.intro hRE hRX)
 clear hRE hRX
 go_enter Tryd.func12, Tryd.ntmps12
 go_upto_region 1 with (fail)
 obtain ⟨v, hv⟩ := Qg ((((w.alloc (.cells #[.slice A c.nk ca, .slice A' c.ny cb] 25)).alloc (.cells #[.string x.h, .int .i64 x.a.y, .int .i64 x.a.m, .bool x.a.s, .int .i64 x.a.d, .int .i64 x.b.y, .int .i64 x.b.m, .bool x.b.s, .int .i64 x.b.d, .slice t1 x.o.length s1, .slice t2 x.d.length s2, .slice t3 x.c.length s3] 31)).alloc (.cells #[.string y.h, .int .i64 y.a.y, .int .i64 y.a.m, .bool y.a.s, .int .i64 y.a.d, .int .i64 y.b.y, .int .i64 y.b.m, .bool y.b.s, .int .i64 y.b.d, .slice t4 y.o.length s4, .slice t5 y.d.length s5, .slice t6 y.c.length s6] 31)).alloc (.cells #[.string ⟨#[]⟩, .int .i64 0, .int .i64 0, .bool false, .int .i64 0, .int .i64 0, .int .i64 0, .bool false, .int .i64 0, .slice none 0 0, .slice none 0 0, .slice none 0 0] 31))
 rw [← hv]
 have E : Qa w v := by rw [hv]; exact ((((Qa.refl _).alloc _).alloc _).alloc _).alloc _
 have B1 : Qb v w.heap.size 25 #[.slice A c.nk ca, .slice A' c.ny cb] := by rw [hv]; exact (((Qb.new _ _ _).alloc _).alloc _).alloc _
 have B2 : Qb v (w.heap.size + 1) 31 #[.string x.h, .int .i64 x.a.y, .int .i64 x.a.m, .bool x.a.s, .int .i64 x.a.d, .int .i64 x.b.y, .int .i64 x.b.m, .bool x.b.s, .int .i64 x.b.d, .slice t1 x.o.length s1, .slice t2 x.d.length s2, .slice t3 x.c.length s3] := by rw [hv]; exact ((Qb.at _ _ _ _ (by simp)).alloc _).alloc _
 have B3 : Qb v (w.heap.size + 1 + 1) 31 #[.string y.h, .int .i64 y.a.y, .int .i64 y.a.m, .bool y.a.s, .int .i64 y.a.d, .int .i64 y.b.y, .int .i64 y.b.m, .bool y.b.s, .int .i64 y.b.d, .slice t4 y.o.length s4, .slice t5 y.d.length s5, .slice t6 y.c.length s6] := by rw [hv]; exact (Qb.at _ _ _ _ (by simp)).alloc _
 have B4 : Qb v (w.heap.size + 1 + 1 + 1) 31 #[.string ⟨#[]⟩, .int .i64 0, .int .i64 0, .bool false, .int .i64 0, .int .i64 0, .int .i64 0, .bool false, .int .i64 0, .slice none 0 0, .slice none 0 0, .slice none 0 0] := by rw [hv]; exact Qb.at _ _ _ _ (by simp)
 clear hv
 obtain ⟨b4, hb4⟩ := Qg (w.heap.size + 1 + 1 + 1)
 rw [← hb4] at B4 ⊢
 obtain ⟨b3, hb3⟩ := Qg (w.heap.size + 1 + 1)
 rw [← hb3] at B3 ⊢
 obtain ⟨b2, hb2⟩ := Qg (w.heap.size + 1)
 rw [← hb2] at B2 ⊢
 obtain ⟨b1, hb1⟩ := Qg (w.heap.size)
 rw [← hb1] at B1 ⊢
 have hbr : w.heap.size ≤ b4 := by omega
 have hbr1 : w.heap.size ≤ b1 := by omega
 have hbr2 : w.heap.size ≤ b2 := by omega
 have hbr3 : w.heap.size ≤ b3 := by omega
 have hn21 : b2 ≠ b1 := by omega
 have hn31 : b3 ≠ b1 := by omega
 have hn32 : b3 ≠ b2 := by omega
 have hn41 : b4 ≠ b1 := by omega
 have hn42 : b4 ≠ b2 := by omega
 have hn43 : b4 ≠ b3 := by omega
 clear hb1 hb2 hb3 hb4
 have C := hC.ext E
 clear hC
 obtain ⟨k0, k1⟩ := B1.c2
 have kl := B1.lt
 obtain ⟨p0, p1, p2, p3, p4, p5, p6, p7, p8, p9, p10, p11⟩ := B2.c12
 have pl := B2.lt
 obtain ⟨q0, q1, q2, q3, q4, q5, q6, q7, q8, q9, q10, q11⟩ := B3.c12
 have ql := B3.lt
 have AL := (Qa.refl v).alloc (.cells #[.string x.h, .int .i64 x.a.y, .int .i64 x.a.m, .bool x.a.s, .int .i64 x.a.d, .int .i64 x.b.y, .int .i64 x.b.m, .bool x.b.s, .int .i64 x.b.d, .slice t1 x.o.length s1, .slice t2 x.d.length s2, .slice t3 x.c.length s3, .string y.h, .int .i64 y.a.y, .int .i64 y.a.m, .bool y.a.s, .int .i64 y.a.d, .int .i64 y.b.y, .int .i64 y.b.m, .bool y.b.s, .int .i64 y.b.d, .slice t4 y.o.length s4, .slice t5 y.d.length s5, .slice t6 y.c.length s6] 31)
 have NV1 := NV _ (C.ext AL) (.slice (some ⟨v.heap.size, 0, none⟩) 2 2) (persAt_two (t := 31) (Qb.new v 31 #[.string x.h, .int .i64 x.a.y, .int .i64 x.a.m, .bool x.a.s, .int .i64 x.a.d, .int .i64 x.b.y, .int .i64 x.b.m, .bool x.b.s, .int .i64 x.b.d, .slice t1 x.o.length s1, .slice t2 x.d.length s2, .slice t3 x.c.length s3, .string y.h, .int .i64 y.a.y, .int .i64 y.a.m, .bool y.a.s, .int .i64 y.a.d, .int .i64 y.b.y, .int .i64 y.b.m, .bool y.b.s, .int .i64 y.b.d, .slice t4 y.o.length s4, .slice t5 y.d.length s5, .slice t6 y.c.length s6]) ((hX.ext E).ext AL) ((hY.ext E).ext AL))
 clear NV
 go_upto_region 2 with (go_at_call 16; (with_reducible refine Calls.mono (NV1) ?_); rintro e w1 ⟨rfl, h1⟩; replace h1 := AL.trans h1; clear NV1 AL; replace E := E.trans h1; replace C := C.ext h1; replace B4 := B4.ext h1; replace B1 := B1.ext h1; replace B2 := B2.ext h1; replace B3 := B3.ext h1; clear h1; clear k0 k1 kl p0 p1 p2 p3 p4 p5 p6 p7 p8 p9 p10 p11 pl q0 q1 q2 q3 q4 q5 q6 q7 q8 q9 q10 q11 ql; obtain ⟨k0, k1⟩ := B1.c2; have kl := B1.lt; obtain ⟨p0, p1, p2, p3, p4, p5, p6, p7, p8, p9, p10, p11⟩ := B2.c12; have pl := B2.lt; obtain ⟨q0, q1, q2, q3, q4, q5, q6, q7, q8, q9, q10, q11⟩ := B3.c12; have ql := B3.lt)
 obtain ⟨v6, hv⟩ := Qg (w1.alloc (.cells #[.slice A c.nk ca, .slice A' c.ny cb] 52))
 rw [← hv]
 have hx : Qa w1 v6 := by rw [hv]; exact (Qa.refl _).alloc _
 have B6 : Qb v6 w1.heap.size 52 #[.slice A c.nk ca, .slice A' c.ny cb] := by rw [hv]; exact Qb.new _ _ _
 clear hv
 generalize w1.heap.size = bb1 at *
 clear k0 k1 kl p0 p1 p2 p3 p4 p5 p6 p7 p8 p9 p10 p11 pl q0 q1 q2 q3 q4 q5 q6 q7 q8 q9 q10 q11 ql
 replace E := E.trans hx
 replace C := C.ext hx
 replace B4 := B4.ext hx
 replace B1 := B1.ext hx
 replace B2 := B2.ext hx
 replace B3 := B3.ext hx
 clear hx
 obtain ⟨k0, k1⟩ := B1.c2
 have kl := B1.lt
 obtain ⟨p0, p1, p2, p3, p4, p5, p6, p7, p8, p9, p10, p11⟩ := B2.c12
 have pl := B2.lt
 obtain ⟨q0, q1, q2, q3, q4, q5, q6, q7, q8, q9, q10, q11⟩ := B3.c12
 have ql := B3.lt
 obtain ⟨g0, g1⟩ := B6.c2
 have gl := B6.lt
 by_cases e0 : pe = 0
 rotate_left
 ·have g0 : (pe == 0) = false := beq_eq_false_iff_ne.2 e0
  have g0n : (pe != 0) = true := by rw [bne, g0]; rfl
  have hr := Qbr hpe.out.symm e0
  obtain rfl : RE = pe := HR.out.1.trans hr.1
  obtain rfl : RX = Zx := HR.out.2.trans hr.2
  clear HR hr hpe
  clear k0 k1 kl p0 p1 p2 p3 p4 p5 p6 p7 p8 p9 p10 p11 pl q0 q1 q2 q3 q4 q5 q6 q7 q8 q9 q10 q11 ql g0 g1 gl
  obtain ⟨z0, z1, z2, z3, z4, z5, z6, z7, z8, z9, z10, z11⟩ := Qb.f12 B4
  obtain ⟨x0, x1, x2, x3, x4, x5, x6, x7, x8, x9, x10, x11⟩ := Qb.c12 B4
  have xl := Qb.lt B4
  go_wp2
  rw [Yq B4]
  refine bodyPost_ret (v := .tuple #[.agg #[.string ⟨#[]⟩, .int .i64 0, .int .i64 0, .bool false, .int .i64 0, .int .i64 0, .int .i64 0, .bool false, .int .i64 0, .slice none 0 0, .slice none 0 0, .slice none 0 0], .int .i64 RE]) (by simp [results, Tryd.results12, go_sem, x0, x1, x2, x3, x4, x5, x6, x7, x8, x9, x10, x11]) rfl ⟨_, _, _, rfl, E, Y8 _ _⟩
 subst e0
 have h0 := hpe.out.symm
 obtain ⟨hv, hxo, hyo⟩ := Qey h0
 have hxok := K8 hxo
 have hyok := K8 hyo
 have NBH := fun w h1 h2 h3 => Ra A A' ca cb c x y (.slice t1 x.o.length s1) (.slice t2 x.d.length s2) (.slice t3 x.c.length s3) (.slice t4 y.o.length s4) (.slice t5 y.d.length s5) (.slice t6 y.c.length s6) w h1 hv h2 h3
 have NEQ := fun w h1 h2 => Qas (.slice t3 x.c.length s3) (.slice t4 y.o.length s4) x.c y.o w h1 h2
 replace h0 := Lib.hid h0
 have hxd := hxok.d
 have hyd := hyok.d
 clear hpe
 obtain ⟨bh, hbh⟩ := Qg (c.behV x y)
 obtain ⟨eq, heq⟩ := Qg (decide (x.c = y.o))
 simp only [← hbh] at NBH
 simp only [← heq] at NEQ
 replace hbh := Lib.hid hbh
 replace heq := Lib.hid heq
 cases bh
 ·have hr := St h0.out (by rw [← hbh.out, ← heq.out]; rfl)
  obtain rfl : RE = 84 := HR.out.1.trans hr.1
  obtain rfl : RX = Zx := HR.out.2.trans hr.2
  clear HR hr h0 hbh heq hxok hyok
  go_upto_region 5 with (first | (go_at_call 27; (with_reducible refine Calls.mono (NBH _ C (hX.ext E) (hY.ext E)) ?_); rintro e w2 ⟨rfl, hx⟩; replace E := E.trans hx; replace C := C.ext hx; replace B4 := B4.ext hx; replace B1 := B1.ext hx; replace B2 := B2.ext hx; replace B3 := B3.ext hx; replace B6 := B6.ext hx; clear hx; clear k0 k1 kl p0 p1 p2 p3 p4 p5 p6 p7 p8 p9 p10 p11 pl q0 q1 q2 q3 q4 q5 q6 q7 q8 q9 q10 q11 ql g0 g1 gl; obtain ⟨k0, k1⟩ := B1.c2; have kl := B1.lt; obtain ⟨p0, p1, p2, p3, p4, p5, p6, p7, p8, p9, p10, p11⟩ := B2.c12; have pl := B2.lt; obtain ⟨q0, q1, q2, q3, q4, q5, q6, q7, q8, q9, q10, q11⟩ := B3.c12; have ql := B3.lt; obtain ⟨g0, g1⟩ := B6.c2; have gl := B6.lt) | (go_at_call 28; (with_reducible refine Calls.mono (NEQ _ (hX.ext E).c (hY.ext E).o) ?_); rintro e w3 ⟨rfl, hx⟩; replace E := E.trans hx; replace C := C.ext hx; replace B4 := B4.ext hx; replace B1 := B1.ext hx; replace B2 := B2.ext hx; replace B3 := B3.ext hx; replace B6 := B6.ext hx; clear hx; clear k0 k1 kl p0 p1 p2 p3 p4 p5 p6 p7 p8 p9 p10 p11 pl q0 q1 q2 q3 q4 q5 q6 q7 q8 q9 q10 q11 ql g0 g1 gl; obtain ⟨k0, k1⟩ := B1.c2; have kl := B1.lt; obtain ⟨p0, p1, p2, p3, p4, p5, p6, p7, p8, p9, p10, p11⟩ := B2.c12; have pl := B2.lt; obtain ⟨q0, q1, q2, q3, q4, q5, q6, q7, q8, q9, q10, q11⟩ := B3.c12; have ql := B3.lt; obtain ⟨g0, g1⟩ := B6.c2; have gl := B6.lt))
  clear k0 k1 kl p0 p1 p2 p3 p4 p5 p6 p7 p8 p9 p10 p11 pl q0 q1 q2 q3 q4 q5 q6 q7 q8 q9 q10 q11 ql g0 g1 gl
  obtain ⟨z0, z1, z2, z3, z4, z5, z6, z7, z8, z9, z10, z11⟩ := Qb.f12 B4
  obtain ⟨x0, x1, x2, x3, x4, x5, x6, x7, x8, x9, x10, x11⟩ := Qb.c12 B4
  have xl := Qb.lt B4
  go_wp2
  rw [Yq B4]
  refine bodyPost_ret (v := .tuple #[.agg #[.string ⟨#[]⟩, .int .i64 0, .int .i64 0, .bool false, .int .i64 0, .int .i64 0, .int .i64 0, .bool false, .int .i64 0, .slice none 0 0, .slice none 0 0, .slice none 0 0], .int .i64 84]) (by simp [results, Tryd.results12, go_sem, x0, x1, x2, x3, x4, x5, x6, x7, x8, x9, x10, x11]) rfl ⟨_, _, _, rfl, E, Y8 _ _⟩
 cases eq
 ·have hr := St h0.out (by rw [← hbh.out, ← heq.out]; rfl)
  obtain rfl : RE = 84 := HR.out.1.trans hr.1
  obtain rfl : RX = Zx := HR.out.2.trans hr.2
  clear HR hr h0 hbh heq hxok hyok
  go_upto_region 5 with (first | (go_at_call 27; (with_reducible refine Calls.mono (NBH _ C (hX.ext E) (hY.ext E)) ?_); rintro e w2 ⟨rfl, hx⟩; replace E := E.trans hx; replace C := C.ext hx; replace B4 := B4.ext hx; replace B1 := B1.ext hx; replace B2 := B2.ext hx; replace B3 := B3.ext hx; replace B6 := B6.ext hx; clear hx; clear k0 k1 kl p0 p1 p2 p3 p4 p5 p6 p7 p8 p9 p10 p11 pl q0 q1 q2 q3 q4 q5 q6 q7 q8 q9 q10 q11 ql g0 g1 gl; obtain ⟨k0, k1⟩ := B1.c2; have kl := B1.lt; obtain ⟨p0, p1, p2, p3, p4, p5, p6, p7, p8, p9, p10, p11⟩ := B2.c12; have pl := B2.lt; obtain ⟨q0, q1, q2, q3, q4, q5, q6, q7, q8, q9, q10, q11⟩ := B3.c12; have ql := B3.lt; obtain ⟨g0, g1⟩ := B6.c2; have gl := B6.lt) | (go_at_call 28; (with_reducible refine Calls.mono (NEQ _ (hX.ext E).c (hY.ext E).o) ?_); rintro e w3 ⟨rfl, hx⟩; replace E := E.trans hx; replace C := C.ext hx; replace B4 := B4.ext hx; replace B1 := B1.ext hx; replace B2 := B2.ext hx; replace B3 := B3.ext hx; replace B6 := B6.ext hx; clear hx; clear k0 k1 kl p0 p1 p2 p3 p4 p5 p6 p7 p8 p9 p10 p11 pl q0 q1 q2 q3 q4 q5 q6 q7 q8 q9 q10 q11 ql g0 g1 gl; obtain ⟨k0, k1⟩ := B1.c2; have kl := B1.lt; obtain ⟨p0, p1, p2, p3, p4, p5, p6, p7, p8, p9, p10, p11⟩ := B2.c12; have pl := B2.lt; obtain ⟨q0, q1, q2, q3, q4, q5, q6, q7, q8, q9, q10, q11⟩ := B3.c12; have ql := B3.lt; obtain ⟨g0, g1⟩ := B6.c2; have gl := B6.lt))
  clear k0 k1 kl p0 p1 p2 p3 p4 p5 p6 p7 p8 p9 p10 p11 pl q0 q1 q2 q3 q4 q5 q6 q7 q8 q9 q10 q11 ql g0 g1 gl
  obtain ⟨z0, z1, z2, z3, z4, z5, z6, z7, z8, z9, z10, z11⟩ := Qb.f12 B4
  obtain ⟨x0, x1, x2, x3, x4, x5, x6, x7, x8, x9, x10, x11⟩ := Qb.c12 B4
  have xl := Qb.lt B4
  go_wp2
  rw [Yq B4]
  refine bodyPost_ret (v := .tuple #[.agg #[.string ⟨#[]⟩, .int .i64 0, .int .i64 0, .bool false, .int .i64 0, .int .i64 0, .int .i64 0, .bool false, .int .i64 0, .slice none 0 0, .slice none 0 0, .slice none 0 0], .int .i64 84]) (by simp [results, Tryd.results12, go_sem, x0, x1, x2, x3, x4, x5, x6, x7, x8, x9, x10, x11]) rfl ⟨_, _, _, rfl, E, Y8 _ _⟩
 go_upto_region 6 with (first | (go_at_call 27; (with_reducible refine Calls.mono (NBH _ C (hX.ext E) (hY.ext E)) ?_); rintro e w2 ⟨rfl, hx⟩; replace E := E.trans hx; replace C := C.ext hx; replace B4 := B4.ext hx; replace B1 := B1.ext hx; replace B2 := B2.ext hx; replace B3 := B3.ext hx; replace B6 := B6.ext hx; clear hx; clear k0 k1 kl p0 p1 p2 p3 p4 p5 p6 p7 p8 p9 p10 p11 pl q0 q1 q2 q3 q4 q5 q6 q7 q8 q9 q10 q11 ql g0 g1 gl; obtain ⟨k0, k1⟩ := B1.c2; have kl := B1.lt; obtain ⟨p0, p1, p2, p3, p4, p5, p6, p7, p8, p9, p10, p11⟩ := B2.c12; have pl := B2.lt; obtain ⟨q0, q1, q2, q3, q4, q5, q6, q7, q8, q9, q10, q11⟩ := B3.c12; have ql := B3.lt; obtain ⟨g0, g1⟩ := B6.c2; have gl := B6.lt) | (go_at_call 28; (with_reducible refine Calls.mono (NEQ _ (hX.ext E).c (hY.ext E).o) ?_); rintro e w3 ⟨rfl, hx⟩; replace E := E.trans hx; replace C := C.ext hx; replace B4 := B4.ext hx; replace B1 := B1.ext hx; replace B2 := B2.ext hx; replace B3 := B3.ext hx; replace B6 := B6.ext hx; clear hx; clear k0 k1 kl p0 p1 p2 p3 p4 p5 p6 p7 p8 p9 p10 p11 pl q0 q1 q2 q3 q4 q5 q6 q7 q8 q9 q10 q11 ql g0 g1 gl; obtain ⟨k0, k1⟩ := B1.c2; have kl := B1.lt; obtain ⟨p0, p1, p2, p3, p4, p5, p6, p7, p8, p9, p10, p11⟩ := B2.c12; have pl := B2.lt; obtain ⟨q0, q1, q2, q3, q4, q5, q6, q7, q8, q9, q10, q11⟩ := B3.c12; have ql := B3.lt; obtain ⟨g0, g1⟩ := B6.c2; have gl := B6.lt))
 have hb2 : (c.behV x y && decide (x.c = y.o)) = true := by rw [← hbh.out, ← heq.out]; rfl
 clear NBH NEQ hbh heq
 by_cases h64 : 64 < x.d.length + y.d.length
 ·have hr := Su h0.out hb2 h64
  obtain rfl : RE = 3 := HR.out.1.trans hr.1
  obtain rfl : RX = Zx := HR.out.2.trans hr.2
  clear HR hr h0 hb2 hxok hyok
  have hI : (64 : Int) < (x.d.length : Int) + (y.d.length : Int) := by omega
  go_upto_region 7 with (fail)
  clear k0 k1 kl p0 p1 p2 p3 p4 p5 p6 p7 p8 p9 p10 p11 pl q0 q1 q2 q3 q4 q5 q6 q7 q8 q9 q10 q11 ql g0 g1 gl
  obtain ⟨z0, z1, z2, z3, z4, z5, z6, z7, z8, z9, z10, z11⟩ := Qb.f12 B4
  obtain ⟨x0, x1, x2, x3, x4, x5, x6, x7, x8, x9, x10, x11⟩ := Qb.c12 B4
  have xl := Qb.lt B4
  go_wp2
  rw [Yq B4]
  refine bodyPost_ret (v := .tuple #[.agg #[.string ⟨#[]⟩, .int .i64 0, .int .i64 0, .bool false, .int .i64 0, .int .i64 0, .int .i64 0, .bool false, .int .i64 0, .slice none 0 0, .slice none 0 0, .slice none 0 0], .int .i64 3]) (by simp [results, Tryd.results12, go_sem, x0, x1, x2, x3, x4, x5, x6, x7, x8, x9, x10, x11]) rfl ⟨_, _, _, rfl, E, Y8 _ _⟩
 have hr := Sv h0.out hb2 h64
 obtain rfl : RE = 0 := HR.out.1.trans hr.1
 have hRX : Hid (RX = ⟨x.h, x.a, y.b, x.o, x.d ++ y.d, y.c⟩) := HR.out.2.trans hr.2
 have hrx := hRX.out
 subst hrx
 clear HR hr h0 hb2 hRX
 have hI : decide ((64 : Int) < (x.d.length : Int) + (y.d.length : Int)) = false := decide_eq_false (by omega)
 have hxo64 := hxok.o
 have hyc64 := hyok.k
 have hxyl : Hid (∀ i, i < (x.d ++ y.d).length → ((x.d ++ y.d).getD i Qv).l.length ≤ 1000000) := fun i hi => by
  rw [List.length_append] at hi
  by_cases e : i < x.d.length
  ·rw [show (x.d ++ y.d).getD i Qv = x.d.getD i Qv by simp [List.getD_eq_getElem?_getD, List.getElem?_append_left e]]
   exact Nat.le_trans (hxok.l i e) (by decide)
  ·rw [show (x.d ++ y.d).getD i Qv = y.d.getD (i - x.d.length) Qv by simp [List.getD_eq_getElem?_getD, List.getElem?_append_right (show x.d.length ≤ i by omega)]]
   exact Nat.le_trans (hyok.l _ (by omega)) (by decide)
 have hxyn : (x.d ++ y.d).length ≤ 1000000 := by rw [List.length_append]; omega
 clear hxok hyok
 go_upto_region 8 with (fail)
 obtain ⟨XY, hXY⟩ := Qg (x.d ++ y.d)
 rw [← hXY] at hxyl hxyn
 have AL2 := (Qa.refl w3).alloc (.cells #[.slice t2 x.d.length s2, .slice t5 y.d.length s5] 29)
 have NCN := Ij w3.heap.size t2 t5 s2 s5 x.d y.d _ (Qb.new w3 29 #[.slice t2 x.d.length s2, .slice t5 y.d.length s5]) ((hX.ext E).d.ext AL2) ((hY.ext E).d.ext AL2) hxd hyd
 rw [← hXY] at NCN
 replace hXY := Lib.hid hXY
 have NCP := fun v w h => Lr v XY w h hxyn hxyl.out
 clear hxyl hI
 go_upto_region 9 with (first | (go_at_call 29; (with_reducible refine Calls.mono NCN ?_); rintro e w4 ⟨vcn, rfl, hx, DC⟩; replace hx := AL2.trans hx; clear NCN AL2; replace E := E.trans hx; replace C := C.ext hx; replace B4 := B4.ext hx; replace B1 := B1.ext hx; replace B2 := B2.ext hx; replace B3 := B3.ext hx; replace B6 := B6.ext hx; clear hx; clear k0 k1 kl p0 p1 p2 p3 p4 p5 p6 p7 p8 p9 p10 p11 pl q0 q1 q2 q3 q4 q5 q6 q7 q8 q9 q10 q11 ql g0 g1 gl; obtain ⟨k0, k1⟩ := B1.c2; have kl := B1.lt; obtain ⟨p0, p1, p2, p3, p4, p5, p6, p7, p8, p9, p10, p11⟩ := B2.c12; have pl := B2.lt; obtain ⟨q0, q1, q2, q3, q4, q5, q6, q7, q8, q9, q10, q11⟩ := B3.c12; have ql := B3.lt; obtain ⟨g0, g1⟩ := B6.c2; have gl := B6.lt; obtain ⟨tc, sc, _, ec, _⟩ := id DC; subst ec) | (go_at_call 25; (with_reducible refine Calls.mono (NCP _ _ DC) ?_); rintro e w5 ⟨vcp, rfl, hx, D1⟩; replace D1 := Jh.le D1 E.size; obtain ⟨F2, m2, rfl⟩ := Xy D1; clear NCP DC; replace E := E.trans hx; replace C := C.ext hx; replace B4 := B4.ext hx; replace B1 := B1.ext hx; replace B2 := B2.ext hx; replace B3 := B3.ext hx; replace B6 := B6.ext hx; clear hx; clear k0 k1 kl p0 p1 p2 p3 p4 p5 p6 p7 p8 p9 p10 p11 pl q0 q1 q2 q3 q4 q5 q6 q7 q8 q9 q10 q11 ql g0 g1 gl; obtain ⟨k0, k1⟩ := B1.c2; have kl := B1.lt; obtain ⟨p0, p1, p2, p3, p4, p5, p6, p7, p8, p9, p10, p11⟩ := B2.c12; have pl := B2.lt; obtain ⟨q0, q1, q2, q3, q4, q5, q6, q7, q8, q9, q10, q11⟩ := B3.c12; have ql := B3.lt; obtain ⟨g0, g1⟩ := B6.c2; have gl := B6.lt))
 clear k0 k1 kl p0 p1 p2 p3 p4 p5 p6 p7 p8 p9 p10 p11 pl q0 q1 q2 q3 q4 q5 q6 q7 q8 q9 q10 q11 ql g0 g1 gl
 have NCO := fun w h => Wf (.slice t1 x.o.length s1) x.o w h (by omega)
 have NCC := fun w h => Wf (.slice t6 y.c.length s6) y.c w h (by omega)
 refine Q5 16 [14, 15] (fun x => Qa w5 x) Qr rfl ?_
 intro vz hvz
 have HC := hvz
 refine Qp (g := 5) [0, 1, 2, 3, 4, 5, 6, 7, 9, 10, 11] [_, _, _, _, _, _, _, _, _, _, _] ⟨rfl, rfl, rfl, rfl, rfl, rfl, rfl, rfl, rfl, rfl, rfl, trivial⟩ (by kernel_rfl) (by kernel_rfl) HC ?_
 simp only [Qd, Qe, Qf]
 apply Exists.intro
 refine ⟨fun u hu => ?_, ?_⟩
 ·obtain ⟨p0, p1, p2, p3, p4, p5, p6, p7, p8, p9, p10, p11⟩ := Qb.c12 (Qb.ext B2 hu)
  have pl := Qb.lt (Qb.ext B2 hu)
  obtain ⟨q0, q1, q2, q3, q4, q5, q6, q7, q8, q9, q10, q11⟩ := Qb.c12 (Qb.ext B3 hu)
  have ql := Qb.lt (Qb.ext B3 hu)
  repeat (first | go_big_quiet_skip | (go_big_quiet_want; go_big_quiet_op; go_big_quiet_on))
  refine wpQuiet_nil ?_
  rfl
 refine Qj 8 rfl (by kernel_rfl) ?_
 simp only [Qd, Qe, Qf]
 have hz := Nat.le_trans E.size HC.size
 go_wp2_with (go_at_call 24; (with_reducible refine Calls.mono (NCO _ (hX.ext (E.trans HC)).o) ?_); rintro e wc ⟨v1, rfl, hb, S1⟩; obtain ⟨F1, m1, rfl⟩ := Zo S1)
 replace S1 := Yi S1 hz
 replace HC := HC.trans hb
 clear hb hz
 refine Qi HC ?_
 refine Qj 12 rfl (by kernel_rfl) ?_
 simp only [Qd, Qe, Qf]
 have hz := Nat.le_trans E.size HC.size
 go_wp2_with (go_at_call 24; (with_reducible refine Calls.mono (NCC _ (hY.ext (E.trans HC)).c) ?_); rintro e wd ⟨v2, rfl, hb, S5⟩; obtain ⟨F5, m5, rfl⟩ := Zo S5)
 replace S5 := Yi S5 hz
 clear hz
 replace S1 := Zp S1 hb
 replace HC := HC.trans hb
 replace D1 := Jh.ext D1 HC
 clear hb
 refine Qi HC ?_
 refine Qp (g := 2) [13] [_] ⟨rfl, trivial⟩ (by kernel_rfl) (by kernel_rfl) HC ?_
 simp only [Qd, Qe, Qf]
 apply Exists.intro
 refine ⟨fun u hu => ?_, ?_⟩
 ·obtain ⟨p0, p1, p2, p3, p4, p5, p6, p7, p8, p9, p10, p11⟩ := Qb.c12 (Qb.ext B2 hu)
  have pl := Qb.lt (Qb.ext B2 hu)
  obtain ⟨q0, q1, q2, q3, q4, q5, q6, q7, q8, q9, q10, q11⟩ := Qb.c12 (Qb.ext B3 hu)
  have ql := Qb.lt (Qb.ext B3 hu)
  repeat (first | go_big_quiet_skip | (go_big_quiet_want; go_big_quiet_op; go_big_quiet_on))
  refine wpQuiet_nil ?_
  rfl
 refine Qn 14 rfl (by kernel_rfl) ?_
 simp only [Qd, Qe, Qf]
 have Hs := Qb.ext B4 HC
 obtain ⟨z0, z1, z2, z3, z4, z5, z6, z7, z8, z9, z10, z11⟩ := Qb.f12 Hs
 obtain ⟨x0, x1, x2, x3, x4, x5, x6, x7, x8, x9, x10, x11⟩ := Qb.c12 Hs
 have xl := Qb.lt Hs
 go_wp2
 obtain ⟨wq, hq, HX, ko, kd, kh, ke⟩ := Wj Hs (by decide) (by decide) (.string x.h) (.int .i64 x.a.y) (.int .i64 x.a.m) (.bool x.a.s) (.int .i64 x.a.d) (.int .i64 y.b.y) (.int .i64 y.b.m) (.bool y.b.s) (.int .i64 y.b.d) (.slice F1 x.o.length m1) (.slice F2 XY.length m2) (.slice F5 y.c.length m5)
 rw [← hq]
 have S1x := ko S1
 have S5x := ko S5
 have D1x := kd D1
 have EX := ke (E.trans HC) hbr
 clear hq ko kd kh ke Hs z0 x0 z1 x1 z2 x2 z3 x3 z4 x4 z5 x5 z6 x6 z7 x7 z8 x8 z9 x9 z10 x10 z11 x11 xl
 refine Qm ?_
 refine Qn 15 rfl (by kernel_rfl) ?_
 simp only [Qd, Qe, Qf]
 go_wp2
 refine Qm ?_
 refine Qt (by kernel_rfl) ?_
 skip
 obtain ⟨x0, x1, x2, x3, x4, x5, x6, x7, x8, x9, x10, x11⟩ := Qb.c12 HX
 have xl := Qb.lt HX
 have D1y : Jh wq w.heap.size (.slice F2 XY.length m2) (x.d ++ y.d).length (fun i => (x.d ++ y.d).getD i Qv) := by rw [← hXY.out]; exact D1x
 go_wp2
 refine bodyPost_ret (v := .tuple #[.agg #[.string x.h, .int .i64 x.a.y, .int .i64 x.a.m, .bool x.a.s, .int .i64 x.a.d, .int .i64 y.b.y, .int .i64 y.b.m, .bool y.b.s, .int .i64 y.b.d, .slice F1 x.o.length m1, .slice F2 XY.length m2, .slice F5 y.c.length m5], .int .i64 0]) (by simp [results, Tryd.results12, go_sem, x0, x1, x2, x3, x4, x5, x6, x7, x8, x9, x10, x11]) rfl ⟨_, _, _, rfl, EX, ⟨S1x, D1y, S5x⟩⟩
theorem join_any (A A' : Option Addr) (ca cb : Nat) (c : Qc) (x y : Pd) (xo xd xc yo yd yc : Value) (w : World) (hC : Q8 w A ca A' cb c) (hX : Zv w x xo xd xc) (hY : Zv w y yo yd yc) :
  Calls Tryd.prog 12 #[.agg #[.slice A c.nk ca, .slice A' c.ny cb], .agg #[.string x.h, .int .i64 x.a.y, .int .i64 x.a.m, .bool x.a.s, .int .i64 x.a.d, .int .i64 x.b.y, .int .i64 x.b.m, .bool x.b.s, .int .i64 x.b.d, xo, xd, xc], .agg #[.string y.h, .int .i64 y.a.y, .int .i64 y.a.m, .bool y.a.s, .int .i64 y.a.d, .int .i64 y.b.y, .int .i64 y.b.m, .bool y.b.s, .int .i64 y.b.d, yo, yd, yc]] w fun e w' => ∃ vo vd vc, e = .returned (.tuple #[.agg #[.string (c.joinP x y).h, .int .i64 (c.joinP x y).a.y, .int .i64 (c.joinP x y).a.m, .bool (c.joinP x y).a.s, .int .i64 (c.joinP x y).a.d, .int .i64 (c.joinP x y).b.y, .int .i64 (c.joinP x y).b.m, .bool (c.joinP x y).b.s, .int .i64 (c.joinP x y).b.d, vo, vd, vc], .int .i64 (c.joinE x y)]) ∧ Qa w w' ∧ Zv w' (c.joinP x y) vo vd vc :=
 (joinO_any A A' ca cb c x y xo xd xc yo yd yc w hC hX hY).mono fun _ _ ⟨vo, vd, vc, h1, h2, h3⟩ => ⟨vo, vd, vc, h1, h2, V5 h3⟩
end Go.Proofs.YtneiofnlmblglaaDoor