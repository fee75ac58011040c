/- Divide of the program. -/
import Derived.Test.YtneiofnlmblglaaDoorU10
set_option maxRecDepth 100000
set_option maxHeartbeats 4000000
namespace Go.Proofs.YtneiofnlmblglaaDoor
open Go Go.RowKit Go.Shelf
attribute [local go_sem] Zi
attribute [local go_sem high] Qed
theorem divideO_any (A A' : Option Addr) (ca cb : Nat) (c : Qc) (p : Pd) (vo vd vc : Value) (d : Dt) (w : World) (hC : Q8 w A ca A' cb c) (hP : Zv w p vo vd vc) :
  Calls Tryd.prog 9 #[.agg #[.slice A c.nk ca, .slice A' c.ny cb], .agg #[.string p.h, .int .i64 p.a.y, .int .i64 p.a.m, .bool p.a.s, .int .i64 p.a.d, .int .i64 p.b.y, .int .i64 p.b.m, .bool p.b.s, .int .i64 p.b.d, vo, vd, vc], .agg #[.int .i64 d.y, .int .i64 d.m, .bool d.s, .int .i64 d.d]] w fun e w' => ∃ vo1 vd1 vc1 vo2 vd2 vc2, e = .returned (.tuple #[.agg #[.string (c.divP p d).1.h, .int .i64 (c.divP p d).1.a.y, .int .i64 (c.divP p d).1.a.m, .bool (c.divP p d).1.a.s, .int .i64 (c.divP p d).1.a.d, .int .i64 (c.divP p d).1.b.y, .int .i64 (c.divP p d).1.b.m, .bool (c.divP p d).1.b.s, .int .i64 (c.divP p d).1.b.d, vo1, vd1, vc1], .agg #[.string (c.divP p d).2.h, .int .i64 (c.divP p d).2.a.y, .int .i64 (c.divP p d).2.a.m, .bool (c.divP p d).2.a.s, .int .i64 (c.divP p d).2.a.d, .int .i64 (c.divP p d).2.b.y, .int .i64 (c.divP p d).2.b.m, .bool (c.divP p d).2.b.s, .int .i64 (c.divP p d).2.b.d, vo2, vd2, vc2], .int .i64 (c.divE p d)]) ∧ Qa w w' ∧ Zj w' w.heap.size (c.divP p d).1 vo1 vd1 vc1 ∧ Zj w' w.heap.size (c.divP p d).2 vo2 vd2 vc2 := by
 obtain ⟨t1, s1, e1, _⟩ := id hP.o
 subst e1
 obtain ⟨t2, s2, _, e2, _⟩ := id hP.d
 subst e2
 obtain ⟨t3, s3, e3, _⟩ := id hP.c
 subst e3
 obtain ⟨n, hnl⟩ := Qg (p.d.length)
 rw [← hnl] at hP ⊢
 replace hnl := Lib.hid hnl
 have NV := fun w h1 v h2 => Fd A A' ca cb c v [p] w h1 h2
 simp only [Cp] at NV
 have ND := fun d w h => Xc A A' ca cb c d w h
 obtain ⟨pe, hpe⟩ := Qg (c.perE p)
 simp only [← hpe] at NV
 replace hpe := Lib.hid hpe
 obtain ⟨RE, hRE⟩ := Qg (c.divE p d)
 obtain ⟨RX, hRX⟩ := Qg (c.divP p d)
 rw [← hRE, ← hRX]
 have HR := Lib.hid (And.intro hRE hRX)
 clear hRE hRX
 go_enter Tryd.func9, Tryd.ntmps9
 go_upto_region 1 with (fail)
 obtain ⟨v, hv⟩ := Qg (((((w.alloc (.cells #[.slice A c.nk ca, .slice A' c.ny cb] 25)).alloc (.cells #[.string p.h, .int .i64 p.a.y, .int .i64 p.a.m, .bool p.a.s, .int .i64 p.a.d, .int .i64 p.b.y, .int .i64 p.b.m, .bool p.b.s, .int .i64 p.b.d, .slice t1 p.o.length s1, .slice t2 n s2, .slice t3 p.c.length s3] 31)).alloc (.cells #[.int .i64 d.y, .int .i64 d.m, .bool d.s, .int .i64 d.d] 27)).alloc (.cells #[.string ⟨#[]⟩, .int .i64 0, .int .i64 0, .bool false, .int .i64 0, .int .i64 0, .int .i64 0, .bool false, .int .i64 0, .slice none 0 0, .slice none 0 0, .slice none 0 0] 31)).alloc (.cells #[.string ⟨#[]⟩, .int .i64 0, .int .i64 0, .bool false, .int .i64 0, .int .i64 0, .int .i64 0, .bool false, .int .i64 0, .slice none 0 0, .slice none 0 0, .slice none 0 0] 31))
 rw [← hv]
 have E : Qa w v := by rw [hv]; exact (((((Qa.refl _).alloc _).alloc _).alloc _).alloc _).alloc _
 have B1 : Qb v w.heap.size 25 #[.slice A c.nk ca, .slice A' c.ny cb] := by rw [hv]; exact ((((Qb.new _ _ _).alloc _).alloc _).alloc _).alloc _
 have B2 : Qb v (w.heap.size + 1) 31 #[.string p.h, .int .i64 p.a.y, .int .i64 p.a.m, .bool p.a.s, .int .i64 p.a.d, .int .i64 p.b.y, .int .i64 p.b.m, .bool p.b.s, .int .i64 p.b.d, .slice t1 p.o.length s1, .slice t2 n s2, .slice t3 p.c.length s3] := by rw [hv]; exact (((Qb.at _ _ _ _ (by simp)).alloc _).alloc _).alloc _
 have B3 : Qb v (w.heap.size + 1 + 1) 27 #[.int .i64 d.y, .int .i64 d.m, .bool d.s, .int .i64 d.d] := by rw [hv]; exact ((Qb.at _ _ _ _ (by simp)).alloc _).alloc _
 have B4 : Qb v (w.heap.size + 1 + 1 + 1) 31 #[.string ⟨#[]⟩, .int .i64 0, .int .i64 0, .bool false, .int .i64 0, .int .i64 0, .int .i64 0, .bool false, .int .i64 0, .slice none 0 0, .slice none 0 0, .slice none 0 0] := by rw [hv]; exact (Qb.at _ _ _ _ (by simp)).alloc _
 have B5 : Qb v (w.heap.size + 1 + 1 + 1 + 1) 31 #[.string ⟨#[]⟩, .int .i64 0, .int .i64 0, .bool false, .int .i64 0, .int .i64 0, .int .i64 0, .bool false, .int .i64 0, .slice none 0 0, .slice none 0 0, .slice none 0 0] := by rw [hv]; exact Qb.at _ _ _ _ (by simp)
 clear hv
 obtain ⟨b5, hb5⟩ := Qg (w.heap.size + 1 + 1 + 1 + 1)
 rw [← hb5] at B5 ⊢
 obtain ⟨b4, hb4⟩ := Qg (w.heap.size + 1 + 1 + 1)
 rw [← hb4] at B4 ⊢
 obtain ⟨b3, hb3⟩ := Qg (w.heap.size + 1 + 1)
 rw [← hb3] at B3 ⊢
 obtain ⟨b2, hb2⟩ := Qg (w.heap.size + 1)
 rw [← hb2] at B2 ⊢
 obtain ⟨b1, hb1⟩ := Qg (w.heap.size)
 rw [← hb1] at B1 ⊢
 have hbr : w.heap.size ≤ b5 := by omega
 have hbr1 : w.heap.size ≤ b1 := by omega
 have hbr2 : w.heap.size ≤ b2 := by omega
 have hbr3 : w.heap.size ≤ b3 := by omega
 have hbr4 : w.heap.size ≤ b4 := by omega
 have hn21 : b2 ≠ b1 := by omega
 have hn31 : b3 ≠ b1 := by omega
 have hn32 : b3 ≠ b2 := by omega
 have hn41 : b4 ≠ b1 := by omega
 have hn42 : b4 ≠ b2 := by omega
 have hn43 : b4 ≠ b3 := by omega
 have hn51 : b5 ≠ b1 := by omega
 have hn52 : b5 ≠ b2 := by omega
 have hn53 : b5 ≠ b3 := by omega
 have hn54 : b5 ≠ b4 := by omega
 clear hb1 hb2 hb3 hb4 hb5
 have C := hC.ext E
 have P := hP.ext E
 clear hC
 obtain ⟨k0, k1⟩ := B1.c2
 have kl := B1.lt
 obtain ⟨p0, p1, p2, p3, p4, p5, p6, p7, p8, p9, p10, p11⟩ := B2.c12
 have pl := B2.lt
 obtain ⟨d0, d1, d2, d3⟩ := B3.c4
 have dl := B3.lt
 have AL := (Qa.refl v).alloc (.cells #[.string p.h, .int .i64 p.a.y, .int .i64 p.a.m, .bool p.a.s, .int .i64 p.a.d, .int .i64 p.b.y, .int .i64 p.b.m, .bool p.b.s, .int .i64 p.b.d, .slice t1 p.o.length s1, .slice t2 n s2, .slice t3 p.c.length s3] 31)
 have NV1 := NV _ (C.ext AL) (.slice (some ⟨v.heap.size, 0, none⟩) 1 1) (Dx (t := 31) (Qb.new v 31 #[.string p.h, .int .i64 p.a.y, .int .i64 p.a.m, .bool p.a.s, .int .i64 p.a.d, .int .i64 p.b.y, .int .i64 p.b.m, .bool p.b.s, .int .i64 p.b.d, .slice t1 p.o.length s1, .slice t2 n s2, .slice t3 p.c.length s3]) (P.ext AL))
 clear NV
 go_upto_region 2 with (go_at_call 16; (with_reducible refine Calls.mono (NV1) ?_); rintro e w1 ⟨rfl, h1⟩; replace h1 := AL.trans h1; clear NV1 AL; replace E := E.trans h1; replace C := C.ext h1; replace P := P.ext h1; replace B4 := B4.ext h1; replace B5 := B5.ext h1; replace B1 := B1.ext h1; replace B2 := B2.ext h1; replace B3 := B3.ext h1; clear h1; clear k0 k1 kl p0 p1 p2 p3 p4 p5 p6 p7 p8 p9 p10 p11 pl d0 d1 d2 d3 dl; obtain ⟨k0, k1⟩ := B1.c2; have kl := B1.lt; obtain ⟨p0, p1, p2, p3, p4, p5, p6, p7, p8, p9, p10, p11⟩ := B2.c12; have pl := B2.lt; obtain ⟨d0, d1, d2, d3⟩ := B3.c4; have dl := B3.lt)
 obtain ⟨vb1, hv⟩ := Qg (w1.alloc (.cells #[.slice A c.nk ca, .slice A' c.ny cb] 52))
 rw [← hv]
 have hx : Qa w1 vb1 := by rw [hv]; exact (Qa.refl _).alloc _
 have B6 : Qb vb1 w1.heap.size 52 #[.slice A c.nk ca, .slice A' c.ny cb] := by rw [hv]; exact Qb.new _ _ _
 clear hv
 generalize w1.heap.size = bb1 at *
 clear k0 k1 kl p0 p1 p2 p3 p4 p5 p6 p7 p8 p9 p10 p11 pl d0 d1 d2 d3 dl
 replace E := E.trans hx
 replace C := C.ext hx
 replace P := P.ext hx
 replace B4 := B4.ext hx
 replace B5 := B5.ext hx
 replace B1 := B1.ext hx
 replace B2 := B2.ext hx
 replace B3 := B3.ext hx
 clear hx
 obtain ⟨k0, k1⟩ := B1.c2
 have kl := B1.lt
 obtain ⟨p0, p1, p2, p3, p4, p5, p6, p7, p8, p9, p10, p11⟩ := B2.c12
 have pl := B2.lt
 obtain ⟨d0, d1, d2, d3⟩ := B3.c4
 have dl := B3.lt
 obtain ⟨q0, q1⟩ := B6.c2
 have ql := B6.lt
 by_cases e0 : pe = 0
 rotate_left
 ·have g0 : (pe == 0) = false := beq_eq_false_iff_ne.2 e0
  have g0n : (pe != 0) = true := by rw [bne, g0]; rfl
  have hr := Qaa (d := d) hpe.out.symm e0
  obtain rfl : RE = pe := HR.out.1.trans hr.1
  obtain rfl : RX = (Zx, Zx) := HR.out.2.trans hr.2
  clear HR hr hpe
  clear k0 k1 kl p0 p1 p2 p3 p4 p5 p6 p7 p8 p9 p10 p11 pl d0 d1 d2 d3 dl q0 q1 ql
  go_upto_region 3 with (fail)
  refine Q5 6 [5] (fun x => Qa vb1 x) Qr rfl ?_
  intro vz hvz
  have HC := hvz
  refine Qp (g := 3) [0, 1, 2] [_, _, _] ⟨rfl, rfl, rfl, trivial⟩ (by kernel_rfl) (by kernel_rfl) HC ?_
  simp only [Qd, Qe, Qf]
  apply Exists.intro
  refine ⟨fun u hu => ?_, ?_⟩
  ·obtain ⟨x0, x1, x2, x3, x4, x5, x6, x7, x8, x9, x10, x11⟩ := Qb.c12 (Qb.ext B4 hu)
   have xl := Qb.lt (Qb.ext B4 hu)
   obtain ⟨y0, y1, y2, y3, y4, y5, y6, y7, y8, y9, y10, y11⟩ := Qb.c12 (Qb.ext B5 hu)
   have yl := Qb.lt (Qb.ext B5 hu)
   repeat (first | go_big_quiet_skip | (go_big_quiet_want; go_big_quiet_op; go_big_quiet_on))
   refine wpQuiet_nil ?_
   rfl
  refine Qj 3 rfl (by kernel_rfl) ?_
  simp only [Qd, Qe, Qf]
  have Hs := Qb.ext B4 HC
  obtain ⟨z0, z1, z2, z3, z4, z5, z6, z7, z8, z9, z10, z11⟩ := Qb.f12 Hs
  obtain ⟨x0, x1, x2, x3, x4, x5, x6, x7, x8, x9, x10, x11⟩ := Qb.c12 Hs
  have xl := Qb.lt Hs
  go_wp2
  rw [Yq Hs]
  clear Hs z0 x0 z1 x1 z2 x2 z3 x3 z4 x4 z5 x5 z6 x6 z7 x7 z8 x8 z9 x9 z10 x10 z11 x11 xl
  refine Qi HC ?_
  refine Qj 4 rfl (by kernel_rfl) ?_
  simp only [Qd, Qe, Qf]
  have Hs := Qb.ext B5 HC
  obtain ⟨z0, z1, z2, z3, z4, z5, z6, z7, z8, z9, z10, z11⟩ := Qb.f12 Hs
  obtain ⟨x0, x1, x2, x3, x4, x5, x6, x7, x8, x9, x10, x11⟩ := Qb.c12 Hs
  have xl := Qb.lt Hs
  go_wp2
  rw [Yq Hs]
  clear Hs z0 x0 z1 x1 z2 x2 z3 x3 z4 x4 z5 x5 z6 x6 z7 x7 z8 x8 z9 x9 z10 x10 z11 x11 xl
  refine Qi HC ?_
  refine Qn 5 rfl (by kernel_rfl) ?_
  simp only [Qd, Qe, Qf]
  go_wp2
  refine Qm ?_
  refine Qt (by kernel_rfl) ?_
  skip
  skip
  obtain ⟨x0, x1, x2, x3, x4, x5, x6, x7, x8, x9, x10, x11⟩ := Qb.c12 (Qb.ext B4 HC)
  have xl := Qb.lt (Qb.ext B4 HC)
  obtain ⟨y0, y1, y2, y3, y4, y5, y6, y7, y8, y9, y10, y11⟩ := Qb.c12 (Qb.ext B5 HC)
  have yl := Qb.lt (Qb.ext B5 HC)
  go_wp2
  refine bodyPost_ret (v := .tuple #[.agg #[.string ⟨#[]⟩, .int .i64 0, .int .i64 0, .bool false, .int .i64 0, .int .i64 0, .int .i64 0, .bool false, .int .i64 0, .slice none 0 0, .slice none 0 0, .slice none 0 0], .agg #[.string ⟨#[]⟩, .int .i64 0, .int .i64 0, .bool false, .int .i64 0, .int .i64 0, .int .i64 0, .bool false, .int .i64 0, .slice none 0 0, .slice none 0 0, .slice none 0 0], .int .i64 RE]) (by simp [results, Tryd.results9, go_sem, x0, y0, x1, y1, x2, y2, x3, y3, x4, y4, x5, y5, x6, y6, x7, y7, x8, y8, x9, y9, x10, y10, x11, y11]) rfl ⟨_, _, _, _, _, _, rfl, E.trans HC, Y8 _ _, Y8 _ _⟩
 subst e0
 have hper := Lib.hid (hpe.out.symm)
 go_upto_region 5 with (go_at_call 22; (with_reducible refine Calls.mono (ND d _ C) ?_); rintro e w2 ⟨rfl, hx⟩; replace E := E.trans hx; replace C := C.ext hx; replace P := P.ext hx; replace B4 := B4.ext hx; replace B5 := B5.ext hx; replace B1 := B1.ext hx; replace B2 := B2.ext hx; replace B3 := B3.ext hx; replace B6 := B6.ext hx; clear hx; clear k0 k1 kl p0 p1 p2 p3 p4 p5 p6 p7 p8 p9 p10 p11 pl d0 d1 d2 d3 dl q0 q1 ql; obtain ⟨k0, k1⟩ := B1.c2; have kl := B1.lt; obtain ⟨p0, p1, p2, p3, p4, p5, p6, p7, p8, p9, p10, p11⟩ := B2.c12; have pl := B2.lt; obtain ⟨d0, d1, d2, d3⟩ := B3.c4; have dl := B3.lt; obtain ⟨q0, q1⟩ := B6.c2; have ql := B6.lt)
 by_cases en : c.numV d = 0
 ·have g1 : (c.numV d == 0) = true := beq_iff_eq.2 en
  have hr := I9 (d := d) hper.out en
  obtain rfl : RE = 71 := HR.out.1.trans hr.1
  obtain rfl : RX = (Zx, Zx) := HR.out.2.trans hr.2
  clear HR hr hper hpe en
  clear k0 k1 kl p0 p1 p2 p3 p4 p5 p6 p7 p8 p9 p10 p11 pl d0 d1 d2 d3 dl q0 q1 ql
  go_upto_region 6 with (fail)
  refine Q5 5 [4] (fun x => Qa w2 x) Qr rfl ?_
  intro vz hvz
  have HC := hvz
  refine Qp (g := 3) [0, 1] [_, _] ⟨rfl, rfl, trivial⟩ (by kernel_rfl) (by kernel_rfl) HC ?_
  simp only [Qd, Qe, Qf]
  apply Exists.intro
  refine ⟨fun u hu => ?_, ?_⟩
  ·obtain ⟨x0, x1, x2, x3, x4, x5, x6, x7, x8, x9, x10, x11⟩ := Qb.c12 (Qb.ext B4 hu)
   have xl := Qb.lt (Qb.ext B4 hu)
   obtain ⟨y0, y1, y2, y3, y4, y5, y6, y7, y8, y9, y10, y11⟩ := Qb.c12 (Qb.ext B5 hu)
   have yl := Qb.lt (Qb.ext B5 hu)
   repeat (first | go_big_quiet_skip | (go_big_quiet_want; go_big_quiet_op; go_big_quiet_on))
   refine wpQuiet_nil ?_
   rfl
  refine Qj 2 rfl (by kernel_rfl) ?_
  simp only [Qd, Qe, Qf]
  have Hs := Qb.ext B4 HC
  obtain ⟨z0, z1, z2, z3, z4, z5, z6, z7, z8, z9, z10, z11⟩ := Qb.f12 Hs
  obtain ⟨x0, x1, x2, x3, x4, x5, x6, x7, x8, x9, x10, x11⟩ := Qb.c12 Hs
  have xl := Qb.lt Hs
  go_wp2
  rw [Yq Hs]
  clear Hs z0 x0 z1 x1 z2 x2 z3 x3 z4 x4 z5 x5 z6 x6 z7 x7 z8 x8 z9 x9 z10 x10 z11 x11 xl
  refine Qi HC ?_
  refine Qj 3 rfl (by kernel_rfl) ?_
  simp only [Qd, Qe, Qf]
  have Hs := Qb.ext B5 HC
  obtain ⟨z0, z1, z2, z3, z4, z5, z6, z7, z8, z9, z10, z11⟩ := Qb.f12 Hs
  obtain ⟨x0, x1, x2, x3, x4, x5, x6, x7, x8, x9, x10, x11⟩ := Qb.c12 Hs
  have xl := Qb.lt Hs
  go_wp2
  rw [Yq Hs]
  clear Hs z0 x0 z1 x1 z2 x2 z3 x3 z4 x4 z5 x5 z6 x6 z7 x7 z8 x8 z9 x9 z10 x10 z11 x11 xl
  refine Qi HC ?_
  refine Qn 4 rfl (by kernel_rfl) ?_
  simp only [Qd, Qe, Qf]
  go_wp2
  refine Qm ?_
  refine Qt (by kernel_rfl) ?_
  skip
  skip
  obtain ⟨x0, x1, x2, x3, x4, x5, x6, x7, x8, x9, x10, x11⟩ := Qb.c12 (Qb.ext B4 HC)
  have xl := Qb.lt (Qb.ext B4 HC)
  obtain ⟨y0, y1, y2, y3, y4, y5, y6, y7, y8, y9, y10, y11⟩ := Qb.c12 (Qb.ext B5 HC)
  have yl := Qb.lt (Qb.ext B5 HC)
  go_wp2
  refine bodyPost_ret (v := .tuple #[.agg #[.string ⟨#[]⟩, .int .i64 0, .int .i64 0, .bool false, .int .i64 0, .int .i64 0, .int .i64 0, .bool false, .int .i64 0, .slice none 0 0, .slice none 0 0, .slice none 0 0], .agg #[.string ⟨#[]⟩, .int .i64 0, .int .i64 0, .bool false, .int .i64 0, .int .i64 0, .int .i64 0, .bool false, .int .i64 0, .slice none 0 0, .slice none 0 0, .slice none 0 0], .int .i64 71]) (by simp [results, Tryd.results9, go_sem, x0, y0, x1, y1, x2, y2, x3, y3, x4, y4, x5, y5, x6, y6, x7, y7, x8, y8, x9, y9, x10, y10, x11, y11]) rfl ⟨_, _, _, _, _, _, rfl, E.trans HC, Y8 _ _, Y8 _ _⟩
 have g1 : (c.numV d == 0) = false := beq_eq_false_iff_ne.2 en
 by_cases e2 : c.numV d < c.numV p.a
 ·have g2 : decide (c.numV d < c.numV p.a) = true := decide_eq_true e2
  have hr := Ot (d := d) hper.out en (.inl e2)
  obtain rfl : RE = 8 := HR.out.1.trans hr.1
  obtain rfl : RX = (Zx, Zx) := HR.out.2.trans hr.2
  clear HR hr hper hpe en e2
  go_upto_region 8 with (first | (go_at_call 22; (with_reducible refine Calls.mono (ND p.a _ C) ?_); rintro e w3 ⟨rfl, hx⟩; replace E := E.trans hx; replace C := C.ext hx; replace P := P.ext hx; replace B4 := B4.ext hx; replace B5 := B5.ext hx; replace B1 := B1.ext hx; replace B2 := B2.ext hx; replace B3 := B3.ext hx; replace B6 := B6.ext hx; clear hx; clear k0 k1 kl p0 p1 p2 p3 p4 p5 p6 p7 p8 p9 p10 p11 pl d0 d1 d2 d3 dl q0 q1 ql; obtain ⟨k0, k1⟩ := B1.c2; have kl := B1.lt; obtain ⟨p0, p1, p2, p3, p4, p5, p6, p7, p8, p9, p10, p11⟩ := B2.c12; have pl := B2.lt; obtain ⟨d0, d1, d2, d3⟩ := B3.c4; have dl := B3.lt; obtain ⟨q0, q1⟩ := B6.c2; have ql := B6.lt) | (go_at_call 22; (with_reducible refine Calls.mono (ND p.b _ C) ?_); rintro e w4 ⟨rfl, hx⟩; replace E := E.trans hx; replace C := C.ext hx; replace P := P.ext hx; replace B4 := B4.ext hx; replace B5 := B5.ext hx; replace B1 := B1.ext hx; replace B2 := B2.ext hx; replace B3 := B3.ext hx; replace B6 := B6.ext hx; clear hx; clear k0 k1 kl p0 p1 p2 p3 p4 p5 p6 p7 p8 p9 p10 p11 pl d0 d1 d2 d3 dl q0 q1 ql; obtain ⟨k0, k1⟩ := B1.c2; have kl := B1.lt; obtain ⟨p0, p1, p2, p3, p4, p5, p6, p7, p8, p9, p10, p11⟩ := B2.c12; have pl := B2.lt; obtain ⟨d0, d1, d2, d3⟩ := B3.c4; have dl := B3.lt; obtain ⟨q0, q1⟩ := B6.c2; have ql := B6.lt))
  clear k0 k1 kl p0 p1 p2 p3 p4 p5 p6 p7 p8 p9 p10 p11 pl d0 d1 d2 d3 dl q0 q1 ql
  go_upto_region 8 with (fail)
  refine Q5 5 [4] (fun x => Qa w3 x) Qr rfl ?_
  intro vz hvz
  have HC := hvz
  refine Qp (g := 3) [0, 1] [_, _] ⟨rfl, rfl, trivial⟩ (by kernel_rfl) (by kernel_rfl) HC ?_
  simp only [Qd, Qe, Qf]
  apply Exists.intro
  refine ⟨fun u hu => ?_, ?_⟩
  ·obtain ⟨x0, x1, x2, x3, x4, x5, x6, x7, x8, x9, x10, x11⟩ := Qb.c12 (Qb.ext B4 hu)
   have xl := Qb.lt (Qb.ext B4 hu)
   obtain ⟨y0, y1, y2, y3, y4, y5, y6, y7, y8, y9, y10, y11⟩ := Qb.c12 (Qb.ext B5 hu)
   have yl := Qb.lt (Qb.ext B5 hu)
   repeat (first | go_big_quiet_skip | (go_big_quiet_want; go_big_quiet_op; go_big_quiet_on))
   refine wpQuiet_nil ?_
   rfl
  refine Qj 2 rfl (by kernel_rfl) ?_
  simp only [Qd, Qe, Qf]
  have Hs := Qb.ext B4 HC
  obtain ⟨z0, z1, z2, z3, z4, z5, z6, z7, z8, z9, z10, z11⟩ := Qb.f12 Hs
  obtain ⟨x0, x1, x2, x3, x4, x5, x6, x7, x8, x9, x10, x11⟩ := Qb.c12 Hs
  have xl := Qb.lt Hs
  go_wp2
  rw [Yq Hs]
  clear Hs z0 x0 z1 x1 z2 x2 z3 x3 z4 x4 z5 x5 z6 x6 z7 x7 z8 x8 z9 x9 z10 x10 z11 x11 xl
  refine Qi HC ?_
  refine Qj 3 rfl (by kernel_rfl) ?_
  simp only [Qd, Qe, Qf]
  have Hs := Qb.ext B5 HC
  obtain ⟨z0, z1, z2, z3, z4, z5, z6, z7, z8, z9, z10, z11⟩ := Qb.f12 Hs
  obtain ⟨x0, x1, x2, x3, x4, x5, x6, x7, x8, x9, x10, x11⟩ := Qb.c12 Hs
  have xl := Qb.lt Hs
  go_wp2
  rw [Yq Hs]
  clear Hs z0 x0 z1 x1 z2 x2 z3 x3 z4 x4 z5 x5 z6 x6 z7 x7 z8 x8 z9 x9 z10 x10 z11 x11 xl
  refine Qi HC ?_
  refine Qn 4 rfl (by kernel_rfl) ?_
  simp only [Qd, Qe, Qf]
  go_wp2
  refine Qm ?_
  refine Qt (by kernel_rfl) ?_
  skip
  skip
  obtain ⟨x0, x1, x2, x3, x4, x5, x6, x7, x8, x9, x10, x11⟩ := Qb.c12 (Qb.ext B4 HC)
  have xl := Qb.lt (Qb.ext B4 HC)
  obtain ⟨y0, y1, y2, y3, y4, y5, y6, y7, y8, y9, y10, y11⟩ := Qb.c12 (Qb.ext B5 HC)
  have yl := Qb.lt (Qb.ext B5 HC)
  go_wp2
  refine bodyPost_ret (v := .tuple #[.agg #[.string ⟨#[]⟩, .int .i64 0, .int .i64 0, .bool false, .int .i64 0, .int .i64 0, .int .i64 0, .bool false, .int .i64 0, .slice none 0 0, .slice none 0 0, .slice none 0 0], .agg #[.string ⟨#[]⟩, .int .i64 0, .int .i64 0, .bool false, .int .i64 0, .int .i64 0, .int .i64 0, .bool false, .int .i64 0, .slice none 0 0, .slice none 0 0, .slice none 0 0], .int .i64 8]) (by simp [results, Tryd.results9, go_sem, x0, y0, x1, y1, x2, y2, x3, y3, x4, y4, x5, y5, x6, y6, x7, y7, x8, y8, x9, y9, x10, y10, x11, y11]) rfl ⟨_, _, _, _, _, _, rfl, E.trans HC, Y8 _ _, Y8 _ _⟩
 have g2 : decide (c.numV d < c.numV p.a) = false := decide_eq_false e2
 by_cases e3 : c.numV p.b ≤ c.numV d
 ·have g3 : decide (c.numV p.b ≤ c.numV d) = true := decide_eq_true e3
  have hr := Ot (d := d) hper.out en (.inr e3)
  obtain rfl : RE = 8 := HR.out.1.trans hr.1
  obtain rfl : RX = (Zx, Zx) := HR.out.2.trans hr.2
  clear HR hr hper hpe en e2 e3
  go_upto_region 8 with (first | (go_at_call 22; (with_reducible refine Calls.mono (ND p.a _ C) ?_); rintro e w3 ⟨rfl, hx⟩; replace E := E.trans hx; replace C := C.ext hx; replace P := P.ext hx; replace B4 := B4.ext hx; replace B5 := B5.ext hx; replace B1 := B1.ext hx; replace B2 := B2.ext hx; replace B3 := B3.ext hx; replace B6 := B6.ext hx; clear hx; clear k0 k1 kl p0 p1 p2 p3 p4 p5 p6 p7 p8 p9 p10 p11 pl d0 d1 d2 d3 dl q0 q1 ql; obtain ⟨k0, k1⟩ := B1.c2; have kl := B1.lt; obtain ⟨p0, p1, p2, p3, p4, p5, p6, p7, p8, p9, p10, p11⟩ := B2.c12; have pl := B2.lt; obtain ⟨d0, d1, d2, d3⟩ := B3.c4; have dl := B3.lt; obtain ⟨q0, q1⟩ := B6.c2; have ql := B6.lt) | (go_at_call 22; (with_reducible refine Calls.mono (ND p.b _ C) ?_); rintro e w4 ⟨rfl, hx⟩; replace E := E.trans hx; replace C := C.ext hx; replace P := P.ext hx; replace B4 := B4.ext hx; replace B5 := B5.ext hx; replace B1 := B1.ext hx; replace B2 := B2.ext hx; replace B3 := B3.ext hx; replace B6 := B6.ext hx; clear hx; clear k0 k1 kl p0 p1 p2 p3 p4 p5 p6 p7 p8 p9 p10 p11 pl d0 d1 d2 d3 dl q0 q1 ql; obtain ⟨k0, k1⟩ := B1.c2; have kl := B1.lt; obtain ⟨p0, p1, p2, p3, p4, p5, p6, p7, p8, p9, p10, p11⟩ := B2.c12; have pl := B2.lt; obtain ⟨d0, d1, d2, d3⟩ := B3.c4; have dl := B3.lt; obtain ⟨q0, q1⟩ := B6.c2; have ql := B6.lt))
  clear k0 k1 kl p0 p1 p2 p3 p4 p5 p6 p7 p8 p9 p10 p11 pl d0 d1 d2 d3 dl q0 q1 ql
  go_upto_region 8 with (fail)
  refine Q5 5 [4] (fun x => Qa w4 x) Qr rfl ?_
  intro vz hvz
  have HC := hvz
  refine Qp (g := 3) [0, 1] [_, _] ⟨rfl, rfl, trivial⟩ (by kernel_rfl) (by kernel_rfl) HC ?_
  simp only [Qd, Qe, Qf]
  apply Exists.intro
  refine ⟨fun u hu => ?_, ?_⟩
  ·obtain ⟨x0, x1, x2, x3, x4, x5, x6, x7, x8, x9, x10, x11⟩ := Qb.c12 (Qb.ext B4 hu)
   have xl := Qb.lt (Qb.ext B4 hu)
   obtain ⟨y0, y1, y2, y3, y4, y5, y6, y7, y8, y9, y10, y11⟩ := Qb.c12 (Qb.ext B5 hu)
   have yl := Qb.lt (Qb.ext B5 hu)
   repeat (first | go_big_quiet_skip | (go_big_quiet_want; go_big_quiet_op; go_big_quiet_on))
   refine wpQuiet_nil ?_
   rfl
  refine Qj 2 rfl (by kernel_rfl) ?_
  simp only [Qd, Qe, Qf]
  have Hs := Qb.ext B4 HC
  obtain ⟨z0, z1, z2, z3, z4, z5, z6, z7, z8, z9, z10, z11⟩ := Qb.f12 Hs
  obtain ⟨x0, x1, x2, x3, x4, x5, x6, x7, x8, x9, x10, x11⟩ := Qb.c12 Hs
  have xl := Qb.lt Hs
  go_wp2
  rw [Yq Hs]
  clear Hs z0 x0 z1 x1 z2 x2 z3 x3 z4 x4 z5 x5 z6 x6 z7 x7 z8 x8 z9 x9 z10 x10 z11 x11 xl
  refine Qi HC ?_
  refine Qj 3 rfl (by kernel_rfl) ?_
  simp only [Qd, Qe, Qf]
  have Hs := Qb.ext B5 HC
  obtain ⟨z0, z1, z2, z3, z4, z5, z6, z7, z8, z9, z10, z11⟩ := Qb.f12 Hs
  obtain ⟨x0, x1, x2, x3, x4, x5, x6, x7, x8, x9, x10, x11⟩ := Qb.c12 Hs
  have xl := Qb.lt Hs
  go_wp2
  rw [Yq Hs]
  clear Hs z0 x0 z1 x1 z2 x2 z3 x3 z4 x4 z5 x5 z6 x6 z7 x7 z8 x8 z9 x9 z10 x10 z11 x11 xl
  refine Qi HC ?_
  refine Qn 4 rfl (by kernel_rfl) ?_
  simp only [Qd, Qe, Qf]
  go_wp2
  refine Qm ?_
  refine Qt (by kernel_rfl) ?_
  skip
  skip
  obtain ⟨x0, x1, x2, x3, x4, x5, x6, x7, x8, x9, x10, x11⟩ := Qb.c12 (Qb.ext B4 HC)
  have xl := Qb.lt (Qb.ext B4 HC)
  obtain ⟨y0, y1, y2, y3, y4, y5, y6, y7, y8, y9, y10, y11⟩ := Qb.c12 (Qb.ext B5 HC)
  have yl := Qb.lt (Qb.ext B5 HC)
  go_wp2
  refine bodyPost_ret (v := .tuple #[.agg #[.string ⟨#[]⟩, .int .i64 0, .int .i64 0, .bool false, .int .i64 0, .int .i64 0, .int .i64 0, .bool false, .int .i64 0, .slice none 0 0, .slice none 0 0, .slice none 0 0], .agg #[.string ⟨#[]⟩, .int .i64 0, .int .i64 0, .bool false, .int .i64 0, .int .i64 0, .int .i64 0, .bool false, .int .i64 0, .slice none 0 0, .slice none 0 0, .slice none 0 0], .int .i64 8]) (by simp [results, Tryd.results9, go_sem, x0, y0, x1, y1, x2, y2, x3, y3, x4, y4, x5, y5, x6, y6, x7, y7, x8, y8, x9, y9, x10, y10, x11, y11]) rfl ⟨_, _, _, _, _, _, rfl, E.trans HC, Y8 _ _, Y8 _ _⟩
 have g3 : decide (c.numV p.b ≤ c.numV d) = false := decide_eq_false e3
 go_upto_region 9 with (first | (go_at_call 22; (with_reducible refine Calls.mono (ND p.a _ C) ?_); rintro e w3 ⟨rfl, hx⟩; replace E := E.trans hx; replace C := C.ext hx; replace P := P.ext hx; replace B4 := B4.ext hx; replace B5 := B5.ext hx; replace B1 := B1.ext hx; replace B2 := B2.ext hx; replace B3 := B3.ext hx; replace B6 := B6.ext hx; clear hx; clear k0 k1 kl p0 p1 p2 p3 p4 p5 p6 p7 p8 p9 p10 p11 pl d0 d1 d2 d3 dl q0 q1 ql; obtain ⟨k0, k1⟩ := B1.c2; have kl := B1.lt; obtain ⟨p0, p1, p2, p3, p4, p5, p6, p7, p8, p9, p10, p11⟩ := B2.c12; have pl := B2.lt; obtain ⟨d0, d1, d2, d3⟩ := B3.c4; have dl := B3.lt; obtain ⟨q0, q1⟩ := B6.c2; have ql := B6.lt) | (go_at_call 22; (with_reducible refine Calls.mono (ND p.b _ C) ?_); rintro e w4 ⟨rfl, hx⟩; replace E := E.trans hx; replace C := C.ext hx; replace P := P.ext hx; replace B4 := B4.ext hx; replace B5 := B5.ext hx; replace B1 := B1.ext hx; replace B2 := B2.ext hx; replace B3 := B3.ext hx; replace B6 := B6.ext hx; clear hx; clear k0 k1 kl p0 p1 p2 p3 p4 p5 p6 p7 p8 p9 p10 p11 pl d0 d1 d2 d3 dl q0 q1 ql; obtain ⟨k0, k1⟩ := B1.c2; have kl := B1.lt; obtain ⟨p0, p1, p2, p3, p4, p5, p6, p7, p8, p9, p10, p11⟩ := B2.c12; have pl := B2.lt; obtain ⟨d0, d1, d2, d3⟩ := B3.c4; have dl := B3.lt; obtain ⟨q0, q1⟩ := B6.c2; have ql := B6.lt))
 have hsum := Lib.hid (Tc (d := d) hper.out en (by omega))
 have hok := K8 (Gc hper.out).2
 have hlo := hok.o
 have hlc := hok.k
 have hld := hok.d
 rw [← hnl.out] at hld
 have hll := Lib.hid hok.l
 obtain ⟨K, hK0⟩ := Qg (c.cutK (c.numV d) p.d)
 have hKn : K ≤ n := by rw [hK0, hnl.out]; exact Oi _ _ _
 have hK := Lib.hid hK0
 clear hK0 hok hper hpe e2 e3 en g1 g2 g3
 obtain ⟨T2, c2, vs, e2, hD, hcap, hmax, _, _⟩ := id P.d
 obtain ⟨rfl, e3, rfl⟩ : t2 = T2 ∧ n = p.d.length ∧ s2 = c2 := by simpa using e2
 rw [← hnl.out] at hD hcap
 clear e2 e3
 obtain ⟨g, hg⟩ := Qg (fun i => p.d.getD i Qv)
 have hg' : ∀ i, p.d.getD i Qv = g i := fun i => by rw [hg]
 have hstep : Hid (∀ k, k < n → c.cutK (c.numV d) (p.d.drop k) = if c.numV (g k).on ≤ c.numV d then c.cutK (c.numV d) (p.d.drop (k + 1)) + 1 else 0) := fun k hk => by
  rw [Ip c _ _ (by rw [← hnl.out]; exact hk), hg']
 simp only [hg'] at hD
 clear hg hg'
 generalize hnd : c.numV d = nd at *
 replace hnd := Lib.hid hnd
 go_upto_region 10 with (fail)
 go_loopw [11] (fun iv wr => ∃ k : Nat, k ≤ K ∧ iv = .int .i64 k ∧ Hid (c.cutK nd (p.d.drop k) + k = K) ∧ Qa w4 wr) (fun iv _ => n - (intOf iv).toNat)
 case atStart => exact ⟨0, Nat.zero_le _, rfl, hK.out.symm, Qa.refl _⟩
 case round =>
  obtain ⟨k, hk, rfl, hkK, hE⟩ := hrel
  obtain ⟨wo, rfl⟩ := Qg wr
  clear k0 k1 kl p0 p1 p2 p3 p4 p5 p6 p7 p8 p9 p10 p11 pl d0 d1 d2 d3 dl q0 q1 ql
  have B1o := B1.ext hE
  have B2o := B2.ext hE
  have B3o := B3.ext hE
  have B6o := B6.ext hE
  obtain ⟨k0, k1⟩ := Qb.c2 B1o
  have kl := Qb.lt B1o
  obtain ⟨p0, p1, p2, p3, p4, p5, p6, p7, p8, p9, p10, p11⟩ := Qb.c12 B2o
  have pl := Qb.lt B2o
  obtain ⟨d0, d1, d2, d3⟩ := Qb.c4 B3o
  have dl := Qb.lt B3o
  obtain ⟨q0, q1⟩ := Qb.c2 B6o
  have ql := Qb.lt B6o
  have NDk := ND (g k).on
  have hst := fun h => Lib.hid (hstep.out k h)
  have hkE := hkK
  clear hkK
  clear hstep
  by_cases hkK : k < K
  ·have hlt : k < n := by omega
   obtain ⟨b, off, rfl, hb, hc⟩ := (hD.ext hE) (by omega)
   have c0 : wo.cell? ⟨b, off + k * 7, none⟩ = some (.int .i64 (g k).on.y) := by simpa [Qu] using hc k 0 _ hlt rfl
   have c1 : wo.cell? ⟨b, off + k * 7 + 1, none⟩ = some (.int .i64 (g k).on.m) := by simpa [Qu] using hc k 1 _ hlt rfl
   have c2 : wo.cell? ⟨b, off + k * 7 + 2, none⟩ = some (.bool (g k).on.s) := by simpa [Qu] using hc k 2 _ hlt rfl
   have c3 : wo.cell? ⟨b, off + k * 7 + 3, none⟩ = some (.int .i64 (g k).on.d) := by simpa [Qu] using hc k 3 _ hlt rfl
   clear hc
   have ho : c.numV (g k).on ≤ nd := by
    by_cases h : c.numV (g k).on ≤ nd
    ·exact h
    ·have h8 := (hst hlt).out
     rw [if_neg h] at h8
     have h9 := hkE.out
     omega
   have go : decide (c.numV (g k).on ≤ nd) = true := decide_eq_true ho
   have h7 : Hid (c.cutK nd (p.d.drop (k + 1)) + (k + 1) = K) := by
    have h8 := (hst hlt).out
    rw [if_pos ho] at h8
    have h9 := hkE.out
    rw [h8] at h9
    unfold Hid
    omega
   generalize g k = G at *
   generalize c.numV G.on = no at *
   clear hkE hst ho
   go_upto_region 10 with (fail)
   refine Zr wo Qr (by kernel_rfl) (by repeat (first | exact Qa.refl _ | (refine Qa.alloc ?_ _) | (refine Qa.trans ?_ (by assumption)))) ?_
   intro hne hrx hry
   try simp only []
   try simp only [List.append_eq, List.cons_append, List.nil_append]
   skip
   repeat (first
    | go_big_quiet_skip
    | (go_big_quiet_want; go_big_quiet_op; go_big_quiet_on)
    | (go_big_quiet_want; go_big_quiet_op; apply Exists.intro; refine ⟨fun u => ?_, ?_⟩
       ·first
         | (go_at_call 22; (with_reducible refine Calls.mono (NDk _ (C.ext (hE.trans u.e))) ?_); rintro e w' ⟨rfl, hb⟩; exact ⟨rfl, u.back hb⟩)
       go_big_quiet_on))
   clear hne hry hrx
   refine wpQuiet_nil ?_
   intro w5 h5
   obtain ⟨hcw5, hfw5, hzw5⟩ := Qa.rules h5
   try simp only [World.size_alloc] at hzw5
   obtain ⟨hcbw5, hfbw5, hzbw5⟩ := Qa.rules (show Qa wo w5 from (by repeat (first | exact Qa.refl _ | (refine Qa.alloc ?_ _) | (refine Qa.trans ?_ (by assumption)))))
   clear hcw5 hfw5
   go_wp2
   exact ⟨⟨k + 1, hkK, by go_num, h7, hE.trans h5⟩, by simp [intOf]; omega⟩
  obtain rfl : K = k := by omega
  clear hkK
  refine Or.elim (Nat.lt_or_ge K n) (fun hlt => ?_) (fun hge => ?_)
  obtain ⟨b, off, ht2, hb, hc⟩ := (hD.ext hE) (by omega)
  have c0 : wo.cell? ⟨b, off + K * 7, none⟩ = some (.int .i64 (g K).on.y) := by simpa [Qu] using hc K 0 _ hlt rfl
  have c1 : wo.cell? ⟨b, off + K * 7 + 1, none⟩ = some (.int .i64 (g K).on.m) := by simpa [Qu] using hc K 1 _ hlt rfl
  have c2 : wo.cell? ⟨b, off + K * 7 + 2, none⟩ = some (.bool (g K).on.s) := by simpa [Qu] using hc K 2 _ hlt rfl
  have c3 : wo.cell? ⟨b, off + K * 7 + 3, none⟩ = some (.int .i64 (g K).on.d) := by simpa [Qu] using hc K 3 _ hlt rfl
  have ho : ¬ c.numV (g K).on ≤ nd := fun h => by
   have h8 := (hst hlt).out
   rw [if_pos h] at h8
   have h9 := hkE.out
   omega
  have go : decide (c.numV (g K).on ≤ nd) = false := decide_eq_false ho
  have pq := p10
  rw [ht2] at pq
  clear hst ho hkE hc p10 ht2
  generalize g K = G at *
  generalize c.numV G.on = no at *
  go_upto_region 10 with (fail)
  refine Zr wo Qr (by kernel_rfl) (by repeat (first | exact Qa.refl _ | (refine Qa.alloc ?_ _) | (refine Qa.trans ?_ (by assumption)))) ?_
  intro hne hrx hry
  try simp only []
  try simp only [List.append_eq, List.cons_append, List.nil_append]
  skip
  repeat (first
   | go_big_quiet_skip
   | (go_big_quiet_want; go_big_quiet_op; go_big_quiet_on)
   | (go_big_quiet_want; go_big_quiet_op; apply Exists.intro; refine ⟨fun u => ?_, ?_⟩
      ·first
        | (go_at_call 22; (with_reducible refine Calls.mono (NDk _ (C.ext (hE.trans u.e))) ?_); rintro e w' ⟨rfl, hb⟩; exact ⟨rfl, u.back hb⟩)
      go_big_quiet_on))
  clear hne hry hrx
  refine wpQuiet_nil ?_
  intro w5 h5
  obtain ⟨hcw5, hfw5, hzw5⟩ := Qa.rules h5
  try simp only [World.size_alloc] at hzw5
  obtain ⟨hcbw5, hfbw5, hzbw5⟩ := Qa.rules (show Qa wo w5 from (by repeat (first | exact Qa.refl _ | (refine Qa.alloc ?_ _) | (refine Qa.trans ?_ (by assumption)))))
  clear hcw5 hfw5
  clear c0 c1 c2 c3 hb go
  have p10 := pq
  clear pq
  rotate_left
  have hlt : ¬ K < n := by omega
  clear hst hkE
  go_upto_region 10 with (fail)
  refine Zr wo Qr (by kernel_rfl) (by repeat (first | exact Qa.refl _ | (refine Qa.alloc ?_ _) | (refine Qa.trans ?_ (by assumption)))) ?_
  intro hne hrx hry
  try simp only []
  try simp only [List.append_eq, List.cons_append, List.nil_append]
  skip
  repeat (first
   | go_big_quiet_skip
   | (go_big_quiet_want; go_big_quiet_op; go_big_quiet_on)
   | (go_big_quiet_want; go_big_quiet_op; apply Exists.intro; refine ⟨fun u => ?_, ?_⟩
      ·first
        | (go_at_call 22; (with_reducible refine Calls.mono (NDk _ (C.ext (hE.trans u.e))) ?_); rintro e w' ⟨rfl, hb⟩; exact ⟨rfl, u.back hb⟩)
      go_big_quiet_on))
  clear hne hry hrx
  refine wpQuiet_nil ?_
  intro w5 h5
  obtain ⟨hcw5, hfw5, hzw5⟩ := Qa.rules h5
  try simp only [World.size_alloc] at hzw5
  obtain ⟨hcbw5, hfbw5, hzbw5⟩ := Qa.rules (show Qa wo w5 from (by repeat (first | exact Qa.refl _ | (refine Qa.alloc ?_ _) | (refine Qa.trans ?_ (by assumption)))))
  clear hcw5 hfw5
  all_goals
   clear P
   replace hE := hE.trans h5
   clear h5 B1o B2o B3o B6o
   clear k0 k1 kl p0 p1 p2 p3 p4 p5 p6 p7 p8 p9 p10 p11 pl d0 d1 d2 d3 dl q0 q1 ql
   replace E := E.trans hE
   replace C := C.ext hE
   replace B4 := B4.ext hE
   replace B5 := B5.ext hE
   replace B1 := B1.ext hE
   replace B2 := B2.ext hE
   replace B3 := B3.ext hE
   replace B6 := B6.ext hE
   clear hE
   have hsumK : Hid (c.divE p d = (Qs p.o (p.d.take K)).2) := by
    have h := hsum.out
    rw [← hK.out] at h
    exact h
   have hdiv : Hid (c.divX p d = ⟨p.h, p.a, d, p.o, p.d.take K, (Qs p.o (p.d.take K)).1⟩ ∧ c.divY p d = ⟨p.h, c.addV d 1, p.b, (Qs p.o (p.d.take K)).1, p.d.drop K, p.c⟩) := by
    unfold Hid Qc.divX Qc.divY
    rw [hnd.out, ← hK.out]
    exact ⟨rfl, rfl⟩
   clear hsum hK hnd
   have DTa := I7 hP.d (show K ≤ p.d.length by rw [← hnl.out]; exact hKn)
   have DDa := I6 hP.d (show K ≤ n from hKn) (by rw [hnl.out]; exact Nat.le_refl _)
   rw [List.take_of_length_le (by rw [hnl.out]; exact Nat.le_refl _)] at DDa
   have hlT : (p.d.take K).length ≤ 64 := by rw [List.length_take]; omega
   have hlR : (p.d.drop K).length ≤ 64 := by rw [List.length_drop, ← hnl.out]; omega
   have hlTl : Hid (∀ i, i < (p.d.take K).length → ((p.d.take K).getD i Qv).l.length ≤ 1000000) := fun i hi => by
    rw [List.length_take] at hi
    rw [Nj _ _ (by omega)]
    exact Nat.le_trans (hll.out i (by omega)) (by decide)
   have hlRl : Hid (∀ i, i < (p.d.drop K).length → ((p.d.drop K).getD i Qv).l.length ≤ 1000000) := fun i hi => by
    rw [List.length_drop] at hi
    rw [Te]
    exact Nat.le_trans (hll.out (K + i) (by omega)) (by decide)
   have hsl : (Qs p.o (p.d.take K)).1.length ≤ 64 := Ni _ _ hlo
   clear hll
   generalize p.d.take K = DTK at *
   generalize p.d.drop K = DRK at *
   have NB := fun w h1 h2 => N8 (.slice t1 p.o.length s1) (.slice t2 K s2) p.o DTK w h1 h2 (by omega)
   have NA := fun w h => C7 A A' ca cb c d 1 w h
   have NCO := fun w h => Wf (.slice t1 p.o.length s1) p.o w h (by omega)
   have NCC := fun w h => Wf (.slice t3 p.c.length s3) p.c w h (by omega)
   have NT := fun w h => Lr (.slice t2 K s2) DTK w h (by omega) hlTl.out
   obtain ⟨TD, cD, vsD, eD, _⟩ := id DDa
   rw [eD] at DDa
   have NR := fun w h => Lr (.slice TD DRK.length cD) DRK w h (by omega) hlRl.out
   generalize c.addV d 1 = ad at *
   generalize c.addE d 1 = ae at *
   simp only [Dt.val] at NA
   generalize Qs p.o DTK = SV at *
   obtain ⟨S, se⟩ := SV
   simp only at NB hsl hsumK hdiv
   clear hlT hlR
   obtain ⟨k0, k1⟩ := B1.c2
   have kl := B1.lt
   obtain ⟨p0, p1, p2, p3, p4, p5, p6, p7, p8, p9, p10, p11⟩ := B2.c12
   have pl := B2.lt
   obtain ⟨d0, d1, d2, d3⟩ := B3.c4
   have dl := B3.lt
   obtain ⟨q0, q1⟩ := B6.c2
   have ql := B6.lt
   go_upto_region 12 with (fail)
   clear k0 k1 kl p0 p1 p2 p3 p4 p5 p6 p7 p8 p9 p10 p11 pl d0 d1 d2 d3 dl q0 q1 ql
   refine Q5 12 [8, 9, 10, 11] (fun x => Qa w5 x) Qr rfl ?_
   intro vz hvz
   have HC := hvz
   refine Qp (g := 6) [0, 1, 2, 3, 4, 5] [_, _, _, _, _, _] ⟨rfl, rfl, rfl, rfl, rfl, rfl, trivial⟩ (by kernel_rfl) (by kernel_rfl) HC ?_
   simp only [Qd, Qe, Qf]
   apply Exists.intro
   refine ⟨fun u hu => ?_, ?_⟩
   ·obtain ⟨p0, p1, p2, p3, p4, p5, p6, p7, p8, p9, p10, p11⟩ := Qb.c12 (Qb.ext B2 hu)
    have pl := Qb.lt (Qb.ext B2 hu)
    repeat (first | go_big_quiet_skip | (go_big_quiet_want; go_big_quiet_op; go_big_quiet_on))
    refine wpQuiet_nil ?_
    rfl
   refine Qj 6 rfl (by kernel_rfl) ?_
   simp only [Qd, Qe, Qf]
   go_wp2_with (go_at_call 17; (with_reducible refine Calls.mono (NB _ (hP.ext (E.trans HC)).o (DTa.ext (E.trans HC))) ?_); rintro e wb ⟨vr, rfl, hb, LR⟩; obtain ⟨FR, mR, rfl⟩ := Zo LR)
   have LR1 := Yi LR HC.size
   replace HC := HC.trans hb
   clear hb LR
   refine Qi HC ?_
   refine Qp (g := 4) [7] [_] ⟨rfl, trivial⟩ (by kernel_rfl) (by kernel_rfl) HC ?_
   simp only [Qd, Qe, Qf]
   apply Exists.intro
   refine ⟨fun u hu => ?_, ?_⟩
   ·obtain ⟨p0, p1, p2, p3, p4, p5, p6, p7, p8, p9, p10, p11⟩ := Qb.c12 (Qb.ext B2 hu)
    have pl := Qb.lt (Qb.ext B2 hu)
    repeat (first | go_big_quiet_skip | (go_big_quiet_want; go_big_quiet_op; go_big_quiet_on))
    refine wpQuiet_nil ?_
    rfl
   refine Jg (g := 2) [8, 9] [_, _] ⟨rfl, rfl, trivial⟩ (by kernel_rfl) (by kernel_rfl) ?_
   simp only [Qd, Qe, Qf]
   apply Exists.intro
   refine ⟨fun u hu => ?_, ?_⟩
   ·repeat (first | go_big_quiet_skip | (go_big_quiet_want; go_big_quiet_op; go_big_quiet_on))
    refine wpQuiet_nil ?_
    rfl
   refine Qn 10 rfl (by kernel_rfl) ?_
   simp only [Qd, Qe, Qf]
   go_wp2
   refine Qm ?_
   refine Qn 11 rfl (by kernel_rfl) ?_
   simp only [Qd, Qe, Qf]
   go_wp2
   refine Qm ?_
   refine Qt (by kernel_rfl) ?_
   skip
   have LR := Yi LR1 E.size
   clear LR1 NB
   replace E := E.trans HC
   replace C := C.ext HC
   replace B4 := B4.ext HC
   replace B5 := B5.ext HC
   replace B1 := B1.ext HC
   replace B2 := B2.ext HC
   replace B3 := B3.ext HC
   replace B6 := B6.ext HC
   clear HC
   by_cases es : se = 0
   rotate_left
   ·have g0 : (se == 0) = false := beq_eq_false_iff_ne.2 es
    have g0n : (se != 0) = true := by rw [bne, g0]; rfl
    obtain rfl : RE = se := HR.out.1.trans hsumK.out
    obtain rfl : RX = (Zx, Zx) := by rw [HR.out.2]; unfold Qc.divP; rw [hsumK.out]; exact if_pos es
    clear HR hsumK hdiv
    go_upto_region 14 with (fail)
    refine Q5 6 [5] (fun x => Qa wb x) Qr rfl ?_
    intro vz hvz
    have HC := hvz
    refine Qp (g := 3) [0, 1, 2] [_, _, _] ⟨rfl, rfl, rfl, trivial⟩ (by kernel_rfl) (by kernel_rfl) HC ?_
    simp only [Qd, Qe, Qf]
    apply Exists.intro
    refine ⟨fun u hu => ?_, ?_⟩
    ·obtain ⟨x0, x1, x2, x3, x4, x5, x6, x7, x8, x9, x10, x11⟩ := Qb.c12 (Qb.ext B4 hu)
     have xl := Qb.lt (Qb.ext B4 hu)
     obtain ⟨y0, y1, y2, y3, y4, y5, y6, y7, y8, y9, y10, y11⟩ := Qb.c12 (Qb.ext B5 hu)
     have yl := Qb.lt (Qb.ext B5 hu)
     repeat (first | go_big_quiet_skip | (go_big_quiet_want; go_big_quiet_op; go_big_quiet_on))
     refine wpQuiet_nil ?_
     rfl
    refine Qj 3 rfl (by kernel_rfl) ?_
    simp only [Qd, Qe, Qf]
    have Hs := Qb.ext B4 HC
    obtain ⟨z0, z1, z2, z3, z4, z5, z6, z7, z8, z9, z10, z11⟩ := Qb.f12 Hs
    obtain ⟨x0, x1, x2, x3, x4, x5, x6, x7, x8, x9, x10, x11⟩ := Qb.c12 Hs
    have xl := Qb.lt Hs
    go_wp2
    rw [Yq Hs]
    clear Hs z0 x0 z1 x1 z2 x2 z3 x3 z4 x4 z5 x5 z6 x6 z7 x7 z8 x8 z9 x9 z10 x10 z11 x11 xl
    refine Qi HC ?_
    refine Qj 4 rfl (by kernel_rfl) ?_
    simp only [Qd, Qe, Qf]
    have Hs := Qb.ext B5 HC
    obtain ⟨z0, z1, z2, z3, z4, z5, z6, z7, z8, z9, z10, z11⟩ := Qb.f12 Hs
    obtain ⟨x0, x1, x2, x3, x4, x5, x6, x7, x8, x9, x10, x11⟩ := Qb.c12 Hs
    have xl := Qb.lt Hs
    go_wp2
    rw [Yq Hs]
    clear Hs z0 x0 z1 x1 z2 x2 z3 x3 z4 x4 z5 x5 z6 x6 z7 x7 z8 x8 z9 x9 z10 x10 z11 x11 xl
    refine Qi HC ?_
    refine Qn 5 rfl (by kernel_rfl) ?_
    simp only [Qd, Qe, Qf]
    go_wp2
    refine Qm ?_
    refine Qt (by kernel_rfl) ?_
    skip
    skip
    obtain ⟨x0, x1, x2, x3, x4, x5, x6, x7, x8, x9, x10, x11⟩ := Qb.c12 (Qb.ext B4 HC)
    have xl := Qb.lt (Qb.ext B4 HC)
    obtain ⟨y0, y1, y2, y3, y4, y5, y6, y7, y8, y9, y10, y11⟩ := Qb.c12 (Qb.ext B5 HC)
    have yl := Qb.lt (Qb.ext B5 HC)
    go_wp2
    refine bodyPost_ret (v := .tuple #[.agg #[.string ⟨#[]⟩, .int .i64 0, .int .i64 0, .bool false, .int .i64 0, .int .i64 0, .int .i64 0, .bool false, .int .i64 0, .slice none 0 0, .slice none 0 0, .slice none 0 0], .agg #[.string ⟨#[]⟩, .int .i64 0, .int .i64 0, .bool false, .int .i64 0, .int .i64 0, .int .i64 0, .bool false, .int .i64 0, .slice none 0 0, .slice none 0 0, .slice none 0 0], .int .i64 RE]) (by simp [results, Tryd.results9, go_sem, x0, y0, x1, y1, x2, y2, x3, y3, x4, y4, x5, y5, x6, y6, x7, y7, x8, y8, x9, y9, x10, y10, x11, y11]) rfl ⟨_, _, _, _, _, _, rfl, E.trans HC, Y8 _ _, Y8 _ _⟩
   subst es
   obtain rfl : RE = 0 := HR.out.1.trans hsumK.out
   have hRX : Hid (RX = (⟨p.h, p.a, d, p.o, DTK, S⟩, ⟨p.h, ad, p.b, S, DRK, p.c⟩)) := by
    unfold Hid
    rw [HR.out.2]; unfold Qc.divP; rw [hsumK.out, if_neg (by simp), hdiv.out.1, hdiv.out.2]
   have hrx := hRX.out
   subst hrx
   clear HR hsumK hdiv hRX
   obtain ⟨k0, k1⟩ := B1.c2
   have kl := B1.lt
   obtain ⟨p0, p1, p2, p3, p4, p5, p6, p7, p8, p9, p10, p11⟩ := B2.c12
   have pl := B2.lt
   obtain ⟨d0, d1, d2, d3⟩ := B3.c4
   have dl := B3.lt
   obtain ⟨q0, q1⟩ := B6.c2
   have ql := B6.lt
   go_upto_region 16 with (go_at_call 23; (with_reducible refine Calls.mono (NA _ C) ?_); rintro e w7 ⟨rfl, hx⟩; replace E := E.trans hx; replace LR := X6 LR hx; replace C := C.ext hx; replace B4 := B4.ext hx; replace B5 := B5.ext hx; replace B1 := B1.ext hx; replace B2 := B2.ext hx; replace B3 := B3.ext hx; replace B6 := B6.ext hx; clear hx; clear k0 k1 kl p0 p1 p2 p3 p4 p5 p6 p7 p8 p9 p10 p11 pl d0 d1 d2 d3 dl q0 q1 ql; obtain ⟨k0, k1⟩ := B1.c2; have kl := B1.lt; obtain ⟨p0, p1, p2, p3, p4, p5, p6, p7, p8, p9, p10, p11⟩ := B2.c12; have pl := B2.lt; obtain ⟨d0, d1, d2, d3⟩ := B3.c4; have dl := B3.lt; obtain ⟨q0, q1⟩ := B6.c2; have ql := B6.lt)
   obtain ⟨v7, hv⟩ := Qg (w7.alloc (.cells #[.int .i64 ad.y, .int .i64 ad.m, .bool ad.s, .int .i64 ad.d] 27))
   rw [← hv]
   have hx : Qa w7 v7 := by rw [hv]; exact (Qa.refl _).alloc _
   have B7 : Qb v7 w7.heap.size 27 #[.int .i64 ad.y, .int .i64 ad.m, .bool ad.s, .int .i64 ad.d] := by rw [hv]; exact Qb.new _ _ _
   clear hv
   generalize w7.heap.size = bb1 at *
   clear k0 k1 kl p0 p1 p2 p3 p4 p5 p6 p7 p8 p9 p10 p11 pl d0 d1 d2 d3 dl q0 q1 ql
   replace E := E.trans hx
   replace LR := X6 LR hx
   replace C := C.ext hx
   replace B4 := B4.ext hx
   replace B5 := B5.ext hx
   replace B1 := B1.ext hx
   replace B2 := B2.ext hx
   replace B3 := B3.ext hx
   replace B6 := B6.ext hx
   clear hx
   obtain ⟨k0, k1⟩ := B1.c2
   have kl := B1.lt
   obtain ⟨p0, p1, p2, p3, p4, p5, p6, p7, p8, p9, p10, p11⟩ := B2.c12
   have pl := B2.lt
   obtain ⟨d0, d1, d2, d3⟩ := B3.c4
   have dl := B3.lt
   obtain ⟨q0, q1⟩ := B6.c2
   have ql := B6.lt
   obtain ⟨e0, e1, e2, e3⟩ := B7.c4
   have el := B7.lt
   clear k0 k1 kl p0 p1 p2 p3 p4 p5 p6 p7 p8 p9 p10 p11 pl d0 d1 d2 d3 dl q0 q1 ql e0 e1 e2 e3 el
   have hlt7 := B7.lt
   have hb61 : v7.heap.size ≥ 0 := Nat.zero_le _
   refine Q5 16 [15] (fun x => Qa v7 x) Qr rfl ?_
   intro vz hvz
   have HC := hvz
   refine Qp (g := 4) [0, 1, 2, 3, 4, 5, 6, 8, 9, 10, 11, 13] [_, _, _, _, _, _, _, _, _, _, _, _] ⟨rfl, rfl, rfl, rfl, rfl, rfl, rfl, rfl, rfl, rfl, rfl, rfl, trivial⟩ (by kernel_rfl) (by kernel_rfl) HC ?_
   simp only [Qd, Qe, Qf]
   apply Exists.intro
   refine ⟨fun u hu => ?_, ?_⟩
   ·obtain ⟨p0, p1, p2, p3, p4, p5, p6, p7, p8, p9, p10, p11⟩ := Qb.c12 (Qb.ext B2 hu)
    have pl := Qb.lt (Qb.ext B2 hu)
    obtain ⟨d0, d1, d2, d3⟩ := Qb.c4 (Qb.ext B3 hu)
    have dl := Qb.lt (Qb.ext B3 hu)
    repeat (first | go_big_quiet_skip | (go_big_quiet_want; go_big_quiet_op; go_big_quiet_on))
    refine wpQuiet_nil ?_
    rfl
   refine Qj 7 rfl (by kernel_rfl) ?_
   simp only [Qd, Qe, Qf]
   have hz := Nat.le_trans E.size HC.size
   go_wp2_with (go_at_call 24; (with_reducible refine Calls.mono (NCO _ (hP.ext (E.trans HC)).o) ?_); rintro e wc ⟨v1, rfl, hb, S1⟩; obtain ⟨F1, m1, rfl⟩ := Zo S1)
   replace S1 := Yi S1 hz
   replace HC := HC.trans hb
   clear hb hz
   refine Qi HC ?_
   refine Qj 12 rfl (by kernel_rfl) ?_
   simp only [Qd, Qe, Qf]
   have hz := Nat.le_trans E.size HC.size
   go_wp2_with (go_at_call 25; (with_reducible refine Calls.mono (NT _ (DTa.ext (E.trans HC))) ?_); rintro e wd ⟨v2, rfl, hb, D1⟩; obtain ⟨F2, m2, rfl⟩ := Xy D1)
   replace D1 := Jh.le D1 hz
   clear hz
   replace S1 := Zp S1 hb
   replace HC := HC.trans hb
   replace LR := Zp LR HC
   clear hb
   refine Qi HC ?_
   refine Qp (g := 1) [14] [_] ⟨rfl, trivial⟩ (by kernel_rfl) (by kernel_rfl) HC ?_
   simp only [Qd, Qe, Qf]
   apply Exists.intro
   refine ⟨fun u hu => ?_, ?_⟩
   ·obtain ⟨p0, p1, p2, p3, p4, p5, p6, p7, p8, p9, p10, p11⟩ := Qb.c12 (Qb.ext B2 hu)
    have pl := Qb.lt (Qb.ext B2 hu)
    obtain ⟨d0, d1, d2, d3⟩ := Qb.c4 (Qb.ext B3 hu)
    have dl := Qb.lt (Qb.ext B3 hu)
    repeat (first | go_big_quiet_skip | (go_big_quiet_want; go_big_quiet_op; go_big_quiet_on))
    refine wpQuiet_nil ?_
    rfl
   refine Qn 15 rfl (by kernel_rfl) ?_
   simp only [Qd, Qe, Qf]
   have Hs := Qb.ext B4 HC
   obtain ⟨z0, z1, z2, z3, z4, z5, z6, z7, z8, z9, z10, z11⟩ := Qb.f12 Hs
   obtain ⟨x0, x1, x2, x3, x4, x5, x6, x7, x8, x9, x10, x11⟩ := Qb.c12 Hs
   have xl := Qb.lt Hs
   go_wp2
   obtain ⟨wq, hq, HX, ko, kd, kh, ke⟩ := Wj Hs (by decide) (by decide) (.string p.h) (.int .i64 p.a.y) (.int .i64 p.a.m) (.bool p.a.s) (.int .i64 p.a.d) (.int .i64 d.y) (.int .i64 d.m) (.bool d.s) (.int .i64 d.d) (.slice F1 p.o.length m1) (.slice F2 DTK.length m2) (.slice FR S.length mR)
   rw [← hq]
   have S1x := ko S1
   have D1x := kd D1
   have LRx := ko LR
   have B5x := kh (Qb.ext B5 HC) (show b5 ≠ b4 by omega)
   have B2x := kh (Qb.ext B2 HC) (show b2 ≠ b4 by omega)
   have B3x := kh (Qb.ext B3 HC) (show b3 ≠ b4 by omega)
   have B7x := kh (Qb.ext B7 HC) (Vs (Qb.ext B7 HC) Hs (by decide))
   have EX := ke (E.trans HC) hbr4
   clear hq ko kd kh ke Hs z0 x0 z1 x1 z2 x2 z3 x3 z4 x4 z5 x5 z6 x6 z7 x7 z8 x8 z9 x9 z10 x10 z11 x11 xl
   refine Qm ?_
   refine Qt (by kernel_rfl) ?_
   skip
   clear B1 B2 B3 B4 B5 B6 B7 S1 D1 LR C HC E NCO NT NA hlt7 hb61
   have B2 := B2x
   clear B2x
   have B3 := B3x
   clear B3x
   have B5 := B5x
   clear B5x
   have B7 := B7x
   clear B7x
   have S1 := S1x
   clear S1x
   have D1 := D1x
   clear D1x
   have LR := LRx
   clear LRx
   have B4 := HX
   clear HX
   have E := EX
   clear EX
   have LA := Xp LR
   have NLR := fun w h => Wf (.slice FR S.length mR) S w h (by omega)
   go_upto_region 17 with (fail)
   refine Q5 17 [16] (fun x => Qa wq x) Qr rfl ?_
   intro vz hvz
   have HC := hvz
   refine Qp (g := 5) [0, 1, 2, 3, 4, 5, 7, 8, 9, 10, 12, 13] [_, _, _, _, _, _, _, _, _, _, _, _] ⟨rfl, rfl, rfl, rfl, rfl, rfl, rfl, rfl, rfl, rfl, rfl, rfl, trivial⟩ (by kernel_rfl) (by kernel_rfl) HC ?_
   simp only [Qd, Qe, Qf]
   apply Exists.intro
   refine ⟨fun u hu => ?_, ?_⟩
   ·obtain ⟨p0, p1, p2, p3, p4, p5, p6, p7, p8, p9, p10, p11⟩ := Qb.c12 (Qb.ext B2 hu)
    have pl := Qb.lt (Qb.ext B2 hu)
    obtain ⟨e0, e1, e2, e3⟩ := Qb.c4 (Qb.ext B7 hu)
    have el := Qb.lt (Qb.ext B7 hu)
    repeat (first | go_big_quiet_skip | (go_big_quiet_want; go_big_quiet_op; go_big_quiet_on))
    refine wpQuiet_nil ?_
    rfl
   refine Qj 6 rfl (by kernel_rfl) ?_
   simp only [Qd, Qe, Qf]
   try rw [eD]
   have hz := Nat.le_trans E.size HC.size
   go_wp2_with (go_at_call 24; (with_reducible refine Calls.mono (NLR _ (LA.ext HC)) ?_); rintro e wc ⟨v1, rfl, hb, S3⟩; obtain ⟨F3, m3, rfl⟩ := Zo S3)
   replace S3 := Yi S3 hz
   clear hz
   replace HC := HC.trans hb
   clear hb
   refine Qi HC ?_
   refine Qj 11 rfl (by kernel_rfl) ?_
   simp only [Qd, Qe, Qf]
   have hz := Nat.le_trans E.size HC.size
   go_wp2_with (go_at_call 25; (with_reducible refine Calls.mono (NR _ (DDa.ext (E.trans HC))) ?_); rintro e wd ⟨v2, rfl, hb, D4⟩; obtain ⟨F4, m4, rfl⟩ := Xy D4)
   replace D4 := Jh.le D4 hz
   clear hz
   replace S3 := Zp S3 hb
   replace HC := HC.trans hb
   clear hb
   refine Qi HC ?_
   refine Qj 14 rfl (by kernel_rfl) ?_
   simp only [Qd, Qe, Qf]
   have hz := Nat.le_trans E.size HC.size
   go_wp2_with (go_at_call 24; (with_reducible refine Calls.mono (NCC _ (hP.ext (E.trans HC)).c) ?_); rintro e we ⟨v3, rfl, hb, S5⟩; obtain ⟨F5, m5, rfl⟩ := Zo S5)
   replace S5 := Yi S5 hz
   clear hz
   replace S3 := Zp S3 hb
   replace D4 := Jh.ext D4 hb
   replace HC := HC.trans hb
   replace LR := Zp LR HC
   replace S1 := Zp S1 HC
   replace D1 := Jh.ext D1 HC
   clear hb
   refine Qi HC ?_
   refine Qp (g := 1) [15] [_] ⟨rfl, trivial⟩ (by kernel_rfl) (by kernel_rfl) HC ?_
   simp only [Qd, Qe, Qf]
   apply Exists.intro
   refine ⟨fun u hu => ?_, ?_⟩
   ·obtain ⟨p0, p1, p2, p3, p4, p5, p6, p7, p8, p9, p10, p11⟩ := Qb.c12 (Qb.ext B2 hu)
    have pl := Qb.lt (Qb.ext B2 hu)
    obtain ⟨e0, e1, e2, e3⟩ := Qb.c4 (Qb.ext B7 hu)
    have el := Qb.lt (Qb.ext B7 hu)
    repeat (first | go_big_quiet_skip | (go_big_quiet_want; go_big_quiet_op; go_big_quiet_on))
    refine wpQuiet_nil ?_
    rfl
   refine Qn 16 rfl (by kernel_rfl) ?_
   simp only [Qd, Qe, Qf]
   have Hs := Qb.ext B5 HC
   obtain ⟨z0, z1, z2, z3, z4, z5, z6, z7, z8, z9, z10, z11⟩ := Qb.f12 Hs
   obtain ⟨x0, x1, x2, x3, x4, x5, x6, x7, x8, x9, x10, x11⟩ := Qb.c12 Hs
   have xl := Qb.lt Hs
   go_wp2
   obtain ⟨wr, hq, HX, ko, kd, kh, ke⟩ := Wj Hs (by decide) (by decide) (.string p.h) (.int .i64 ad.y) (.int .i64 ad.m) (.bool ad.s) (.int .i64 ad.d) (.int .i64 p.b.y) (.int .i64 p.b.m) (.bool p.b.s) (.int .i64 p.b.d) (.slice F3 S.length m3) (.slice F4 DRK.length m4) (.slice F5 p.c.length m5)
   rw [← hq]
   have S1x := ko S1
   have D1x := kd D1
   have LRx := ko LR
   have S3x := ko S3
   have D4x := kd D4
   have S5x := ko S5
   have B4x := kh (Qb.ext B4 HC) (show b4 ≠ b5 by omega)
   have EX := ke (E.trans HC) hbr
   clear hq ko kd kh ke Hs z0 x0 z1 x1 z2 x2 z3 x3 z4 x4 z5 x5 z6 x6 z7 x7 z8 x8 z9 x9 z10 x10 z11 x11 xl
   refine Qm ?_
   refine Qt (by kernel_rfl) ?_
   skip
   clear B2 B3 B4 B5 B7 S1 D1 LR HC E S3 D4 S5 NLR NR NCC LA
   have B4 := B4x
   have B5 := HX
   have E := EX
   clear B4x HX EX
   go_upto_region 18 with (fail)
   refine Q5 5 [4] (fun x => Qa wr x) Qr rfl ?_
   intro vz hvz
   have HC := hvz
   refine Qp (g := 3) [0, 1] [_, _] ⟨rfl, rfl, trivial⟩ (by kernel_rfl) (by kernel_rfl) HC ?_
   simp only [Qd, Qe, Qf]
   apply Exists.intro
   refine ⟨fun u hu => ?_, ?_⟩
   ·obtain ⟨x0, x1, x2, x3, x4, x5, x6, x7, x8, x9, x10, x11⟩ := Qb.c12 (Qb.ext B4 hu)
    have xl := Qb.lt (Qb.ext B4 hu)
    obtain ⟨y0, y1, y2, y3, y4, y5, y6, y7, y8, y9, y10, y11⟩ := Qb.c12 (Qb.ext B5 hu)
    have yl := Qb.lt (Qb.ext B5 hu)
    repeat (first | go_big_quiet_skip | (go_big_quiet_want; go_big_quiet_op; go_big_quiet_on))
    refine wpQuiet_nil ?_
    rfl
   refine Qj 2 rfl (by kernel_rfl) ?_
   simp only [Qd, Qe, Qf]
   have Hs := Qb.ext B4 HC
   obtain ⟨z0, z1, z2, z3, z4, z5, z6, z7, z8, z9, z10, z11⟩ := Qb.f12 Hs
   obtain ⟨x0, x1, x2, x3, x4, x5, x6, x7, x8, x9, x10, x11⟩ := Qb.c12 Hs
   have xl := Qb.lt Hs
   go_wp2
   rw [Yq Hs]
   clear Hs z0 x0 z1 x1 z2 x2 z3 x3 z4 x4 z5 x5 z6 x6 z7 x7 z8 x8 z9 x9 z10 x10 z11 x11 xl
   refine Qi HC ?_
   refine Qj 3 rfl (by kernel_rfl) ?_
   simp only [Qd, Qe, Qf]
   have Hs := Qb.ext B5 HC
   obtain ⟨z0, z1, z2, z3, z4, z5, z6, z7, z8, z9, z10, z11⟩ := Qb.f12 Hs
   obtain ⟨x0, x1, x2, x3, x4, x5, x6, x7, x8, x9, x10, x11⟩ := Qb.c12 Hs
   have xl := Qb.lt Hs
   go_wp2
   rw [Yq Hs]
   clear Hs z0 x0 z1 x1 z2 x2 z3 x3 z4 x4 z5 x5 z6 x6 z7 x7 z8 x8 z9 x9 z10 x10 z11 x11 xl
   refine Qi HC ?_
   refine Qn 4 rfl (by kernel_rfl) ?_
   simp only [Qd, Qe, Qf]
   go_wp2
   refine Qm ?_
   refine Qt (by kernel_rfl) ?_
   skip
   obtain ⟨x0, x1, x2, x3, x4, x5, x6, x7, x8, x9, x10, x11⟩ := Qb.c12 (Qb.ext B4 HC)
   have xl := Qb.lt (Qb.ext B4 HC)
   obtain ⟨y0, y1, y2, y3, y4, y5, y6, y7, y8, y9, y10, y11⟩ := Qb.c12 (Qb.ext B5 HC)
   have yl := Qb.lt (Qb.ext B5 HC)
   go_wp2
   refine bodyPost_ret (v := .tuple #[.agg #[.string p.h, .int .i64 p.a.y, .int .i64 p.a.m, .bool p.a.s, .int .i64 p.a.d, .int .i64 d.y, .int .i64 d.m, .bool d.s, .int .i64 d.d, .slice F1 p.o.length m1, .slice F2 DTK.length m2, .slice FR S.length mR], .agg #[.string p.h, .int .i64 ad.y, .int .i64 ad.m, .bool ad.s, .int .i64 ad.d, .int .i64 p.b.y, .int .i64 p.b.m, .bool p.b.s, .int .i64 p.b.d, .slice F3 S.length m3, .slice F4 DRK.length m4, .slice F5 p.c.length m5], .int .i64 0]) (by simp [results, Tryd.results9, go_sem, x0, y0, x1, y1, x2, y2, x3, y3, x4, y4, x5, y5, x6, y6, x7, y7, x8, y8, x9, y9, x10, y10, x11, y11]) rfl ⟨_, _, _, _, _, _, rfl, E.trans HC, Zj.ext ⟨S1x, D1x, LRx⟩ HC, Zj.ext ⟨S3x, D4x, S5x⟩ HC⟩
theorem divide_any (A A' : Option Addr) (ca cb : Nat) (c : Qc) (p : Pd) (vo vd vc : Value) (d : Dt) (w : World) (hC : Q8 w A ca A' cb c) (hP : Zv w p vo vd vc) :
  Calls Tryd.prog 9 #[.agg #[.slice A c.nk ca, .slice A' c.ny cb], .agg #[.string p.h, .int .i64 p.a.y, .int .i64 p.a.m, .bool p.a.s, .int .i64 p.a.d, .int .i64 p.b.y, .int .i64 p.b.m, .bool p.b.s, .int .i64 p.b.d, vo, vd, vc], .agg #[.int .i64 d.y, .int .i64 d.m, .bool d.s, .int .i64 d.d]] w fun e w' => ∃ vo1 vd1 vc1 vo2 vd2 vc2, e = .returned (.tuple #[.agg #[.string (c.divP p d).1.h, .int .i64 (c.divP p d).1.a.y, .int .i64 (c.divP p d).1.a.m, .bool (c.divP p d).1.a.s, .int .i64 (c.divP p d).1.a.d, .int .i64 (c.divP p d).1.b.y, .int .i64 (c.divP p d).1.b.m, .bool (c.divP p d).1.b.s, .int .i64 (c.divP p d).1.b.d, vo1, vd1, vc1], .agg #[.string (c.divP p d).2.h, .int .i64 (c.divP p d).2.a.y, .int .i64 (c.divP p d).2.a.m, .bool (c.divP p d).2.a.s, .int .i64 (c.divP p d).2.a.d, .int .i64 (c.divP p d).2.b.y, .int .i64 (c.divP p d).2.b.m, .bool (c.divP p d).2.b.s, .int .i64 (c.divP p d).2.b.d, vo2, vd2, vc2], .int .i64 (c.divE p d)]) ∧ Qa w w' ∧ Zv w' (c.divP p d).1 vo1 vd1 vc1 ∧ Zv w' (c.divP p d).2 vo2 vd2 vc2 :=
 (divideO_any A A' ca cb c p vo vd vc d w hC hP).mono fun _ _ ⟨a, b, e, x, y, z, h1, h2, h3, h4⟩ => ⟨a, b, e, x, y, z, h1, h2, V5 h3, V5 h4⟩
end Go.Proofs.YtneiofnlmblglaaDoor