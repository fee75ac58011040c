/- Join of the reference. -/
import Derived.Test.YtneiofnlmblglaaGreatDoorR12
set_option maxRecDepth 100000
set_option maxHeartbeats 4000000
namespace Go.Proofs.YtneiofnlmblglaaGreatDoor
open Go Go.RowKit Go.Shelf
attribute [local go_sem] Zs
theorem wpList_append_two {P : Program} {w : World} {ops : Array Oper} {rest : List Oper} {o : Oper} {a : Act} {Q : Exit → Act → World → Prop} (hgd : o.guard = none) (s x : Operand) (t : TypeId)
  (ho : o.op = .call { callee := .builtin .append, args := #[s, x], argTypes := #[t, t] })
  (base : Nat) (e : TypeId) (i : TypeInfo) (z : Value) (size bytes : Nat) (ht : P.underlying t = some (.slice e)) (hi : P.info? e = some i) (hz : i.zero = some z)
  (hsize : i.size = size) (hby : i.bytes = bytes) (hzs : z.cells.size = size) (hsz : 0 < size)
  (v : Value) (n : Nat) (xs : List Value) (hs : a.eval s = v) (hown : w.ownsRow base e size v n xs)
  (b2 : Nat) (vx : Value) (m : Nat) (ys : List Value) (hx : a.eval x = vx) (hO : w.ownsRow b2 e size vx m ys) (h1 : ∀ u ∈ ys, u.oneCell' = true)
  (h63 : n + m ≤ maxLen) (hbytes : (n + m) * bytes ≤ 140737488355328) (hbase : base ≤ w.heap.size)
  (h : ∀ v' w', w'.ownsRow base e size v' (n + m) (xs ++ ys) → w.grownBy w' v.ownBlock → wpList P ops Q rest (a.put o.dst v') w') : wpList P ops Q (o :: rest) a w := by
 rcases hO.2 with ⟨rfl, rfl⟩ | ⟨g, cap, cur, rfl, _⟩
 ·have e0 : ys = [] := List.length_eq_zero_iff.1 (by rw [hO.1]; omega)
  subst e0
  exact wpList_append_own_none hgd s x t ho base e i size ht hi v n xs hs hown hx (h v w (by simpa using hown) (World.grownBy.refl _ _))
 ·exact wpList_append_own_at w hgd s x t ho base e i z size bytes ht hi hz hsize hby hzs hsz v n xs hs hown ⟨g, 0, none⟩ m cap ys hx hO.1 (World.ownsRow.cells hO rfl) h1 h63 hbytes hbase (fun v' w' h2 h3 _ _ => h v' w' h2 h3)
/-- What Join of the reference has made: the box, and the rows that it holds. -/
structure JnR (W5 W : World) (bo : Nat) (cs : Array Value) (v1 va v5 : Value) (o c : List Lt) (n : Nat) (g : Nat → Dl) : Prop where
 e : Qa W5 W
 b : Qb W bo 31 cs
 s1 : Jk W W5.heap.size v1 o
 s5 : Jk W W5.heap.size v5 c
 da : Zr W W5.heap.size va n g
 lb : W5.heap.size ≤ bo
section
variable {W5 W W' : World} {bo n m : Nat} {cs : Array Value} {v1 va v5 v' : Value} {o c o' c' : List Lt} {g g2 : Nat → Dl} {vs1 vs2 : Nat → Value}
theorem JnR.ext (h : JnR W5 W bo cs v1 va v5 o c n g) (x : Qa W W') : JnR W5 W' bo cs v1 va v5 o c n g :=
 ⟨h.e.trans x, h.b.ext x, Z2 h.s1 x, Z2 h.s5 x, h.da.ext x, h.lb⟩
theorem JnR.set (h : JnR W5 W bo cs v1 va v5 o c n g) (i : Nat) (u : Value) : JnR W5 (W.setCell ⟨bo, i, none⟩ u) bo (cs.setIfInBounds i u) v1 va v5 o c n g :=
 ⟨h.e.setCell (p := ⟨bo, i, none⟩) h.lb u, Jc h.b i u, Zl h.b (by decide) h.s1 i u, Zl h.b (by decide) h.s5 i u, Zr.set h.b (by decide) (by decide) h.da i u, h.lb⟩
theorem JnR.close (h : JnR W5 W bo cs v1 va v5 o c n g) (hu : Jk W W5.heap.size v' c') : JnR W5 W bo cs v1 va v' o c' n g := ⟨h.e, h.b, h.s1, hu, h.da, h.lb⟩
theorem JnR.push (h : JnR W5 W bo cs v1 va v5 o c n g) (hO : W.ownsRow W5.heap.size 70 7 va n (Qy (fun i => Qs (g i) (vs1 i)) n)) (hL1 : ∀ i, i < n → Jk W W5.heap.size (vs1 i) (g i).l) (hL2 : ∀ i, i < m → Jk W W5.heap.size (vs2 i) (g2 i).l)
  (hown : W'.ownsRow W5.heap.size 70 7 v' (n + m) (Qy (fun i => Qs (g i) (vs1 i)) n ++ Qy (fun i => Qs (g2 i) (vs2 i)) m)) (hg : W.grownBy W' va.ownBlock) : JnR W5 W' bo cs v1 v' v5 o c (n + m) (fun i => if i < n then g i else g2 (i - n)) := by
 have keep : ∀ {v : Value} {l : List Lt}, Jk W W5.heap.size v l → Jk W' W5.heap.size v l := fun h => World.ownsRow.kept h hg (Om h hO (by decide))
 refine ⟨h.e.grown hg (fun q hq => (hO.lt q hq).1), h.b.kept hg (h.b.not_row (by decide) hO), keep h.s1, keep h.s5, ⟨fun i => if i < n then vs1 i else vs2 (i - n), ?_, fun i hi => ?_⟩, h.lb⟩
 ·rw [Nr] at hown
  rw [Wz (f' := fun i => if i < n then Qs (g i) (vs1 i) else Qs (g2 (i - n)) (vs2 (i - n))) (n + m) (fun i _ => by
   by_cases e : i < n
   ·simp [e]
   ·simp [e])]
  exact hown
 ·by_cases e : i < n
  ·simpa [e] using keep (hL1 i e)
  ·simpa [e] using keep (hL2 (i - n) (by omega))
end
theorem jn_no70 {c : Qf} {x y : Pd} (h : c.valid = false) : c.validE [x, y] = 70 := by
 unfold Qf.validE Qf.chk; rw [h]; rfl
theorem jn_no83 {c : Qf} {x y : Pd} (hv : c.valid = true) (h : c.perOk x = false ∨ c.perOk y = false) : c.validE [x, y] = 83 := by
 unfold Qf.validE Qf.chk Qf.persE
 rw [hv]
 rcases h with h | h
 ·simp [h]
 ·simp [h]
theorem jn_yes0 {c : Qf} {x y : Pd} (hv : c.valid = true) (h1 : c.perOk x = true) (h2 : c.perOk y = true) : c.validE [x, y] = 0 := by
 unfold Qf.validE Qf.chk Qf.persE
 rw [hv]
 simp [h1, h2]
theorem joinR_any (A A' : Option Addr) (ca cb : Nat) (c : Qf) (x y : Pd) (xo xd xc yo yd yc : Value) (w : World) (hC : Q0 w A ca A' cb c) (hX : Zz w x xo xd xc) (hY : Zz w y yo yd yc) :
  Calls Tryz.prog 26 #[.agg #[.slice A c.nk ca, .slice A' c.ny cb], .agg #[.string x.h, .int .i64 x.a.y, .int .i64 x.a.m, .bool x.a.s, .int .i64 x.a.d, .int .i64 x.b.y, .int .i64 x.b.m, .bool x.b.s, .int .i64 x.b.d, xo, xd, xc], .agg #[.string y.h, .int .i64 y.a.y, .int .i64 y.a.m, .bool y.a.s, .int .i64 y.a.d, .int .i64 y.b.y, .int .i64 y.b.m, .bool y.b.s, .int .i64 y.b.d, yo, yd, yc]] w fun e w' => ∃ vo vd vc, e = .returned (.tuple #[.agg #[.string (c.joinP x y).h, .int .i64 (c.joinP x y).a.y, .int .i64 (c.joinP x y).a.m, .bool (c.joinP x y).a.s, .int .i64 (c.joinP x y).a.d, .int .i64 (c.joinP x y).b.y, .int .i64 (c.joinP x y).b.m, .bool (c.joinP x y).b.s, .int .i64 (c.joinP x y).b.d, vo, vd, vc], .int .i64 (c.joinE x y)]) ∧ Qa w w' ∧ Zz w' (c.joinP x y) vo vd vc := by
 obtain ⟨t1, s1, e1, _⟩ := id hX.o
 subst e1
 obtain ⟨t2, s2, _, e2, _⟩ := id hX.d
 subst e2
 obtain ⟨t3, s3, e3, _⟩ := id hX.c
 subst e3
 obtain ⟨t4, s4, e4, _⟩ := id hY.o
 subst e4
 obtain ⟨t5, s5, _, e5, _⟩ := id hY.d
 subst e5
 obtain ⟨t6, s6, e6, _⟩ := id hY.c
 subst e6
 have NV := fun w h => Qcq A A' ca cb c w h
 obtain ⟨RE, hRE⟩ := Qg (c.joinE x y)
 obtain ⟨RX, hRX⟩ := Qg (c.joinP x y)
 rw [← hRE, ← hRX]
 have HR := Lib.hid (And.intro hRE hRX)
 clear hRE hRX
 obtain ⟨vb, hvb⟩ := Qg (c.valid)
 simp only [← hvb] at NV
 replace hvb := Lib.hid hvb
 go_enter Tryz.func26, Tryz.ntmps26
 go_upto_region 1 with (fail)
 obtain ⟨v, hv⟩ := Qg ((((w.alloc (.cells #[.slice A c.nk ca, .slice A' c.ny cb] 25)).alloc (.cells #[.string x.h, .int .i64 x.a.y, .int .i64 x.a.m, .bool x.a.s, .int .i64 x.a.d, .int .i64 x.b.y, .int .i64 x.b.m, .bool x.b.s, .int .i64 x.b.d, .slice t1 x.o.length s1, .slice t2 x.d.length s2, .slice t3 x.c.length s3] 31)).alloc (.cells #[.string y.h, .int .i64 y.a.y, .int .i64 y.a.m, .bool y.a.s, .int .i64 y.a.d, .int .i64 y.b.y, .int .i64 y.b.m, .bool y.b.s, .int .i64 y.b.d, .slice t4 y.o.length s4, .slice t5 y.d.length s5, .slice t6 y.c.length s6] 31)).alloc (.cells #[.string ⟨#[]⟩, .int .i64 0, .int .i64 0, .bool false, .int .i64 0, .int .i64 0, .int .i64 0, .bool false, .int .i64 0, .slice none 0 0, .slice none 0 0, .slice none 0 0] 31))
 rw [← hv]
 have E : Qa w v := by rw [hv]; exact ((((Qa.refl _).alloc _).alloc _).alloc _).alloc _
 have B1 : Qb v w.heap.size 25 #[.slice A c.nk ca, .slice A' c.ny cb] := by rw [hv]; exact (((Qb.new _ _ _).alloc _).alloc _).alloc _
 have B2 : Qb v (w.heap.size + 1) 31 #[.string x.h, .int .i64 x.a.y, .int .i64 x.a.m, .bool x.a.s, .int .i64 x.a.d, .int .i64 x.b.y, .int .i64 x.b.m, .bool x.b.s, .int .i64 x.b.d, .slice t1 x.o.length s1, .slice t2 x.d.length s2, .slice t3 x.c.length s3] := by rw [hv]; exact ((Qb.at _ _ _ _ (by simp)).alloc _).alloc _
 have B3 : Qb v (w.heap.size + 1 + 1) 31 #[.string y.h, .int .i64 y.a.y, .int .i64 y.a.m, .bool y.a.s, .int .i64 y.a.d, .int .i64 y.b.y, .int .i64 y.b.m, .bool y.b.s, .int .i64 y.b.d, .slice t4 y.o.length s4, .slice t5 y.d.length s5, .slice t6 y.c.length s6] := by rw [hv]; exact (Qb.at _ _ _ _ (by simp)).alloc _
 have B4 : Qb v (w.heap.size + 1 + 1 + 1) 31 #[.string ⟨#[]⟩, .int .i64 0, .int .i64 0, .bool false, .int .i64 0, .int .i64 0, .int .i64 0, .bool false, .int .i64 0, .slice none 0 0, .slice none 0 0, .slice none 0 0] := by rw [hv]; exact Qb.at _ _ _ _ (by simp)
 clear hv
 obtain ⟨b4, hb4⟩ := Qg (w.heap.size + 1 + 1 + 1)
 rw [← hb4] at B4 ⊢
 obtain ⟨b3, hb3⟩ := Qg (w.heap.size + 1 + 1)
 rw [← hb3] at B3 ⊢
 obtain ⟨b2, hb2⟩ := Qg (w.heap.size + 1)
 rw [← hb2] at B2 ⊢
 obtain ⟨b1, hb1⟩ := Qg (w.heap.size)
 rw [← hb1] at B1 ⊢
 have hbr : w.heap.size ≤ b4 := by omega
 have hbr1 : w.heap.size ≤ b1 := by omega
 have hbr2 : w.heap.size ≤ b2 := by omega
 have hbr3 : w.heap.size ≤ b3 := by omega
 have hn21 : b2 ≠ b1 := by omega
 have hn31 : b3 ≠ b1 := by omega
 have hn32 : b3 ≠ b2 := by omega
 have hn41 : b4 ≠ b1 := by omega
 have hn42 : b4 ≠ b2 := by omega
 have hn43 : b4 ≠ b3 := by omega
 clear hb1 hb2 hb3 hb4
 have C := hC.ext E
 clear hC
 obtain ⟨k0, k1⟩ := B1.c2
 have kl := B1.lt
 obtain ⟨p0, p1, p2, p3, p4, p5, p6, p7, p8, p9, p10, p11⟩ := B2.c12
 have pl := B2.lt
 obtain ⟨q0, q1, q2, q3, q4, q5, q6, q7, q8, q9, q10, q11⟩ := B3.c12
 have ql := B3.lt
 cases vb
 ·have hr := Lc (jn_no70 (x := x) (y := y) hvb.out.symm) (by decide)
  obtain rfl : RE = 70 := HR.out.1.trans hr.1
  obtain rfl : RX = Yu := HR.out.2.trans hr.2
  clear HR hr hvb
  go_upto_region 2 with (go_at_call 31; (with_reducible refine Calls.mono (NV _ C) ?_); rintro e w1 ⟨rfl, hx⟩; replace E := E.trans hx; replace C := C.ext hx; replace B4 := B4.ext hx; replace B1 := B1.ext hx; replace B2 := B2.ext hx; replace B3 := B3.ext hx; clear hx; clear k0 k1 kl p0 p1 p2 p3 p4 p5 p6 p7 p8 p9 p10 p11 pl q0 q1 q2 q3 q4 q5 q6 q7 q8 q9 q10 q11 ql; obtain ⟨k0, k1⟩ := B1.c2; have kl := B1.lt; obtain ⟨p0, p1, p2, p3, p4, p5, p6, p7, p8, p9, p10, p11⟩ := B2.c12; have pl := B2.lt; obtain ⟨q0, q1, q2, q3, q4, q5, q6, q7, q8, q9, q10, q11⟩ := B3.c12; have ql := B3.lt)
  clear k0 k1 kl p0 p1 p2 p3 p4 p5 p6 p7 p8 p9 p10 p11 pl q0 q1 q2 q3 q4 q5 q6 q7 q8 q9 q10 q11 ql
  obtain ⟨z0, z1, z2, z3, z4, z5, z6, z7, z8, z9, z10, z11⟩ := Qb.f12 B4
  obtain ⟨x0, x1, x2, x3, x4, x5, x6, x7, x8, x9, x10, x11⟩ := Qb.c12 B4
  have xl := Qb.lt B4
  go_wp2
  rw [Wd B4]
  refine bodyPost_ret (v := .tuple #[.agg #[.string ⟨#[]⟩, .int .i64 0, .int .i64 0, .bool false, .int .i64 0, .int .i64 0, .int .i64 0, .bool false, .int .i64 0, .slice none 0 0, .slice none 0 0, .slice none 0 0], .int .i64 70]) (by simp [results, Tryz.results26, go_sem, x0, x1, x2, x3, x4, x5, x6, x7, x8, x9, x10, x11]) rfl ⟨_, _, _, rfl, E, Vn _⟩
 have hv := hvb.out.symm
 clear hvb
 go_upto_region 3 with (go_at_call 31; (with_reducible refine Calls.mono (NV _ C) ?_); rintro e w1 ⟨rfl, hx⟩; replace E := E.trans hx; replace C := C.ext hx; replace B4 := B4.ext hx; replace B1 := B1.ext hx; replace B2 := B2.ext hx; replace B3 := B3.ext hx; clear hx; clear k0 k1 kl p0 p1 p2 p3 p4 p5 p6 p7 p8 p9 p10 p11 pl q0 q1 q2 q3 q4 q5 q6 q7 q8 q9 q10 q11 ql; obtain ⟨k0, k1⟩ := B1.c2; have kl := B1.lt; obtain ⟨p0, p1, p2, p3, p4, p5, p6, p7, p8, p9, p10, p11⟩ := B2.c12; have pl := B2.lt; obtain ⟨q0, q1, q2, q3, q4, q5, q6, q7, q8, q9, q10, q11⟩ := B3.c12; have ql := B3.lt)
 have NX := fun w h1 h2 => Sq A A' ca cb c x (.slice t1 x.o.length s1) (.slice t2 x.d.length s2) (.slice t3 x.c.length s3) w h1 hv h2
 have NY := fun w h1 h2 => Sq A A' ca cb c y (.slice t4 y.o.length s4) (.slice t5 y.d.length s5) (.slice t6 y.c.length s6) w h1 hv h2
 obtain ⟨px, hpx⟩ := Qg (c.perOk x)
 obtain ⟨py, hpy⟩ := Qg (c.perOk y)
 simp only [← hpx] at NX
 simp only [← hpy] at NY
 replace hpx := Lib.hid hpx
 replace hpy := Lib.hid hpy
 clear NV
 cases px
 ·have hr := Lc (jn_no83 (x := x) (y := y) hv (.inl hpx.out.symm)) (by decide)
  obtain rfl : RE = 83 := HR.out.1.trans hr.1
  obtain rfl : RX = Yu := HR.out.2.trans hr.2
  clear HR hr hpx hpy
  go_upto_region 4 with (first | (go_at_call 32; (with_reducible refine Calls.mono (NX _ C (hX.ext E)) ?_); rintro e w2 ⟨rfl, hx⟩; replace E := E.trans hx; replace C := C.ext hx; replace B4 := B4.ext hx; replace B1 := B1.ext hx; replace B2 := B2.ext hx; replace B3 := B3.ext hx; clear hx; clear k0 k1 kl p0 p1 p2 p3 p4 p5 p6 p7 p8 p9 p10 p11 pl q0 q1 q2 q3 q4 q5 q6 q7 q8 q9 q10 q11 ql; obtain ⟨k0, k1⟩ := B1.c2; have kl := B1.lt; obtain ⟨p0, p1, p2, p3, p4, p5, p6, p7, p8, p9, p10, p11⟩ := B2.c12; have pl := B2.lt; obtain ⟨q0, q1, q2, q3, q4, q5, q6, q7, q8, q9, q10, q11⟩ := B3.c12; have ql := B3.lt) | (go_at_call 32; (with_reducible refine Calls.mono (NY _ C (hY.ext E)) ?_); rintro e w3 ⟨rfl, hx⟩; replace E := E.trans hx; replace C := C.ext hx; replace B4 := B4.ext hx; replace B1 := B1.ext hx; replace B2 := B2.ext hx; replace B3 := B3.ext hx; clear hx; clear k0 k1 kl p0 p1 p2 p3 p4 p5 p6 p7 p8 p9 p10 p11 pl q0 q1 q2 q3 q4 q5 q6 q7 q8 q9 q10 q11 ql; obtain ⟨k0, k1⟩ := B1.c2; have kl := B1.lt; obtain ⟨p0, p1, p2, p3, p4, p5, p6, p7, p8, p9, p10, p11⟩ := B2.c12; have pl := B2.lt; obtain ⟨q0, q1, q2, q3, q4, q5, q6, q7, q8, q9, q10, q11⟩ := B3.c12; have ql := B3.lt))
  clear k0 k1 kl p0 p1 p2 p3 p4 p5 p6 p7 p8 p9 p10 p11 pl q0 q1 q2 q3 q4 q5 q6 q7 q8 q9 q10 q11 ql
  obtain ⟨z0, z1, z2, z3, z4, z5, z6, z7, z8, z9, z10, z11⟩ := Qb.f12 B4
  obtain ⟨x0, x1, x2, x3, x4, x5, x6, x7, x8, x9, x10, x11⟩ := Qb.c12 B4
  have xl := Qb.lt B4
  go_wp2
  rw [Wd B4]
  refine bodyPost_ret (v := .tuple #[.agg #[.string ⟨#[]⟩, .int .i64 0, .int .i64 0, .bool false, .int .i64 0, .int .i64 0, .int .i64 0, .bool false, .int .i64 0, .slice none 0 0, .slice none 0 0, .slice none 0 0], .int .i64 83]) (by simp [results, Tryz.results26, go_sem, x0, x1, x2, x3, x4, x5, x6, x7, x8, x9, x10, x11]) rfl ⟨_, _, _, rfl, E, Vn _⟩
 cases py
 ·have hr := Lc (jn_no83 (x := x) (y := y) hv (.inr hpy.out.symm)) (by decide)
  obtain rfl : RE = 83 := HR.out.1.trans hr.1
  obtain rfl : RX = Yu := HR.out.2.trans hr.2
  clear HR hr hpx hpy
  go_upto_region 4 with (first | (go_at_call 32; (with_reducible refine Calls.mono (NX _ C (hX.ext E)) ?_); rintro e w2 ⟨rfl, hx⟩; replace E := E.trans hx; replace C := C.ext hx; replace B4 := B4.ext hx; replace B1 := B1.ext hx; replace B2 := B2.ext hx; replace B3 := B3.ext hx; clear hx; clear k0 k1 kl p0 p1 p2 p3 p4 p5 p6 p7 p8 p9 p10 p11 pl q0 q1 q2 q3 q4 q5 q6 q7 q8 q9 q10 q11 ql; obtain ⟨k0, k1⟩ := B1.c2; have kl := B1.lt; obtain ⟨p0, p1, p2, p3, p4, p5, p6, p7, p8, p9, p10, p11⟩ := B2.c12; have pl := B2.lt; obtain ⟨q0, q1, q2, q3, q4, q5, q6, q7, q8, q9, q10, q11⟩ := B3.c12; have ql := B3.lt) | (go_at_call 32; (with_reducible refine Calls.mono (NY _ C (hY.ext E)) ?_); rintro e w3 ⟨rfl, hx⟩; replace E := E.trans hx; replace C := C.ext hx; replace B4 := B4.ext hx; replace B1 := B1.ext hx; replace B2 := B2.ext hx; replace B3 := B3.ext hx; clear hx; clear k0 k1 kl p0 p1 p2 p3 p4 p5 p6 p7 p8 p9 p10 p11 pl q0 q1 q2 q3 q4 q5 q6 q7 q8 q9 q10 q11 ql; obtain ⟨k0, k1⟩ := B1.c2; have kl := B1.lt; obtain ⟨p0, p1, p2, p3, p4, p5, p6, p7, p8, p9, p10, p11⟩ := B2.c12; have pl := B2.lt; obtain ⟨q0, q1, q2, q3, q4, q5, q6, q7, q8, q9, q10, q11⟩ := B3.c12; have ql := B3.lt))
  clear k0 k1 kl p0 p1 p2 p3 p4 p5 p6 p7 p8 p9 p10 p11 pl q0 q1 q2 q3 q4 q5 q6 q7 q8 q9 q10 q11 ql
  obtain ⟨z0, z1, z2, z3, z4, z5, z6, z7, z8, z9, z10, z11⟩ := Qb.f12 B4
  obtain ⟨x0, x1, x2, x3, x4, x5, x6, x7, x8, x9, x10, x11⟩ := Qb.c12 B4
  have xl := Qb.lt B4
  go_wp2
  rw [Wd B4]
  refine bodyPost_ret (v := .tuple #[.agg #[.string ⟨#[]⟩, .int .i64 0, .int .i64 0, .bool false, .int .i64 0, .int .i64 0, .int .i64 0, .bool false, .int .i64 0, .slice none 0 0, .slice none 0 0, .slice none 0 0], .int .i64 83]) (by simp [results, Tryz.results26, go_sem, x0, x1, x2, x3, x4, x5, x6, x7, x8, x9, x10, x11]) rfl ⟨_, _, _, rfl, E, Vn _⟩
 go_upto_region 5 with (first | (go_at_call 32; (with_reducible refine Calls.mono (NX _ C (hX.ext E)) ?_); rintro e w2 ⟨rfl, hx⟩; replace E := E.trans hx; replace C := C.ext hx; replace B4 := B4.ext hx; replace B1 := B1.ext hx; replace B2 := B2.ext hx; replace B3 := B3.ext hx; clear hx; clear k0 k1 kl p0 p1 p2 p3 p4 p5 p6 p7 p8 p9 p10 p11 pl q0 q1 q2 q3 q4 q5 q6 q7 q8 q9 q10 q11 ql; obtain ⟨k0, k1⟩ := B1.c2; have kl := B1.lt; obtain ⟨p0, p1, p2, p3, p4, p5, p6, p7, p8, p9, p10, p11⟩ := B2.c12; have pl := B2.lt; obtain ⟨q0, q1, q2, q3, q4, q5, q6, q7, q8, q9, q10, q11⟩ := B3.c12; have ql := B3.lt) | (go_at_call 32; (with_reducible refine Calls.mono (NY _ C (hY.ext E)) ?_); rintro e w3 ⟨rfl, hx⟩; replace E := E.trans hx; replace C := C.ext hx; replace B4 := B4.ext hx; replace B1 := B1.ext hx; replace B2 := B2.ext hx; replace B3 := B3.ext hx; clear hx; clear k0 k1 kl p0 p1 p2 p3 p4 p5 p6 p7 p8 p9 p10 p11 pl q0 q1 q2 q3 q4 q5 q6 q7 q8 q9 q10 q11 ql; obtain ⟨k0, k1⟩ := B1.c2; have kl := B1.lt; obtain ⟨p0, p1, p2, p3, p4, p5, p6, p7, p8, p9, p10, p11⟩ := B2.c12; have pl := B2.lt; obtain ⟨q0, q1, q2, q3, q4, q5, q6, q7, q8, q9, q10, q11⟩ := B3.c12; have ql := B3.lt))
 have h0 := Lib.hid (jn_yes0 hv hpx.out.symm hpy.out.symm)
 have hxok := Ly hpx.out.symm
 have hyok := Ly hpy.out.symm
 clear NX NY hpx hpy
 have NBH := fun w h1 h2 h3 => Be A A' ca cb c x y (.slice t1 x.o.length s1) (.slice t2 x.d.length s2) (.slice t3 x.c.length s3) (.slice t4 y.o.length s4) (.slice t5 y.d.length s5) (.slice t6 y.c.length s6) w h1 hv h2 h3
 have NEQ := fun w h1 h2 => Qb5 (.slice t3 x.c.length s3) (.slice t4 y.o.length s4) x.c y.o w h1 h2
 have hxd := hxok.d
 have hyd := hyok.d
 obtain ⟨bh, hbh⟩ := Qg (c.behV x y)
 obtain ⟨eq, heq⟩ := Qg (decide (x.c = y.o))
 simp only [← hbh] at NBH
 simp only [← heq] at NEQ
 replace hbh := Lib.hid hbh
 replace heq := Lib.hid heq
 cases bh
 ·have hr := Lf h0.out (by rw [← hbh.out, ← heq.out]; rfl)
  obtain rfl : RE = 84 := HR.out.1.trans hr.1
  obtain rfl : RX = Yu := HR.out.2.trans hr.2
  clear HR hr h0 hbh heq hxok hyok
  go_upto_region 6 with (first | (go_at_call 51; (with_reducible refine Calls.mono (NBH _ C (hX.ext E) (hY.ext E)) ?_); rintro e w4 ⟨rfl, hx⟩; replace E := E.trans hx; replace C := C.ext hx; replace B4 := B4.ext hx; replace B1 := B1.ext hx; replace B2 := B2.ext hx; replace B3 := B3.ext hx; clear hx; clear k0 k1 kl p0 p1 p2 p3 p4 p5 p6 p7 p8 p9 p10 p11 pl q0 q1 q2 q3 q4 q5 q6 q7 q8 q9 q10 q11 ql; obtain ⟨k0, k1⟩ := B1.c2; have kl := B1.lt; obtain ⟨p0, p1, p2, p3, p4, p5, p6, p7, p8, p9, p10, p11⟩ := B2.c12; have pl := B2.lt; obtain ⟨q0, q1, q2, q3, q4, q5, q6, q7, q8, q9, q10, q11⟩ := B3.c12; have ql := B3.lt) | (go_at_call 13; (with_reducible refine Calls.mono (NEQ _ (hX.ext E).c (hY.ext E).o) ?_); rintro e w5 ⟨rfl, hx⟩; replace E := E.trans hx; replace C := C.ext hx; replace B4 := B4.ext hx; replace B1 := B1.ext hx; replace B2 := B2.ext hx; replace B3 := B3.ext hx; clear hx; clear k0 k1 kl p0 p1 p2 p3 p4 p5 p6 p7 p8 p9 p10 p11 pl q0 q1 q2 q3 q4 q5 q6 q7 q8 q9 q10 q11 ql; obtain ⟨k0, k1⟩ := B1.c2; have kl := B1.lt; obtain ⟨p0, p1, p2, p3, p4, p5, p6, p7, p8, p9, p10, p11⟩ := B2.c12; have pl := B2.lt; obtain ⟨q0, q1, q2, q3, q4, q5, q6, q7, q8, q9, q10, q11⟩ := B3.c12; have ql := B3.lt))
  clear k0 k1 kl p0 p1 p2 p3 p4 p5 p6 p7 p8 p9 p10 p11 pl q0 q1 q2 q3 q4 q5 q6 q7 q8 q9 q10 q11 ql
  obtain ⟨z0, z1, z2, z3, z4, z5, z6, z7, z8, z9, z10, z11⟩ := Qb.f12 B4
  obtain ⟨x0, x1, x2, x3, x4, x5, x6, x7, x8, x9, x10, x11⟩ := Qb.c12 B4
  have xl := Qb.lt B4
  go_wp2
  rw [Wd B4]
  refine bodyPost_ret (v := .tuple #[.agg #[.string ⟨#[]⟩, .int .i64 0, .int .i64 0, .bool false, .int .i64 0, .int .i64 0, .int .i64 0, .bool false, .int .i64 0, .slice none 0 0, .slice none 0 0, .slice none 0 0], .int .i64 84]) (by simp [results, Tryz.results26, go_sem, x0, x1, x2, x3, x4, x5, x6, x7, x8, x9, x10, x11]) rfl ⟨_, _, _, rfl, E, Vn _⟩
 cases eq
 ·have hr := Lf h0.out (by rw [← hbh.out, ← heq.out]; rfl)
  obtain rfl : RE = 84 := HR.out.1.trans hr.1
  obtain rfl : RX = Yu := HR.out.2.trans hr.2
  clear HR hr h0 hbh heq hxok hyok
  go_upto_region 6 with (first | (go_at_call 51; (with_reducible refine Calls.mono (NBH _ C (hX.ext E) (hY.ext E)) ?_); rintro e w4 ⟨rfl, hx⟩; replace E := E.trans hx; replace C := C.ext hx; replace B4 := B4.ext hx; replace B1 := B1.ext hx; replace B2 := B2.ext hx; replace B3 := B3.ext hx; clear hx; clear k0 k1 kl p0 p1 p2 p3 p4 p5 p6 p7 p8 p9 p10 p11 pl q0 q1 q2 q3 q4 q5 q6 q7 q8 q9 q10 q11 ql; obtain ⟨k0, k1⟩ := B1.c2; have kl := B1.lt; obtain ⟨p0, p1, p2, p3, p4, p5, p6, p7, p8, p9, p10, p11⟩ := B2.c12; have pl := B2.lt; obtain ⟨q0, q1, q2, q3, q4, q5, q6, q7, q8, q9, q10, q11⟩ := B3.c12; have ql := B3.lt) | (go_at_call 13; (with_reducible refine Calls.mono (NEQ _ (hX.ext E).c (hY.ext E).o) ?_); rintro e w5 ⟨rfl, hx⟩; replace E := E.trans hx; replace C := C.ext hx; replace B4 := B4.ext hx; replace B1 := B1.ext hx; replace B2 := B2.ext hx; replace B3 := B3.ext hx; clear hx; clear k0 k1 kl p0 p1 p2 p3 p4 p5 p6 p7 p8 p9 p10 p11 pl q0 q1 q2 q3 q4 q5 q6 q7 q8 q9 q10 q11 ql; obtain ⟨k0, k1⟩ := B1.c2; have kl := B1.lt; obtain ⟨p0, p1, p2, p3, p4, p5, p6, p7, p8, p9, p10, p11⟩ := B2.c12; have pl := B2.lt; obtain ⟨q0, q1, q2, q3, q4, q5, q6, q7, q8, q9, q10, q11⟩ := B3.c12; have ql := B3.lt))
  clear k0 k1 kl p0 p1 p2 p3 p4 p5 p6 p7 p8 p9 p10 p11 pl q0 q1 q2 q3 q4 q5 q6 q7 q8 q9 q10 q11 ql
  obtain ⟨z0, z1, z2, z3, z4, z5, z6, z7, z8, z9, z10, z11⟩ := Qb.f12 B4
  obtain ⟨x0, x1, x2, x3, x4, x5, x6, x7, x8, x9, x10, x11⟩ := Qb.c12 B4
  have xl := Qb.lt B4
  go_wp2
  rw [Wd B4]
  refine bodyPost_ret (v := .tuple #[.agg #[.string ⟨#[]⟩, .int .i64 0, .int .i64 0, .bool false, .int .i64 0, .int .i64 0, .int .i64 0, .bool false, .int .i64 0, .slice none 0 0, .slice none 0 0, .slice none 0 0], .int .i64 84]) (by simp [results, Tryz.results26, go_sem, x0, x1, x2, x3, x4, x5, x6, x7, x8, x9, x10, x11]) rfl ⟨_, _, _, rfl, E, Vn _⟩
 go_upto_region 7 with (first | (go_at_call 51; (with_reducible refine Calls.mono (NBH _ C (hX.ext E) (hY.ext E)) ?_); rintro e w4 ⟨rfl, hx⟩; replace E := E.trans hx; replace C := C.ext hx; replace B4 := B4.ext hx; replace B1 := B1.ext hx; replace B2 := B2.ext hx; replace B3 := B3.ext hx; clear hx; clear k0 k1 kl p0 p1 p2 p3 p4 p5 p6 p7 p8 p9 p10 p11 pl q0 q1 q2 q3 q4 q5 q6 q7 q8 q9 q10 q11 ql; obtain ⟨k0, k1⟩ := B1.c2; have kl := B1.lt; obtain ⟨p0, p1, p2, p3, p4, p5, p6, p7, p8, p9, p10, p11⟩ := B2.c12; have pl := B2.lt; obtain ⟨q0, q1, q2, q3, q4, q5, q6, q7, q8, q9, q10, q11⟩ := B3.c12; have ql := B3.lt) | (go_at_call 13; (with_reducible refine Calls.mono (NEQ _ (hX.ext E).c (hY.ext E).o) ?_); rintro e w5 ⟨rfl, hx⟩; replace E := E.trans hx; replace C := C.ext hx; replace B4 := B4.ext hx; replace B1 := B1.ext hx; replace B2 := B2.ext hx; replace B3 := B3.ext hx; clear hx; clear k0 k1 kl p0 p1 p2 p3 p4 p5 p6 p7 p8 p9 p10 p11 pl q0 q1 q2 q3 q4 q5 q6 q7 q8 q9 q10 q11 ql; obtain ⟨k0, k1⟩ := B1.c2; have kl := B1.lt; obtain ⟨p0, p1, p2, p3, p4, p5, p6, p7, p8, p9, p10, p11⟩ := B2.c12; have pl := B2.lt; obtain ⟨q0, q1, q2, q3, q4, q5, q6, q7, q8, q9, q10, q11⟩ := B3.c12; have ql := B3.lt))
 have hb2 : (c.behV x y && decide (x.c = y.o)) = true := by rw [← hbh.out, ← heq.out]; rfl
 clear NBH NEQ hbh heq
 by_cases h64 : 64 < x.d.length + y.d.length
 ·have hr := Fx h0.out hb2 h64
  obtain rfl : RE = 3 := HR.out.1.trans hr.1
  obtain rfl : RX = Yu := HR.out.2.trans hr.2
  clear HR hr h0 hb2 hxok hyok
  have hI : (64 : Int) < (x.d.length : Int) + (y.d.length : Int) := by omega
  go_upto_region 8 with (fail)
  clear k0 k1 kl p0 p1 p2 p3 p4 p5 p6 p7 p8 p9 p10 p11 pl q0 q1 q2 q3 q4 q5 q6 q7 q8 q9 q10 q11 ql
  obtain ⟨z0, z1, z2, z3, z4, z5, z6, z7, z8, z9, z10, z11⟩ := Qb.f12 B4
  obtain ⟨x0, x1, x2, x3, x4, x5, x6, x7, x8, x9, x10, x11⟩ := Qb.c12 B4
  have xl := Qb.lt B4
  go_wp2
  rw [Wd B4]
  refine bodyPost_ret (v := .tuple #[.agg #[.string ⟨#[]⟩, .int .i64 0, .int .i64 0, .bool false, .int .i64 0, .int .i64 0, .int .i64 0, .bool false, .int .i64 0, .slice none 0 0, .slice none 0 0, .slice none 0 0], .int .i64 3]) (by simp [results, Tryz.results26, go_sem, x0, x1, x2, x3, x4, x5, x6, x7, x8, x9, x10, x11]) rfl ⟨_, _, _, rfl, E, Vn _⟩
 have hr := Fy h0.out hb2 h64
 obtain rfl : RE = 0 := HR.out.1.trans hr.1
 have hRX : Hid (RX = ⟨x.h, x.a, y.b, x.o, x.d ++ y.d, y.c⟩) := HR.out.2.trans hr.2
 have hrx := hRX.out
 subst hrx
 clear HR hr h0 hb2 hRX
 have hI : decide ((64 : Int) < (x.d.length : Int) + (y.d.length : Int)) = false := decide_eq_false (by omega)
 have hxo64 := hxok.o
 have hxc64 := hxok.k
 have hyc64 := hyok.k
 have hxl : Hid (∀ i, i < x.d.length → (x.d.getD i Qr).l.length * 24 ≤ 140737488351232) := fun i hi => by have := hxok.l i hi; omega
 have hyl : Hid (∀ i, i < y.d.length → (y.d.getD i Qr).l.length * 24 ≤ 140737488351232) := fun i hi => by have := hyok.l i hi; omega
 clear hxok hyok
 go_upto_region 9 with (fail)
 have NCP := fun w h => Nh x (.slice t1 x.o.length s1) (.slice t2 x.d.length s2) (.slice t3 x.c.length s3) w h (by omega) (by omega) hxl.out (by omega)
 have NK := fun w h => Gv (.slice t5 y.d.length s5) y.d w h hyl.out (by omega)
 have NCL := fun w h => Kz (.slice t6 y.c.length s6) y.c w h (by omega)
 clear hxl hyl hI
 go_upto_region 10 with (go_at_call 8; (with_reducible refine Calls.mono (NCP _ (hX.ext E)) ?_); rintro e w6 ⟨vo1, vd1, vc1, rfl, J, PO⟩; obtain ⟨F1, m1, rfl⟩ := Q9 PO.o; obtain ⟨F2, m2, rfl⟩ := J1 PO.d; obtain ⟨F3, m3, rfl⟩ := Q9 PO.c; clear NCP k0 k1 kl p0 p1 p2 p3 p4 p5 p6 p7 p8 p9 p10 p11 pl q0 q1 q2 q3 q4 q5 q6 q7 q8 q9 q10 q11 ql)
 obtain ⟨v7, hv7⟩ := Qg (w6.alloc (.cells #[.string x.h, .int .i64 x.a.y, .int .i64 x.a.m, .bool x.a.s, .int .i64 x.a.d, .int .i64 x.b.y, .int .i64 x.b.m, .bool x.b.s, .int .i64 x.b.d, .slice F1 x.o.length m1, .slice F2 x.d.length m2, .slice F3 x.c.length m3] 31))
 rw [← hv7]
 have J7 : JnR w5 v7 w6.heap.size #[.string x.h, .int .i64 x.a.y, .int .i64 x.a.m, .bool x.a.s, .int .i64 x.a.d, .int .i64 x.b.y, .int .i64 x.b.m, .bool x.b.s, .int .i64 x.b.d, .slice F1 x.o.length m1, .slice F2 x.d.length m2, .slice F3 x.c.length m3] (.slice F1 x.o.length m1) (.slice F2 x.d.length m2) (.slice F3 x.c.length m3) x.o x.c x.d.length (fun i => x.d.getD i Qr) := by
  rw [hv7]
  have hx : Qa w6 (w6.alloc (.cells #[.string x.h, .int .i64 x.a.y, .int .i64 x.a.m, .bool x.a.s, .int .i64 x.a.d, .int .i64 x.b.y, .int .i64 x.b.m, .bool x.b.s, .int .i64 x.b.d, .slice F1 x.o.length m1, .slice F2 x.d.length m2, .slice F3 x.c.length m3] 31)) := (Qa.refl _).alloc _
  exact ⟨J.trans hx, Qb.new _ _ _, Z2 PO.o hx, Z2 PO.c hx, PO.d.ext hx, J.size⟩
 clear hv7 J PO
 generalize w6.heap.size = bo at *
 obtain ⟨q0, q1, q2, q3, q4, q5, q6, q7, q8, q9, q10, q11⟩ := Qb.c12 (Qb.ext B3 J7.e)
 have ql := Qb.lt (Qb.ext B3 J7.e)
 obtain ⟨z0, z1, z2, z3, z4, z5, z6, z7, z8, z9, z10, z11⟩ := Qb.f12 J7.b
 obtain ⟨x0, x1, x2, x3, x4, x5, x6, x7, x8, x9, x10, x11⟩ := Qb.c12 J7.b
 have xl := Qb.lt J7.b
 go_upto_region 11 with (fail)
 have J8 : JnR w5 _ bo #[.string x.h, .int .i64 x.a.y, .int .i64 x.a.m, .bool x.a.s, .int .i64 x.a.d, .int .i64 y.b.y, .int .i64 y.b.m, .bool y.b.s, .int .i64 y.b.d, .slice F1 x.o.length m1, .slice F2 x.d.length m2, .slice F3 x.c.length m3] (.slice F1 x.o.length m1) (.slice F2 x.d.length m2) (.slice F3 x.c.length m3) x.o x.c x.d.length (fun i => x.d.getD i Qr) := (((J7.set 5 (.int .i64 y.b.y)).set 6 (.int .i64 y.b.m)).set 7 (.bool y.b.s)).set 8 (.int .i64 y.b.d)
 generalize ((((v7.setCell _ _).setCell _ _).setCell _ _).setCell _ _) = w8 at *
 clear J7 z0 x0 z1 x1 z2 x2 z3 x3 z4 x4 z5 x5 z6 x6 z7 x7 z8 x8 z9 x9 z10 x10 z11 x11 xl
 clear q0 q1 q2 q3 q4 q5 q6 q7 q8 q9 q10 q11 ql
 obtain ⟨i0, hi, hz0, hz1, hz2⟩ := info_parts V7
 obtain ⟨vsA, hO, hLO⟩ := J8.da
 refine Zk 8 [5, 6, 7] (fun x => Qa w8 x) Qo rfl ?_
 intro vz hvz
 have HC := hvz
 refine Qp (g := 4) [0, 1, 2, 3] [_, _, _, _] ⟨rfl, rfl, rfl, rfl, trivial⟩ (by kernel_rfl) (by kernel_rfl) HC ?_
 simp only [Qc, Qd, Qe]
 apply Exists.intro
 refine ⟨fun u hu => ?_, ?_⟩
 ·obtain ⟨q0, q1, q2, q3, q4, q5, q6, q7, q8, q9, q10, q11⟩ := Qb.c12 (Qb.ext B3 (Qa.trans J8.e hu))
  have ql := Qb.lt (Qb.ext B3 (Qa.trans J8.e hu))
  obtain ⟨a0, a1, a2, a3, a4, a5, a6, a7, a8, a9, a10, a11⟩ := Qb.c12 (Qb.ext J8.b hu)
  have al := Qb.lt (Qb.ext J8.b hu)
  repeat (first | go_big_quiet_skip | (go_big_quiet_want; go_big_quiet_op; go_big_quiet_on))
  refine wpQuiet_nil ?_
  rfl
 refine Qj 4 rfl (by kernel_rfl) ?_
 simp only [Qc, Qd, Qe]
 have hs5 := HC.size
 go_wp2_with (go_at_call 27; (with_reducible refine Calls.mono (NK _ (hY.ext (E.trans (J8.e.trans HC))).d) ?_); rintro e w9 ⟨vn, rfl, hb6, DN⟩; obtain ⟨vsn, hN, hNL⟩ := DN; obtain ⟨F4, m4, rfl⟩ := Q9 hN)
 have hs8 := J8.e.size
 replace HC := HC.trans hb6
 have J9 := J8.ext HC
 have hO6 := Z2 hO HC
 have hLO6 := fun i hi => Z2 (hLO i hi) HC
 have hL6 := fun i hi => X3 (hNL i hi) (Nat.le_trans hs8 hs5)
 clear hNL hb6 hs5 hs8
 refine Qi HC ?_
 refine Qm 5 rfl (by kernel_rfl) ?_
 simp only [Qc, Qd, Qe]
 go_wp2_with (at_builtin; refine wpList_append_two rfl _ _ 29 rfl w5.heap.size 70 i0 (.agg #[.int .i64 0, .int .i64 0, .bool false, .int .i64 0, .bool false, .string ⟨#[]⟩, .slice none 0 0]) 7 80 Tryz.underlying29 hi hz0 hz1 hz2 rfl (by decide) _ _ _ rfl hO6 _ _ y.d.length _ rfl hN (K3 (fun i hi => Wl (hL6 i hi))) (by unfold maxLen; omega) (by omega) J9.e.size ?_; intro v' w10 hown hgrow; obtain ⟨F7, m7, rfl⟩ := Q9 hown)
 have J10 := J9.push hO6 hLO6 hL6 hown hgrow
 clear hown hgrow hO6 hLO6 hL6 hN J9
 refine Ql ?_
 refine Qm 6 rfl (by kernel_rfl) ?_
 simp only [Qc, Qd, Qe]
 go_wp2
 refine Ql ?_
 refine Qm 7 rfl (by kernel_rfl) ?_
 simp only [Qc, Qd, Qe]
 have fA := Qb.frozen J10.b 10
 obtain ⟨a0, a1, a2, a3, a4, a5, a6, a7, a8, a9, a10, a11⟩ := Qb.c12 J10.b
 have al := Qb.lt J10.b
 go_wp2
 have J11 : JnR w5 _ bo #[.string x.h, .int .i64 x.a.y, .int .i64 x.a.m, .bool x.a.s, .int .i64 x.a.d, .int .i64 y.b.y, .int .i64 y.b.m, .bool y.b.s, .int .i64 y.b.d, .slice F1 x.o.length m1, .slice F7 (x.d.length + y.d.length) m7, .slice F3 x.c.length m3] (.slice F1 x.o.length m1) (.slice F7 (x.d.length + y.d.length) m7) (.slice F3 x.c.length m3) x.o x.c (x.d.length + y.d.length) (fun i => if i < x.d.length then x.d.getD i Qr else y.d.getD (i - x.d.length) Qr) := J10.set 10 (.slice F7 (x.d.length + y.d.length) m7)
 generalize World.setCell _ _ _ = w11 at *
 clear J10 fA a0 a1 a2 a3 a4 a5 a6 a7 a8 a9 a10 a11 al
 refine Ql ?_
 refine Qt (by kernel_rfl) ?_
 skip
 clear hO hLO HC J8 NK hi hz0 hz1 hz2
 obtain ⟨q0, q1, q2, q3, q4, q5, q6, q7, q8, q9, q10, q11⟩ := Qb.c12 (Qb.ext B3 J11.e)
 have ql := Qb.lt (Qb.ext B3 J11.e)
 go_upto_region 13 with (go_at_call 20; (with_reducible refine Calls.mono (NCL _ (hY.ext (E.trans J11.e)).c) ?_); rintro e w12 ⟨vl, rfl, hx, SL⟩; obtain ⟨F5, m5, rfl⟩ := Q9 SL; replace SL := X3 SL J11.e.size; replace J11 := JnR.ext J11 hx; clear hx NCL; clear q0 q1 q2 q3 q4 q5 q6 q7 q8 q9 q10 q11 ql; have fA := Qb.frozen J11.b 11; obtain ⟨a0, a1, a2, a3, a4, a5, a6, a7, a8, a9, a10, a11⟩ := Qb.c12 J11.b; have al := Qb.lt J11.b)
 have J12 : JnR w5 _ bo #[.string x.h, .int .i64 x.a.y, .int .i64 x.a.m, .bool x.a.s, .int .i64 x.a.d, .int .i64 y.b.y, .int .i64 y.b.m, .bool y.b.s, .int .i64 y.b.d, .slice F1 x.o.length m1, .slice F7 (x.d.length + y.d.length) m7, .slice F5 y.c.length m5] (.slice F1 x.o.length m1) (.slice F7 (x.d.length + y.d.length) m7) (.slice F5 y.c.length m5) x.o y.c (x.d.length + y.d.length) (fun i => if i < x.d.length then x.d.getD i Qr else y.d.getD (i - x.d.length) Qr) := (J11.close SL).set 11 (.slice F5 y.c.length m5)
 generalize World.setCell _ _ _ = w13 at *
 clear J11 SL fA a0 a1 a2 a3 a4 a5 a6 a7 a8 a9 a10 a11 al
 have DD : Zr w13 w5.heap.size (.slice F7 (x.d.length + y.d.length) m7) (x.d ++ y.d).length (fun i => (x.d ++ y.d).getD i Qr) := by
  have h := J12.da
  obtain ⟨vs, h1, h2⟩ := h
  rw [List.length_append]
  have e : ∀ i, (if i < x.d.length then x.d.getD i Qr else y.d.getD (i - x.d.length) Qr) = (x.d ++ y.d).getD i Qr := fun i => by
   by_cases e : i < x.d.length
   ·simp [e, List.getD_eq_getElem?_getD, List.getElem?_append_left]
   ·simp [e, List.getD_eq_getElem?_getD, List.getElem?_append_right (show x.d.length ≤ i by omega)]
  refine ⟨vs, ?_, fun i hi => by
   show Jk _ _ _ ((x.d ++ y.d).getD i Qr).l
   rw [← e i]; exact h2 i hi⟩
  rw [Wz (f' := fun i => Qs (if i < x.d.length then x.d.getD i Qr else y.d.getD (i - x.d.length) Qr) (vs i)) _ (fun i _ => by rw [e i])]
  exact h1
 replace B4 := B4.ext J12.e
 have EJ := E.trans J12.e
 obtain ⟨a0, a1, a2, a3, a4, a5, a6, a7, a8, a9, a10, a11⟩ := Qb.c12 J12.b
 have al := Qb.lt J12.b
 obtain ⟨z0, z1, z2, z3, z4, z5, z6, z7, z8, z9, z10, z11⟩ := Qb.f12 B4
 obtain ⟨x0, x1, x2, x3, x4, x5, x6, x7, x8, x9, x10, x11⟩ := Qb.c12 B4
 have xl := Qb.lt B4
 go_wp2
 obtain ⟨wq, hq, HX, ko, kd, kh, ke⟩ := Jg B4 (by decide) (by decide) (.string x.h) (.int .i64 x.a.y) (.int .i64 x.a.m) (.bool x.a.s) (.int .i64 x.a.d) (.int .i64 y.b.y) (.int .i64 y.b.m) (.bool y.b.s) (.int .i64 y.b.d) (.slice F1 x.o.length m1) (.slice F7 (x.d.length + y.d.length) m7) (.slice F5 y.c.length m5)
 rw [← hq]
 have S1x := ko J12.s1
 have S5x := ko J12.s5
 have D1x := kd DD
 have EX := ke EJ hbr
 clear hq ko kd kh ke J12 DD EJ B4 z0 x0 z1 x1 z2 x2 z3 x3 z4 x4 z5 x5 z6 x6 z7 x7 z8 x8 z9 x9 z10 x10 z11 x11 xl a0 a1 a2 a3 a4 a5 a6 a7 a8 a9 a10 a11 al
 obtain ⟨x0, x1, x2, x3, x4, x5, x6, x7, x8, x9, x10, x11⟩ := Qb.c12 HX
 have xl := Qb.lt HX
 refine bodyPost_ret (v := .tuple #[.agg #[.string x.h, .int .i64 x.a.y, .int .i64 x.a.m, .bool x.a.s, .int .i64 x.a.d, .int .i64 y.b.y, .int .i64 y.b.m, .bool y.b.s, .int .i64 y.b.d, .slice F1 x.o.length m1, .slice F7 (x.d.length + y.d.length) m7, .slice F5 y.c.length m5], .int .i64 0]) (by simp [results, Tryz.results26, go_sem, x0, x1, x2, x3, x4, x5, x6, x7, x8, x9, x10, x11]) rfl ⟨_, _, _, rfl, EX, ⟨Wl S1x, G5 D1x, Wl S5x⟩⟩
end Go.Proofs.YtneiofnlmblglaaGreatDoor