/- Walks of the program's functions and plain facts, packed; proved: the lemmas below; no conditions but those that each states. -/
import Derived.Test.YtneiofnlmblglaaDoorU6
import Derived.Test.YtneiofnlmblglaaDoorU7
import Derived.Test.YtneiofnlmblglaaDoorU8
import Derived.Test.YtneiofnlmblglaaDoorU1
import Derived.Test.YtneiofnlmblglaaDoorU4
import Derived.Test.YtneiofnlmblglaaDoorU3
import Derived.Test.YtneiofnlmblglaaDoorU2
import Derived.Laws.StructEq
set_option maxRecDepth 100000
set_option maxHeartbeats 4000000
namespace Go.Proofs.YtneiofnlmblglaaDoor
section
open Go Go.RowKit Go.Shelf
attribute [local go_sem] Zi
/-- A slice value that reads as a list of lots. -/
def Zf (w : World) (v : Value) (l : List Lt) : Prop := ∃ A cap, v = .slice A l.length cap ∧ Qo w A l.length 2 (Zh (Q4 l)) ∧ l.length ≤ cap ∧ cap ≤ maxLen ∧ (A = none → l.length = 0 ∧ cap = 0)
theorem Zf.ext {w w' : World} {v : Value} {l : List Lt} (h : Zf w v l) (e : Qa w w') : Zf w' v l := by
 obtain ⟨A, cap, h1, h2, h3⟩ := h
 exact ⟨A, cap, h1, h2.ext e, h3⟩
def Qu (d : Dl) (v : Value) : List Value := [.int .i64 d.on.y, .int .i64 d.on.m, .bool d.on.s, .int .i64 d.on.d, .bool d.i, .string d.w, v]
/-- A slice value that reads as a list of deals. -/
def J2 (w : World) (v : Value) (l : List Dl) : Prop := ∃ D cap, ∃ vs : Nat → Value, v = .slice D l.length cap ∧ Qo w D l.length 7 (fun i => Qu (l.getD i Qv) (vs i)) ∧ l.length ≤ cap ∧ cap ≤ maxLen ∧ (D = none → l.length = 0 ∧ cap = 0) ∧ ∀ i, i < l.length → Zf w (vs i) (l.getD i Qv).l
theorem J2.ext {w w' : World} {v : Value} {l : List Dl} (h : J2 w v l) (e : Qa w w') : J2 w' v l := by
 obtain ⟨D, cap, vs, h1, h2, h3, h4, h5, h6⟩ := h
 exact ⟨D, cap, vs, h1, h2.ext e, h3, h4, h5, fun i hi => (h6 i hi).ext e⟩
structure Zv (w : World) (p : Pd) (vo vd vc : Value) : Prop where
 o : Zf w vo p.o
 d : J2 w vd p.d
 c : Zf w vc p.c
theorem Zv.ext {w w' : World} {p : Pd} {vo vd vc : Value} (h : Zv w p vo vd vc) (e : Qa w w') : Zv w' p vo vd vc := ⟨h.o.ext e, h.d.ext e, h.c.ext e⟩
theorem Ad (l : List Lt) : ((List.range l.length).any fun j => decide ((Q4 l j).n < 0)) = l.any fun x => decide (x.n < 0) := by
 conv => rhs; rw [← Mj l]
 unfold Jf
 rw [List.any_map]; rfl
section
variable {W : World} {b : Nat} {t : TypeId} {v0 v1 v2 v3 v4 v5 v6 v7 v8 v9 v10 v11 : Value}
theorem L8 (h : Qb W b t #[v0, v1, v2, v3, v4, v5, v6]) : W.cell? ⟨b, 0, none⟩ = some v0 ∧ W.cell? ⟨b, 1, none⟩ = some v1 ∧ W.cell? ⟨b, 2, none⟩ = some v2 ∧ W.cell? ⟨b, 3, none⟩ = some v3 ∧ W.cell? ⟨b, 4, none⟩ = some v4 ∧ W.cell? ⟨b, 5, none⟩ = some v5 ∧ W.cell? ⟨b, 6, none⟩ = some v6 := ⟨h.cell 0, h.cell 1, h.cell 2, h.cell 3, h.cell 4, h.cell 5, h.cell 6⟩
theorem Qb.c12 (h : Qb W b t #[v0, v1, v2, v3, v4, v5, v6, v7, v8, v9, v10, v11]) : W.cell? ⟨b, 0, none⟩ = some v0 ∧ W.cell? ⟨b, 1, none⟩ = some v1 ∧ W.cell? ⟨b, 2, none⟩ = some v2 ∧ W.cell? ⟨b, 3, none⟩ = some v3 ∧ W.cell? ⟨b, 4, none⟩ = some v4 ∧ W.cell? ⟨b, 5, none⟩ = some v5 ∧ W.cell? ⟨b, 6, none⟩ = some v6 ∧ W.cell? ⟨b, 7, none⟩ = some v7 ∧ W.cell? ⟨b, 8, none⟩ = some v8 ∧ W.cell? ⟨b, 9, none⟩ = some v9 ∧ W.cell? ⟨b, 10, none⟩ = some v10 ∧ W.cell? ⟨b, 11, none⟩ = some v11 := ⟨h.cell 0, h.cell 1, h.cell 2, h.cell 3, h.cell 4, h.cell 5, h.cell 6, h.cell 7, h.cell 8, h.cell 9, h.cell 10, h.cell 11⟩
end
theorem Qax (l : Lt) (w : World) :
  Calls Tryd.prog 102 #[.agg #[.string l.g, .int .i64 l.n]] w fun e w' => e = .returned (.bool (decide (l.n < 0))) ∧ Qa w w' := by
 go_enter Tryd.func102, Tryd.ntmps102
 go_upto_region 1 with (fail)
 obtain ⟨v, hv⟩ := Qg (w.alloc (.cells #[.string l.g, .int .i64 l.n] 71))
 rw [← hv]
 have E : Qa w v := by rw [hv]; exact (Qa.refl _).alloc _
 have B1 : Qb v w.heap.size 71 #[.string l.g, .int .i64 l.n] := by rw [hv]; exact Qb.new _ _ _
 clear hv
 generalize w.heap.size = b1 at *
 obtain ⟨k0, k1⟩ := B1.c2
 have lk := B1.lt
 go_wp2
 go_ret
 exact ⟨rfl, E⟩
theorem Qbe (A : Option Addr) (n cap : Nat) (f : Nat → Lt) (w : World) (hA : Qo w A n 2 (Zh f)) (hn : n ≤ 9223372036854775807) :
  Calls Tryd.prog 106 #[.slice A n cap, .func (.func 102) #[] #[]] w fun e w' => ∃ r : Int, e = .returned (.int .i64 r) ∧ decide (0 ≤ r) = ((List.range n).any fun j => decide ((f j).n < 0)) ∧ Qa w w' := by
 go_enter Tryd.func106, Tryd.ntmps106
 go_wp2
 go_loopw [8] (fun iv wr => ∃ k : Nat, k ≤ n ∧ iv = .int .i64 (k : Int) ∧ Hid (∀ j, j < k → decide ((f j).n < 0) = false) ∧ Qa w wr) (fun iv _ => n - (intOf iv).toNat)
 case atStart => exact ⟨0, Nat.zero_le _, rfl, fun j h => absurd h (by omega), Qa.refl _⟩
 case round =>
  obtain ⟨k, hk0, rfl, hno, hE⟩ := hrel
  obtain ⟨wo, rfl⟩ := Qg wr
  by_cases hlt : k < n
  ·obtain ⟨b, off, hAA, hb, hc⟩ := (hA.ext hE) (by omega)
   subst hAA
   have c0 : wo.cell? ⟨b, off + k * 2, none⟩ = some (.string (f k).g) := by simpa [Zh] using hc k 0 _ hlt rfl
   have c1 : wo.cell? ⟨b, off + k * 2 + 1, none⟩ = some (.int .i64 (f k).n) := by simpa [Zh] using hc k 1 _ hlt rfl
   have NP := Qax (f k) wo
   clear hc hA
   generalize hq : decide ((f k).n < 0) = q at *
   have HQ := Lib.hid hq
   clear hq
   cases q
   ·go_wp2_with (first | (go_at_call 102; (with_reducible refine Calls.mono (NP) ?_); rintro e w4 ⟨rfl, h⟩) | (go_at_fn 102; (with_reducible refine Calls.mono (NP) ?_); rintro e w4 ⟨rfl, h⟩))
    exact ⟨⟨k + 1, by omega, by go_num, fun j hj => by
     by_cases e : j = k
     ·subst e; exact HQ.out
     ·exact hno.out j (by omega), hE.trans h⟩, by simp [intOf]; omega⟩
   ·go_wp2_with (first | (go_at_call 102; (with_reducible refine Calls.mono (NP) ?_); rintro e w4 ⟨rfl, h⟩) | (go_at_fn 102; (with_reducible refine Calls.mono (NP) ?_); rintro e w4 ⟨rfl, h⟩))
    go_ret
    exact ⟨_, rfl, by rw [decide_eq_true (by omega)]; exact (List.any_eq_true.2 ⟨k, by simpa using hlt, HQ.out⟩).symm, hE.trans h⟩
  ·obtain rfl : k = n := by omega
   go_wp2
   go_ret
   exact ⟨_, rfl, by rw [decide_eq_false (by omega)]; exact (List.any_eq_false.2 (fun j hj => by have := hno.out j (by simpa using hj); simpa using this)).symm, hE⟩
theorem Ik (A : Option Addr) (n cap : Nat) (f : Nat → Lt) (w : World) (hA : Qo w A n 2 (Zh f)) (hn : n ≤ 9223372036854775807) :
  Calls Tryd.prog 101 #[.slice A n cap, .func (.func 102) #[] #[]] w fun e w' => e = .returned (.bool ((List.range n).any fun j => decide ((f j).n < 0))) ∧ Qa w w' := by
 have NI := Qbe A n cap f w hA hn
 go_enter Tryd.func101, Tryd.ntmps101
 go_wp2_with (go_at_call 106; (with_reducible refine Calls.mono (NI) ?_); rintro e w4 ⟨r, rfl, hr, h⟩)
 go_ret
 exact ⟨by rw [← hr]; rfl, h⟩
theorem Qay (v : Value) (l : List Lt) (w : World) (hL : Zf w v l) :
  Calls Tryd.prog 90 #[v] w fun e w' => e = .returned (.bool (X1 l)) ∧ Qa w w' := by
 obtain ⟨T, cap, rfl, hT, hcap, hmax, _⟩ := hL
 have hn : l.length ≤ 9223372036854775807 := Nat.le_trans hcap (Nat.le_trans hmax (by decide))
 have N1 := Kq T l.length cap (Q4 l) w hT hcap hn
 have N2 := fun w h => Ik T l.length cap (Q4 l) w h hn
 rw [Ad] at N2
 have HR : Hid (X1 l = (decide (0 < l.length) && decide (Jm (Q4 l) l.length = 0) && !(l.any fun x => decide (x.n < 0)))) := rfl
 generalize X1 l = r at *
 generalize (l.any fun x => decide (x.n < 0)) = an at *
 generalize Jm (Q4 l) l.length = e1 at *
 generalize l.length = n at *
 by_cases h0 : 0 < n
 ·have d0 : decide ((0 : Int) < (n : Int)) = true := decide_eq_true (by omega)
  have d0' : decide (0 < n) = true := decide_eq_true h0
  by_cases hz : e1 = 0
  ·subst hz
   have hr : r = !an := by rw [HR.out, d0']; rfl
   clear HR
   subst hr
   cases an
   all_goals
    go_enter Tryd.func90, Tryd.ntmps90
    go_wp2_with (first | (go_at_call 89; (with_reducible refine Calls.mono (N1) ?_); rintro e w1 ⟨rfl, h1⟩) | (go_at_call 101; (with_reducible refine Calls.mono (N2 _ (hT.ext h1)) ?_); rintro e w2 ⟨rfl, h2⟩))
    go_ret
    exact ⟨rfl, h1.trans h2⟩
  ·have g0 : (e1 == 0) = false := beq_eq_false_iff_ne.2 hz
   have hr : r = false := by rw [HR.out, d0', decide_eq_false hz]; rfl
   clear HR hz
   subst hr
   go_enter Tryd.func90, Tryd.ntmps90
   go_wp2_with (go_at_call 89; (with_reducible refine Calls.mono (N1) ?_); rintro e w1 ⟨rfl, h1⟩)
   go_ret
   exact ⟨rfl, h1⟩
 ·have d0 : decide ((0 : Int) < (n : Int)) = false := decide_eq_false (by omega)
  have d0' : decide (0 < n) = false := decide_eq_false h0
  have hr : r = false := by rw [HR.out, d0']; rfl
  clear HR
  subst hr
  go_enter Tryd.func90, Tryd.ntmps90
  go_wp2
  go_ret
  exact ⟨rfl, Qa.refl _⟩
theorem Vb {w : World} {T : Option Addr} {cap : Nat} {l : List Lt} (h : Zf w (.slice T l.length cap) l) : Qo w T l.length 2 (Zh (Q4 l)) := by
 obtain ⟨A, cap', e, h2, _⟩ := h
 cases e
 exact h2
theorem Qdp (A A' : Option Addr) (ca cb : Nat) (c : Qc) (p : Pd) (vo vd vc : Value) (w : World) (hC : Q8 w A ca A' cb c) (hP : Zv w p vo vd vc) :
  Calls Tryd.prog 68 #[.agg #[.slice A c.nk ca, .slice A' c.ny cb], .agg #[.string p.h, .int .i64 p.a.y, .int .i64 p.a.m, .bool p.a.s, .int .i64 p.a.d, .int .i64 p.b.y, .int .i64 p.b.m, .bool p.b.s, .int .i64 p.b.d, vo, vd, vc]] w fun e w' => e = .returned (.bool (c.perOk p)) ∧ Qa w w' := by
 obtain ⟨R, hR0⟩ := Qg (c.perOk p)
 rw [← hR0]
 have HR := Lib.hid hR0
 clear hR0
 have NS := fun w h => Gx A A' ca cb c p.a p.b w h
 go_enter Tryd.func68, Tryd.ntmps68
 go_upto_region 1 with (fail)
 obtain ⟨v, hv⟩ := Qg ((w.alloc (.cells #[.slice A c.nk ca, .slice A' c.ny cb] 52)).alloc (.cells #[.string p.h, .int .i64 p.a.y, .int .i64 p.a.m, .bool p.a.s, .int .i64 p.a.d, .int .i64 p.b.y, .int .i64 p.b.m, .bool p.b.s, .int .i64 p.b.d, vo, vd, vc] 31))
 rw [← hv]
 have E : Qa w v := by rw [hv]; exact ((Qa.refl _).alloc _).alloc _
 have B1 : Qb v w.heap.size 52 #[.slice A c.nk ca, .slice A' c.ny cb] := by rw [hv]; exact (Qb.new _ _ _).alloc _
 have B2 : Qb v (w.heap.size + 1) 31 #[.string p.h, .int .i64 p.a.y, .int .i64 p.a.m, .bool p.a.s, .int .i64 p.a.d, .int .i64 p.b.y, .int .i64 p.b.m, .bool p.b.s, .int .i64 p.b.d, vo, vd, vc] := by rw [hv]; exact Qb.at _ _ _ _ (by simp)
 clear hv
 obtain ⟨b2, hb2⟩ := Qg (w.heap.size + 1)
 rw [← hb2] at B2 ⊢
 obtain ⟨b1, hb1⟩ := Qg (w.heap.size)
 rw [← hb1] at B1 ⊢
 have hbr : w.heap.size ≤ b2 := by omega
 have hbr1 : w.heap.size ≤ b1 := by omega
 have hn21 : b2 ≠ b1 := by omega
 clear hb1 hb2
 have C := hC.ext E
 have P := hP.ext E
 clear hC hP
 obtain ⟨TO, co, rfl, _, co1, co2, _⟩ := P.o
 obtain ⟨TC, cc, rfl, _, cc1, cc2, _⟩ := P.c
 obtain ⟨TD, cd, vs, rfl, _, cd1, cd2, _, _⟩ := P.d
 have no : p.o.length ≤ 9223372036854775807 := Nat.le_trans co1 (Nat.le_trans co2 (by decide))
 have nc : p.c.length ≤ 9223372036854775807 := Nat.le_trans cc1 (Nat.le_trans cc2 (by decide))
 have nd : p.d.length ≤ 9223372036854775807 := Nat.le_trans cd1 (Nat.le_trans cd2 (by decide))
 have KO := fun w h => Kq TO p.o.length co (Q4 p.o) w h co1 no
 have KC := fun w h => Kq TC p.c.length cc (Q4 p.c) w h cc1 nc
 clear co1 co2 cc1 cc2 cd1 cd2
 have HH : Hid (c.perHead p = (Zw p.h && c.spanV p.a p.b && decide (Jm (Q4 p.o) p.o.length = 0) && decide (Jm (Q4 p.c) p.c.length = 0) && decide (p.d.length ≤ 64))) := rfl
 have hbad : Hid (c.perHead p = false → R = false) := fun h => by rw [HR.out]; exact Qdn h
 obtain ⟨nm, hnm⟩ := Qg (Zw p.h)
 have NN := fun w => Ul p.h w
 rw [← hnm] at HH NN
 replace hnm := Lib.hid hnm
 have NSP : Hid (c.spanV p.a p.b = _) := show c.spanV p.a p.b = (decide (0 < c.numV p.a) && decide (c.numV p.a ≤ c.numV p.b)) from rfl
 unfold Qc.spanV at HH
 generalize (decide (0 < c.numV p.a) && decide (c.numV p.a ≤ c.numV p.b)) = sp at *
 clear NSP
 obtain ⟨eo, heo⟩ := Qg (Jm (Q4 p.o) p.o.length)
 rw [← heo] at HH KO
 replace heo := Lib.hid heo
 obtain ⟨ec, hec⟩ := Qg (Jm (Q4 p.c) p.c.length)
 rw [← hec] at HH KC
 replace hec := Lib.hid hec
 obtain ⟨k0, k1⟩ := B1.c2
 have lk := B1.lt
 obtain ⟨p0, p1, p2, p3, p4, p5, p6, p7, p8, p9, p10, p11⟩ := B2.c12
 have lp := B2.lt
 by_cases hz : nm = false
 ·have hr := hbad.out (by rw [HH.out, hz]; rfl)
  subst hz
  clear HH hbad HR NS KO KC hnm heo hec
  go_wp2_with (go_at_call 74; (with_reducible refine Calls.mono (NN _) ?_); rintro e wn ⟨rfl, rfl⟩)
  go_ret
  exact ⟨by rw [hr]; rfl, E⟩
 obtain rfl : nm = true := by simpa using hz
 clear hz
 by_cases hz : sp = false
 ·have hr := hbad.out (by rw [HH.out, hz]; rfl)
  subst hz
  clear HH hbad HR KO KC hnm heo hec
  go_wp2_with (first | (go_at_call 74; (with_reducible refine Calls.mono (NN _) ?_); rintro e wn ⟨rfl, rfl⟩) | (go_at_call 64; (with_reducible refine Calls.mono (NS _ C) ?_); rintro e w1 ⟨rfl, h1⟩; replace E := E.trans h1; replace C := C.ext h1; replace P := P.ext h1; replace B1 := B1.ext h1; replace B2 := B2.ext h1; clear h1 k0 k1 lk p0 p1 p2 p3 p4 p5 p6 p7 p8 p9 p10 p11 lp; obtain ⟨k0, k1⟩ := B1.c2; have lk := B1.lt; obtain ⟨p0, p1, p2, p3, p4, p5, p6, p7, p8, p9, p10, p11⟩ := B2.c12; have lp := B2.lt))
  go_ret
  exact ⟨by rw [hr]; rfl, E⟩
 obtain rfl : sp = true := by simpa using hz
 clear hz
 by_cases hz : eo = 0
 rotate_left
 ·have hr := hbad.out (by rw [HH.out, decide_eq_false hz]; rfl)
  have g0 : (eo == 0) = false := beq_eq_false_iff_ne.2 hz
  have g0n : (eo != 0) = true := by rw [bne, g0]; rfl
  clear HH hbad HR KC hnm heo hec hz
  go_wp2_with (first | (go_at_call 74; (with_reducible refine Calls.mono (NN _) ?_); rintro e wn ⟨rfl, rfl⟩) | (go_at_call 64; (with_reducible refine Calls.mono (NS _ C) ?_); rintro e w1 ⟨rfl, h1⟩; replace E := E.trans h1; replace C := C.ext h1; replace P := P.ext h1; replace B1 := B1.ext h1; replace B2 := B2.ext h1; clear h1 k0 k1 lk p0 p1 p2 p3 p4 p5 p6 p7 p8 p9 p10 p11 lp; obtain ⟨k0, k1⟩ := B1.c2; have lk := B1.lt; obtain ⟨p0, p1, p2, p3, p4, p5, p6, p7, p8, p9, p10, p11⟩ := B2.c12; have lp := B2.lt) | (go_at_call 89; (with_reducible refine Calls.mono (KO _ (Vb P.o)) ?_); rintro e w2 ⟨rfl, h1⟩; replace E := E.trans h1; replace C := C.ext h1; replace P := P.ext h1; replace B1 := B1.ext h1; replace B2 := B2.ext h1; clear h1 k0 k1 lk p0 p1 p2 p3 p4 p5 p6 p7 p8 p9 p10 p11 lp; obtain ⟨k0, k1⟩ := B1.c2; have lk := B1.lt; obtain ⟨p0, p1, p2, p3, p4, p5, p6, p7, p8, p9, p10, p11⟩ := B2.c12; have lp := B2.lt))
  go_ret
  exact ⟨by rw [hr]; rfl, E⟩
 subst hz
 by_cases hz : ec = 0
 rotate_left
 ·have hr := hbad.out (by rw [HH.out, decide_eq_false hz, Bool.and_false]; rfl)
  have g0 : (ec == 0) = false := beq_eq_false_iff_ne.2 hz
  have g0n : (ec != 0) = true := by rw [bne, g0]; rfl
  clear HH hbad HR hnm heo hec hz
  go_wp2_with (first | (go_at_call 74; (with_reducible refine Calls.mono (NN _) ?_); rintro e wn ⟨rfl, rfl⟩) | (go_at_call 64; (with_reducible refine Calls.mono (NS _ C) ?_); rintro e w1 ⟨rfl, h1⟩; replace E := E.trans h1; replace C := C.ext h1; replace P := P.ext h1; replace B1 := B1.ext h1; replace B2 := B2.ext h1; clear h1 k0 k1 lk p0 p1 p2 p3 p4 p5 p6 p7 p8 p9 p10 p11 lp; obtain ⟨k0, k1⟩ := B1.c2; have lk := B1.lt; obtain ⟨p0, p1, p2, p3, p4, p5, p6, p7, p8, p9, p10, p11⟩ := B2.c12; have lp := B2.lt) | (go_at_call 89; (with_reducible refine Calls.mono (KO _ (Vb P.o)) ?_); rintro e w2 ⟨rfl, h1⟩; replace E := E.trans h1; replace C := C.ext h1; replace P := P.ext h1; replace B1 := B1.ext h1; replace B2 := B2.ext h1; clear h1 k0 k1 lk p0 p1 p2 p3 p4 p5 p6 p7 p8 p9 p10 p11 lp; obtain ⟨k0, k1⟩ := B1.c2; have lk := B1.lt; obtain ⟨p0, p1, p2, p3, p4, p5, p6, p7, p8, p9, p10, p11⟩ := B2.c12; have lp := B2.lt) | (go_at_call 89; (with_reducible refine Calls.mono (KC _ (Vb P.c)) ?_); rintro e w3 ⟨rfl, h1⟩; replace E := E.trans h1; replace C := C.ext h1; replace P := P.ext h1; replace B1 := B1.ext h1; replace B2 := B2.ext h1; clear h1 k0 k1 lk p0 p1 p2 p3 p4 p5 p6 p7 p8 p9 p10 p11 lp; obtain ⟨k0, k1⟩ := B1.c2; have lk := B1.lt; obtain ⟨p0, p1, p2, p3, p4, p5, p6, p7, p8, p9, p10, p11⟩ := B2.c12; have lp := B2.lt))
  go_ret
  exact ⟨by rw [hr]; rfl, E⟩
 subst hz
 by_cases hz : p.d.length ≤ 64
 rotate_left
 ·have hr := hbad.out (by rw [HH.out, decide_eq_false hz, Bool.and_false])
  have d1 : decide ((64 : Int) < (p.d.length : Int)) = true := decide_eq_true (by omega)
  clear HH hbad HR hnm heo hec hz
  go_wp2_with (first | (go_at_call 74; (with_reducible refine Calls.mono (NN _) ?_); rintro e wn ⟨rfl, rfl⟩) | (go_at_call 64; (with_reducible refine Calls.mono (NS _ C) ?_); rintro e w1 ⟨rfl, h1⟩; replace E := E.trans h1; replace C := C.ext h1; replace P := P.ext h1; replace B1 := B1.ext h1; replace B2 := B2.ext h1; clear h1 k0 k1 lk p0 p1 p2 p3 p4 p5 p6 p7 p8 p9 p10 p11 lp; obtain ⟨k0, k1⟩ := B1.c2; have lk := B1.lt; obtain ⟨p0, p1, p2, p3, p4, p5, p6, p7, p8, p9, p10, p11⟩ := B2.c12; have lp := B2.lt) | (go_at_call 89; (with_reducible refine Calls.mono (KO _ (Vb P.o)) ?_); rintro e w2 ⟨rfl, h1⟩; replace E := E.trans h1; replace C := C.ext h1; replace P := P.ext h1; replace B1 := B1.ext h1; replace B2 := B2.ext h1; clear h1 k0 k1 lk p0 p1 p2 p3 p4 p5 p6 p7 p8 p9 p10 p11 lp; obtain ⟨k0, k1⟩ := B1.c2; have lk := B1.lt; obtain ⟨p0, p1, p2, p3, p4, p5, p6, p7, p8, p9, p10, p11⟩ := B2.c12; have lp := B2.lt) | (go_at_call 89; (with_reducible refine Calls.mono (KC _ (Vb P.c)) ?_); rintro e w3 ⟨rfl, h1⟩; replace E := E.trans h1; replace C := C.ext h1; replace P := P.ext h1; replace B1 := B1.ext h1; replace B2 := B2.ext h1; clear h1 k0 k1 lk p0 p1 p2 p3 p4 p5 p6 p7 p8 p9 p10 p11 lp; obtain ⟨k0, k1⟩ := B1.c2; have lk := B1.lt; obtain ⟨p0, p1, p2, p3, p4, p5, p6, p7, p8, p9, p10, p11⟩ := B2.c12; have lp := B2.lt))
  go_ret
  exact ⟨by rw [hr]; rfl, E⟩
 have hh : c.perHead p = true := by rw [HH.out, decide_eq_true hz]; rfl
 have HR2 : Hid (R = (List.range p.d.length).all (c.dealOk p)) := by unfold Hid; rw [HR.out]; unfold Qc.perOk; rw [hh]; rfl
 have d1 : decide ((64 : Int) < (p.d.length : Int)) = false := decide_eq_false (by omega)
 clear HH hbad HR hnm heo hec hz hh
 have NA := fun w h => Xc A A' ca cb c p.a w h
 have NB := fun w h => Xc A A' ca cb c p.b w h
 go_upto_region 3 with (first | (go_at_call 74; (with_reducible refine Calls.mono (NN _) ?_); rintro e wn ⟨rfl, rfl⟩) | (go_at_call 64; (with_reducible refine Calls.mono (NS _ C) ?_); rintro e w1 ⟨rfl, h1⟩; replace E := E.trans h1; replace C := C.ext h1; replace P := P.ext h1; replace B1 := B1.ext h1; replace B2 := B2.ext h1; clear h1 k0 k1 lk p0 p1 p2 p3 p4 p5 p6 p7 p8 p9 p10 p11 lp; obtain ⟨k0, k1⟩ := B1.c2; have lk := B1.lt; obtain ⟨p0, p1, p2, p3, p4, p5, p6, p7, p8, p9, p10, p11⟩ := B2.c12; have lp := B2.lt) | (go_at_call 89; (with_reducible refine Calls.mono (KO _ (Vb P.o)) ?_); rintro e w2 ⟨rfl, h1⟩; replace E := E.trans h1; replace C := C.ext h1; replace P := P.ext h1; replace B1 := B1.ext h1; replace B2 := B2.ext h1; clear h1 k0 k1 lk p0 p1 p2 p3 p4 p5 p6 p7 p8 p9 p10 p11 lp; obtain ⟨k0, k1⟩ := B1.c2; have lk := B1.lt; obtain ⟨p0, p1, p2, p3, p4, p5, p6, p7, p8, p9, p10, p11⟩ := B2.c12; have lp := B2.lt) | (go_at_call 89; (with_reducible refine Calls.mono (KC _ (Vb P.c)) ?_); rintro e w3 ⟨rfl, h1⟩; replace E := E.trans h1; replace C := C.ext h1; replace P := P.ext h1; replace B1 := B1.ext h1; replace B2 := B2.ext h1; clear h1 k0 k1 lk p0 p1 p2 p3 p4 p5 p6 p7 p8 p9 p10 p11 lp; obtain ⟨k0, k1⟩ := B1.c2; have lk := B1.lt; obtain ⟨p0, p1, p2, p3, p4, p5, p6, p7, p8, p9, p10, p11⟩ := B2.c12; have lp := B2.lt))
 clear NS KO KC NN
 refine Zr w3 Qr (by kernel_rfl) (by repeat (first | exact Qa.refl _ | (refine Qa.alloc ?_ _) | (refine Qa.trans ?_ (by assumption)))) ?_
 intro hne hrx hry
 try simp only []
 try simp only [List.append_eq, List.cons_append, List.nil_append]
 skip
 repeat (first
  | go_big_quiet_skip
  | (go_big_quiet_want; go_big_quiet_op; go_big_quiet_on)
  | (go_big_quiet_want; go_big_quiet_op; apply Exists.intro; refine ⟨fun u => ?_, ?_⟩
     ·first
       | (go_at_call 22; (with_reducible refine Calls.mono (NA _ (C.ext u.e)) ?_); rintro e w' ⟨rfl, hb⟩; exact ⟨rfl, u.back hb⟩)
       | (go_at_call 22; (with_reducible refine Calls.mono (NB _ (C.ext u.e)) ?_); rintro e w' ⟨rfl, hb⟩; exact ⟨rfl, u.back hb⟩)
     go_big_quiet_on))
 clear hne hry hrx
 refine wpQuiet_nil ?_
 intro vl hvl
 obtain ⟨hcvl, hfvl, hzvl⟩ := Qa.rules hvl
 try simp only [World.size_alloc] at hzvl
 obtain ⟨hcbvl, hfbvl, hzbvl⟩ := Qa.rules (show Qa w3 vl from (by repeat (first | exact Qa.refl _ | (refine Qa.alloc ?_ _) | (refine Qa.trans ?_ (by assumption)))))
 clear hcvl hfvl
 replace E := E.trans hvl
 replace C := C.ext hvl
 replace P := P.ext hvl
 replace B1 := B1.ext hvl
 replace B2 := B2.ext hvl
 clear k0 k1 lk p0 p1 p2 p3 p4 p5 p6 p7 p8 p9 p10 p11 lp NA NB
 obtain ⟨p0, p1, p2, p3, p4, p5, p6, p7, p8, p9, p10, p11⟩ := B2.c12
 have lp := B2.lt
 go_upto_region 5 with (fail)
 clear p0 p1 p2 p3 p4 p5 p6 p7 p8 p9 p10 p11 lp
 obtain ⟨n, hnl⟩ := Qg (p.d.length)
 rw [← hnl] at nd d1 HR2 ⊢
 replace hnl := Lib.hid hnl
 obtain ⟨_, _, vs', e1, hD, _, _, _, hat⟩ := P.d
 cases e1
 rw [← hnl.out] at hD hat
 replace hD : Qo vl TD n 7 (fun i => Qu (p.dl i) (vs' i)) := hD
 replace hat : Hid (∀ i, i < n → Zf vl (vs' i) (p.dl i).l) := hat
 clear P
 go_loopw [5, 52] (fun lv iv wr => ∃ k : Nat, k ≤ n ∧ iv = .int .i64 k ∧ lv = .int .i64 (c.lastD p k) ∧ Hid (∀ j, j < k → c.dealOk p j = true) ∧ Qa vl wr) (fun _ i _ => n - (intOf i).toNat)
 case atStart => exact ⟨0, Nat.zero_le _, rfl, rfl, (fun j h => absurd h (by omega)), Qa.refl _⟩
 case round =>
  obtain ⟨k, hk, rfl, rfl, hall, hE⟩ := hrel
  obtain ⟨wo, rfl⟩ := Qg wr
  by_cases hlt : k < n
  ·obtain ⟨b, off, rfl, hb, hc⟩ := (hD.ext hE) (by omega)
   have hL := (hat.out k hlt).ext hE
   have c0 : wo.cell? ⟨b, off + k * 7, none⟩ = some (.int .i64 (p.dl k).on.y) := by simpa [Qu] using hc k 0 _ hlt rfl
   have c1 : wo.cell? ⟨b, off + k * 7 + 1, none⟩ = some (.int .i64 (p.dl k).on.m) := by simpa [Qu] using hc k 1 _ hlt rfl
   have c2 : wo.cell? ⟨b, off + k * 7 + 2, none⟩ = some (.bool (p.dl k).on.s) := by simpa [Qu] using hc k 2 _ hlt rfl
   have c3 : wo.cell? ⟨b, off + k * 7 + 3, none⟩ = some (.int .i64 (p.dl k).on.d) := by simpa [Qu] using hc k 3 _ hlt rfl
   have c4 : wo.cell? ⟨b, off + k * 7 + 4, none⟩ = some (.bool (p.dl k).i) := by simpa [Qu] using hc k 4 _ hlt rfl
   have c5 : wo.cell? ⟨b, off + k * 7 + 5, none⟩ = some (.string (p.dl k).w) := by simpa [Qu] using hc k 5 _ hlt rfl
   have c6 : wo.cell? ⟨b, off + k * 7 + 6, none⟩ = some (vs' k) := by simpa [Qu] using hc k 6 _ hlt rfl
   have NG := fun w h => Qay (vs' k) (p.dl k).l w h
   have ND := fun w h => Xc A A' ca cb c (p.dl k).on w h
   have NN := fun w => Ul (p.dl k).w w
   have HK : Hid (c.dealOk p k = !(decide (c.numV (p.dl k).on < c.lastD p k) || decide (c.numV p.b < c.numV (p.dl k).on) || !Zw (p.dl k).w || ((p.dl k).w.toList == p.h.toList) || !X1 (p.dl k).l)) := by
    unfold Hid; rw [Iv, Lc]
   have hno : Hid (c.dealOk p k = false → R = false) := fun h => by
    rw [HR2.out]
    exact List.all_eq_false.2 ⟨k, by simpa using hlt, by simp [h]⟩
   have hyes : Hid (c.dealOk p k = true → ∀ j, j < k + 1 → c.dealOk p j = true) := fun h j hj => by
    by_cases e : j = k
    ·subst e; exact h
    ·exact hall.out j (by omega)
   have hlo : Hid (c.lastD p (k + 1) = c.numV (p.dl k).on) := rfl
   obtain ⟨VL, hvl⟩ := Qg (vs' k)
   rw [← hvl] at c6 NG hL
   clear hvl hc hall HR2 hD hat
   obtain ⟨TL, cl, hVL, _⟩ := id hL
   subst hVL
   generalize c.dealOk p k = dk at *
   generalize c.lastD p k = L0 at *
   generalize c.numV (p.dl k).on = L1 at *
   generalize c.numV p.b = L2 at *
   generalize Zw (p.dl k).w = nm at *
   generalize hse : ((p.dl k).w.toList == p.h.toList) = se at *
   generalize X1 (p.dl k).l = gv1 at *
   go_upto_region 7 with (fail)
   obtain ⟨v3, hv⟩ := Qg (wo.alloc (.cells #[.int .i64 (p.dl k).on.y, .int .i64 (p.dl k).on.m, .bool (p.dl k).on.s, .int .i64 (p.dl k).on.d, .bool (p.dl k).i, .string (p.dl k).w, .slice TL (p.dl k).l.length cl] 67))
   rw [← hv]
   have E3 : Qa wo v3 := by rw [hv]; exact (Qa.refl _).alloc _
   have H3 : Qb v3 wo.heap.size 67 #[.int .i64 (p.dl k).on.y, .int .i64 (p.dl k).on.m, .bool (p.dl k).on.s, .int .i64 (p.dl k).on.d, .bool (p.dl k).i, .string (p.dl k).w, .slice TL (p.dl k).l.length cl] := by rw [hv]; exact Qb.new _ _ _
   clear hv
   generalize wo.heap.size = b3 at *
   clear c0 c1 c2 c3 c4 c5 c6
   replace hL := hL.ext E3
   replace hE := hE.trans E3
   clear E3
   have B1e := B1.ext hE
   obtain ⟨k0, k1⟩ := B1e.c2
   have lk := B1e.lt
   obtain ⟨q0, q1, q2, q3, q4, q5, q6⟩ := L8 H3
   have lq := H3.lt
   go_upto_region 8 with (go_at_call 22; (with_reducible refine Calls.mono (ND _ (C.ext hE)) ?_); rintro e w4 ⟨rfl, h4⟩)
   replace hE := hE.trans h4
   replace H3 := H3.ext h4
   replace hL := hL.ext h4
   clear h4 q0 q1 q2 q3 q4 q5 q6 lq k0 k1 lk B1e ND
   obtain ⟨q0, q1, q2, q3, q4, q5, q6⟩ := L8 H3
   have lq := H3.lt
   have B2e := B2.ext hE
   obtain ⟨p0, p1, p2, p3, p4, p5, p6, p7, p8, p9, p10, p11⟩ := B2e.c12
   have lp := B2e.lt
   by_cases a1 : L1 < L0
   ·have g1 : decide (L1 < L0) = true := decide_eq_true a1
    have hr := hno.out (by rw [HK.out, g1]; rfl)
    clear HK hno hyes hlo a1 hse
    go_wp2
    go_ret
    exact ⟨by rw [hr]; rfl, E.trans hE⟩
   have g1 : decide (L1 < L0) = false := decide_eq_false a1
   rw [g1] at HK
   clear a1
   by_cases a2 : L2 < L1
   ·have g2 : decide (L2 < L1) = true := decide_eq_true a2
    have hr := hno.out (by rw [HK.out, g2]; rfl)
    clear HK hno hyes hlo a2 hse
    go_wp2
    go_ret
    exact ⟨by rw [hr]; rfl, E.trans hE⟩
   have g2 : decide (L2 < L1) = false := decide_eq_false a2
   rw [g2] at HK
   clear a2
   cases nm
   ·have hr := hno.out (by rw [HK.out]; rfl)
    clear HK hno hyes hlo hse
    go_wp2_with (first | (go_at_call 74; (with_reducible refine Calls.mono (NN _) ?_); rintro e wn ⟨rfl, rfl⟩))
    go_ret
    exact ⟨by rw [hr]; rfl, E.trans hE⟩
   cases se
   rotate_left
   ·have hr := hno.out (by rw [HK.out]; rfl)
    clear HK hno hyes hlo
    go_wp2_with (first | (go_at_call 74; (with_reducible refine Calls.mono (NN _) ?_); rintro e wn ⟨rfl, rfl⟩))
    go_ret
    exact ⟨by rw [hr]; rfl, E.trans hE⟩
   cases gv1
   ·have hr := hno.out (by rw [HK.out]; rfl)
    clear HK hno hyes hlo
    go_wp2_with (first | (go_at_call 74; (with_reducible refine Calls.mono (NN _) ?_); rintro e wn ⟨rfl, rfl⟩) | (go_at_call 90; (with_reducible refine Calls.mono (NG _ hL) ?_); rintro e w6 ⟨rfl, h6⟩))
    go_ret
    exact ⟨by rw [hr]; rfl, (E.trans hE).trans h6⟩
   have hx := Lib.hid (hyes.out (by rw [HK.out]; rfl))
   clear HK hno hyes
   go_wp2_with (first | (go_at_call 74; (with_reducible refine Calls.mono (NN _) ?_); rintro e wn ⟨rfl, rfl⟩) | (go_at_call 90; (with_reducible refine Calls.mono (NG _ hL) ?_); rintro e w6 ⟨rfl, h6⟩))
   exact ⟨⟨k + 1, by omega, by go_num, by rw [hlo.out], hx, hE.trans h6⟩, by simp [intOf]; omega⟩
  ·obtain rfl : k = n := by omega
   have hr : R = true := by
    rw [HR2.out]
    exact List.all_eq_true.2 fun j hj => hall.out j (by simpa using hj)
   clear HR2 hall
   subst hr
   go_wp2
   go_ret
   exact ⟨rfl, E.trans hE⟩
theorem Tm (l : List Lt) : l.flatMap Jr = Qz (Zh (Q4 l)) l.length := by
 conv => lhs; rw [← Mj l]
 unfold Jf Qz
 rw [List.flatMap_map]; rfl
theorem Xp {w : World} {base k : Nat} {v : Value} {l : List Lt} (h : w.ownsRow base 71 2 v k (l.flatMap Jr)) : Zf w v l := by
 have hk := h.1
 rw [Mf] at hk
 obtain rfl : k = l.length := by omega
 rw [Tm] at h
 obtain ⟨F, c, h1, h2, h3, h4, h5, _⟩ := Wg (f := Zh (Q4 l)) (fun _ => rfl) h
 exact ⟨F, c, h1, h2, h3, h4, h5⟩
theorem Vw (w : World) : Zf w (.slice none 0 0) [] := ⟨none, 0, rfl, Qo.nil, Nat.le_refl _, Nat.zero_le _, fun _ => ⟨rfl, rfl⟩⟩
def Qk : Pd := ⟨⟨#[]⟩, ⟨0, 0, false, 0⟩, ⟨0, 0, false, 0⟩, [], [], []⟩
def Qq (p : Pd) (vo vd vc : Value) : List Value := [.string p.h, .int .i64 p.a.y, .int .i64 p.a.m, .bool p.a.s, .int .i64 p.a.d, .int .i64 p.b.y, .int .i64 p.b.m, .bool p.b.s, .int .i64 p.b.d, vo, vd, vc]
/-- A slice value that reads as a list of periods. -/
def Ym (w : World) (v : Value) (l : List Pd) : Prop := ∃ D cap, ∃ vo vd vc : Nat → Value, v = .slice D l.length cap ∧ Qo w D l.length 12 (fun i => Qq (l.getD i Qk) (vo i) (vd i) (vc i)) ∧ l.length ≤ cap ∧ cap ≤ maxLen ∧ (D = none → l.length = 0 ∧ cap = 0) ∧ ∀ i, i < l.length → Zv w (l.getD i Qk) (vo i) (vd i) (vc i)
theorem Ym.ext {w w' : World} {v : Value} {l : List Pd} (h : Ym w v l) (e : Qa w w') : Ym w' v l := by
 obtain ⟨D, cap, vo, vd, vc, h1, h2, h3, h4, h5, h6⟩ := h
 exact ⟨D, cap, vo, vd, vc, h1, h2.ext e, h3, h4, h5, fun i hi => (h6 i hi).ext e⟩
theorem Qdo {c : Qc} {p : Pd} (h : c.perE p = 0) : p.o.length ≤ 64 := by
 unfold Qc.perE at h
 cases hv : c.valid
 ·rw [hv, if_neg (by simp)] at h; exact absurd h (by decide)
 ·rw [hv, if_pos rfl] at h
  cases ho : c.perOk p
  ·rw [ho, if_neg (by simp)] at h; exact absurd h (by decide)
  ·unfold Qc.perOk Qc.perHead at ho
   simp only [Bool.and_eq_true, decide_eq_true_eq] at ho
   exact (O9 ho.1.1.1.2).1
def Qc.persE (c : Qc) (l : List Pd) : Int := if l.all c.perOk then 0 else 83
def Qc.validE (c : Qc) (l : List Pd) : Int := if c.chk ≠ 0 then c.chk else c.persE l
theorem Cp (c : Qc) (p : Pd) : c.validE [p] = c.perE p := by
 unfold Qc.validE Qc.perE Qc.chk Qc.persE
 cases c.valid <;> simp
theorem Aa {l : List Pd} {P : Pd → Bool} {k : Nat} (hk : k < l.length) (h : P (l.getD k Qk) = false) : l.all P = false :=
 List.all_eq_false.2 ⟨l[k], List.getElem_mem hk, by simpa [List.getD_eq_getElem?_getD, hk] using h⟩
theorem Ab {l : List Pd} {P : Pd → Bool} (h : ∀ k, k < l.length → P (l.getD k Qk) = true) : l.all P = true :=
 List.all_eq_true.2 fun x hx => by
  obtain ⟨k, hk, rfl⟩ := List.mem_iff_getElem.1 hx
  simpa [List.getD_eq_getElem?_getD, hk] using h k hk
theorem Dx {w : World} {b : Nat} {t : TypeId} {p : Pd} {vo vd vc : Value} (h : Qb w b t (Qq p vo vd vc).toArray) (hP : Zv w p vo vd vc) : Ym w (.slice (some ⟨b, 0, none⟩) 1 1) [p] :=
 ⟨some ⟨b, 0, none⟩, 1, fun _ => vo, fun _ => vd, fun _ => vc, rfl, Up (f := fun _ => Qq p vo vd vc) (n := 1) (fun _ => rfl) (by simpa [Qz] using h) |>.congr (fun i hi => by obtain rfl : i = 0 := (by simp at hi; omega); rfl), Nat.le_refl _, by decide, fun h => (by cases h), fun i hi => by obtain rfl : i = 0 := (by simp at hi; omega); exact hP⟩
theorem Wf (v : Value) (l : List Lt) (w : World) (hL : Zf w v l) (hn : l.length ≤ 1000000) :
  Calls Tryd.prog 24 #[v] w fun e w' => ∃ v', e = .returned v' ∧ Qa w w' ∧ w'.ownsRow w.heap.size 71 2 v' l.length (l.flatMap Jr) := by
 rw [Tm]
 obtain ⟨T, cap, rfl, hT, hcap, hmax, hnil⟩ := hL
 generalize l.length = n at *
 generalize Q4 l = f at *
 have q23 : ∀ (w : World) (a : Option Addr) (n c n' c' : Nat), (binOp .eql 28 (.slice a n c) (.slice none n' c')).run Tryd.prog w = .ok (.bool a.isNone) w := fun w a n c n' c' => Lib.run_eql_slice_nil w _ _ a n c n' c' Tryd.underlying28
 cases T with
 | none =>
  obtain ⟨rfl, rfl⟩ := hnil rfl
  go_enter Tryd.func24, Tryd.ntmps24
  go_wp2
  go_ret
  exact ⟨_, rfl, Qa.refl _, World.ownsRow_nil _ _ _ _⟩
 | some a =>
  obtain ⟨i0, hi, hz0, hz1, hz2⟩ := info_parts Sg
  have hlen := Yy (f := Zh f) (sz := 2) (fun _ => rfl) n
  have hone : ∀ u ∈ Qz (Zh f) n, u.oneCell' = true := Tn (f := Zh f) (n := n) (fun i u hu => by simp [Zh] at hu; rcases hu with rfl | rfl <;> simp [Value.oneCell'])
  have HN := fun v (h : Qo v (some a) n 2 (Zh f)) => Vo (f := Zh f) (sz := 2) (fun _ => rfl) (by decide) h
  go_enter Tryd.func24, Tryd.ntmps24
  go_wp2_with (at_builtin; refine wpList_append_own _ rfl _ _ 28 rfl w.heap.size 71 i0 (.agg #[.string ⟨#[]⟩, .int .i64 0]) 2 24 Tryd.underlying28 hi hz0 hz1 hz2 rfl (by decide) _ _ _ rfl (World.ownsRow_made w #[] 0 (Nat.le_refl _) (Nat.zero_le _) rfl) a n cap (Qz (Zh f) n) rfl hlen (HN _ (hT.ext ((Qa.refl _).alloc _)) a rfl) hone (by unfold maxLen; omega) (by omega) (by simp) ?_; intro v' w1 hown hgrow hnil2)
  go_ret
  refine ⟨v', rfl, ((Qa.refl w).alloc _).grown hgrow (fun q hq => by have h : some w.heap.size = some q := hq; cases h; exact Nat.le_refl _), by simpa using hown⟩
theorem Dw (A A' : Option Addr) (ca cb : Nat) (c : Qc) (v : Value) (l : List Pd) (w : World) (hC : Q8 w A ca A' cb c) (hP : Ym w v l) :
  Calls Tryd.prog 42 #[.agg #[.slice A c.nk ca, .slice A' c.ny cb], v] w fun e w' => e = .returned (.int .i64 (c.persE l)) ∧ Qa w w' := by
 obtain ⟨D, cap, vo, vd, vc, rfl, hD, hcap, hmax, _, hat⟩ := hP
 have hn : l.length ≤ 9223372036854775807 := Nat.le_trans hcap (Nat.le_trans hmax (by decide))
 obtain ⟨R, hR0⟩ := Qg (c.persE l)
 rw [← hR0]
 have HR := Lib.hid hR0
 clear hR0
 obtain ⟨n, hnl⟩ := Qg (l.length)
 rw [← hnl] at hn hD hat hcap ⊢
 replace hnl := Lib.hid hnl
 obtain ⟨g, hg⟩ := Qg (fun i => l.getD i Qk)
 have hg' : ∀ i, l.getD i Qk = g i := fun i => by rw [hg]
 simp only [hg'] at hD hat
 replace hg := Lib.hid hg
 clear hg'
 replace hat := Lib.hid hat
 go_enter Tryd.func42, Tryd.ntmps42
 go_upto_region 1 with (fail)
 obtain ⟨v, hv⟩ := Qg (w.alloc (.cells #[.slice A c.nk ca, .slice A' c.ny cb] 52))
 rw [← hv]
 have E : Qa w v := by rw [hv]; exact (Qa.refl _).alloc _
 have B1 : Qb v w.heap.size 52 #[.slice A c.nk ca, .slice A' c.ny cb] := by rw [hv]; exact (Qb.new _ _ _)
 clear hv
 obtain ⟨b1, hb1⟩ := Qg (w.heap.size)
 rw [← hb1] at B1 ⊢
 have hbr : w.heap.size ≤ b1 := by omega
 clear hb1
 have C := hC.ext E
 replace hD := hD.ext E
 replace hat := Lib.hid fun i hi => (hat.out i hi).ext E
 clear hC
 go_upto_region 2 with (fail)
 go_loopw [9] (fun i wr => ∃ k : Nat, k ≤ n ∧ i = .int .i64 k ∧ Hid (∀ j, j < k → c.perOk (g j) = true) ∧ Qa v wr) (fun i _ => n - (intOf i).toNat)
 case atStart => exact ⟨0, Nat.zero_le _, rfl, (fun j h => absurd h (by omega)), Qa.refl _⟩
 case round =>
  obtain ⟨k, hk, rfl, hall, hE⟩ := hrel
  obtain ⟨wo, rfl⟩ := Qg wr
  by_cases hlt : k < n
  ·obtain ⟨b, off, rfl, hb, hc⟩ := (hD.ext hE) (by omega)
   have hP := hat.out k hlt
   have c0 : wo.cell? ⟨b, off + k * 12, none⟩ = some (.string (g k).h) := by simpa [Qq] using hc k 0 _ hlt rfl
   have c1 : wo.cell? ⟨b, off + k * 12 + 1, none⟩ = some (.int .i64 (g k).a.y) := by simpa [Qq] using hc k 1 _ hlt rfl
   have c2 : wo.cell? ⟨b, off + k * 12 + 2, none⟩ = some (.int .i64 (g k).a.m) := by simpa [Qq] using hc k 2 _ hlt rfl
   have c3 : wo.cell? ⟨b, off + k * 12 + 3, none⟩ = some (.bool (g k).a.s) := by simpa [Qq] using hc k 3 _ hlt rfl
   have c4 : wo.cell? ⟨b, off + k * 12 + 4, none⟩ = some (.int .i64 (g k).a.d) := by simpa [Qq] using hc k 4 _ hlt rfl
   have c5 : wo.cell? ⟨b, off + k * 12 + 5, none⟩ = some (.int .i64 (g k).b.y) := by simpa [Qq] using hc k 5 _ hlt rfl
   have c6 : wo.cell? ⟨b, off + k * 12 + 6, none⟩ = some (.int .i64 (g k).b.m) := by simpa [Qq] using hc k 6 _ hlt rfl
   have c7 : wo.cell? ⟨b, off + k * 12 + 7, none⟩ = some (.bool (g k).b.s) := by simpa [Qq] using hc k 7 _ hlt rfl
   have c8 : wo.cell? ⟨b, off + k * 12 + 8, none⟩ = some (.int .i64 (g k).b.d) := by simpa [Qq] using hc k 8 _ hlt rfl
   have c9 : wo.cell? ⟨b, off + k * 12 + 9, none⟩ = some (vo k) := by simpa [Qq] using hc k 9 _ hlt rfl
   have c10 : wo.cell? ⟨b, off + k * 12 + 10, none⟩ = some (vd k) := by simpa [Qq] using hc k 10 _ hlt rfl
   have c11 : wo.cell? ⟨b, off + k * 12 + 11, none⟩ = some (vc k) := by simpa [Qq] using hc k 11 _ hlt rfl
   have NP := fun w h1 h2 => Qdp A A' ca cb c (g k) (vo k) (vd k) (vc k) w h1 h2
   have hno : Hid (c.perOk (g k) = false → R = 83) := fun h => by
    rw [HR.out]; unfold Qc.persE
    rw [if_neg (by rw [Bool.not_eq_true]; exact Aa (k := k) (by rw [← hnl.out]; exact hlt) (by rw [hg.out] at h; exact h))]
   have hyes : Hid (c.perOk (g k) = true → ∀ j, j < k + 1 → c.perOk (g j) = true) := fun h j hj => by
    by_cases e : j = k
    ·subst e; exact h
    ·exact hall.out j (by omega)
   obtain ⟨VO, VD, VC, hvo, hvd, hvc⟩ : ∃ x y z, x = vo k ∧ y = vd k ∧ z = vc k := ⟨_, _, _, rfl, rfl, rfl⟩
   rw [← hvo] at c9 NP hP
   rw [← hvd] at c10 NP hP
   rw [← hvc] at c11 NP hP
   clear hvo hvd hvc hc hall HR hat hg
   obtain ⟨t1, s1, e1, _⟩ := hP.o
   subst e1
   obtain ⟨t2, s2, _, e2, _⟩ := hP.d
   subst e2
   obtain ⟨t3, s3, e3, _⟩ := hP.c
   subst e3
   go_upto_region 4 with (fail)
   obtain ⟨v3, hv⟩ := Qg (wo.alloc (.cells #[.string (g k).h, .int .i64 (g k).a.y, .int .i64 (g k).a.m, .bool (g k).a.s, .int .i64 (g k).a.d, .int .i64 (g k).b.y, .int .i64 (g k).b.m, .bool (g k).b.s, .int .i64 (g k).b.d, .slice t1 (g k).o.length s1, .slice t2 (g k).d.length s2, .slice t3 (g k).c.length s3] 31))
   rw [← hv]
   have E3 : Qa wo v3 := by rw [hv]; exact (Qa.refl _).alloc _
   have H3 : Qb v3 wo.heap.size 31 #[.string (g k).h, .int .i64 (g k).a.y, .int .i64 (g k).a.m, .bool (g k).a.s, .int .i64 (g k).a.d, .int .i64 (g k).b.y, .int .i64 (g k).b.m, .bool (g k).b.s, .int .i64 (g k).b.d, .slice t1 (g k).o.length s1, .slice t2 (g k).d.length s2, .slice t3 (g k).c.length s3] := by rw [hv]; exact Qb.new _ _ _
   clear hv
   generalize wo.heap.size = b3 at *
   clear c0 c1 c2 c3 c4 c5 c6 c7 c8 c9 c10 c11
   replace NP := NP v3 (C.ext (hE.trans E3)) (hP.ext (hE.trans E3))
   replace hE := hE.trans E3
   have B1e := B1.ext hE
   obtain ⟨k0, k1⟩ := B1e.c2
   have lk := B1e.lt
   obtain ⟨p0, p1, p2, p3, p4, p5, p6, p7, p8, p9, p10, p11⟩ := H3.c12
   have lp := H3.lt
   clear E3 hP
   cases hq : c.perOk (g k)
   ·have hr := hno.out hq
    rw [hq] at NP
    clear hno hyes hq
    go_wp2_with (go_at_call 68; (with_reducible refine Calls.mono (NP) ?_); rintro e w2 ⟨rfl, h⟩)
    go_ret
    exact ⟨by rw [hr]; rfl, (E.trans hE).trans h⟩
   ·have hx := Lib.hid (hyes.out hq)
    rw [hq] at NP
    clear hno hyes hq
    go_wp2_with (go_at_call 68; (with_reducible refine Calls.mono (NP) ?_); rintro e w2 ⟨rfl, h⟩)
    exact ⟨⟨k + 1, by omega, by go_num, hx, hE.trans h⟩, by simp [intOf]; omega⟩
  ·obtain rfl : k = n := by omega
   have hr : R = 0 := by
    rw [HR.out]; unfold Qc.persE
    rw [if_pos (Ab fun j hj => by have := hall.out j (by rw [hnl.out]; exact hj); rw [hg.out] at this; exact this)]
   clear HR hall hat hg
   go_wp2
   go_ret
   exact ⟨by rw [hr]; rfl, E.trans hE⟩
theorem C4 (v1 v2 : Value) (a b : List Lt) (w : World) (h1 : Zf w v1 a) (h2 : Zf w v2 b) :
  Calls Tryd.prog 44 #[v1, v2] w fun e w' => ∃ F k m, e = .returned (.tuple #[.slice F k m, .int .i64 (Je 1 a b)]) ∧ Qa w w' ∧ Zf w' (.slice F k m) (J3 1 a b) := by
 obtain ⟨T, cap, rfl, hT, hcap, hmax, _⟩ := h1
 obtain ⟨S, cm, rfl, hS, hcm, hmm, _⟩ := h2
 refine Calls.mono (Fo T a.length cap (Q4 a) S b.length cm (Q4 b) w hT hcap (Nat.le_trans hcap (Nat.le_trans hmax (by decide))) hS hcm (Nat.le_trans hcm (Nat.le_trans hmm (by decide)))) ?_
 rintro e w' ⟨F, k, c, rfl, hx, ho⟩
 exact ⟨F, k, c, rfl, hx, Xp ho⟩
theorem Qeg (v1 v2 : Value) (a b : List Lt) (w : World) (h1 : Zf w v1 a) (h2 : Zf w v2 b) :
  Calls Tryd.prog 43 #[v1, v2] w fun e w' => ∃ F k m, e = .returned (.tuple #[.slice F k m, .int .i64 (Je (-1) a b)]) ∧ Qa w w' ∧ Zf w' (.slice F k m) (J3 (-1) a b) := by
 obtain ⟨T, cap, rfl, hT, hcap, hmax, _⟩ := h1
 obtain ⟨S, cm, rfl, hS, hcm, hmm, _⟩ := h2
 refine Calls.mono (Br T a.length cap (Q4 a) S b.length cm (Q4 b) w hT hcap (Nat.le_trans hcap (Nat.le_trans hmax (by decide))) hS hcm (Nat.le_trans hcm (Nat.le_trans hmm (by decide)))) ?_
 rintro e w' ⟨F, k, c, rfl, hx, ho⟩
 exact ⟨F, k, c, rfl, hx, Xp ho⟩
theorem Bt (s : List Lt) {d : List Dl} {k : Nat} (hk : k < d.length) : Qs s (d.drop k) = if Je (Ys (d.getD k Qv).i) s (d.getD k Qv).l ≠ 0 then ([], Je (Ys (d.getD k Qv).i) s (d.getD k Qv).l) else Qs (J3 (Ys (d.getD k Qv).i) s (d.getD k Qv).l) (d.drop (k + 1)) := by
 have e : d.getD k Qv = d[k] := by simp [List.getD_eq_getElem?_getD, hk]
 rw [e]; exact Qei s d hk
theorem Av (vo vd : Value) (o : List Lt) (d : List Dl) (w : World) (hO : Zf w vo o) (hD : J2 w vd d) (ho : o.length ≤ 1000000) :
  Calls Tryd.prog 17 #[vo, vd] w fun e w' => ∃ v', e = .returned (.tuple #[v', .int .i64 (Qs o d).2]) ∧ Qa w w' ∧ Zf w' v' (Qs o d).1 := by
 obtain ⟨D, cap, vs, rfl, hD, hcap, hmax, _, hat⟩ := hD
 have hn : d.length ≤ 9223372036854775807 := Nat.le_trans hcap (Nat.le_trans hmax (by decide))
 have NC := Wf vo o w hO ho
 obtain ⟨A0, cc0, rfl, _⟩ := id hO
 obtain ⟨R, hR⟩ := Qg (Qs o d)
 rw [← hR]
 replace hR := Lib.hid hR
 go_enter Tryd.func17, Tryd.ntmps17
 go_upto_region 2 with (go_at_call 24; (with_reducible refine Calls.mono (NC) ?_); rintro e w1 ⟨v0, rfl, h1, hown⟩)
 have hS0 := Xp hown
 obtain ⟨F0, m0, rfl⟩ := Zo hown
 clear NC hown hO
 go_upto_region 3 with (fail)
 obtain ⟨n, hnl⟩ := Qg (d.length)
 rw [← hnl] at hn hD hat hcap ⊢
 replace hnl := Lib.hid hnl
 obtain ⟨g, hg⟩ := Qg (fun i => d.getD i Qv)
 have hg' : ∀ i, d.getD i Qv = g i := fun i => by rw [hg]
 have hdr : Hid (∀ s k, k < n → Qs s (d.drop k) = if Je (Ys (g k).i) s (g k).l ≠ 0 then ([], Je (Ys (g k).i) s (g k).l) else Qs (J3 (Ys (g k).i) s (g k).l) (d.drop (k + 1))) := fun s k hk => by
  rw [Bt s (by rw [← hnl.out]; exact hk), hg']
 simp only [hg'] at hD hat
 clear hg hg'
 replace hat := Lib.hid hat
 have hD1 := hD.ext h1
 go_loopw [6, 16] (fun sv iv wr => ∃ (k : Nat) (s : List Lt), k ≤ n ∧ iv = .int .i64 k ∧ Zf wr sv s ∧ Hid (R = Qs s (d.drop k)) ∧ Qa w wr) (fun _ i _ => n - (intOf i).toNat)
 case atStart => exact ⟨0, o, Nat.zero_le _, rfl, hS0, by unfold Hid; rw [hR.out]; rfl, h1⟩
 case round =>
  clear hS0
  obtain ⟨k, s, hk, rfl, hS, hrun, hE⟩ := hrel
  obtain ⟨wo, rfl⟩ := Qg wr
  by_cases hlt : k < n
  ·obtain ⟨b, off, rfl, hb, hc⟩ := (hD.ext hE) (by omega)
   have hL := (hat.out k hlt).ext hE
   have c0 : wo.cell? ⟨b, off + k * 7, none⟩ = some (.int .i64 (g k).on.y) := by simpa [Qu] using hc k 0 _ hlt rfl
   have c1 : wo.cell? ⟨b, off + k * 7 + 1, none⟩ = some (.int .i64 (g k).on.m) := by simpa [Qu] using hc k 1 _ hlt rfl
   have c2 : wo.cell? ⟨b, off + k * 7 + 2, none⟩ = some (.bool (g k).on.s) := by simpa [Qu] using hc k 2 _ hlt rfl
   have c3 : wo.cell? ⟨b, off + k * 7 + 3, none⟩ = some (.int .i64 (g k).on.d) := by simpa [Qu] using hc k 3 _ hlt rfl
   have c4 : wo.cell? ⟨b, off + k * 7 + 4, none⟩ = some (.bool (g k).i) := by simpa [Qu] using hc k 4 _ hlt rfl
   have c5 : wo.cell? ⟨b, off + k * 7 + 5, none⟩ = some (.string (g k).w) := by simpa [Qu] using hc k 5 _ hlt rfl
   have c6 : wo.cell? ⟨b, off + k * 7 + 6, none⟩ = some (vs k) := by simpa [Qu] using hc k 6 _ hlt rfl
   have HS := Lib.hid (hdr.out s k hlt)
   obtain ⟨VL, hvl⟩ := Qg (vs k)
   rw [← hvl] at c6 hL
   clear hvl hc hdr hat hR hD hD1
   obtain ⟨TL, cl, hVL, _⟩ := id hL
   subst hVL
   obtain ⟨AS, cs, hsv, _⟩ := id hS
   subst hsv
   obtain ⟨SD, hSD⟩ := Qg (Qs s (d.drop k))
   rw [← hSD] at HS hrun
   clear hSD
   go_upto_region 5 with (fail)
   obtain ⟨v3, hv⟩ := Qg (wo.alloc (.cells #[.int .i64 (g k).on.y, .int .i64 (g k).on.m, .bool (g k).on.s, .int .i64 (g k).on.d, .bool (g k).i, .string (g k).w, .slice TL (g k).l.length cl] 67))
   rw [← hv]
   have E3 : Qa wo v3 := by rw [hv]; exact (Qa.refl _).alloc _
   have H3 : Qb v3 wo.heap.size 67 #[.int .i64 (g k).on.y, .int .i64 (g k).on.m, .bool (g k).on.s, .int .i64 (g k).on.d, .bool (g k).i, .string (g k).w, .slice TL (g k).l.length cl] := by rw [hv]; exact Qb.new _ _ _
   clear hv
   generalize wo.heap.size = b3 at *
   clear c0 c1 c2 c3 c4 c5 c6
   replace hL := hL.ext E3
   replace hS := hS.ext E3
   replace hE := hE.trans E3
   clear E3
   have NA := fun h1 h2 => C4 (.slice AS s.length cs) (.slice TL (g k).l.length cl) s (g k).l v3 h1 h2
   have NB := fun h1 h2 => Qeg (.slice AS s.length cs) (.slice TL (g k).l.length cl) s (g k).l v3 h1 h2
   obtain ⟨q0, q1, q2, q3, q4, q5, q6⟩ := L8 H3
   have lq := H3.lt
   cases hi : (g k).i
   ·have NX := NB hS hL
    rw [hi] at HS
    have HS2 : Hid (SD = if Je (-1) s (g k).l ≠ 0 then ([], Je (-1) s (g k).l) else Qs (J3 (-1) s (g k).l) (d.drop (k + 1))) := HS
    rw [hi] at q4
    clear HS hi
    generalize hce : Je (-1) s (g k).l = E1 at *
    generalize J3 (-1) s (g k).l = L1 at *
    by_cases e0 : E1 = 0
    ·subst e0
     have HS3 := Lib.hid (HS2.out.trans (if_neg (by simp)))
     clear HS2 hce
     go_wp2_with (first | (go_at_call 43; (with_reducible refine Calls.mono (NX) ?_); rintro e w6 ⟨F6, k6, m6, rfl, h6, L6⟩) | (go_at_fn 43; (with_reducible refine Calls.mono (NX) ?_); rintro e w6 ⟨F6, k6, m6, rfl, h6, L6⟩))
     exact ⟨⟨k + 1, L1, by omega, by go_num, L6, Lib.hid (hrun.out.trans HS3.out), hE.trans h6⟩, by simp [intOf]; omega⟩
    ·have g0 : (E1 == 0) = false := beq_eq_false_iff_ne.2 e0
     have g0n : (E1 != 0) = true := by rw [bne, g0]; rfl
     have HS3 := Lib.hid (hrun.out.trans (HS2.out.trans (if_pos e0)))
     clear HS2 hrun hce e0
     go_wp2_with (first | (go_at_call 43; (with_reducible refine Calls.mono (NX) ?_); rintro e w6 ⟨F6, k6, m6, rfl, h6, L6⟩) | (go_at_fn 43; (with_reducible refine Calls.mono (NX) ?_); rintro e w6 ⟨F6, k6, m6, rfl, h6, L6⟩))
     go_ret2
     exact ⟨_, by rw [HS3.out]; rfl, hE.trans h6, by rw [HS3.out]; exact Vw _⟩
   ·have NX := NA hS hL
    rw [hi] at HS
    have HS2 : Hid (SD = if Je 1 s (g k).l ≠ 0 then ([], Je 1 s (g k).l) else Qs (J3 1 s (g k).l) (d.drop (k + 1))) := HS
    rw [hi] at q4
    clear HS hi
    generalize hce : Je 1 s (g k).l = E1 at *
    generalize J3 1 s (g k).l = L1 at *
    by_cases e0 : E1 = 0
    ·subst e0
     have HS3 := Lib.hid (HS2.out.trans (if_neg (by simp)))
     clear HS2 hce
     go_wp2_with (first | (go_at_call 44; (with_reducible refine Calls.mono (NX) ?_); rintro e w6 ⟨F6, k6, m6, rfl, h6, L6⟩) | (go_at_fn 44; (with_reducible refine Calls.mono (NX) ?_); rintro e w6 ⟨F6, k6, m6, rfl, h6, L6⟩))
     exact ⟨⟨k + 1, L1, by omega, by go_num, L6, Lib.hid (hrun.out.trans HS3.out), hE.trans h6⟩, by simp [intOf]; omega⟩
    ·have g0 : (E1 == 0) = false := beq_eq_false_iff_ne.2 e0
     have g0n : (E1 != 0) = true := by rw [bne, g0]; rfl
     have HS3 := Lib.hid (hrun.out.trans (HS2.out.trans (if_pos e0)))
     clear HS2 hrun hce e0
     go_wp2_with (first | (go_at_call 44; (with_reducible refine Calls.mono (NX) ?_); rintro e w6 ⟨F6, k6, m6, rfl, h6, L6⟩) | (go_at_fn 44; (with_reducible refine Calls.mono (NX) ?_); rintro e w6 ⟨F6, k6, m6, rfl, h6, L6⟩))
     go_ret2
     exact ⟨_, by rw [HS3.out]; rfl, hE.trans h6, by rw [HS3.out]; exact Vw _⟩
  ·obtain rfl : k = n := by omega
   have hr : Hid (R = (s, 0)) := by
    unfold Hid
    rw [hrun.out, hnl.out, List.drop_length]; rfl
   clear hrun hdr hat hR
   go_wp2
   go_ret2
   exact ⟨_, by rw [hr.out]; rfl, hE, by rw [hr.out]; exact hS⟩
theorem Fd (A A' : Option Addr) (ca cb : Nat) (c : Qc) (v : Value) (l : List Pd) (w : World) (hC : Q8 w A ca A' cb c) (hP : Ym w v l) :
  Calls Tryd.prog 16 #[.agg #[.slice A c.nk ca, .slice A' c.ny cb], v] w fun e w' => e = .returned (.tuple #[.agg #[.slice A c.nk ca, .slice A' c.ny cb], .int .i64 (c.validE l)]) ∧ Qa w w' := by
 have NO := fun w h => K0 A A' ca cb c w h
 obtain ⟨D, cap, _, _, _, hv9, _⟩ := id hP
 subst hv9
 have NP := fun w h1 h2 => Dw A A' ca cb c (.slice D l.length cap) l w h1 h2
 obtain ⟨R, hR0⟩ := Qg (c.validE l)
 rw [← hR0]
 have HR := Lib.hid hR0
 clear hR0
 go_enter Tryd.func16, Tryd.ntmps16
 go_upto_region 1 with (fail)
 obtain ⟨v, hv⟩ := Qg ((w.alloc (.cells #[.slice A c.nk ca, .slice A' c.ny cb] 25)).alloc (.cells #[.slice none 0 0, .slice none 0 0] 52))
 rw [← hv]
 have E : Qa w v := by rw [hv]; exact ((Qa.refl _).alloc _).alloc _
 have B1 : Qb v w.heap.size 25 #[.slice A c.nk ca, .slice A' c.ny cb] := by rw [hv]; exact (Qb.new _ _ _).alloc _
 have B2 : Qb v (w.heap.size + 1) 52 #[.slice none 0 0, .slice none 0 0] := by rw [hv]; exact Qb.at _ _ _ _ (by simp)
 clear hv
 obtain ⟨b2, hb2⟩ := Qg (w.heap.size + 1)
 rw [← hb2] at B2 ⊢
 obtain ⟨b1, hb1⟩ := Qg (w.heap.size)
 rw [← hb1] at B1 ⊢
 have hbr : w.heap.size ≤ b2 := by omega
 have hbr1 : w.heap.size ≤ b1 := by omega
 have hn21 : b2 ≠ b1 := by omega
 clear hb1 hb2
 obtain ⟨k0, k1⟩ := B1.c2
 have lk := B1.lt
 obtain ⟨ck, hck⟩ := Qg (c.chk)
 simp only [← hck] at NO
 replace hck := Lib.hid hck
 go_upto_region 2 with (go_at_call 41; (with_reducible refine Calls.mono (NO _ (hC.ext E)) ?_); rintro e w1 ⟨rfl, h1⟩)
 obtain ⟨v3, hv⟩ := Qg (w1.alloc (.cells #[.slice A c.nk ca, .slice A' c.ny cb] 52))
 rw [← hv]
 have h3 : Qa w1 v3 := by rw [hv]; exact (Qa.refl _).alloc _
 have H3 : Qb v3 w1.heap.size 52 #[.slice A c.nk ca, .slice A' c.ny cb] := by rw [hv]; exact Qb.new _ _ _
 clear hv
 generalize w1.heap.size = b9 at *
 replace E := (E.trans h1).trans h3
 replace B2 := (B2.ext h1).ext h3
 have C := hC.ext E
 have P := hP.ext E
 clear hC hP k0 k1 lk B1 NO h1 h3
 by_cases e0 : ck = 0
 rotate_left
 ·have g0 : (ck == 0) = false := beq_eq_false_iff_ne.2 e0
  have g0n : (ck != 0) = true := by rw [bne, g0]; rfl
  have hr : R = ck := by rw [HR.out, hck.out]; unfold Qc.validE; rw [if_pos (by rw [← hck.out]; exact e0)]
  clear HR e0 hck NP
  obtain ⟨k0, k1⟩ := H3.c2
  have lk := H3.lt
  have f0 := B2.frozen 0
  have f1 := B2.frozen 1
  obtain ⟨x0, x1⟩ := B2.c2
  have lx := B2.lt
  have H4 := Ql B2 (.slice A c.nk ca) (.slice A' c.ny cb)
  have EF := (E.setCell (p := ⟨b2, 0, none⟩) hbr (.slice A c.nk ca)).setCell (p := ⟨b2, 1, none⟩) hbr (.slice A' c.ny cb)
  obtain ⟨y0, y1⟩ := H4.c2
  go_wp2
  refine bodyPost_ret (v := .tuple #[.agg #[.slice A c.nk ca, .slice A' c.ny cb], .int .i64 ck]) (by simp [results, Tryd.results16, go_sem, y0, y1]) rfl ⟨by rw [hr], EF⟩
 ·subst e0
  have hr : Hid (R = c.persE l) := by unfold Hid; rw [HR.out]; unfold Qc.validE; rw [if_neg (by rw [← hck.out]; simp)]
  clear HR hck
  go_upto_region 4 with (fail)
  refine Q5 6 [4, 5] (fun x => Qa v3 x) Qr rfl ?_
  intro vz hvz
  have HC := hvz
  refine Qp (g := 3) [0, 1, 2] [_, _, _] ⟨rfl, rfl, rfl, trivial⟩ (by kernel_rfl) (by kernel_rfl) HC ?_
  simp only [Qd, Qe, Qf]
  apply Exists.intro
  refine ⟨fun u hu => ?_, ?_⟩
  ·obtain ⟨k0, k1⟩ := (H3.ext hu).c2
   have lk := (H3.ext hu).lt
   repeat (first | go_big_quiet_skip | (go_big_quiet_want; go_big_quiet_op; go_big_quiet_on))
   refine wpQuiet_nil ?_
   rfl
  refine Qj 3 rfl (by kernel_rfl) ?_
  simp only [Qd, Qe, Qf]
  go_wp2_with (go_at_call 42; (with_reducible refine Calls.mono (NP _ (C.ext HC) (P.ext HC)) ?_); rintro e va ⟨rfl, h4⟩)
  replace HC := HC.trans h4
  clear h4
  refine Qi HC ?_
  refine Qn 4 rfl (by kernel_rfl) ?_
  simp only [Qd, Qe, Qf]
  replace B2 := B2.ext HC
  replace E := E.trans HC
  have f0 := B2.frozen 0
  have f1 := B2.frozen 1
  obtain ⟨x0, x1⟩ := B2.c2
  have lx := B2.lt
  have H4 := Ql B2 (.slice A c.nk ca) (.slice A' c.ny cb)
  have EF := (E.setCell (p := ⟨b2, 0, none⟩) hbr (.slice A c.nk ca)).setCell (p := ⟨b2, 1, none⟩) hbr (.slice A' c.ny cb)
  obtain ⟨y0, y1⟩ := H4.c2
  go_wp2
  refine Qm ?_
  refine Qn 5 rfl (by kernel_rfl) ?_
  simp only [Qd, Qe, Qf]
  go_wp2
  refine Qm ?_
  refine Qt (by kernel_rfl) ?_
  go_wp2
  refine bodyPost_ret (v := .tuple #[.agg #[.slice A c.nk ca, .slice A' c.ny cb], .int .i64 (c.persE l)]) (by simp [results, Tryd.results16, go_sem, y0, y1]) rfl ⟨by rw [hr.out], EF⟩
theorem Kr (A A' : Option Addr) (ca cb : Nat) (c : Qc) (p : Pd) (vo vd vc : Value) (w : World) (hC : Q8 w A ca A' cb c) (hP : Zv w p vo vd vc) :
  Calls Tryd.prog 6 #[.agg #[.slice A c.nk ca, .slice A' c.ny cb], .agg #[.string p.h, .int .i64 p.a.y, .int .i64 p.a.m, .bool p.a.s, .int .i64 p.a.d, .int .i64 p.b.y, .int .i64 p.b.m, .bool p.b.s, .int .i64 p.b.d, vo, vd, vc]] w fun e w' => ∃ v', e = .returned (.tuple #[v', .int .i64 (c.closeV p).2]) ∧ Qa w w' ∧ Zf w' v' (c.closeV p).1 := by
 obtain ⟨t1, s1, e1, _⟩ := id hP.o
 subst e1
 obtain ⟨t2, s2, _, e2, _⟩ := id hP.d
 subst e2
 obtain ⟨t3, s3, e3, _⟩ := id hP.c
 subst e3
 have NV := fun w h1 v h2 => Fd A A' ca cb c v [p] w h1 h2
 simp only [Cp] at NV
 obtain ⟨R, hR0⟩ := Qg (c.closeV p)
 rw [← hR0]
 have HR := Lib.hid hR0
 clear hR0
 go_enter Tryd.func6, Tryd.ntmps6
 go_upto_region 1 with (fail)
 obtain ⟨v, hv⟩ := Qg ((w.alloc (.cells #[.slice A c.nk ca, .slice A' c.ny cb] 25)).alloc (.cells #[.string p.h, .int .i64 p.a.y, .int .i64 p.a.m, .bool p.a.s, .int .i64 p.a.d, .int .i64 p.b.y, .int .i64 p.b.m, .bool p.b.s, .int .i64 p.b.d, .slice t1 p.o.length s1, .slice t2 p.d.length s2, .slice t3 p.c.length s3] 31))
 rw [← hv]
 have E : Qa w v := by rw [hv]; exact ((Qa.refl _).alloc _).alloc _
 have B1 : Qb v w.heap.size 25 #[.slice A c.nk ca, .slice A' c.ny cb] := by rw [hv]; exact (Qb.new _ _ _).alloc _
 have B2 : Qb v (w.heap.size + 1) 31 #[.string p.h, .int .i64 p.a.y, .int .i64 p.a.m, .bool p.a.s, .int .i64 p.a.d, .int .i64 p.b.y, .int .i64 p.b.m, .bool p.b.s, .int .i64 p.b.d, .slice t1 p.o.length s1, .slice t2 p.d.length s2, .slice t3 p.c.length s3] := by rw [hv]; exact Qb.at _ _ _ _ (by simp)
 clear hv
 obtain ⟨b2, hb2⟩ := Qg (w.heap.size + 1)
 rw [← hb2] at B2 ⊢
 obtain ⟨b1, hb1⟩ := Qg (w.heap.size)
 rw [← hb1] at B1 ⊢
 have hbr : w.heap.size ≤ b2 := by omega
 have hbr1 : w.heap.size ≤ b1 := by omega
 have hn21 : b2 ≠ b1 := by omega
 clear hb1 hb2
 have C := hC.ext E
 have P := hP.ext E
 clear hC hP
 obtain ⟨k0, k1⟩ := B1.c2
 have lk := B1.lt
 obtain ⟨p0, p1, p2, p3, p4, p5, p6, p7, p8, p9, p10, p11⟩ := B2.c12
 have lp := B2.lt
 obtain ⟨pe, hpe⟩ := Qg (c.perE p)
 simp only [← hpe] at NV
 replace hpe := Lib.hid hpe
 have AL := (Qa.refl v).alloc (.cells #[.string p.h, .int .i64 p.a.y, .int .i64 p.a.m, .bool p.a.s, .int .i64 p.a.d, .int .i64 p.b.y, .int .i64 p.b.m, .bool p.b.s, .int .i64 p.b.d, .slice t1 p.o.length s1, .slice t2 p.d.length s2, .slice t3 p.c.length s3] 31)
 have NV1 := NV _ (C.ext AL) (.slice (some ⟨v.heap.size, 0, none⟩) 1 1) (Dx (t := 31) (Qb.new v 31 #[.string p.h, .int .i64 p.a.y, .int .i64 p.a.m, .bool p.a.s, .int .i64 p.a.d, .int .i64 p.b.y, .int .i64 p.b.m, .bool p.b.s, .int .i64 p.b.d, .slice t1 p.o.length s1, .slice t2 p.d.length s2, .slice t3 p.c.length s3]) (P.ext AL))
 go_upto_region 2 with (go_at_call 16; (with_reducible refine Calls.mono (NV1) ?_); rintro e w1 ⟨rfl, h1⟩)
 replace h1 := AL.trans h1
 clear NV NV1 AL
 obtain ⟨v3, hv⟩ := Qg (w1.alloc (.cells #[.slice A c.nk ca, .slice A' c.ny cb] 52))
 rw [← hv]
 have h3 : Qa w1 v3 := by rw [hv]; exact (Qa.refl _).alloc _
 have H3 : Qb v3 w1.heap.size 52 #[.slice A c.nk ca, .slice A' c.ny cb] := by rw [hv]; exact Qb.new _ _ _
 clear hv
 generalize w1.heap.size = b9 at *
 replace h1 := h1.trans h3
 replace E := E.trans h1
 replace C := C.ext h1
 replace P := P.ext h1
 replace B2 := B2.ext h1
 clear h1 h3 H3 B1 k0 k1 lk p0 p1 p2 p3 p4 p5 p6 p7 p8 p9 p10 p11 lp
 by_cases e0 : pe = 0
 rotate_left
 ·have g0 : (pe == 0) = false := beq_eq_false_iff_ne.2 e0
  have g0n : (pe != 0) = true := by rw [bne, g0]; rfl
  have hr : Hid (R = ([], pe)) := by unfold Hid; rw [HR.out, hpe.out]; unfold Qc.closeV; rw [if_pos (by rw [← hpe.out]; exact e0)]
  clear HR e0 hpe
  go_wp2
  go_ret2
  exact ⟨_, by rw [hr.out]; rfl, E, by rw [hr.out]; exact Vw _⟩
 ·subst e0
  have hr : Hid (R = Qs p.o p.d) := by unfold Hid; rw [HR.out]; unfold Qc.closeV; rw [if_neg (by rw [← hpe.out]; simp)]
  have NB := Av _ _ p.o p.d v3 P.o P.d (by have := Qdo hpe.out.symm; omega)
  clear HR hpe
  rw [← hr.out] at NB
  clear hr
  obtain ⟨p0, p1, p2, p3, p4, p5, p6, p7, p8, p9, p10, p11⟩ := B2.c12
  have lp := B2.lt
  go_wp2_with (go_at_call 17; (with_reducible refine Calls.mono (NB) ?_); rintro e w5 ⟨v5, rfl, h5, L5⟩)
  go_ret2
  exact ⟨v5, rfl, E.trans h5, L5⟩
def Rt.neg (r : Rt) : Rt := ⟨-r.n, r.d⟩
section
variable {W : World} {b : Nat} {t : TypeId} {v0 v1 v2 : Value}
end
end
section
open Go Go.RowKit
attribute [local go_sem] Zi
def Qw (y : Yr) (k : Nat) : Int := y.lens (y.mos.take k)
end
section
open Go Go.RowKit Go.Shelf
attribute [local go_sem] Zi Dt.val
theorem U6 {W : World} {b : Nat} {t : TypeId} {v0 v1 v2 v3 : Value} (h : Qb W b t #[v0, v1, v2, v3]) (u0 u1 u2 u3 : Value) :
  ((((((W.setCell ⟨b, 0, none⟩ u0).setCell ⟨b, 1, none⟩ u1).setCell ⟨b, 2, none⟩ u2).setCell ⟨b, 3, none⟩ u3).cell? ⟨b, 0, none⟩ = some u0) ∧ (((((W.setCell ⟨b, 0, none⟩ u0).setCell ⟨b, 1, none⟩ u1).setCell ⟨b, 2, none⟩ u2).setCell ⟨b, 3, none⟩ u3).cell? ⟨b, 1, none⟩ = some u1) ∧
   (((((W.setCell ⟨b, 0, none⟩ u0).setCell ⟨b, 1, none⟩ u1).setCell ⟨b, 2, none⟩ u2).setCell ⟨b, 3, none⟩ u3).cell? ⟨b, 2, none⟩ = some u2) ∧ (((((W.setCell ⟨b, 0, none⟩ u0).setCell ⟨b, 1, none⟩ u1).setCell ⟨b, 2, none⟩ u2).setCell ⟨b, 3, none⟩ u3).cell? ⟨b, 3, none⟩ = some u3)) ∧
  ∀ wd, Qa wd W → wd.heap.size ≤ b → Qa wd ((((W.setCell ⟨b, 0, none⟩ u0).setCell ⟨b, 1, none⟩ u1).setCell ⟨b, 2, none⟩ u2).setCell ⟨b, 3, none⟩ u3) :=
 ⟨(Sb h u0 u1 u2 u3).c4, fun _ e h1 => (((e.setCell h1 _).setCell h1 _).setCell h1 _).setCell h1 _⟩
set_option maxHeartbeats 1000000 in
theorem Al (A A' : Option Addr) (ca cb : Nat) (c : Qc) (n : Int) (w : World) (hC : Q8 w A ca A' cb c) (hn1 : -9223372036854775808 ≤ n) (hn2 : n ≤ 9223372036854775807) :
  Calls Tryd.prog 8 #[.agg #[.slice A c.nk ca, .slice A' c.ny cb], .int .i64 n] w fun e w' => e = .returned (.tuple #[(c.atV n).val, .int .i64 (c.atE n)]) ∧ Qa w w' := by
 cases hv : c.valid
 ·have HE := Lib.hid (Rq hv)
  have HV : Hid (c.atV n = Y2) := by unfold Hid Qc.atV; rw [hv]; rfl
  have HR : Hid (c.atE n = 70) := by unfold Hid Qc.atE; rw [hv]; rfl
  clear hv
  go_enter Tryd.func8, Tryd.ntmps8
  go_wp2_with (go_at_call 20; refine (Xb _ _ _ _ c none 0 0 (fun _ => ⟨0, 0, false, 0⟩) _ (hC.ext (by repeat (first | exact Qa.refl _ | (refine Qa.alloc ?_ _) | (refine Qa.trans ?_ (by assumption))))) (Bb _ _ _) (by omega)).mono ?_; rw [Rp, HE.out]; rintro e wq ⟨rfl, hq⟩; have hrb := (Qb.ext (b := w.heap.size + 1) (t := 27) (cs := #[.int .i64 0, .int .i64 0, .bool false, .int .i64 0]) (by repeat (first | (refine Qb.at _ _ _ _ ?_; (simp; done)) | refine Qb.alloc ?_ _)) hq); obtain ⟨r0, r1, r2, r3⟩ := hrb.c4; have f0 := hrb.frozen 0; have f1 := hrb.frozen 1; have f2 := hrb.frozen 2; have f3 := hrb.frozen 3)
  obtain ⟨⟨c0, c1, c2, c3⟩, gE⟩ := U6 hrb (.int .i64 0) (.int .i64 0) (.bool false) (.int .i64 0)
  refine bodyPost_ret (v := .tuple #[.agg #[.int .i64 0, .int .i64 0, .bool false, .int .i64 0], .int .i64 70]) (by simp [results, Tryd.results8, go_sem, c0, c1, c2, c3]) rfl ⟨by rw [HV.out, HR.out]; rfl, gE w (by repeat (first | exact Qa.refl _ | (refine Qa.alloc ?_ _) | (refine Qa.trans ?_ (by assumption)))) (by omega)⟩
 ·have HE := Lib.hid (Rr hv)
  have HL := Lib.hid (Ka hv)
  have HY := Lib.hid (Lj hv)
  have HV : Hid (c.atV n = (c.at? n).getD Y2) := by unfold Hid Qc.atV; rw [hv]; rfl
  have HR : Hid (c.atE n = Kl (c.at? n)) := by unfold Hid Qc.atE; rw [hv]; rfl
  clear hv
  go_enter Tryd.func8, Tryd.ntmps8
  go_wp2_with (go_at_call 20; refine (Xb _ _ _ _ c none 0 0 (fun _ => ⟨0, 0, false, 0⟩) _ (hC.ext (by repeat (first | exact Qa.refl _ | (refine Qa.alloc ?_ _) | (refine Qa.trans ?_ (by assumption))))) (Bb _ _ _) (by omega)).mono ?_; rw [Rp, HE.out]; rintro e wq ⟨rfl, hq⟩; obtain ⟨k0, k1⟩ := (Qb.ext (b := w.heap.size) (t := 25) (cs := #[.slice A c.nk ca, .slice A' c.ny cb]) (by repeat (first | (refine Qb.at _ _ _ _ ?_; (simp; done)) | refine Qb.alloc ?_ _)) hq).c2; have hrb := (Qb.ext (b := w.heap.size + 1) (t := 27) (cs := #[.int .i64 0, .int .i64 0, .bool false, .int .i64 0]) (by repeat (first | (refine Qb.at _ _ _ _ ?_; (simp; done)) | refine Qb.alloc ?_ _)) hq); obtain ⟨r0, r1, r2, r3⟩ := hrb.c4; have f0 := hrb.frozen 0; have f1 := hrb.frozen 1; have f2 := hrb.frozen 2; have f3 := hrb.frozen 3)
  refine (Fz _ _ _ _ c n _ (hC.ext (by repeat (first | exact Qa.refl _ | (refine Qa.alloc ?_ _) | (refine Qa.trans ?_ (by assumption))))) HL.out HY.out hn1 hn2).mono ?_
  rintro e wn ⟨rfl, hn⟩
  clear r0 r1 r2 r3 f0 f1 f2 f3
  have hrb := hrb.ext hn
  obtain ⟨r0, r1, r2, r3⟩ := hrb.c4
  have f0 := hrb.frozen 0
  have f1 := hrb.frozen 1
  have f2 := hrb.frozen 2
  have f3 := hrb.frozen 3
  generalize (c.at? n).getD Y2 = dd at *
  generalize Kl (c.at? n) = ee at *
  go_wp2
  obtain ⟨⟨c0, c1, c2, c3⟩, gE⟩ := U6 hrb (.int .i64 dd.y) (.int .i64 dd.m) (.bool dd.s) (.int .i64 dd.d)
  refine bodyPost_ret (v := .tuple #[.agg #[.int .i64 dd.y, .int .i64 dd.m, .bool dd.s, .int .i64 dd.d], .int .i64 ee]) (by simp [results, Tryd.results8, go_sem, c0, c1, c2, c3]) rfl ⟨by rw [HV.out, HR.out]; rfl, gE w (by repeat (first | exact Qa.refl _ | (refine Qa.alloc ?_ _) | (refine Qa.trans ?_ (by assumption)))) (by omega)⟩
set_option maxHeartbeats 2000000 in
theorem C7 (A A' : Option Addr) (ca cb : Nat) (c : Qc) (d : Dt) (n : Int) (w : World) (hC : Q8 w A ca A' cb c) :
  Calls Tryd.prog 23 #[.agg #[.slice A c.nk ca, .slice A' c.ny cb], .agg #[.int .i64 d.y, .int .i64 d.m, .bool d.s, .int .i64 d.d], .int .i64 n] w fun e w' => e = .returned (.tuple #[(c.addV d n).val, .int .i64 (c.addE d n)]) ∧ Qa w w' := by
 rcases Sc c d with ⟨hv, hE⟩ | ⟨hv, hh, hE⟩ | ⟨hv, hh, hE⟩
 ·have HE := Lib.hid hE
  have HV : Hid (c.addV d n = Y2) := by unfold Hid Qc.addV; rw [hE]; rfl
  have HR : Hid (c.addE d n = 70) := by unfold Hid Qc.addE; rw [hE]; rfl
  clear hE hv
  go_enter Tryd.func23, Tryd.ntmps23
  go_wp2_with (go_at_call 20; refine (Xb _ _ _ _ c _ 1 1 (fun _ => d) _ (hC.ext (by repeat (first | exact Qa.refl _ | (refine Qa.alloc ?_ _) | (refine Qa.trans ?_ (by assumption))))) (Uq (t := 27) (by repeat (first | (refine Qb.at _ _ _ _ ?_; (simp; done)) | refine Qb.alloc ?_ _))) (by omega)).mono ?_; rw [Ug, HE.out]; rintro e wq ⟨rfl, hq⟩; have hrb := (Qb.ext (b := w.heap.size + 1 + 1) (t := 27) (cs := #[.int .i64 0, .int .i64 0, .bool false, .int .i64 0]) (by repeat (first | (refine Qb.at _ _ _ _ ?_; (simp; done)) | refine Qb.alloc ?_ _)) hq); obtain ⟨r0, r1, r2, r3⟩ := hrb.c4; have f0 := hrb.frozen 0; have f1 := hrb.frozen 1; have f2 := hrb.frozen 2; have f3 := hrb.frozen 3)
  obtain ⟨⟨c0, c1, c2, c3⟩, gE⟩ := U6 hrb (.int .i64 0) (.int .i64 0) (.bool false) (.int .i64 0)
  refine bodyPost_ret (v := .tuple #[.agg #[.int .i64 0, .int .i64 0, .bool false, .int .i64 0], .int .i64 70]) (by simp [results, Tryd.results23, go_sem, c0, c1, c2, c3]) rfl ⟨by rw [HV.out, HR.out]; rfl, gE w (by repeat (first | exact Qa.refl _ | (refine Qa.alloc ?_ _) | (refine Qa.trans ?_ (by assumption)))) (by omega)⟩
 ·have HE := Lib.hid hE
  have HV : Hid (c.addV d n = Y2) := by unfold Hid Qc.addV; rw [hE]; rfl
  have HR : Hid (c.addE d n = 71) := by unfold Hid Qc.addE; rw [hE]; rfl
  clear hE hv
  go_enter Tryd.func23, Tryd.ntmps23
  go_wp2_with (go_at_call 20; refine (Xb _ _ _ _ c _ 1 1 (fun _ => d) _ (hC.ext (by repeat (first | exact Qa.refl _ | (refine Qa.alloc ?_ _) | (refine Qa.trans ?_ (by assumption))))) (Uq (t := 27) (by repeat (first | (refine Qb.at _ _ _ _ ?_; (simp; done)) | refine Qb.alloc ?_ _))) (by omega)).mono ?_; rw [Ug, HE.out]; rintro e wq ⟨rfl, hq⟩; have hrb := (Qb.ext (b := w.heap.size + 1 + 1) (t := 27) (cs := #[.int .i64 0, .int .i64 0, .bool false, .int .i64 0]) (by repeat (first | (refine Qb.at _ _ _ _ ?_; (simp; done)) | refine Qb.alloc ?_ _)) hq); obtain ⟨r0, r1, r2, r3⟩ := hrb.c4; have f0 := hrb.frozen 0; have f1 := hrb.frozen 1; have f2 := hrb.frozen 2; have f3 := hrb.frozen 3)
  obtain ⟨⟨c0, c1, c2, c3⟩, gE⟩ := U6 hrb (.int .i64 0) (.int .i64 0) (.bool false) (.int .i64 0)
  refine bodyPost_ret (v := .tuple #[.agg #[.int .i64 0, .int .i64 0, .bool false, .int .i64 0], .int .i64 71]) (by simp [results, Tryd.results23, go_sem, c0, c1, c2, c3]) rfl ⟨by rw [HV.out, HR.out]; rfl, gE w (by repeat (first | exact Qa.refl _ | (refine Qa.alloc ?_ _) | (refine Qa.trans ?_ (by assumption)))) (by omega)⟩
 ·have HE := Lib.hid hE
  by_cases hr : 156000 < n ∨ n < -156000
  ·have hno := C8 hh (Lj hv) hr
   have HV : Hid (c.addV d n = Y2) := by unfold Hid Qc.addV; rw [hE, hno]; rfl
   have HR : Hid (c.addE d n = 8) := by unfold Hid Qc.addE; rw [hE, hno]; rfl
   clear hE hv hh hno
   by_cases h1 : 156000 < n
   ·have hb : decide (156000 < n) = true := decide_eq_true h1
    clear hr
    go_enter Tryd.func23, Tryd.ntmps23
    go_wp2_with (go_at_call 20; refine (Xb _ _ _ _ c _ 1 1 (fun _ => d) _ (hC.ext (by repeat (first | exact Qa.refl _ | (refine Qa.alloc ?_ _) | (refine Qa.trans ?_ (by assumption))))) (Uq (t := 27) (by repeat (first | (refine Qb.at _ _ _ _ ?_; (simp; done)) | refine Qb.alloc ?_ _))) (by omega)).mono ?_; rw [Ug, HE.out]; rintro e wq ⟨rfl, hq⟩; have hrb := (Qb.ext (b := w.heap.size + 1 + 1) (t := 27) (cs := #[.int .i64 0, .int .i64 0, .bool false, .int .i64 0]) (by repeat (first | (refine Qb.at _ _ _ _ ?_; (simp; done)) | refine Qb.alloc ?_ _)) hq); obtain ⟨r0, r1, r2, r3⟩ := hrb.c4; have f0 := hrb.frozen 0; have f1 := hrb.frozen 1; have f2 := hrb.frozen 2; have f3 := hrb.frozen 3)
    obtain ⟨⟨c0, c1, c2, c3⟩, gE⟩ := U6 hrb (.int .i64 0) (.int .i64 0) (.bool false) (.int .i64 0)
    refine bodyPost_ret (v := .tuple #[.agg #[.int .i64 0, .int .i64 0, .bool false, .int .i64 0], .int .i64 8]) (by simp [results, Tryd.results23, go_sem, c0, c1, c2, c3]) rfl ⟨by rw [HV.out, HR.out]; rfl, gE w (by repeat (first | exact Qa.refl _ | (refine Qa.alloc ?_ _) | (refine Qa.trans ?_ (by assumption)))) (by omega)⟩
   ·have hb : decide (156000 < n) = false := decide_eq_false h1
    have hb2 : decide (n < -156000) = true := decide_eq_true (by omega)
    clear hr h1
    go_enter Tryd.func23, Tryd.ntmps23
    go_wp2_with (go_at_call 20; refine (Xb _ _ _ _ c _ 1 1 (fun _ => d) _ (hC.ext (by repeat (first | exact Qa.refl _ | (refine Qa.alloc ?_ _) | (refine Qa.trans ?_ (by assumption))))) (Uq (t := 27) (by repeat (first | (refine Qb.at _ _ _ _ ?_; (simp; done)) | refine Qb.alloc ?_ _))) (by omega)).mono ?_; rw [Ug, HE.out]; rintro e wq ⟨rfl, hq⟩; have hrb := (Qb.ext (b := w.heap.size + 1 + 1) (t := 27) (cs := #[.int .i64 0, .int .i64 0, .bool false, .int .i64 0]) (by repeat (first | (refine Qb.at _ _ _ _ ?_; (simp; done)) | refine Qb.alloc ?_ _)) hq); obtain ⟨r0, r1, r2, r3⟩ := hrb.c4; have f0 := hrb.frozen 0; have f1 := hrb.frozen 1; have f2 := hrb.frozen 2; have f3 := hrb.frozen 3)
    obtain ⟨⟨c0, c1, c2, c3⟩, gE⟩ := U6 hrb (.int .i64 0) (.int .i64 0) (.bool false) (.int .i64 0)
    refine bodyPost_ret (v := .tuple #[.agg #[.int .i64 0, .int .i64 0, .bool false, .int .i64 0], .int .i64 8]) (by simp [results, Tryd.results23, go_sem, c0, c1, c2, c3]) rfl ⟨by rw [HV.out, HR.out]; rfl, gE w (by repeat (first | exact Qa.refl _ | (refine Qa.alloc ?_ _) | (refine Qa.trans ?_ (by assumption)))) (by omega)⟩
  ·have h1 : n ≤ 156000 := by omega
   have h2 : -156000 ≤ n := by omega
   have hb : decide (156000 < n) = false := decide_eq_false (by omega)
   have hb2 : decide (n < -156000) = false := decide_eq_false (by omega)
   have HL := Lib.hid (Ka hv)
   have hny := Lj hv
   have HY := Lib.hid hny
   have hnm := Hw hh
   have hda := Vn c c.ny
   obtain ⟨hn1, hn2⟩ := hnm
   have hn3 : (c.num d).1 ≤ 156000 := by omega
   have HD := Lib.hid (Lz hh)
   have HV : Hid (c.addV d n = (c.at? ((c.num d).1 + n)).getD Y2) := by unfold Hid Qc.addV; rw [hE]; rfl
   have HR : Hid (c.addE d n = Kl (c.at? ((c.num d).1 + n))) := by unfold Hid Qc.addE; rw [hE]; rfl
   clear hE hv hh hr hn2 hda
   go_enter Tryd.func23, Tryd.ntmps23
   go_wp2_with (go_at_call 20; refine (Xb _ _ _ _ c _ 1 1 (fun _ => d) _ (hC.ext (by repeat (first | exact Qa.refl _ | (refine Qa.alloc ?_ _) | (refine Qa.trans ?_ (by assumption))))) (Uq (t := 27) (by repeat (first | (refine Qb.at _ _ _ _ ?_; (simp; done)) | refine Qb.alloc ?_ _))) (by omega)).mono ?_; rw [Ug, HE.out]; rintro e wq ⟨rfl, hq⟩; have hcb := (Qb.ext (b := w.heap.size) (t := 25) (cs := #[.slice A c.nk ca, .slice A' c.ny cb]) (by repeat (first | (refine Qb.at _ _ _ _ ?_; (simp; done)) | refine Qb.alloc ?_ _)) hq); obtain ⟨k0, k1⟩ := hcb.c2; obtain ⟨e0, e1, e2, e3⟩ := (Qb.ext (b := w.heap.size + 1) (t := 27) (cs := #[.int .i64 d.y, .int .i64 d.m, .bool d.s, .int .i64 d.d]) (by repeat (first | (refine Qb.at _ _ _ _ ?_; (simp; done)) | refine Qb.alloc ?_ _)) hq).c4; have hrb := (Qb.ext (b := w.heap.size + 1 + 1) (t := 27) (cs := #[.int .i64 0, .int .i64 0, .bool false, .int .i64 0]) (by repeat (first | (refine Qb.at _ _ _ _ ?_; (simp; done)) | refine Qb.alloc ?_ _)) hq); obtain ⟨r0, r1, r2, r3⟩ := hrb.c4; have f0 := hrb.frozen 0; have f1 := hrb.frozen 1; have f2 := hrb.frozen 2; have f3 := hrb.frozen 3)
   refine (Mr _ _ _ _ c d _ (hC.ext (by repeat (first | exact Qa.refl _ | (refine Qa.alloc ?_ _) | (refine Qa.trans ?_ (by assumption))))) HL.out HY.out HD.out).mono ?_
   rintro e wn ⟨rfl, hn⟩
   obtain ⟨k0, k1⟩ := (hcb.ext hn).c2
   generalize (c.num d).1 = nn at *
   go_wp2_with (fail)
   refine (Fz _ _ _ _ c (nn + n) _ (hC.ext (by repeat (first | exact Qa.refl _ | (refine Qa.alloc ?_ _) | (refine Qa.trans ?_ (by assumption))))) HL.out HY.out (by omega) (by omega)).mono ?_
   rintro e wm ⟨rfl, hm⟩
   clear r0 r1 r2 r3 f0 f1 f2 f3
   have hrb := (hrb.ext hn).ext hm
   obtain ⟨r0, r1, r2, r3⟩ := hrb.c4
   have f0 := hrb.frozen 0
   have f1 := hrb.frozen 1
   have f2 := hrb.frozen 2
   have f3 := hrb.frozen 3
   generalize (c.at? (nn + n)).getD Y2 = dd at *
   generalize Kl (c.at? (nn + n)) = ee at *
   go_wp2
   obtain ⟨⟨c0, c1, c2, c3⟩, gE⟩ := U6 hrb (.int .i64 dd.y) (.int .i64 dd.m) (.bool dd.s) (.int .i64 dd.d)
   refine bodyPost_ret (v := .tuple #[.agg #[.int .i64 dd.y, .int .i64 dd.m, .bool dd.s, .int .i64 dd.d], .int .i64 ee]) (by simp [results, Tryd.results23, go_sem, c0, c1, c2, c3]) rfl ⟨by rw [HV.out, HR.out]; rfl, gE w (by repeat (first | exact Qa.refl _ | (refine Qa.alloc ?_ _) | (refine Qa.trans ?_ (by assumption)))) (by omega)⟩
end
section
open Go Go.RowKit
attribute [local go_sem] Zi
end
section
open Go Go.RowKit Go.Shelf
attribute [local go_sem] Zi
theorem G0 (g : Nat → Rt × Int) : ∀ m k s, s.In → (Xi g k m s).1.In
 | 0, _, _, h => h
 | m + 1, k, s, h => by
  rw [Xi]
  split
  ·exact Yj
  ·split
   ·exact Yj
   ·exact G0 g m (k + 1) _ (U0 _ _)
theorem Qcx (t : Nat → Tk) (n : Nat) : (Z9 t n).1.In := by
 unfold Z9
 split
 ·exact Yj
 ·split
  ·exact G0 _ _ _ _ Wl
  ·exact Yj
theorem Ar (c : Qc) (f : Nat → Cw) (n : Nat) : (c.availV f n).1.In := by
 unfold Qc.availV
 split
 ·exact Yj
 ·split
  ·exact G0 _ _ _ _ Wl
  ·exact Yj
theorem Qad {a b : Rt} (ha : a.nn = true) (hb : b.pos = true) (h : (Js a b).2 = 0) : (Js a b).1.nn = true := by
 obtain ⟨a1, a2⟩ := Jt ha
 obtain ⟨b1, b2⟩ : b.ok = true ∧ 0 < b.n := by simpa [Rt.pos] using hb
 unfold Js at h ⊢
 rw [a1, b1] at h ⊢
 simp only [Bool.and_self, if_true] at h ⊢
 rw [if_neg (by omega)] at h ⊢
 have hQ : 1 ≤ a.d.natAbs * b.n.natAbs := Nat.mul_pos (by have := Zk a1; omega) (by omega)
 rw [decide_eq_false (show ¬ a.n < 0 by omega), decide_eq_false (show ¬ b.n < 0 by omega)] at h ⊢
 obtain ⟨o1, o2⟩ := M2 hQ h
 unfold Rt.nn
 rw [show (false != false) = false from rfl] at o1 o2 ⊢
 rw [o1, Bool.true_and, decide_eq_true_eq]
 rw [if_neg (by decide)] at o2
 have hd := (Zk o1).1
 rcases Int.lt_or_le (Jc false (a.n.natAbs * b.d.natAbs) (a.d.natAbs * b.n.natAbs)).1.n 0 with h0 | h0
 ·have h3 := Int.mul_neg_of_neg_of_pos h0 (show (0 : Int) < ((a.d.natAbs * b.n.natAbs : Nat) : Int) by omega)
  have h4 := Int.mul_nonneg (show (0 : Int) ≤ ((a.n.natAbs * b.d.natAbs : Nat) : Int) from Int.natCast_nonneg _) (show 0 ≤ (Jc false (a.n.natAbs * b.d.natAbs) (a.d.natAbs * b.n.natAbs)).1.d by omega)
  omega
 ·exact h0
theorem Cb (g : Nat → Rt × Int) (n : Nat) (hg : ∀ i, i < n → (g i).2 = 0 → (g i).1.nn = true) : ∀ m k s, k + m = n → s.nn = true → (Xi g k m s).2 = 0 → (Xi g k m s).1.nn = true
 | 0, _, _, _, h, _ => h
 | m + 1, k, s, hk, h, h0 => by
  rw [Xi] at h0 ⊢
  by_cases e1 : (g k).2 ≠ 0
  ·rw [if_pos e1] at h0; exact absurd h0 e1
  ·rw [if_neg e1] at h0 ⊢
   by_cases e2 : (Q7 s (g k).1).2 ≠ 0
   ·rw [if_pos e2] at h0; exact absurd h0 e2
   ·rw [if_neg e2] at h0 ⊢
    exact Cb g n hg m (k + 1) _ (by omega) (Nv (Decidable.not_not.1 e2) h (hg k (by omega) (Decidable.not_not.1 e1))) h0
theorem Qau (t : Nat → Tk) (n : Nat) : (Z9 t n).2 = 0 → (Z9 t n).1.nn = true := fun h => by
 unfold Z9 at h ⊢
 by_cases h64 : 64 < n
 ·rw [if_pos h64] at h; exact absurd h (by decide)
 ·rw [if_neg h64] at h ⊢
  by_cases ha : (List.range n).all (fun i => Ur (t i)) = true
  ·rw [if_pos ha] at h ⊢
   refine Cb _ n (fun i hi h0 => ?_) n 0 (Zs 0) (by omega) (Ve Vk (by rw [Xj]; exact Rat.le_refl)) h
   have hok := List.all_eq_true.1 ha i (by simpa using hi)
   unfold Ur at hok
   obtain ⟨o1, o2⟩ := Bool.and_eq_true_iff.1 hok
   exact Qad o1 o2 h0
  ·rw [if_neg ha] at h; exact absurd h (by decide)
theorem few_bd {c : Qc} {a b : Dt} {s : Rt} {Nn Nd : Int} (hv : c.valid = true) (hsp : (decide (0 < c.numV a) && decide (c.numV a ≤ c.numV b)) = true) (hs : s.shr = true) (h0 : s.n ≠ 0) (hN : (Rt.mk Nn Nd).nn = true) :
  (0 ≤ c.schV a b ∧ c.schV a b ≤ 1000000) ∧ (1 ≤ s.n * (c.schV a b + 1) ∧ s.n * (c.schV a b + 1) ≤ 1048577048576) ∧ 1 ≤ s.n * (c.schV a b + 1) * Nd ∧ s.n * (c.schV a b + 1) * Nd ≤ 1099512727287627776 ∧ 0 ≤ Nn * s.d ∧ Nn * s.d ≤ 1152921504606846976 ∧ True ∧ True := by
 obtain ⟨h1, h2⟩ := Bool.and_eq_true_iff.1 hsp
 have h1 := of_decide_eq_true h1
 have h2 := of_decide_eq_true h2
 have z1 := sch_bd hv (by omega) (by omega) h2
 have z2 := Bj c a b
 obtain ⟨N1, N2⟩ := Jt hN
 obtain ⟨n1, n2, n3, n4, _⟩ := Zk N1
 simp only at N2 n1 n2 n3 n4
 simp only [Rt.shr, Bool.and_eq_true, decide_eq_true_eq] at hs
 obtain ⟨s1, s2, s3, s4, _⟩ := Zk hs.1.1
 generalize c.schV a b = z at *
 have m1 := Vy (a := s.n) (b := z + 1) (A := 1048576) (B := 1000001) (by omega) (by omega) (by omega) (by omega)
 have m2 := Int.mul_pos (show 0 < s.n by omega) (show 0 < z + 1 by omega)
 have m3 := Vy (a := s.n * (z + 1)) (b := Nd) (A := 1048577048576) (B := 1048576) (by omega) (by omega) (by omega) (by omega)
 have m4 := Int.mul_pos m2 (show 0 < Nd by omega)
 have m5 := Vy (a := Nn) (b := s.d) (A := 1099511627776) (B := 1048576) (by omega) (by omega) (by omega) (by omega)
 have m6 := Int.mul_nonneg N2 (show 0 ≤ s.d by omega)
 exact ⟨⟨z1.1, z2.2⟩, ⟨by omega, m1.2⟩, by omega, m3.2, m6, m5.2, trivial, trivial⟩
theorem Aw (A A' : Option Addr) (ca cb : Nat) (c : Qc) (T : Option Addr) (nt capt : Nat) (t : Nat → Tk) (S : Option Addr) (n cap : Nat) (f : Nat → Cw) (w : World) (hC : Q8 w A ca A' cb c) (hint : ∀ i, i < nt → (t i).a.In ∧ (t i).r.In) (hT : Qo w T nt 4 (J9 t)) (hnt : nt ≤ 9223372036854775807) (hin : ∀ i, i < n → (f i).s.In ∧ -9223372036854775808 ≤ (f i).w ∧ (f i).w ≤ 9223372036854775807) (hS : Qo w S n 11 (Zg f)) (hn : n ≤ 9223372036854775807) (hZ : Zl w) :
  Calls Tryd.prog 37 #[.agg #[.slice A c.nk ca, .slice A' c.ny cb], .slice T nt capt, .slice S n cap] w fun e w' => e = .returned (.tuple #[.agg #[.int .i64 (c.balV t nt f n).1.n, .int .i64 (c.balV t nt f n).1.d], .int .i64 (c.balV t nt f n).2]) ∧ Qa w w' := by
 have NO := fun w h => K0 A A' ca cb c w h
 have NN := fun w h z => Px T nt capt t w hint h hnt z
 have NA := fun w h1 h2 z => Au A A' ca cb c S n cap f w h1 hin h2 hn z
 obtain ⟨R, hR0⟩ := Qg (c.balV t nt f n)
 rw [← hR0]
 have HR := Lib.hid hR0
 clear hR0
 go_enter Tryd.func37, Tryd.ntmps37
 go_upto_region 1 with (fail)
 obtain ⟨v, hv⟩ := Qg ((w.alloc (.cells #[.slice A c.nk ca, .slice A' c.ny cb] 25)).alloc (.cells #[.int .i64 0, .int .i64 0] 61))
 rw [← hv]
 have E : Qa w v := by rw [hv]; exact ((Qa.refl _).alloc _).alloc _
 have B1 : Qb v w.heap.size 25 #[.slice A c.nk ca, .slice A' c.ny cb] := by rw [hv]; exact (Qb.new _ _ _).alloc _
 have B2 : Qb v (w.heap.size + 1) 61 #[.int .i64 0, .int .i64 0] := by rw [hv]; exact Qb.at _ _ _ _ (by simp)
 clear hv
 obtain ⟨b2, hb2⟩ := Qg (w.heap.size + 1)
 rw [← hb2] at B2 ⊢
 obtain ⟨b1, hb1⟩ := Qg (w.heap.size)
 rw [← hb1] at B1 ⊢
 have hbr : w.heap.size ≤ b2 := by omega
 have hbr1 : w.heap.size ≤ b1 := by omega
 have hn21 : b2 ≠ b1 := by omega
 clear hb1 hb2
 have RT := hT.ext E
 have RS := hS.ext E
 have Z0 := hZ.ext E
 have C := hC.ext E
 clear hT hS hZ
 obtain ⟨k0, k1⟩ := B1.c2
 have lk := B1.lt
 cases hv : c.valid
 ·have hr : R = (Zc, 70) := by rw [HR.out]; unfold Qc.balV; rw [hv]; rfl
  have hc : c.chk = 70 := by unfold Qc.chk; rw [hv]; rfl
  simp only [hc] at NO
  subst hr
  clear HR hc hv NN NA
  go_upto_region 2 with (go_at_call 41; (with_reducible refine Calls.mono (NO _ (hC.ext E)) ?_); rintro e w1 ⟨rfl, h1⟩)
  obtain ⟨v3, hv⟩ := Qg (w1.alloc (.cells #[.slice A c.nk ca, .slice A' c.ny cb] 52))
  rw [← hv]
  have h3 : Qa w1 v3 := by rw [hv]; exact (Qa.refl _).alloc _
  have H3 : Qb v3 w1.heap.size 52 #[.slice A c.nk ca, .slice A' c.ny cb] := by rw [hv]; exact Qb.new _ _ _
  clear hv
  generalize w1.heap.size = b3 at *
  replace E := (E.trans h1).trans h3
  replace B2 := (B2.ext h1).ext h3
  have f0 := B2.frozen 0
  have f1 := B2.frozen 1
  obtain ⟨x0, x1⟩ := B2.c2
  have lx := B2.lt
  have H4 := Ql B2 (.int .i64 0) (.int .i64 0)
  have EF := (E.setCell (p := ⟨b2, 0, none⟩) hbr (.int .i64 0)).setCell (p := ⟨b2, 1, none⟩) hbr (.int .i64 0)
  obtain ⟨y0, y1⟩ := H4.c2
  go_wp2
  refine bodyPost_ret (v := .tuple #[.agg #[.int .i64 0, .int .i64 0], .int .i64 70]) (by simp [results, Tryd.results37, go_sem, y0, y1]) rfl ⟨rfl, EF⟩
 ·have hc : c.chk = 0 := by unfold Qc.chk; rw [hv]; rfl
  simp only [hc] at NO
  have HR2 : Hid (R = if (Z9 t nt).2 ≠ 0 then (Zc, (Z9 t nt).2) else if (c.availV f n).2 ≠ 0 then (Zc, (c.availV f n).2) else Zq (c.availV f n).1 (Z9 t nt).1) := by unfold Hid; rw [HR.out]; unfold Qc.balV; rw [hv]; rfl
  have hni := Qcx t nt
  have hai := Ar c f n
  clear HR hc hv
  go_upto_region 4 with (go_at_call 41; (with_reducible refine Calls.mono (NO _ (hC.ext E)) ?_); rintro e w1 ⟨rfl, h1⟩)
  obtain ⟨v3, hv⟩ := Qg (w1.alloc (.cells #[.slice A c.nk ca, .slice A' c.ny cb] 52))
  rw [← hv]
  have h3 : Qa w1 v3 := by rw [hv]; exact (Qa.refl _).alloc _
  have H3 : Qb v3 w1.heap.size 52 #[.slice A c.nk ca, .slice A' c.ny cb] := by rw [hv]; exact Qb.new _ _ _
  clear hv
  generalize w1.heap.size = b3 at *
  replace E := (E.trans h1).trans h3
  replace B2 := (B2.ext h1).ext h3
  replace RT := (RT.ext h1).ext h3
  replace RS := (RS.ext h1).ext h3
  replace Z0 := (Z0.ext h1).ext h3
  replace C := (C.ext h1).ext h3
  clear h1 h3 k0 k1 lk B1 NO
  generalize Z9 t nt = N at *
  obtain ⟨⟨Nn, Nd⟩, Ne⟩ := N
  simp only [] at HR2 NN hni
  go_upto_region 5 with (go_at_call 60; (with_reducible refine Calls.mono (NN _ RT Z0) ?_); rintro e w4 ⟨rfl, h4⟩)
  obtain ⟨v4, hv⟩ := Qg (w4.alloc (.cells #[.int .i64 Nn, .int .i64 Nd] 61))
  rw [← hv]
  have h5 : Qa w4 v4 := by rw [hv]; exact (Qa.refl _).alloc _
  have H4 : Qb v4 w4.heap.size 61 #[.int .i64 Nn, .int .i64 Nd] := by rw [hv]; exact Qb.new _ _ _
  clear hv
  generalize w4.heap.size = b4 at *
  replace E := (E.trans h4).trans h5
  replace B2 := (B2.ext h4).ext h5
  replace H3 := (H3.ext h4).ext h5
  replace RS := (RS.ext h4).ext h5
  replace Z0 := (Z0.ext h4).ext h5
  replace C := (C.ext h4).ext h5
  clear h4 h5 NN RT
  by_cases e0 : Ne = 0
  rotate_left
  ·have g0 : (Ne == 0) = false := beq_eq_false_iff_ne.2 e0
   have g0n : (Ne != 0) = true := by rw [bne, g0]; rfl
   have hr := HR2.out
   rw [if_pos e0] at hr
   subst hr
   clear HR2 e0 NA
   have f0 := B2.frozen 0
   have f1 := B2.frozen 1
   obtain ⟨x0, x1⟩ := B2.c2
   have lx := B2.lt
   have H9 := Ql B2 (.int .i64 0) (.int .i64 0)
   have EF := (E.setCell (p := ⟨b2, 0, none⟩) hbr (.int .i64 0)).setCell (p := ⟨b2, 1, none⟩) hbr (.int .i64 0)
   obtain ⟨y0, y1⟩ := H9.c2
   go_wp2
   refine bodyPost_ret (v := .tuple #[.agg #[.int .i64 0, .int .i64 0], .int .i64 Ne]) (by simp [results, Tryd.results37, go_sem, y0, y1]) rfl ⟨rfl, EF⟩
  subst e0
  obtain ⟨k0, k1⟩ := H3.c2
  have lk := H3.lt
  generalize c.availV f n = M at *
  obtain ⟨⟨Mn, Md⟩, Me⟩ := M
  simp only [] at HR2 NA hai
  go_upto_region 8 with (go_at_call 61; (with_reducible refine Calls.mono (NA _ C RS Z0) ?_); rintro e w6 ⟨rfl, h6⟩)
  obtain ⟨v6, hv⟩ := Qg (w6.alloc (.cells #[.int .i64 Mn, .int .i64 Md] 61))
  rw [← hv]
  have h7 : Qa w6 v6 := by rw [hv]; exact (Qa.refl _).alloc _
  have H6 : Qb v6 w6.heap.size 61 #[.int .i64 Mn, .int .i64 Md] := by rw [hv]; exact Qb.new _ _ _
  clear hv
  generalize w6.heap.size = b6 at *
  replace E := (E.trans h6).trans h7
  replace B2 := (B2.ext h6).ext h7
  replace H4 := (H4.ext h6).ext h7
  replace Z0 := (Z0.ext h6).ext h7
  clear h6 h7 NA RS C k0 k1 lk H3
  by_cases e0 : Me = 0
  rotate_left
  ·have g0 : (Me == 0) = false := beq_eq_false_iff_ne.2 e0
   have g0n : (Me != 0) = true := by rw [bne, g0]; rfl
   have hr := HR2.out
   rw [if_neg (by simp), if_pos e0] at hr
   subst hr
   clear HR2 e0
   have f0 := B2.frozen 0
   have f1 := B2.frozen 1
   obtain ⟨x0, x1⟩ := B2.c2
   have lx := B2.lt
   have H9 := Ql B2 (.int .i64 0) (.int .i64 0)
   have EF := (E.setCell (p := ⟨b2, 0, none⟩) hbr (.int .i64 0)).setCell (p := ⟨b2, 1, none⟩) hbr (.int .i64 0)
   obtain ⟨y0, y1⟩ := H9.c2
   go_wp2
   refine bodyPost_ret (v := .tuple #[.agg #[.int .i64 0, .int .i64 0], .int .i64 Me]) (by simp [results, Tryd.results37, go_sem, y0, y1]) rfl ⟨rfl, EF⟩
  subst e0
  have NS := fun w z => Lh ⟨Mn, Md⟩ ⟨Nn, Nd⟩ hai hni w z
  have hr := HR2.out
  rw [if_neg (by simp), if_neg (by simp)] at hr
  rw [← hr] at NS
  clear HR2 hr
  obtain ⟨⟨Rn, Rd⟩, Re⟩ := R
  obtain ⟨k0, k1⟩ := H4.c2
  have lk := H4.lt
  obtain ⟨p0, p1⟩ := H6.c2
  have lp := H6.lt
  go_wp2_with (first | (go_at_call 62; (with_reducible refine Calls.mono (NS _ Z0) ?_); rintro e wt ⟨rfl, ht⟩; replace E := E.trans ht; replace B2 := B2.ext ht; have f0 := B2.frozen 0; have f1 := B2.frozen 1; obtain ⟨x0, x1⟩ := B2.c2; have lx := B2.lt))
  have H9 := Ql B2 (.int .i64 Rn) (.int .i64 Rd)
  have EF := (E.setCell (p := ⟨b2, 0, none⟩) hbr (.int .i64 Rn)).setCell (p := ⟨b2, 1, none⟩) hbr (.int .i64 Rd)
  obtain ⟨y0, y1⟩ := H9.c2
  go_wp2
  refine bodyPost_ret (v := .tuple #[.agg #[.int .i64 Rn, .int .i64 Rd], .int .i64 Re]) (by simp [results, Tryd.results37, go_sem, y0, y1]) rfl ⟨rfl, EF⟩
theorem Qav (A A' : Option Addr) (ca cb : Nat) (c : Qc) (T : Option Addr) (nt capt : Nat) (t : Nat → Tk) (s : Rt) (hs : s.In) (d d2 : Dt) (w : World) (hC : Q8 w A ca A' cb c) (hint : ∀ i, i < nt → (t i).a.In ∧ (t i).r.In) (hT : Qo w T nt 4 (J9 t)) (hnt : nt ≤ 9223372036854775807) (hZ : Zl w) :
  Calls Tryd.prog 38 #[.agg #[.slice A c.nk ca, .slice A' c.ny cb], .slice T nt capt, .agg #[.int .i64 s.n, .int .i64 s.d], .agg #[.int .i64 d.y, .int .i64 d.m, .bool d.s, .int .i64 d.d], .agg #[.int .i64 d2.y, .int .i64 d2.m, .bool d2.s, .int .i64 d2.d]] w fun e w' => e = .returned (.tuple #[.int .i64 (c.fewV t nt s d d2).1, .int .i64 (c.fewV t nt s d d2).2]) ∧ Qa w w' := by
 have NO := fun w h => K0 A A' ca cb c w h
 have NN := fun w h z => Px T nt capt t w hint h hnt z
 have NS := fun w => Lg s hs w
 have NSP := fun w h => Gx A A' ca cb c d d2 w h
 have NB := fun w h => Lm A A' ca cb c d d2 w h
 obtain ⟨R, hR0⟩ := Qg (c.fewV t nt s d d2)
 rw [← hR0]
 have HR := Lib.hid hR0
 clear hR0
 go_enter Tryd.func38, Tryd.ntmps38
 go_upto_region 1 with (fail)
 obtain ⟨v, hv⟩ := Qg ((((w.alloc (.cells #[.slice A c.nk ca, .slice A' c.ny cb] 25)).alloc (.cells #[.int .i64 s.n, .int .i64 s.d] 61)).alloc (.cells #[.int .i64 d.y, .int .i64 d.m, .bool d.s, .int .i64 d.d] 27)).alloc (.cells #[.int .i64 d2.y, .int .i64 d2.m, .bool d2.s, .int .i64 d2.d] 27))
 rw [← hv]
 have E : Qa w v := by rw [hv]; exact ((((Qa.refl _).alloc _).alloc _).alloc _).alloc _
 have B1 : Qb v w.heap.size 25 #[.slice A c.nk ca, .slice A' c.ny cb] := by rw [hv]; exact (((Qb.new _ _ _).alloc _).alloc _).alloc _
 have B2 : Qb v (w.heap.size + 1) 61 #[.int .i64 s.n, .int .i64 s.d] := by rw [hv]; exact ((Qb.at _ _ _ _ (by simp)).alloc _).alloc _
 have B3 : Qb v (w.heap.size + 1 + 1) 27 #[.int .i64 d.y, .int .i64 d.m, .bool d.s, .int .i64 d.d] := by rw [hv]; exact (Qb.at _ _ _ _ (by simp)).alloc _
 have B4 : Qb v (w.heap.size + 1 + 1 + 1) 27 #[.int .i64 d2.y, .int .i64 d2.m, .bool d2.s, .int .i64 d2.d] := by rw [hv]; exact Qb.at _ _ _ _ (by simp)
 clear hv
 obtain ⟨b4, hb4⟩ := Qg (w.heap.size + 1 + 1 + 1)
 rw [← hb4] at B4 ⊢
 obtain ⟨b3, hb3⟩ := Qg (w.heap.size + 1 + 1)
 rw [← hb3] at B3 ⊢
 obtain ⟨b2, hb2⟩ := Qg (w.heap.size + 1)
 rw [← hb2] at B2 ⊢
 obtain ⟨b1, hb1⟩ := Qg (w.heap.size)
 rw [← hb1] at B1 ⊢
 have hbr : w.heap.size ≤ b4 := by omega
 have hbr1 : w.heap.size ≤ b1 := by omega
 have hbr2 : w.heap.size ≤ b2 := by omega
 have hbr3 : w.heap.size ≤ b3 := by omega
 have hn21 : b2 ≠ b1 := by omega
 have hn31 : b3 ≠ b1 := by omega
 have hn32 : b3 ≠ b2 := by omega
 have hn41 : b4 ≠ b1 := by omega
 have hn42 : b4 ≠ b2 := by omega
 have hn43 : b4 ≠ b3 := by omega
 clear hb1 hb2 hb3 hb4
 have RT := hT.ext E
 have Z0 := hZ.ext E
 have C := hC.ext E
 clear hT hZ
 obtain ⟨k0, k1⟩ := B1.c2
 have lk := B1.lt
 cases hv : c.valid
 ·have hr : R = (0, 70) := by rw [HR.out]; unfold Qc.fewV; rw [hv]; rfl
  have hc : c.chk = 70 := by unfold Qc.chk; rw [hv]; rfl
  simp only [hc] at NO
  subst hr
  clear HR hc hv NN
  go_wp2_with (go_at_call 41; (with_reducible refine Calls.mono (NO _ (hC.ext E)) ?_); rintro e w1 ⟨rfl, h1⟩)
  go_ret2
  exact ⟨rfl, (E.trans h1).alloc _⟩
 ·have hc : c.chk = 0 := by unfold Qc.chk; rw [hv]; rfl
  simp only [hc] at NO
  have HR2 : Hid (R = if (Z9 t nt).2 ≠ 0 then (0, (Z9 t nt).2) else if s.shr && decide (s.n ≠ 0) && (decide (0 < c.numV d) && decide (c.numV d ≤ c.numV d2)) then (if 4096 < c.fewN t nt s d d2 then (0, 8) else (c.fewN t nt s d d2, 0)) else (0, 81)) := by unfold Hid; rw [HR.out]; unfold Qc.fewV; rw [hv]; rfl
  have hni := Qau t nt
  clear HR hc
  go_upto_region 4 with (go_at_call 41; (with_reducible refine Calls.mono (NO _ (hC.ext E)) ?_); rintro e w1 ⟨rfl, h1⟩)
  obtain ⟨v3, hv⟩ := Qg (w1.alloc (.cells #[.slice A c.nk ca, .slice A' c.ny cb] 52))
  rw [← hv]
  have h3 : Qa w1 v3 := by rw [hv]; exact (Qa.refl _).alloc _
  have H3 : Qb v3 w1.heap.size 52 #[.slice A c.nk ca, .slice A' c.ny cb] := by rw [hv]; exact Qb.new _ _ _
  clear hv
  generalize w1.heap.size = b3' at *
  replace E := (E.trans h1).trans h3
  replace B2 := (B2.ext h1).ext h3
  replace B3 := (B3.ext h1).ext h3
  replace B4 := (B4.ext h1).ext h3
  replace RT := (RT.ext h1).ext h3
  replace Z0 := (Z0.ext h1).ext h3
  replace C := (C.ext h1).ext h3
  clear h1 h3 k0 k1 lk B1 NO
  have hfn : Hid (c.fewN t nt s d d2 = ((Z9 t nt).1.n * s.d + s.n * (c.schV d d2 + 1) * (Z9 t nt).1.d - 1) / (s.n * (c.schV d d2 + 1) * (Z9 t nt).1.d)) := rfl
  generalize c.fewN t nt s d d2 = q at *
  generalize Z9 t nt = N at *
  obtain ⟨⟨Nn, Nd⟩, Ne⟩ := N
  simp only [] at HR2 NN hni hfn
  go_upto_region 5 with (go_at_call 60; (with_reducible refine Calls.mono (NN _ RT Z0) ?_); rintro e w4 ⟨rfl, h4⟩)
  obtain ⟨v4, hv⟩ := Qg (w4.alloc (.cells #[.int .i64 Nn, .int .i64 Nd] 61))
  rw [← hv]
  have h5 : Qa w4 v4 := by rw [hv]; exact (Qa.refl _).alloc _
  have H4 : Qb v4 w4.heap.size 61 #[.int .i64 Nn, .int .i64 Nd] := by rw [hv]; exact Qb.new _ _ _
  clear hv
  generalize w4.heap.size = b4' at *
  replace E := (E.trans h4).trans h5
  replace B2 := (B2.ext h4).ext h5
  replace B3 := (B3.ext h4).ext h5
  replace B4 := (B4.ext h4).ext h5
  replace H3 := (H3.ext h4).ext h5
  replace C := (C.ext h4).ext h5
  clear h4 h5 NN RT Z0
  by_cases e0 : Ne = 0
  rotate_left
  ·have g0 : (Ne == 0) = false := beq_eq_false_iff_ne.2 e0
   have g0n : (Ne != 0) = true := by rw [bne, g0]; rfl
   have hr := HR2.out
   rw [if_pos e0] at hr
   subst hr
   clear HR2 e0
   go_wp2
   go_ret2
   exact ⟨rfl, E⟩
  subst e0
  have HR3 : Hid (R = if s.shr && decide (s.n ≠ 0) && (decide (0 < c.numV d) && decide (c.numV d ≤ c.numV d2)) then (if 4096 < q then (0, 8) else (q, 0)) else (0, 81)) := by unfold Hid; rw [HR2.out, if_neg (by simp)]
  clear HR2
  obtain ⟨k0, k1⟩ := H3.c2
  have lk := H3.lt
  obtain ⟨s0, s1⟩ := B2.c2
  have ls := B2.lt
  obtain ⟨d0, d1, d2', d3⟩ := B3.c4
  have ld := B3.lt
  obtain ⟨u0, u1, u2, u3⟩ := B4.c4
  have lu := B4.lt
  cases g1 : s.shr
  ·have hr := HR3.out
   rw [g1, Bool.false_and, Bool.false_and, if_neg (by decide)] at hr
   simp only [g1] at NS
   subst hr
   clear HR3 g1
   go_wp2_with (go_at_call 63; (with_reducible refine Calls.mono (NS _) ?_); rintro e w5 ⟨rfl, h5⟩; clear k0 k1 lk d0 d1 d2' d3 ld u0 u1 u2 u3 lu s0 s1 ls; obtain ⟨k0, k1⟩ := (H3.ext h5).c2; have lk := (H3.ext h5).lt; obtain ⟨s0, s1⟩ := (B2.ext h5).c2; have ls := (B2.ext h5).lt; obtain ⟨d0, d1, d2', d3⟩ := (B3.ext h5).c4; have ld := (B3.ext h5).lt; obtain ⟨u0, u1, u2, u3⟩ := (B4.ext h5).c4; have lu := (B4.ext h5).lt)
   go_ret2
   exact ⟨rfl, E.trans h5⟩
  ·simp only [g1] at NS
   by_cases g2 : s.n = 0
   ·have hr := HR3.out
    rw [g1, decide_eq_false (fun h => h g2), Bool.and_false, Bool.false_and, if_neg (by decide)] at hr
    subst hr
    have g2b : (s.n == 0) = true := by rw [g2]; rfl
    clear HR3 g1 g2
    go_wp2_with (go_at_call 63; (with_reducible refine Calls.mono (NS _) ?_); rintro e w5 ⟨rfl, h5⟩; clear k0 k1 lk d0 d1 d2' d3 ld u0 u1 u2 u3 lu s0 s1 ls; obtain ⟨k0, k1⟩ := (H3.ext h5).c2; have lk := (H3.ext h5).lt; obtain ⟨s0, s1⟩ := (B2.ext h5).c2; have ls := (B2.ext h5).lt; obtain ⟨d0, d1, d2', d3⟩ := (B3.ext h5).c4; have ld := (B3.ext h5).lt; obtain ⟨u0, u1, u2, u3⟩ := (B4.ext h5).c4; have lu := (B4.ext h5).lt)
    go_ret2
    exact ⟨rfl, E.trans h5⟩
   ·have g2b : (s.n == 0) = false := beq_eq_false_iff_ne.2 g2
    cases hsp : (decide (0 < c.numV d) && decide (c.numV d ≤ c.numV d2))
    ·have hr := HR3.out
     rw [hsp, Bool.and_false, if_neg (by decide)] at hr
     simp only [hsp] at NSP
     subst hr
     clear HR3 g1 g2 hsp
     go_wp2_with (first | (go_at_call 63; (with_reducible refine Calls.mono (NS _) ?_); rintro e w5 ⟨rfl, h5⟩; clear k0 k1 lk d0 d1 d2' d3 ld u0 u1 u2 u3 lu s0 s1 ls; obtain ⟨k0, k1⟩ := (H3.ext h5).c2; have lk := (H3.ext h5).lt; obtain ⟨s0, s1⟩ := (B2.ext h5).c2; have ls := (B2.ext h5).lt; obtain ⟨d0, d1, d2', d3⟩ := (B3.ext h5).c4; have ld := (B3.ext h5).lt; obtain ⟨u0, u1, u2, u3⟩ := (B4.ext h5).c4; have lu := (B4.ext h5).lt) | (go_at_call 64; (with_reducible refine Calls.mono (NSP _ (C.ext h5)) ?_); rintro e w6 ⟨rfl, h6⟩))
     go_ret2
     exact ⟨rfl, (E.trans h5).trans h6⟩
    ·have hr := HR3.out
     rw [hsp, g1, decide_eq_true g2, Bool.and_true, Bool.and_true, if_pos rfl] at hr
     have hbd := few_bd hv hsp g1 g2 (hni rfl)
     simp only [hsp] at NSP
     clear HR3 hsp g1 hv
     replace hr := Lib.hid hr
     generalize c.schV d d2 = z at *
     obtain ⟨x1, x2, x3, x4, x5, x6, x7, x8⟩ := hbd
     have v1 : IntKind.i64.wrap (z + 1) = z + 1 := Zm (by omega) (by omega)
     have v2 : IntKind.i64.wrap (s.n * (z + 1)) = s.n * (z + 1) := Zm (by omega) (by omega)
     have v3' : IntKind.i64.wrap (s.n * (z + 1) * Nd) = s.n * (z + 1) * Nd := Zm (by omega) (by omega)
     have v4' : IntKind.i64.wrap (Nn * s.d) = Nn * s.d := Zm (by omega) (by omega)
     have v5 : IntKind.i64.wrap (Nn * s.d + s.n * (z + 1) * Nd) = Nn * s.d + s.n * (z + 1) * Nd := Zm (by omega) (by omega)
     have v6 : IntKind.i64.wrap (Nn * s.d + s.n * (z + 1) * Nd - 1) = Nn * s.d + s.n * (z + 1) * Nd - 1 := Zm (by omega) (by omega)
     have v7 : IntKind.i64.wrap ((Nn * s.d + s.n * (z + 1) * Nd - 1).tdiv (s.n * (z + 1) * Nd)) = q := by
      rw [Int.tdiv_eq_ediv_of_nonneg (by omega), ← hfn.out]
      have h1 : 0 ≤ q := by rw [hfn.out]; exact Int.ediv_nonneg (by omega) (by omega)
      have h2 : q ≤ Nn * s.d + s.n * (z + 1) * Nd - 1 := by rw [hfn.out]; exact Int.ediv_le_self _ (by omega)
      exact Zm (by omega) (by omega)
     have v8 : (s.n * (z + 1) * Nd == 0) = false := beq_eq_false_iff_ne.2 (by omega)
     have v9 : s.n * (z + 1) * Nd ≠ 0 := by omega
     clear x1 x2 x3 x4 x5 x6 x7 x8 hfn hni g2
     go_upto_region 9 with (first | (go_at_call 63; (with_reducible refine Calls.mono (NS _) ?_); rintro e w5 ⟨rfl, h5⟩; clear k0 k1 lk d0 d1 d2' d3 ld u0 u1 u2 u3 lu s0 s1 ls; obtain ⟨k0, k1⟩ := (H3.ext h5).c2; have lk := (H3.ext h5).lt; obtain ⟨s0, s1⟩ := (B2.ext h5).c2; have ls := (B2.ext h5).lt; obtain ⟨d0, d1, d2', d3⟩ := (B3.ext h5).c4; have ld := (B3.ext h5).lt; obtain ⟨u0, u1, u2, u3⟩ := (B4.ext h5).c4; have lu := (B4.ext h5).lt) | (go_at_call 64; (with_reducible refine Calls.mono (NSP _ (C.ext h5)) ?_); rintro e w6 ⟨rfl, h6⟩))
     replace E := (E.trans h5).trans h6
     replace C := (C.ext h5).ext h6
     replace B2 := (B2.ext h5).ext h6
     replace B3 := (B3.ext h5).ext h6
     replace B4 := (B4.ext h5).ext h6
     replace H3 := (H3.ext h5).ext h6
     replace H4 := (H4.ext h5).ext h6
     clear h5 h6 k0 k1 lk s0 s1 ls d0 d1 d2' d3 ld u0 u1 u2 u3 lu NS NSP
     obtain ⟨k0, k1⟩ := H3.c2
     have lk := H3.lt
     obtain ⟨s0, s1⟩ := B2.c2
     have ls := B2.lt
     obtain ⟨d0, d1, d2', d3⟩ := B3.c4
     have ld := B3.lt
     obtain ⟨u0, u1, u2, u3⟩ := B4.c4
     have lu := B4.lt
     obtain ⟨t0, t1⟩ := H4.c2
     have lt := H4.lt
     refine Zr w6 Qr (by kernel_rfl) (by repeat (first | exact Qa.refl _ | (refine Qa.alloc ?_ _) | (refine Qa.trans ?_ (by assumption)))) ?_
     intro hne hrx hry
     try simp only []
     try simp only [List.append_eq, List.cons_append, List.nil_append]
     skip
     repeat (first
      | go_big_quiet_skip
      | (go_big_quiet_want; go_big_quiet_op; go_big_quiet_on)
      | (go_big_quiet_want; go_big_quiet_op; apply Exists.intro; refine ⟨fun u => ?_, ?_⟩
         ·first
           | (go_at_call 65; (with_reducible refine Calls.mono (NB _ (C.ext u.e)) ?_); rintro e w' ⟨rfl, hb⟩; exact ⟨rfl, u.back hb⟩)
         go_big_quiet_on))
     clear hne hry hrx
     refine wpQuiet_nil ?_
     intro w7 h7
     obtain ⟨hcw7, hfw7, hzw7⟩ := Qa.rules h7
     try simp only [World.size_alloc] at hzw7
     obtain ⟨hcbw7, hfbw7, hzbw7⟩ := Qa.rules (show Qa w6 w7 from (by repeat (first | exact Qa.refl _ | (refine Qa.alloc ?_ _) | (refine Qa.trans ?_ (by assumption)))))
     clear hcw7 hfw7
     by_cases c1 : 4096 < q
     ·have gg : decide (4096 < q) = true := decide_eq_true c1
      have hr' := hr.out
      rw [if_pos c1] at hr'
      subst hr'
      clear hr c1
      go_wp2
      go_ret2
      exact ⟨rfl, E.trans h7⟩
     ·have gg : decide (4096 < q) = false := decide_eq_false c1
      have hr' := hr.out
      rw [if_neg c1] at hr'
      subst hr'
      clear hr c1
      go_wp2
      go_ret2
      exact ⟨rfl, E.trans h7⟩
end
section
open Go Go.RowKit
theorem Qan (w : World) (x0 y0 : ByteArray) (x1 y1 : Int) : (Op.equalIn 10000 71 (.agg #[.string x0, .int .i64 x1]) (.agg #[.string y0, .int .i64 y1])).run Tryd.prog w = .ok ((x0.toList == y0.toList) && (x1 == y1)) w := by
 go_simp
 by_cases h0 : x0.toList = y0.toList
 rotate_left
 ·simp [h0]
 by_cases h1 : x1 = y1
 rotate_left
 ·simp [h1]
 simp [h0, h1]
theorem Hu (w : World) (x0 y0 : ByteArray) (x1 y1 : Int) : (binOp .neq 71 (.agg #[.string x0, .int .i64 x1]) (.agg #[.string y0, .int .i64 y1])).run Tryd.prog w = .ok (.bool (!((x0.toList == y0.toList) && (x1 == y1)))) w := by rw [run_neq_struct, Qan]; rfl
theorem Tg (w : World) (x0 y0 : Int) (x1 y1 : Int) : (Op.equalIn 10000 61 (.agg #[.int .i64 x0, .int .i64 x1]) (.agg #[.int .i64 y0, .int .i64 y1])).run Tryd.prog w = .ok ((x0 == y0) && (x1 == y1)) w := by
 go_simp
 by_cases h0 : x0 = y0
 rotate_left
 ·simp [h0]
 by_cases h1 : x1 = y1
 rotate_left
 ·simp [h1]
 simp [h0, h1]
theorem Qar (w : World) (x0 y0 : Int) (x1 y1 : Int) : (binOp .eql 61 (.agg #[.int .i64 x0, .int .i64 x1]) (.agg #[.int .i64 y0, .int .i64 y1])).run Tryd.prog w = .ok (.bool ((x0 == y0) && (x1 == y1))) w := by rw [run_eql_struct, Tg]; rfl
theorem Qc0 (w : World) (x0 y0 : Int) (x1 y1 : Int) : (binOp .neq 61 (.agg #[.int .i64 x0, .int .i64 x1]) (.agg #[.int .i64 y0, .int .i64 y1])).run Tryd.prog w = .ok (.bool (!((x0 == y0) && (x1 == y1)))) w := by rw [run_neq_struct, Tg]; rfl
theorem Qal (w : World) (x0 y0 : Int) (x1 y1 : Int) (x2 y2 : Int) (x3 y3 : Int) (x4 y4 : Int) (x5 y5 : Int) : (Op.equalIn 10000 84 (.agg #[.int .i64 x0, .int .i64 x1, .int .i64 x2, .int .i64 x3, .int .i64 x4, .int .i64 x5]) (.agg #[.int .i64 y0, .int .i64 y1, .int .i64 y2, .int .i64 y3, .int .i64 y4, .int .i64 y5])).run Tryd.prog w = .ok ((x0 == y0) && ((x1 == y1) && ((x2 == y2) && ((x3 == y3) && ((x4 == y4) && (x5 == y5)))))) w := by
 go_simp
 by_cases h0 : x0 = y0
 rotate_left
 ·simp [h0]
 by_cases h1 : x1 = y1
 rotate_left
 ·simp [h1]
 by_cases h2 : x2 = y2
 rotate_left
 ·simp [h2]
 by_cases h3 : x3 = y3
 rotate_left
 ·simp [h3]
 by_cases h4 : x4 = y4
 rotate_left
 ·simp [h4]
 by_cases h5 : x5 = y5
 rotate_left
 ·simp [h5]
 simp [h0, h1, h2, h3, h4, h5]
theorem Qcy (w : World) (x0 y0 : Int) (x1 y1 : Int) (x2 y2 : Int) (x3 y3 : Int) (x4 y4 : Int) (x5 y5 : Int) : (binOp .neq 84 (.agg #[.int .i64 x0, .int .i64 x1, .int .i64 x2, .int .i64 x3, .int .i64 x4, .int .i64 x5]) (.agg #[.int .i64 y0, .int .i64 y1, .int .i64 y2, .int .i64 y3, .int .i64 y4, .int .i64 y5])).run Tryd.prog w = .ok (.bool (!((x0 == y0) && ((x1 == y1) && ((x2 == y2) && ((x3 == y3) && ((x4 == y4) && (x5 == y5)))))))) w := by rw [run_neq_struct, Qal]; rfl
theorem Qam (w : World) (x0 y0 : Int) (x1 y1 : Int) (x2 y2 : Int) : (Op.equalIn 10000 98 (.agg #[.int .i64 x0, .int .i64 x1, .int .i64 x2]) (.agg #[.int .i64 y0, .int .i64 y1, .int .i64 y2])).run Tryd.prog w = .ok ((x0 == y0) && ((x1 == y1) && (x2 == y2))) w := by
 go_simp
 by_cases h0 : x0 = y0
 rotate_left
 ·simp [h0]
 by_cases h1 : x1 = y1
 rotate_left
 ·simp [h1]
 by_cases h2 : x2 = y2
 rotate_left
 ·simp [h2]
 simp [h0, h1, h2]
theorem Qcz (w : World) (x0 y0 : Int) (x1 y1 : Int) (x2 y2 : Int) : (binOp .neq 98 (.agg #[.int .i64 x0, .int .i64 x1, .int .i64 x2]) (.agg #[.int .i64 y0, .int .i64 y1, .int .i64 y2])).run Tryd.prog w = .ok (.bool (!((x0 == y0) && ((x1 == y1) && (x2 == y2))))) w := by rw [run_neq_struct, Qam]; rfl
end
section
open Go Go.RowKit Go.Shelf
attribute [local go_sem] Zi
attribute [local go_sem high] Hu
end
section
open Go Go.RowKit Go.Shelf
attribute [local go_sem] Zi
theorem Vr {W : World} {b : Nat} {t : TypeId} {v0 v1 v2 v3 v4 v5 v6 : Value} (h : Qb W b t #[v0, v1, v2, v3, v4, v5, v6]) : W.cell? ⟨b, 0, none⟩ = some v0 ∧ W.cell? ⟨b, 1, none⟩ = some v1 ∧ W.cell? ⟨b, 2, none⟩ = some v2 ∧ W.cell? ⟨b, 3, none⟩ = some v3 ∧ W.cell? ⟨b, 4, none⟩ = some v4 ∧ W.cell? ⟨b, 5, none⟩ = some v5 ∧ W.cell? ⟨b, 6, none⟩ = some v6 := ⟨h.cell 0, h.cell 1, h.cell 2, h.cell 3, h.cell 4, h.cell 5, h.cell 6⟩
theorem Uj {f f' : Nat → List Value} : ∀ k, (∀ i, i < k → f i = f' i) → Qz f k = Qz f' k
 | 0, _ => rfl
 | k + 1, h => by rw [X0, X0, Uj k (fun i hi => h i (by omega)), h k (by omega)]
theorem K4 {W : World} {b b' s1 s2 k1 k2 : Nat} {e1 e2 : TypeId} {v1 v2 : Value} {x1 x2 : List Value} (h1 : W.ownsRow b e1 s1 v1 k1 x1) (h2 : W.ownsRow b' e2 s2 v2 k2 x2) (hne : e1 ≠ e2) : v1.ownBlock = none ∨ v1.ownBlock ≠ v2.ownBlock := by
 cases hb : v1.ownBlock with
 | none => exact .inl rfl
 | some r =>
  refine .inr fun e => ?_
  obtain ⟨_, c1, g1⟩ := M8 h1 r hb
  obtain ⟨_, c2, g2⟩ := M8 h2 r e.symm
  rw [g1] at g2
  simp at g2
  exact hne g2.2
def Yl (W : World) (b : Nat) (v : Value) (l : List Lt) : Prop := W.ownsRow b 71 2 v l.length (l.flatMap Jr)
/-- Deals in an own row, each with lots in an own row. -/
def Jh (W : World) (b : Nat) (v : Value) (n : Nat) (g : Nat → Dl) : Prop := ∃ vs : Nat → Value, W.ownsRow b 67 7 v n (Qz (fun i => Qu (g i) (vs i)) n) ∧ ∀ i, i < n → Yl W b (vs i) (g i).l
theorem I5 (W : World) (b : Nat) (g : Nat → Dl) : Jh W b (.slice none 0 0) 0 g := ⟨fun _ => .slice none 0 0, World.ownsRow_nil _ _ _ _, fun i h => absurd h (by omega)⟩
theorem Jh.ext {W W' : World} {b n : Nat} {v : Value} {g : Nat → Dl} (h : Jh W b v n g) (x : Qa W W') : Jh W' b v n g := by
 obtain ⟨vs, h1, h2⟩ := h
 exact ⟨vs, Zp h1 x, fun i hi => Zp (h2 i hi) x⟩
theorem Jh.le {W : World} {b b' n : Nat} {v : Value} {g : Nat → Dl} (h : Jh W b v n g) (hb : b' ≤ b) : Jh W b' v n g := by
 obtain ⟨vs, h1, h2⟩ := h
 exact ⟨vs, h1.mono hb, fun i hi => World.ownsRow.mono (h2 i hi) hb⟩
theorem I2 {W : World} {b : Nat} {v : Value} {l : List Dl} (h : Jh W b v l.length (fun i => l.getD i Qv)) : J2 W v l := by
 obtain ⟨vs, h1, h2⟩ := h
 obtain ⟨F, c, g1, g2, g3, g4, g5, _⟩ := Wg (f := fun i => Qu (l.getD i Qv) (vs i)) (fun _ => rfl) h1
 exact ⟨F, c, vs, g1, g2, g3, g4, g5, fun i hi => Xp (h2 i hi)⟩
theorem Ox : (Tryd.prog.info? 67).map (fun i => (i.zero, i.size, i.bytes)) = some (some (.agg #[.int .i64 0, .int .i64 0, .bool false, .int .i64 0, .bool false, .string ⟨#[]⟩, .slice none 0 0]), 7, 80) := by kernel_rfl
theorem Ep (d : Dl) (F : Option Addr) (n m : Nat) : ∀ u ∈ Qu d (.slice F n m), u.oneCell' = true := by simp [Qu, Value.oneCell']
theorem J4 {W : World} {b : Nat} {t : TypeId} {cs : Array Value} (h : Qb W b t cs) (i : Nat) (u : Value) : Qb (W.setCell ⟨b, i, none⟩ u) b t (cs.setIfInBounds i u) := by unfold Qb at h ⊢; simp [World.setCell, Array.getElem?_modify, h]
theorem Xy {W : World} {b n : Nat} {v : Value} {g : Nat → Dl} (h : Jh W b v n g) : ∃ F m, v = .slice F n m := by
 obtain ⟨_, h1, _⟩ := h
 exact Zo h1
structure Zj (W : World) (b : Nat) (p : Pd) (vo vd vc : Value) : Prop where
 o : Yl W b vo p.o
 d : Jh W b vd p.d.length (fun i => p.d.getD i Qv)
 c : Yl W b vc p.c
theorem V5 {W : World} {b : Nat} {p : Pd} {vo vd vc : Value} (h : Zj W b p vo vd vc) : Zv W p vo vd vc := ⟨Xp h.o, I2 h.d, Xp h.c⟩
theorem Zj.ext {W W' : World} {b : Nat} {p : Pd} {vo vd vc : Value} (h : Zj W b p vo vd vc) (x : Qa W W') : Zj W' b p vo vd vc := ⟨Zp h.o x, h.d.ext x, Zp h.c x⟩
theorem Zj.le {W : World} {b b' : Nat} {p : Pd} {vo vd vc : Value} (h : Zj W b p vo vd vc) (hb : b' ≤ b) : Zj W b' p vo vd vc := ⟨Yi h.o hb, h.d.le hb, Yi h.c hb⟩
theorem Jh.set {W : World} {bb : Nat} {t : TypeId} {cs : Array Value} (hB : Qb W bb t cs) (h1 : t ≠ 71) (h2 : t ≠ 67) {b n : Nat} {v : Value} {g : Nat → Dl} (h : Jh W b v n g) (j : Nat) (u : Value) : Jh (W.setCell ⟨bb, j, none⟩ u) b v n g := by
 obtain ⟨vs, g1, g2⟩ := h
 exact ⟨vs, Y0 hB h2 g1 j u, fun i hi => Y0 hB h1 (g2 i hi) j u⟩
end
end Go.Proofs.YtneiofnlmblglaaDoor
