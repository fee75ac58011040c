/- Walks of the program's functions and plain facts, packed; proved: the lemmas below; no conditions but those that each states. -/
import Derived.Test.YtoflcheopfppoaaGreatDoorJ8
import Derived.Test.YtoflcheopfppoaaGreatDoorJ6
import Derived.Test.YtoflcheopfppoaaGreatDoorJ7
import Derived.Test.YtoflcheopfppoaaGreatDoorJ9
import Derived.Lib.Strings
import Derived.Test.YtoflcheopfppoaaGreatDoorJ1
import Derived.Test.YtoflcheopfppoaaGreatDoorJ4
import Derived.Test.YtoflcheopfppoaaGreatDoorJ3
import Derived.Test.YtoflcheopfppoaaGreatDoorJ2
import Derived.Laws.StructEq
set_option maxRecDepth 100000
set_option maxHeartbeats 4000000
namespace Go.Proofs.YtoflcheopfppoaaGreatDoor
section
open Go Go.RowKit Go.Shelf
attribute [local go_sem] Zq
/-- A slice value that reads as a list of lots. -/
def Zt (w : World) (v : Value) (l : List Lt) : Prop := ∃ A cap, v = .slice A l.length cap ∧ Qo w A l.length 2 (Zl (Zm l)) ∧ l.length ≤ cap ∧ cap ≤ maxLen ∧ (A = none → l.length = 0 ∧ cap = 0)
theorem Zt.ext {w w' : World} {v : Value} {l : List Lt} (h : Zt w v l) (e : Qa w w') : Zt w' v l := by
 obtain ⟨A, cap, h1, h2, h3⟩ := h
 exact ⟨A, cap, h1, h2.ext e, h3⟩
def Zx (d : Dl) (v : Value) : List Value := [.int .i64 d.on.y, .int .i64 d.on.m, .bool d.on.s, .int .i64 d.on.d, .bool d.i, .string d.w, v]
/-- A slice value that reads as a list of deals. -/
def Vl (w : World) (v : Value) (l : List Dl) : Prop := ∃ D cap, ∃ vs : Nat → Value, v = .slice D l.length cap ∧ Qo w D l.length 7 (fun i => Zx (l.getD i Zn) (vs i)) ∧ l.length ≤ cap ∧ cap ≤ maxLen ∧ (D = none → l.length = 0 ∧ cap = 0) ∧ ∀ i, i < l.length → Zt w (vs i) (l.getD i Zn).l
theorem Vl.ext {w w' : World} {v : Value} {l : List Dl} (h : Vl w v l) (e : Qa w w') : Vl w' v l := by
 obtain ⟨D, cap, vs, h1, h2, h3, h4, h5, h6⟩ := h
 exact ⟨D, cap, vs, h1, h2.ext e, h3, h4, h5, fun i hi => (h6 i hi).ext e⟩
structure Uk (w : World) (p : Pd) (vo vd vc : Value) : Prop where
 o : Zt w vo p.o
 d : Vl w vd p.d
 c : Zt w vc p.c
theorem Uk.ext {w w' : World} {p : Pd} {vo vd vc : Value} (h : Uk w p vo vd vc) (e : Qa w w') : Uk w' p vo vd vc := ⟨h.o.ext e, h.d.ext e, h.c.ext e⟩
theorem Ic (l : List Lt) : ((List.range l.length).any fun j => decide ((Zm l j).n < 0)) = l.any fun x => decide (x.n < 0) := by
 conv => rhs; rw [← Dh l]
 unfold Jo
 rw [List.any_map]; rfl
section
variable {W : World} {b : Nat} {t : TypeId} {v0 v1 v2 v3 v4 v5 v6 v7 v8 v9 v10 v11 : Value}
theorem Fb (h : Qb W b t #[v0, v1, v2, v3, v4, v5, v6]) : W.cell? ⟨b, 0, none⟩ = some v0 ∧ W.cell? ⟨b, 1, none⟩ = some v1 ∧ W.cell? ⟨b, 2, none⟩ = some v2 ∧ W.cell? ⟨b, 3, none⟩ = some v3 ∧ W.cell? ⟨b, 4, none⟩ = some v4 ∧ W.cell? ⟨b, 5, none⟩ = some v5 ∧ W.cell? ⟨b, 6, none⟩ = some v6 := ⟨h.cell 0, h.cell 1, h.cell 2, h.cell 3, h.cell 4, h.cell 5, h.cell 6⟩
theorem Qb.c12 (h : Qb W b t #[v0, v1, v2, v3, v4, v5, v6, v7, v8, v9, v10, v11]) : W.cell? ⟨b, 0, none⟩ = some v0 ∧ W.cell? ⟨b, 1, none⟩ = some v1 ∧ W.cell? ⟨b, 2, none⟩ = some v2 ∧ W.cell? ⟨b, 3, none⟩ = some v3 ∧ W.cell? ⟨b, 4, none⟩ = some v4 ∧ W.cell? ⟨b, 5, none⟩ = some v5 ∧ W.cell? ⟨b, 6, none⟩ = some v6 ∧ W.cell? ⟨b, 7, none⟩ = some v7 ∧ W.cell? ⟨b, 8, none⟩ = some v8 ∧ W.cell? ⟨b, 9, none⟩ = some v9 ∧ W.cell? ⟨b, 10, none⟩ = some v10 ∧ W.cell? ⟨b, 11, none⟩ = some v11 := ⟨h.cell 0, h.cell 1, h.cell 2, h.cell 3, h.cell 4, h.cell 5, h.cell 6, h.cell 7, h.cell 8, h.cell 9, h.cell 10, h.cell 11⟩
end
theorem Qby (l : Lt) (w : World) :
  Calls Tryz.prog 193 #[.agg #[.string l.g, .int .i64 l.n]] w fun e w' => e = .returned (.bool (decide (l.n < 0))) ∧ Qa w w' := by
 go_enter Tryz.func193, Tryz.ntmps193
 go_upto_region 1 with (fail)
 obtain ⟨v, hv⟩ := Qg (w.alloc (.cells #[.string l.g, .int .i64 l.n] 85))
 rw [← hv]
 have E : Qa w v := by rw [hv]; exact (Qa.refl _).alloc _
 have B1 : Qb v w.heap.size 85 #[.string l.g, .int .i64 l.n] := by rw [hv]; exact Qb.new _ _ _
 clear hv
 generalize w.heap.size = b1 at *
 obtain ⟨k0, k1⟩ := B1.c2
 have lk := B1.lt
 go_wp2
 go_ret
 exact ⟨rfl, E⟩
theorem Qck (A : Option Addr) (n cap : Nat) (f : Nat → Lt) (w : World) (hA : Qo w A n 2 (Zl f)) (hn : n ≤ 9223372036854775807) :
  Calls Tryz.prog 195 #[.slice A n cap, .func (.func 193) #[] #[]] w fun e w' => ∃ r : Int, e = .returned (.int .i64 r) ∧ decide (0 ≤ r) = ((List.range n).any fun j => decide ((f j).n < 0)) ∧ Qa w w' := by
 go_enter Tryz.func195, Tryz.ntmps195
 go_wp2
 go_loopw [8] (fun iv wr => ∃ k : Nat, k ≤ n ∧ iv = .int .i64 (k : Int) ∧ Hid (∀ j, j < k → decide ((f j).n < 0) = false) ∧ Qa w wr) (fun iv _ => n - (intOf iv).toNat)
 case atStart => exact ⟨0, Nat.zero_le _, rfl, fun j h => absurd h (by omega), Qa.refl _⟩
 case round =>
  obtain ⟨k, hk0, rfl, hno, hE⟩ := hrel
  obtain ⟨wo, rfl⟩ := Qg wr
  by_cases hlt : k < n
  ·obtain ⟨b, off, hAA, hb, hc⟩ := (hA.ext hE) (by omega)
   subst hAA
   have c0 : wo.cell? ⟨b, off + k * 2, none⟩ = some (.string (f k).g) := by simpa [Zl] using hc k 0 _ hlt rfl
   have c1 : wo.cell? ⟨b, off + k * 2 + 1, none⟩ = some (.int .i64 (f k).n) := by simpa [Zl] using hc k 1 _ hlt rfl
   have NP := Qby (f k) wo
   clear hc hA
   generalize hq : decide ((f k).n < 0) = q at *
   have HQ := Lib.hid hq
   clear hq
   cases q
   ·go_wp2_with (first | (go_at_call 193; (with_reducible refine Calls.mono (NP) ?_); rintro e w4 ⟨rfl, h⟩) | (go_at_fn 193; (with_reducible refine Calls.mono (NP) ?_); rintro e w4 ⟨rfl, h⟩))
    exact ⟨⟨k + 1, by omega, by go_num, fun j hj => by
     by_cases e : j = k
     ·subst e; exact HQ.out
     ·exact hno.out j (by omega), hE.trans h⟩, by simp [intOf]; omega⟩
   ·go_wp2_with (first | (go_at_call 193; (with_reducible refine Calls.mono (NP) ?_); rintro e w4 ⟨rfl, h⟩) | (go_at_fn 193; (with_reducible refine Calls.mono (NP) ?_); rintro e w4 ⟨rfl, h⟩))
    go_ret
    exact ⟨_, rfl, by rw [decide_eq_true (by omega)]; exact (List.any_eq_true.2 ⟨k, by simpa using hlt, HQ.out⟩).symm, hE.trans h⟩
  ·obtain rfl : k = n := by omega
   go_wp2
   go_ret
   exact ⟨_, rfl, by rw [decide_eq_false (by omega)]; exact (List.any_eq_false.2 (fun j hj => by have := hno.out j (by simpa using hj); simpa using this)).symm, hE⟩
theorem Qaz (A : Option Addr) (n cap : Nat) (f : Nat → Lt) (w : World) (hA : Qo w A n 2 (Zl f)) (hn : n ≤ 9223372036854775807) :
  Calls Tryz.prog 192 #[.slice A n cap, .func (.func 193) #[] #[]] w fun e w' => e = .returned (.bool ((List.range n).any fun j => decide ((f j).n < 0))) ∧ Qa w w' := by
 have NI := Qck A n cap f w hA hn
 go_enter Tryz.func192, Tryz.ntmps192
 go_wp2_with (go_at_call 195; (with_reducible refine Calls.mono (NI) ?_); rintro e w4 ⟨r, rfl, hr, h⟩)
 go_ret
 exact ⟨by rw [← hr]; rfl, h⟩
theorem Qbz (v : Value) (l : List Lt) (w : World) (hL : Zt w v l) :
  Calls Tryz.prog 184 #[v] w fun e w' => e = .returned (.bool (Wl l)) ∧ Qa w w' := by
 obtain ⟨T, cap, rfl, hT, hcap, hmax, _⟩ := hL
 have hn : l.length ≤ 9223372036854775807 := Nat.le_trans hcap (Nat.le_trans hmax (by decide))
 have N1 := Lk T l.length cap (Zm l) w hT hcap hn
 have N2 := fun w h => Qaz T l.length cap (Zm l) w h hn
 rw [Ic] at N2
 have HR : Hid (Wl l = (decide (0 < l.length) && decide (Jt (Zm l) l.length = 0) && !(l.any fun x => decide (x.n < 0)))) := rfl
 generalize Wl l = r at *
 generalize (l.any fun x => decide (x.n < 0)) = an at *
 generalize Jt (Zm l) l.length = e1 at *
 generalize l.length = n at *
 by_cases h0 : 0 < n
 ·have d0 : decide ((0 : Int) < (n : Int)) = true := decide_eq_true (by omega)
  have d0' : decide (0 < n) = true := decide_eq_true h0
  by_cases hz : e1 = 0
  ·subst hz
   have hr : r = !an := by rw [HR.out, d0']; rfl
   clear HR
   subst hr
   cases an
   all_goals
    go_enter Tryz.func184, Tryz.ntmps184
    go_wp2_with (first | (go_at_call 68; (with_reducible refine Calls.mono (N1) ?_); rintro e w1 ⟨rfl, h1⟩) | (go_at_call 192; (with_reducible refine Calls.mono (N2 _ (hT.ext h1)) ?_); rintro e w2 ⟨rfl, h2⟩))
    go_ret
    exact ⟨rfl, h1.trans h2⟩
  ·have g0 : (e1 == 0) = false := beq_eq_false_iff_ne.2 hz
   have hr : r = false := by rw [HR.out, d0', decide_eq_false hz]; rfl
   clear HR hz
   subst hr
   go_enter Tryz.func184, Tryz.ntmps184
   go_wp2_with (go_at_call 68; (with_reducible refine Calls.mono (N1) ?_); rintro e w1 ⟨rfl, h1⟩)
   go_ret
   exact ⟨rfl, h1⟩
 ·have d0 : decide ((0 : Int) < (n : Int)) = false := decide_eq_false (by omega)
  have d0' : decide (0 < n) = false := decide_eq_false h0
  have hr : r = false := by rw [HR.out, d0']; rfl
  clear HR
  subst hr
  go_enter Tryz.func184, Tryz.ntmps184
  go_wp2
  go_ret
  exact ⟨rfl, Qa.refl _⟩
theorem Vx {w : World} {T : Option Addr} {cap : Nat} {l : List Lt} (h : Zt w (.slice T l.length cap) l) : Qo w T l.length 2 (Zl (Zm l)) := by
 obtain ⟨A, cap', e, h2, _⟩ := h
 cases e
 exact h2
theorem Qfb (A A' : Option Addr) (ca cb : Nat) (c : Qf) (p : Pd) (vo vd vc : Value) (w : World) (hC : Zg w A ca A' cb c) (hP : Uk w p vo vd vc) :
  Calls Tryz.prog 159 #[.agg #[.slice A c.nk ca, .slice A' c.ny cb], .agg #[.string p.h, .int .i64 p.a.y, .int .i64 p.a.m, .bool p.a.s, .int .i64 p.a.d, .int .i64 p.b.y, .int .i64 p.b.m, .bool p.b.s, .int .i64 p.b.d, vo, vd, vc]] w fun e w' => e = .returned (.bool (c.perOk p)) ∧ Qa w w' := by
 obtain ⟨R, hR0⟩ := Qg (c.perOk p)
 rw [← hR0]
 have HR := Lib.hid hR0
 clear hR0
 have NS := fun w h => Rx A A' ca cb c p.a p.b w h
 go_enter Tryz.func159, Tryz.ntmps159
 go_upto_region 1 with (fail)
 obtain ⟨v, hv⟩ := Qg ((w.alloc (.cells #[.slice A c.nk ca, .slice A' c.ny cb] 130)).alloc (.cells #[.string p.h, .int .i64 p.a.y, .int .i64 p.a.m, .bool p.a.s, .int .i64 p.a.d, .int .i64 p.b.y, .int .i64 p.b.m, .bool p.b.s, .int .i64 p.b.d, vo, vd, vc] 55))
 rw [← hv]
 have E : Qa w v := by rw [hv]; exact ((Qa.refl _).alloc _).alloc _
 have B1 : Qb v w.heap.size 130 #[.slice A c.nk ca, .slice A' c.ny cb] := by rw [hv]; exact (Qb.new _ _ _).alloc _
 have B2 : Qb v (w.heap.size + 1) 55 #[.string p.h, .int .i64 p.a.y, .int .i64 p.a.m, .bool p.a.s, .int .i64 p.a.d, .int .i64 p.b.y, .int .i64 p.b.m, .bool p.b.s, .int .i64 p.b.d, vo, vd, vc] := by rw [hv]; exact Qb.at _ _ _ _ (by simp)
 clear hv
 obtain ⟨b2, hb2⟩ := Qg (w.heap.size + 1)
 rw [← hb2] at B2 ⊢
 obtain ⟨b1, hb1⟩ := Qg (w.heap.size)
 rw [← hb1] at B1 ⊢
 have hbr : w.heap.size ≤ b2 := by omega
 have hbr1 : w.heap.size ≤ b1 := by omega
 have hn21 : b2 ≠ b1 := by omega
 clear hb1 hb2
 have C := hC.ext E
 have P := hP.ext E
 clear hC hP
 obtain ⟨TO, co, rfl, _, co1, co2, _⟩ := P.o
 obtain ⟨TC, cc, rfl, _, cc1, cc2, _⟩ := P.c
 obtain ⟨TD, cd, vs, rfl, _, cd1, cd2, _, _⟩ := P.d
 have no : p.o.length ≤ 9223372036854775807 := Nat.le_trans co1 (Nat.le_trans co2 (by decide))
 have nc : p.c.length ≤ 9223372036854775807 := Nat.le_trans cc1 (Nat.le_trans cc2 (by decide))
 have nd : p.d.length ≤ 9223372036854775807 := Nat.le_trans cd1 (Nat.le_trans cd2 (by decide))
 have KO := fun w h => Lk TO p.o.length co (Zm p.o) w h co1 no
 have KC := fun w h => Lk TC p.c.length cc (Zm p.c) w h cc1 nc
 clear co1 co2 cc1 cc2 cd1 cd2
 have HH : Hid (c.perHead p = (Ja p.h && c.spanV p.a p.b && decide (Jt (Zm p.o) p.o.length = 0) && decide (Jt (Zm p.c) p.c.length = 0) && decide (p.d.length ≤ 64))) := rfl
 have hbad : Hid (c.perHead p = false → R = false) := fun h => by rw [HR.out]; exact Qe9 h
 obtain ⟨nm, hnm⟩ := Qg (Ja p.h)
 have NN := fun w => U7 p.h w
 rw [← hnm] at HH NN
 replace hnm := Lib.hid hnm
 have NSP : Hid (c.spanV p.a p.b = _) := show c.spanV p.a p.b = (decide (0 < c.numV p.a) && decide (c.numV p.a ≤ c.numV p.b)) from rfl
 unfold Qf.spanV at HH
 generalize (decide (0 < c.numV p.a) && decide (c.numV p.a ≤ c.numV p.b)) = sp at *
 clear NSP
 obtain ⟨eo, heo⟩ := Qg (Jt (Zm p.o) p.o.length)
 rw [← heo] at HH KO
 replace heo := Lib.hid heo
 obtain ⟨ec, hec⟩ := Qg (Jt (Zm p.c) p.c.length)
 rw [← hec] at HH KC
 replace hec := Lib.hid hec
 obtain ⟨k0, k1⟩ := B1.c2
 have lk := B1.lt
 obtain ⟨p0, p1, p2, p3, p4, p5, p6, p7, p8, p9, p10, p11⟩ := B2.c12
 have lp := B2.lt
 by_cases hz : nm = false
 ·have hr := hbad.out (by rw [HH.out, hz]; rfl)
  subst hz
  clear HH hbad HR NS KO KC hnm heo hec
  go_wp2_with (go_at_call 120; (with_reducible refine Calls.mono (NN _) ?_); rintro e wn ⟨rfl, rfl⟩)
  go_ret
  exact ⟨by rw [hr]; rfl, E⟩
 obtain rfl : nm = true := by simpa using hz
 clear hz
 by_cases hz : sp = false
 ·have hr := hbad.out (by rw [HH.out, hz]; rfl)
  subst hz
  clear HH hbad HR KO KC hnm heo hec
  go_wp2_with (first | (go_at_call 120; (with_reducible refine Calls.mono (NN _) ?_); rintro e wn ⟨rfl, rfl⟩) | (go_at_call 91; (with_reducible refine Calls.mono (NS _ C) ?_); rintro e w1 ⟨rfl, h1⟩; replace E := E.trans h1; replace C := C.ext h1; replace P := P.ext h1; replace B1 := B1.ext h1; replace B2 := B2.ext h1; clear h1 k0 k1 lk p0 p1 p2 p3 p4 p5 p6 p7 p8 p9 p10 p11 lp; obtain ⟨k0, k1⟩ := B1.c2; have lk := B1.lt; obtain ⟨p0, p1, p2, p3, p4, p5, p6, p7, p8, p9, p10, p11⟩ := B2.c12; have lp := B2.lt))
  go_ret
  exact ⟨by rw [hr]; rfl, E⟩
 obtain rfl : sp = true := by simpa using hz
 clear hz
 by_cases hz : eo = 0
 rotate_left
 ·have hr := hbad.out (by rw [HH.out, decide_eq_false hz]; rfl)
  have g0 : (eo == 0) = false := beq_eq_false_iff_ne.2 hz
  have g0n : (eo != 0) = true := by rw [bne, g0]; rfl
  clear HH hbad HR KC hnm heo hec hz
  go_wp2_with (first | (go_at_call 120; (with_reducible refine Calls.mono (NN _) ?_); rintro e wn ⟨rfl, rfl⟩) | (go_at_call 91; (with_reducible refine Calls.mono (NS _ C) ?_); rintro e w1 ⟨rfl, h1⟩; replace E := E.trans h1; replace C := C.ext h1; replace P := P.ext h1; replace B1 := B1.ext h1; replace B2 := B2.ext h1; clear h1 k0 k1 lk p0 p1 p2 p3 p4 p5 p6 p7 p8 p9 p10 p11 lp; obtain ⟨k0, k1⟩ := B1.c2; have lk := B1.lt; obtain ⟨p0, p1, p2, p3, p4, p5, p6, p7, p8, p9, p10, p11⟩ := B2.c12; have lp := B2.lt) | (go_at_call 68; (with_reducible refine Calls.mono (KO _ (Vx P.o)) ?_); rintro e w2 ⟨rfl, h1⟩; replace E := E.trans h1; replace C := C.ext h1; replace P := P.ext h1; replace B1 := B1.ext h1; replace B2 := B2.ext h1; clear h1 k0 k1 lk p0 p1 p2 p3 p4 p5 p6 p7 p8 p9 p10 p11 lp; obtain ⟨k0, k1⟩ := B1.c2; have lk := B1.lt; obtain ⟨p0, p1, p2, p3, p4, p5, p6, p7, p8, p9, p10, p11⟩ := B2.c12; have lp := B2.lt))
  go_ret
  exact ⟨by rw [hr]; rfl, E⟩
 subst hz
 by_cases hz : ec = 0
 rotate_left
 ·have hr := hbad.out (by rw [HH.out, decide_eq_false hz, Bool.and_false]; rfl)
  have g0 : (ec == 0) = false := beq_eq_false_iff_ne.2 hz
  have g0n : (ec != 0) = true := by rw [bne, g0]; rfl
  clear HH hbad HR hnm heo hec hz
  go_wp2_with (first | (go_at_call 120; (with_reducible refine Calls.mono (NN _) ?_); rintro e wn ⟨rfl, rfl⟩) | (go_at_call 91; (with_reducible refine Calls.mono (NS _ C) ?_); rintro e w1 ⟨rfl, h1⟩; replace E := E.trans h1; replace C := C.ext h1; replace P := P.ext h1; replace B1 := B1.ext h1; replace B2 := B2.ext h1; clear h1 k0 k1 lk p0 p1 p2 p3 p4 p5 p6 p7 p8 p9 p10 p11 lp; obtain ⟨k0, k1⟩ := B1.c2; have lk := B1.lt; obtain ⟨p0, p1, p2, p3, p4, p5, p6, p7, p8, p9, p10, p11⟩ := B2.c12; have lp := B2.lt) | (go_at_call 68; (with_reducible refine Calls.mono (KO _ (Vx P.o)) ?_); rintro e w2 ⟨rfl, h1⟩; replace E := E.trans h1; replace C := C.ext h1; replace P := P.ext h1; replace B1 := B1.ext h1; replace B2 := B2.ext h1; clear h1 k0 k1 lk p0 p1 p2 p3 p4 p5 p6 p7 p8 p9 p10 p11 lp; obtain ⟨k0, k1⟩ := B1.c2; have lk := B1.lt; obtain ⟨p0, p1, p2, p3, p4, p5, p6, p7, p8, p9, p10, p11⟩ := B2.c12; have lp := B2.lt) | (go_at_call 68; (with_reducible refine Calls.mono (KC _ (Vx P.c)) ?_); rintro e w3 ⟨rfl, h1⟩; replace E := E.trans h1; replace C := C.ext h1; replace P := P.ext h1; replace B1 := B1.ext h1; replace B2 := B2.ext h1; clear h1 k0 k1 lk p0 p1 p2 p3 p4 p5 p6 p7 p8 p9 p10 p11 lp; obtain ⟨k0, k1⟩ := B1.c2; have lk := B1.lt; obtain ⟨p0, p1, p2, p3, p4, p5, p6, p7, p8, p9, p10, p11⟩ := B2.c12; have lp := B2.lt))
  go_ret
  exact ⟨by rw [hr]; rfl, E⟩
 subst hz
 by_cases hz : p.d.length ≤ 64
 rotate_left
 ·have hr := hbad.out (by rw [HH.out, decide_eq_false hz, Bool.and_false])
  have d1 : decide ((64 : Int) < (p.d.length : Int)) = true := decide_eq_true (by omega)
  clear HH hbad HR hnm heo hec hz
  go_wp2_with (first | (go_at_call 120; (with_reducible refine Calls.mono (NN _) ?_); rintro e wn ⟨rfl, rfl⟩) | (go_at_call 91; (with_reducible refine Calls.mono (NS _ C) ?_); rintro e w1 ⟨rfl, h1⟩; replace E := E.trans h1; replace C := C.ext h1; replace P := P.ext h1; replace B1 := B1.ext h1; replace B2 := B2.ext h1; clear h1 k0 k1 lk p0 p1 p2 p3 p4 p5 p6 p7 p8 p9 p10 p11 lp; obtain ⟨k0, k1⟩ := B1.c2; have lk := B1.lt; obtain ⟨p0, p1, p2, p3, p4, p5, p6, p7, p8, p9, p10, p11⟩ := B2.c12; have lp := B2.lt) | (go_at_call 68; (with_reducible refine Calls.mono (KO _ (Vx P.o)) ?_); rintro e w2 ⟨rfl, h1⟩; replace E := E.trans h1; replace C := C.ext h1; replace P := P.ext h1; replace B1 := B1.ext h1; replace B2 := B2.ext h1; clear h1 k0 k1 lk p0 p1 p2 p3 p4 p5 p6 p7 p8 p9 p10 p11 lp; obtain ⟨k0, k1⟩ := B1.c2; have lk := B1.lt; obtain ⟨p0, p1, p2, p3, p4, p5, p6, p7, p8, p9, p10, p11⟩ := B2.c12; have lp := B2.lt) | (go_at_call 68; (with_reducible refine Calls.mono (KC _ (Vx P.c)) ?_); rintro e w3 ⟨rfl, h1⟩; replace E := E.trans h1; replace C := C.ext h1; replace P := P.ext h1; replace B1 := B1.ext h1; replace B2 := B2.ext h1; clear h1 k0 k1 lk p0 p1 p2 p3 p4 p5 p6 p7 p8 p9 p10 p11 lp; obtain ⟨k0, k1⟩ := B1.c2; have lk := B1.lt; obtain ⟨p0, p1, p2, p3, p4, p5, p6, p7, p8, p9, p10, p11⟩ := B2.c12; have lp := B2.lt))
  go_ret
  exact ⟨by rw [hr]; rfl, E⟩
 have hh : c.perHead p = true := by rw [HH.out, decide_eq_true hz]; rfl
 have HR2 : Hid (R = (List.range p.d.length).all (c.dealOk p)) := by unfold Hid; rw [HR.out]; unfold Qf.perOk; rw [hh]; rfl
 have d1 : decide ((64 : Int) < (p.d.length : Int)) = false := decide_eq_false (by omega)
 clear HH hbad HR hnm heo hec hz hh
 have NA := fun w h => Wi A A' ca cb c p.a w h
 have NB := fun w h => Wi A A' ca cb c p.b w h
 go_upto_region 3 with (first | (go_at_call 120; (with_reducible refine Calls.mono (NN _) ?_); rintro e wn ⟨rfl, rfl⟩) | (go_at_call 91; (with_reducible refine Calls.mono (NS _ C) ?_); rintro e w1 ⟨rfl, h1⟩; replace E := E.trans h1; replace C := C.ext h1; replace P := P.ext h1; replace B1 := B1.ext h1; replace B2 := B2.ext h1; clear h1 k0 k1 lk p0 p1 p2 p3 p4 p5 p6 p7 p8 p9 p10 p11 lp; obtain ⟨k0, k1⟩ := B1.c2; have lk := B1.lt; obtain ⟨p0, p1, p2, p3, p4, p5, p6, p7, p8, p9, p10, p11⟩ := B2.c12; have lp := B2.lt) | (go_at_call 68; (with_reducible refine Calls.mono (KO _ (Vx P.o)) ?_); rintro e w2 ⟨rfl, h1⟩; replace E := E.trans h1; replace C := C.ext h1; replace P := P.ext h1; replace B1 := B1.ext h1; replace B2 := B2.ext h1; clear h1 k0 k1 lk p0 p1 p2 p3 p4 p5 p6 p7 p8 p9 p10 p11 lp; obtain ⟨k0, k1⟩ := B1.c2; have lk := B1.lt; obtain ⟨p0, p1, p2, p3, p4, p5, p6, p7, p8, p9, p10, p11⟩ := B2.c12; have lp := B2.lt) | (go_at_call 68; (with_reducible refine Calls.mono (KC _ (Vx P.c)) ?_); rintro e w3 ⟨rfl, h1⟩; replace E := E.trans h1; replace C := C.ext h1; replace P := P.ext h1; replace B1 := B1.ext h1; replace B2 := B2.ext h1; clear h1 k0 k1 lk p0 p1 p2 p3 p4 p5 p6 p7 p8 p9 p10 p11 lp; obtain ⟨k0, k1⟩ := B1.c2; have lk := B1.lt; obtain ⟨p0, p1, p2, p3, p4, p5, p6, p7, p8, p9, p10, p11⟩ := B2.c12; have lp := B2.lt))
 clear NS KO KC NN
 refine Zb w3 Qq (by kernel_rfl) (by repeat (first | exact Qa.refl _ | (refine Qa.alloc ?_ _) | (refine Qa.trans ?_ (by assumption)))) ?_
 intro hne hrx hry
 try simp only []
 try simp only [List.append_eq, List.cons_append, List.nil_append]
 skip
 repeat (first
  | go_big_quiet_skip
  | (go_big_quiet_want; go_big_quiet_op; go_big_quiet_on)
  | (go_big_quiet_want; go_big_quiet_op; apply Exists.intro; refine ⟨fun u => ?_, ?_⟩
     ·first
       | (go_at_call 48; (with_reducible refine Calls.mono (NA _ (C.ext u.e)) ?_); rintro e w' ⟨rfl, hb⟩; exact ⟨rfl, u.back hb⟩)
       | (go_at_call 48; (with_reducible refine Calls.mono (NB _ (C.ext u.e)) ?_); rintro e w' ⟨rfl, hb⟩; exact ⟨rfl, u.back hb⟩)
     go_big_quiet_on))
 clear hne hry hrx
 refine wpQuiet_nil ?_
 intro vl hvl
 obtain ⟨hcvl, hfvl, hzvl⟩ := Qa.rules hvl
 try simp only [World.size_alloc] at hzvl
 obtain ⟨hcbvl, hfbvl, hzbvl⟩ := Qa.rules (show Qa w3 vl from (by repeat (first | exact Qa.refl _ | (refine Qa.alloc ?_ _) | (refine Qa.trans ?_ (by assumption)))))
 clear hcvl hfvl
 replace E := E.trans hvl
 replace C := C.ext hvl
 replace P := P.ext hvl
 replace B1 := B1.ext hvl
 replace B2 := B2.ext hvl
 clear k0 k1 lk p0 p1 p2 p3 p4 p5 p6 p7 p8 p9 p10 p11 lp NA NB
 obtain ⟨p0, p1, p2, p3, p4, p5, p6, p7, p8, p9, p10, p11⟩ := B2.c12
 have lp := B2.lt
 go_upto_region 5 with (fail)
 clear p0 p1 p2 p3 p4 p5 p6 p7 p8 p9 p10 p11 lp
 obtain ⟨n, hnl⟩ := Qg (p.d.length)
 rw [← hnl] at nd d1 HR2 ⊢
 replace hnl := Lib.hid hnl
 obtain ⟨_, _, vs', e1, hD, _, _, _, hat⟩ := P.d
 cases e1
 rw [← hnl.out] at hD hat
 replace hD : Qo vl TD n 7 (fun i => Zx (p.dl i) (vs' i)) := hD
 replace hat : Hid (∀ i, i < n → Zt vl (vs' i) (p.dl i).l) := hat
 clear P
 go_loopw [5, 52] (fun lv iv wr => ∃ k : Nat, k ≤ n ∧ iv = .int .i64 k ∧ lv = .int .i64 (c.lastD p k) ∧ Hid (∀ j, j < k → c.dealOk p j = true) ∧ Qa vl wr) (fun _ i _ => n - (intOf i).toNat)
 case atStart => exact ⟨0, Nat.zero_le _, rfl, rfl, (fun j h => absurd h (by omega)), Qa.refl _⟩
 case round =>
  obtain ⟨k, hk, rfl, rfl, hall, hE⟩ := hrel
  obtain ⟨wo, rfl⟩ := Qg wr
  by_cases hlt : k < n
  ·obtain ⟨b, off, rfl, hb, hc⟩ := (hD.ext hE) (by omega)
   have hL := (hat.out k hlt).ext hE
   have c0 : wo.cell? ⟨b, off + k * 7, none⟩ = some (.int .i64 (p.dl k).on.y) := by simpa [Zx] using hc k 0 _ hlt rfl
   have c1 : wo.cell? ⟨b, off + k * 7 + 1, none⟩ = some (.int .i64 (p.dl k).on.m) := by simpa [Zx] using hc k 1 _ hlt rfl
   have c2 : wo.cell? ⟨b, off + k * 7 + 2, none⟩ = some (.bool (p.dl k).on.s) := by simpa [Zx] using hc k 2 _ hlt rfl
   have c3 : wo.cell? ⟨b, off + k * 7 + 3, none⟩ = some (.int .i64 (p.dl k).on.d) := by simpa [Zx] using hc k 3 _ hlt rfl
   have c4 : wo.cell? ⟨b, off + k * 7 + 4, none⟩ = some (.bool (p.dl k).i) := by simpa [Zx] using hc k 4 _ hlt rfl
   have c5 : wo.cell? ⟨b, off + k * 7 + 5, none⟩ = some (.string (p.dl k).w) := by simpa [Zx] using hc k 5 _ hlt rfl
   have c6 : wo.cell? ⟨b, off + k * 7 + 6, none⟩ = some (vs' k) := by simpa [Zx] using hc k 6 _ hlt rfl
   have NG := fun w h => Qbz (vs' k) (p.dl k).l w h
   have ND := fun w h => Wi A A' ca cb c (p.dl k).on w h
   have NN := fun w => U7 (p.dl k).w w
   have HK : Hid (c.dealOk p k = !(decide (c.numV (p.dl k).on < c.lastD p k) || decide (c.numV p.b < c.numV (p.dl k).on) || !Ja (p.dl k).w || ((p.dl k).w.toList == p.h.toList) || !Wl (p.dl k).l)) := by
    unfold Hid; rw [Qa8, Ov]
   have hno : Hid (c.dealOk p k = false → R = false) := fun h => by
    rw [HR2.out]
    exact List.all_eq_false.2 ⟨k, by simpa using hlt, by simp [h]⟩
   have hyes : Hid (c.dealOk p k = true → ∀ j, j < k + 1 → c.dealOk p j = true) := fun h j hj => by
    by_cases e : j = k
    ·subst e; exact h
    ·exact hall.out j (by omega)
   have hlo : Hid (c.lastD p (k + 1) = c.numV (p.dl k).on) := rfl
   obtain ⟨VL, hvl⟩ := Qg (vs' k)
   rw [← hvl] at c6 NG hL
   clear hvl hc hall HR2 hD hat
   obtain ⟨TL, cl, hVL, _⟩ := id hL
   subst hVL
   generalize c.dealOk p k = dk at *
   generalize c.lastD p k = L0 at *
   generalize c.numV (p.dl k).on = L1 at *
   generalize c.numV p.b = L2 at *
   generalize Ja (p.dl k).w = nm at *
   generalize hse : ((p.dl k).w.toList == p.h.toList) = se at *
   generalize Wl (p.dl k).l = gv1 at *
   go_upto_region 7 with (fail)
   obtain ⟨v3, hv⟩ := Qg (wo.alloc (.cells #[.int .i64 (p.dl k).on.y, .int .i64 (p.dl k).on.m, .bool (p.dl k).on.s, .int .i64 (p.dl k).on.d, .bool (p.dl k).i, .string (p.dl k).w, .slice TL (p.dl k).l.length cl] 57))
   rw [← hv]
   have E3 : Qa wo v3 := by rw [hv]; exact (Qa.refl _).alloc _
   have H3 : Qb v3 wo.heap.size 57 #[.int .i64 (p.dl k).on.y, .int .i64 (p.dl k).on.m, .bool (p.dl k).on.s, .int .i64 (p.dl k).on.d, .bool (p.dl k).i, .string (p.dl k).w, .slice TL (p.dl k).l.length cl] := by rw [hv]; exact Qb.new _ _ _
   clear hv
   generalize wo.heap.size = b3 at *
   clear c0 c1 c2 c3 c4 c5 c6
   replace hL := hL.ext E3
   replace hE := hE.trans E3
   clear E3
   have B1e := B1.ext hE
   obtain ⟨k0, k1⟩ := B1e.c2
   have lk := B1e.lt
   obtain ⟨q0, q1, q2, q3, q4, q5, q6⟩ := Fb H3
   have lq := H3.lt
   go_upto_region 8 with (go_at_call 48; (with_reducible refine Calls.mono (ND _ (C.ext hE)) ?_); rintro e w4 ⟨rfl, h4⟩)
   replace hE := hE.trans h4
   replace H3 := H3.ext h4
   replace hL := hL.ext h4
   clear h4 q0 q1 q2 q3 q4 q5 q6 lq k0 k1 lk B1e ND
   obtain ⟨q0, q1, q2, q3, q4, q5, q6⟩ := Fb H3
   have lq := H3.lt
   have B2e := B2.ext hE
   obtain ⟨p0, p1, p2, p3, p4, p5, p6, p7, p8, p9, p10, p11⟩ := B2e.c12
   have lp := B2e.lt
   by_cases a1 : L1 < L0
   ·have g1 : decide (L1 < L0) = true := decide_eq_true a1
    have hr := hno.out (by rw [HK.out, g1]; rfl)
    clear HK hno hyes hlo a1 hse
    go_wp2
    go_ret
    exact ⟨by rw [hr]; rfl, E.trans hE⟩
   have g1 : decide (L1 < L0) = false := decide_eq_false a1
   rw [g1] at HK
   clear a1
   by_cases a2 : L2 < L1
   ·have g2 : decide (L2 < L1) = true := decide_eq_true a2
    have hr := hno.out (by rw [HK.out, g2]; rfl)
    clear HK hno hyes hlo a2 hse
    go_wp2
    go_ret
    exact ⟨by rw [hr]; rfl, E.trans hE⟩
   have g2 : decide (L2 < L1) = false := decide_eq_false a2
   rw [g2] at HK
   clear a2
   cases nm
   ·have hr := hno.out (by rw [HK.out]; rfl)
    clear HK hno hyes hlo hse
    go_wp2_with (first | (go_at_call 120; (with_reducible refine Calls.mono (NN _) ?_); rintro e wn ⟨rfl, rfl⟩))
    go_ret
    exact ⟨by rw [hr]; rfl, E.trans hE⟩
   cases se
   rotate_left
   ·have hr := hno.out (by rw [HK.out]; rfl)
    clear HK hno hyes hlo
    go_wp2_with (first | (go_at_call 120; (with_reducible refine Calls.mono (NN _) ?_); rintro e wn ⟨rfl, rfl⟩))
    go_ret
    exact ⟨by rw [hr]; rfl, E.trans hE⟩
   cases gv1
   ·have hr := hno.out (by rw [HK.out]; rfl)
    clear HK hno hyes hlo
    go_wp2_with (first | (go_at_call 120; (with_reducible refine Calls.mono (NN _) ?_); rintro e wn ⟨rfl, rfl⟩) | (go_at_call 184; (with_reducible refine Calls.mono (NG _ hL) ?_); rintro e w6 ⟨rfl, h6⟩))
    go_ret
    exact ⟨by rw [hr]; rfl, (E.trans hE).trans h6⟩
   have hx := Lib.hid (hyes.out (by rw [HK.out]; rfl))
   clear HK hno hyes
   go_wp2_with (first | (go_at_call 120; (with_reducible refine Calls.mono (NN _) ?_); rintro e wn ⟨rfl, rfl⟩) | (go_at_call 184; (with_reducible refine Calls.mono (NG _ hL) ?_); rintro e w6 ⟨rfl, h6⟩))
   exact ⟨⟨k + 1, by omega, by go_num, by rw [hlo.out], hx, hE.trans h6⟩, by simp [intOf]; omega⟩
  ·obtain rfl : k = n := by omega
   have hr : R = true := by
    rw [HR2.out]
    exact List.all_eq_true.2 fun j hj => hall.out j (by simpa using hj)
   clear HR2 hall
   subst hr
   go_wp2
   go_ret
   exact ⟨rfl, E.trans hE⟩
theorem Ph (l : List Lt) : l.flatMap J3 = Zv (Zl (Zm l)) l.length := by
 conv => lhs; rw [← Dh l]
 unfold Jo Zv
 rw [List.flatMap_map]; rfl
theorem Fj {w : World} {base k : Nat} {v : Value} {l : List Lt} (h : w.ownsRow base 85 2 v k (l.flatMap J3)) : Zt w v l := by
 have hk := h.1
 rw [Fg] at hk
 obtain rfl : k = l.length := by omega
 rw [Ph] at h
 obtain ⟨F, c, h1, h2, h3, h4, h5, _⟩ := Kk (f := Zl (Zm l)) (fun _ => rfl) h
 exact ⟨F, c, h1, h2, h3, h4, h5⟩
theorem Ly (w : World) : Zt w (.slice none 0 0) [] := ⟨none, 0, rfl, Qo.nil, Nat.le_refl _, Nat.zero_le _, fun _ => ⟨rfl, rfl⟩⟩
def Q3 : Pd := ⟨⟨#[]⟩, ⟨0, 0, false, 0⟩, ⟨0, 0, false, 0⟩, [], [], []⟩
def Z6 (p : Pd) (vo vd vc : Value) : List Value := [.string p.h, .int .i64 p.a.y, .int .i64 p.a.m, .bool p.a.s, .int .i64 p.a.d, .int .i64 p.b.y, .int .i64 p.b.m, .bool p.b.s, .int .i64 p.b.d, vo, vd, vc]
/-- A slice value that reads as a list of periods. -/
def Yo (w : World) (v : Value) (l : List Pd) : Prop := ∃ D cap, ∃ vo vd vc : Nat → Value, v = .slice D l.length cap ∧ Qo w D l.length 12 (fun i => Z6 (l.getD i Q3) (vo i) (vd i) (vc i)) ∧ l.length ≤ cap ∧ cap ≤ maxLen ∧ (D = none → l.length = 0 ∧ cap = 0) ∧ ∀ i, i < l.length → Uk w (l.getD i Q3) (vo i) (vd i) (vc i)
theorem Yo.ext {w w' : World} {v : Value} {l : List Pd} (h : Yo w v l) (e : Qa w w') : Yo w' v l := by
 obtain ⟨D, cap, vo, vd, vc, h1, h2, h3, h4, h5, h6⟩ := h
 exact ⟨D, cap, vo, vd, vc, h1, h2.ext e, h3, h4, h5, fun i hi => (h6 i hi).ext e⟩
theorem Qfa {c : Qf} {p : Pd} (h : c.perE p = 0) : p.o.length ≤ 64 := by
 unfold Qf.perE at h
 cases hv : c.valid
 ·rw [hv, if_neg (by simp)] at h; exact absurd h (by decide)
 ·rw [hv, if_pos rfl] at h
  cases ho : c.perOk p
  ·rw [ho, if_neg (by simp)] at h; exact absurd h (by decide)
  ·unfold Qf.perOk Qf.perHead at ho
   simp only [Bool.and_eq_true, decide_eq_true_eq] at ho
   exact (Fk ho.1.1.1.2).1
def Qf.persE (c : Qf) (l : List Pd) : Int := if l.all c.perOk then 0 else 83
def Qf.validE (c : Qf) (l : List Pd) : Int := if c.chk ≠ 0 then c.chk else c.persE l
theorem Qgn (c : Qf) (p : Pd) : c.validE [p] = c.perE p := by
 unfold Qf.validE Qf.perE Qf.chk Qf.persE
 cases c.valid <;> simp
theorem E9 {l : List Pd} {P : Pd → Bool} {k : Nat} (hk : k < l.length) (h : P (l.getD k Q3) = false) : l.all P = false :=
 List.all_eq_false.2 ⟨l[k], List.getElem_mem hk, by simpa [List.getD_eq_getElem?_getD, hk] using h⟩
theorem Ia {l : List Pd} {P : Pd → Bool} (h : ∀ k, k < l.length → P (l.getD k Q3) = true) : l.all P = true :=
 List.all_eq_true.2 fun x hx => by
  obtain ⟨k, hk, rfl⟩ := List.mem_iff_getElem.1 hx
  simpa [List.getD_eq_getElem?_getD, hk] using h k hk
theorem Qfd {w : World} {b : Nat} {t : TypeId} {p : Pd} {vo vd vc : Value} (h : Qb w b t (Z6 p vo vd vc).toArray) (hP : Uk w p vo vd vc) : Yo w (.slice (some ⟨b, 0, none⟩) 1 1) [p] :=
 ⟨some ⟨b, 0, none⟩, 1, fun _ => vo, fun _ => vd, fun _ => vc, rfl, V5 (f := fun _ => Z6 p vo vd vc) (n := 1) (fun _ => rfl) (by simpa [Zv] using h) |>.congr (fun i hi => by obtain rfl : i = 0 := (by simp at hi; omega); rfl), Nat.le_refl _, by decide, fun h => (by cases h), fun i hi => by obtain rfl : i = 0 := (by simp at hi; omega); exact hP⟩
theorem Qau (v : Value) (l : List Lt) (w : World) (hL : Zt w v l) (hn : l.length ≤ 1000000) :
  Calls Tryz.prog 59 #[v] w fun e w' => ∃ v', e = .returned v' ∧ Qa w w' ∧ w'.ownsRow w.heap.size 85 2 v' l.length (l.flatMap J3) := by
 rw [Ph]
 obtain ⟨T, cap, rfl, hT, hcap, hmax, hnil⟩ := hL
 generalize l.length = n at *
 generalize Zm l = f at *
 have q23 : ∀ (w : World) (a : Option Addr) (n c n' c' : Nat), (binOp .eql 52 (.slice a n c) (.slice none n' c')).run Tryz.prog w = .ok (.bool a.isNone) w := fun w a n c n' c' => Lib.run_eql_slice_nil w _ _ a n c n' c' Tryz.underlying52
 cases T with
 | none =>
  obtain ⟨rfl, rfl⟩ := hnil rfl
  go_enter Tryz.func59, Tryz.ntmps59
  go_wp2
  go_ret
  exact ⟨_, rfl, Qa.refl _, World.ownsRow_nil _ _ _ _⟩
 | some a =>
  obtain ⟨i0, hi, hz0, hz1, hz2⟩ := info_parts Px
  have hlen := Wk (f := Zl f) (sz := 2) (fun _ => rfl) n
  have hone : ∀ u ∈ Zv (Zl f) n, u.oneCell' = true := Pj (f := Zl f) (n := n) (fun i u hu => by simp [Zl] at hu; rcases hu with rfl | rfl <;> simp [Value.oneCell'])
  have HN := fun v (h : Qo v (some a) n 2 (Zl f)) => G6 (f := Zl f) (sz := 2) (fun _ => rfl) (by decide) h
  go_enter Tryz.func59, Tryz.ntmps59
  go_wp2_with (at_builtin; refine wpList_append_own _ rfl _ _ 52 rfl w.heap.size 85 i0 (.agg #[.string ⟨#[]⟩, .int .i64 0]) 2 24 Tryz.underlying52 hi hz0 hz1 hz2 rfl (by decide) _ _ _ rfl (World.ownsRow_made w #[] 0 (Nat.le_refl _) (Nat.zero_le _) rfl) a n cap (Zv (Zl f) n) rfl hlen (HN _ (hT.ext ((Qa.refl _).alloc _)) a rfl) hone (by unfold maxLen; omega) (by omega) (by simp) ?_; intro v' w1 hown hgrow hnil2)
  go_ret
  refine ⟨v', rfl, ((Qa.refl w).alloc _).grown hgrow (fun q hq => by have h : some w.heap.size = some q := hq; cases h; exact Nat.le_refl _), by simpa using hown⟩
theorem Cf (A A' : Option Addr) (ca cb : Nat) (c : Qf) (v : Value) (l : List Pd) (w : World) (hC : Zg w A ca A' cb c) (hP : Yo w v l) :
  Calls Tryz.prog 107 #[.agg #[.slice A c.nk ca, .slice A' c.ny cb], v] w fun e w' => e = .returned (.int .i64 (c.persE l)) ∧ Qa w w' := by
 obtain ⟨D, cap, vo, vd, vc, rfl, hD, hcap, hmax, _, hat⟩ := hP
 have hn : l.length ≤ 9223372036854775807 := Nat.le_trans hcap (Nat.le_trans hmax (by decide))
 obtain ⟨R, hR0⟩ := Qg (c.persE l)
 rw [← hR0]
 have HR := Lib.hid hR0
 clear hR0
 obtain ⟨n, hnl⟩ := Qg (l.length)
 rw [← hnl] at hn hD hat hcap ⊢
 replace hnl := Lib.hid hnl
 obtain ⟨g, hg⟩ := Qg (fun i => l.getD i Q3)
 have hg' : ∀ i, l.getD i Q3 = g i := fun i => by rw [hg]
 simp only [hg'] at hD hat
 replace hg := Lib.hid hg
 clear hg'
 replace hat := Lib.hid hat
 go_enter Tryz.func107, Tryz.ntmps107
 go_upto_region 1 with (fail)
 obtain ⟨v, hv⟩ := Qg (w.alloc (.cells #[.slice A c.nk ca, .slice A' c.ny cb] 130))
 rw [← hv]
 have E : Qa w v := by rw [hv]; exact (Qa.refl _).alloc _
 have B1 : Qb v w.heap.size 130 #[.slice A c.nk ca, .slice A' c.ny cb] := by rw [hv]; exact (Qb.new _ _ _)
 clear hv
 obtain ⟨b1, hb1⟩ := Qg (w.heap.size)
 rw [← hb1] at B1 ⊢
 have hbr : w.heap.size ≤ b1 := by omega
 clear hb1
 have C := hC.ext E
 replace hD := hD.ext E
 replace hat := Lib.hid fun i hi => (hat.out i hi).ext E
 clear hC
 go_upto_region 2 with (fail)
 go_loopw [9] (fun i wr => ∃ k : Nat, k ≤ n ∧ i = .int .i64 k ∧ Hid (∀ j, j < k → c.perOk (g j) = true) ∧ Qa v wr) (fun i _ => n - (intOf i).toNat)
 case atStart => exact ⟨0, Nat.zero_le _, rfl, (fun j h => absurd h (by omega)), Qa.refl _⟩
 case round =>
  obtain ⟨k, hk, rfl, hall, hE⟩ := hrel
  obtain ⟨wo, rfl⟩ := Qg wr
  by_cases hlt : k < n
  ·obtain ⟨b, off, rfl, hb, hc⟩ := (hD.ext hE) (by omega)
   have hP := hat.out k hlt
   have c0 : wo.cell? ⟨b, off + k * 12, none⟩ = some (.string (g k).h) := by simpa [Z6] using hc k 0 _ hlt rfl
   have c1 : wo.cell? ⟨b, off + k * 12 + 1, none⟩ = some (.int .i64 (g k).a.y) := by simpa [Z6] using hc k 1 _ hlt rfl
   have c2 : wo.cell? ⟨b, off + k * 12 + 2, none⟩ = some (.int .i64 (g k).a.m) := by simpa [Z6] using hc k 2 _ hlt rfl
   have c3 : wo.cell? ⟨b, off + k * 12 + 3, none⟩ = some (.bool (g k).a.s) := by simpa [Z6] using hc k 3 _ hlt rfl
   have c4 : wo.cell? ⟨b, off + k * 12 + 4, none⟩ = some (.int .i64 (g k).a.d) := by simpa [Z6] using hc k 4 _ hlt rfl
   have c5 : wo.cell? ⟨b, off + k * 12 + 5, none⟩ = some (.int .i64 (g k).b.y) := by simpa [Z6] using hc k 5 _ hlt rfl
   have c6 : wo.cell? ⟨b, off + k * 12 + 6, none⟩ = some (.int .i64 (g k).b.m) := by simpa [Z6] using hc k 6 _ hlt rfl
   have c7 : wo.cell? ⟨b, off + k * 12 + 7, none⟩ = some (.bool (g k).b.s) := by simpa [Z6] using hc k 7 _ hlt rfl
   have c8 : wo.cell? ⟨b, off + k * 12 + 8, none⟩ = some (.int .i64 (g k).b.d) := by simpa [Z6] using hc k 8 _ hlt rfl
   have c9 : wo.cell? ⟨b, off + k * 12 + 9, none⟩ = some (vo k) := by simpa [Z6] using hc k 9 _ hlt rfl
   have c10 : wo.cell? ⟨b, off + k * 12 + 10, none⟩ = some (vd k) := by simpa [Z6] using hc k 10 _ hlt rfl
   have c11 : wo.cell? ⟨b, off + k * 12 + 11, none⟩ = some (vc k) := by simpa [Z6] using hc k 11 _ hlt rfl
   have NP := fun w h1 h2 => Qfb A A' ca cb c (g k) (vo k) (vd k) (vc k) w h1 h2
   have hno : Hid (c.perOk (g k) = false → R = 83) := fun h => by
    rw [HR.out]; unfold Qf.persE
    rw [if_neg (by rw [Bool.not_eq_true]; exact E9 (k := k) (by rw [← hnl.out]; exact hlt) (by rw [hg.out] at h; exact h))]
   have hyes : Hid (c.perOk (g k) = true → ∀ j, j < k + 1 → c.perOk (g j) = true) := fun h j hj => by
    by_cases e : j = k
    ·subst e; exact h
    ·exact hall.out j (by omega)
   obtain ⟨VO, VD, VC, hvo, hvd, hvc⟩ : ∃ x y z, x = vo k ∧ y = vd k ∧ z = vc k := ⟨_, _, _, rfl, rfl, rfl⟩
   rw [← hvo] at c9 NP hP
   rw [← hvd] at c10 NP hP
   rw [← hvc] at c11 NP hP
   clear hvo hvd hvc hc hall HR hat hg
   obtain ⟨t1, s1, e1, _⟩ := hP.o
   subst e1
   obtain ⟨t2, s2, _, e2, _⟩ := hP.d
   subst e2
   obtain ⟨t3, s3, e3, _⟩ := hP.c
   subst e3
   go_upto_region 4 with (fail)
   obtain ⟨v3, hv⟩ := Qg (wo.alloc (.cells #[.string (g k).h, .int .i64 (g k).a.y, .int .i64 (g k).a.m, .bool (g k).a.s, .int .i64 (g k).a.d, .int .i64 (g k).b.y, .int .i64 (g k).b.m, .bool (g k).b.s, .int .i64 (g k).b.d, .slice t1 (g k).o.length s1, .slice t2 (g k).d.length s2, .slice t3 (g k).c.length s3] 55))
   rw [← hv]
   have E3 : Qa wo v3 := by rw [hv]; exact (Qa.refl _).alloc _
   have H3 : Qb v3 wo.heap.size 55 #[.string (g k).h, .int .i64 (g k).a.y, .int .i64 (g k).a.m, .bool (g k).a.s, .int .i64 (g k).a.d, .int .i64 (g k).b.y, .int .i64 (g k).b.m, .bool (g k).b.s, .int .i64 (g k).b.d, .slice t1 (g k).o.length s1, .slice t2 (g k).d.length s2, .slice t3 (g k).c.length s3] := by rw [hv]; exact Qb.new _ _ _
   clear hv
   generalize wo.heap.size = b3 at *
   clear c0 c1 c2 c3 c4 c5 c6 c7 c8 c9 c10 c11
   replace NP := NP v3 (C.ext (hE.trans E3)) (hP.ext (hE.trans E3))
   replace hE := hE.trans E3
   have B1e := B1.ext hE
   obtain ⟨k0, k1⟩ := B1e.c2
   have lk := B1e.lt
   obtain ⟨p0, p1, p2, p3, p4, p5, p6, p7, p8, p9, p10, p11⟩ := H3.c12
   have lp := H3.lt
   clear E3 hP
   cases hq : c.perOk (g k)
   ·have hr := hno.out hq
    rw [hq] at NP
    clear hno hyes hq
    go_wp2_with (go_at_call 159; (with_reducible refine Calls.mono (NP) ?_); rintro e w2 ⟨rfl, h⟩)
    go_ret
    exact ⟨by rw [hr]; rfl, (E.trans hE).trans h⟩
   ·have hx := Lib.hid (hyes.out hq)
    rw [hq] at NP
    clear hno hyes hq
    go_wp2_with (go_at_call 159; (with_reducible refine Calls.mono (NP) ?_); rintro e w2 ⟨rfl, h⟩)
    exact ⟨⟨k + 1, by omega, by go_num, hx, hE.trans h⟩, by simp [intOf]; omega⟩
  ·obtain rfl : k = n := by omega
   have hr : R = 0 := by
    rw [HR.out]; unfold Qf.persE
    rw [if_pos (Ia fun j hj => by have := hall.out j (by rw [hnl.out]; exact hj); rw [hg.out] at this; exact this)]
   clear HR hall hat hg
   go_wp2
   go_ret
   exact ⟨by rw [hr]; rfl, E.trans hE⟩
theorem Ev (v1 v2 : Value) (a b : List Lt) (w : World) (h1 : Zt w v1 a) (h2 : Zt w v2 b) :
  Calls Tryz.prog 19 #[v1, v2] w fun e w' => ∃ F k m, e = .returned (.tuple #[.slice F k m, .int .i64 (Y4 1 a b)]) ∧ Qa w w' ∧ Zt w' (.slice F k m) (W4 1 a b) := by
 obtain ⟨T, cap, rfl, hT, hcap, hmax, _⟩ := h1
 obtain ⟨S, cm, rfl, hS, hcm, hmm, _⟩ := h2
 refine Calls.mono (Ew T a.length cap (Zm a) S b.length cm (Zm b) w hT hcap (Nat.le_trans hcap (Nat.le_trans hmax (by decide))) hS hcm (Nat.le_trans hcm (Nat.le_trans hmm (by decide)))) ?_
 rintro e w' ⟨F, k, c, rfl, hx, ho⟩
 exact ⟨F, k, c, rfl, hx, Fj ho⟩
theorem Qf4 (v1 v2 : Value) (a b : List Lt) (w : World) (h1 : Zt w v1 a) (h2 : Zt w v2 b) :
  Calls Tryz.prog 108 #[v1, v2] w fun e w' => ∃ F k m, e = .returned (.tuple #[.slice F k m, .int .i64 (Y4 (-1) a b)]) ∧ Qa w w' ∧ Zt w' (.slice F k m) (W4 (-1) a b) := by
 obtain ⟨T, cap, rfl, hT, hcap, hmax, _⟩ := h1
 obtain ⟨S, cm, rfl, hS, hcm, hmm, _⟩ := h2
 refine Calls.mono (Qf5 T a.length cap (Zm a) S b.length cm (Zm b) w hT hcap (Nat.le_trans hcap (Nat.le_trans hmax (by decide))) hS hcm (Nat.le_trans hcm (Nat.le_trans hmm (by decide)))) ?_
 rintro e w' ⟨F, k, c, rfl, hx, ho⟩
 exact ⟨F, k, c, rfl, hx, Fj ho⟩
theorem Qf6 (s : List Lt) {d : List Dl} {k : Nat} (hk : k < d.length) : J5 s (d.drop k) = if Y4 (Wa (d.getD k Zn).i) s (d.getD k Zn).l ≠ 0 then ([], Y4 (Wa (d.getD k Zn).i) s (d.getD k Zn).l) else J5 (W4 (Wa (d.getD k Zn).i) s (d.getD k Zn).l) (d.drop (k + 1)) := by
 have e : d.getD k Zn = d[k] := by simp [List.getD_eq_getElem?_getD, hk]
 rw [e]; exact Qf7 s d hk
theorem I1 (vo vd : Value) (o : List Lt) (d : List Dl) (w : World) (hO : Zt w vo o) (hD : Vl w vd d) (ho : o.length ≤ 1000000) :
  Calls Tryz.prog 61 #[vo, vd] w fun e w' => ∃ v', e = .returned (.tuple #[v', .int .i64 (J5 o d).2]) ∧ Qa w w' ∧ Zt w' v' (J5 o d).1 := by
 obtain ⟨D, cap, vs, rfl, hD, hcap, hmax, _, hat⟩ := hD
 have hn : d.length ≤ 9223372036854775807 := Nat.le_trans hcap (Nat.le_trans hmax (by decide))
 have NC := Qau vo o w hO ho
 obtain ⟨A0, cc0, rfl, _⟩ := id hO
 obtain ⟨R, hR⟩ := Qg (J5 o d)
 rw [← hR]
 replace hR := Lib.hid hR
 go_enter Tryz.func61, Tryz.ntmps61
 go_upto_region 2 with (go_at_call 59; (with_reducible refine Calls.mono (NC) ?_); rintro e w1 ⟨v0, rfl, h1, hown⟩)
 have hS0 := Fj hown
 obtain ⟨F0, m0, rfl⟩ := Wq hown
 clear NC hown hO
 go_upto_region 3 with (fail)
 obtain ⟨n, hnl⟩ := Qg (d.length)
 rw [← hnl] at hn hD hat hcap ⊢
 replace hnl := Lib.hid hnl
 obtain ⟨g, hg⟩ := Qg (fun i => d.getD i Zn)
 have hg' : ∀ i, d.getD i Zn = g i := fun i => by rw [hg]
 have hdr : Hid (∀ s k, k < n → J5 s (d.drop k) = if Y4 (Wa (g k).i) s (g k).l ≠ 0 then ([], Y4 (Wa (g k).i) s (g k).l) else J5 (W4 (Wa (g k).i) s (g k).l) (d.drop (k + 1))) := fun s k hk => by
  rw [Qf6 s (by rw [← hnl.out]; exact hk), hg']
 simp only [hg'] at hD hat
 clear hg hg'
 replace hat := Lib.hid hat
 have hD1 := hD.ext h1
 go_loopw [6, 16] (fun sv iv wr => ∃ (k : Nat) (s : List Lt), k ≤ n ∧ iv = .int .i64 k ∧ Zt wr sv s ∧ Hid (R = J5 s (d.drop k)) ∧ Qa w wr) (fun _ i _ => n - (intOf i).toNat)
 case atStart => exact ⟨0, o, Nat.zero_le _, rfl, hS0, by unfold Hid; rw [hR.out]; rfl, h1⟩
 case round =>
  clear hS0
  obtain ⟨k, s, hk, rfl, hS, hrun, hE⟩ := hrel
  obtain ⟨wo, rfl⟩ := Qg wr
  by_cases hlt : k < n
  ·obtain ⟨b, off, rfl, hb, hc⟩ := (hD.ext hE) (by omega)
   have hL := (hat.out k hlt).ext hE
   have c0 : wo.cell? ⟨b, off + k * 7, none⟩ = some (.int .i64 (g k).on.y) := by simpa [Zx] using hc k 0 _ hlt rfl
   have c1 : wo.cell? ⟨b, off + k * 7 + 1, none⟩ = some (.int .i64 (g k).on.m) := by simpa [Zx] using hc k 1 _ hlt rfl
   have c2 : wo.cell? ⟨b, off + k * 7 + 2, none⟩ = some (.bool (g k).on.s) := by simpa [Zx] using hc k 2 _ hlt rfl
   have c3 : wo.cell? ⟨b, off + k * 7 + 3, none⟩ = some (.int .i64 (g k).on.d) := by simpa [Zx] using hc k 3 _ hlt rfl
   have c4 : wo.cell? ⟨b, off + k * 7 + 4, none⟩ = some (.bool (g k).i) := by simpa [Zx] using hc k 4 _ hlt rfl
   have c5 : wo.cell? ⟨b, off + k * 7 + 5, none⟩ = some (.string (g k).w) := by simpa [Zx] using hc k 5 _ hlt rfl
   have c6 : wo.cell? ⟨b, off + k * 7 + 6, none⟩ = some (vs k) := by simpa [Zx] using hc k 6 _ hlt rfl
   have HS := Lib.hid (hdr.out s k hlt)
   obtain ⟨VL, hvl⟩ := Qg (vs k)
   rw [← hvl] at c6 hL
   clear hvl hc hdr hat hR hD hD1
   obtain ⟨TL, cl, hVL, _⟩ := id hL
   subst hVL
   obtain ⟨AS, cs, hsv, _⟩ := id hS
   subst hsv
   obtain ⟨SD, hSD⟩ := Qg (J5 s (d.drop k))
   rw [← hSD] at HS hrun
   clear hSD
   go_upto_region 5 with (fail)
   obtain ⟨v3, hv⟩ := Qg (wo.alloc (.cells #[.int .i64 (g k).on.y, .int .i64 (g k).on.m, .bool (g k).on.s, .int .i64 (g k).on.d, .bool (g k).i, .string (g k).w, .slice TL (g k).l.length cl] 57))
   rw [← hv]
   have E3 : Qa wo v3 := by rw [hv]; exact (Qa.refl _).alloc _
   have H3 : Qb v3 wo.heap.size 57 #[.int .i64 (g k).on.y, .int .i64 (g k).on.m, .bool (g k).on.s, .int .i64 (g k).on.d, .bool (g k).i, .string (g k).w, .slice TL (g k).l.length cl] := by rw [hv]; exact Qb.new _ _ _
   clear hv
   generalize wo.heap.size = b3 at *
   clear c0 c1 c2 c3 c4 c5 c6
   replace hL := hL.ext E3
   replace hS := hS.ext E3
   replace hE := hE.trans E3
   clear E3
   have NA := fun h1 h2 => Ev (.slice AS s.length cs) (.slice TL (g k).l.length cl) s (g k).l v3 h1 h2
   have NB := fun h1 h2 => Qf4 (.slice AS s.length cs) (.slice TL (g k).l.length cl) s (g k).l v3 h1 h2
   obtain ⟨q0, q1, q2, q3, q4, q5, q6⟩ := Fb H3
   have lq := H3.lt
   cases hi : (g k).i
   ·have NX := NB hS hL
    rw [hi] at HS
    have HS2 : Hid (SD = if Y4 (-1) s (g k).l ≠ 0 then ([], Y4 (-1) s (g k).l) else J5 (W4 (-1) s (g k).l) (d.drop (k + 1))) := HS
    rw [hi] at q4
    clear HS hi
    generalize hce : Y4 (-1) s (g k).l = E1 at *
    generalize W4 (-1) s (g k).l = L1 at *
    by_cases e0 : E1 = 0
    ·subst e0
     have HS3 := Lib.hid (HS2.out.trans (if_neg (by simp)))
     clear HS2 hce
     go_wp2_with (first | (go_at_call 108; (with_reducible refine Calls.mono (NX) ?_); rintro e w6 ⟨F6, k6, m6, rfl, h6, L6⟩) | (go_at_fn 108; (with_reducible refine Calls.mono (NX) ?_); rintro e w6 ⟨F6, k6, m6, rfl, h6, L6⟩))
     exact ⟨⟨k + 1, L1, by omega, by go_num, L6, Lib.hid (hrun.out.trans HS3.out), hE.trans h6⟩, by simp [intOf]; omega⟩
    ·have g0 : (E1 == 0) = false := beq_eq_false_iff_ne.2 e0
     have g0n : (E1 != 0) = true := by rw [bne, g0]; rfl
     have HS3 := Lib.hid (hrun.out.trans (HS2.out.trans (if_pos e0)))
     clear HS2 hrun hce e0
     go_wp2_with (first | (go_at_call 108; (with_reducible refine Calls.mono (NX) ?_); rintro e w6 ⟨F6, k6, m6, rfl, h6, L6⟩) | (go_at_fn 108; (with_reducible refine Calls.mono (NX) ?_); rintro e w6 ⟨F6, k6, m6, rfl, h6, L6⟩))
     go_ret2
     exact ⟨_, by rw [HS3.out]; rfl, hE.trans h6, by rw [HS3.out]; exact Ly _⟩
   ·have NX := NA hS hL
    rw [hi] at HS
    have HS2 : Hid (SD = if Y4 1 s (g k).l ≠ 0 then ([], Y4 1 s (g k).l) else J5 (W4 1 s (g k).l) (d.drop (k + 1))) := HS
    rw [hi] at q4
    clear HS hi
    generalize hce : Y4 1 s (g k).l = E1 at *
    generalize W4 1 s (g k).l = L1 at *
    by_cases e0 : E1 = 0
    ·subst e0
     have HS3 := Lib.hid (HS2.out.trans (if_neg (by simp)))
     clear HS2 hce
     go_wp2_with (first | (go_at_call 19; (with_reducible refine Calls.mono (NX) ?_); rintro e w6 ⟨F6, k6, m6, rfl, h6, L6⟩) | (go_at_fn 19; (with_reducible refine Calls.mono (NX) ?_); rintro e w6 ⟨F6, k6, m6, rfl, h6, L6⟩))
     exact ⟨⟨k + 1, L1, by omega, by go_num, L6, Lib.hid (hrun.out.trans HS3.out), hE.trans h6⟩, by simp [intOf]; omega⟩
    ·have g0 : (E1 == 0) = false := beq_eq_false_iff_ne.2 e0
     have g0n : (E1 != 0) = true := by rw [bne, g0]; rfl
     have HS3 := Lib.hid (hrun.out.trans (HS2.out.trans (if_pos e0)))
     clear HS2 hrun hce e0
     go_wp2_with (first | (go_at_call 19; (with_reducible refine Calls.mono (NX) ?_); rintro e w6 ⟨F6, k6, m6, rfl, h6, L6⟩) | (go_at_fn 19; (with_reducible refine Calls.mono (NX) ?_); rintro e w6 ⟨F6, k6, m6, rfl, h6, L6⟩))
     go_ret2
     exact ⟨_, by rw [HS3.out]; rfl, hE.trans h6, by rw [HS3.out]; exact Ly _⟩
  ·obtain rfl : k = n := by omega
   have hr : Hid (R = (s, 0)) := by
    unfold Hid
    rw [hrun.out, hnl.out, List.drop_length]; rfl
   clear hrun hdr hat hR
   go_wp2
   go_ret2
   exact ⟨_, by rw [hr.out]; rfl, hE, by rw [hr.out]; exact hS⟩
theorem Qgo (A A' : Option Addr) (ca cb : Nat) (c : Qf) (v : Value) (l : List Pd) (w : World) (hC : Zg w A ca A' cb c) (hP : Yo w v l) :
  Calls Tryz.prog 73 #[.agg #[.slice A c.nk ca, .slice A' c.ny cb], v] w fun e w' => e = .returned (.tuple #[.agg #[.slice A c.nk ca, .slice A' c.ny cb], .int .i64 (c.validE l)]) ∧ Qa w w' := by
 have NO := fun w h => L9 A A' ca cb c w h
 obtain ⟨D, cap, _, _, _, hv9, _⟩ := id hP
 subst hv9
 have NP := fun w h1 h2 => Cf A A' ca cb c (.slice D l.length cap) l w h1 h2
 obtain ⟨R, hR0⟩ := Qg (c.validE l)
 rw [← hR0]
 have HR := Lib.hid hR0
 clear hR0
 go_enter Tryz.func73, Tryz.ntmps73
 go_upto_region 1 with (fail)
 obtain ⟨v, hv⟩ := Qg ((w.alloc (.cells #[.slice A c.nk ca, .slice A' c.ny cb] 25)).alloc (.cells #[.slice none 0 0, .slice none 0 0] 130))
 rw [← hv]
 have E : Qa w v := by rw [hv]; exact ((Qa.refl _).alloc _).alloc _
 have B1 : Qb v w.heap.size 25 #[.slice A c.nk ca, .slice A' c.ny cb] := by rw [hv]; exact (Qb.new _ _ _).alloc _
 have B2 : Qb v (w.heap.size + 1) 130 #[.slice none 0 0, .slice none 0 0] := by rw [hv]; exact Qb.at _ _ _ _ (by simp)
 clear hv
 obtain ⟨b2, hb2⟩ := Qg (w.heap.size + 1)
 rw [← hb2] at B2 ⊢
 obtain ⟨b1, hb1⟩ := Qg (w.heap.size)
 rw [← hb1] at B1 ⊢
 have hbr : w.heap.size ≤ b2 := by omega
 have hbr1 : w.heap.size ≤ b1 := by omega
 have hn21 : b2 ≠ b1 := by omega
 clear hb1 hb2
 obtain ⟨k0, k1⟩ := B1.c2
 have lk := B1.lt
 obtain ⟨ck, hck⟩ := Qg (c.chk)
 simp only [← hck] at NO
 replace hck := Lib.hid hck
 go_upto_region 2 with (go_at_call 64; (with_reducible refine Calls.mono (NO _ (hC.ext E)) ?_); rintro e w1 ⟨rfl, h1⟩)
 obtain ⟨v3, hv⟩ := Qg (w1.alloc (.cells #[.slice A c.nk ca, .slice A' c.ny cb] 130))
 rw [← hv]
 have h3 : Qa w1 v3 := by rw [hv]; exact (Qa.refl _).alloc _
 have H3 : Qb v3 w1.heap.size 130 #[.slice A c.nk ca, .slice A' c.ny cb] := by rw [hv]; exact Qb.new _ _ _
 clear hv
 generalize w1.heap.size = b9 at *
 replace E := (E.trans h1).trans h3
 replace B2 := (B2.ext h1).ext h3
 have C := hC.ext E
 have P := hP.ext E
 clear hC hP k0 k1 lk B1 NO h1 h3
 by_cases e0 : ck = 0
 rotate_left
 ·have g0 : (ck == 0) = false := beq_eq_false_iff_ne.2 e0
  have g0n : (ck != 0) = true := by rw [bne, g0]; rfl
  have hr : R = ck := by rw [HR.out, hck.out]; unfold Qf.validE; rw [if_pos (by rw [← hck.out]; exact e0)]
  clear HR e0 hck NP
  obtain ⟨k0, k1⟩ := H3.c2
  have lk := H3.lt
  have f0 := B2.frozen 0
  have f1 := B2.frozen 1
  obtain ⟨x0, x1⟩ := B2.c2
  have lx := B2.lt
  have H4 := Qn B2 (.slice A c.nk ca) (.slice A' c.ny cb)
  have EF := (E.setCell (p := ⟨b2, 0, none⟩) hbr (.slice A c.nk ca)).setCell (p := ⟨b2, 1, none⟩) hbr (.slice A' c.ny cb)
  obtain ⟨y0, y1⟩ := H4.c2
  go_wp2
  refine bodyPost_ret (v := .tuple #[.agg #[.slice A c.nk ca, .slice A' c.ny cb], .int .i64 ck]) (by simp [results, Tryz.results73, go_sem, y0, y1]) rfl ⟨by rw [hr], EF⟩
 ·subst e0
  have hr : Hid (R = c.persE l) := by unfold Hid; rw [HR.out]; unfold Qf.validE; rw [if_neg (by rw [← hck.out]; simp)]
  clear HR hck
  go_upto_region 4 with (fail)
  refine Q1 6 [4, 5] (fun x => Qa v3 x) Qq rfl ?_
  intro vz hvz
  have HC := hvz
  refine Qr (g := 3) [0, 1, 2] [_, _, _] ⟨rfl, rfl, rfl, trivial⟩ (by kernel_rfl) (by kernel_rfl) HC ?_
  simp only [Qc, Qd, Qe]
  apply Exists.intro
  refine ⟨fun u hu => ?_, ?_⟩
  ·obtain ⟨k0, k1⟩ := (H3.ext hu).c2
   have lk := (H3.ext hu).lt
   repeat (first | go_big_quiet_skip | (go_big_quiet_want; go_big_quiet_op; go_big_quiet_on))
   refine wpQuiet_nil ?_
   rfl
  refine Qk 3 rfl (by kernel_rfl) ?_
  simp only [Qc, Qd, Qe]
  go_wp2_with (go_at_call 107; (with_reducible refine Calls.mono (NP _ (C.ext HC) (P.ext HC)) ?_); rintro e va ⟨rfl, h4⟩)
  replace HC := HC.trans h4
  clear h4
  refine Qh HC ?_
  refine Qm 4 rfl (by kernel_rfl) ?_
  simp only [Qc, Qd, Qe]
  replace B2 := B2.ext HC
  replace E := E.trans HC
  have f0 := B2.frozen 0
  have f1 := B2.frozen 1
  obtain ⟨x0, x1⟩ := B2.c2
  have lx := B2.lt
  have H4 := Qn B2 (.slice A c.nk ca) (.slice A' c.ny cb)
  have EF := (E.setCell (p := ⟨b2, 0, none⟩) hbr (.slice A c.nk ca)).setCell (p := ⟨b2, 1, none⟩) hbr (.slice A' c.ny cb)
  obtain ⟨y0, y1⟩ := H4.c2
  go_wp2
  refine Ql ?_
  refine Qm 5 rfl (by kernel_rfl) ?_
  simp only [Qc, Qd, Qe]
  go_wp2
  refine Ql ?_
  refine Qs (by kernel_rfl) ?_
  go_wp2
  refine bodyPost_ret (v := .tuple #[.agg #[.slice A c.nk ca, .slice A' c.ny cb], .int .i64 (c.persE l)]) (by simp [results, Tryz.results73, go_sem, y0, y1]) rfl ⟨by rw [hr.out], EF⟩
theorem Qav (A A' : Option Addr) (ca cb : Nat) (c : Qf) (p : Pd) (vo vd vc : Value) (w : World) (hC : Zg w A ca A' cb c) (hP : Uk w p vo vd vc) :
  Calls Tryz.prog 43 #[.agg #[.slice A c.nk ca, .slice A' c.ny cb], .agg #[.string p.h, .int .i64 p.a.y, .int .i64 p.a.m, .bool p.a.s, .int .i64 p.a.d, .int .i64 p.b.y, .int .i64 p.b.m, .bool p.b.s, .int .i64 p.b.d, vo, vd, vc]] w fun e w' => ∃ v', e = .returned (.tuple #[v', .int .i64 (c.closeV p).2]) ∧ Qa w w' ∧ Zt w' v' (c.closeV p).1 := by
 obtain ⟨t1, s1, e1, _⟩ := id hP.o
 subst e1
 obtain ⟨t2, s2, _, e2, _⟩ := id hP.d
 subst e2
 obtain ⟨t3, s3, e3, _⟩ := id hP.c
 subst e3
 have NV := fun w h1 v h2 => Qgo A A' ca cb c v [p] w h1 h2
 simp only [Qgn] at NV
 obtain ⟨R, hR0⟩ := Qg (c.closeV p)
 rw [← hR0]
 have HR := Lib.hid hR0
 clear hR0
 go_enter Tryz.func43, Tryz.ntmps43
 go_upto_region 1 with (fail)
 obtain ⟨v, hv⟩ := Qg ((w.alloc (.cells #[.slice A c.nk ca, .slice A' c.ny cb] 25)).alloc (.cells #[.string p.h, .int .i64 p.a.y, .int .i64 p.a.m, .bool p.a.s, .int .i64 p.a.d, .int .i64 p.b.y, .int .i64 p.b.m, .bool p.b.s, .int .i64 p.b.d, .slice t1 p.o.length s1, .slice t2 p.d.length s2, .slice t3 p.c.length s3] 55))
 rw [← hv]
 have E : Qa w v := by rw [hv]; exact ((Qa.refl _).alloc _).alloc _
 have B1 : Qb v w.heap.size 25 #[.slice A c.nk ca, .slice A' c.ny cb] := by rw [hv]; exact (Qb.new _ _ _).alloc _
 have B2 : Qb v (w.heap.size + 1) 55 #[.string p.h, .int .i64 p.a.y, .int .i64 p.a.m, .bool p.a.s, .int .i64 p.a.d, .int .i64 p.b.y, .int .i64 p.b.m, .bool p.b.s, .int .i64 p.b.d, .slice t1 p.o.length s1, .slice t2 p.d.length s2, .slice t3 p.c.length s3] := by rw [hv]; exact Qb.at _ _ _ _ (by simp)
 clear hv
 obtain ⟨b2, hb2⟩ := Qg (w.heap.size + 1)
 rw [← hb2] at B2 ⊢
 obtain ⟨b1, hb1⟩ := Qg (w.heap.size)
 rw [← hb1] at B1 ⊢
 have hbr : w.heap.size ≤ b2 := by omega
 have hbr1 : w.heap.size ≤ b1 := by omega
 have hn21 : b2 ≠ b1 := by omega
 clear hb1 hb2
 have C := hC.ext E
 have P := hP.ext E
 clear hC hP
 obtain ⟨k0, k1⟩ := B1.c2
 have lk := B1.lt
 obtain ⟨p0, p1, p2, p3, p4, p5, p6, p7, p8, p9, p10, p11⟩ := B2.c12
 have lp := B2.lt
 obtain ⟨pe, hpe⟩ := Qg (c.perE p)
 simp only [← hpe] at NV
 replace hpe := Lib.hid hpe
 have AL := (Qa.refl v).alloc (.cells #[.string p.h, .int .i64 p.a.y, .int .i64 p.a.m, .bool p.a.s, .int .i64 p.a.d, .int .i64 p.b.y, .int .i64 p.b.m, .bool p.b.s, .int .i64 p.b.d, .slice t1 p.o.length s1, .slice t2 p.d.length s2, .slice t3 p.c.length s3] 55)
 have NV1 := NV _ (C.ext AL) (.slice (some ⟨v.heap.size, 0, none⟩) 1 1) (Qfd (t := 55) (Qb.new v 55 #[.string p.h, .int .i64 p.a.y, .int .i64 p.a.m, .bool p.a.s, .int .i64 p.a.d, .int .i64 p.b.y, .int .i64 p.b.m, .bool p.b.s, .int .i64 p.b.d, .slice t1 p.o.length s1, .slice t2 p.d.length s2, .slice t3 p.c.length s3]) (P.ext AL))
 go_upto_region 2 with (go_at_call 73; (with_reducible refine Calls.mono (NV1) ?_); rintro e w1 ⟨rfl, h1⟩)
 replace h1 := AL.trans h1
 clear NV NV1 AL
 obtain ⟨v3, hv⟩ := Qg (w1.alloc (.cells #[.slice A c.nk ca, .slice A' c.ny cb] 130))
 rw [← hv]
 have h3 : Qa w1 v3 := by rw [hv]; exact (Qa.refl _).alloc _
 have H3 : Qb v3 w1.heap.size 130 #[.slice A c.nk ca, .slice A' c.ny cb] := by rw [hv]; exact Qb.new _ _ _
 clear hv
 generalize w1.heap.size = b9 at *
 replace h1 := h1.trans h3
 replace E := E.trans h1
 replace C := C.ext h1
 replace P := P.ext h1
 replace B2 := B2.ext h1
 clear h1 h3 H3 B1 k0 k1 lk p0 p1 p2 p3 p4 p5 p6 p7 p8 p9 p10 p11 lp
 by_cases e0 : pe = 0
 rotate_left
 ·have g0 : (pe == 0) = false := beq_eq_false_iff_ne.2 e0
  have g0n : (pe != 0) = true := by rw [bne, g0]; rfl
  have hr : Hid (R = ([], pe)) := by unfold Hid; rw [HR.out, hpe.out]; unfold Qf.closeV; rw [if_pos (by rw [← hpe.out]; exact e0)]
  clear HR e0 hpe
  go_wp2
  go_ret2
  exact ⟨_, by rw [hr.out]; rfl, E, by rw [hr.out]; exact Ly _⟩
 ·subst e0
  have hr : Hid (R = J5 p.o p.d) := by unfold Hid; rw [HR.out]; unfold Qf.closeV; rw [if_neg (by rw [← hpe.out]; simp)]
  have NB := I1 _ _ p.o p.d v3 P.o P.d (by have := Qfa hpe.out.symm; omega)
  clear HR hpe
  rw [← hr.out] at NB
  clear hr
  obtain ⟨p0, p1, p2, p3, p4, p5, p6, p7, p8, p9, p10, p11⟩ := B2.c12
  have lp := B2.lt
  go_wp2_with (go_at_call 61; (with_reducible refine Calls.mono (NB) ?_); rintro e w5 ⟨v5, rfl, h5, L5⟩)
  go_ret2
  exact ⟨v5, rfl, E.trans h5, L5⟩
end
section
instance : DecidableEq Lt := fun a b => if h : a.g = b.g ∧ a.n = b.n then .isTrue (by cases a; cases b; simp_all) else .isFalse (fun e => h ⟨by rw [e], by rw [e]⟩)
def Qf.behV (c : Qf) (x y : Pd) : Bool := decide (x.h = y.h) && decide (c.numV y.a = c.numV x.b + 1)
def P9 (x y : Pd) : Pd := ⟨x.h, x.a, y.b, x.o, x.d ++ y.d, y.c⟩
def Qf.archE (c : Qf) (l : List Pd) : Int := if c.chk ≠ 0 then c.chk else if 32 < l.length then 3 else c.persE l
def sorted (l : List Lt) : Prop := l.Pairwise fun x y => Yd x.g y.g = true
theorem K6 {x y : ByteArray} (h : x.toList = y.toList) : x = y := by
 have hx := Go.Lib.toList_data x
 have hy := Go.Lib.toList_data y
 rw [hx, hy] at h
 cases x; cases y
 simp only [ByteArray.mk.injEq]
 exact Array.ext' h
end
section
open Go Go.RowKit Go.Shelf
attribute [local go_sem] Zq
def Rt.neg (r : Rt) : Rt := ⟨-r.n, r.d⟩
section
variable {W : World} {b : Nat} {t : TypeId} {v0 v1 v2 : Value}
end
end
section
open Go Go.RowKit
attribute [local go_sem] Zq
def Qv (y : Yr) (k : Nat) : Int := y.lens (y.mos.take k)
end
section
open Go Go.RowKit Go.Shelf
attribute [local go_sem] Zq Dt.val
end
section
open Go Go.RowKit
attribute [local go_sem] Zq
end
section
open Go Go.RowKit Go.Shelf
attribute [local go_sem] Zq
end
section
open Go Go.RowKit
theorem Qbn (w : World) (x0 y0 : ByteArray) (x1 y1 : Int) : (Op.equalIn 10000 85 (.agg #[.string x0, .int .i64 x1]) (.agg #[.string y0, .int .i64 y1])).run Tryz.prog w = .ok ((x0.toList == y0.toList) && (x1 == y1)) w := by
 go_simp
 by_cases h0 : x0.toList = y0.toList
 rotate_left
 ·simp [h0]
 by_cases h1 : x1 = y1
 rotate_left
 ·simp [h1]
 simp [h0, h1]
theorem Fw (w : World) (x0 y0 : ByteArray) (x1 y1 : Int) : (binOp .neq 85 (.agg #[.string x0, .int .i64 x1]) (.agg #[.string y0, .int .i64 y1])).run Tryz.prog w = .ok (.bool (!((x0.toList == y0.toList) && (x1 == y1)))) w := by rw [run_neq_struct, Qbn]; rfl
theorem Qbp (w : World) (x0 y0 : Int) (x1 y1 : Int) : (Op.equalIn 10000 65 (.agg #[.int .i64 x0, .int .i64 x1]) (.agg #[.int .i64 y0, .int .i64 y1])).run Tryz.prog w = .ok ((x0 == y0) && (x1 == y1)) w := by
 go_simp
 by_cases h0 : x0 = y0
 rotate_left
 ·simp [h0]
 by_cases h1 : x1 = y1
 rotate_left
 ·simp [h1]
 simp [h0, h1]
theorem Qej (w : World) (x0 y0 : Int) (x1 y1 : Int) : (binOp .neq 65 (.agg #[.int .i64 x0, .int .i64 x1]) (.agg #[.int .i64 y0, .int .i64 y1])).run Tryz.prog w = .ok (.bool (!((x0 == y0) && (x1 == y1)))) w := by rw [run_neq_struct, Qbp]; rfl
theorem Qbl (w : World) (x0 y0 : Int) (x1 y1 : Int) (x2 y2 : Int) (x3 y3 : Int) (x4 y4 : Int) (x5 y5 : Int) : (Op.equalIn 10000 72 (.agg #[.int .i64 x0, .int .i64 x1, .int .i64 x2, .int .i64 x3, .int .i64 x4, .int .i64 x5]) (.agg #[.int .i64 y0, .int .i64 y1, .int .i64 y2, .int .i64 y3, .int .i64 y4, .int .i64 y5])).run Tryz.prog w = .ok ((x0 == y0) && ((x1 == y1) && ((x2 == y2) && ((x3 == y3) && ((x4 == y4) && (x5 == y5)))))) w := by
 go_simp
 by_cases h0 : x0 = y0
 rotate_left
 ·simp [h0]
 by_cases h1 : x1 = y1
 rotate_left
 ·simp [h1]
 by_cases h2 : x2 = y2
 rotate_left
 ·simp [h2]
 by_cases h3 : x3 = y3
 rotate_left
 ·simp [h3]
 by_cases h4 : x4 = y4
 rotate_left
 ·simp [h4]
 by_cases h5 : x5 = y5
 rotate_left
 ·simp [h5]
 simp [h0, h1, h2, h3, h4, h5]
theorem Qeh (w : World) (x0 y0 : Int) (x1 y1 : Int) (x2 y2 : Int) (x3 y3 : Int) (x4 y4 : Int) (x5 y5 : Int) : (binOp .neq 72 (.agg #[.int .i64 x0, .int .i64 x1, .int .i64 x2, .int .i64 x3, .int .i64 x4, .int .i64 x5]) (.agg #[.int .i64 y0, .int .i64 y1, .int .i64 y2, .int .i64 y3, .int .i64 y4, .int .i64 y5])).run Tryz.prog w = .ok (.bool (!((x0 == y0) && ((x1 == y1) && ((x2 == y2) && ((x3 == y3) && ((x4 == y4) && (x5 == y5)))))))) w := by rw [run_neq_struct, Qbl]; rfl
theorem Qbm (w : World) (x0 y0 : Int) (x1 y1 : Int) (x2 y2 : Int) : (Op.equalIn 10000 116 (.agg #[.int .i64 x0, .int .i64 x1, .int .i64 x2]) (.agg #[.int .i64 y0, .int .i64 y1, .int .i64 y2])).run Tryz.prog w = .ok ((x0 == y0) && ((x1 == y1) && (x2 == y2))) w := by
 go_simp
 by_cases h0 : x0 = y0
 rotate_left
 ·simp [h0]
 by_cases h1 : x1 = y1
 rotate_left
 ·simp [h1]
 by_cases h2 : x2 = y2
 rotate_left
 ·simp [h2]
 simp [h0, h1, h2]
theorem Qei (w : World) (x0 y0 : Int) (x1 y1 : Int) (x2 y2 : Int) : (binOp .neq 116 (.agg #[.int .i64 x0, .int .i64 x1, .int .i64 x2]) (.agg #[.int .i64 y0, .int .i64 y1, .int .i64 y2])).run Tryz.prog w = .ok (.bool (!((x0 == y0) && ((x1 == y1) && (x2 == y2))))) w := by rw [run_neq_struct, Qbm]; rfl
end
section
open Go Go.RowKit Go.Shelf
attribute [local go_sem] Zq
attribute [local go_sem high] Fw
end
section
open Go Go.RowKit Go.Shelf
attribute [local go_sem] Zq
theorem Qt {W : World} {b : Nat} {t : TypeId} {v0 v1 v2 v3 v4 v5 v6 : Value} (h : Qb W b t #[v0, v1, v2, v3, v4, v5, v6]) : W.cell? ⟨b, 0, none⟩ = some v0 ∧ W.cell? ⟨b, 1, none⟩ = some v1 ∧ W.cell? ⟨b, 2, none⟩ = some v2 ∧ W.cell? ⟨b, 3, none⟩ = some v3 ∧ W.cell? ⟨b, 4, none⟩ = some v4 ∧ W.cell? ⟨b, 5, none⟩ = some v5 ∧ W.cell? ⟨b, 6, none⟩ = some v6 := ⟨h.cell 0, h.cell 1, h.cell 2, h.cell 3, h.cell 4, h.cell 5, h.cell 6⟩
theorem Nx {W : World} {b b' s1 s2 k1 k2 : Nat} {e1 e2 : TypeId} {v1 v2 : Value} {x1 x2 : List Value} (h1 : W.ownsRow b e1 s1 v1 k1 x1) (h2 : W.ownsRow b' e2 s2 v2 k2 x2) (hne : e1 ≠ e2) : v1.ownBlock = none ∨ v1.ownBlock ≠ v2.ownBlock := by
 cases hb : v1.ownBlock with
 | none => exact .inl rfl
 | some r =>
  refine .inr fun e => ?_
  obtain ⟨_, c1, g1⟩ := V4 h1 r hb
  obtain ⟨_, c2, g2⟩ := V4 h2 r e.symm
  rw [g1] at g2
  simp at g2
  exact hne g2.2
def Hi (W : World) (b : Nat) (v : Value) (l : List Lt) : Prop := W.ownsRow b 85 2 v l.length (l.flatMap J3)
/-- Deals in an own row, each with lots in an own row. -/
def Wx (W : World) (b : Nat) (v : Value) (n : Nat) (g : Nat → Dl) : Prop := ∃ vs : Nat → Value, W.ownsRow b 57 7 v n (Zv (fun i => Zx (g i) (vs i)) n) ∧ ∀ i, i < n → Hi W b (vs i) (g i).l
theorem Wx.ext {W W' : World} {b n : Nat} {v : Value} {g : Nat → Dl} (h : Wx W b v n g) (x : Qa W W') : Wx W' b v n g := by
 obtain ⟨vs, h1, h2⟩ := h
 exact ⟨vs, Yn h1 x, fun i hi => Yn (h2 i hi) x⟩
theorem Wx.le {W : World} {b b' n : Nat} {v : Value} {g : Nat → Dl} (h : Wx W b v n g) (hb : b' ≤ b) : Wx W b' v n g := by
 obtain ⟨vs, h1, h2⟩ := h
 exact ⟨vs, h1.mono hb, fun i hi => World.ownsRow.mono (h2 i hi) hb⟩
structure Xn (W : World) (b : Nat) (p : Pd) (vo vd vc : Value) : Prop where
 o : Hi W b vo p.o
 d : Wx W b vd p.d.length (fun i => p.d.getD i Zn)
 c : Hi W b vc p.c
theorem Xn.ext {W W' : World} {b : Nat} {p : Pd} {vo vd vc : Value} (h : Xn W b p vo vd vc) (x : Qa W W') : Xn W' b p vo vd vc := ⟨Yn h.o x, h.d.ext x, Yn h.c x⟩
theorem Xn.le {W : World} {b b' : Nat} {p : Pd} {vo vd vc : Value} (h : Xn W b p vo vd vc) (hb : b' ≤ b) : Xn W b' p vo vd vc := ⟨Rb h.o hb, h.d.le hb, Rb h.c hb⟩
theorem Wx.set {W : World} {bb : Nat} {t : TypeId} {cs : Array Value} (hB : Qb W bb t cs) (h1 : t ≠ 85) (h2 : t ≠ 57) {b n : Nat} {v : Value} {g : Nat → Dl} (h : Wx W b v n g) (j : Nat) (u : Value) : Wx (W.setCell ⟨bb, j, none⟩ u) b v n g := by
 obtain ⟨vs, g1, g2⟩ := h
 exact ⟨vs, Nz hB h2 g1 j u, fun i hi => Nz hB h1 (g2 i hi) j u⟩
end
section
open Go Go.RowKit Go.Shelf
attribute [local go_sem] Zq
attribute [local go_sem high] Fw
theorem Qdg {l1 l2 : List Lt} {k : Nat} (h : Zm l1 k ≠ Zm l2 k) : l1 ≠ l2 := fun e => h (by rw [e])
theorem Qde {l1 l2 : List Lt} (hl : l1.length = l2.length) (h : ∀ k, k < l1.length → Zm l1 k = Zm l2 k) : l1 = l2 := by
 refine List.ext_getElem hl fun i h1 h2 => ?_
 have := h i h1
 rwa [L8 h1, L8 h2] at this
theorem lt_ext {x y : Lt} (h1 : x.g = y.g) (h2 : x.n = y.n) : x = y := by cases x; cases y; simp_all
theorem Bg {c : Qf} (hv : c.valid = true) (d : Dt) : 0 ≤ c.numV d ∧ c.numV d ≤ 1000000000 := by
 refine ⟨Qep hv, ?_⟩
 by_cases h : c.numV d = 0
 ·omega
 ·obtain ⟨h1, h2, _⟩ := Kv hv h
  have h3 := (num_le h1).2
  have h4 := (Mz c c.ny).2
  have h5 := Bh hv
  omega
theorem Qbt (v1 v2 : Value) (l1 l2 : List Lt) (w : World) (h1 : Zt w v1 l1) (h2 : Zt w v2 l2) :
  Calls Tryz.prog 74 #[v1, v2] w fun e w' => e = .returned (.bool (decide (l1 = l2))) ∧ Qa w w' := by
 obtain ⟨A, ca, rfl, hA, hca, hca', _⟩ := h1
 obtain ⟨B, cb, rfl, hB, hcb, hcb', _⟩ := h2
 have hn1 : l1.length ≤ 9223372036854775807 := Nat.le_trans hca (Nat.le_trans hca' (by decide))
 have hn2 : l2.length ≤ 9223372036854775807 := Nat.le_trans hcb (Nat.le_trans hcb' (by decide))
 clear hca hca' hcb hcb'
 by_cases hl : l1.length = l2.length
 rotate_left
 ·have hr : decide (l1 = l2) = false := decide_eq_false fun e => hl (by rw [e])
  rw [hr]
  have g1 : ((l1.length : Int) == (l2.length : Int)) = false := beq_eq_false_iff_ne.2 (by omega)
  have g2 : (l1.length == l2.length) = false := beq_eq_false_iff_ne.2 hl
  clear hr hA hB
  generalize l1.length = n1 at *
  generalize l2.length = n2 at *
  go_enter Tryz.func74, Tryz.ntmps74
  go_wp2
  go_ret
  exact ⟨rfl, Qa.refl _⟩
 obtain ⟨R, hR⟩ := Qg (decide (l1 = l2))
 have hno : Hid (∀ k, k < l1.length → Zm l1 k ≠ Zm l2 k → R = false) := fun _ _ h => by rw [hR]; exact decide_eq_false (Qdg h)
 have hyes : Hid ((∀ k, k < l1.length → Zm l1 k = Zm l2 k) → R = true) := fun h => by rw [hR]; exact decide_eq_true (Qde hl h)
 rw [← hR]
 clear hR
 rw [← hl] at hB ⊢
 clear hl hn2
 generalize l1.length = n at *
 generalize Zm l1 = f at *
 generalize Zm l2 = g at *
 go_enter Tryz.func74, Tryz.ntmps74
 go_upto_region 4 with (fail)
 go_loopw [13] (fun i wr => ∃ k : Nat, k ≤ n ∧ i = .int .i64 k ∧ Hid (∀ j, j < k → f j = g j) ∧ Qa w wr) (fun i _ => n - (intOf i).toNat)
 case atStart => exact ⟨0, Nat.zero_le _, rfl, fun j h => absurd h (by omega), Qa.refl _⟩
 case round =>
  obtain ⟨k, hk, rfl, heq, hE⟩ := hrel
  obtain ⟨wo, rfl⟩ := Qg wr
  by_cases hlt : k < n
  ·obtain ⟨b, off, rfl, hb, hc⟩ := (hA.ext hE) (by omega)
   have c0 : wo.cell? ⟨b, off + k * 2, none⟩ = some (.string (f k).g) := by simpa [Zl] using hc k 0 _ hlt rfl
   have c1 : wo.cell? ⟨b, off + k * 2 + 1, none⟩ = some (.int .i64 (f k).n) := by simpa [Zl] using hc k 1 _ hlt rfl
   clear hc
   obtain ⟨b2, off2, rfl, hb2, hc⟩ := (hB.ext hE) (by omega)
   have d0 : wo.cell? ⟨b2, off2 + k * 2, none⟩ = some (.string (g k).g) := by simpa [Zl] using hc k 0 _ hlt rfl
   have d1 : wo.cell? ⟨b2, off2 + k * 2 + 1, none⟩ = some (.int .i64 (g k).n) := by simpa [Zl] using hc k 1 _ hlt rfl
   clear hc hA hB
   by_cases e : f k = g k
   ·have hall : Hid (∀ j, j < k + 1 → f j = g j) := fun j hj => by
     by_cases e2 : j = k
     ·subst e2; exact e
     ·exact heq.out j (by omega)
    rw [← e] at d0 d1
    clear heq hno hyes e
    generalize (f k).g = s at *
    generalize (f k).n = z at *
    go_upto_region 6 with (fail)
    refine Zb wo Qq (by kernel_rfl) (by repeat (first | exact Qa.refl _ | (refine Qa.alloc ?_ _) | (refine Qa.trans ?_ (by assumption)))) ?_
    intro hne hrx hry
    try simp only []
    try simp only [List.append_eq, List.cons_append, List.nil_append]
    skip
    repeat (first
     | go_big_quiet_skip
     | (go_big_quiet_want; go_big_quiet_op; go_big_quiet_on))
    clear hne hry hrx
    refine wpQuiet_nil ?_
    intro w2 h2
    obtain ⟨hcw2, hfw2, hzw2⟩ := Qa.rules h2
    try simp only [World.size_alloc] at hzw2
    obtain ⟨hcbw2, hfbw2, hzbw2⟩ := Qa.rules (show Qa wo w2 from (by repeat (first | exact Qa.refl _ | (refine Qa.alloc ?_ _) | (refine Qa.trans ?_ (by assumption)))))
    clear hcw2 hfw2
    go_wp2
    exact ⟨⟨k + 1, by omega, by go_num, hall, hE.trans h2⟩, by simp [intOf]; omega⟩
   ·obtain rfl := hno.out k hlt e
    have hq : (((f k).g.toList == (g k).g.toList) && ((f k).n == (g k).n)) = false := by
     rw [Bool.and_eq_false_iff]
     by_cases e1 : (f k).g = (g k).g
     ·exact .inr (beq_eq_false_iff_ne.2 fun e2 => e (lt_ext e1 e2))
     ·exact .inl (beq_eq_false_iff_ne.2 fun e2 => e1 (K6 e2))
    clear heq hno hyes e
    generalize (f k).g = s at *
    generalize (f k).n = z at *
    generalize (g k).g = s' at *
    generalize (g k).n = z' at *
    generalize hq1 : (s.toList == s'.toList) = q1 at *
    generalize hq2 : (z == z') = q2 at *
    have hq' : (q1 = true → q2 = false) := by cases q1 <;> simp_all
    go_upto_region 6 with (fail)
    refine Zb wo Qq (by kernel_rfl) (by repeat (first | exact Qa.refl _ | (refine Qa.alloc ?_ _) | (refine Qa.trans ?_ (by assumption)))) ?_
    intro hne hrx hry
    try simp only []
    try simp only [List.append_eq, List.cons_append, List.nil_append]
    skip
    repeat (first
     | go_big_quiet_skip
     | (go_big_quiet_want; go_big_quiet_op; go_big_quiet_on))
    clear hne hry hrx
    refine wpQuiet_nil ?_
    intro w2 h2
    obtain ⟨hcw2, hfw2, hzw2⟩ := Qa.rules h2
    try simp only [World.size_alloc] at hzw2
    obtain ⟨hcbw2, hfbw2, hzbw2⟩ := Qa.rules (show Qa wo w2 from (by repeat (first | exact Qa.refl _ | (refine Qa.alloc ?_ _) | (refine Qa.trans ?_ (by assumption)))))
    clear hcw2 hfw2
    cases q1 <;> cases q2 <;> first | (exact absurd (hq' rfl) (by decide)) | (go_wp2; go_ret; exact ⟨rfl, hE.trans h2⟩)
  ·obtain rfl : k = n := by omega
   obtain rfl := hyes.out heq.out
   go_wp2
   go_ret
   exact ⟨rfl, hE⟩
end
section
open Go Go.RowKit Go.Shelf
attribute [local go_sem] Zq
attribute [local go_sem high] Qeg
theorem J0 {W : World} {b b' : Nat} {t : TypeId} {cs : Array Value} (h : Qb W b' t cs) (hne : b' ≠ b) (u0 u1 u2 u3 u4 u5 u6 : Value) : Qb (((((((W.setCell ⟨b, 0, none⟩ u0).setCell ⟨b, 1, none⟩ u1).setCell ⟨b, 2, none⟩ u2).setCell ⟨b, 3, none⟩ u3).setCell ⟨b, 4, none⟩ u4).setCell ⟨b, 5, none⟩ u5).setCell ⟨b, 6, none⟩ u6) b' t cs := (Qi (Qi (Qi (Qi (Qi (Qi (Qi h hne 0 u0) hne 1 u1) hne 2 u2) hne 3 u3) hne 4 u4) hne 5 u5) hne 6 u6)
end
section
open Go Go.ChangeShapes Go.WideShapes Go.ChangeAt Go.RowKit Go.Deep
theorem Sj : Tryz.prog.cellsOf 85 = 2 := by kernel_rfl
theorem Gh : Tryz.prog.cellsOf 52 = 1 := by kernel_rfl
theorem Si : Tryz.prog.cellsOf 57 = 7 := by kernel_rfl
theorem Qaf : Tryz.prog.cellsOf 53 = 1 := by kernel_rfl
theorem Sl : Tryz.prog.cellsOf 55 = 12 := by kernel_rfl
theorem I8 : Tryz.prog.bytesOf 85 = 24 := by kernel_rfl
theorem I7 : Tryz.prog.bytesOf 57 = 80 := by kernel_rfl
theorem Dn {H : Type} {P : Program} {e : TypeId} : ∀ {l : List (DataW H)} {d : DataW H}, d ∈ l → ∀ n ∈ d.weights P e, n ∈ DataW.weightsAll P e l
 | x :: r, d, h, n, hn => by
  simp only [DataW.weightsAll, List.mem_append]
  rcases List.mem_cons.1 h with rfl | h
  ·exact Or.inl hn
  ·exact Or.inr (Dn h n hn)
/-- What the reach says of a period's sizes. -/
structure Pd.Light (p : Pd) : Prop where
 o : p.o.length * 24 ≤ 140737488351232
 c : p.c.length * 24 ≤ 140737488351232
 l : ∀ i, i < p.d.length → (p.d.getD i Zn).l.length * 24 ≤ 140737488351232
 d : p.d.length * 80 ≤ 140737488351232
theorem Fy {α : Type} (z : α) (g : Nat → α) {n i : Nat} (h : i < n) : ((List.range n).map g).getD i z = g i := by simp [List.getD, h]
section
variable {H : Type} {enc : TypeId × Value → H} {w : World} {base : Nat} {spare : Nat → Bool} {held : Bool} {r : Reach} {b0 : Nat} {v : Value} {d : DataW H} {p : List MemPlace}
theorem Rw {P : Program} {α : Type} {t e : TypeId} {sz m : Nat} {v : Value} {x : DataW H × List MemPlace} {f : α → List Value} {p : α → Prop} (d0 : α) (ht : P.underlying t = some (.slice e)) (hC : P.cellsOf e = sz) (hsz : 0 < sz) (hl : ∀ y, (f y).length = sz)
  (hone : ∀ n cs x, DataW.trod enc P w base spare held n e cs = some x → (∀ k ∈ x.1.weights P e, k ≤ reachBytes) → ∃ y, cs = f y ∧ p y) (h : DataW.trod enc P w base spare held m t [v] = some x) (hw : ∀ k ∈ x.1.weights P t, k ≤ reachBytes) :
  ∃ (A : Option Addr) (n cap : Nat) (g : Nat → α), v = .slice A n cap ∧ Qo w A n sz (fun i => f (g i)) ∧ n ≤ cap ∧ cap ≤ maxLen ∧ (A = none → n = 0 ∧ cap = 0) ∧ (∀ i, i < n → p (g i)) ∧ n * P.bytesOf e ≤ reachBytes := by
 rcases open_slice ht h with ⟨hcs, _⟩ | ⟨a, len, cap, k, n, D, Pl, hcs, hb, hlc, hcm, hk, hx, hi⟩
 ·exact ⟨none, 0, 0, fun _ => d0, by simpa using hcs, Qo.nil, Nat.le_refl _, Nat.zero_le _, fun _ => ⟨rfl, rfl⟩, fun i hi => absurd hi (by omega), by simp⟩
 ·have hlk : len ≤ k := by rw [hk]; split <;> omega
  rw [hx] at hw
  have hbytes : len * P.bytesOf e ≤ reachBytes := by
   have := hw ((len + (k - len)) * P.bytesOf e) (by simp [DataW.weights, ht])
   exact Nat.le_trans (Nat.mul_le_mul_right _ (Nat.le_add_right _ _)) this
  have each : ∀ i, ∃ y : α, i < len → (p y ∧ ∀ j u, (f y)[j]? = some u → w.cell? (a.add (i * sz + j)) = some u) := fun i => by
   by_cases hil : i < len
   ·obtain ⟨cs', hc, htr⟩ := hi i (by omega)
    rw [hC] at hc
    obtain ⟨y, rfl, hp⟩ := hone _ _ _ htr (fun q hq => hw q (by
     simp only [DataW.weights, ht]
     exact List.mem_cons_of_mem _ (List.mem_append_left _ (Dn (List.mem_map.2 ⟨i, List.mem_range.2 hil, rfl⟩) q hq))))
    obtain ⟨_, _, hat⟩ := World.cells?_some hc
    refine ⟨y, fun _ => ⟨hp, fun j u hu => ?_⟩⟩
    have hj : j < sz := by have := (List.getElem?_eq_some_iff.1 hu).1; rw [hl] at this; exact this
    rw [← Go.Deep.add_add, hat j hj, hu]
   ·exact ⟨d0, fun h => absurd h hil⟩
  obtain ⟨g, hg⟩ := Classical.axiomOfChoice each
  refine ⟨some a, len, cap, g, by simpa using hcs, fun hn => ?_, hlc, hcm, fun h => (by cases h), fun i hi => (hg i hi).1, hbytes⟩
  obtain ⟨b, off, spot⟩ := a
  have h00 : ((f (g 0))[0]?).isSome := by rw [List.getElem?_eq_getElem (by rw [hl]; exact hsz)]; rfl
  obtain ⟨u, hu⟩ := Option.isSome_iff_exists.1 h00
  have hc0 := (hg 0 hn).2 0 u hu
  have hspot : spot = none := by simpa [Addr.add] using World.cell?_spot hc0
  subst hspot
  have hc0' : w.cell? ⟨b, off, none⟩ = some u := by simpa [add_plain] using hc0
  refine ⟨b, off, rfl, ?_, fun i j v hi hv => ?_⟩
  ·rcases Nat.lt_or_ge b w.heap.size with h1 | h1
   ·exact h1
   ·simp [World.cell?, Array.getElem?_eq_none h1] at hc0'
  ·have := (hg i hi).2 j v hv
   rw [add_plain, ← Nat.add_assoc] at this
   exact this
theorem Qdb {n : Nat} {cs : List Value} {x : DataW H × List MemPlace} (h : DataW.trod enc Tryz.prog w base spare held n 85 cs = some x) : ∃ y : Lt, cs = [.string y.g, .int .i64 y.n] := by
 obtain ⟨xs, m, _, _, hlen, hxl, hf⟩ := DataW.trod_struct Tryz.underlying85 h
 rw [Sj] at hlen
 match cs, hlen with
 | [a, b], _ =>
  obtain ⟨z0, rfl, _⟩ := Ox (Jv hxl (by decide) (hf 0 _ rfl) Lj)
  obtain ⟨z1, rfl, _⟩ := Wn (Jv hxl (by decide) (hf 1 _ rfl) Xp)
  exact ⟨⟨z0, z1⟩, rfl⟩
theorem Fl {m : Nat} {v : Value} {x : DataW H × List MemPlace} (h : DataW.trod enc Tryz.prog w base spare held m 52 [v] = some x) (hw : ∀ k ∈ x.1.weights Tryz.prog 52, k ≤ reachBytes) : ∃ l : List Lt, Zt w v l ∧ l.length * 24 ≤ 140737488351232 := by
 obtain ⟨A, n, cap, g, rfl, h1, h2, h3, h4, _, h6⟩ := Rw (f := fun y : Lt => [.string y.g, .int .i64 y.n]) (p := fun _ => True) Y9 Tryz.underlying52 Sj (by decide) (fun _ => rfl) (fun n cs x hx _ => by
  obtain ⟨y, hy⟩ := Qdb hx
  exact ⟨y, hy, trivial⟩) h hw
 rw [I8, Rm] at h6
 refine ⟨(List.range n).map g, ⟨A, cap, by simp, ?_, by simpa using h2, h3, by simpa using h4⟩, by simpa using h6⟩
 rw [List.length_map, List.length_range]
 exact h1.congr (fun i hi => by simp only [Zl, Zm]; rw [Fy Y9 g hi])
theorem Qa9 {n : Nat} {cs : List Value} {x : DataW H × List MemPlace} (h : DataW.trod enc Tryz.prog w base spare held n 57 cs = some x) (hw : ∀ k ∈ x.1.weights Tryz.prog 57, k ≤ reachBytes) :
  ∃ y : Dl × Value, cs = Zx y.1 y.2 ∧ Zt w y.2 y.1.l ∧ y.1.l.length * 24 ≤ 140737488351232 := by
 obtain ⟨xs, m, _, hx, hlen, hxl, hf⟩ := DataW.trod_struct Tryz.underlying57 h
 have hxl2 : xs.length = 4 := hxl
 rw [hx] at hw
 have hw' : ∀ n ∈ DataW.weightsEach Tryz.prog [51, 4, 9, 52] (xs.map (·.1)), n ≤ reachBytes := fun n hn => hw n (by
  simp only [DataW.weights, Tryz.underlying57]
  exact hn)
 rw [Si] at hlen
 match cs, hlen with
 | [c0, c1, c2, c3, c4, c5, c6], _ =>
  obtain ⟨_, h0⟩ := Jv hxl (by decide) (hf 0 _ rfl) Mx
  obtain ⟨a, ha⟩ := Gv h0
  obtain ⟨z4, rfl⟩ := Sf (Jv hxl (by decide) (hf 1 _ rfl) Sh)
  obtain ⟨z5, rfl, _⟩ := Ox (Jv hxl (by decide) (hf 2 _ rfl) Lj)
  have e3 : DataW.trod enc Tryz.prog w base spare held m 52 [c6] = some xs[3] := K5 (by omega) (hf 3 _ rfl) (n := 1) Gh
  obtain ⟨l, hl, hs⟩ := Fl e3 (fun k hk => hw' k (DataW.weights_mem_each (j := 3) rfl (by rw [List.getElem?_map, List.getElem?_eq_getElem (by omega)]; rfl) k hk))
  have ha' : [c0, c1, c2, c3] = [.int .i64 a.y, .int .i64 a.m, .bool a.s, .int .i64 a.d] := ha
  simp only [List.cons.injEq] at ha'
  obtain ⟨rfl, rfl, rfl, rfl, _⟩ := ha'
  exact ⟨(⟨a, z4, z5, l⟩, c6), rfl, hl, hs⟩
theorem Qba {m : Nat} {v : Value} {x : DataW H × List MemPlace} (h : DataW.trod enc Tryz.prog w base spare held m 53 [v] = some x) (hw : ∀ k ∈ x.1.weights Tryz.prog 53, k ≤ reachBytes) :
  ∃ l : List Dl, Vl w v l ∧ (∀ i, i < l.length → (l.getD i Zn).l.length * 24 ≤ 140737488351232) ∧ l.length * 80 ≤ 140737488351232 := by
 obtain ⟨A, n, cap, g, rfl, h1, h2, h3, h4, h5, h6⟩ := Rw (f := fun y : Dl × Value => Zx y.1 y.2) (p := fun y => Zt w y.2 y.1.l ∧ y.1.l.length * 24 ≤ 140737488351232) (Zn, .slice none 0 0) Tryz.underlying53 Si (by decide) (fun _ => rfl) (fun n cs x hx hk => Qa9 hx hk) h hw
 rw [I7, Rm] at h6
 have hg : ∀ i, i < n → ((List.range n).map (fun i => (g i).1)).getD i Zn = (g i).1 := fun i hi => Fy Zn _ hi
 refine ⟨(List.range n).map (fun i => (g i).1), ⟨A, cap, fun i => (g i).2, by simp, ?_, by simpa using h2, h3, by simpa using h4, fun i hi => ?_⟩, fun i hi => ?_, by simpa using h6⟩
 ·rw [List.length_map, List.length_range]
  exact h1.congr (fun i hi => by show Zx _ _ = Zx _ _; rw [hg i hi])
 ·rw [List.length_map, List.length_range] at hi
  rw [hg i hi]
  exact (h5 i hi).1
 ·rw [List.length_map, List.length_range] at hi
  rw [hg i hi]
  exact (h5 i hi).2
theorem Qe8 {n : Nat} {cs : List Value} {x : DataW H × List MemPlace} (h : DataW.trod enc Tryz.prog w base spare held n 55 cs = some x) (hw : ∀ k ∈ x.1.weights Tryz.prog 55, k ≤ reachBytes) :
  ∃ y : Pd × Value × Value × Value, cs = Z6 y.1 y.2.1 y.2.2.1 y.2.2.2 ∧ Uk w y.1 y.2.1 y.2.2.1 y.2.2.2 ∧ y.1.Light := by
 obtain ⟨xs, m, _, hx, hlen, hxl, hf⟩ := DataW.trod_struct Tryz.underlying55 h
 have hxl2 : xs.length = 6 := hxl
 rw [hx] at hw
 have hw' : ∀ n ∈ DataW.weightsEach Tryz.prog [9, 51, 51, 52, 53, 52] (xs.map (·.1)), n ≤ reachBytes := fun n hn => hw n (by
  simp only [DataW.weights, Tryz.underlying55]
  exact hn)
 rw [Sl] at hlen
 match cs, hlen with
 | [c0, c1, c2, c3, c4, c5, c6, c7, c8, c9, c10, c11], _ =>
  obtain ⟨z0, rfl, _⟩ := Ox (Jv hxl (by decide) (hf 0 _ rfl) Lj)
  obtain ⟨_, h1⟩ := Jv hxl (by decide) (hf 1 _ rfl) Mx
  obtain ⟨_, h2⟩ := Jv hxl (by decide) (hf 2 _ rfl) Mx
  obtain ⟨a, ha⟩ := Gv h1
  obtain ⟨b, hb⟩ := Gv h2
  have e3 : DataW.trod enc Tryz.prog w base spare held m 52 [c9] = some xs[3] := K5 (by omega) (hf 3 _ rfl) (n := 1) Gh
  have e4 : DataW.trod enc Tryz.prog w base spare held m 53 [c10] = some xs[4] := K5 (by omega) (hf 4 _ rfl) (n := 1) Qaf
  have e5 : DataW.trod enc Tryz.prog w base spare held m 52 [c11] = some xs[5] := K5 (by omega) (hf 5 _ rfl) (n := 1) Gh
  obtain ⟨lo, ho, hso⟩ := Fl e3 (fun k hk => hw' k (DataW.weights_mem_each (j := 3) rfl (by rw [List.getElem?_map, List.getElem?_eq_getElem (by omega)]; rfl) k hk))
  obtain ⟨ld, hd, hsl, hsd⟩ := Qba e4 (fun k hk => hw' k (DataW.weights_mem_each (j := 4) rfl (by rw [List.getElem?_map, List.getElem?_eq_getElem (by omega)]; rfl) k hk))
  obtain ⟨lc, hc, hsc⟩ := Fl e5 (fun k hk => hw' k (DataW.weights_mem_each (j := 5) rfl (by rw [List.getElem?_map, List.getElem?_eq_getElem (by omega)]; rfl) k hk))
  have ha' : [c1, c2, c3, c4] = [.int .i64 a.y, .int .i64 a.m, .bool a.s, .int .i64 a.d] := ha
  have hb' : [c5, c6, c7, c8] = [.int .i64 b.y, .int .i64 b.m, .bool b.s, .int .i64 b.d] := hb
  simp only [List.cons.injEq] at ha' hb'
  obtain ⟨rfl, rfl, rfl, rfl, _⟩ := ha'
  obtain ⟨rfl, rfl, rfl, rfl, _⟩ := hb'
  exact ⟨(⟨z0, a, b, lo, ld, lc⟩, c9, c10, c11), rfl, ⟨ho, hd, hc⟩, ⟨hso, hsc, hsl, hsd⟩⟩
theorem Qfc (hv : Value.okWide Tryz.prog w r b0 26 v) (h : DataW.Trod enc Tryz.prog w base spare held 26 v d p) (hl : ∀ n ∈ d.weights Tryz.prog 26, n ≤ reachBytes) :
  ∃ l : List Pd, Yo w v l ∧ (∀ i, i < l.length → (l.getD i Q3).Light) ∧ l.length * 152 ≤ 140737488351232 := by
 obtain ⟨a, len, cap, rfl⟩ := okWide_slice Tryz.underlying26 hv
 obtain ⟨fuel, hf⟩ := h
 obtain ⟨A, n, cap, g, e, h1, h2, h3, h4, h5, h6⟩ := Rw (f := fun y : Pd × Value × Value × Value => Z6 y.1 y.2.1 y.2.2.1 y.2.2.2) (p := fun y => Uk w y.1 y.2.1 y.2.2.1 y.2.2.2 ∧ y.1.Light) (Q3, .slice none 0 0, .slice none 0 0, .slice none 0 0) Tryz.underlying26 Sl (by decide) (fun _ => rfl) (fun n cs x hx hk => Qe8 hx hk) hf hl
 rw [show Tryz.prog.bytesOf 55 = 152 by kernel_rfl, Rm] at h6
 have hg : ∀ i, i < n → ((List.range n).map (fun i => (g i).1)).getD i Q3 = (g i).1 := fun i hi => Fy Q3 _ hi
 rw [e]
 refine ⟨(List.range n).map (fun i => (g i).1), ⟨A, cap, fun i => (g i).2.1, fun i => (g i).2.2.1, fun i => (g i).2.2.2, by simp, ?_, by simpa using h2, h3, by simpa using h4, fun i hi => ?_⟩, fun i hi => ?_, by simpa using h6⟩
 ·rw [List.length_map, List.length_range]
  exact h1.congr (fun i hi => by show Z6 _ _ _ _ = Z6 _ _ _ _; rw [hg i hi])
 ·rw [List.length_map, List.length_range] at hi
  rw [hg i hi]
  exact (h5 i hi).1
 ·rw [List.length_map, List.length_range] at hi
  rw [hg i hi]
  exact (h5 i hi).2
end
end
section
open Go Go.RowKit Go.Shelf
attribute [local go_sem] Zq
/-- Periods in an own row, each with what it holds in own rows. -/
def Kf (W : World) (b : Nat) (v : Value) (n : Nat) (g : Nat → Pd) : Prop := ∃ vo vd vc : Nat → Value, W.ownsRow b 55 12 v n (Zv (fun i => Z6 (g i) (vo i) (vd i) (vc i)) n) ∧ ∀ i, i < n → Xn W b (g i) (vo i) (vd i) (vc i)
theorem Kf.ext {W W' : World} {b n : Nat} {v : Value} {g : Nat → Pd} (h : Kf W b v n g) (x : Qa W W') : Kf W' b v n g := by
 obtain ⟨vo, vd, vc, h1, h2⟩ := h
 exact ⟨vo, vd, vc, Yn h1 x, fun i hi => (h2 i hi).ext x⟩
theorem Kf.le {W : World} {b b' n : Nat} {v : Value} {g : Nat → Pd} (h : Kf W b v n g) (hb : b' ≤ b) : Kf W b' v n g := by
 obtain ⟨vo, vd, vc, h1, h2⟩ := h
 exact ⟨vo, vd, vc, h1.mono hb, fun i hi => (h2 i hi).le hb⟩
theorem Xn.kept {W w1 : World} {b b' k : Nat} {v' vo vd vc : Value} {p : Pd} {xs : List Value} {row : Option Nat} (h : Xn W b p vo vd vc) (hr : W.ownsRow b' 55 12 v' k xs) (hg : W.grownBy w1 row) (hrow : row = v'.ownBlock) : Xn w1 b p vo vd vc := by
 subst hrow
 obtain ⟨vs, d1, d2⟩ := h.d
 exact ⟨World.ownsRow.kept h.o hg (Nx h.o hr (by decide)), ⟨vs, World.ownsRow.kept d1 hg (Nx d1 hr (by decide)), fun i hi => World.ownsRow.kept (d2 i hi) hg (Nx (d2 i hi) hr (by decide))⟩, World.ownsRow.kept h.c hg (Nx h.c hr (by decide))⟩
theorem Xn.alloc {W : World} {b : Nat} {vo vd vc : Value} {p : Pd} (h : Xn W b p vo vd vc) (ob : Obj) : Xn (W.alloc ob) b p vo vd vc := h.ext ((Qa.refl _).alloc ob)
theorem Im (A A' : Option Addr) (ca cb : Nat) (c : Qf) (v : Value) (l : List Pd) (w : World) (hC : Zg w A ca A' cb c) (hP : Yo w v l) :
  Calls Tryz.prog 58 #[.agg #[.slice A c.nk ca, .slice A' c.ny cb], v] w fun e w' => e = .returned (.tuple #[.agg #[.slice A c.nk ca, .slice A' c.ny cb], .int .i64 (c.archE l)]) ∧ Qa w w' := by
 have NO := fun w h => L9 A A' ca cb c w h
 obtain ⟨D, cap, _, _, _, hv9, _⟩ := id hP
 subst hv9
 have NP := fun w h1 h2 => Cf A A' ca cb c (.slice D l.length cap) l w h1 h2
 obtain ⟨R, hR0⟩ := Qg (c.archE l)
 rw [← hR0]
 have HR := Lib.hid hR0
 clear hR0
 go_enter Tryz.func58, Tryz.ntmps58
 go_upto_region 1 with (fail)
 obtain ⟨v, hv⟩ := Qg ((w.alloc (.cells #[.slice A c.nk ca, .slice A' c.ny cb] 25)).alloc (.cells #[.slice none 0 0, .slice none 0 0] 130))
 rw [← hv]
 have E : Qa w v := by rw [hv]; exact ((Qa.refl _).alloc _).alloc _
 have B1 : Qb v w.heap.size 25 #[.slice A c.nk ca, .slice A' c.ny cb] := by rw [hv]; exact (Qb.new _ _ _).alloc _
 have B2 : Qb v (w.heap.size + 1) 130 #[.slice none 0 0, .slice none 0 0] := by rw [hv]; exact Qb.at _ _ _ _ (by simp)
 clear hv
 obtain ⟨b2, hb2⟩ := Qg (w.heap.size + 1)
 rw [← hb2] at B2 ⊢
 obtain ⟨b1, hb1⟩ := Qg (w.heap.size)
 rw [← hb1] at B1 ⊢
 have hbr : w.heap.size ≤ b2 := by omega
 have hbr1 : w.heap.size ≤ b1 := by omega
 have hn21 : b2 ≠ b1 := by omega
 clear hb1 hb2
 obtain ⟨k0, k1⟩ := B1.c2
 have lk := B1.lt
 obtain ⟨ck, hck⟩ := Qg (c.chk)
 simp only [← hck] at NO
 replace hck := Lib.hid hck
 go_upto_region 2 with (go_at_call 64; (with_reducible refine Calls.mono (NO _ (hC.ext E)) ?_); rintro e w1 ⟨rfl, h1⟩)
 obtain ⟨v3, hv⟩ := Qg (w1.alloc (.cells #[.slice A c.nk ca, .slice A' c.ny cb] 130))
 rw [← hv]
 have h3 : Qa w1 v3 := by rw [hv]; exact (Qa.refl _).alloc _
 have H3 : Qb v3 w1.heap.size 130 #[.slice A c.nk ca, .slice A' c.ny cb] := by rw [hv]; exact Qb.new _ _ _
 clear hv
 generalize w1.heap.size = b9 at *
 replace E := (E.trans h1).trans h3
 replace B2 := (B2.ext h1).ext h3
 have C := hC.ext E
 have P := hP.ext E
 clear hC hP k0 k1 lk B1 NO h1 h3
 by_cases e0 : ck = 0
 rotate_left
 ·have g0 : (ck == 0) = false := beq_eq_false_iff_ne.2 e0
  have g0n : (ck != 0) = true := by rw [bne, g0]; rfl
  have hr : R = ck := by rw [HR.out, hck.out]; unfold Qf.archE; rw [if_pos (by rw [← hck.out]; exact e0)]
  clear HR e0 hck NP
  obtain ⟨k0, k1⟩ := H3.c2
  have lk := H3.lt
  have f0 := B2.frozen 0
  have f1 := B2.frozen 1
  obtain ⟨x0, x1⟩ := B2.c2
  have lx := B2.lt
  have H4 := Qn B2 (.slice A c.nk ca) (.slice A' c.ny cb)
  have EF := (E.setCell (p := ⟨b2, 0, none⟩) hbr (.slice A c.nk ca)).setCell (p := ⟨b2, 1, none⟩) hbr (.slice A' c.ny cb)
  obtain ⟨y0, y1⟩ := H4.c2
  go_wp2
  refine bodyPost_ret (v := .tuple #[.agg #[.slice A c.nk ca, .slice A' c.ny cb], .int .i64 ck]) (by simp [results, Tryz.results58, go_sem, y0, y1]) rfl ⟨by rw [hr], EF⟩
 ·subst e0
  by_cases hlim : 32 < l.length
  ·have hr : R = 3 := by rw [HR.out]; unfold Qf.archE; rw [if_neg (by rw [← hck.out]; simp), if_pos hlim]
   have g1 : decide (32 < l.length) = true := decide_eq_true hlim
   clear HR hck NP
   obtain ⟨k0, k1⟩ := H3.c2
   have lk := H3.lt
   have f0 := B2.frozen 0
   have f1 := B2.frozen 1
   obtain ⟨x0, x1⟩ := B2.c2
   have lx := B2.lt
   have H4 := Qn B2 (.slice A c.nk ca) (.slice A' c.ny cb)
   have EF := (E.setCell (p := ⟨b2, 0, none⟩) hbr (.slice A c.nk ca)).setCell (p := ⟨b2, 1, none⟩) hbr (.slice A' c.ny cb)
   obtain ⟨y0, y1⟩ := H4.c2
   go_wp2
   refine bodyPost_ret (v := .tuple #[.agg #[.slice A c.nk ca, .slice A' c.ny cb], .int .i64 3]) (by simp [results, Tryz.results58, go_sem, y0, y1]) rfl ⟨by rw [hr], EF⟩
  have hr : Hid (R = c.persE l) := by unfold Hid; rw [HR.out]; unfold Qf.archE; rw [if_neg (by rw [← hck.out]; simp), if_neg hlim]
  have g1 : decide (32 < l.length) = false := decide_eq_false hlim
  clear HR hck
  obtain ⟨k0, k1⟩ := H3.c2
  have lk := H3.lt
  go_upto_region 6 with (fail)
  clear k0 k1 lk
  refine Q1 6 [4, 5] (fun x => Qa v3 x) Qq rfl ?_
  intro vz hvz
  have HC := hvz
  refine Qr (g := 3) [0, 1, 2] [_, _, _] ⟨rfl, rfl, rfl, trivial⟩ (by kernel_rfl) (by kernel_rfl) HC ?_
  simp only [Qc, Qd, Qe]
  apply Exists.intro
  refine ⟨fun u hu => ?_, ?_⟩
  ·obtain ⟨k0, k1⟩ := (H3.ext hu).c2
   have lk := (H3.ext hu).lt
   repeat (first | go_big_quiet_skip | (go_big_quiet_want; go_big_quiet_op; go_big_quiet_on))
   refine wpQuiet_nil ?_
   rfl
  refine Qk 3 rfl (by kernel_rfl) ?_
  simp only [Qc, Qd, Qe]
  go_wp2_with (go_at_call 107; (with_reducible refine Calls.mono (NP _ (C.ext HC) (P.ext HC)) ?_); rintro e va ⟨rfl, h4⟩)
  replace HC := HC.trans h4
  clear h4
  refine Qh HC ?_
  refine Qm 4 rfl (by kernel_rfl) ?_
  simp only [Qc, Qd, Qe]
  replace B2 := B2.ext HC
  replace E := E.trans HC
  have f0 := B2.frozen 0
  have f1 := B2.frozen 1
  obtain ⟨x0, x1⟩ := B2.c2
  have lx := B2.lt
  have H4 := Qn B2 (.slice A c.nk ca) (.slice A' c.ny cb)
  have EF := (E.setCell (p := ⟨b2, 0, none⟩) hbr (.slice A c.nk ca)).setCell (p := ⟨b2, 1, none⟩) hbr (.slice A' c.ny cb)
  obtain ⟨y0, y1⟩ := H4.c2
  go_wp2
  refine Ql ?_
  refine Qm 5 rfl (by kernel_rfl) ?_
  simp only [Qc, Qd, Qe]
  go_wp2
  refine Ql ?_
  refine Qs (by kernel_rfl) ?_
  go_wp2
  refine bodyPost_ret (v := .tuple #[.agg #[.slice A c.nk ca, .slice A' c.ny cb], .int .i64 (c.persE l)]) (by simp [results, Tryz.results58, go_sem, y0, y1]) rfl ⟨by rw [hr.out], EF⟩
end
end Go.Proofs.YtoflcheopfppoaaGreatDoor
