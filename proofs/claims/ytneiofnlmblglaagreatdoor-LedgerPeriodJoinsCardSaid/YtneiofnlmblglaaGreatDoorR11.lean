/- Walks of the program's functions and plain facts, packed; proved: the lemmas below; no conditions but those that each states. -/
import Derived.Test.YtneiofnlmblglaaGreatDoorR9
import Derived.Test.YtneiofnlmblglaaGreatDoorR7
import Derived.Test.YtneiofnlmblglaaGreatDoorR10
import Derived.Lib.Strings
import Derived.Test.YtneiofnlmblglaaGreatDoorR1
import Derived.Test.YtneiofnlmblglaaGreatDoorR5
import Derived.Test.YtneiofnlmblglaaGreatDoorR4
import Derived.Test.YtneiofnlmblglaaGreatDoorR3
import Derived.Laws.StructEq
set_option maxRecDepth 100000
set_option maxHeartbeats 4000000
namespace Go.Proofs.YtneiofnlmblglaaGreatDoor
section
open Go Go.RowKit Go.Shelf
attribute [local go_sem] Zs
/-- A slice value that reads as a list of lots. -/
def Zn (w : World) (v : Value) (l : List Lt) : Prop := ∃ A cap, v = .slice A l.length cap ∧ Qn w A l.length 2 (Q4 (Qz l)) ∧ l.length ≤ cap ∧ cap ≤ maxLen ∧ (A = none → l.length = 0 ∧ cap = 0)
theorem Zn.ext {w w' : World} {v : Value} {l : List Lt} (h : Zn w v l) (e : Qa w w') : Zn w' v l := by
 obtain ⟨A, cap, h1, h2, h3⟩ := h
 exact ⟨A, cap, h1, h2.ext e, h3⟩
def Qs (d : Dl) (v : Value) : List Value := [.int .i64 d.on.y, .int .i64 d.on.m, .bool d.on.s, .int .i64 d.on.d, .bool d.i, .string d.w, v]
/-- A slice value that reads as a list of deals. -/
def Yn (w : World) (v : Value) (l : List Dl) : Prop := ∃ D cap, ∃ vs : Nat → Value, v = .slice D l.length cap ∧ Qn w D l.length 7 (fun i => Qs (l.getD i Qr) (vs i)) ∧ l.length ≤ cap ∧ cap ≤ maxLen ∧ (D = none → l.length = 0 ∧ cap = 0) ∧ ∀ i, i < l.length → Zn w (vs i) (l.getD i Qr).l
theorem Yn.ext {w w' : World} {v : Value} {l : List Dl} (h : Yn w v l) (e : Qa w w') : Yn w' v l := by
 obtain ⟨D, cap, vs, h1, h2, h3, h4, h5, h6⟩ := h
 exact ⟨D, cap, vs, h1, h2.ext e, h3, h4, h5, fun i hi => (h6 i hi).ext e⟩
structure Zz (w : World) (p : Pd) (vo vd vc : Value) : Prop where
 o : Zn w vo p.o
 d : Yn w vd p.d
 c : Zn w vc p.c
theorem Zz.ext {w w' : World} {p : Pd} {vo vd vc : Value} (h : Zz w p vo vd vc) (e : Qa w w') : Zz w' p vo vd vc := ⟨h.o.ext e, h.d.ext e, h.c.ext e⟩
theorem Dq (l : List Lt) : ((List.range l.length).any fun j => decide ((Qz l j).n < 0)) = l.any fun x => decide (x.n < 0) := by
 conv => rhs; rw [← Rj l]
 unfold Jd
 rw [List.any_map]; rfl
section
variable {W : World} {b : Nat} {t : TypeId} {v0 v1 v2 v3 v4 v5 v6 v7 v8 v9 v10 v11 : Value}
theorem J2 (h : Qb W b t #[v0, v1, v2, v3, v4, v5, v6]) : W.cell? ⟨b, 0, none⟩ = some v0 ∧ W.cell? ⟨b, 1, none⟩ = some v1 ∧ W.cell? ⟨b, 2, none⟩ = some v2 ∧ W.cell? ⟨b, 3, none⟩ = some v3 ∧ W.cell? ⟨b, 4, none⟩ = some v4 ∧ W.cell? ⟨b, 5, none⟩ = some v5 ∧ W.cell? ⟨b, 6, none⟩ = some v6 := ⟨h.cell 0, h.cell 1, h.cell 2, h.cell 3, h.cell 4, h.cell 5, h.cell 6⟩
theorem Qb.c12 (h : Qb W b t #[v0, v1, v2, v3, v4, v5, v6, v7, v8, v9, v10, v11]) : W.cell? ⟨b, 0, none⟩ = some v0 ∧ W.cell? ⟨b, 1, none⟩ = some v1 ∧ W.cell? ⟨b, 2, none⟩ = some v2 ∧ W.cell? ⟨b, 3, none⟩ = some v3 ∧ W.cell? ⟨b, 4, none⟩ = some v4 ∧ W.cell? ⟨b, 5, none⟩ = some v5 ∧ W.cell? ⟨b, 6, none⟩ = some v6 ∧ W.cell? ⟨b, 7, none⟩ = some v7 ∧ W.cell? ⟨b, 8, none⟩ = some v8 ∧ W.cell? ⟨b, 9, none⟩ = some v9 ∧ W.cell? ⟨b, 10, none⟩ = some v10 ∧ W.cell? ⟨b, 11, none⟩ = some v11 := ⟨h.cell 0, h.cell 1, h.cell 2, h.cell 3, h.cell 4, h.cell 5, h.cell 6, h.cell 7, h.cell 8, h.cell 9, h.cell 10, h.cell 11⟩
end
theorem Au (l : Lt) (w : World) :
  Calls Tryz.prog 143 #[.agg #[.string l.g, .int .i64 l.n]] w fun e w' => e = .returned (.bool (decide (l.n < 0))) ∧ Qa w w' := by
 go_enter Tryz.func143, Tryz.ntmps143
 go_upto_region 1 with (fail)
 obtain ⟨v, hv⟩ := Qg (w.alloc (.cells #[.string l.g, .int .i64 l.n] 68))
 rw [← hv]
 have E : Qa w v := by rw [hv]; exact (Qa.refl _).alloc _
 have B1 : Qb v w.heap.size 68 #[.string l.g, .int .i64 l.n] := by rw [hv]; exact Qb.new _ _ _
 clear hv
 generalize w.heap.size = b1 at *
 obtain ⟨k0, k1⟩ := B1.c2
 have lk := B1.lt
 go_wp2
 go_ret
 exact ⟨rfl, E⟩
theorem Ey (A : Option Addr) (n cap : Nat) (f : Nat → Lt) (w : World) (hA : Qn w A n 2 (Q4 f)) (hn : n ≤ 9223372036854775807) :
  Calls Tryz.prog 147 #[.slice A n cap, .func (.func 143) #[] #[]] w fun e w' => ∃ r : Int, e = .returned (.int .i64 r) ∧ decide (0 ≤ r) = ((List.range n).any fun j => decide ((f j).n < 0)) ∧ Qa w w' := by
 go_enter Tryz.func147, Tryz.ntmps147
 go_wp2
 go_loopw [8] (fun iv wr => ∃ k : Nat, k ≤ n ∧ iv = .int .i64 (k : Int) ∧ Hid (∀ j, j < k → decide ((f j).n < 0) = false) ∧ Qa w wr) (fun iv _ => n - (intOf iv).toNat)
 case atStart => exact ⟨0, Nat.zero_le _, rfl, fun j h => absurd h (by omega), Qa.refl _⟩
 case round =>
  obtain ⟨k, hk0, rfl, hno, hE⟩ := hrel
  obtain ⟨wo, rfl⟩ := Qg wr
  by_cases hlt : k < n
  ·obtain ⟨b, off, hAA, hb, hc⟩ := (hA.ext hE) (by omega)
   subst hAA
   have c0 : wo.cell? ⟨b, off + k * 2, none⟩ = some (.string (f k).g) := by simpa [Q4] using hc k 0 _ hlt rfl
   have c1 : wo.cell? ⟨b, off + k * 2 + 1, none⟩ = some (.int .i64 (f k).n) := by simpa [Q4] using hc k 1 _ hlt rfl
   have NP := Au (f k) wo
   clear hc hA
   generalize hq : decide ((f k).n < 0) = q at *
   have HQ := Lib.hid hq
   clear hq
   cases q
   ·go_wp2_with (first | (go_at_call 143; (with_reducible refine Calls.mono (NP) ?_); rintro e w4 ⟨rfl, h⟩) | (go_at_fn 143; (with_reducible refine Calls.mono (NP) ?_); rintro e w4 ⟨rfl, h⟩))
    exact ⟨⟨k + 1, by omega, by go_num, fun j hj => by
     by_cases e : j = k
     ·subst e; exact HQ.out
     ·exact hno.out j (by omega), hE.trans h⟩, by simp [intOf]; omega⟩
   ·go_wp2_with (first | (go_at_call 143; (with_reducible refine Calls.mono (NP) ?_); rintro e w4 ⟨rfl, h⟩) | (go_at_fn 143; (with_reducible refine Calls.mono (NP) ?_); rintro e w4 ⟨rfl, h⟩))
    go_ret
    exact ⟨_, rfl, by rw [decide_eq_true (by omega)]; exact (List.any_eq_true.2 ⟨k, by simpa using hlt, HQ.out⟩).symm, hE.trans h⟩
  ·obtain rfl : k = n := by omega
   go_wp2
   go_ret
   exact ⟨_, rfl, by rw [decide_eq_false (by omega)]; exact (List.any_eq_false.2 (fun j hj => by have := hno.out j (by simpa using hj); simpa using this)).symm, hE⟩
theorem Cd (A : Option Addr) (n cap : Nat) (f : Nat → Lt) (w : World) (hA : Qn w A n 2 (Q4 f)) (hn : n ≤ 9223372036854775807) :
  Calls Tryz.prog 142 #[.slice A n cap, .func (.func 143) #[] #[]] w fun e w' => e = .returned (.bool ((List.range n).any fun j => decide ((f j).n < 0))) ∧ Qa w w' := by
 have NI := Ey A n cap f w hA hn
 go_enter Tryz.func142, Tryz.ntmps142
 go_wp2_with (go_at_call 147; (with_reducible refine Calls.mono (NI) ?_); rintro e w4 ⟨r, rfl, hr, h⟩)
 go_ret
 exact ⟨by rw [← hr]; rfl, h⟩
theorem Av (v : Value) (l : List Lt) (w : World) (hL : Zn w v l) :
  Calls Tryz.prog 132 #[v] w fun e w' => e = .returned (.bool (Y3 l)) ∧ Qa w w' := by
 obtain ⟨T, cap, rfl, hT, hcap, hmax, _⟩ := hL
 have hn : l.length ≤ 9223372036854775807 := Nat.le_trans hcap (Nat.le_trans hmax (by decide))
 have N1 := V2 T l.length cap (Qz l) w hT hcap hn
 have N2 := fun w h => Cd T l.length cap (Qz l) w h hn
 rw [Dq] at N2
 have HR : Hid (Y3 l = (decide (0 < l.length) && decide (Jh (Qz l) l.length = 0) && !(l.any fun x => decide (x.n < 0)))) := rfl
 generalize Y3 l = r at *
 generalize (l.any fun x => decide (x.n < 0)) = an at *
 generalize Jh (Qz l) l.length = e1 at *
 generalize l.length = n at *
 by_cases h0 : 0 < n
 ·have d0 : decide ((0 : Int) < (n : Int)) = true := decide_eq_true (by omega)
  have d0' : decide (0 < n) = true := decide_eq_true h0
  by_cases hz : e1 = 0
  ·subst hz
   have hr : r = !an := by rw [HR.out, d0']; rfl
   clear HR
   subst hr
   cases an
   all_goals
    go_enter Tryz.func132, Tryz.ntmps132
    go_wp2_with (first | (go_at_call 52; (with_reducible refine Calls.mono (N1) ?_); rintro e w1 ⟨rfl, h1⟩) | (go_at_call 142; (with_reducible refine Calls.mono (N2 _ (hT.ext h1)) ?_); rintro e w2 ⟨rfl, h2⟩))
    go_ret
    exact ⟨rfl, h1.trans h2⟩
  ·have g0 : (e1 == 0) = false := beq_eq_false_iff_ne.2 hz
   have hr : r = false := by rw [HR.out, d0', decide_eq_false hz]; rfl
   clear HR hz
   subst hr
   go_enter Tryz.func132, Tryz.ntmps132
   go_wp2_with (go_at_call 52; (with_reducible refine Calls.mono (N1) ?_); rintro e w1 ⟨rfl, h1⟩)
   go_ret
   exact ⟨rfl, h1⟩
 ·have d0 : decide ((0 : Int) < (n : Int)) = false := decide_eq_false (by omega)
  have d0' : decide (0 < n) = false := decide_eq_false h0
  have hr : r = false := by rw [HR.out, d0']; rfl
  clear HR
  subst hr
  go_enter Tryz.func132, Tryz.ntmps132
  go_wp2
  go_ret
  exact ⟨rfl, Qa.refl _⟩
theorem Uq {w : World} {T : Option Addr} {cap : Nat} {l : List Lt} (h : Zn w (.slice T l.length cap) l) : Qn w T l.length 2 (Q4 (Qz l)) := by
 obtain ⟨A, cap', e, h2, _⟩ := h
 cases e
 exact h2
theorem Qbk (A A' : Option Addr) (ca cb : Nat) (c : Qf) (p : Pd) (vo vd vc : Value) (w : World) (hC : Q0 w A ca A' cb c) (hP : Zz w p vo vd vc) :
  Calls Tryz.prog 101 #[.agg #[.slice A c.nk ca, .slice A' c.ny cb], .agg #[.string p.h, .int .i64 p.a.y, .int .i64 p.a.m, .bool p.a.s, .int .i64 p.a.d, .int .i64 p.b.y, .int .i64 p.b.m, .bool p.b.s, .int .i64 p.b.d, vo, vd, vc]] w fun e w' => e = .returned (.bool (c.perOk p)) ∧ Qa w w' := by
 obtain ⟨R, hR0⟩ := Qg (c.perOk p)
 rw [← hR0]
 have HR := Lib.hid hR0
 clear hR0
 have NS := fun w h => O5 A A' ca cb c p.a p.b w h
 go_enter Tryz.func101, Tryz.ntmps101
 go_upto_region 1 with (fail)
 obtain ⟨v, hv⟩ := Qg ((w.alloc (.cells #[.slice A c.nk ca, .slice A' c.ny cb] 61)).alloc (.cells #[.string p.h, .int .i64 p.a.y, .int .i64 p.a.m, .bool p.a.s, .int .i64 p.a.d, .int .i64 p.b.y, .int .i64 p.b.m, .bool p.b.s, .int .i64 p.b.d, vo, vd, vc] 31))
 rw [← hv]
 have E : Qa w v := by rw [hv]; exact ((Qa.refl _).alloc _).alloc _
 have B1 : Qb v w.heap.size 61 #[.slice A c.nk ca, .slice A' c.ny cb] := by rw [hv]; exact (Qb.new _ _ _).alloc _
 have B2 : Qb v (w.heap.size + 1) 31 #[.string p.h, .int .i64 p.a.y, .int .i64 p.a.m, .bool p.a.s, .int .i64 p.a.d, .int .i64 p.b.y, .int .i64 p.b.m, .bool p.b.s, .int .i64 p.b.d, vo, vd, vc] := by rw [hv]; exact Qb.at _ _ _ _ (by simp)
 clear hv
 obtain ⟨b2, hb2⟩ := Qg (w.heap.size + 1)
 rw [← hb2] at B2 ⊢
 obtain ⟨b1, hb1⟩ := Qg (w.heap.size)
 rw [← hb1] at B1 ⊢
 have hbr : w.heap.size ≤ b2 := by omega
 have hbr1 : w.heap.size ≤ b1 := by omega
 have hn21 : b2 ≠ b1 := by omega
 clear hb1 hb2
 have C := hC.ext E
 have P := hP.ext E
 clear hC hP
 obtain ⟨TO, co, rfl, _, co1, co2, _⟩ := P.o
 obtain ⟨TC, cc, rfl, _, cc1, cc2, _⟩ := P.c
 obtain ⟨TD, cd, vs, rfl, _, cd1, cd2, _, _⟩ := P.d
 have no : p.o.length ≤ 9223372036854775807 := Nat.le_trans co1 (Nat.le_trans co2 (by decide))
 have nc : p.c.length ≤ 9223372036854775807 := Nat.le_trans cc1 (Nat.le_trans cc2 (by decide))
 have nd : p.d.length ≤ 9223372036854775807 := Nat.le_trans cd1 (Nat.le_trans cd2 (by decide))
 have KO := fun w h => V2 TO p.o.length co (Qz p.o) w h co1 no
 have KC := fun w h => V2 TC p.c.length cc (Qz p.c) w h cc1 nc
 clear co1 co2 cc1 cc2 cd1 cd2
 have HH : Hid (c.perHead p = (Zp p.h && c.spanV p.a p.b && decide (Jh (Qz p.o) p.o.length = 0) && decide (Jh (Qz p.c) p.c.length = 0) && decide (p.d.length ≤ 64))) := rfl
 have hbad : Hid (c.perHead p = false → R = false) := fun h => by rw [HR.out]; exact Sr h
 obtain ⟨nm, hnm⟩ := Qg (Zp p.h)
 have NN := fun w => W9 p.h w
 rw [← hnm] at HH NN
 replace hnm := Lib.hid hnm
 have NSP : Hid (c.spanV p.a p.b = _) := show c.spanV p.a p.b = (decide (0 < c.numV p.a) && decide (c.numV p.a ≤ c.numV p.b)) from rfl
 unfold Qf.spanV at HH
 generalize (decide (0 < c.numV p.a) && decide (c.numV p.a ≤ c.numV p.b)) = sp at *
 clear NSP
 obtain ⟨eo, heo⟩ := Qg (Jh (Qz p.o) p.o.length)
 rw [← heo] at HH KO
 replace heo := Lib.hid heo
 obtain ⟨ec, hec⟩ := Qg (Jh (Qz p.c) p.c.length)
 rw [← hec] at HH KC
 replace hec := Lib.hid hec
 obtain ⟨k0, k1⟩ := B1.c2
 have lk := B1.lt
 obtain ⟨p0, p1, p2, p3, p4, p5, p6, p7, p8, p9, p10, p11⟩ := B2.c12
 have lp := B2.lt
 by_cases hz : nm = false
 ·have hr := hbad.out (by rw [HH.out, hz]; rfl)
  subst hz
  clear HH hbad HR NS KO KC hnm heo hec
  go_wp2_with (go_at_call 87; (with_reducible refine Calls.mono (NN _) ?_); rintro e wn ⟨rfl, rfl⟩)
  go_ret
  exact ⟨by rw [hr]; rfl, E⟩
 obtain rfl : nm = true := by simpa using hz
 clear hz
 by_cases hz : sp = false
 ·have hr := hbad.out (by rw [HH.out, hz]; rfl)
  subst hz
  clear HH hbad HR KO KC hnm heo hec
  go_wp2_with (first | (go_at_call 87; (with_reducible refine Calls.mono (NN _) ?_); rintro e wn ⟨rfl, rfl⟩) | (go_at_call 83; (with_reducible refine Calls.mono (NS _ C) ?_); rintro e w1 ⟨rfl, h1⟩; replace E := E.trans h1; replace C := C.ext h1; replace P := P.ext h1; replace B1 := B1.ext h1; replace B2 := B2.ext h1; clear h1 k0 k1 lk p0 p1 p2 p3 p4 p5 p6 p7 p8 p9 p10 p11 lp; obtain ⟨k0, k1⟩ := B1.c2; have lk := B1.lt; obtain ⟨p0, p1, p2, p3, p4, p5, p6, p7, p8, p9, p10, p11⟩ := B2.c12; have lp := B2.lt))
  go_ret
  exact ⟨by rw [hr]; rfl, E⟩
 obtain rfl : sp = true := by simpa using hz
 clear hz
 by_cases hz : eo = 0
 rotate_left
 ·have hr := hbad.out (by rw [HH.out, decide_eq_false hz]; rfl)
  have g0 : (eo == 0) = false := beq_eq_false_iff_ne.2 hz
  have g0n : (eo != 0) = true := by rw [bne, g0]; rfl
  clear HH hbad HR KC hnm heo hec hz
  go_wp2_with (first | (go_at_call 87; (with_reducible refine Calls.mono (NN _) ?_); rintro e wn ⟨rfl, rfl⟩) | (go_at_call 83; (with_reducible refine Calls.mono (NS _ C) ?_); rintro e w1 ⟨rfl, h1⟩; replace E := E.trans h1; replace C := C.ext h1; replace P := P.ext h1; replace B1 := B1.ext h1; replace B2 := B2.ext h1; clear h1 k0 k1 lk p0 p1 p2 p3 p4 p5 p6 p7 p8 p9 p10 p11 lp; obtain ⟨k0, k1⟩ := B1.c2; have lk := B1.lt; obtain ⟨p0, p1, p2, p3, p4, p5, p6, p7, p8, p9, p10, p11⟩ := B2.c12; have lp := B2.lt) | (go_at_call 52; (with_reducible refine Calls.mono (KO _ (Uq P.o)) ?_); rintro e w2 ⟨rfl, h1⟩; replace E := E.trans h1; replace C := C.ext h1; replace P := P.ext h1; replace B1 := B1.ext h1; replace B2 := B2.ext h1; clear h1 k0 k1 lk p0 p1 p2 p3 p4 p5 p6 p7 p8 p9 p10 p11 lp; obtain ⟨k0, k1⟩ := B1.c2; have lk := B1.lt; obtain ⟨p0, p1, p2, p3, p4, p5, p6, p7, p8, p9, p10, p11⟩ := B2.c12; have lp := B2.lt))
  go_ret
  exact ⟨by rw [hr]; rfl, E⟩
 subst hz
 by_cases hz : ec = 0
 rotate_left
 ·have hr := hbad.out (by rw [HH.out, decide_eq_false hz, Bool.and_false]; rfl)
  have g0 : (ec == 0) = false := beq_eq_false_iff_ne.2 hz
  have g0n : (ec != 0) = true := by rw [bne, g0]; rfl
  clear HH hbad HR hnm heo hec hz
  go_wp2_with (first | (go_at_call 87; (with_reducible refine Calls.mono (NN _) ?_); rintro e wn ⟨rfl, rfl⟩) | (go_at_call 83; (with_reducible refine Calls.mono (NS _ C) ?_); rintro e w1 ⟨rfl, h1⟩; replace E := E.trans h1; replace C := C.ext h1; replace P := P.ext h1; replace B1 := B1.ext h1; replace B2 := B2.ext h1; clear h1 k0 k1 lk p0 p1 p2 p3 p4 p5 p6 p7 p8 p9 p10 p11 lp; obtain ⟨k0, k1⟩ := B1.c2; have lk := B1.lt; obtain ⟨p0, p1, p2, p3, p4, p5, p6, p7, p8, p9, p10, p11⟩ := B2.c12; have lp := B2.lt) | (go_at_call 52; (with_reducible refine Calls.mono (KO _ (Uq P.o)) ?_); rintro e w2 ⟨rfl, h1⟩; replace E := E.trans h1; replace C := C.ext h1; replace P := P.ext h1; replace B1 := B1.ext h1; replace B2 := B2.ext h1; clear h1 k0 k1 lk p0 p1 p2 p3 p4 p5 p6 p7 p8 p9 p10 p11 lp; obtain ⟨k0, k1⟩ := B1.c2; have lk := B1.lt; obtain ⟨p0, p1, p2, p3, p4, p5, p6, p7, p8, p9, p10, p11⟩ := B2.c12; have lp := B2.lt) | (go_at_call 52; (with_reducible refine Calls.mono (KC _ (Uq P.c)) ?_); rintro e w3 ⟨rfl, h1⟩; replace E := E.trans h1; replace C := C.ext h1; replace P := P.ext h1; replace B1 := B1.ext h1; replace B2 := B2.ext h1; clear h1 k0 k1 lk p0 p1 p2 p3 p4 p5 p6 p7 p8 p9 p10 p11 lp; obtain ⟨k0, k1⟩ := B1.c2; have lk := B1.lt; obtain ⟨p0, p1, p2, p3, p4, p5, p6, p7, p8, p9, p10, p11⟩ := B2.c12; have lp := B2.lt))
  go_ret
  exact ⟨by rw [hr]; rfl, E⟩
 subst hz
 by_cases hz : p.d.length ≤ 64
 rotate_left
 ·have hr := hbad.out (by rw [HH.out, decide_eq_false hz, Bool.and_false])
  have d1 : decide ((64 : Int) < (p.d.length : Int)) = true := decide_eq_true (by omega)
  clear HH hbad HR hnm heo hec hz
  go_wp2_with (first | (go_at_call 87; (with_reducible refine Calls.mono (NN _) ?_); rintro e wn ⟨rfl, rfl⟩) | (go_at_call 83; (with_reducible refine Calls.mono (NS _ C) ?_); rintro e w1 ⟨rfl, h1⟩; replace E := E.trans h1; replace C := C.ext h1; replace P := P.ext h1; replace B1 := B1.ext h1; replace B2 := B2.ext h1; clear h1 k0 k1 lk p0 p1 p2 p3 p4 p5 p6 p7 p8 p9 p10 p11 lp; obtain ⟨k0, k1⟩ := B1.c2; have lk := B1.lt; obtain ⟨p0, p1, p2, p3, p4, p5, p6, p7, p8, p9, p10, p11⟩ := B2.c12; have lp := B2.lt) | (go_at_call 52; (with_reducible refine Calls.mono (KO _ (Uq P.o)) ?_); rintro e w2 ⟨rfl, h1⟩; replace E := E.trans h1; replace C := C.ext h1; replace P := P.ext h1; replace B1 := B1.ext h1; replace B2 := B2.ext h1; clear h1 k0 k1 lk p0 p1 p2 p3 p4 p5 p6 p7 p8 p9 p10 p11 lp; obtain ⟨k0, k1⟩ := B1.c2; have lk := B1.lt; obtain ⟨p0, p1, p2, p3, p4, p5, p6, p7, p8, p9, p10, p11⟩ := B2.c12; have lp := B2.lt) | (go_at_call 52; (with_reducible refine Calls.mono (KC _ (Uq P.c)) ?_); rintro e w3 ⟨rfl, h1⟩; replace E := E.trans h1; replace C := C.ext h1; replace P := P.ext h1; replace B1 := B1.ext h1; replace B2 := B2.ext h1; clear h1 k0 k1 lk p0 p1 p2 p3 p4 p5 p6 p7 p8 p9 p10 p11 lp; obtain ⟨k0, k1⟩ := B1.c2; have lk := B1.lt; obtain ⟨p0, p1, p2, p3, p4, p5, p6, p7, p8, p9, p10, p11⟩ := B2.c12; have lp := B2.lt))
  go_ret
  exact ⟨by rw [hr]; rfl, E⟩
 have hh : c.perHead p = true := by rw [HH.out, decide_eq_true hz]; rfl
 have HR2 : Hid (R = (List.range p.d.length).all (c.dealOk p)) := by unfold Hid; rw [HR.out]; unfold Qf.perOk; rw [hh]; rfl
 have d1 : decide ((64 : Int) < (p.d.length : Int)) = false := decide_eq_false (by omega)
 clear HH hbad HR hnm heo hec hz hh
 have NA := fun w h => Xk A A' ca cb c p.a w h
 have NB := fun w h => Xk A A' ca cb c p.b w h
 go_upto_region 3 with (first | (go_at_call 87; (with_reducible refine Calls.mono (NN _) ?_); rintro e wn ⟨rfl, rfl⟩) | (go_at_call 83; (with_reducible refine Calls.mono (NS _ C) ?_); rintro e w1 ⟨rfl, h1⟩; replace E := E.trans h1; replace C := C.ext h1; replace P := P.ext h1; replace B1 := B1.ext h1; replace B2 := B2.ext h1; clear h1 k0 k1 lk p0 p1 p2 p3 p4 p5 p6 p7 p8 p9 p10 p11 lp; obtain ⟨k0, k1⟩ := B1.c2; have lk := B1.lt; obtain ⟨p0, p1, p2, p3, p4, p5, p6, p7, p8, p9, p10, p11⟩ := B2.c12; have lp := B2.lt) | (go_at_call 52; (with_reducible refine Calls.mono (KO _ (Uq P.o)) ?_); rintro e w2 ⟨rfl, h1⟩; replace E := E.trans h1; replace C := C.ext h1; replace P := P.ext h1; replace B1 := B1.ext h1; replace B2 := B2.ext h1; clear h1 k0 k1 lk p0 p1 p2 p3 p4 p5 p6 p7 p8 p9 p10 p11 lp; obtain ⟨k0, k1⟩ := B1.c2; have lk := B1.lt; obtain ⟨p0, p1, p2, p3, p4, p5, p6, p7, p8, p9, p10, p11⟩ := B2.c12; have lp := B2.lt) | (go_at_call 52; (with_reducible refine Calls.mono (KC _ (Uq P.c)) ?_); rintro e w3 ⟨rfl, h1⟩; replace E := E.trans h1; replace C := C.ext h1; replace P := P.ext h1; replace B1 := B1.ext h1; replace B2 := B2.ext h1; clear h1 k0 k1 lk p0 p1 p2 p3 p4 p5 p6 p7 p8 p9 p10 p11 lp; obtain ⟨k0, k1⟩ := B1.c2; have lk := B1.lt; obtain ⟨p0, p1, p2, p3, p4, p5, p6, p7, p8, p9, p10, p11⟩ := B2.c12; have lp := B2.lt))
 clear NS KO KC NN
 refine Zd w3 Qo (by kernel_rfl) (by repeat (first | exact Qa.refl _ | (refine Qa.alloc ?_ _) | (refine Qa.trans ?_ (by assumption)))) ?_
 intro hne hrx hry
 try simp only []
 try simp only [List.append_eq, List.cons_append, List.nil_append]
 skip
 repeat (first
  | go_big_quiet_skip
  | (go_big_quiet_want; go_big_quiet_op; go_big_quiet_on)
  | (go_big_quiet_want; go_big_quiet_op; apply Exists.intro; refine ⟨fun u => ?_, ?_⟩
     ·first
       | (go_at_call 58; (with_reducible refine Calls.mono (NA _ (C.ext u.e)) ?_); rintro e w' ⟨rfl, hb⟩; exact ⟨rfl, u.back hb⟩)
       | (go_at_call 58; (with_reducible refine Calls.mono (NB _ (C.ext u.e)) ?_); rintro e w' ⟨rfl, hb⟩; exact ⟨rfl, u.back hb⟩)
     go_big_quiet_on))
 clear hne hry hrx
 refine wpQuiet_nil ?_
 intro vl hvl
 obtain ⟨hcvl, hfvl, hzvl⟩ := Qa.rules hvl
 try simp only [World.size_alloc] at hzvl
 obtain ⟨hcbvl, hfbvl, hzbvl⟩ := Qa.rules (show Qa w3 vl from (by repeat (first | exact Qa.refl _ | (refine Qa.alloc ?_ _) | (refine Qa.trans ?_ (by assumption)))))
 clear hcvl hfvl
 replace E := E.trans hvl
 replace C := C.ext hvl
 replace P := P.ext hvl
 replace B1 := B1.ext hvl
 replace B2 := B2.ext hvl
 clear k0 k1 lk p0 p1 p2 p3 p4 p5 p6 p7 p8 p9 p10 p11 lp NA NB
 obtain ⟨p0, p1, p2, p3, p4, p5, p6, p7, p8, p9, p10, p11⟩ := B2.c12
 have lp := B2.lt
 go_upto_region 5 with (fail)
 clear p0 p1 p2 p3 p4 p5 p6 p7 p8 p9 p10 p11 lp
 obtain ⟨n, hnl⟩ := Qg (p.d.length)
 rw [← hnl] at nd d1 HR2 ⊢
 replace hnl := Lib.hid hnl
 obtain ⟨_, _, vs', e1, hD, _, _, _, hat⟩ := P.d
 cases e1
 rw [← hnl.out] at hD hat
 replace hD : Qn vl TD n 7 (fun i => Qs (p.dl i) (vs' i)) := hD
 replace hat : Hid (∀ i, i < n → Zn vl (vs' i) (p.dl i).l) := hat
 clear P
 go_loopw [5, 52] (fun lv iv wr => ∃ k : Nat, k ≤ n ∧ iv = .int .i64 k ∧ lv = .int .i64 (c.lastD p k) ∧ Hid (∀ j, j < k → c.dealOk p j = true) ∧ Qa vl wr) (fun _ i _ => n - (intOf i).toNat)
 case atStart => exact ⟨0, Nat.zero_le _, rfl, rfl, (fun j h => absurd h (by omega)), Qa.refl _⟩
 case round =>
  obtain ⟨k, hk, rfl, rfl, hall, hE⟩ := hrel
  obtain ⟨wo, rfl⟩ := Qg wr
  by_cases hlt : k < n
  ·obtain ⟨b, off, rfl, hb, hc⟩ := (hD.ext hE) (by omega)
   have hL := (hat.out k hlt).ext hE
   have c0 : wo.cell? ⟨b, off + k * 7, none⟩ = some (.int .i64 (p.dl k).on.y) := by simpa [Qs] using hc k 0 _ hlt rfl
   have c1 : wo.cell? ⟨b, off + k * 7 + 1, none⟩ = some (.int .i64 (p.dl k).on.m) := by simpa [Qs] using hc k 1 _ hlt rfl
   have c2 : wo.cell? ⟨b, off + k * 7 + 2, none⟩ = some (.bool (p.dl k).on.s) := by simpa [Qs] using hc k 2 _ hlt rfl
   have c3 : wo.cell? ⟨b, off + k * 7 + 3, none⟩ = some (.int .i64 (p.dl k).on.d) := by simpa [Qs] using hc k 3 _ hlt rfl
   have c4 : wo.cell? ⟨b, off + k * 7 + 4, none⟩ = some (.bool (p.dl k).i) := by simpa [Qs] using hc k 4 _ hlt rfl
   have c5 : wo.cell? ⟨b, off + k * 7 + 5, none⟩ = some (.string (p.dl k).w) := by simpa [Qs] using hc k 5 _ hlt rfl
   have c6 : wo.cell? ⟨b, off + k * 7 + 6, none⟩ = some (vs' k) := by simpa [Qs] using hc k 6 _ hlt rfl
   have NG := fun w h => Av (vs' k) (p.dl k).l w h
   have ND := fun w h => Xk A A' ca cb c (p.dl k).on w h
   have NN := fun w => W9 (p.dl k).w w
   have HK : Hid (c.dealOk p k = !(decide (c.numV (p.dl k).on < c.lastD p k) || decide (c.numV p.b < c.numV (p.dl k).on) || !Zp (p.dl k).w || ((p.dl k).w.toList == p.h.toList) || !Y3 (p.dl k).l)) := by
    unfold Hid; rw [Cm, Km]
   have hno : Hid (c.dealOk p k = false → R = false) := fun h => by
    rw [HR2.out]
    exact List.all_eq_false.2 ⟨k, by simpa using hlt, by simp [h]⟩
   have hyes : Hid (c.dealOk p k = true → ∀ j, j < k + 1 → c.dealOk p j = true) := fun h j hj => by
    by_cases e : j = k
    ·subst e; exact h
    ·exact hall.out j (by omega)
   have hlo : Hid (c.lastD p (k + 1) = c.numV (p.dl k).on) := rfl
   obtain ⟨VL, hvl⟩ := Qg (vs' k)
   rw [← hvl] at c6 NG hL
   clear hvl hc hall HR2 hD hat
   obtain ⟨TL, cl, hVL, _⟩ := id hL
   subst hVL
   generalize c.dealOk p k = dk at *
   generalize c.lastD p k = L0 at *
   generalize c.numV (p.dl k).on = L1 at *
   generalize c.numV p.b = L2 at *
   generalize Zp (p.dl k).w = nm at *
   generalize hse : ((p.dl k).w.toList == p.h.toList) = se at *
   generalize Y3 (p.dl k).l = gv1 at *
   go_upto_region 7 with (fail)
   obtain ⟨v3, hv⟩ := Qg (wo.alloc (.cells #[.int .i64 (p.dl k).on.y, .int .i64 (p.dl k).on.m, .bool (p.dl k).on.s, .int .i64 (p.dl k).on.d, .bool (p.dl k).i, .string (p.dl k).w, .slice TL (p.dl k).l.length cl] 70))
   rw [← hv]
   have E3 : Qa wo v3 := by rw [hv]; exact (Qa.refl _).alloc _
   have H3 : Qb v3 wo.heap.size 70 #[.int .i64 (p.dl k).on.y, .int .i64 (p.dl k).on.m, .bool (p.dl k).on.s, .int .i64 (p.dl k).on.d, .bool (p.dl k).i, .string (p.dl k).w, .slice TL (p.dl k).l.length cl] := by rw [hv]; exact Qb.new _ _ _
   clear hv
   generalize wo.heap.size = b3 at *
   clear c0 c1 c2 c3 c4 c5 c6
   replace hL := hL.ext E3
   replace hE := hE.trans E3
   clear E3
   have B1e := B1.ext hE
   obtain ⟨k0, k1⟩ := B1e.c2
   have lk := B1e.lt
   obtain ⟨q0, q1, q2, q3, q4, q5, q6⟩ := J2 H3
   have lq := H3.lt
   go_upto_region 8 with (go_at_call 58; (with_reducible refine Calls.mono (ND _ (C.ext hE)) ?_); rintro e w4 ⟨rfl, h4⟩)
   replace hE := hE.trans h4
   replace H3 := H3.ext h4
   replace hL := hL.ext h4
   clear h4 q0 q1 q2 q3 q4 q5 q6 lq k0 k1 lk B1e ND
   obtain ⟨q0, q1, q2, q3, q4, q5, q6⟩ := J2 H3
   have lq := H3.lt
   have B2e := B2.ext hE
   obtain ⟨p0, p1, p2, p3, p4, p5, p6, p7, p8, p9, p10, p11⟩ := B2e.c12
   have lp := B2e.lt
   by_cases a1 : L1 < L0
   ·have g1 : decide (L1 < L0) = true := decide_eq_true a1
    have hr := hno.out (by rw [HK.out, g1]; rfl)
    clear HK hno hyes hlo a1 hse
    go_wp2
    go_ret
    exact ⟨by rw [hr]; rfl, E.trans hE⟩
   have g1 : decide (L1 < L0) = false := decide_eq_false a1
   rw [g1] at HK
   clear a1
   by_cases a2 : L2 < L1
   ·have g2 : decide (L2 < L1) = true := decide_eq_true a2
    have hr := hno.out (by rw [HK.out, g2]; rfl)
    clear HK hno hyes hlo a2 hse
    go_wp2
    go_ret
    exact ⟨by rw [hr]; rfl, E.trans hE⟩
   have g2 : decide (L2 < L1) = false := decide_eq_false a2
   rw [g2] at HK
   clear a2
   cases nm
   ·have hr := hno.out (by rw [HK.out]; rfl)
    clear HK hno hyes hlo hse
    go_wp2_with (first | (go_at_call 87; (with_reducible refine Calls.mono (NN _) ?_); rintro e wn ⟨rfl, rfl⟩))
    go_ret
    exact ⟨by rw [hr]; rfl, E.trans hE⟩
   cases se
   rotate_left
   ·have hr := hno.out (by rw [HK.out]; rfl)
    clear HK hno hyes hlo
    go_wp2_with (first | (go_at_call 87; (with_reducible refine Calls.mono (NN _) ?_); rintro e wn ⟨rfl, rfl⟩))
    go_ret
    exact ⟨by rw [hr]; rfl, E.trans hE⟩
   cases gv1
   ·have hr := hno.out (by rw [HK.out]; rfl)
    clear HK hno hyes hlo
    go_wp2_with (first | (go_at_call 87; (with_reducible refine Calls.mono (NN _) ?_); rintro e wn ⟨rfl, rfl⟩) | (go_at_call 132; (with_reducible refine Calls.mono (NG _ hL) ?_); rintro e w6 ⟨rfl, h6⟩))
    go_ret
    exact ⟨by rw [hr]; rfl, (E.trans hE).trans h6⟩
   have hx := Lib.hid (hyes.out (by rw [HK.out]; rfl))
   clear HK hno hyes
   go_wp2_with (first | (go_at_call 87; (with_reducible refine Calls.mono (NN _) ?_); rintro e wn ⟨rfl, rfl⟩) | (go_at_call 132; (with_reducible refine Calls.mono (NG _ hL) ?_); rintro e w6 ⟨rfl, h6⟩))
   exact ⟨⟨k + 1, by omega, by go_num, by rw [hlo.out], hx, hE.trans h6⟩, by simp [intOf]; omega⟩
  ·obtain rfl : k = n := by omega
   have hr : R = true := by
    rw [HR2.out]
    exact List.all_eq_true.2 fun j hj => hall.out j (by simpa using hj)
   clear HR2 hall
   subst hr
   go_wp2
   go_ret
   exact ⟨rfl, E.trans hE⟩
theorem Ns (l : List Lt) : l.flatMap Jm = Qy (Q4 (Qz l)) l.length := by
 conv => lhs; rw [← Rj l]
 unfold Jd Qy
 rw [List.flatMap_map]; rfl
theorem Wl {w : World} {base k : Nat} {v : Value} {l : List Lt} (h : w.ownsRow base 68 2 v k (l.flatMap Jm)) : Zn w v l := by
 have hk := h.1
 rw [N7] at hk
 obtain rfl : k = l.length := by omega
 rw [Ns] at h
 obtain ⟨F, c, h1, h2, h3, h4, h5, _⟩ := W7 (f := Q4 (Qz l)) (fun _ => rfl) h
 exact ⟨F, c, h1, h2, h3, h4, h5⟩
theorem Vc (w : World) : Zn w (.slice none 0 0) [] := ⟨none, 0, rfl, Qn.nil, Nat.le_refl _, Nat.zero_le _, fun _ => ⟨rfl, rfl⟩⟩
def Wh : Pd := ⟨⟨#[]⟩, ⟨0, 0, false, 0⟩, ⟨0, 0, false, 0⟩, [], [], []⟩
def Jp (p : Pd) (vo vd vc : Value) : List Value := [.string p.h, .int .i64 p.a.y, .int .i64 p.a.m, .bool p.a.s, .int .i64 p.a.d, .int .i64 p.b.y, .int .i64 p.b.m, .bool p.b.s, .int .i64 p.b.d, vo, vd, vc]
/-- A slice value that reads as a list of periods. -/
def Wx (w : World) (v : Value) (l : List Pd) : Prop := ∃ D cap, ∃ vo vd vc : Nat → Value, v = .slice D l.length cap ∧ Qn w D l.length 12 (fun i => Jp (l.getD i Wh) (vo i) (vd i) (vc i)) ∧ l.length ≤ cap ∧ cap ≤ maxLen ∧ (D = none → l.length = 0 ∧ cap = 0) ∧ ∀ i, i < l.length → Zz w (l.getD i Wh) (vo i) (vd i) (vc i)
theorem Wx.ext {w w' : World} {v : Value} {l : List Pd} (h : Wx w v l) (e : Qa w w') : Wx w' v l := by
 obtain ⟨D, cap, vo, vd, vc, h1, h2, h3, h4, h5, h6⟩ := h
 exact ⟨D, cap, vo, vd, vc, h1, h2.ext e, h3, h4, h5, fun i hi => (h6 i hi).ext e⟩
theorem Qbj {c : Qf} {p : Pd} (h : c.perE p = 0) : p.o.length ≤ 64 := by
 unfold Qf.perE at h
 cases hv : c.valid
 ·rw [hv, if_neg (by simp)] at h; exact absurd h (by decide)
 ·rw [hv, if_pos rfl] at h
  cases ho : c.perOk p
  ·rw [ho, if_neg (by simp)] at h; exact absurd h (by decide)
  ·unfold Qf.perOk Qf.perHead at ho
   simp only [Bool.and_eq_true, decide_eq_true_eq] at ho
   exact (N9 ho.1.1.1.2).1
def Qf.persE (c : Qf) (l : List Pd) : Int := if l.all c.perOk then 0 else 83
def Qf.validE (c : Qf) (l : List Pd) : Int := if c.chk ≠ 0 then c.chk else c.persE l
theorem Qcp (c : Qf) (p : Pd) : c.validE [p] = c.perE p := by
 unfold Qf.validE Qf.perE Qf.chk Qf.persE
 cases c.valid <;> simp
theorem Dm {l : List Pd} {P : Pd → Bool} {k : Nat} (hk : k < l.length) (h : P (l.getD k Wh) = false) : l.all P = false :=
 List.all_eq_false.2 ⟨l[k], List.getElem_mem hk, by simpa [List.getD_eq_getElem?_getD, hk] using h⟩
theorem Dn {l : List Pd} {P : Pd → Bool} (h : ∀ k, k < l.length → P (l.getD k Wh) = true) : l.all P = true :=
 List.all_eq_true.2 fun x hx => by
  obtain ⟨k, hk, rfl⟩ := List.mem_iff_getElem.1 hx
  simpa [List.getD_eq_getElem?_getD, hk] using h k hk
theorem Qbm {w : World} {b : Nat} {t : TypeId} {p : Pd} {vo vd vc : Value} (h : Qb w b t (Jp p vo vd vc).toArray) (hP : Zz w p vo vd vc) : Wx w (.slice (some ⟨b, 0, none⟩) 1 1) [p] :=
 ⟨some ⟨b, 0, none⟩, 1, fun _ => vo, fun _ => vd, fun _ => vc, rfl, Ud (f := fun _ => Jp p vo vd vc) (n := 1) (fun _ => rfl) (by simpa [Qy] using h) |>.congr (fun i hi => by obtain rfl : i = 0 := (by simp at hi; omega); rfl), Nat.le_refl _, by decide, fun h => (by cases h), fun i hi => by obtain rfl : i = 0 := (by simp at hi; omega); exact hP⟩
theorem Ky (v : Value) (l : List Lt) (w : World) (hL : Zn w v l) (hn : l.length ≤ 1000000) :
  Calls Tryz.prog 47 #[v] w fun e w' => ∃ v', e = .returned v' ∧ Qa w w' ∧ w'.ownsRow w.heap.size 68 2 v' l.length (l.flatMap Jm) := by
 rw [Ns]
 obtain ⟨T, cap, rfl, hT, hcap, hmax, hnil⟩ := hL
 generalize l.length = n at *
 generalize Qz l = f at *
 have q23 : ∀ (w : World) (a : Option Addr) (n c n' c' : Nat), (binOp .eql 28 (.slice a n c) (.slice none n' c')).run Tryz.prog w = .ok (.bool a.isNone) w := fun w a n c n' c' => Lib.run_eql_slice_nil w _ _ a n c n' c' Tryz.underlying28
 cases T with
 | none =>
  obtain ⟨rfl, rfl⟩ := hnil rfl
  go_enter Tryz.func47, Tryz.ntmps47
  go_wp2
  go_ret
  exact ⟨_, rfl, Qa.refl _, World.ownsRow_nil _ _ _ _⟩
 | some a =>
  obtain ⟨i0, hi, hz0, hz1, hz2⟩ := info_parts Fo
  have hlen := Ye (f := Q4 f) (sz := 2) (fun _ => rfl) n
  have hone : ∀ u ∈ Qy (Q4 f) n, u.oneCell' = true := Nt (f := Q4 f) (n := n) (fun i u hu => by simp [Q4] at hu; rcases hu with rfl | rfl <;> simp [Value.oneCell'])
  have HN := fun v (h : Qn v (some a) n 2 (Q4 f)) => Ul (f := Q4 f) (sz := 2) (fun _ => rfl) (by decide) h
  go_enter Tryz.func47, Tryz.ntmps47
  go_wp2_with (at_builtin; refine wpList_append_own _ rfl _ _ 28 rfl w.heap.size 68 i0 (.agg #[.string ⟨#[]⟩, .int .i64 0]) 2 24 Tryz.underlying28 hi hz0 hz1 hz2 rfl (by decide) _ _ _ rfl (World.ownsRow_made w #[] 0 (Nat.le_refl _) (Nat.zero_le _) rfl) a n cap (Qy (Q4 f) n) rfl hlen (HN _ (hT.ext ((Qa.refl _).alloc _)) a rfl) hone (by unfold maxLen; omega) (by omega) (by simp) ?_; intro v' w1 hown hgrow hnil2)
  go_ret
  refine ⟨v', rfl, ((Qa.refl w).alloc _).grown hgrow (fun q hq => by have h : some w.heap.size = some q := hq; cases h; exact Nat.le_refl _), by simpa using hown⟩
theorem Qbl (A A' : Option Addr) (ca cb : Nat) (c : Qf) (v : Value) (l : List Pd) (w : World) (hC : Q0 w A ca A' cb c) (hP : Wx w v l) :
  Calls Tryz.prog 66 #[.agg #[.slice A c.nk ca, .slice A' c.ny cb], v] w fun e w' => e = .returned (.int .i64 (c.persE l)) ∧ Qa w w' := by
 obtain ⟨D, cap, vo, vd, vc, rfl, hD, hcap, hmax, _, hat⟩ := hP
 have hn : l.length ≤ 9223372036854775807 := Nat.le_trans hcap (Nat.le_trans hmax (by decide))
 obtain ⟨R, hR0⟩ := Qg (c.persE l)
 rw [← hR0]
 have HR := Lib.hid hR0
 clear hR0
 obtain ⟨n, hnl⟩ := Qg (l.length)
 rw [← hnl] at hn hD hat hcap ⊢
 replace hnl := Lib.hid hnl
 obtain ⟨g, hg⟩ := Qg (fun i => l.getD i Wh)
 have hg' : ∀ i, l.getD i Wh = g i := fun i => by rw [hg]
 simp only [hg'] at hD hat
 replace hg := Lib.hid hg
 clear hg'
 replace hat := Lib.hid hat
 go_enter Tryz.func66, Tryz.ntmps66
 go_upto_region 1 with (fail)
 obtain ⟨v, hv⟩ := Qg (w.alloc (.cells #[.slice A c.nk ca, .slice A' c.ny cb] 61))
 rw [← hv]
 have E : Qa w v := by rw [hv]; exact (Qa.refl _).alloc _
 have B1 : Qb v w.heap.size 61 #[.slice A c.nk ca, .slice A' c.ny cb] := by rw [hv]; exact (Qb.new _ _ _)
 clear hv
 obtain ⟨b1, hb1⟩ := Qg (w.heap.size)
 rw [← hb1] at B1 ⊢
 have hbr : w.heap.size ≤ b1 := by omega
 clear hb1
 have C := hC.ext E
 replace hD := hD.ext E
 replace hat := Lib.hid fun i hi => (hat.out i hi).ext E
 clear hC
 go_upto_region 2 with (fail)
 go_loopw [9] (fun i wr => ∃ k : Nat, k ≤ n ∧ i = .int .i64 k ∧ Hid (∀ j, j < k → c.perOk (g j) = true) ∧ Qa v wr) (fun i _ => n - (intOf i).toNat)
 case atStart => exact ⟨0, Nat.zero_le _, rfl, (fun j h => absurd h (by omega)), Qa.refl _⟩
 case round =>
  obtain ⟨k, hk, rfl, hall, hE⟩ := hrel
  obtain ⟨wo, rfl⟩ := Qg wr
  by_cases hlt : k < n
  ·obtain ⟨b, off, rfl, hb, hc⟩ := (hD.ext hE) (by omega)
   have hP := hat.out k hlt
   have c0 : wo.cell? ⟨b, off + k * 12, none⟩ = some (.string (g k).h) := by simpa [Jp] using hc k 0 _ hlt rfl
   have c1 : wo.cell? ⟨b, off + k * 12 + 1, none⟩ = some (.int .i64 (g k).a.y) := by simpa [Jp] using hc k 1 _ hlt rfl
   have c2 : wo.cell? ⟨b, off + k * 12 + 2, none⟩ = some (.int .i64 (g k).a.m) := by simpa [Jp] using hc k 2 _ hlt rfl
   have c3 : wo.cell? ⟨b, off + k * 12 + 3, none⟩ = some (.bool (g k).a.s) := by simpa [Jp] using hc k 3 _ hlt rfl
   have c4 : wo.cell? ⟨b, off + k * 12 + 4, none⟩ = some (.int .i64 (g k).a.d) := by simpa [Jp] using hc k 4 _ hlt rfl
   have c5 : wo.cell? ⟨b, off + k * 12 + 5, none⟩ = some (.int .i64 (g k).b.y) := by simpa [Jp] using hc k 5 _ hlt rfl
   have c6 : wo.cell? ⟨b, off + k * 12 + 6, none⟩ = some (.int .i64 (g k).b.m) := by simpa [Jp] using hc k 6 _ hlt rfl
   have c7 : wo.cell? ⟨b, off + k * 12 + 7, none⟩ = some (.bool (g k).b.s) := by simpa [Jp] using hc k 7 _ hlt rfl
   have c8 : wo.cell? ⟨b, off + k * 12 + 8, none⟩ = some (.int .i64 (g k).b.d) := by simpa [Jp] using hc k 8 _ hlt rfl
   have c9 : wo.cell? ⟨b, off + k * 12 + 9, none⟩ = some (vo k) := by simpa [Jp] using hc k 9 _ hlt rfl
   have c10 : wo.cell? ⟨b, off + k * 12 + 10, none⟩ = some (vd k) := by simpa [Jp] using hc k 10 _ hlt rfl
   have c11 : wo.cell? ⟨b, off + k * 12 + 11, none⟩ = some (vc k) := by simpa [Jp] using hc k 11 _ hlt rfl
   have NP := fun w h1 h2 => Qbk A A' ca cb c (g k) (vo k) (vd k) (vc k) w h1 h2
   have hno : Hid (c.perOk (g k) = false → R = 83) := fun h => by
    rw [HR.out]; unfold Qf.persE
    rw [if_neg (by rw [Bool.not_eq_true]; exact Dm (k := k) (by rw [← hnl.out]; exact hlt) (by rw [hg.out] at h; exact h))]
   have hyes : Hid (c.perOk (g k) = true → ∀ j, j < k + 1 → c.perOk (g j) = true) := fun h j hj => by
    by_cases e : j = k
    ·subst e; exact h
    ·exact hall.out j (by omega)
   obtain ⟨VO, VD, VC, hvo, hvd, hvc⟩ : ∃ x y z, x = vo k ∧ y = vd k ∧ z = vc k := ⟨_, _, _, rfl, rfl, rfl⟩
   rw [← hvo] at c9 NP hP
   rw [← hvd] at c10 NP hP
   rw [← hvc] at c11 NP hP
   clear hvo hvd hvc hc hall HR hat hg
   obtain ⟨t1, s1, e1, _⟩ := hP.o
   subst e1
   obtain ⟨t2, s2, _, e2, _⟩ := hP.d
   subst e2
   obtain ⟨t3, s3, e3, _⟩ := hP.c
   subst e3
   go_upto_region 4 with (fail)
   obtain ⟨v3, hv⟩ := Qg (wo.alloc (.cells #[.string (g k).h, .int .i64 (g k).a.y, .int .i64 (g k).a.m, .bool (g k).a.s, .int .i64 (g k).a.d, .int .i64 (g k).b.y, .int .i64 (g k).b.m, .bool (g k).b.s, .int .i64 (g k).b.d, .slice t1 (g k).o.length s1, .slice t2 (g k).d.length s2, .slice t3 (g k).c.length s3] 31))
   rw [← hv]
   have E3 : Qa wo v3 := by rw [hv]; exact (Qa.refl _).alloc _
   have H3 : Qb v3 wo.heap.size 31 #[.string (g k).h, .int .i64 (g k).a.y, .int .i64 (g k).a.m, .bool (g k).a.s, .int .i64 (g k).a.d, .int .i64 (g k).b.y, .int .i64 (g k).b.m, .bool (g k).b.s, .int .i64 (g k).b.d, .slice t1 (g k).o.length s1, .slice t2 (g k).d.length s2, .slice t3 (g k).c.length s3] := by rw [hv]; exact Qb.new _ _ _
   clear hv
   generalize wo.heap.size = b3 at *
   clear c0 c1 c2 c3 c4 c5 c6 c7 c8 c9 c10 c11
   replace NP := NP v3 (C.ext (hE.trans E3)) (hP.ext (hE.trans E3))
   replace hE := hE.trans E3
   have B1e := B1.ext hE
   obtain ⟨k0, k1⟩ := B1e.c2
   have lk := B1e.lt
   obtain ⟨p0, p1, p2, p3, p4, p5, p6, p7, p8, p9, p10, p11⟩ := H3.c12
   have lp := H3.lt
   clear E3 hP
   cases hq : c.perOk (g k)
   ·have hr := hno.out hq
    rw [hq] at NP
    clear hno hyes hq
    go_wp2_with (go_at_call 101; (with_reducible refine Calls.mono (NP) ?_); rintro e w2 ⟨rfl, h⟩)
    go_ret
    exact ⟨by rw [hr]; rfl, (E.trans hE).trans h⟩
   ·have hx := Lib.hid (hyes.out hq)
    rw [hq] at NP
    clear hno hyes hq
    go_wp2_with (go_at_call 101; (with_reducible refine Calls.mono (NP) ?_); rintro e w2 ⟨rfl, h⟩)
    exact ⟨⟨k + 1, by omega, by go_num, hx, hE.trans h⟩, by simp [intOf]; omega⟩
  ·obtain rfl : k = n := by omega
   have hr : R = 0 := by
    rw [HR.out]; unfold Qf.persE
    rw [if_pos (Dn fun j hj => by have := hall.out j (by rw [hnl.out]; exact hj); rw [hg.out] at this; exact this)]
   clear HR hall hat hg
   go_wp2
   go_ret
   exact ⟨by rw [hr]; rfl, E.trans hE⟩
theorem Dg (v1 v2 : Value) (a b : List Lt) (w : World) (h1 : Zn w v1 a) (h2 : Zn w v2 b) :
  Calls Tryz.prog 54 #[v1, v2] w fun e w' => ∃ F k m, e = .returned (.tuple #[.slice F k m, .int .i64 (Yq 1 a b)]) ∧ Qa w w' ∧ Zn w' (.slice F k m) (X6 1 a b) := by
 obtain ⟨T, cap, rfl, hT, hcap, hmax, _⟩ := h1
 obtain ⟨S, cm, rfl, hS, hcm, hmm, _⟩ := h2
 refine Calls.mono (Dh T a.length cap (Qz a) S b.length cm (Qz b) w hT hcap (Nat.le_trans hcap (Nat.le_trans hmax (by decide))) hS hcm (Nat.le_trans hcm (Nat.le_trans hmm (by decide)))) ?_
 rintro e w' ⟨F, k, c, rfl, hx, ho⟩
 exact ⟨F, k, c, rfl, hx, Wl ho⟩
theorem Qcc (v1 v2 : Value) (a b : List Lt) (w : World) (h1 : Zn w v1 a) (h2 : Zn w v2 b) :
  Calls Tryz.prog 67 #[v1, v2] w fun e w' => ∃ F k m, e = .returned (.tuple #[.slice F k m, .int .i64 (Yq (-1) a b)]) ∧ Qa w w' ∧ Zn w' (.slice F k m) (X6 (-1) a b) := by
 obtain ⟨T, cap, rfl, hT, hcap, hmax, _⟩ := h1
 obtain ⟨S, cm, rfl, hS, hcm, hmm, _⟩ := h2
 refine Calls.mono (Qcd T a.length cap (Qz a) S b.length cm (Qz b) w hT hcap (Nat.le_trans hcap (Nat.le_trans hmax (by decide))) hS hcm (Nat.le_trans hcm (Nat.le_trans hmm (by decide)))) ?_
 rintro e w' ⟨F, k, c, rfl, hx, ho⟩
 exact ⟨F, k, c, rfl, hx, Wl ho⟩
theorem Qce (s : List Lt) {d : List Dl} {k : Nat} (hk : k < d.length) : Yv s (d.drop k) = if Yq (Xq (d.getD k Qr).i) s (d.getD k Qr).l ≠ 0 then ([], Yq (Xq (d.getD k Qr).i) s (d.getD k Qr).l) else Yv (X6 (Xq (d.getD k Qr).i) s (d.getD k Qr).l) (d.drop (k + 1)) := by
 have e : d.getD k Qr = d[k] := by simp [List.getD_eq_getElem?_getD, hk]
 rw [e]; exact Qcf s d hk
theorem Bc (vo vd : Value) (o : List Lt) (d : List Dl) (w : World) (hO : Zn w vo o) (hD : Yn w vd d) (ho : o.length ≤ 1000000) :
  Calls Tryz.prog 29 #[vo, vd] w fun e w' => ∃ v', e = .returned (.tuple #[v', .int .i64 (Yv o d).2]) ∧ Qa w w' ∧ Zn w' v' (Yv o d).1 := by
 obtain ⟨D, cap, vs, rfl, hD, hcap, hmax, _, hat⟩ := hD
 have hn : d.length ≤ 9223372036854775807 := Nat.le_trans hcap (Nat.le_trans hmax (by decide))
 have NC := Ky vo o w hO ho
 obtain ⟨A0, cc0, rfl, _⟩ := id hO
 obtain ⟨R, hR⟩ := Qg (Yv o d)
 rw [← hR]
 replace hR := Lib.hid hR
 go_enter Tryz.func29, Tryz.ntmps29
 go_upto_region 2 with (go_at_call 47; (with_reducible refine Calls.mono (NC) ?_); rintro e w1 ⟨v0, rfl, h1, hown⟩)
 have hS0 := Wl hown
 obtain ⟨F0, m0, rfl⟩ := Q9 hown
 clear NC hown hO
 go_upto_region 3 with (fail)
 obtain ⟨n, hnl⟩ := Qg (d.length)
 rw [← hnl] at hn hD hat hcap ⊢
 replace hnl := Lib.hid hnl
 obtain ⟨g, hg⟩ := Qg (fun i => d.getD i Qr)
 have hg' : ∀ i, d.getD i Qr = g i := fun i => by rw [hg]
 have hdr : Hid (∀ s k, k < n → Yv s (d.drop k) = if Yq (Xq (g k).i) s (g k).l ≠ 0 then ([], Yq (Xq (g k).i) s (g k).l) else Yv (X6 (Xq (g k).i) s (g k).l) (d.drop (k + 1))) := fun s k hk => by
  rw [Qce s (by rw [← hnl.out]; exact hk), hg']
 simp only [hg'] at hD hat
 clear hg hg'
 replace hat := Lib.hid hat
 have hD1 := hD.ext h1
 go_loopw [6, 16] (fun sv iv wr => ∃ (k : Nat) (s : List Lt), k ≤ n ∧ iv = .int .i64 k ∧ Zn wr sv s ∧ Hid (R = Yv s (d.drop k)) ∧ Qa w wr) (fun _ i _ => n - (intOf i).toNat)
 case atStart => exact ⟨0, o, Nat.zero_le _, rfl, hS0, by unfold Hid; rw [hR.out]; rfl, h1⟩
 case round =>
  clear hS0
  obtain ⟨k, s, hk, rfl, hS, hrun, hE⟩ := hrel
  obtain ⟨wo, rfl⟩ := Qg wr
  by_cases hlt : k < n
  ·obtain ⟨b, off, rfl, hb, hc⟩ := (hD.ext hE) (by omega)
   have hL := (hat.out k hlt).ext hE
   have c0 : wo.cell? ⟨b, off + k * 7, none⟩ = some (.int .i64 (g k).on.y) := by simpa [Qs] using hc k 0 _ hlt rfl
   have c1 : wo.cell? ⟨b, off + k * 7 + 1, none⟩ = some (.int .i64 (g k).on.m) := by simpa [Qs] using hc k 1 _ hlt rfl
   have c2 : wo.cell? ⟨b, off + k * 7 + 2, none⟩ = some (.bool (g k).on.s) := by simpa [Qs] using hc k 2 _ hlt rfl
   have c3 : wo.cell? ⟨b, off + k * 7 + 3, none⟩ = some (.int .i64 (g k).on.d) := by simpa [Qs] using hc k 3 _ hlt rfl
   have c4 : wo.cell? ⟨b, off + k * 7 + 4, none⟩ = some (.bool (g k).i) := by simpa [Qs] using hc k 4 _ hlt rfl
   have c5 : wo.cell? ⟨b, off + k * 7 + 5, none⟩ = some (.string (g k).w) := by simpa [Qs] using hc k 5 _ hlt rfl
   have c6 : wo.cell? ⟨b, off + k * 7 + 6, none⟩ = some (vs k) := by simpa [Qs] using hc k 6 _ hlt rfl
   have HS := Lib.hid (hdr.out s k hlt)
   obtain ⟨VL, hvl⟩ := Qg (vs k)
   rw [← hvl] at c6 hL
   clear hvl hc hdr hat hR hD hD1
   obtain ⟨TL, cl, hVL, _⟩ := id hL
   subst hVL
   obtain ⟨AS, cs, hsv, _⟩ := id hS
   subst hsv
   obtain ⟨SD, hSD⟩ := Qg (Yv s (d.drop k))
   rw [← hSD] at HS hrun
   clear hSD
   go_upto_region 5 with (fail)
   obtain ⟨v3, hv⟩ := Qg (wo.alloc (.cells #[.int .i64 (g k).on.y, .int .i64 (g k).on.m, .bool (g k).on.s, .int .i64 (g k).on.d, .bool (g k).i, .string (g k).w, .slice TL (g k).l.length cl] 70))
   rw [← hv]
   have E3 : Qa wo v3 := by rw [hv]; exact (Qa.refl _).alloc _
   have H3 : Qb v3 wo.heap.size 70 #[.int .i64 (g k).on.y, .int .i64 (g k).on.m, .bool (g k).on.s, .int .i64 (g k).on.d, .bool (g k).i, .string (g k).w, .slice TL (g k).l.length cl] := by rw [hv]; exact Qb.new _ _ _
   clear hv
   generalize wo.heap.size = b3 at *
   clear c0 c1 c2 c3 c4 c5 c6
   replace hL := hL.ext E3
   replace hS := hS.ext E3
   replace hE := hE.trans E3
   clear E3
   have NA := fun h1 h2 => Dg (.slice AS s.length cs) (.slice TL (g k).l.length cl) s (g k).l v3 h1 h2
   have NB := fun h1 h2 => Qcc (.slice AS s.length cs) (.slice TL (g k).l.length cl) s (g k).l v3 h1 h2
   obtain ⟨q0, q1, q2, q3, q4, q5, q6⟩ := J2 H3
   have lq := H3.lt
   cases hi : (g k).i
   ·have NX := NB hS hL
    rw [hi] at HS
    have HS2 : Hid (SD = if Yq (-1) s (g k).l ≠ 0 then ([], Yq (-1) s (g k).l) else Yv (X6 (-1) s (g k).l) (d.drop (k + 1))) := HS
    rw [hi] at q4
    clear HS hi
    generalize hce : Yq (-1) s (g k).l = E1 at *
    generalize X6 (-1) s (g k).l = L1 at *
    by_cases e0 : E1 = 0
    ·subst e0
     have HS3 := Lib.hid (HS2.out.trans (if_neg (by simp)))
     clear HS2 hce
     go_wp2_with (first | (go_at_call 67; (with_reducible refine Calls.mono (NX) ?_); rintro e w6 ⟨F6, k6, m6, rfl, h6, L6⟩) | (go_at_fn 67; (with_reducible refine Calls.mono (NX) ?_); rintro e w6 ⟨F6, k6, m6, rfl, h6, L6⟩))
     exact ⟨⟨k + 1, L1, by omega, by go_num, L6, Lib.hid (hrun.out.trans HS3.out), hE.trans h6⟩, by simp [intOf]; omega⟩
    ·have g0 : (E1 == 0) = false := beq_eq_false_iff_ne.2 e0
     have g0n : (E1 != 0) = true := by rw [bne, g0]; rfl
     have HS3 := Lib.hid (hrun.out.trans (HS2.out.trans (if_pos e0)))
     clear HS2 hrun hce e0
     go_wp2_with (first | (go_at_call 67; (with_reducible refine Calls.mono (NX) ?_); rintro e w6 ⟨F6, k6, m6, rfl, h6, L6⟩) | (go_at_fn 67; (with_reducible refine Calls.mono (NX) ?_); rintro e w6 ⟨F6, k6, m6, rfl, h6, L6⟩))
     go_ret2
     exact ⟨_, by rw [HS3.out]; rfl, hE.trans h6, by rw [HS3.out]; exact Vc _⟩
   ·have NX := NA hS hL
    rw [hi] at HS
    have HS2 : Hid (SD = if Yq 1 s (g k).l ≠ 0 then ([], Yq 1 s (g k).l) else Yv (X6 1 s (g k).l) (d.drop (k + 1))) := HS
    rw [hi] at q4
    clear HS hi
    generalize hce : Yq 1 s (g k).l = E1 at *
    generalize X6 1 s (g k).l = L1 at *
    by_cases e0 : E1 = 0
    ·subst e0
     have HS3 := Lib.hid (HS2.out.trans (if_neg (by simp)))
     clear HS2 hce
     go_wp2_with (first | (go_at_call 54; (with_reducible refine Calls.mono (NX) ?_); rintro e w6 ⟨F6, k6, m6, rfl, h6, L6⟩) | (go_at_fn 54; (with_reducible refine Calls.mono (NX) ?_); rintro e w6 ⟨F6, k6, m6, rfl, h6, L6⟩))
     exact ⟨⟨k + 1, L1, by omega, by go_num, L6, Lib.hid (hrun.out.trans HS3.out), hE.trans h6⟩, by simp [intOf]; omega⟩
    ·have g0 : (E1 == 0) = false := beq_eq_false_iff_ne.2 e0
     have g0n : (E1 != 0) = true := by rw [bne, g0]; rfl
     have HS3 := Lib.hid (hrun.out.trans (HS2.out.trans (if_pos e0)))
     clear HS2 hrun hce e0
     go_wp2_with (first | (go_at_call 54; (with_reducible refine Calls.mono (NX) ?_); rintro e w6 ⟨F6, k6, m6, rfl, h6, L6⟩) | (go_at_fn 54; (with_reducible refine Calls.mono (NX) ?_); rintro e w6 ⟨F6, k6, m6, rfl, h6, L6⟩))
     go_ret2
     exact ⟨_, by rw [HS3.out]; rfl, hE.trans h6, by rw [HS3.out]; exact Vc _⟩
  ·obtain rfl : k = n := by omega
   have hr : Hid (R = (s, 0)) := by
    unfold Hid
    rw [hrun.out, hnl.out, List.drop_length]; rfl
   clear hrun hdr hat hR
   go_wp2
   go_ret2
   exact ⟨_, by rw [hr.out]; rfl, hE, by rw [hr.out]; exact hS⟩
theorem P4 (A A' : Option Addr) (ca cb : Nat) (c : Qf) (v : Value) (l : List Pd) (w : World) (hC : Q0 w A ca A' cb c) (hP : Wx w v l) :
  Calls Tryz.prog 28 #[.agg #[.slice A c.nk ca, .slice A' c.ny cb], v] w fun e w' => e = .returned (.tuple #[.agg #[.slice A c.nk ca, .slice A' c.ny cb], .int .i64 (c.validE l)]) ∧ Qa w w' := by
 have NO := fun w h => Ls A A' ca cb c w h
 obtain ⟨D, cap, _, _, _, hv9, _⟩ := id hP
 subst hv9
 have NP := fun w h1 h2 => Qbl A A' ca cb c (.slice D l.length cap) l w h1 h2
 obtain ⟨R, hR0⟩ := Qg (c.validE l)
 rw [← hR0]
 have HR := Lib.hid hR0
 clear hR0
 go_enter Tryz.func28, Tryz.ntmps28
 go_upto_region 1 with (fail)
 obtain ⟨v, hv⟩ := Qg ((w.alloc (.cells #[.slice A c.nk ca, .slice A' c.ny cb] 25)).alloc (.cells #[.slice none 0 0, .slice none 0 0] 61))
 rw [← hv]
 have E : Qa w v := by rw [hv]; exact ((Qa.refl _).alloc _).alloc _
 have B1 : Qb v w.heap.size 25 #[.slice A c.nk ca, .slice A' c.ny cb] := by rw [hv]; exact (Qb.new _ _ _).alloc _
 have B2 : Qb v (w.heap.size + 1) 61 #[.slice none 0 0, .slice none 0 0] := by rw [hv]; exact Qb.at _ _ _ _ (by simp)
 clear hv
 obtain ⟨b2, hb2⟩ := Qg (w.heap.size + 1)
 rw [← hb2] at B2 ⊢
 obtain ⟨b1, hb1⟩ := Qg (w.heap.size)
 rw [← hb1] at B1 ⊢
 have hbr : w.heap.size ≤ b2 := by omega
 have hbr1 : w.heap.size ≤ b1 := by omega
 have hn21 : b2 ≠ b1 := by omega
 clear hb1 hb2
 obtain ⟨k0, k1⟩ := B1.c2
 have lk := B1.lt
 obtain ⟨ck, hck⟩ := Qg (c.chk)
 simp only [← hck] at NO
 replace hck := Lib.hid hck
 go_upto_region 2 with (go_at_call 65; (with_reducible refine Calls.mono (NO _ (hC.ext E)) ?_); rintro e w1 ⟨rfl, h1⟩)
 obtain ⟨v3, hv⟩ := Qg (w1.alloc (.cells #[.slice A c.nk ca, .slice A' c.ny cb] 61))
 rw [← hv]
 have h3 : Qa w1 v3 := by rw [hv]; exact (Qa.refl _).alloc _
 have H3 : Qb v3 w1.heap.size 61 #[.slice A c.nk ca, .slice A' c.ny cb] := by rw [hv]; exact Qb.new _ _ _
 clear hv
 generalize w1.heap.size = b9 at *
 replace E := (E.trans h1).trans h3
 replace B2 := (B2.ext h1).ext h3
 have C := hC.ext E
 have P := hP.ext E
 clear hC hP k0 k1 lk B1 NO h1 h3
 by_cases e0 : ck = 0
 rotate_left
 ·have g0 : (ck == 0) = false := beq_eq_false_iff_ne.2 e0
  have g0n : (ck != 0) = true := by rw [bne, g0]; rfl
  have hr : R = ck := by rw [HR.out, hck.out]; unfold Qf.validE; rw [if_pos (by rw [← hck.out]; exact e0)]
  clear HR e0 hck NP
  obtain ⟨k0, k1⟩ := H3.c2
  have lk := H3.lt
  have f0 := B2.frozen 0
  have f1 := B2.frozen 1
  obtain ⟨x0, x1⟩ := B2.c2
  have lx := B2.lt
  have H4 := Qk B2 (.slice A c.nk ca) (.slice A' c.ny cb)
  have EF := (E.setCell (p := ⟨b2, 0, none⟩) hbr (.slice A c.nk ca)).setCell (p := ⟨b2, 1, none⟩) hbr (.slice A' c.ny cb)
  obtain ⟨y0, y1⟩ := H4.c2
  go_wp2
  refine bodyPost_ret (v := .tuple #[.agg #[.slice A c.nk ca, .slice A' c.ny cb], .int .i64 ck]) (by simp [results, Tryz.results28, go_sem, y0, y1]) rfl ⟨by rw [hr], EF⟩
 ·subst e0
  have hr : Hid (R = c.persE l) := by unfold Hid; rw [HR.out]; unfold Qf.validE; rw [if_neg (by rw [← hck.out]; simp)]
  clear HR hck
  go_upto_region 4 with (fail)
  refine Zk 6 [4, 5] (fun x => Qa v3 x) Qo rfl ?_
  intro vz hvz
  have HC := hvz
  refine Qp (g := 3) [0, 1, 2] [_, _, _] ⟨rfl, rfl, rfl, trivial⟩ (by kernel_rfl) (by kernel_rfl) HC ?_
  simp only [Qc, Qd, Qe]
  apply Exists.intro
  refine ⟨fun u hu => ?_, ?_⟩
  ·obtain ⟨k0, k1⟩ := (H3.ext hu).c2
   have lk := (H3.ext hu).lt
   repeat (first | go_big_quiet_skip | (go_big_quiet_want; go_big_quiet_op; go_big_quiet_on))
   refine wpQuiet_nil ?_
   rfl
  refine Qj 3 rfl (by kernel_rfl) ?_
  simp only [Qc, Qd, Qe]
  go_wp2_with (go_at_call 66; (with_reducible refine Calls.mono (NP _ (C.ext HC) (P.ext HC)) ?_); rintro e va ⟨rfl, h4⟩)
  replace HC := HC.trans h4
  clear h4
  refine Qi HC ?_
  refine Qm 4 rfl (by kernel_rfl) ?_
  simp only [Qc, Qd, Qe]
  replace B2 := B2.ext HC
  replace E := E.trans HC
  have f0 := B2.frozen 0
  have f1 := B2.frozen 1
  obtain ⟨x0, x1⟩ := B2.c2
  have lx := B2.lt
  have H4 := Qk B2 (.slice A c.nk ca) (.slice A' c.ny cb)
  have EF := (E.setCell (p := ⟨b2, 0, none⟩) hbr (.slice A c.nk ca)).setCell (p := ⟨b2, 1, none⟩) hbr (.slice A' c.ny cb)
  obtain ⟨y0, y1⟩ := H4.c2
  go_wp2
  refine Ql ?_
  refine Qm 5 rfl (by kernel_rfl) ?_
  simp only [Qc, Qd, Qe]
  go_wp2
  refine Ql ?_
  refine Qt (by kernel_rfl) ?_
  go_wp2
  refine bodyPost_ret (v := .tuple #[.agg #[.slice A c.nk ca, .slice A' c.ny cb], .int .i64 (c.persE l)]) (by simp [results, Tryz.results28, go_sem, y0, y1]) rfl ⟨by rw [hr.out], EF⟩
theorem Bz (A A' : Option Addr) (ca cb : Nat) (c : Qf) (p : Pd) (vo vd vc : Value) (w : World) (hC : Q0 w A ca A' cb c) (hP : Zz w p vo vd vc) :
  Calls Tryz.prog 9 #[.agg #[.slice A c.nk ca, .slice A' c.ny cb], .agg #[.string p.h, .int .i64 p.a.y, .int .i64 p.a.m, .bool p.a.s, .int .i64 p.a.d, .int .i64 p.b.y, .int .i64 p.b.m, .bool p.b.s, .int .i64 p.b.d, vo, vd, vc]] w fun e w' => ∃ v', e = .returned (.tuple #[v', .int .i64 (c.closeV p).2]) ∧ Qa w w' ∧ Zn w' v' (c.closeV p).1 := by
 obtain ⟨t1, s1, e1, _⟩ := id hP.o
 subst e1
 obtain ⟨t2, s2, _, e2, _⟩ := id hP.d
 subst e2
 obtain ⟨t3, s3, e3, _⟩ := id hP.c
 subst e3
 have NV := fun w h1 v h2 => P4 A A' ca cb c v [p] w h1 h2
 simp only [Qcp] at NV
 obtain ⟨R, hR0⟩ := Qg (c.closeV p)
 rw [← hR0]
 have HR := Lib.hid hR0
 clear hR0
 go_enter Tryz.func9, Tryz.ntmps9
 go_upto_region 1 with (fail)
 obtain ⟨v, hv⟩ := Qg ((w.alloc (.cells #[.slice A c.nk ca, .slice A' c.ny cb] 25)).alloc (.cells #[.string p.h, .int .i64 p.a.y, .int .i64 p.a.m, .bool p.a.s, .int .i64 p.a.d, .int .i64 p.b.y, .int .i64 p.b.m, .bool p.b.s, .int .i64 p.b.d, .slice t1 p.o.length s1, .slice t2 p.d.length s2, .slice t3 p.c.length s3] 31))
 rw [← hv]
 have E : Qa w v := by rw [hv]; exact ((Qa.refl _).alloc _).alloc _
 have B1 : Qb v w.heap.size 25 #[.slice A c.nk ca, .slice A' c.ny cb] := by rw [hv]; exact (Qb.new _ _ _).alloc _
 have B2 : Qb v (w.heap.size + 1) 31 #[.string p.h, .int .i64 p.a.y, .int .i64 p.a.m, .bool p.a.s, .int .i64 p.a.d, .int .i64 p.b.y, .int .i64 p.b.m, .bool p.b.s, .int .i64 p.b.d, .slice t1 p.o.length s1, .slice t2 p.d.length s2, .slice t3 p.c.length s3] := by rw [hv]; exact Qb.at _ _ _ _ (by simp)
 clear hv
 obtain ⟨b2, hb2⟩ := Qg (w.heap.size + 1)
 rw [← hb2] at B2 ⊢
 obtain ⟨b1, hb1⟩ := Qg (w.heap.size)
 rw [← hb1] at B1 ⊢
 have hbr : w.heap.size ≤ b2 := by omega
 have hbr1 : w.heap.size ≤ b1 := by omega
 have hn21 : b2 ≠ b1 := by omega
 clear hb1 hb2
 have C := hC.ext E
 have P := hP.ext E
 clear hC hP
 obtain ⟨k0, k1⟩ := B1.c2
 have lk := B1.lt
 obtain ⟨p0, p1, p2, p3, p4, p5, p6, p7, p8, p9, p10, p11⟩ := B2.c12
 have lp := B2.lt
 obtain ⟨pe, hpe⟩ := Qg (c.perE p)
 simp only [← hpe] at NV
 replace hpe := Lib.hid hpe
 have AL := (Qa.refl v).alloc (.cells #[.string p.h, .int .i64 p.a.y, .int .i64 p.a.m, .bool p.a.s, .int .i64 p.a.d, .int .i64 p.b.y, .int .i64 p.b.m, .bool p.b.s, .int .i64 p.b.d, .slice t1 p.o.length s1, .slice t2 p.d.length s2, .slice t3 p.c.length s3] 31)
 have NV1 := NV _ (C.ext AL) (.slice (some ⟨v.heap.size, 0, none⟩) 1 1) (Qbm (t := 31) (Qb.new v 31 #[.string p.h, .int .i64 p.a.y, .int .i64 p.a.m, .bool p.a.s, .int .i64 p.a.d, .int .i64 p.b.y, .int .i64 p.b.m, .bool p.b.s, .int .i64 p.b.d, .slice t1 p.o.length s1, .slice t2 p.d.length s2, .slice t3 p.c.length s3]) (P.ext AL))
 go_upto_region 2 with (go_at_call 28; (with_reducible refine Calls.mono (NV1) ?_); rintro e w1 ⟨rfl, h1⟩)
 replace h1 := AL.trans h1
 clear NV NV1 AL
 obtain ⟨v3, hv⟩ := Qg (w1.alloc (.cells #[.slice A c.nk ca, .slice A' c.ny cb] 61))
 rw [← hv]
 have h3 : Qa w1 v3 := by rw [hv]; exact (Qa.refl _).alloc _
 have H3 : Qb v3 w1.heap.size 61 #[.slice A c.nk ca, .slice A' c.ny cb] := by rw [hv]; exact Qb.new _ _ _
 clear hv
 generalize w1.heap.size = b9 at *
 replace h1 := h1.trans h3
 replace E := E.trans h1
 replace C := C.ext h1
 replace P := P.ext h1
 replace B2 := B2.ext h1
 clear h1 h3 H3 B1 k0 k1 lk p0 p1 p2 p3 p4 p5 p6 p7 p8 p9 p10 p11 lp
 by_cases e0 : pe = 0
 rotate_left
 ·have g0 : (pe == 0) = false := beq_eq_false_iff_ne.2 e0
  have g0n : (pe != 0) = true := by rw [bne, g0]; rfl
  have hr : Hid (R = ([], pe)) := by unfold Hid; rw [HR.out, hpe.out]; unfold Qf.closeV; rw [if_pos (by rw [← hpe.out]; exact e0)]
  clear HR e0 hpe
  go_wp2
  go_ret2
  exact ⟨_, by rw [hr.out]; rfl, E, by rw [hr.out]; exact Vc _⟩
 ·subst e0
  have hr : Hid (R = Yv p.o p.d) := by unfold Hid; rw [HR.out]; unfold Qf.closeV; rw [if_neg (by rw [← hpe.out]; simp)]
  have NB := Bc _ _ p.o p.d v3 P.o P.d (by have := Qbj hpe.out.symm; omega)
  clear HR hpe
  rw [← hr.out] at NB
  clear hr
  obtain ⟨p0, p1, p2, p3, p4, p5, p6, p7, p8, p9, p10, p11⟩ := B2.c12
  have lp := B2.lt
  go_wp2_with (go_at_call 29; (with_reducible refine Calls.mono (NB) ?_); rintro e w5 ⟨v5, rfl, h5, L5⟩)
  go_ret2
  exact ⟨v5, rfl, E.trans h5, L5⟩
end
section
def Yu : Pd := ⟨⟨#[]⟩, ⟨0, 0, false, 0⟩, ⟨0, 0, false, 0⟩, [], [], []⟩
/-- What a valid period says. -/
structure Vv (c : Qf) (p : Pd) : Prop where
 a0 : 0 < c.numV p.a
 ab : c.numV p.a ≤ c.numV p.b
 o : p.o.length ≤ 64
 k : p.c.length ≤ 64
 d : p.d.length ≤ 64
 l : ∀ i, i < p.d.length → (p.d.getD i Qr).l.length ≤ 64
 lo : ∀ i, i < p.d.length → c.lastD p i ≤ c.numV (p.d.getD i Qr).on
 hi : ∀ i, i < p.d.length → c.numV (p.d.getD i Qr).on ≤ c.numV p.b
theorem Oa {l : List Lt} (h : J3 l = 0) : l.length ≤ 64 := by
 unfold J3 Jh at h
 split at h
 ·exact absurd h (by decide)
 ·omega
theorem Ly {c : Qf} {p : Pd} (h : c.perOk p = true) : Vv c p := by
 unfold Qf.perOk at h
 rw [Bool.and_eq_true] at h
 obtain ⟨h1, h2⟩ := h
 unfold Qf.perHead Qf.spanV at h1
 simp only [Bool.and_eq_true, decide_eq_true_eq] at h1
 have h3 : ∀ i, i < p.d.length → c.dealOk p i = true := fun i hi => List.all_eq_true.1 h2 i (by simpa using hi)
 have h4 : ∀ i, i < p.d.length → c.lastD p i ≤ c.numV (p.dl i).on ∧ c.numV (p.dl i).on ≤ c.numV p.b ∧ Y3 (p.dl i).l = true := fun i hi => by
  have := h3 i hi
  unfold Qf.dealOk at this
  simp only [Bool.not_eq_true', Bool.or_eq_false_iff, decide_eq_false_iff_not, Bool.not_eq_false'] at this
  exact ⟨by omega, by omega, this.2⟩
 exact ⟨h1.1.1.1.2.1, h1.1.1.1.2.2, Oa h1.1.1.2, Oa h1.1.2, h1.2, fun i hi => Oa (Aw.1 (h4 i hi).2.2).2.1, fun i hi => (h4 i hi).1, fun i hi => (h4 i hi).2.1⟩
theorem Vv.pos {c : Qf} {p : Pd} (h : Vv c p) : ∀ i, i < p.d.length → 0 < c.numV (p.d.getD i Qr).on
 | 0, hi => by
  have h1 : c.numV p.a ≤ c.numV (p.d.getD 0 Qr).on := h.lo 0 hi
  have := h.a0
  omega
 | i + 1, hi => by
  have h1 := h.pos i (by omega)
  have h2 : c.numV (p.d.getD i Qr).on ≤ c.numV (p.d.getD (i + 1) Qr).on := h.lo (i + 1) hi
  omega
theorem Vv.mono {c : Qf} {p : Pd} (h : Vv c p) : ∀ {i j}, i ≤ j → j < p.d.length → c.numV (p.d.getD i Qr).on ≤ c.numV (p.d.getD j Qr).on
 | i, 0, hij, hj => by obtain rfl : i = 0 := by omega
                       exact Int.le_refl _
 | i, j + 1, hij, hj => by
  by_cases e : i = j + 1
  ·subst e; exact Int.le_refl _
  ·have h1 := h.mono (i := i) (j := j) (by omega) (by omega)
   have h2 : c.numV (p.d.getD j Qr).on ≤ c.numV (p.d.getD (j + 1) Qr).on := h.lo (j + 1) hj
   omega
instance : DecidableEq Lt := fun a b => if h : a.g = b.g ∧ a.n = b.n then .isTrue (by cases a; cases b; simp_all) else .isFalse (fun e => h ⟨by rw [e], by rw [e]⟩)
def Qf.behV (c : Qf) (x y : Pd) : Bool := decide (x.h = y.h) && decide (c.numV y.a = c.numV x.b + 1)
def Fz (x y : Pd) : Pd := ⟨x.h, x.a, y.b, x.o, x.d ++ y.d, y.c⟩
def Qf.joinE (c : Qf) (x y : Pd) : Int :=
 if c.validE [x, y] ≠ 0 then c.validE [x, y] else if (c.behV x y && decide (x.c = y.o)) = true then (if 64 < x.d.length + y.d.length then 3 else 0) else 84
def Qf.joinP (c : Qf) (x y : Pd) : Pd := if c.joinE x y ≠ 0 then Yu else Fz x y
theorem Lc {c : Qf} {x y : Pd} {e : Int} (h : c.validE [x, y] = e) (h0 : e ≠ 0) : c.joinE x y = e ∧ c.joinP x y = Yu := by
 have h1 : c.joinE x y = e := by unfold Qf.joinE; rw [h, if_pos h0]
 exact ⟨h1, by unfold Qf.joinP; rw [h1, if_pos h0]⟩
theorem Lf {c : Qf} {x y : Pd} (h : c.validE [x, y] = 0) (h0 : (c.behV x y && decide (x.c = y.o)) = false) : c.joinE x y = 84 ∧ c.joinP x y = Yu := by
 have h1 : c.joinE x y = 84 := by unfold Qf.joinE; rw [if_neg (by simpa using h), if_neg (by rw [h0]; decide)]
 exact ⟨h1, by unfold Qf.joinP; rw [h1, if_pos (by decide)]⟩
theorem Fx {c : Qf} {x y : Pd} (h : c.validE [x, y] = 0) (h0 : (c.behV x y && decide (x.c = y.o)) = true) (h2 : 64 < x.d.length + y.d.length) : c.joinE x y = 3 ∧ c.joinP x y = Yu := by
 have h1 : c.joinE x y = 3 := by unfold Qf.joinE; rw [if_neg (by simpa using h), if_pos h0, if_pos h2]
 exact ⟨h1, by unfold Qf.joinP; rw [h1, if_pos (by decide)]⟩
theorem Fy {c : Qf} {x y : Pd} (h : c.validE [x, y] = 0) (h0 : (c.behV x y && decide (x.c = y.o)) = true) (h2 : ¬ 64 < x.d.length + y.d.length) : c.joinE x y = 0 ∧ c.joinP x y = Fz x y := by
 have h1 : c.joinE x y = 0 := by unfold Qf.joinE; rw [if_neg (by simpa using h), if_pos h0, if_neg h2]
 exact ⟨h1, by unfold Qf.joinP; rw [h1, if_neg (by decide)]⟩
theorem Qcu {c : Qf} {x y : Pd} (h : c.validE [x, y] = 0) : c.valid = true ∧ c.perOk x = true ∧ c.perOk y = true := by
 unfold Qf.validE at h
 cases hv : c.valid
 ·unfold Qf.chk at h
  rw [hv] at h
  simp at h
 ·have h0 : c.chk = 0 := by unfold Qf.chk; rw [hv]; rfl
  rw [if_neg (by simpa using h0)] at h
  unfold Qf.persE at h
  cases hx : c.perOk x <;> cases hy : c.perOk y <;> simp [hx, hy] at h ⊢
theorem Kq {x y : ByteArray} (h : x.toList = y.toList) : x = y := by
 have hx := Go.Lib.toList_data x
 have hy := Go.Lib.toList_data y
 rw [hx, hy] at h
 cases x; cases y
 simp only [ByteArray.mk.injEq]
 exact Array.ext' h
end
section
open Go Go.RowKit Go.Shelf
attribute [local go_sem] Zs
theorem I6 (f : Nat → Lt) (k : Nat) : X0 f k = !(!Zp (f k).g || ((f k).n == 0) || decide (1099511627776 < (f k).n) || decide ((f k).n < -1099511627776) || (decide (0 < k) && !Ya (f (k - 1)).g (f k).g)) := by
 rw [Ri]
 cases Zp (f k).g <;> cases Ya (f (k - 1)).g (f k).g <;> cases ((f k).n == 0) <;> cases decide (1099511627776 < (f k).n) <;> cases decide ((f k).n < -1099511627776) <;> cases decide (0 < k) <;> rfl
theorem Bp (T : Option Addr) (n cap : Nat) (f : Nat → Lt) (w : World) (hT : Qn w T n 2 (Q4 f)) (hcap : n ≤ cap) (hn : n ≤ 9223372036854775807) :
  Calls Tryz.prog 55 #[.slice T n cap] w fun e w' => e = .returned (.int .i64 (Jh f n)) ∧ Qa w w' := by
 have hge := Fa
 go_enter Tryz.func55, Tryz.ntmps55
 by_cases h64 : 64 < n
 ·have g1 : decide (64 < n) = true := decide_eq_true h64
  rw [Ro h64]
  go_wp2
  go_ret
  exact ⟨rfl, Qa.refl _⟩
 ·have g1 : decide (64 < n) = false := decide_eq_false h64
  go_upto_region 4 with (fail)
  go_loopw [3] (fun i wr => ∃ k : Nat, k ≤ n ∧ i = .int .i64 k ∧ Hid (∀ j, j < k → X0 f j = true) ∧ Qa w wr) (fun i _ => n - (intOf i).toNat)
  case atStart => exact ⟨0, Nat.zero_le _, rfl, (fun j h => absurd h (by omega)), Qa.refl _⟩
  case round =>
   obtain ⟨k, hk, rfl, hall, hE⟩ := hrel
   obtain ⟨wo, rfl⟩ := Qg wr
   obtain ⟨hcwo, hfwo, hzwo⟩ := Qa.rules hE
   try simp only [World.size_alloc] at hzwo
   obtain ⟨hcbwo, hfbwo, hzbwo⟩ := Qa.rules (show Qa w wo from (by repeat (first | exact Qa.refl _ | (refine Qa.alloc ?_ _) | (refine Qa.trans ?_ (by assumption)))))
   clear hcwo hfwo
   by_cases hlt : k < n
   ·obtain ⟨b, off, rfl, hb, hc⟩ := hT (by omega)
    have hbo : b < wo.heap.size := Nat.lt_of_lt_of_le hb hE.size
    have c0 : w.cell? ⟨b, off + k * 2, none⟩ = some (.string (f k).g) := by simpa using hc k 0 _ hlt rfl
    have c1 : w.cell? ⟨b, off + k * 2 + 1, none⟩ = some (.int .i64 (f k).n) := hc k 1 _ hlt rfl
    have hd0 : 0 < k → w.cell? ⟨b, off + (IntKind.i64.wrap ((k : Int) - 1)).toNat * 2, none⟩ = some (.string (f (k - 1)).g) := fun h => by
     rw [show (IntKind.i64.wrap ((k : Int) - 1)).toNat = k - 1 from by rw [IntKind.wrap_i64]; omega]
     simpa using hc (k - 1) 0 _ (by omega) rfl
    have hin : 0 < k → (0 ≤ IntKind.i64.wrap ((k : Int) - 1) ∧ IntKind.i64.wrap ((k : Int) - 1) < (n : Int)) := fun h => by rw [IntKind.wrap_i64]; omega
    have HK : Hid (X0 f k = _) := I6 f k
    clear hc
    go_upto_region 6 with (fail)
    refine Zd wo Qo (by kernel_rfl) (by repeat (first | exact Qa.refl _ | (refine Qa.alloc ?_ _) | (refine Qa.trans ?_ (by assumption)))) ?_
    intro hne hrx hry
    try simp only []
    try simp only [List.append_eq, List.cons_append, List.nil_append]
    skip
    repeat (first
     | go_big_quiet_skip
     | ((with_reducible apply Yh)
        ·exact rfl
        ·exact rfl
        ·exact rfl
        intro K hK
        unfold Qq; go_big_quiet_op; (with_reducible refine hK _ ?_); clear hK K)
     | ((with_reducible apply Yj)
        ·exact rfl
        ·exact rfl
        ·exact rfl
        intro K hK
        unfold Qq; go_big_quiet_op; (with_reducible refine hK _ ?_); clear hK K)
     | (go_big_quiet_want; go_big_quiet_op; go_big_quiet_on)
     | (go_big_quiet_want; go_big_quiet_op; apply Exists.intro; refine ⟨fun u => ?_, ?_⟩
        ·first
          | (go_at_call 69; refine (W8 _ _).mono ?_; rintro e w' ⟨rfl, rfl⟩; exact ⟨rfl, u, rfl⟩)
        go_big_quiet_on)
     | ((with_reducible apply Yi)
        ·first | exact Zi rfl rfl rfl | exact Zh rfl rfl rfl | exact Zg rfl rfl rfl | exact Zf rfl rfl rfl
        ·exact rfl
        ·exact rfl
        ·exact rfl
        intro K hK
        unfold Qq; go_big_quiet_op; (with_reducible refine hK _ ?_); clear hK K)
     | ((with_reducible apply Yk)
        ·first | exact Zi rfl rfl rfl | exact Zh rfl rfl rfl | exact Zg rfl rfl rfl | exact Zf rfl rfl rfl
        ·exact rfl
        ·exact rfl
        ·exact rfl
        intro K hK
        unfold Qq; go_big_quiet_op; (with_reducible refine hK _ ?_); clear hK K)
     | ((with_reducible apply J6)
        ·first | exact Zi rfl rfl rfl | exact Zh rfl rfl rfl | exact Zg rfl rfl rfl | exact Zf rfl rfl rfl
        apply Exists.intro
        refine And.intro (fun hgb => ?_) ?_
        ·intro u
         try simp at hgb
         go_simp
         try simp only [if_pos hsl]
         try simp only [if_pos (hin (by omega))]
         try (simp only [hd0 (by omega)]; go_simp)
         try (rw [hlook _ (Qa.trans (by repeat (first | exact Qa.refl _ | (refine Qa.alloc ?_ _) | (refine Qa.trans ?_ (by assumption)))) u.e) (hlk0 hgb)]; go_simp)
         first
          | (with_reducible exact rfl)
          | (go_at_call 69; refine (W8 _ _).mono ?_; rintro e w' ⟨rfl, rfl⟩; exact ⟨rfl, u, rfl⟩)
        intro K hK
        unfold Qq; go_big_quiet_op; (with_reducible refine hK _ ?_); clear hK K))
    clear hne hry hrx
    refine wpQuiet_nil ?_
    intro wn hwn
    obtain ⟨hcwn, hfwn, hzwn⟩ := Qa.rules hwn
    try simp only [World.size_alloc] at hzwn
    obtain ⟨hcbwn, hfbwn, hzbwn⟩ := Qa.rules (show Qa wo wn from (by repeat (first | exact Qa.refl _ | (refine Qa.alloc ?_ _) | (refine Qa.trans ?_ (by assumption)))))
    clear hcwn hfwn
    generalize hg : (!Zp (f k).g || ((f k).n == 0) || decide (1099511627776 < (f k).n) || decide ((f k).n < -1099511627776) || (decide (0 < k) && !Ya (f (k - 1)).g (f k).g)) = g at *
    have E2 : Qa w wn := hE.trans hwn
    cases g
    ·go_wp2
     exact ⟨⟨k + 1, by omega, by go_num, fun j hj => by
      by_cases e : j = k
      ·subst e; exact HK.out
      ·exact hall.out j (by omega), E2⟩, by simp [intOf]; omega⟩
    ·go_wp2
     go_ret
     exact ⟨Y8 (Rl hlt HK.out h64).symm, E2⟩
   ·obtain rfl : k = n := by omega
    go_wp2
    go_ret
    exact ⟨Y8 (Rk hall.out h64).symm, hE⟩
theorem Ez : (Tryz.prog.info? 68).map (fun i => (i.zero, i.size, i.bytes)) = some (some (.agg #[.string ⟨#[]⟩, .int .i64 0]), 2, 24) := by kernel_rfl
def Rt.neg (r : Rt) : Rt := ⟨-r.n, r.d⟩
section
variable {W : World} {b : Nat} {t : TypeId} {v0 v1 v2 : Value}
end
end
section
open Go Go.RowKit
attribute [local go_sem] Zs
def Y4 (y : Yr) (k : Nat) : Int := (y.mos.getD k (0, false)).1
def Y5 (y : Yr) (k : Nat) : Bool := (y.mos.getD k (0, false)).2
def moL (y : Yr) (k : Nat) : Int := y.len (Y4 y k) (Y5 y k)
def Qx (y : Yr) (k : Nat) : Int := y.lens (y.mos.take k)
theorem Qbr {y : Yr} {k : Nat} (h : k < y.mos.length) : Qx y (k + 1) = Qx y k + moL y k := by
 unfold Qx moL Y4 Y5
 rw [List.take_add_one, List.getElem?_eq_getElem h, Lh, List.getD_eq_getElem?_getD, List.getElem?_eq_getElem h]
 simp [Yr.lens]
theorem Qbq (y : Yr) : Qx y y.mos.length = y.days := by unfold Qx; rw [List.take_length]; rfl
theorem pre_bd {y : Yr} {k : Nat} (h : k ≤ y.mos.length) : 29 * (k : Int) ≤ Qx y k ∧ Qx y k ≤ 30 * (k : Int) := by
 have := Kc y (y.mos.take k)
 rw [List.length_take, Nat.min_eq_left h] at this
 exact this
theorem moL_bd (y : Yr) (k : Nat) : 29 ≤ moL y k ∧ moL y k ≤ 30 := Xz _ _ _
theorem S7 (i : Nat) (y : Yr) : ∀ (l : List (Int × Bool)) (d : Int) (k : Nat), k < l.length → (Z7 i y d l)[k]? = some ⟨i, (l.getD k (0, false)).1, (l.getD k (0, false)).2, d + y.lens (l.take k)⟩
 | [], _, _, h => by simp at h
 | p :: l, d, 0, _ => by simp [Z7, Yr.lens]
 | p :: l, d, k + 1, h => by
  have := S7 i y l (d + y.len p.1 p.2) k (by simpa using h)
  simp only [Z7, List.getElem?_cons_succ, this, List.getD_cons_succ, List.take_succ_cons, Yr.lens]
  congr 2
  omega
theorem Ip {c : Qf} {y k : Nat} (hy : y < c.ny) (hk : k < (c.yr y).mos.length) : c.items[(c.itemsTo y).length + k]? = some ⟨y, Y4 (c.yr y) k, Y5 (c.yr y) k, c.dayAt y + Qx (c.yr y) k⟩ := by
 obtain ⟨t, ht⟩ := Fu c (show y + 1 ≤ c.ny from hy)
 unfold Qf.items
 rw [← ht]
 show ((c.itemsTo y ++ Z7 y (c.yr y) (c.dayAt y) (c.yr y).mos) ++ t)[_]? = _
 have hl : ((c.itemsTo y).length + k) < (c.itemsTo y ++ Z7 y (c.yr y) (c.dayAt y) (c.yr y).mos).length := by rw [List.length_append, Mm]; omega
 rw [List.getElem?_append_left hl, List.getElem?_append_right (by omega), Nat.add_sub_cancel_left]
 exact S7 _ _ _ _ _ hk
theorem Ik (c : Qf) (y : Nat) : (c.itemsTo (y + 1)).length = (c.itemsTo y).length + (c.yr y).mos.length := by
 show (c.itemsTo y ++ Z7 y (c.yr y) (c.dayAt y) (c.yr y).mos).length = _
 rw [List.length_append, Mm]
theorem Qa3 {c : Qf} {d : Dt} {y k : Nat} (hd : c.has d = true) (hy : y < c.ny) (hk : k < (c.yr y).mos.length) (h1 : (y : Int) = d.y) (h2 : Y4 (c.yr y) k = d.m) (h3 : Y5 (c.yr y) k = d.s) :
  c.num d = (c.dayAt y + Qx (c.yr y) k + d.d - 1, (((c.itemsTo y).length + k : Nat) : Int) + 1) := by
 obtain ⟨i, x, hx, ⟨g1, g2, g3⟩, hn, _, _⟩ := Kg hd
 have hp := Ip hy hk
 have e : i = (c.itemsTo y).length + k := Il hx hp (by simp only; omega) (by simp only; rw [g2, h2]) (by simp only; rw [g3, h3])
 subst e
 rw [hx] at hp
 obtain rfl := Option.some.inj hp
 rw [hn]
theorem Qa4 {c : Qf} {n k M j : Nat} {m d X : Int} {s : Bool} {NV : Int × Int} (_hk : k < c.ny) (hj : j < (c.yr k).mos.length) (HN : Hid (∀ k, k < (c.yr n).mos.length → Y4 (c.yr n) k = m → Y5 (c.yr n) k = s → NV = (c.dayAt n + Qx (c.yr n) k + d - 1, (((c.itemsTo n).length + k : Nat) : Int) + 1)))
  (HX : Hid (X = c.dayAt k + d - 1)) (HM : Hid (M = (c.itemsTo k).length)) (e : k = n) (h1 : Y4 (c.yr k) j = m) (h2 : Y5 (c.yr k) j = s) : NV = (X + Qx (c.yr k) j, ((M + j : Nat) : Int) + 1) := by
 subst e
 have := HN.out j hj h1 h2
 rw [this, HX.out, HM.out]
 congr 1
 omega
theorem Ei {c : Qf} {n : Nat} {m d : Int} {s : Bool} (h : c.has ⟨n, m, s, d⟩ = true) : n < c.ny ∧ (∃ k, k < (c.yr n).mos.length ∧ Y4 (c.yr n) k = m ∧ Y5 (c.yr n) k = s) ∧ 1 ≤ d ∧ d ≤ 30 := by
 have g := Va.1 h
 have e : c.yrI (n : Int) = c.yr n := by unfold Qf.yrI; rw [Int.toNat_natCast]
 simp only [e] at g
 obtain ⟨i, hi, he⟩ := Td (y := c.yr n) g.2.1.1 g.2.1.2 g.2.2.1
 have := (Xz (c.yr n) m s).2
 exact ⟨by omega, ⟨i, hi, by unfold Y4; rw [he], by unfold Y5; rw [he]⟩, g.2.2.2.1, by omega⟩
theorem mon_at {w : World} {A : Option Addr} {y : Yr} {i : Nat} (h : Qn w A y.mos.length 3 (Lp y)) (hi : i < y.mos.length) :
  ∃ b off, A = some ⟨b, off, none⟩ ∧ b < w.heap.size ∧ w.cell? ⟨b, off + i * 3, none⟩ = some (.int .i64 (Y4 y i)) ∧ w.cell? ⟨b, off + i * 3 + 1, none⟩ = some (.bool (Y5 y i)) ∧ w.cell? ⟨b, off + i * 3 + 2, none⟩ = some (.int .i64 (moL y i)) := Ta h hi
theorem Cg (A A' : Option Addr) (ca cb : Nat) (c : Qf) (D : Dt) (w : World) (hC : Q0 w A ca A' cb c) (hv : c.valid = true) (hd : c.has D = true) :
  Calls Tryz.prog 95 #[.agg #[.slice A c.nk ca, .slice A' c.ny cb], .agg #[.int .i64 D.y, .int .i64 D.m, .bool D.s, .int .i64 D.d]] w fun e w' => e = .returned (.tuple #[.int .i64 (c.num D).1, .int .i64 (c.num D).2]) ∧ Qa w w' := by
 have hny := Mx hv
 have hlg := Vs hv
 clear hv
 obtain ⟨y, m, s, d⟩ := D
 simp only
 have hy0 : 0 ≤ y := (Va.1 hd).1.1
 obtain ⟨n, rfl⟩ := Int.eq_ofNat_of_zero_le hy0
 clear hy0
 obtain ⟨hn, hfind, d0, d1⟩ := Ei hd
 have HF := Lib.hid hfind
 have HNUM := Lib.hid (fun k hk h2 h3 => Qa3 hd hn (k := k) hk rfl h2 h3)
 clear hfind hd
 generalize c.num ⟨n, m, s, d⟩ = NV at *
 go_enter Tryz.func95, Tryz.ntmps95
 go_upto_region 1 with (fail)
 obtain ⟨v, hv⟩ := Qg ((w.alloc (.cells #[.slice A c.nk ca, .slice A' c.ny cb] 25)).alloc (.cells #[.int .i64 (n : Int), .int .i64 m, .bool s, .int .i64 d] 27))
 rw [← hv]
 have E : Qa w v := by rw [hv]; exact ((Qa.refl _).alloc _).alloc _
 have B1 : Qb v w.heap.size 25 #[.slice A c.nk ca, .slice A' c.ny cb] := by rw [hv]; exact (Qb.new _ _ _).alloc _
 have B2 : Qb v (w.heap.size + 1) 27 #[.int .i64 (n : Int), .int .i64 m, .bool s, .int .i64 d] := by rw [hv]; exact Qb.at _ _ _ _ (by simp)
 clear hv
 have C := hC.ext E
 clear hC
 generalize w.heap.size = b1 at *
 obtain ⟨k0, k1⟩ := B1.c2; have lk := B1.lt
 obtain ⟨p0, p1, p2, p3⟩ := B2.c4; have lp := B2.lt
 go_upto_region 3 with (fail)
 go_loopw [6, 7, 8, 9, 10] (fun dv mv yv _ _ wr => ∃ (k : Nat) (X : Int) (M : Nat), k ≤ n ∧ yv = .int .i64 k ∧ dv = .int .i64 X ∧ mv = .int .i64 (M : Int) ∧ 0 ≤ X ∧ X ≤ 156030 ∧ M ≤ 5200 ∧ Hid (X = c.dayAt k + d - 1) ∧ Hid (M = (c.itemsTo k).length) ∧ Qa v wr) (fun _ _ yv _ _ _ => n + 1 - (intOf yv).toNat)
 case atStart => exact ⟨0, d, 0, Nat.zero_le _, rfl, rfl, rfl, by omega, by omega, by omega, (by show d = 1 + d - 1; omega), rfl, Qa.refl _⟩
 case round =>
  obtain ⟨k, X, M, hk, rfl, rfl, rfl, x0, x1, m1, HX, HM, hE⟩ := hrel
  obtain ⟨wo, rfl⟩ := Qg wr
  clear k0 k1 lk p0 p1 p2 p3 lp
  replace B1 := B1.ext hE
  replace B2 := B2.ext hE
  replace C := C.ext hE
  obtain ⟨k0, k1⟩ := B1.c2
  have lk := B1.lt
  obtain ⟨p0, p1, p2, p3⟩ := B2.c4
  have lp := B2.lt
  have hkn : k < c.ny := by omega
  have hkb : decide ((k : Int) ≤ (n : Int)) = true := decide_eq_true (by omega)
  obtain ⟨yb, yo, hA', hyb, y0, y1, y2, y3⟩ := C.year hkn
  subst hA'
  have hmo := fun w => Tc (c.yr k) w (hlg k hkn).1 (hlg k hkn).2
  have HP := Lib.hid (fun j hj => Qa4 (c := c) (d := d) hkn (j := j) hj HNUM HX HM)
  have HD : Hid (c.dayAt (k + 1) = c.dayAt k + (c.yr k).days) := rfl
  have HB := Lib.hid (V4 c (k + 1))
  have HI := Lib.hid (Ik c k)
  have HIL := Lib.hid (V8 c (k + 1))
  have HA := Lib.hid (Qbq (c.yr k))
  have HF' : Hid (k = n → ∃ j, j < (c.yr k).mos.length ∧ Y4 (c.yr k) j = m ∧ Y5 (c.yr k) j = s) := fun e => by subst e; exact HF.out
  have hml := (Lo (c.yr k)).2
  generalize (c.yr k).days = dys at *
  generalize c.yr k = Y at *
  go_upto_region 6 with (go_at_call 130; (with_reducible refine Calls.mono (hmo _) ?_); rintro e v2 ⟨mv, rfl, h, MA⟩)
  obtain ⟨MA, mcap, rfl, MM⟩ := MA
  clear y0 y1 y2 y3 hyb hmo k0 k1 lk p0 p1 p2 p3 lp
  replace B2 := B2.ext h
  obtain ⟨p0, p1, p2, p3⟩ := B2.c4
  have lp := B2.lt
  go_upto_region 7 with (fail)
  go_loopw [6, 7, 10] (fun dv mv iv wr => ∃ (j : Nat) (X' : Int), j ≤ Y.mos.length ∧ iv = .int .i64 j ∧ dv = .int .i64 X' ∧ mv = .int .i64 ((M + j : Nat) : Int) ∧ 0 ≤ X' ∧ X' ≤ 156500 ∧ Hid (X' = X + Qx Y j) ∧ Hid (k = n → ∀ i, i < j → ¬ (Y4 Y i = m ∧ Y5 Y i = s)) ∧ Qa v2 wr) (fun _ _ iv _ => Y.mos.length - (intOf iv).toNat)
  case atStart => exact ⟨0, X, Nat.zero_le _, rfl, rfl, rfl, x0, by omega, (by show X = X + 0; omega), (fun _ i hi => absurd hi (by omega)), Qa.refl _⟩
  case round =>
   obtain ⟨j, X', hj, rfl, rfl, rfl, z0, z1, HX', HN, hE2⟩ := hrel
   obtain ⟨wi, rfl⟩ := Qg wr
   clear p0 p1 p2 p3 lp
   obtain ⟨p0, p1, p2, p3⟩ := (B2.ext hE2).c4
   have lp := (B2.ext hE2).lt
   by_cases hlt : j < Y.mos.length
   ·obtain ⟨mb, mo, rfl, hmb, c0, c1, c2⟩ := mon_at (MM.ext hE2) hlt
    have HPj := HP.out j hlt
    have hq := moL_bd Y j
    have HS := Lib.hid (Qbr hlt)
    have HPB := Lib.hid (pre_bd (y := Y) (k := j + 1) hlt)
    have HN' : Hid ((k = n → ¬ (Y4 Y j = m ∧ Y5 Y j = s)) → k = n → ∀ i, i < j + 1 → ¬ (Y4 Y i = m ∧ Y5 Y i = s)) := fun h0 e i hi => by
     by_cases e2 : i = j
     ·subst e2; exact h0 e
     ·exact HN.out e i (by omega)
    generalize Y.mos.length = L at *
    generalize Y4 Y j = x at *
    generalize Y5 Y j = z at *
    generalize moL Y j = q at *
    obtain ⟨q0, q1⟩ := hq
    by_cases hkn : k = n
    ·have hknb : ((k : Int) == (n : Int)) = true := by rw [hkn]; exact beq_self_eq_true _
     by_cases hx : x = m
     ·have hxb : (x == m) = true := by rw [hx]; exact beq_self_eq_true _
      by_cases hz : z = s
      ·have hzb : (z == s) = true := by rw [hz]; exact beq_self_eq_true _
       have HR : Hid (NV = (X', ((M + j : Nat) : Int) + 1)) := by rw [HX'.out]; exact HPj hkn hx hz
       clear HPj hkn hx hz HN'
       go_upto_region 10 with (fail)
       refine Zd wi Qo (by kernel_rfl) (by repeat (first | exact Qa.refl _ | (refine Qa.alloc ?_ _) | (refine Qa.trans ?_ (by assumption)))) ?_
       intro hne hrx hry
       try simp only []
       try simp only [List.append_eq, List.cons_append, List.nil_append]
       skip
       repeat (first
        | go_big_quiet_skip
        | (go_big_quiet_want; go_big_quiet_op; go_big_quiet_on))
       clear hne hry hrx
       refine wpQuiet_nil ?_
       intro wn hwn
       obtain ⟨hcwn, hfwn, hzwn⟩ := Qa.rules hwn
       try simp only [World.size_alloc] at hzwn
       obtain ⟨hcbwn, hfbwn, hzbwn⟩ := Qa.rules (show Qa wi wn from (by repeat (first | exact Qa.refl _ | (refine Qa.alloc ?_ _) | (refine Qa.trans ?_ (by assumption)))))
       clear hcwn hfwn
       go_wp2
       go_ret2
       exact ⟨by rw [HR.out]; rfl, (by repeat (first | exact Qa.refl _ | (refine Qa.alloc ?_ _) | (refine Qa.trans ?_ (by assumption))))⟩
      ·have hzb : (z == s) = false := beq_eq_false_iff_ne.2 hz
       have HQ := Lib.hid (HN'.out (fun _ g => hz g.2))
       clear HPj hkn hx hz HN'
       go_upto_region 10 with (fail)
       refine Zd wi Qo (by kernel_rfl) (by repeat (first | exact Qa.refl _ | (refine Qa.alloc ?_ _) | (refine Qa.trans ?_ (by assumption)))) ?_
       intro hne hrx hry
       try simp only []
       try simp only [List.append_eq, List.cons_append, List.nil_append]
       skip
       repeat (first
        | go_big_quiet_skip
        | (go_big_quiet_want; go_big_quiet_op; go_big_quiet_on))
       clear hne hry hrx
       refine wpQuiet_nil ?_
       intro wn hwn
       obtain ⟨hcwn, hfwn, hzwn⟩ := Qa.rules hwn
       try simp only [World.size_alloc] at hzwn
       obtain ⟨hcbwn, hfbwn, hzbwn⟩ := Qa.rules (show Qa wi wn from (by repeat (first | exact Qa.refl _ | (refine Qa.alloc ?_ _) | (refine Qa.trans ?_ (by assumption)))))
       clear hcwn hfwn
       go_wp2
       have g1 := HX'.out
       have g2 := HS.out
       have g3 := HPB.out
       exact ⟨⟨j + 1, X' + q, by omega, by go_num, by go_num, by go_num, by omega, by omega, by unfold Hid; rw [g2, g1]; omega, HQ.out, (by repeat (first | exact Qa.refl _ | (refine Qa.alloc ?_ _) | (refine Qa.trans ?_ (by assumption))))⟩, by simp [intOf]; omega⟩
     ·have hxb : (x == m) = false := beq_eq_false_iff_ne.2 hx
      have HQ := Lib.hid (HN'.out (fun _ g => hx g.1))
      clear HPj hkn hx HN'
      go_upto_region 10 with (fail)
      refine Zd wi Qo (by kernel_rfl) (by repeat (first | exact Qa.refl _ | (refine Qa.alloc ?_ _) | (refine Qa.trans ?_ (by assumption)))) ?_
      intro hne hrx hry
      try simp only []
      try simp only [List.append_eq, List.cons_append, List.nil_append]
      skip
      repeat (first
       | go_big_quiet_skip
       | (go_big_quiet_want; go_big_quiet_op; go_big_quiet_on))
      clear hne hry hrx
      refine wpQuiet_nil ?_
      intro wn hwn
      obtain ⟨hcwn, hfwn, hzwn⟩ := Qa.rules hwn
      try simp only [World.size_alloc] at hzwn
      obtain ⟨hcbwn, hfbwn, hzbwn⟩ := Qa.rules (show Qa wi wn from (by repeat (first | exact Qa.refl _ | (refine Qa.alloc ?_ _) | (refine Qa.trans ?_ (by assumption)))))
      clear hcwn hfwn
      go_wp2
      have g1 := HX'.out
      have g2 := HS.out
      have g3 := HPB.out
      exact ⟨⟨j + 1, X' + q, by omega, by go_num, by go_num, by go_num, by omega, by omega, by unfold Hid; rw [g2, g1]; omega, HQ.out, (by repeat (first | exact Qa.refl _ | (refine Qa.alloc ?_ _) | (refine Qa.trans ?_ (by assumption))))⟩, by simp [intOf]; omega⟩
    ·have hknb : ((k : Int) == (n : Int)) = false := beq_eq_false_iff_ne.2 (by omega)
     have HQ := Lib.hid (HN'.out (fun g _ => hkn g))
     clear HPj hkn HN'
     go_upto_region 10 with (fail)
     refine Zd wi Qo (by kernel_rfl) (by repeat (first | exact Qa.refl _ | (refine Qa.alloc ?_ _) | (refine Qa.trans ?_ (by assumption)))) ?_
     intro hne hrx hry
     try simp only []
     try simp only [List.append_eq, List.cons_append, List.nil_append]
     skip
     repeat (first
      | go_big_quiet_skip
      | (go_big_quiet_want; go_big_quiet_op; go_big_quiet_on))
     clear hne hry hrx
     refine wpQuiet_nil ?_
     intro wn hwn
     obtain ⟨hcwn, hfwn, hzwn⟩ := Qa.rules hwn
     try simp only [World.size_alloc] at hzwn
     obtain ⟨hcbwn, hfbwn, hzbwn⟩ := Qa.rules (show Qa wi wn from (by repeat (first | exact Qa.refl _ | (refine Qa.alloc ?_ _) | (refine Qa.trans ?_ (by assumption)))))
     clear hcwn hfwn
     go_wp2
     have g1 := HX'.out
     have g2 := HS.out
     have g3 := HPB.out
     exact ⟨⟨j + 1, X' + q, by omega, by go_num, by go_num, by go_num, by omega, by omega, by unfold Hid; rw [g2, g1]; omega, HQ.out, (by repeat (first | exact Qa.refl _ | (refine Qa.alloc ?_ _) | (refine Qa.trans ?_ (by assumption))))⟩, by simp [intOf]; omega⟩
   ·obtain rfl : j = Y.mos.length := by omega
    have hkn : k < n := by
     rcases Nat.lt_or_ge k n with h | h
     ·exact h
     ·obtain ⟨i, hi, h1, h2⟩ := HF'.out (by omega)
      exact absurd ⟨h1, h2⟩ (HN.out (by omega) i hi)
    have f1 := HX'.out
    have f2 := HX.out
    have f3 := HD.out
    have f4 := HA.out
    have f5 := HM.out
    have f6 := HI.out
    have f7 := HB.out
    have f8 := HIL.out
    have G1 : Hid (X' = c.dayAt (k + 1) + d - 1 ∧ M + Y.mos.length = (c.itemsTo (k + 1)).length ∧ X' ≤ 156030 ∧ M + Y.mos.length ≤ 5200) := ⟨by omega, by omega, by omega, by omega⟩
    clear f1 f2 f3 f4 f5 f6 f7 f8
    generalize Y.mos.length = L at *
    go_wp2
    obtain ⟨e1, e2, e3, e4⟩ := G1.out
    exact ⟨⟨k + 1, X', M + L, by omega, by go_num, rfl, by go_num, z0, by omega, by omega, e1, e2, (by repeat (first | exact Qa.refl _ | (refine Qa.alloc ?_ _) | (refine Qa.trans ?_ (by assumption))))⟩, by simp [intOf]; omega⟩
end
section
open Go Go.RowKit Go.Shelf
attribute [local go_sem] Zs Dt.val
end
section
open Go Go.RowKit
attribute [local go_sem] Zs
end
section
open Go Go.RowKit Go.Shelf
attribute [local go_sem] Zs
theorem K2 (A A' : Option Addr) (ca cb : Nat) (c : Qf) (d : Dt) (w : World) (hC : Q0 w A ca A' cb c) (hv : c.valid = true) :
  Calls Tryz.prog 60 #[.agg #[.slice A c.nk ca, .slice A' c.ny cb], .agg #[.int .i64 d.y, .int .i64 d.m, .bool d.s, .int .i64 d.d]] w fun e w' => e = .returned (.int .i64 (c.numV d)) ∧ Qa w w' := by
 have NH := fun v (h : Q0 v A ca A' cb c) => Eh A A' ca cb c d v h hv
 unfold Qf.numV
 cases hh : c.has d
 ·have hE : c.inE d ≠ 0 := by rcases Nw c d with ⟨h, _⟩ | ⟨_, _, h⟩ | ⟨_, h, _⟩ <;> first | (rw [hv] at h; cases h) | (rw [h]; decide) | (rw [hh] at h; cases h)
  simp only [hh] at NH
  rw [if_neg hE]
  clear hE hh hv
  go_enter Tryz.func60, Tryz.ntmps60
  go_upto_region 1 with (fail)
  obtain ⟨v, hv⟩ := Qg ((w.alloc (.cells #[.slice A c.nk ca, .slice A' c.ny cb] 25)).alloc (.cells #[.int .i64 d.y, .int .i64 d.m, .bool d.s, .int .i64 d.d] 27))
  rw [← hv]
  have E : Qa w v := by rw [hv]; exact ((Qa.refl _).alloc _).alloc _
  have B1 : Qb v w.heap.size 25 #[.slice A c.nk ca, .slice A' c.ny cb] := by rw [hv]; exact (Qb.new _ _ _).alloc _
  have B2 : Qb v (w.heap.size + 1) 27 #[.int .i64 d.y, .int .i64 d.m, .bool d.s, .int .i64 d.d] := by rw [hv]; exact Qb.at _ _ _ _ (by simp)
  clear hv
  obtain ⟨b2, hb2⟩ := Qg (w.heap.size + 1)
  rw [← hb2] at B2 ⊢
  obtain ⟨b1, hb1⟩ := Qg (w.heap.size)
  rw [← hb1] at B1 ⊢
  have hbr : w.heap.size ≤ b2 := by omega
  have hbr1 : w.heap.size ≤ b1 := by omega
  have hn21 : b2 ≠ b1 := by omega
  clear hb1 hb2
  have C := hC.ext E
  clear hC
  obtain ⟨k0, k1⟩ := B1.c2
  have kl := B1.lt
  obtain ⟨p0, p1, p2, p3⟩ := B2.c4
  have pl := B2.lt
  go_wp2_with (go_at_call 94; (with_reducible refine Calls.mono (NH _ C) ?_); rintro e w1 ⟨rfl, h1⟩; replace E := E.trans h1; replace C := C.ext h1; replace B1 := B1.ext h1; replace B2 := B2.ext h1; clear k0 k1 kl; obtain ⟨k0, k1⟩ := B1.c2; have kl := B1.lt; clear p0 p1 p2 p3 pl; obtain ⟨p0, p1, p2, p3⟩ := B2.c4; have pl := B2.lt; clear h1)
  go_ret
  exact ⟨rfl, E⟩
 ·have hE : c.inE d = 0 := by rcases Nw c d with ⟨h, _⟩ | ⟨_, h, _⟩ | ⟨_, _, h⟩ <;> first | (rw [hv] at h; cases h) | exact h | (rw [hh] at h; cases h)
  have NK := fun v (h : Q0 v A ca A' cb c) => Cg A A' ca cb c d v h hv hh
  simp only [hh] at NH
  rw [if_pos hE]
  generalize c.num d = V at *
  clear hE hh hv
  go_enter Tryz.func60, Tryz.ntmps60
  go_upto_region 1 with (fail)
  obtain ⟨v, hv⟩ := Qg ((w.alloc (.cells #[.slice A c.nk ca, .slice A' c.ny cb] 25)).alloc (.cells #[.int .i64 d.y, .int .i64 d.m, .bool d.s, .int .i64 d.d] 27))
  rw [← hv]
  have E : Qa w v := by rw [hv]; exact ((Qa.refl _).alloc _).alloc _
  have B1 : Qb v w.heap.size 25 #[.slice A c.nk ca, .slice A' c.ny cb] := by rw [hv]; exact (Qb.new _ _ _).alloc _
  have B2 : Qb v (w.heap.size + 1) 27 #[.int .i64 d.y, .int .i64 d.m, .bool d.s, .int .i64 d.d] := by rw [hv]; exact Qb.at _ _ _ _ (by simp)
  clear hv
  obtain ⟨b2, hb2⟩ := Qg (w.heap.size + 1)
  rw [← hb2] at B2 ⊢
  obtain ⟨b1, hb1⟩ := Qg (w.heap.size)
  rw [← hb1] at B1 ⊢
  have hbr : w.heap.size ≤ b2 := by omega
  have hbr1 : w.heap.size ≤ b1 := by omega
  have hn21 : b2 ≠ b1 := by omega
  clear hb1 hb2
  have C := hC.ext E
  clear hC
  obtain ⟨k0, k1⟩ := B1.c2
  have kl := B1.lt
  obtain ⟨p0, p1, p2, p3⟩ := B2.c4
  have pl := B2.lt
  go_wp2_with (first | (go_at_call 94; (with_reducible refine Calls.mono (NH _ C) ?_); rintro e w1 ⟨rfl, h1⟩; replace E := E.trans h1; replace C := C.ext h1; replace B1 := B1.ext h1; replace B2 := B2.ext h1; clear k0 k1 kl; obtain ⟨k0, k1⟩ := B1.c2; have kl := B1.lt; clear p0 p1 p2 p3 pl; obtain ⟨p0, p1, p2, p3⟩ := B2.c4; have pl := B2.lt; clear h1) | (go_at_call 95; (with_reducible refine Calls.mono (NK _ C) ?_); rintro e w2 ⟨rfl, h1⟩; replace E := E.trans h1; replace C := C.ext h1; replace B1 := B1.ext h1; replace B2 := B2.ext h1; clear k0 k1 kl; obtain ⟨k0, k1⟩ := B1.c2; have kl := B1.lt; clear p0 p1 p2 p3 pl; obtain ⟨p0, p1, p2, p3⟩ := B2.c4; have pl := B2.lt; clear h1))
  go_ret
  exact ⟨rfl, E⟩
theorem Nx (A A' : Option Addr) (ca cb : Nat) (c : Qf) (a b : Dt) (w : World) (hC : Q0 w A ca A' cb c) (hv : c.valid = true) :
  Calls Tryz.prog 61 #[.agg #[.slice A c.nk ca, .slice A' c.ny cb], .agg #[.int .i64 a.y, .int .i64 a.m, .bool a.s, .int .i64 a.d], .agg #[.int .i64 b.y, .int .i64 b.m, .bool b.s, .int .i64 b.d]] w fun e w' => e = .returned (.bool (decide (0 < c.numV a) && decide (c.numV a ≤ c.numV b))) ∧ Qa w w' := by
 have NA := fun v (h : Q0 v A ca A' cb c) => K2 A A' ca cb c a v h hv
 have NB := fun v (h : Q0 v A ca A' cb c) => K2 A A' ca cb c b v h hv
 generalize c.numV a = x at *
 generalize c.numV b = y at *
 clear hv
 go_enter Tryz.func61, Tryz.ntmps61
 go_upto_region 1 with (fail)
 obtain ⟨v, hv⟩ := Qg (((w.alloc (.cells #[.slice A c.nk ca, .slice A' c.ny cb] 25)).alloc (.cells #[.int .i64 a.y, .int .i64 a.m, .bool a.s, .int .i64 a.d] 27)).alloc (.cells #[.int .i64 b.y, .int .i64 b.m, .bool b.s, .int .i64 b.d] 27))
 rw [← hv]
 have E : Qa w v := by rw [hv]; exact (((Qa.refl _).alloc _).alloc _).alloc _
 have B1 : Qb v w.heap.size 25 #[.slice A c.nk ca, .slice A' c.ny cb] := by rw [hv]; exact ((Qb.new _ _ _).alloc _).alloc _
 have B2 : Qb v (w.heap.size + 1) 27 #[.int .i64 a.y, .int .i64 a.m, .bool a.s, .int .i64 a.d] := by rw [hv]; exact (Qb.at _ _ _ _ (by simp)).alloc _
 have B3 : Qb v (w.heap.size + 1 + 1) 27 #[.int .i64 b.y, .int .i64 b.m, .bool b.s, .int .i64 b.d] := by rw [hv]; exact Qb.at _ _ _ _ (by simp)
 clear hv
 obtain ⟨b3, hb3⟩ := Qg (w.heap.size + 1 + 1)
 rw [← hb3] at B3 ⊢
 obtain ⟨b2, hb2⟩ := Qg (w.heap.size + 1)
 rw [← hb2] at B2 ⊢
 obtain ⟨b1, hb1⟩ := Qg (w.heap.size)
 rw [← hb1] at B1 ⊢
 have hbr : w.heap.size ≤ b3 := by omega
 have hbr1 : w.heap.size ≤ b1 := by omega
 have hbr2 : w.heap.size ≤ b2 := by omega
 have hn21 : b2 ≠ b1 := by omega
 have hn31 : b3 ≠ b1 := by omega
 have hn32 : b3 ≠ b2 := by omega
 clear hb1 hb2 hb3
 have C := hC.ext E
 clear hC
 obtain ⟨k0, k1⟩ := B1.c2
 have kl := B1.lt
 obtain ⟨p0, p1, p2, p3⟩ := B2.c4
 have pl := B2.lt
 obtain ⟨q0, q1, q2, q3⟩ := B3.c4
 have ql := B3.lt
 refine Zd v Qo (by kernel_rfl) (by repeat (first | exact Qa.refl _ | (refine Qa.alloc ?_ _) | (refine Qa.trans ?_ (by assumption)))) ?_
 intro hne hrx hry
 try simp only []
 try simp only [List.append_eq, List.cons_append, List.nil_append]
 skip
 repeat (first
  | go_big_quiet_skip
  | (go_big_quiet_want; go_big_quiet_op; go_big_quiet_on)
  | (go_big_quiet_want; go_big_quiet_op; apply Exists.intro; refine ⟨fun u => ?_, ?_⟩
     ·first
       | (go_at_call 60; (with_reducible refine Calls.mono (NA _ (C.ext u.e)) ?_); rintro e w' ⟨rfl, hb⟩; exact ⟨rfl, u.back hb⟩)
       | (go_at_call 60; (with_reducible refine Calls.mono (NB _ (C.ext u.e)) ?_); rintro e w' ⟨rfl, hb⟩; exact ⟨rfl, u.back hb⟩)
     go_big_quiet_on))
 clear hne hry hrx
 refine wpQuiet_nil ?_
 intro v1 h1
 obtain ⟨hcv1, hfv1, hzv1⟩ := Qa.rules h1
 try simp only [World.size_alloc] at hzv1
 obtain ⟨hcbv1, hfbv1, hzbv1⟩ := Qa.rules (show Qa v v1 from (by repeat (first | exact Qa.refl _ | (refine Qa.alloc ?_ _) | (refine Qa.trans ?_ (by assumption)))))
 clear hcv1 hfv1
 clear NA NB C k0 k1 kl p0 p1 p2 p3 pl q0 q1 q2 q3 ql
 replace E := E.trans h1
 clear h1
 by_cases c1 : 0 < x
 ·have g1 : decide (0 < x) = true := decide_eq_true c1
  by_cases c2 : 0 < y
  ·have g2 : decide (0 < y) = true := decide_eq_true c2
   clear c1 c2
   cases g3 : decide (x ≤ y)
   ·go_wp2
    go_ret
    exact ⟨by rw [g1]; first | rfl | (rw [g3]; rfl), E⟩
   ·go_wp2
    go_ret
    exact ⟨by rw [g1]; first | rfl | (rw [g3]; rfl), E⟩
  ·have g2 : decide (0 < y) = false := decide_eq_false c2
   have g3 : decide (x ≤ y) = false := decide_eq_false (by omega)
   clear c1 c2
   go_wp2
   go_ret
   exact ⟨by rw [g3, Bool.and_false]; rfl, E⟩
 ·have g1 : decide (0 < x) = false := decide_eq_false c1
  clear c1
  go_wp2
  go_ret
  exact ⟨by rw [g1]; rfl, E⟩
end
section
open Go Go.RowKit
theorem Ag (w : World) (x0 y0 : ByteArray) (x1 y1 : Int) : (Op.equalIn 10000 68 (.agg #[.string x0, .int .i64 x1]) (.agg #[.string y0, .int .i64 y1])).run Tryz.prog w = .ok ((x0.toList == y0.toList) && (x1 == y1)) w := by
 go_simp
 by_cases h0 : x0.toList = y0.toList
 rotate_left
 ·simp [h0]
 by_cases h1 : x1 = y1
 rotate_left
 ·simp [h1]
 simp [h0, h1]
theorem Og (w : World) (x0 y0 : ByteArray) (x1 y1 : Int) : (binOp .neq 68 (.agg #[.string x0, .int .i64 x1]) (.agg #[.string y0, .int .i64 y1])).run Tryz.prog w = .ok (.bool (!((x0.toList == y0.toList) && (x1 == y1)))) w := by rw [run_neq_struct, Ag]; rfl
theorem Ai (w : World) (x0 y0 : Int) (x1 y1 : Int) : (Op.equalIn 10000 73 (.agg #[.int .i64 x0, .int .i64 x1]) (.agg #[.int .i64 y0, .int .i64 y1])).run Tryz.prog w = .ok ((x0 == y0) && (x1 == y1)) w := by
 go_simp
 by_cases h0 : x0 = y0
 rotate_left
 ·simp [h0]
 by_cases h1 : x1 = y1
 rotate_left
 ·simp [h1]
 simp [h0, h1]
theorem Qau (w : World) (x0 y0 : Int) (x1 y1 : Int) : (binOp .neq 73 (.agg #[.int .i64 x0, .int .i64 x1]) (.agg #[.int .i64 y0, .int .i64 y1])).run Tryz.prog w = .ok (.bool (!((x0 == y0) && (x1 == y1)))) w := by rw [run_neq_struct, Ai]; rfl
theorem Ae (w : World) (x0 y0 : Int) (x1 y1 : Int) (x2 y2 : Int) (x3 y3 : Int) (x4 y4 : Int) (x5 y5 : Int) : (Op.equalIn 10000 85 (.agg #[.int .i64 x0, .int .i64 x1, .int .i64 x2, .int .i64 x3, .int .i64 x4, .int .i64 x5]) (.agg #[.int .i64 y0, .int .i64 y1, .int .i64 y2, .int .i64 y3, .int .i64 y4, .int .i64 y5])).run Tryz.prog w = .ok ((x0 == y0) && ((x1 == y1) && ((x2 == y2) && ((x3 == y3) && ((x4 == y4) && (x5 == y5)))))) w := by
 go_simp
 by_cases h0 : x0 = y0
 rotate_left
 ·simp [h0]
 by_cases h1 : x1 = y1
 rotate_left
 ·simp [h1]
 by_cases h2 : x2 = y2
 rotate_left
 ·simp [h2]
 by_cases h3 : x3 = y3
 rotate_left
 ·simp [h3]
 by_cases h4 : x4 = y4
 rotate_left
 ·simp [h4]
 by_cases h5 : x5 = y5
 rotate_left
 ·simp [h5]
 simp [h0, h1, h2, h3, h4, h5]
theorem Qas (w : World) (x0 y0 : Int) (x1 y1 : Int) (x2 y2 : Int) (x3 y3 : Int) (x4 y4 : Int) (x5 y5 : Int) : (binOp .neq 85 (.agg #[.int .i64 x0, .int .i64 x1, .int .i64 x2, .int .i64 x3, .int .i64 x4, .int .i64 x5]) (.agg #[.int .i64 y0, .int .i64 y1, .int .i64 y2, .int .i64 y3, .int .i64 y4, .int .i64 y5])).run Tryz.prog w = .ok (.bool (!((x0 == y0) && ((x1 == y1) && ((x2 == y2) && ((x3 == y3) && ((x4 == y4) && (x5 == y5)))))))) w := by rw [run_neq_struct, Ae]; rfl
theorem Af (w : World) (x0 y0 : Int) (x1 y1 : Int) (x2 y2 : Int) : (Op.equalIn 10000 99 (.agg #[.int .i64 x0, .int .i64 x1, .int .i64 x2]) (.agg #[.int .i64 y0, .int .i64 y1, .int .i64 y2])).run Tryz.prog w = .ok ((x0 == y0) && ((x1 == y1) && (x2 == y2))) w := by
 go_simp
 by_cases h0 : x0 = y0
 rotate_left
 ·simp [h0]
 by_cases h1 : x1 = y1
 rotate_left
 ·simp [h1]
 by_cases h2 : x2 = y2
 rotate_left
 ·simp [h2]
 simp [h0, h1, h2]
theorem Qat (w : World) (x0 y0 : Int) (x1 y1 : Int) (x2 y2 : Int) : (binOp .neq 99 (.agg #[.int .i64 x0, .int .i64 x1, .int .i64 x2]) (.agg #[.int .i64 y0, .int .i64 y1, .int .i64 y2])).run Tryz.prog w = .ok (.bool (!((x0 == y0) && ((x1 == y1) && (x2 == y2))))) w := by rw [run_neq_struct, Af]; rfl
end
section
open Go Go.RowKit Go.Shelf
attribute [local go_sem] Zs
attribute [local go_sem high] Og
theorem Oz (v1 v2 : Value) (l : List Lt) (w : World) (h1 : Zn w v1 l) (h2 : Zn w v2 l) :
  Calls Tryz.prog 13 #[v1, v2] w fun e w' => e = .returned (.bool true) ∧ Qa w w' := by
 obtain ⟨A, ca, rfl, hA, hca, hca', _⟩ := h1
 obtain ⟨B, cb, rfl, hB, hcb, hcb', _⟩ := h2
 have hn : l.length ≤ 9223372036854775807 := Nat.le_trans hca (Nat.le_trans hca' (by decide))
 clear hca hca' hcb hcb'
 generalize l.length = n at *
 generalize Qz l = f at *
 go_enter Tryz.func13, Tryz.ntmps13
 go_upto_region 4 with (fail)
 go_loopw [5] (fun i wr => ∃ k : Nat, k ≤ n ∧ i = .int .i64 k ∧ Qa w wr) (fun i _ => n - (intOf i).toNat)
 case atStart => exact ⟨0, Nat.zero_le _, rfl, Qa.refl _⟩
 case round =>
  obtain ⟨k, hk, rfl, hE⟩ := hrel
  obtain ⟨wo, rfl⟩ := Qg wr
  by_cases hlt : k < n
  ·obtain ⟨b, off, rfl, hb, hc⟩ := (hA.ext hE) (by omega)
   have c0 : wo.cell? ⟨b, off + k * 2, none⟩ = some (.string (f k).g) := by simpa [Q4] using hc k 0 _ hlt rfl
   have c1 : wo.cell? ⟨b, off + k * 2 + 1, none⟩ = some (.int .i64 (f k).n) := by simpa [Q4] using hc k 1 _ hlt rfl
   clear hc
   obtain ⟨b2, off2, rfl, hb2, hc⟩ := (hB.ext hE) (by omega)
   have d0 : wo.cell? ⟨b2, off2 + k * 2, none⟩ = some (.string (f k).g) := by simpa [Q4] using hc k 0 _ hlt rfl
   have d1 : wo.cell? ⟨b2, off2 + k * 2 + 1, none⟩ = some (.int .i64 (f k).n) := by simpa [Q4] using hc k 1 _ hlt rfl
   clear hc hA hB
   generalize (f k).g = s at *
   generalize (f k).n = z at *
   go_upto_region 6 with (fail)
   refine Zd wo Qo (by kernel_rfl) (by repeat (first | exact Qa.refl _ | (refine Qa.alloc ?_ _) | (refine Qa.trans ?_ (by assumption)))) ?_
   intro hne hrx hry
   try simp only []
   try simp only [List.append_eq, List.cons_append, List.nil_append]
   skip
   repeat (first
    | go_big_quiet_skip
    | (go_big_quiet_want; go_big_quiet_op; go_big_quiet_on))
   clear hne hry hrx
   refine wpQuiet_nil ?_
   intro w2 h2
   obtain ⟨hcw2, hfw2, hzw2⟩ := Qa.rules h2
   try simp only [World.size_alloc] at hzw2
   obtain ⟨hcbw2, hfbw2, hzbw2⟩ := Qa.rules (show Qa wo w2 from (by repeat (first | exact Qa.refl _ | (refine Qa.alloc ?_ _) | (refine Qa.trans ?_ (by assumption)))))
   clear hcw2 hfw2
   go_wp2
   exact ⟨⟨k + 1, by omega, by go_num, hE.trans h2⟩, by simp [intOf]; omega⟩
  ·obtain rfl : k = n := by omega
   go_wp2
   go_ret
   exact ⟨rfl, hE⟩
theorem Kz (v : Value) (l : List Lt) (w : World) (hL : Zn w v l) (hsz : l.length * 24 ≤ 140737488351232) :
  Calls Tryz.prog 20 #[v] w fun e w' => ∃ v', e = .returned v' ∧ Qa w w' ∧ w'.ownsRow w.heap.size 68 2 v' l.length (l.flatMap Jm) := by
 have hfl := Ns l
 obtain ⟨T, cap, rfl, hT, hcap, hmax, hnil⟩ := hL
 obtain ⟨i0, hi, hz0, hz1, hz2⟩ := info_parts Ez
 have hlen := Ye (f := Q4 (Qz l)) (sz := 2) (fun _ => rfl) l.length
 have hone : ∀ u ∈ Qy (Q4 (Qz l)) l.length, u.oneCell' = true := Nt (f := Q4 (Qz l)) (n := l.length) (fun i u hu => by simp [Q4] at hu; rcases hu with rfl | rfl <;> simp [Value.oneCell'])
 go_enter Tryz.func20, Tryz.ntmps20
 go_upto_region 2 with (fail)
 go_wp2_with (at_builtin; refine Hv rfl _ _ 28 rfl w.heap.size 68 i0 (.agg #[.string ⟨#[]⟩, .int .i64 0]) 2 24 Tryz.underlying28 hi hz0 hz1 hz2 rfl (by decide) rfl T l.length cap (Qy (Q4 (Qz l)) l.length) rfl hnil hlen (Ul (f := Q4 (Qz l)) (sz := 2) (fun _ => rfl) (by decide) hT) hone (by unfold maxLen; omega) (by omega) (Nat.le_refl _) ?_; intro p w3 hP hgrow)
 have hx : Qa w w3 := (Qa.refl _).grown hgrow (fun q hq => by cases hq)
 clear hgrow
 rw [← hfl] at hP
 go_ret
 exact ⟨_, rfl, hx, hP⟩
theorem Nf (v : Value) (l : List Lt) (w : World) (hL : Zn w v l) :
  Calls Tryz.prog 55 #[v] w fun e w' => e = .returned (.int .i64 (J3 l)) ∧ Qa w w' := by
 obtain ⟨T, cap, rfl, hT, hcap, hmax, _⟩ := hL
 exact Bp T l.length cap (Qz l) w hT hcap (Nat.le_trans hcap (Nat.le_trans hmax (by decide)))
end
end Go.Proofs.YtneiofnlmblglaaGreatDoor
