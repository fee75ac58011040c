/- Walks of the program's functions and plain facts, packed; proved: the lemmas below; no conditions but those that each states. -/
import Derived.Test.YtneiofnlmblglaaGreatDoorQ9
import Derived.Test.YtneiofnlmblglaaGreatDoorQ7
import Derived.Test.YtneiofnlmblglaaGreatDoorQ10
import Derived.Lib.Strings
import Derived.Test.YtneiofnlmblglaaGreatDoorQ1
import Derived.Test.YtneiofnlmblglaaGreatDoorQ5
import Derived.Test.YtneiofnlmblglaaGreatDoorQ4
set_option maxRecDepth 100000
set_option maxHeartbeats 4000000
namespace Go.Proofs.YtneiofnlmblglaaGreatDoor
section
open Go Go.RowKit Go.Shelf
attribute [local go_sem] Zt
/-- A slice value that reads as a list of lots. -/
def Zp (w : World) (v : Value) (l : List Lt) : Prop := ∃ A cap, v = .slice A l.length cap ∧ Qk w A l.length 2 (Qz (Za l)) ∧ l.length ≤ cap ∧ cap ≤ maxLen ∧ (A = none → l.length = 0 ∧ cap = 0)
theorem Zp.ext {w w' : World} {v : Value} {l : List Lt} (h : Zp w v l) (e : Qa w w') : Zp w' v l := by
 obtain ⟨A, cap, h1, h2, h3⟩ := h
 exact ⟨A, cap, h1, h2.ext e, h3⟩
def Qq (d : Dl) (v : Value) : List Value := [.int .i64 d.on.y, .int .i64 d.on.m, .bool d.on.s, .int .i64 d.on.d, .bool d.i, .string d.w, v]
/-- A slice value that reads as a list of deals. -/
def Ys (w : World) (v : Value) (l : List Dl) : Prop := ∃ D cap, ∃ vs : Nat → Value, v = .slice D l.length cap ∧ Qk w D l.length 7 (fun i => Qq (l.getD i Qx) (vs i)) ∧ l.length ≤ cap ∧ cap ≤ maxLen ∧ (D = none → l.length = 0 ∧ cap = 0) ∧ ∀ i, i < l.length → Zp w (vs i) (l.getD i Qx).l
theorem Ys.ext {w w' : World} {v : Value} {l : List Dl} (h : Ys w v l) (e : Qa w w') : Ys w' v l := by
 obtain ⟨D, cap, vs, h1, h2, h3, h4, h5, h6⟩ := h
 exact ⟨D, cap, vs, h1, h2.ext e, h3, h4, h5, fun i hi => (h6 i hi).ext e⟩
structure Jj (w : World) (p : Pd) (vo vd vc : Value) : Prop where
 o : Zp w vo p.o
 d : Ys w vd p.d
 c : Zp w vc p.c
theorem Jj.ext {w w' : World} {p : Pd} {vo vd vc : Value} (h : Jj w p vo vd vc) (e : Qa w w') : Jj w' p vo vd vc := ⟨h.o.ext e, h.d.ext e, h.c.ext e⟩
theorem Cz (l : List Lt) : ((List.range l.length).any fun j => decide ((Za l j).n < 0)) = l.any fun x => decide (x.n < 0) := by
 conv => rhs; rw [← Tu l]
 unfold Qu
 rw [List.any_map]; rfl
section
variable {W : World} {b : Nat} {t : TypeId} {v0 v1 v2 v3 v4 v5 v6 v7 v8 v9 v10 v11 : Value}
theorem Yg (h : Qb W b t #[v0, v1, v2, v3, v4, v5, v6]) : W.cell? ⟨b, 0, none⟩ = some v0 ∧ W.cell? ⟨b, 1, none⟩ = some v1 ∧ W.cell? ⟨b, 2, none⟩ = some v2 ∧ W.cell? ⟨b, 3, none⟩ = some v3 ∧ W.cell? ⟨b, 4, none⟩ = some v4 ∧ W.cell? ⟨b, 5, none⟩ = some v5 ∧ W.cell? ⟨b, 6, none⟩ = some v6 := ⟨h.cell 0, h.cell 1, h.cell 2, h.cell 3, h.cell 4, h.cell 5, h.cell 6⟩
theorem Qb.c12 (h : Qb W b t #[v0, v1, v2, v3, v4, v5, v6, v7, v8, v9, v10, v11]) : W.cell? ⟨b, 0, none⟩ = some v0 ∧ W.cell? ⟨b, 1, none⟩ = some v1 ∧ W.cell? ⟨b, 2, none⟩ = some v2 ∧ W.cell? ⟨b, 3, none⟩ = some v3 ∧ W.cell? ⟨b, 4, none⟩ = some v4 ∧ W.cell? ⟨b, 5, none⟩ = some v5 ∧ W.cell? ⟨b, 6, none⟩ = some v6 ∧ W.cell? ⟨b, 7, none⟩ = some v7 ∧ W.cell? ⟨b, 8, none⟩ = some v8 ∧ W.cell? ⟨b, 9, none⟩ = some v9 ∧ W.cell? ⟨b, 10, none⟩ = some v10 ∧ W.cell? ⟨b, 11, none⟩ = some v11 := ⟨h.cell 0, h.cell 1, h.cell 2, h.cell 3, h.cell 4, h.cell 5, h.cell 6, h.cell 7, h.cell 8, h.cell 9, h.cell 10, h.cell 11⟩
end
theorem Ig (l : Lt) (w : World) :
  Calls Tryz.prog 143 #[.agg #[.string l.g, .int .i64 l.n]] w fun e w' => e = .returned (.bool (decide (l.n < 0))) ∧ Qa w w' := by
 go_enter Tryz.func143, Tryz.ntmps143
 go_upto_region 1 with (fail)
 obtain ⟨v, hv⟩ := Qg (w.alloc (.cells #[.string l.g, .int .i64 l.n] 68))
 rw [← hv]
 have E : Qa w v := by rw [hv]; exact (Qa.refl _).alloc _
 have B1 : Qb v w.heap.size 68 #[.string l.g, .int .i64 l.n] := by rw [hv]; exact Qb.new _ _ _
 clear hv
 generalize w.heap.size = b1 at *
 obtain ⟨k0, k1⟩ := B1.c2
 have lk := B1.lt
 go_wp2
 go_ret
 exact ⟨rfl, E⟩
theorem Ee (A : Option Addr) (n cap : Nat) (f : Nat → Lt) (w : World) (hA : Qk w A n 2 (Qz f)) (hn : n ≤ 9223372036854775807) :
  Calls Tryz.prog 147 #[.slice A n cap, .func (.func 143) #[] #[]] w fun e w' => ∃ r : Int, e = .returned (.int .i64 r) ∧ decide (0 ≤ r) = ((List.range n).any fun j => decide ((f j).n < 0)) ∧ Qa w w' := by
 go_enter Tryz.func147, Tryz.ntmps147
 go_wp2
 go_loopw [8] (fun iv wr => ∃ k : Nat, k ≤ n ∧ iv = .int .i64 (k : Int) ∧ Hid (∀ j, j < k → decide ((f j).n < 0) = false) ∧ Qa w wr) (fun iv _ => n - (intOf iv).toNat)
 case atStart => exact ⟨0, Nat.zero_le _, rfl, fun j h => absurd h (by omega), Qa.refl _⟩
 case round =>
  obtain ⟨k, hk0, rfl, hno, hE⟩ := hrel
  obtain ⟨wo, rfl⟩ := Qg wr
  by_cases hlt : k < n
  ·obtain ⟨b, off, hAA, hb, hc⟩ := (hA.ext hE) (by omega)
   subst hAA
   have c0 : wo.cell? ⟨b, off + k * 2, none⟩ = some (.string (f k).g) := by simpa [Qz] using hc k 0 _ hlt rfl
   have c1 : wo.cell? ⟨b, off + k * 2 + 1, none⟩ = some (.int .i64 (f k).n) := by simpa [Qz] using hc k 1 _ hlt rfl
   have NP := Ig (f k) wo
   clear hc hA
   generalize hq : decide ((f k).n < 0) = q at *
   have HQ := Lib.hid hq
   clear hq
   cases q
   ·go_wp2_with (first | (go_at_call 143; (with_reducible refine Calls.mono (NP) ?_); rintro e w4 ⟨rfl, h⟩) | (go_at_fn 143; (with_reducible refine Calls.mono (NP) ?_); rintro e w4 ⟨rfl, h⟩))
    exact ⟨⟨k + 1, by omega, by go_num, fun j hj => by
     by_cases e : j = k
     ·subst e; exact HQ.out
     ·exact hno.out j (by omega), hE.trans h⟩, by simp [intOf]; omega⟩
   ·go_wp2_with (first | (go_at_call 143; (with_reducible refine Calls.mono (NP) ?_); rintro e w4 ⟨rfl, h⟩) | (go_at_fn 143; (with_reducible refine Calls.mono (NP) ?_); rintro e w4 ⟨rfl, h⟩))
    go_ret
    exact ⟨_, rfl, by rw [decide_eq_true (by omega)]; exact (List.any_eq_true.2 ⟨k, by simpa using hlt, HQ.out⟩).symm, hE.trans h⟩
  ·obtain rfl : k = n := by omega
   go_wp2
   go_ret
   exact ⟨_, rfl, by rw [decide_eq_false (by omega)]; exact (List.any_eq_false.2 (fun j hj => by have := hno.out j (by simpa using hj); simpa using this)).symm, hE⟩
theorem Ap (A : Option Addr) (n cap : Nat) (f : Nat → Lt) (w : World) (hA : Qk w A n 2 (Qz f)) (hn : n ≤ 9223372036854775807) :
  Calls Tryz.prog 142 #[.slice A n cap, .func (.func 143) #[] #[]] w fun e w' => e = .returned (.bool ((List.range n).any fun j => decide ((f j).n < 0))) ∧ Qa w w' := by
 have NI := Ee A n cap f w hA hn
 go_enter Tryz.func142, Tryz.ntmps142
 go_wp2_with (go_at_call 147; (with_reducible refine Calls.mono (NI) ?_); rintro e w4 ⟨r, rfl, hr, h⟩)
 go_ret
 exact ⟨by rw [← hr]; rfl, h⟩
theorem Qcs (v : Value) (l : List Lt) (w : World) (hL : Zp w v l) :
  Calls Tryz.prog 132 #[v] w fun e w' => e = .returned (.bool (Xm l)) ∧ Qa w w' := by
 obtain ⟨T, cap, rfl, hT, hcap, hmax, _⟩ := hL
 have hn : l.length ≤ 9223372036854775807 := Nat.le_trans hcap (Nat.le_trans hmax (by decide))
 have N1 := Lm T l.length cap (Za l) w hT hcap hn
 have N2 := fun w h => Ap T l.length cap (Za l) w h hn
 rw [Cz] at N2
 have HR : Hid (Xm l = (decide (0 < l.length) && decide (Jh (Za l) l.length = 0) && !(l.any fun x => decide (x.n < 0)))) := rfl
 generalize Xm l = r at *
 generalize (l.any fun x => decide (x.n < 0)) = an at *
 generalize Jh (Za l) l.length = e1 at *
 generalize l.length = n at *
 by_cases h0 : 0 < n
 ·have d0 : decide ((0 : Int) < (n : Int)) = true := decide_eq_true (by omega)
  have d0' : decide (0 < n) = true := decide_eq_true h0
  by_cases hz : e1 = 0
  ·subst hz
   have hr : r = !an := by rw [HR.out, d0']; rfl
   clear HR
   subst hr
   cases an
   all_goals
    go_enter Tryz.func132, Tryz.ntmps132
    go_wp2_with (first | (go_at_call 52; (with_reducible refine Calls.mono (N1) ?_); rintro e w1 ⟨rfl, h1⟩) | (go_at_call 142; (with_reducible refine Calls.mono (N2 _ (hT.ext h1)) ?_); rintro e w2 ⟨rfl, h2⟩))
    go_ret
    exact ⟨rfl, h1.trans h2⟩
  ·have g0 : (e1 == 0) = false := beq_eq_false_iff_ne.2 hz
   have hr : r = false := by rw [HR.out, d0', decide_eq_false hz]; rfl
   clear HR hz
   subst hr
   go_enter Tryz.func132, Tryz.ntmps132
   go_wp2_with (go_at_call 52; (with_reducible refine Calls.mono (N1) ?_); rintro e w1 ⟨rfl, h1⟩)
   go_ret
   exact ⟨rfl, h1⟩
 ·have d0 : decide ((0 : Int) < (n : Int)) = false := decide_eq_false (by omega)
  have d0' : decide (0 < n) = false := decide_eq_false h0
  have hr : r = false := by rw [HR.out, d0']; rfl
  clear HR
  subst hr
  go_enter Tryz.func132, Tryz.ntmps132
  go_wp2
  go_ret
  exact ⟨rfl, Qa.refl _⟩
theorem Vf {w : World} {T : Option Addr} {cap : Nat} {l : List Lt} (h : Zp w (.slice T l.length cap) l) : Qk w T l.length 2 (Qz (Za l)) := by
 obtain ⟨A, cap', e, h2, _⟩ := h
 cases e
 exact h2
theorem Qdw (A A' : Option Addr) (ca cb : Nat) (c : Qf) (p : Pd) (vo vd vc : Value) (w : World) (hC : Qv w A ca A' cb c) (hP : Jj w p vo vd vc) :
  Calls Tryz.prog 101 #[.agg #[.slice A c.nk ca, .slice A' c.ny cb], .agg #[.string p.h, .int .i64 p.a.y, .int .i64 p.a.m, .bool p.a.s, .int .i64 p.a.d, .int .i64 p.b.y, .int .i64 p.b.m, .bool p.b.s, .int .i64 p.b.d, vo, vd, vc]] w fun e w' => e = .returned (.bool (c.perOk p)) ∧ Qa w w' := by
 obtain ⟨R, hR0⟩ := Qg (c.perOk p)
 rw [← hR0]
 have HR := Lib.hid hR0
 clear hR0
 have NS := fun w h => Oq A A' ca cb c p.a p.b w h
 go_enter Tryz.func101, Tryz.ntmps101
 go_upto_region 1 with (fail)
 obtain ⟨v, hv⟩ := Qg ((w.alloc (.cells #[.slice A c.nk ca, .slice A' c.ny cb] 61)).alloc (.cells #[.string p.h, .int .i64 p.a.y, .int .i64 p.a.m, .bool p.a.s, .int .i64 p.a.d, .int .i64 p.b.y, .int .i64 p.b.m, .bool p.b.s, .int .i64 p.b.d, vo, vd, vc] 31))
 rw [← hv]
 have E : Qa w v := by rw [hv]; exact ((Qa.refl _).alloc _).alloc _
 have B1 : Qb v w.heap.size 61 #[.slice A c.nk ca, .slice A' c.ny cb] := by rw [hv]; exact (Qb.new _ _ _).alloc _
 have B2 : Qb v (w.heap.size + 1) 31 #[.string p.h, .int .i64 p.a.y, .int .i64 p.a.m, .bool p.a.s, .int .i64 p.a.d, .int .i64 p.b.y, .int .i64 p.b.m, .bool p.b.s, .int .i64 p.b.d, vo, vd, vc] := by rw [hv]; exact Qb.at _ _ _ _ (by simp)
 clear hv
 obtain ⟨b2, hb2⟩ := Qg (w.heap.size + 1)
 rw [← hb2] at B2 ⊢
 obtain ⟨b1, hb1⟩ := Qg (w.heap.size)
 rw [← hb1] at B1 ⊢
 have hbr : w.heap.size ≤ b2 := by omega
 have hbr1 : w.heap.size ≤ b1 := by omega
 have hn21 : b2 ≠ b1 := by omega
 clear hb1 hb2
 have C := hC.ext E
 have P := hP.ext E
 clear hC hP
 obtain ⟨TO, co, rfl, _, co1, co2, _⟩ := P.o
 obtain ⟨TC, cc, rfl, _, cc1, cc2, _⟩ := P.c
 obtain ⟨TD, cd, vs, rfl, _, cd1, cd2, _, _⟩ := P.d
 have no : p.o.length ≤ 9223372036854775807 := Nat.le_trans co1 (Nat.le_trans co2 (by decide))
 have nc : p.c.length ≤ 9223372036854775807 := Nat.le_trans cc1 (Nat.le_trans cc2 (by decide))
 have nd : p.d.length ≤ 9223372036854775807 := Nat.le_trans cd1 (Nat.le_trans cd2 (by decide))
 have KO := fun w h => Lm TO p.o.length co (Za p.o) w h co1 no
 have KC := fun w h => Lm TC p.c.length cc (Za p.c) w h cc1 nc
 clear co1 co2 cc1 cc2 cd1 cd2
 have HH : Hid (c.perHead p = (Zq p.h && c.spanV p.a p.b && decide (Jh (Za p.o) p.o.length = 0) && decide (Jh (Za p.c) p.c.length = 0) && decide (p.d.length ≤ 64))) := rfl
 have hbad : Hid (c.perHead p = false → R = false) := fun h => by rw [HR.out]; exact Da h
 obtain ⟨nm, hnm⟩ := Qg (Zq p.h)
 have NN := fun w => Uq p.h w
 rw [← hnm] at HH NN
 replace hnm := Lib.hid hnm
 have NSP : Hid (c.spanV p.a p.b = _) := show c.spanV p.a p.b = (decide (0 < c.numV p.a) && decide (c.numV p.a ≤ c.numV p.b)) from rfl
 unfold Qf.spanV at HH
 generalize (decide (0 < c.numV p.a) && decide (c.numV p.a ≤ c.numV p.b)) = sp at *
 clear NSP
 obtain ⟨eo, heo⟩ := Qg (Jh (Za p.o) p.o.length)
 rw [← heo] at HH KO
 replace heo := Lib.hid heo
 obtain ⟨ec, hec⟩ := Qg (Jh (Za p.c) p.c.length)
 rw [← hec] at HH KC
 replace hec := Lib.hid hec
 obtain ⟨k0, k1⟩ := B1.c2
 have lk := B1.lt
 obtain ⟨p0, p1, p2, p3, p4, p5, p6, p7, p8, p9, p10, p11⟩ := B2.c12
 have lp := B2.lt
 by_cases hz : nm = false
 ·have hr := hbad.out (by rw [HH.out, hz]; rfl)
  subst hz
  clear HH hbad HR NS KO KC hnm heo hec
  go_wp2_with (go_at_call 87; (with_reducible refine Calls.mono (NN _) ?_); rintro e wn ⟨rfl, rfl⟩)
  go_ret
  exact ⟨by rw [hr]; rfl, E⟩
 obtain rfl : nm = true := by simpa using hz
 clear hz
 by_cases hz : sp = false
 ·have hr := hbad.out (by rw [HH.out, hz]; rfl)
  subst hz
  clear HH hbad HR KO KC hnm heo hec
  go_wp2_with (first | (go_at_call 87; (with_reducible refine Calls.mono (NN _) ?_); rintro e wn ⟨rfl, rfl⟩) | (go_at_call 83; (with_reducible refine Calls.mono (NS _ C) ?_); rintro e w1 ⟨rfl, h1⟩; replace E := E.trans h1; replace C := C.ext h1; replace P := P.ext h1; replace B1 := B1.ext h1; replace B2 := B2.ext h1; clear h1 k0 k1 lk p0 p1 p2 p3 p4 p5 p6 p7 p8 p9 p10 p11 lp; obtain ⟨k0, k1⟩ := B1.c2; have lk := B1.lt; obtain ⟨p0, p1, p2, p3, p4, p5, p6, p7, p8, p9, p10, p11⟩ := B2.c12; have lp := B2.lt))
  go_ret
  exact ⟨by rw [hr]; rfl, E⟩
 obtain rfl : sp = true := by simpa using hz
 clear hz
 by_cases hz : eo = 0
 rotate_left
 ·have hr := hbad.out (by rw [HH.out, decide_eq_false hz]; rfl)
  have g0 : (eo == 0) = false := beq_eq_false_iff_ne.2 hz
  have g0n : (eo != 0) = true := by rw [bne, g0]; rfl
  clear HH hbad HR KC hnm heo hec hz
  go_wp2_with (first | (go_at_call 87; (with_reducible refine Calls.mono (NN _) ?_); rintro e wn ⟨rfl, rfl⟩) | (go_at_call 83; (with_reducible refine Calls.mono (NS _ C) ?_); rintro e w1 ⟨rfl, h1⟩; replace E := E.trans h1; replace C := C.ext h1; replace P := P.ext h1; replace B1 := B1.ext h1; replace B2 := B2.ext h1; clear h1 k0 k1 lk p0 p1 p2 p3 p4 p5 p6 p7 p8 p9 p10 p11 lp; obtain ⟨k0, k1⟩ := B1.c2; have lk := B1.lt; obtain ⟨p0, p1, p2, p3, p4, p5, p6, p7, p8, p9, p10, p11⟩ := B2.c12; have lp := B2.lt) | (go_at_call 52; (with_reducible refine Calls.mono (KO _ (Vf P.o)) ?_); rintro e w2 ⟨rfl, h1⟩; replace E := E.trans h1; replace C := C.ext h1; replace P := P.ext h1; replace B1 := B1.ext h1; replace B2 := B2.ext h1; clear h1 k0 k1 lk p0 p1 p2 p3 p4 p5 p6 p7 p8 p9 p10 p11 lp; obtain ⟨k0, k1⟩ := B1.c2; have lk := B1.lt; obtain ⟨p0, p1, p2, p3, p4, p5, p6, p7, p8, p9, p10, p11⟩ := B2.c12; have lp := B2.lt))
  go_ret
  exact ⟨by rw [hr]; rfl, E⟩
 subst hz
 by_cases hz : ec = 0
 rotate_left
 ·have hr := hbad.out (by rw [HH.out, decide_eq_false hz, Bool.and_false]; rfl)
  have g0 : (ec == 0) = false := beq_eq_false_iff_ne.2 hz
  have g0n : (ec != 0) = true := by rw [bne, g0]; rfl
  clear HH hbad HR hnm heo hec hz
  go_wp2_with (first | (go_at_call 87; (with_reducible refine Calls.mono (NN _) ?_); rintro e wn ⟨rfl, rfl⟩) | (go_at_call 83; (with_reducible refine Calls.mono (NS _ C) ?_); rintro e w1 ⟨rfl, h1⟩; replace E := E.trans h1; replace C := C.ext h1; replace P := P.ext h1; replace B1 := B1.ext h1; replace B2 := B2.ext h1; clear h1 k0 k1 lk p0 p1 p2 p3 p4 p5 p6 p7 p8 p9 p10 p11 lp; obtain ⟨k0, k1⟩ := B1.c2; have lk := B1.lt; obtain ⟨p0, p1, p2, p3, p4, p5, p6, p7, p8, p9, p10, p11⟩ := B2.c12; have lp := B2.lt) | (go_at_call 52; (with_reducible refine Calls.mono (KO _ (Vf P.o)) ?_); rintro e w2 ⟨rfl, h1⟩; replace E := E.trans h1; replace C := C.ext h1; replace P := P.ext h1; replace B1 := B1.ext h1; replace B2 := B2.ext h1; clear h1 k0 k1 lk p0 p1 p2 p3 p4 p5 p6 p7 p8 p9 p10 p11 lp; obtain ⟨k0, k1⟩ := B1.c2; have lk := B1.lt; obtain ⟨p0, p1, p2, p3, p4, p5, p6, p7, p8, p9, p10, p11⟩ := B2.c12; have lp := B2.lt) | (go_at_call 52; (with_reducible refine Calls.mono (KC _ (Vf P.c)) ?_); rintro e w3 ⟨rfl, h1⟩; replace E := E.trans h1; replace C := C.ext h1; replace P := P.ext h1; replace B1 := B1.ext h1; replace B2 := B2.ext h1; clear h1 k0 k1 lk p0 p1 p2 p3 p4 p5 p6 p7 p8 p9 p10 p11 lp; obtain ⟨k0, k1⟩ := B1.c2; have lk := B1.lt; obtain ⟨p0, p1, p2, p3, p4, p5, p6, p7, p8, p9, p10, p11⟩ := B2.c12; have lp := B2.lt))
  go_ret
  exact ⟨by rw [hr]; rfl, E⟩
 subst hz
 by_cases hz : p.d.length ≤ 64
 rotate_left
 ·have hr := hbad.out (by rw [HH.out, decide_eq_false hz, Bool.and_false])
  have d1 : decide ((64 : Int) < (p.d.length : Int)) = true := decide_eq_true (by omega)
  clear HH hbad HR hnm heo hec hz
  go_wp2_with (first | (go_at_call 87; (with_reducible refine Calls.mono (NN _) ?_); rintro e wn ⟨rfl, rfl⟩) | (go_at_call 83; (with_reducible refine Calls.mono (NS _ C) ?_); rintro e w1 ⟨rfl, h1⟩; replace E := E.trans h1; replace C := C.ext h1; replace P := P.ext h1; replace B1 := B1.ext h1; replace B2 := B2.ext h1; clear h1 k0 k1 lk p0 p1 p2 p3 p4 p5 p6 p7 p8 p9 p10 p11 lp; obtain ⟨k0, k1⟩ := B1.c2; have lk := B1.lt; obtain ⟨p0, p1, p2, p3, p4, p5, p6, p7, p8, p9, p10, p11⟩ := B2.c12; have lp := B2.lt) | (go_at_call 52; (with_reducible refine Calls.mono (KO _ (Vf P.o)) ?_); rintro e w2 ⟨rfl, h1⟩; replace E := E.trans h1; replace C := C.ext h1; replace P := P.ext h1; replace B1 := B1.ext h1; replace B2 := B2.ext h1; clear h1 k0 k1 lk p0 p1 p2 p3 p4 p5 p6 p7 p8 p9 p10 p11 lp; obtain ⟨k0, k1⟩ := B1.c2; have lk := B1.lt; obtain ⟨p0, p1, p2, p3, p4, p5, p6, p7, p8, p9, p10, p11⟩ := B2.c12; have lp := B2.lt) | (go_at_call 52; (with_reducible refine Calls.mono (KC _ (Vf P.c)) ?_); rintro e w3 ⟨rfl, h1⟩; replace E := E.trans h1; replace C := C.ext h1; replace P := P.ext h1; replace B1 := B1.ext h1; replace B2 := B2.ext h1; clear h1 k0 k1 lk p0 p1 p2 p3 p4 p5 p6 p7 p8 p9 p10 p11 lp; obtain ⟨k0, k1⟩ := B1.c2; have lk := B1.lt; obtain ⟨p0, p1, p2, p3, p4, p5, p6, p7, p8, p9, p10, p11⟩ := B2.c12; have lp := B2.lt))
  go_ret
  exact ⟨by rw [hr]; rfl, E⟩
 have hh : c.perHead p = true := by rw [HH.out, decide_eq_true hz]; rfl
 have HR2 : Hid (R = (List.range p.d.length).all (c.dealOk p)) := by unfold Hid; rw [HR.out]; unfold Qf.perOk; rw [hh]; rfl
 have d1 : decide ((64 : Int) < (p.d.length : Int)) = false := decide_eq_false (by omega)
 clear HH hbad HR hnm heo hec hz hh
 have NA := fun w h => Wc A A' ca cb c p.a w h
 have NB := fun w h => Wc A A' ca cb c p.b w h
 go_upto_region 3 with (first | (go_at_call 87; (with_reducible refine Calls.mono (NN _) ?_); rintro e wn ⟨rfl, rfl⟩) | (go_at_call 83; (with_reducible refine Calls.mono (NS _ C) ?_); rintro e w1 ⟨rfl, h1⟩; replace E := E.trans h1; replace C := C.ext h1; replace P := P.ext h1; replace B1 := B1.ext h1; replace B2 := B2.ext h1; clear h1 k0 k1 lk p0 p1 p2 p3 p4 p5 p6 p7 p8 p9 p10 p11 lp; obtain ⟨k0, k1⟩ := B1.c2; have lk := B1.lt; obtain ⟨p0, p1, p2, p3, p4, p5, p6, p7, p8, p9, p10, p11⟩ := B2.c12; have lp := B2.lt) | (go_at_call 52; (with_reducible refine Calls.mono (KO _ (Vf P.o)) ?_); rintro e w2 ⟨rfl, h1⟩; replace E := E.trans h1; replace C := C.ext h1; replace P := P.ext h1; replace B1 := B1.ext h1; replace B2 := B2.ext h1; clear h1 k0 k1 lk p0 p1 p2 p3 p4 p5 p6 p7 p8 p9 p10 p11 lp; obtain ⟨k0, k1⟩ := B1.c2; have lk := B1.lt; obtain ⟨p0, p1, p2, p3, p4, p5, p6, p7, p8, p9, p10, p11⟩ := B2.c12; have lp := B2.lt) | (go_at_call 52; (with_reducible refine Calls.mono (KC _ (Vf P.c)) ?_); rintro e w3 ⟨rfl, h1⟩; replace E := E.trans h1; replace C := C.ext h1; replace P := P.ext h1; replace B1 := B1.ext h1; replace B2 := B2.ext h1; clear h1 k0 k1 lk p0 p1 p2 p3 p4 p5 p6 p7 p8 p9 p10 p11 lp; obtain ⟨k0, k1⟩ := B1.c2; have lk := B1.lt; obtain ⟨p0, p1, p2, p3, p4, p5, p6, p7, p8, p9, p10, p11⟩ := B2.c12; have lp := B2.lt))
 clear NS KO KC NN
 refine Q8 w3 Qm (by kernel_rfl) (by repeat (first | exact Qa.refl _ | (refine Qa.alloc ?_ _) | (refine Qa.trans ?_ (by assumption)))) ?_
 intro hne hrx hry
 try simp only []
 try simp only [List.append_eq, List.cons_append, List.nil_append]
 skip
 repeat (first
  | go_big_quiet_skip
  | (go_big_quiet_want; go_big_quiet_op; go_big_quiet_on)
  | (go_big_quiet_want; go_big_quiet_op; apply Exists.intro; refine ⟨fun u => ?_, ?_⟩
     ·first
       | (go_at_call 58; (with_reducible refine Calls.mono (NA _ (C.ext u.e)) ?_); rintro e w' ⟨rfl, hb⟩; exact ⟨rfl, u.back hb⟩)
       | (go_at_call 58; (with_reducible refine Calls.mono (NB _ (C.ext u.e)) ?_); rintro e w' ⟨rfl, hb⟩; exact ⟨rfl, u.back hb⟩)
     go_big_quiet_on))
 clear hne hry hrx
 refine wpQuiet_nil ?_
 intro vl hvl
 obtain ⟨hcvl, hfvl, hzvl⟩ := Qa.rules hvl
 try simp only [World.size_alloc] at hzvl
 obtain ⟨hcbvl, hfbvl, hzbvl⟩ := Qa.rules (show Qa w3 vl from (by repeat (first | exact Qa.refl _ | (refine Qa.alloc ?_ _) | (refine Qa.trans ?_ (by assumption)))))
 clear hcvl hfvl
 replace E := E.trans hvl
 replace C := C.ext hvl
 replace P := P.ext hvl
 replace B1 := B1.ext hvl
 replace B2 := B2.ext hvl
 clear k0 k1 lk p0 p1 p2 p3 p4 p5 p6 p7 p8 p9 p10 p11 lp NA NB
 obtain ⟨p0, p1, p2, p3, p4, p5, p6, p7, p8, p9, p10, p11⟩ := B2.c12
 have lp := B2.lt
 go_upto_region 5 with (fail)
 clear p0 p1 p2 p3 p4 p5 p6 p7 p8 p9 p10 p11 lp
 obtain ⟨n, hnl⟩ := Qg (p.d.length)
 rw [← hnl] at nd d1 HR2 ⊢
 replace hnl := Lib.hid hnl
 obtain ⟨_, _, vs', e1, hD, _, _, _, hat⟩ := P.d
 cases e1
 rw [← hnl.out] at hD hat
 replace hD : Qk vl TD n 7 (fun i => Qq (p.dl i) (vs' i)) := hD
 replace hat : Hid (∀ i, i < n → Zp vl (vs' i) (p.dl i).l) := hat
 clear P
 go_loopw [5, 52] (fun lv iv wr => ∃ k : Nat, k ≤ n ∧ iv = .int .i64 k ∧ lv = .int .i64 (c.lastD p k) ∧ Hid (∀ j, j < k → c.dealOk p j = true) ∧ Qa vl wr) (fun _ i _ => n - (intOf i).toNat)
 case atStart => exact ⟨0, Nat.zero_le _, rfl, rfl, (fun j h => absurd h (by omega)), Qa.refl _⟩
 case round =>
  obtain ⟨k, hk, rfl, rfl, hall, hE⟩ := hrel
  obtain ⟨wo, rfl⟩ := Qg wr
  by_cases hlt : k < n
  ·obtain ⟨b, off, rfl, hb, hc⟩ := (hD.ext hE) (by omega)
   have hL := (hat.out k hlt).ext hE
   have c0 : wo.cell? ⟨b, off + k * 7, none⟩ = some (.int .i64 (p.dl k).on.y) := by simpa [Qq] using hc k 0 _ hlt rfl
   have c1 : wo.cell? ⟨b, off + k * 7 + 1, none⟩ = some (.int .i64 (p.dl k).on.m) := by simpa [Qq] using hc k 1 _ hlt rfl
   have c2 : wo.cell? ⟨b, off + k * 7 + 2, none⟩ = some (.bool (p.dl k).on.s) := by simpa [Qq] using hc k 2 _ hlt rfl
   have c3 : wo.cell? ⟨b, off + k * 7 + 3, none⟩ = some (.int .i64 (p.dl k).on.d) := by simpa [Qq] using hc k 3 _ hlt rfl
   have c4 : wo.cell? ⟨b, off + k * 7 + 4, none⟩ = some (.bool (p.dl k).i) := by simpa [Qq] using hc k 4 _ hlt rfl
   have c5 : wo.cell? ⟨b, off + k * 7 + 5, none⟩ = some (.string (p.dl k).w) := by simpa [Qq] using hc k 5 _ hlt rfl
   have c6 : wo.cell? ⟨b, off + k * 7 + 6, none⟩ = some (vs' k) := by simpa [Qq] using hc k 6 _ hlt rfl
   have NG := fun w h => Qcs (vs' k) (p.dl k).l w h
   have ND := fun w h => Wc A A' ca cb c (p.dl k).on w h
   have NN := fun w => Uq (p.dl k).w w
   have HK : Hid (c.dealOk p k = !(decide (c.numV (p.dl k).on < c.lastD p k) || decide (c.numV p.b < c.numV (p.dl k).on) || !Zq (p.dl k).w || ((p.dl k).w.toList == p.h.toList) || !Xm (p.dl k).l)) := by
    unfold Hid; rw [Qeb, K2]
   have hno : Hid (c.dealOk p k = false → R = false) := fun h => by
    rw [HR2.out]
    exact List.all_eq_false.2 ⟨k, by simpa using hlt, by simp [h]⟩
   have hyes : Hid (c.dealOk p k = true → ∀ j, j < k + 1 → c.dealOk p j = true) := fun h j hj => by
    by_cases e : j = k
    ·subst e; exact h
    ·exact hall.out j (by omega)
   have hlo : Hid (c.lastD p (k + 1) = c.numV (p.dl k).on) := rfl
   obtain ⟨VL, hvl⟩ := Qg (vs' k)
   rw [← hvl] at c6 NG hL
   clear hvl hc hall HR2 hD hat
   obtain ⟨TL, cl, hVL, _⟩ := id hL
   subst hVL
   generalize c.dealOk p k = dk at *
   generalize c.lastD p k = L0 at *
   generalize c.numV (p.dl k).on = L1 at *
   generalize c.numV p.b = L2 at *
   generalize Zq (p.dl k).w = nm at *
   generalize hse : ((p.dl k).w.toList == p.h.toList) = se at *
   generalize Xm (p.dl k).l = gv1 at *
   go_upto_region 7 with (fail)
   obtain ⟨v3, hv⟩ := Qg (wo.alloc (.cells #[.int .i64 (p.dl k).on.y, .int .i64 (p.dl k).on.m, .bool (p.dl k).on.s, .int .i64 (p.dl k).on.d, .bool (p.dl k).i, .string (p.dl k).w, .slice TL (p.dl k).l.length cl] 70))
   rw [← hv]
   have E3 : Qa wo v3 := by rw [hv]; exact (Qa.refl _).alloc _
   have H3 : Qb v3 wo.heap.size 70 #[.int .i64 (p.dl k).on.y, .int .i64 (p.dl k).on.m, .bool (p.dl k).on.s, .int .i64 (p.dl k).on.d, .bool (p.dl k).i, .string (p.dl k).w, .slice TL (p.dl k).l.length cl] := by rw [hv]; exact Qb.new _ _ _
   clear hv
   generalize wo.heap.size = b3 at *
   clear c0 c1 c2 c3 c4 c5 c6
   replace hL := hL.ext E3
   replace hE := hE.trans E3
   clear E3
   have B1e := B1.ext hE
   obtain ⟨k0, k1⟩ := B1e.c2
   have lk := B1e.lt
   obtain ⟨q0, q1, q2, q3, q4, q5, q6⟩ := Yg H3
   have lq := H3.lt
   go_upto_region 8 with (go_at_call 58; (with_reducible refine Calls.mono (ND _ (C.ext hE)) ?_); rintro e w4 ⟨rfl, h4⟩)
   replace hE := hE.trans h4
   replace H3 := H3.ext h4
   replace hL := hL.ext h4
   clear h4 q0 q1 q2 q3 q4 q5 q6 lq k0 k1 lk B1e ND
   obtain ⟨q0, q1, q2, q3, q4, q5, q6⟩ := Yg H3
   have lq := H3.lt
   have B2e := B2.ext hE
   obtain ⟨p0, p1, p2, p3, p4, p5, p6, p7, p8, p9, p10, p11⟩ := B2e.c12
   have lp := B2e.lt
   by_cases a1 : L1 < L0
   ·have g1 : decide (L1 < L0) = true := decide_eq_true a1
    have hr := hno.out (by rw [HK.out, g1]; rfl)
    clear HK hno hyes hlo a1 hse
    go_wp2
    go_ret
    exact ⟨by rw [hr]; rfl, E.trans hE⟩
   have g1 : decide (L1 < L0) = false := decide_eq_false a1
   rw [g1] at HK
   clear a1
   by_cases a2 : L2 < L1
   ·have g2 : decide (L2 < L1) = true := decide_eq_true a2
    have hr := hno.out (by rw [HK.out, g2]; rfl)
    clear HK hno hyes hlo a2 hse
    go_wp2
    go_ret
    exact ⟨by rw [hr]; rfl, E.trans hE⟩
   have g2 : decide (L2 < L1) = false := decide_eq_false a2
   rw [g2] at HK
   clear a2
   cases nm
   ·have hr := hno.out (by rw [HK.out]; rfl)
    clear HK hno hyes hlo hse
    go_wp2_with (first | (go_at_call 87; (with_reducible refine Calls.mono (NN _) ?_); rintro e wn ⟨rfl, rfl⟩))
    go_ret
    exact ⟨by rw [hr]; rfl, E.trans hE⟩
   cases se
   rotate_left
   ·have hr := hno.out (by rw [HK.out]; rfl)
    clear HK hno hyes hlo
    go_wp2_with (first | (go_at_call 87; (with_reducible refine Calls.mono (NN _) ?_); rintro e wn ⟨rfl, rfl⟩))
    go_ret
    exact ⟨by rw [hr]; rfl, E.trans hE⟩
   cases gv1
   ·have hr := hno.out (by rw [HK.out]; rfl)
    clear HK hno hyes hlo
    go_wp2_with (first | (go_at_call 87; (with_reducible refine Calls.mono (NN _) ?_); rintro e wn ⟨rfl, rfl⟩) | (go_at_call 132; (with_reducible refine Calls.mono (NG _ hL) ?_); rintro e w6 ⟨rfl, h6⟩))
    go_ret
    exact ⟨by rw [hr]; rfl, (E.trans hE).trans h6⟩
   have hx := Lib.hid (hyes.out (by rw [HK.out]; rfl))
   clear HK hno hyes
   go_wp2_with (first | (go_at_call 87; (with_reducible refine Calls.mono (NN _) ?_); rintro e wn ⟨rfl, rfl⟩) | (go_at_call 132; (with_reducible refine Calls.mono (NG _ hL) ?_); rintro e w6 ⟨rfl, h6⟩))
   exact ⟨⟨k + 1, by omega, by go_num, by rw [hlo.out], hx, hE.trans h6⟩, by simp [intOf]; omega⟩
  ·obtain rfl : k = n := by omega
   have hr : R = true := by
    rw [HR2.out]
    exact List.all_eq_true.2 fun j hj => hall.out j (by simpa using hj)
   clear HR2 hall
   subst hr
   go_wp2
   go_ret
   exact ⟨rfl, E.trans hE⟩
theorem Gy (l : List Lt) : l.flatMap Jd = Q0 (Qz (Za l)) l.length := by
 conv => lhs; rw [← Tu l]
 unfold Qu Q0
 rw [List.flatMap_map]; rfl
theorem Yf {w : World} {base k : Nat} {v : Value} {l : List Lt} (h : w.ownsRow base 68 2 v k (l.flatMap Jd)) : Zp w v l := by
 have hk := h.1
 rw [M3] at hk
 obtain rfl : k = l.length := by omega
 rw [Gy] at h
 obtain ⟨F, c, h1, h2, h3, h4, h5, _⟩ := Ul (f := Qz (Za l)) (fun _ => rfl) h
 exact ⟨F, c, h1, h2, h3, h4, h5⟩
theorem Vi (w : World) : Zp w (.slice none 0 0) [] := ⟨none, 0, rfl, Qk.nil, Nat.le_refl _, Nat.zero_le _, fun _ => ⟨rfl, rfl⟩⟩
def Ww : Pd := ⟨⟨#[]⟩, ⟨0, 0, false, 0⟩, ⟨0, 0, false, 0⟩, [], [], []⟩
def Yl (p : Pd) (vo vd vc : Value) : List Value := [.string p.h, .int .i64 p.a.y, .int .i64 p.a.m, .bool p.a.s, .int .i64 p.a.d, .int .i64 p.b.y, .int .i64 p.b.m, .bool p.b.s, .int .i64 p.b.d, vo, vd, vc]
/-- A slice value that reads as a list of periods. -/
def U5 (w : World) (v : Value) (l : List Pd) : Prop := ∃ D cap, ∃ vo vd vc : Nat → Value, v = .slice D l.length cap ∧ Qk w D l.length 12 (fun i => Yl (l.getD i Ww) (vo i) (vd i) (vc i)) ∧ l.length ≤ cap ∧ cap ≤ maxLen ∧ (D = none → l.length = 0 ∧ cap = 0) ∧ ∀ i, i < l.length → Jj w (l.getD i Ww) (vo i) (vd i) (vc i)
theorem U5.ext {w w' : World} {v : Value} {l : List Pd} (h : U5 w v l) (e : Qa w w') : U5 w' v l := by
 obtain ⟨D, cap, vo, vd, vc, h1, h2, h3, h4, h5, h6⟩ := h
 exact ⟨D, cap, vo, vd, vc, h1, h2.ext e, h3, h4, h5, fun i hi => (h6 i hi).ext e⟩
theorem Au {c : Qf} {p : Pd} (h : c.perE p = 0) : p.o.length ≤ 64 := by
 unfold Qf.perE at h
 cases hv : c.valid
 ·rw [hv, if_neg (by simp)] at h; exact absurd h (by decide)
 ·rw [hv, if_pos rfl] at h
  cases ho : c.perOk p
  ·rw [ho, if_neg (by simp)] at h; exact absurd h (by decide)
  ·unfold Qf.perOk Qf.perHead at ho
   simp only [Bool.and_eq_true, decide_eq_true_eq] at ho
   exact (Kr ho.1.1.1.2).1
def Qf.persE (c : Qf) (l : List Pd) : Int := if l.all c.perOk then 0 else 83
def Qf.validE (c : Qf) (l : List Pd) : Int := if c.chk ≠ 0 then c.chk else c.persE l
theorem Ro (c : Qf) (p : Pd) : c.validE [p] = c.perE p := by
 unfold Qf.validE Qf.perE Qf.chk Qf.persE
 cases c.valid <;> simp
theorem Qdi {l : List Pd} {P : Pd → Bool} {k : Nat} (hk : k < l.length) (h : P (l.getD k Ww) = false) : l.all P = false :=
 List.all_eq_false.2 ⟨l[k], List.getElem_mem hk, by simpa [List.getD_eq_getElem?_getD, hk] using h⟩
theorem Ij {l : List Pd} {P : Pd → Bool} (h : ∀ k, k < l.length → P (l.getD k Ww) = true) : l.all P = true :=
 List.all_eq_true.2 fun x hx => by
  obtain ⟨k, hk, rfl⟩ := List.mem_iff_getElem.1 hx
  simpa [List.getD_eq_getElem?_getD, hk] using h k hk
theorem Cv {w : World} {b : Nat} {t : TypeId} {p : Pd} {vo vd vc : Value} (h : Qb w b t (Yl p vo vd vc).toArray) (hP : Jj w p vo vd vc) : U5 w (.slice (some ⟨b, 0, none⟩) 1 1) [p] :=
 ⟨some ⟨b, 0, none⟩, 1, fun _ => vo, fun _ => vd, fun _ => vc, rfl, Vm (f := fun _ => Yl p vo vd vc) (n := 1) (fun _ => rfl) (by simpa [Q0] using h) |>.congr (fun i hi => by obtain rfl : i = 0 := (by simp at hi; omega); rfl), Nat.le_refl _, by decide, fun h => (by cases h), fun i hi => by obtain rfl : i = 0 := (by simp at hi; omega); exact hP⟩
theorem V3 (v : Value) (l : List Lt) (w : World) (hL : Zp w v l) (hn : l.length ≤ 1000000) :
  Calls Tryz.prog 47 #[v] w fun e w' => ∃ v', e = .returned v' ∧ Qa w w' ∧ w'.ownsRow w.heap.size 68 2 v' l.length (l.flatMap Jd) := by
 rw [Gy]
 obtain ⟨T, cap, rfl, hT, hcap, hmax, hnil⟩ := hL
 generalize l.length = n at *
 generalize Za l = f at *
 have q23 : ∀ (w : World) (a : Option Addr) (n c n' c' : Nat), (binOp .eql 28 (.slice a n c) (.slice none n' c')).run Tryz.prog w = .ok (.bool a.isNone) w := fun w a n c n' c' => Lib.run_eql_slice_nil w _ _ a n c n' c' Tryz.underlying28
 cases T with
 | none =>
  obtain ⟨rfl, rfl⟩ := hnil rfl
  go_enter Tryz.func47, Tryz.ntmps47
  go_wp2
  go_ret
  exact ⟨_, rfl, Qa.refl _, World.ownsRow_nil _ _ _ _⟩
 | some a =>
  obtain ⟨i0, hi, hz0, hz1, hz2⟩ := info_parts Si
  have hlen := Y7 (f := Qz f) (sz := 2) (fun _ => rfl) n
  have hone : ∀ u ∈ Q0 (Qz f) n, u.oneCell' = true := O5 (f := Qz f) (n := n) (fun i u hu => by simp [Qz] at hu; rcases hu with rfl | rfl <;> simp [Value.oneCell'])
  have HN := fun v (h : Qk v (some a) n 2 (Qz f)) => K9 (f := Qz f) (sz := 2) (fun _ => rfl) (by decide) h
  go_enter Tryz.func47, Tryz.ntmps47
  go_wp2_with (at_builtin; refine wpList_append_own _ rfl _ _ 28 rfl w.heap.size 68 i0 (.agg #[.string ⟨#[]⟩, .int .i64 0]) 2 24 Tryz.underlying28 hi hz0 hz1 hz2 rfl (by decide) _ _ _ rfl (World.ownsRow_made w #[] 0 (Nat.le_refl _) (Nat.zero_le _) rfl) a n cap (Q0 (Qz f) n) rfl hlen (HN _ (hT.ext ((Qa.refl _).alloc _)) a rfl) hone (by unfold maxLen; omega) (by omega) (by simp) ?_; intro v' w1 hown hgrow hnil2)
  go_ret
  refine ⟨v', rfl, ((Qa.refl w).alloc _).grown hgrow (fun q hq => by have h : some w.heap.size = some q := hq; cases h; exact Nat.le_refl _), by simpa using hown⟩
theorem Qc5 (A A' : Option Addr) (ca cb : Nat) (c : Qf) (v : Value) (l : List Pd) (w : World) (hC : Qv w A ca A' cb c) (hP : U5 w v l) :
  Calls Tryz.prog 66 #[.agg #[.slice A c.nk ca, .slice A' c.ny cb], v] w fun e w' => e = .returned (.int .i64 (c.persE l)) ∧ Qa w w' := by
 obtain ⟨D, cap, vo, vd, vc, rfl, hD, hcap, hmax, _, hat⟩ := hP
 have hn : l.length ≤ 9223372036854775807 := Nat.le_trans hcap (Nat.le_trans hmax (by decide))
 obtain ⟨R, hR0⟩ := Qg (c.persE l)
 rw [← hR0]
 have HR := Lib.hid hR0
 clear hR0
 obtain ⟨n, hnl⟩ := Qg (l.length)
 rw [← hnl] at hn hD hat hcap ⊢
 replace hnl := Lib.hid hnl
 obtain ⟨g, hg⟩ := Qg (fun i => l.getD i Ww)
 have hg' : ∀ i, l.getD i Ww = g i := fun i => by rw [hg]
 simp only [hg'] at hD hat
 replace hg := Lib.hid hg
 clear hg'
 replace hat := Lib.hid hat
 go_enter Tryz.func66, Tryz.ntmps66
 go_upto_region 1 with (fail)
 obtain ⟨v, hv⟩ := Qg (w.alloc (.cells #[.slice A c.nk ca, .slice A' c.ny cb] 61))
 rw [← hv]
 have E : Qa w v := by rw [hv]; exact (Qa.refl _).alloc _
 have B1 : Qb v w.heap.size 61 #[.slice A c.nk ca, .slice A' c.ny cb] := by rw [hv]; exact (Qb.new _ _ _)
 clear hv
 obtain ⟨b1, hb1⟩ := Qg (w.heap.size)
 rw [← hb1] at B1 ⊢
 have hbr : w.heap.size ≤ b1 := by omega
 clear hb1
 have C := hC.ext E
 replace hD := hD.ext E
 replace hat := Lib.hid fun i hi => (hat.out i hi).ext E
 clear hC
 go_upto_region 2 with (fail)
 go_loopw [9] (fun i wr => ∃ k : Nat, k ≤ n ∧ i = .int .i64 k ∧ Hid (∀ j, j < k → c.perOk (g j) = true) ∧ Qa v wr) (fun i _ => n - (intOf i).toNat)
 case atStart => exact ⟨0, Nat.zero_le _, rfl, (fun j h => absurd h (by omega)), Qa.refl _⟩
 case round =>
  obtain ⟨k, hk, rfl, hall, hE⟩ := hrel
  obtain ⟨wo, rfl⟩ := Qg wr
  by_cases hlt : k < n
  ·obtain ⟨b, off, rfl, hb, hc⟩ := (hD.ext hE) (by omega)
   have hP := hat.out k hlt
   have c0 : wo.cell? ⟨b, off + k * 12, none⟩ = some (.string (g k).h) := by simpa [Yl] using hc k 0 _ hlt rfl
   have c1 : wo.cell? ⟨b, off + k * 12 + 1, none⟩ = some (.int .i64 (g k).a.y) := by simpa [Yl] using hc k 1 _ hlt rfl
   have c2 : wo.cell? ⟨b, off + k * 12 + 2, none⟩ = some (.int .i64 (g k).a.m) := by simpa [Yl] using hc k 2 _ hlt rfl
   have c3 : wo.cell? ⟨b, off + k * 12 + 3, none⟩ = some (.bool (g k).a.s) := by simpa [Yl] using hc k 3 _ hlt rfl
   have c4 : wo.cell? ⟨b, off + k * 12 + 4, none⟩ = some (.int .i64 (g k).a.d) := by simpa [Yl] using hc k 4 _ hlt rfl
   have c5 : wo.cell? ⟨b, off + k * 12 + 5, none⟩ = some (.int .i64 (g k).b.y) := by simpa [Yl] using hc k 5 _ hlt rfl
   have c6 : wo.cell? ⟨b, off + k * 12 + 6, none⟩ = some (.int .i64 (g k).b.m) := by simpa [Yl] using hc k 6 _ hlt rfl
   have c7 : wo.cell? ⟨b, off + k * 12 + 7, none⟩ = some (.bool (g k).b.s) := by simpa [Yl] using hc k 7 _ hlt rfl
   have c8 : wo.cell? ⟨b, off + k * 12 + 8, none⟩ = some (.int .i64 (g k).b.d) := by simpa [Yl] using hc k 8 _ hlt rfl
   have c9 : wo.cell? ⟨b, off + k * 12 + 9, none⟩ = some (vo k) := by simpa [Yl] using hc k 9 _ hlt rfl
   have c10 : wo.cell? ⟨b, off + k * 12 + 10, none⟩ = some (vd k) := by simpa [Yl] using hc k 10 _ hlt rfl
   have c11 : wo.cell? ⟨b, off + k * 12 + 11, none⟩ = some (vc k) := by simpa [Yl] using hc k 11 _ hlt rfl
   have NP := fun w h1 h2 => Qdw A A' ca cb c (g k) (vo k) (vd k) (vc k) w h1 h2
   have hno : Hid (c.perOk (g k) = false → R = 83) := fun h => by
    rw [HR.out]; unfold Qf.persE
    rw [if_neg (by rw [Bool.not_eq_true]; exact Qdi (k := k) (by rw [← hnl.out]; exact hlt) (by rw [hg.out] at h; exact h))]
   have hyes : Hid (c.perOk (g k) = true → ∀ j, j < k + 1 → c.perOk (g j) = true) := fun h j hj => by
    by_cases e : j = k
    ·subst e; exact h
    ·exact hall.out j (by omega)
   obtain ⟨VO, VD, VC, hvo, hvd, hvc⟩ : ∃ x y z, x = vo k ∧ y = vd k ∧ z = vc k := ⟨_, _, _, rfl, rfl, rfl⟩
   rw [← hvo] at c9 NP hP
   rw [← hvd] at c10 NP hP
   rw [← hvc] at c11 NP hP
   clear hvo hvd hvc hc hall HR hat hg
   obtain ⟨t1, s1, e1, _⟩ := hP.o
   subst e1
   obtain ⟨t2, s2, _, e2, _⟩ := hP.d
   subst e2
   obtain ⟨t3, s3, e3, _⟩ := hP.c
   subst e3
   go_upto_region 4 with (fail)
   obtain ⟨v3, hv⟩ := Qg (wo.alloc (.cells #[.string (g k).h, .int .i64 (g k).a.y, .int .i64 (g k).a.m, .bool (g k).a.s, .int .i64 (g k).a.d, .int .i64 (g k).b.y, .int .i64 (g k).b.m, .bool (g k).b.s, .int .i64 (g k).b.d, .slice t1 (g k).o.length s1, .slice t2 (g k).d.length s2, .slice t3 (g k).c.length s3] 31))
   rw [← hv]
   have E3 : Qa wo v3 := by rw [hv]; exact (Qa.refl _).alloc _
   have H3 : Qb v3 wo.heap.size 31 #[.string (g k).h, .int .i64 (g k).a.y, .int .i64 (g k).a.m, .bool (g k).a.s, .int .i64 (g k).a.d, .int .i64 (g k).b.y, .int .i64 (g k).b.m, .bool (g k).b.s, .int .i64 (g k).b.d, .slice t1 (g k).o.length s1, .slice t2 (g k).d.length s2, .slice t3 (g k).c.length s3] := by rw [hv]; exact Qb.new _ _ _
   clear hv
   generalize wo.heap.size = b3 at *
   clear c0 c1 c2 c3 c4 c5 c6 c7 c8 c9 c10 c11
   replace NP := NP v3 (C.ext (hE.trans E3)) (hP.ext (hE.trans E3))
   replace hE := hE.trans E3
   have B1e := B1.ext hE
   obtain ⟨k0, k1⟩ := B1e.c2
   have lk := B1e.lt
   obtain ⟨p0, p1, p2, p3, p4, p5, p6, p7, p8, p9, p10, p11⟩ := H3.c12
   have lp := H3.lt
   clear E3 hP
   cases hq : c.perOk (g k)
   ·have hr := hno.out hq
    rw [hq] at NP
    clear hno hyes hq
    go_wp2_with (go_at_call 101; (with_reducible refine Calls.mono (NP) ?_); rintro e w2 ⟨rfl, h⟩)
    go_ret
    exact ⟨by rw [hr]; rfl, (E.trans hE).trans h⟩
   ·have hx := Lib.hid (hyes.out hq)
    rw [hq] at NP
    clear hno hyes hq
    go_wp2_with (go_at_call 101; (with_reducible refine Calls.mono (NP) ?_); rintro e w2 ⟨rfl, h⟩)
    exact ⟨⟨k + 1, by omega, by go_num, hx, hE.trans h⟩, by simp [intOf]; omega⟩
  ·obtain rfl : k = n := by omega
   have hr : R = 0 := by
    rw [HR.out]; unfold Qf.persE
    rw [if_pos (Ij fun j hj => by have := hall.out j (by rw [hnl.out]; exact hj); rw [hg.out] at this; exact this)]
   clear HR hall hat hg
   go_wp2
   go_ret
   exact ⟨by rw [hr]; rfl, E.trans hE⟩
theorem Qfk (v1 v2 : Value) (a b : List Lt) (w : World) (h1 : Zp w v1 a) (h2 : Zp w v2 b) :
  Calls Tryz.prog 54 #[v1, v2] w fun e w' => ∃ F k m, e = .returned (.tuple #[.slice F k m, .int .i64 (Z4 1 a b)]) ∧ Qa w w' ∧ Zp w' (.slice F k m) (Jt 1 a b) := by
 obtain ⟨T, cap, rfl, hT, hcap, hmax, _⟩ := h1
 obtain ⟨S, cm, rfl, hS, hcm, hmm, _⟩ := h2
 refine Calls.mono (Tv T a.length cap (Za a) S b.length cm (Za b) w hT hcap (Nat.le_trans hcap (Nat.le_trans hmax (by decide))) hS hcm (Nat.le_trans hcm (Nat.le_trans hmm (by decide)))) ?_
 rintro e w' ⟨F, k, c, rfl, hx, ho⟩
 exact ⟨F, k, c, rfl, hx, Yf ho⟩
theorem Qeh (v1 v2 : Value) (a b : List Lt) (w : World) (h1 : Zp w v1 a) (h2 : Zp w v2 b) :
  Calls Tryz.prog 67 #[v1, v2] w fun e w' => ∃ F k m, e = .returned (.tuple #[.slice F k m, .int .i64 (Z4 (-1) a b)]) ∧ Qa w w' ∧ Zp w' (.slice F k m) (Jt (-1) a b) := by
 obtain ⟨T, cap, rfl, hT, hcap, hmax, _⟩ := h1
 obtain ⟨S, cm, rfl, hS, hcm, hmm, _⟩ := h2
 refine Calls.mono (Fr T a.length cap (Za a) S b.length cm (Za b) w hT hcap (Nat.le_trans hcap (Nat.le_trans hmax (by decide))) hS hcm (Nat.le_trans hcm (Nat.le_trans hmm (by decide)))) ?_
 rintro e w' ⟨F, k, c, rfl, hx, ho⟩
 exact ⟨F, k, c, rfl, hx, Yf ho⟩
theorem Gw (s : List Lt) {d : List Dl} {k : Nat} (hk : k < d.length) : Zm s (d.drop k) = if Z4 (Yt (d.getD k Qx).i) s (d.getD k Qx).l ≠ 0 then ([], Z4 (Yt (d.getD k Qx).i) s (d.getD k Qx).l) else Zm (Jt (Yt (d.getD k Qx).i) s (d.getD k Qx).l) (d.drop (k + 1)) := by
 have e : d.getD k Qx = d[k] := by simp [List.getD_eq_getElem?_getD, hk]
 rw [e]; exact Qcy s d hk
theorem Qd8 (vo vd : Value) (o : List Lt) (d : List Dl) (w : World) (hO : Zp w vo o) (hD : Ys w vd d) (ho : o.length ≤ 1000000) :
  Calls Tryz.prog 29 #[vo, vd] w fun e w' => ∃ v', e = .returned (.tuple #[v', .int .i64 (Zm o d).2]) ∧ Qa w w' ∧ Zp w' v' (Zm o d).1 := by
 obtain ⟨D, cap, vs, rfl, hD, hcap, hmax, _, hat⟩ := hD
 have hn : d.length ≤ 9223372036854775807 := Nat.le_trans hcap (Nat.le_trans hmax (by decide))
 have NC := V3 vo o w hO ho
 obtain ⟨A0, cc0, rfl, _⟩ := id hO
 obtain ⟨R, hR⟩ := Qg (Zm o d)
 rw [← hR]
 replace hR := Lib.hid hR
 go_enter Tryz.func29, Tryz.ntmps29
 go_upto_region 2 with (go_at_call 47; (with_reducible refine Calls.mono (NC) ?_); rintro e w1 ⟨v0, rfl, h1, hown⟩)
 have hS0 := Yf hown
 obtain ⟨F0, m0, rfl⟩ := Z5 hown
 clear NC hown hO
 go_upto_region 3 with (fail)
 obtain ⟨n, hnl⟩ := Qg (d.length)
 rw [← hnl] at hn hD hat hcap ⊢
 replace hnl := Lib.hid hnl
 obtain ⟨g, hg⟩ := Qg (fun i => d.getD i Qx)
 have hg' : ∀ i, d.getD i Qx = g i := fun i => by rw [hg]
 have hdr : Hid (∀ s k, k < n → Zm s (d.drop k) = if Z4 (Yt (g k).i) s (g k).l ≠ 0 then ([], Z4 (Yt (g k).i) s (g k).l) else Zm (Jt (Yt (g k).i) s (g k).l) (d.drop (k + 1))) := fun s k hk => by
  rw [Gw s (by rw [← hnl.out]; exact hk), hg']
 simp only [hg'] at hD hat
 clear hg hg'
 replace hat := Lib.hid hat
 have hD1 := hD.ext h1
 go_loopw [6, 16] (fun sv iv wr => ∃ (k : Nat) (s : List Lt), k ≤ n ∧ iv = .int .i64 k ∧ Zp wr sv s ∧ Hid (R = Zm s (d.drop k)) ∧ Qa w wr) (fun _ i _ => n - (intOf i).toNat)
 case atStart => exact ⟨0, o, Nat.zero_le _, rfl, hS0, by unfold Hid; rw [hR.out]; rfl, h1⟩
 case round =>
  clear hS0
  obtain ⟨k, s, hk, rfl, hS, hrun, hE⟩ := hrel
  obtain ⟨wo, rfl⟩ := Qg wr
  by_cases hlt : k < n
  ·obtain ⟨b, off, rfl, hb, hc⟩ := (hD.ext hE) (by omega)
   have hL := (hat.out k hlt).ext hE
   have c0 : wo.cell? ⟨b, off + k * 7, none⟩ = some (.int .i64 (g k).on.y) := by simpa [Qq] using hc k 0 _ hlt rfl
   have c1 : wo.cell? ⟨b, off + k * 7 + 1, none⟩ = some (.int .i64 (g k).on.m) := by simpa [Qq] using hc k 1 _ hlt rfl
   have c2 : wo.cell? ⟨b, off + k * 7 + 2, none⟩ = some (.bool (g k).on.s) := by simpa [Qq] using hc k 2 _ hlt rfl
   have c3 : wo.cell? ⟨b, off + k * 7 + 3, none⟩ = some (.int .i64 (g k).on.d) := by simpa [Qq] using hc k 3 _ hlt rfl
   have c4 : wo.cell? ⟨b, off + k * 7 + 4, none⟩ = some (.bool (g k).i) := by simpa [Qq] using hc k 4 _ hlt rfl
   have c5 : wo.cell? ⟨b, off + k * 7 + 5, none⟩ = some (.string (g k).w) := by simpa [Qq] using hc k 5 _ hlt rfl
   have c6 : wo.cell? ⟨b, off + k * 7 + 6, none⟩ = some (vs k) := by simpa [Qq] using hc k 6 _ hlt rfl
   have HS := Lib.hid (hdr.out s k hlt)
   obtain ⟨VL, hvl⟩ := Qg (vs k)
   rw [← hvl] at c6 hL
   clear hvl hc hdr hat hR hD hD1
   obtain ⟨TL, cl, hVL, _⟩ := id hL
   subst hVL
   obtain ⟨AS, cs, hsv, _⟩ := id hS
   subst hsv
   obtain ⟨SD, hSD⟩ := Qg (Zm s (d.drop k))
   rw [← hSD] at HS hrun
   clear hSD
   go_upto_region 5 with (fail)
   obtain ⟨v3, hv⟩ := Qg (wo.alloc (.cells #[.int .i64 (g k).on.y, .int .i64 (g k).on.m, .bool (g k).on.s, .int .i64 (g k).on.d, .bool (g k).i, .string (g k).w, .slice TL (g k).l.length cl] 70))
   rw [← hv]
   have E3 : Qa wo v3 := by rw [hv]; exact (Qa.refl _).alloc _
   have H3 : Qb v3 wo.heap.size 70 #[.int .i64 (g k).on.y, .int .i64 (g k).on.m, .bool (g k).on.s, .int .i64 (g k).on.d, .bool (g k).i, .string (g k).w, .slice TL (g k).l.length cl] := by rw [hv]; exact Qb.new _ _ _
   clear hv
   generalize wo.heap.size = b3 at *
   clear c0 c1 c2 c3 c4 c5 c6
   replace hL := hL.ext E3
   replace hS := hS.ext E3
   replace hE := hE.trans E3
   clear E3
   have NA := fun h1 h2 => Qfk (.slice AS s.length cs) (.slice TL (g k).l.length cl) s (g k).l v3 h1 h2
   have NB := fun h1 h2 => Qeh (.slice AS s.length cs) (.slice TL (g k).l.length cl) s (g k).l v3 h1 h2
   obtain ⟨q0, q1, q2, q3, q4, q5, q6⟩ := Yg H3
   have lq := H3.lt
   cases hi : (g k).i
   ·have NX := NB hS hL
    rw [hi] at HS
    have HS2 : Hid (SD = if Z4 (-1) s (g k).l ≠ 0 then ([], Z4 (-1) s (g k).l) else Zm (Jt (-1) s (g k).l) (d.drop (k + 1))) := HS
    rw [hi] at q4
    clear HS hi
    generalize hce : Z4 (-1) s (g k).l = E1 at *
    generalize Jt (-1) s (g k).l = L1 at *
    by_cases e0 : E1 = 0
    ·subst e0
     have HS3 := Lib.hid (HS2.out.trans (if_neg (by simp)))
     clear HS2 hce
     go_wp2_with (first | (go_at_call 67; (with_reducible refine Calls.mono (NX) ?_); rintro e w6 ⟨F6, k6, m6, rfl, h6, L6⟩) | (go_at_fn 67; (with_reducible refine Calls.mono (NX) ?_); rintro e w6 ⟨F6, k6, m6, rfl, h6, L6⟩))
     exact ⟨⟨k + 1, L1, by omega, by go_num, L6, Lib.hid (hrun.out.trans HS3.out), hE.trans h6⟩, by simp [intOf]; omega⟩
    ·have g0 : (E1 == 0) = false := beq_eq_false_iff_ne.2 e0
     have g0n : (E1 != 0) = true := by rw [bne, g0]; rfl
     have HS3 := Lib.hid (hrun.out.trans (HS2.out.trans (if_pos e0)))
     clear HS2 hrun hce e0
     go_wp2_with (first | (go_at_call 67; (with_reducible refine Calls.mono (NX) ?_); rintro e w6 ⟨F6, k6, m6, rfl, h6, L6⟩) | (go_at_fn 67; (with_reducible refine Calls.mono (NX) ?_); rintro e w6 ⟨F6, k6, m6, rfl, h6, L6⟩))
     go_ret2
     exact ⟨_, by rw [HS3.out]; rfl, hE.trans h6, by rw [HS3.out]; exact Vi _⟩
   ·have NX := NA hS hL
    rw [hi] at HS
    have HS2 : Hid (SD = if Z4 1 s (g k).l ≠ 0 then ([], Z4 1 s (g k).l) else Zm (Jt 1 s (g k).l) (d.drop (k + 1))) := HS
    rw [hi] at q4
    clear HS hi
    generalize hce : Z4 1 s (g k).l = E1 at *
    generalize Jt 1 s (g k).l = L1 at *
    by_cases e0 : E1 = 0
    ·subst e0
     have HS3 := Lib.hid (HS2.out.trans (if_neg (by simp)))
     clear HS2 hce
     go_wp2_with (first | (go_at_call 54; (with_reducible refine Calls.mono (NX) ?_); rintro e w6 ⟨F6, k6, m6, rfl, h6, L6⟩) | (go_at_fn 54; (with_reducible refine Calls.mono (NX) ?_); rintro e w6 ⟨F6, k6, m6, rfl, h6, L6⟩))
     exact ⟨⟨k + 1, L1, by omega, by go_num, L6, Lib.hid (hrun.out.trans HS3.out), hE.trans h6⟩, by simp [intOf]; omega⟩
    ·have g0 : (E1 == 0) = false := beq_eq_false_iff_ne.2 e0
     have g0n : (E1 != 0) = true := by rw [bne, g0]; rfl
     have HS3 := Lib.hid (hrun.out.trans (HS2.out.trans (if_pos e0)))
     clear HS2 hrun hce e0
     go_wp2_with (first | (go_at_call 54; (with_reducible refine Calls.mono (NX) ?_); rintro e w6 ⟨F6, k6, m6, rfl, h6, L6⟩) | (go_at_fn 54; (with_reducible refine Calls.mono (NX) ?_); rintro e w6 ⟨F6, k6, m6, rfl, h6, L6⟩))
     go_ret2
     exact ⟨_, by rw [HS3.out]; rfl, hE.trans h6, by rw [HS3.out]; exact Vi _⟩
  ·obtain rfl : k = n := by omega
   have hr : Hid (R = (s, 0)) := by
    unfold Hid
    rw [hrun.out, hnl.out, List.drop_length]; rfl
   clear hrun hdr hat hR
   go_wp2
   go_ret2
   exact ⟨_, by rw [hr.out]; rfl, hE, by rw [hr.out]; exact hS⟩
theorem Tw (A A' : Option Addr) (ca cb : Nat) (c : Qf) (v : Value) (l : List Pd) (w : World) (hC : Qv w A ca A' cb c) (hP : U5 w v l) :
  Calls Tryz.prog 28 #[.agg #[.slice A c.nk ca, .slice A' c.ny cb], v] w fun e w' => e = .returned (.tuple #[.agg #[.slice A c.nk ca, .slice A' c.ny cb], .int .i64 (c.validE l)]) ∧ Qa w w' := by
 have NO := fun w h => Ml A A' ca cb c w h
 obtain ⟨D, cap, _, _, _, hv9, _⟩ := id hP
 subst hv9
 have NP := fun w h1 h2 => Qc5 A A' ca cb c (.slice D l.length cap) l w h1 h2
 obtain ⟨R, hR0⟩ := Qg (c.validE l)
 rw [← hR0]
 have HR := Lib.hid hR0
 clear hR0
 go_enter Tryz.func28, Tryz.ntmps28
 go_upto_region 1 with (fail)
 obtain ⟨v, hv⟩ := Qg ((w.alloc (.cells #[.slice A c.nk ca, .slice A' c.ny cb] 25)).alloc (.cells #[.slice none 0 0, .slice none 0 0] 61))
 rw [← hv]
 have E : Qa w v := by rw [hv]; exact ((Qa.refl _).alloc _).alloc _
 have B1 : Qb v w.heap.size 25 #[.slice A c.nk ca, .slice A' c.ny cb] := by rw [hv]; exact (Qb.new _ _ _).alloc _
 have B2 : Qb v (w.heap.size + 1) 61 #[.slice none 0 0, .slice none 0 0] := by rw [hv]; exact Qb.at _ _ _ _ (by simp)
 clear hv
 obtain ⟨b2, hb2⟩ := Qg (w.heap.size + 1)
 rw [← hb2] at B2 ⊢
 obtain ⟨b1, hb1⟩ := Qg (w.heap.size)
 rw [← hb1] at B1 ⊢
 have hbr : w.heap.size ≤ b2 := by omega
 have hbr1 : w.heap.size ≤ b1 := by omega
 have hn21 : b2 ≠ b1 := by omega
 clear hb1 hb2
 obtain ⟨k0, k1⟩ := B1.c2
 have lk := B1.lt
 obtain ⟨ck, hck⟩ := Qg (c.chk)
 simp only [← hck] at NO
 replace hck := Lib.hid hck
 go_upto_region 2 with (go_at_call 65; (with_reducible refine Calls.mono (NO _ (hC.ext E)) ?_); rintro e w1 ⟨rfl, h1⟩)
 obtain ⟨v3, hv⟩ := Qg (w1.alloc (.cells #[.slice A c.nk ca, .slice A' c.ny cb] 61))
 rw [← hv]
 have h3 : Qa w1 v3 := by rw [hv]; exact (Qa.refl _).alloc _
 have H3 : Qb v3 w1.heap.size 61 #[.slice A c.nk ca, .slice A' c.ny cb] := by rw [hv]; exact Qb.new _ _ _
 clear hv
 generalize w1.heap.size = b9 at *
 replace E := (E.trans h1).trans h3
 replace B2 := (B2.ext h1).ext h3
 have C := hC.ext E
 have P := hP.ext E
 clear hC hP k0 k1 lk B1 NO h1 h3
 by_cases e0 : ck = 0
 rotate_left
 ·have g0 : (ck == 0) = false := beq_eq_false_iff_ne.2 e0
  have g0n : (ck != 0) = true := by rw [bne, g0]; rfl
  have hr : R = ck := by rw [HR.out, hck.out]; unfold Qf.validE; rw [if_pos (by rw [← hck.out]; exact e0)]
  clear HR e0 hck NP
  obtain ⟨k0, k1⟩ := H3.c2
  have lk := H3.lt
  have f0 := B2.frozen 0
  have f1 := B2.frozen 1
  obtain ⟨x0, x1⟩ := B2.c2
  have lx := B2.lt
  have H4 := Ql B2 (.slice A c.nk ca) (.slice A' c.ny cb)
  have EF := (E.setCell (p := ⟨b2, 0, none⟩) hbr (.slice A c.nk ca)).setCell (p := ⟨b2, 1, none⟩) hbr (.slice A' c.ny cb)
  obtain ⟨y0, y1⟩ := H4.c2
  go_wp2
  refine bodyPost_ret (v := .tuple #[.agg #[.slice A c.nk ca, .slice A' c.ny cb], .int .i64 ck]) (by simp [results, Tryz.results28, go_sem, y0, y1]) rfl ⟨by rw [hr], EF⟩
 ·subst e0
  have hr : Hid (R = c.persE l) := by unfold Hid; rw [HR.out]; unfold Qf.validE; rw [if_neg (by rw [← hck.out]; simp)]
  clear HR hck
  go_upto_region 4 with (fail)
  refine Q3 6 [4, 5] (fun x => Qa v3 x) Qm rfl ?_
  intro vz hvz
  have HC := hvz
  refine Qp (g := 3) [0, 1, 2] [_, _, _] ⟨rfl, rfl, rfl, trivial⟩ (by kernel_rfl) (by kernel_rfl) HC ?_
  simp only [Qc, Qd, Qe]
  apply Exists.intro
  refine ⟨fun u hu => ?_, ?_⟩
  ·obtain ⟨k0, k1⟩ := (H3.ext hu).c2
   have lk := (H3.ext hu).lt
   repeat (first | go_big_quiet_skip | (go_big_quiet_want; go_big_quiet_op; go_big_quiet_on))
   refine wpQuiet_nil ?_
   rfl
  refine Qj 3 rfl (by kernel_rfl) ?_
  simp only [Qc, Qd, Qe]
  go_wp2_with (go_at_call 66; (with_reducible refine Calls.mono (NP _ (C.ext HC) (P.ext HC)) ?_); rintro e va ⟨rfl, h4⟩)
  replace HC := HC.trans h4
  clear h4
  refine Qi HC ?_
  refine Qn 4 rfl (by kernel_rfl) ?_
  simp only [Qc, Qd, Qe]
  replace B2 := B2.ext HC
  replace E := E.trans HC
  have f0 := B2.frozen 0
  have f1 := B2.frozen 1
  obtain ⟨x0, x1⟩ := B2.c2
  have lx := B2.lt
  have H4 := Ql B2 (.slice A c.nk ca) (.slice A' c.ny cb)
  have EF := (E.setCell (p := ⟨b2, 0, none⟩) hbr (.slice A c.nk ca)).setCell (p := ⟨b2, 1, none⟩) hbr (.slice A' c.ny cb)
  obtain ⟨y0, y1⟩ := H4.c2
  go_wp2
  refine Qo ?_
  refine Qn 5 rfl (by kernel_rfl) ?_
  simp only [Qc, Qd, Qe]
  go_wp2
  refine Qo ?_
  refine Qs (by kernel_rfl) ?_
  go_wp2
  refine bodyPost_ret (v := .tuple #[.agg #[.slice A c.nk ca, .slice A' c.ny cb], .int .i64 (c.persE l)]) (by simp [results, Tryz.results28, go_sem, y0, y1]) rfl ⟨by rw [hr.out], EF⟩
theorem Qcz (A A' : Option Addr) (ca cb : Nat) (c : Qf) (p : Pd) (vo vd vc : Value) (w : World) (hC : Qv w A ca A' cb c) (hP : Jj w p vo vd vc) :
  Calls Tryz.prog 9 #[.agg #[.slice A c.nk ca, .slice A' c.ny cb], .agg #[.string p.h, .int .i64 p.a.y, .int .i64 p.a.m, .bool p.a.s, .int .i64 p.a.d, .int .i64 p.b.y, .int .i64 p.b.m, .bool p.b.s, .int .i64 p.b.d, vo, vd, vc]] w fun e w' => ∃ v', e = .returned (.tuple #[v', .int .i64 (c.closeV p).2]) ∧ Qa w w' ∧ Zp w' v' (c.closeV p).1 := by
 obtain ⟨t1, s1, e1, _⟩ := id hP.o
 subst e1
 obtain ⟨t2, s2, _, e2, _⟩ := id hP.d
 subst e2
 obtain ⟨t3, s3, e3, _⟩ := id hP.c
 subst e3
 have NV := fun w h1 v h2 => Tw A A' ca cb c v [p] w h1 h2
 simp only [Ro] at NV
 obtain ⟨R, hR0⟩ := Qg (c.closeV p)
 rw [← hR0]
 have HR := Lib.hid hR0
 clear hR0
 go_enter Tryz.func9, Tryz.ntmps9
 go_upto_region 1 with (fail)
 obtain ⟨v, hv⟩ := Qg ((w.alloc (.cells #[.slice A c.nk ca, .slice A' c.ny cb] 25)).alloc (.cells #[.string p.h, .int .i64 p.a.y, .int .i64 p.a.m, .bool p.a.s, .int .i64 p.a.d, .int .i64 p.b.y, .int .i64 p.b.m, .bool p.b.s, .int .i64 p.b.d, .slice t1 p.o.length s1, .slice t2 p.d.length s2, .slice t3 p.c.length s3] 31))
 rw [← hv]
 have E : Qa w v := by rw [hv]; exact ((Qa.refl _).alloc _).alloc _
 have B1 : Qb v w.heap.size 25 #[.slice A c.nk ca, .slice A' c.ny cb] := by rw [hv]; exact (Qb.new _ _ _).alloc _
 have B2 : Qb v (w.heap.size + 1) 31 #[.string p.h, .int .i64 p.a.y, .int .i64 p.a.m, .bool p.a.s, .int .i64 p.a.d, .int .i64 p.b.y, .int .i64 p.b.m, .bool p.b.s, .int .i64 p.b.d, .slice t1 p.o.length s1, .slice t2 p.d.length s2, .slice t3 p.c.length s3] := by rw [hv]; exact Qb.at _ _ _ _ (by simp)
 clear hv
 obtain ⟨b2, hb2⟩ := Qg (w.heap.size + 1)
 rw [← hb2] at B2 ⊢
 obtain ⟨b1, hb1⟩ := Qg (w.heap.size)
 rw [← hb1] at B1 ⊢
 have hbr : w.heap.size ≤ b2 := by omega
 have hbr1 : w.heap.size ≤ b1 := by omega
 have hn21 : b2 ≠ b1 := by omega
 clear hb1 hb2
 have C := hC.ext E
 have P := hP.ext E
 clear hC hP
 obtain ⟨k0, k1⟩ := B1.c2
 have lk := B1.lt
 obtain ⟨p0, p1, p2, p3, p4, p5, p6, p7, p8, p9, p10, p11⟩ := B2.c12
 have lp := B2.lt
 obtain ⟨pe, hpe⟩ := Qg (c.perE p)
 simp only [← hpe] at NV
 replace hpe := Lib.hid hpe
 have AL := (Qa.refl v).alloc (.cells #[.string p.h, .int .i64 p.a.y, .int .i64 p.a.m, .bool p.a.s, .int .i64 p.a.d, .int .i64 p.b.y, .int .i64 p.b.m, .bool p.b.s, .int .i64 p.b.d, .slice t1 p.o.length s1, .slice t2 p.d.length s2, .slice t3 p.c.length s3] 31)
 have NV1 := NV _ (C.ext AL) (.slice (some ⟨v.heap.size, 0, none⟩) 1 1) (Cv (t := 31) (Qb.new v 31 #[.string p.h, .int .i64 p.a.y, .int .i64 p.a.m, .bool p.a.s, .int .i64 p.a.d, .int .i64 p.b.y, .int .i64 p.b.m, .bool p.b.s, .int .i64 p.b.d, .slice t1 p.o.length s1, .slice t2 p.d.length s2, .slice t3 p.c.length s3]) (P.ext AL))
 go_upto_region 2 with (go_at_call 28; (with_reducible refine Calls.mono (NV1) ?_); rintro e w1 ⟨rfl, h1⟩)
 replace h1 := AL.trans h1
 clear NV NV1 AL
 obtain ⟨v3, hv⟩ := Qg (w1.alloc (.cells #[.slice A c.nk ca, .slice A' c.ny cb] 61))
 rw [← hv]
 have h3 : Qa w1 v3 := by rw [hv]; exact (Qa.refl _).alloc _
 have H3 : Qb v3 w1.heap.size 61 #[.slice A c.nk ca, .slice A' c.ny cb] := by rw [hv]; exact Qb.new _ _ _
 clear hv
 generalize w1.heap.size = b9 at *
 replace h1 := h1.trans h3
 replace E := E.trans h1
 replace C := C.ext h1
 replace P := P.ext h1
 replace B2 := B2.ext h1
 clear h1 h3 H3 B1 k0 k1 lk p0 p1 p2 p3 p4 p5 p6 p7 p8 p9 p10 p11 lp
 by_cases e0 : pe = 0
 rotate_left
 ·have g0 : (pe == 0) = false := beq_eq_false_iff_ne.2 e0
  have g0n : (pe != 0) = true := by rw [bne, g0]; rfl
  have hr : Hid (R = ([], pe)) := by unfold Hid; rw [HR.out, hpe.out]; unfold Qf.closeV; rw [if_pos (by rw [← hpe.out]; exact e0)]
  clear HR e0 hpe
  go_wp2
  go_ret2
  exact ⟨_, by rw [hr.out]; rfl, E, by rw [hr.out]; exact Vi _⟩
 ·subst e0
  have hr : Hid (R = Zm p.o p.d) := by unfold Hid; rw [HR.out]; unfold Qf.closeV; rw [if_neg (by rw [← hpe.out]; simp)]
  have NB := Qd8 _ _ p.o p.d v3 P.o P.d (by have := Au hpe.out.symm; omega)
  clear HR hpe
  rw [← hr.out] at NB
  clear hr
  obtain ⟨p0, p1, p2, p3, p4, p5, p6, p7, p8, p9, p10, p11⟩ := B2.c12
  have lp := B2.lt
  go_wp2_with (go_at_call 29; (with_reducible refine Calls.mono (NB) ?_); rintro e w5 ⟨v5, rfl, h5, L5⟩)
  go_ret2
  exact ⟨v5, rfl, E.trans h5, L5⟩
end
section
/-- The goods of Uz lists, in Wl. -/
def Z6 : Nat → List Lt → List Lt → List ByteArray
 | 0, _, _ => []
 | _ + 1, [], [] => []
 | m + 1, x :: a, [] => x.g :: Z6 m a []
 | m + 1, [], y :: b => y.g :: Z6 m [] b
 | m + 1, x :: a, y :: b => if Zw x.g y.g then x.g :: Z6 m a (y :: b) else if x.g = y.g then y.g :: Z6 m a b else y.g :: Z6 m (x :: a) b
def Z9 : List Lt → ByteArray → Int
 | [], _ => 0
 | x :: l, s => if x.g = s then x.n else Z9 l s
def sorted (l : List Lt) : Prop := l.Pairwise fun x y => Zw x.g y.g = true
theorem El (x : ByteArray) : Zw x x = false := by
 unfold Zw
 exact decide_eq_false (List.lt_irrefl _)
theorem Hj {x y z : ByteArray} (h1 : Zw x y = true) (h2 : Zw y z = true) : Zw x z = true := by
 unfold Zw at *
 exact decide_eq_true (List.lt_trans (of_decide_eq_true h1) (of_decide_eq_true h2))
theorem Uv {x y : ByteArray} (h : Zw x y = true) : x ≠ y := fun e => by rw [e, El] at h; cases h
theorem Lx {x y : ByteArray} (h : x.toList = y.toList) : x = y := by
 have hx := Go.Lib.toList_data x
 have hy := Go.Lib.toList_data y
 rw [hx, hy] at h
 cases x; cases y
 simp only [ByteArray.mk.injEq]
 exact Array.ext' h
theorem P6 {x y : ByteArray} (h1 : Zw x y = false) (h2 : Zw y x = false) : x = y := by
 unfold Zw at *
 have a := of_decide_eq_false h1
 have b := of_decide_eq_false h2
 refine Lx ?_
 exact List.le_antisymm (List.not_lt.1 b) (List.not_lt.1 a)
theorem Sy (y : Lt) : Yb Y2 y = y.g := by unfold Yb; exact if_pos (show Y2.g.size = 0 from rfl)
theorem Vu : ∀ m a b, (∀ x ∈ a, x.g.size ≠ 0) → Z6 m a b = (Ji m a b).map fun p => Yb p.1 p.2
 | 0, _, _, _ => rfl
 | m + 1, [], [], _ => rfl
 | m + 1, x :: a, [], h => by
  have h0 := h x (by simp)
  rw [Z6, Ji, List.map_cons, Vu m a [] (fun z hz => h z (by simp [hz]))]
  simp [Yb, h0]
 | m + 1, [], y :: b, _ => by
  rw [Z6, Ji, List.map_cons, Vu m [] b (fun z hz => by simp at hz), Sy]
 | m + 1, x :: a, y :: b, h => by
  have h0 := h x (by simp)
  rw [Z6, Ji]
  by_cases h1 : Zw x.g y.g = true
  ·rw [if_pos h1, if_pos h1, List.map_cons, Vu m a (y :: b) (fun z hz => h z (by simp [hz]))]
   simp [Yb, h0]
  ·rw [if_neg h1, if_neg h1]
   rw [Bool.not_eq_true] at h1
   by_cases h2 : Zw y.g x.g = true
   ·rw [if_neg (Ne.symm (Uv h2)), if_pos h2, List.map_cons, Vu m (x :: a) b h, Sy]
   ·rw [Bool.not_eq_true] at h2
    have e := P6 h1 h2
    rw [if_pos e, if_neg (by rw [h2]; decide), List.map_cons, Vu m a b (fun z hz => h z (by simp [hz]))]
    simp [Yb, e]
theorem Bq {l : List Lt} {s : ByteArray} (h : ∀ x ∈ l, x.g ≠ s) : Z9 l s = 0 := by
 induction l with
 | nil => rfl
 | cons x l ih => rw [Z9, if_neg (h x (by simp)), ih fun z hz => h z (by simp [hz])]
theorem Nw {l : List Lt} (hs : sorted l) {x : Lt} (hx : x ∈ l) : Z9 l x.g = x.n := by
 induction l with
 | nil => cases hx
 | cons y l ih =>
  unfold sorted at hs
  rw [List.pairwise_cons] at hs
  rw [Z9]
  rcases List.mem_cons.1 hx with rfl | h
  ·rw [if_pos rfl]
  ·rw [if_neg (Uv (hs.1 x h)), ih hs.2 h]
def Gf (a b : List Lt) (p : Lt × Lt) : Prop :=
 (p.1 ∈ a ∧ p.2 = Y2 ∧ ∀ y ∈ b, y.g ≠ p.1.g) ∨ (p.1 = Y2 ∧ p.2 ∈ b ∧ ∀ x ∈ a, x.g ≠ p.2.g) ∨ (p.1 ∈ a ∧ p.2 ∈ b ∧ p.1.g = p.2.g)
theorem V8 : ∀ m a b, sorted a → sorted b → ∀ p ∈ Ji m a b, Gf a b p
 | 0, _, _, _, _, p, hp => by simp [Ji] at hp
 | m + 1, [], [], _, _, p, hp => by simp [Ji] at hp
 | m + 1, x :: a, [], ha, hb, p, hp => by
  rw [Ji] at hp
  unfold sorted at ha
  rw [List.pairwise_cons] at ha
  rcases List.mem_cons.1 hp with rfl | hp
  ·exact .inl ⟨by simp, rfl, fun y hy => by simp at hy⟩
  ·rcases V8 m a [] ha.2 hb p hp with ⟨h1, h2, h3⟩ | ⟨_, h2, _⟩ | ⟨_, h2, _⟩
   ·exact .inl ⟨by simp [h1], h2, h3⟩
   ·simp at h2
   ·simp at h2
 | m + 1, [], y :: b, ha, hb, p, hp => by
  rw [Ji] at hp
  unfold sorted at hb
  rw [List.pairwise_cons] at hb
  rcases List.mem_cons.1 hp with rfl | hp
  ·exact .inr (.inl ⟨rfl, by simp, fun x hx => by simp at hx⟩)
  ·rcases V8 m [] b ha hb.2 p hp with ⟨h1, _, _⟩ | ⟨h1, h2, h3⟩ | ⟨h1, _, _⟩
   ·simp at h1
   ·exact .inr (.inl ⟨h1, by simp [h2], h3⟩)
   ·simp at h1
 | m + 1, x :: a, y :: b, ha, hb, p, hp => by
  rw [Ji] at hp
  have ha' := ha
  have hb' := hb
  unfold sorted at ha' hb'
  rw [List.pairwise_cons] at ha' hb'
  by_cases h1 : Zw x.g y.g = true
  ·rw [if_pos h1] at hp
   have hlt : ∀ z ∈ y :: b, Zw x.g z.g = true := fun z hz => by
    rcases List.mem_cons.1 hz with rfl | hz
    ·exact h1
    ·exact Hj h1 (hb'.1 z hz)
   rcases List.mem_cons.1 hp with rfl | hp
   ·exact .inl ⟨by simp, rfl, fun z hz => Ne.symm (Uv (hlt z hz))⟩
   ·rcases V8 m a (y :: b) ha'.2 hb p hp with ⟨q1, q2, q3⟩ | ⟨q1, q2, q3⟩ | ⟨q1, q2, q3⟩
    ·exact .inl ⟨by simp [q1], q2, q3⟩
    ·refine .inr (.inl ⟨q1, q2, fun z hz => ?_⟩)
     rcases List.mem_cons.1 hz with rfl | hz
     ·exact Uv (hlt _ q2)
     ·exact q3 z hz
    ·exact .inr (.inr ⟨by simp [q1], q2, q3⟩)
  ·rw [if_neg h1] at hp
   rw [Bool.not_eq_true] at h1
   by_cases h2 : Zw y.g x.g = true
   ·rw [if_pos h2] at hp
    have hlt : ∀ z ∈ x :: a, Zw y.g z.g = true := fun z hz => by
     rcases List.mem_cons.1 hz with rfl | hz
     ·exact h2
     ·exact Hj h2 (ha'.1 z hz)
    rcases List.mem_cons.1 hp with rfl | hp
    ·exact .inr (.inl ⟨rfl, by simp, fun z hz => Ne.symm (Uv (hlt z hz))⟩)
    ·rcases V8 m (x :: a) b ha hb'.2 p hp with ⟨q1, q2, q3⟩ | ⟨q1, q2, q3⟩ | ⟨q1, q2, q3⟩
     ·refine .inl ⟨q1, q2, fun z hz => ?_⟩
      rcases List.mem_cons.1 hz with rfl | hz
      ·exact Uv (hlt _ q1)
      ·exact q3 z hz
     ·exact .inr (.inl ⟨q1, by simp [q2], q3⟩)
     ·exact .inr (.inr ⟨q1, by simp [q2], q3⟩)
   ·rw [if_neg h2] at hp
    rw [Bool.not_eq_true] at h2
    have e := P6 h1 h2
    rcases List.mem_cons.1 hp with rfl | hp
    ·exact .inr (.inr ⟨by simp, by simp, e⟩)
    ·rcases V8 m a b ha'.2 hb'.2 p hp with ⟨q1, q2, q3⟩ | ⟨q1, q2, q3⟩ | ⟨q1, q2, q3⟩
     ·refine .inl ⟨by simp [q1], q2, fun z hz => ?_⟩
      rcases List.mem_cons.1 hz with rfl | hz
      ·rw [← e]; exact Uv (ha'.1 _ q1)
      ·exact q3 z hz
     ·refine .inr (.inl ⟨q1, by simp [q2], fun z hz => ?_⟩)
      rcases List.mem_cons.1 hz with rfl | hz
      ·rw [e]; exact Uv (hb'.1 _ q2)
      ·exact q3 z hz
     ·exact .inr (.inr ⟨by simp [q1], by simp [q2], q3⟩)
/-- What the reference adds up for a good is what the merge passes on. -/
theorem Qcp {a b : List Lt} (ha : sorted a) (hb : sorted b) (na : ∀ x ∈ a, x.g.size ≠ 0) {p : Lt × Lt} (hp : Gf a b p) : Z9 a (Yb p.1 p.2) = p.1.n ∧ Z9 b (Yb p.1 p.2) = p.2.n := by
 rcases hp with ⟨h1, h2, h3⟩ | ⟨h1, h2, h3⟩ | ⟨h1, h2, h3⟩
 ·have e : Yb p.1 p.2 = p.1.g := by unfold Yb; rw [if_neg (na _ h1)]
  rw [e, Nw ha h1, Bq h3, h2]
  exact ⟨rfl, rfl⟩
 ·have e : Yb p.1 p.2 = p.2.g := by unfold Yb; rw [h1]; rfl
  rw [e, Nw hb h2, Bq h3, h1]
  exact ⟨rfl, rfl⟩
 ·have e : Yb p.1 p.2 = p.1.g := by unfold Yb; rw [if_neg (na _ h1)]
  rw [e, Nw ha h1, h3, Nw hb h2]
  exact ⟨rfl, rfl⟩
/-- The reference's sum, good by good. -/
def Wo (sg : Int) (a b : List Lt) : List ByteArray → List Lt → List Lt × Bool
 | [], o => (o, true)
 | s :: l, o => if 1099511627776 < Z9 a s + sg * Z9 b s ∨ Z9 a s + sg * Z9 b s < -1099511627776 then ([], false)
  else Wo sg a b l (if Z9 a s + sg * Z9 b s = 0 then o else o ++ [⟨s, Z9 a s + sg * Z9 b s⟩])
theorem Be {sg : Int} {a b : List Lt} (ha : sorted a) (hb : sorted b) (na : ∀ x ∈ a, x.g.size ≠ 0) : ∀ (L : List (Lt × Lt)) (o : List Lt), (∀ p ∈ L, Gf a b p) →
  Wo sg a b (L.map fun p => Yb p.1 p.2) o = if Jo sg L then (o ++ Jw sg L, true) else ([], false)
 | [], o, _ => by simp [Wo, Jo, Jw]
 | p :: L, o, h => by
  obtain ⟨e1, e2⟩ := Qcp ha hb na (h p (by simp))
  have ih := fun o => Be (sg := sg) ha hb na L o (fun q hq => h q (by simp [hq]))
  rw [List.map_cons, Wo, e1, e2]
  have hc : Jo sg (p :: L) = (Y0 sg p.1 p.2 && Jo sg L) := rfl
  have ho : Jw sg (p :: L) = Wv sg p ++ Jw sg L := by unfold Jw; rw [List.flatMap_cons]
  have hk : Y0 sg p.1 p.2 = !(decide (1099511627776 < p.1.n + sg * p.2.n) || decide (p.1.n + sg * p.2.n < -1099511627776)) := rfl
  rw [hc, ho]
  by_cases hbad : 1099511627776 < p.1.n + sg * p.2.n ∨ p.1.n + sg * p.2.n < -1099511627776
  ·have : Y0 sg p.1 p.2 = false := by
    rw [hk]
    rcases hbad with q | q <;> simp [q]
   rw [if_pos hbad, this, Bool.false_and, if_neg (by decide)]
  ·have : Y0 sg p.1 p.2 = true := by
    rw [hk, decide_eq_false (by omega), decide_eq_false (by omega)]; rfl
   rw [if_neg hbad, this, Bool.true_and, ih]
   unfold Wv Vd
   by_cases h0 : p.1.n + sg * p.2.n = 0
   ·rw [if_pos h0, if_pos h0, List.nil_append]
   ·rw [if_neg h0, if_neg h0, List.append_assoc]
end
section
open Go Go.RowKit Go.Shelf
attribute [local go_sem] Zt
theorem Qd9 (f : Nat → Lt) (k : Nat) : Xl f k = !(!Zq (f k).g || ((f k).n == 0) || decide (1099511627776 < (f k).n) || decide ((f k).n < -1099511627776) || (decide (0 < k) && !Zw (f (k - 1)).g (f k).g)) := by
 rw [Ty]
 cases Zq (f k).g <;> cases Zw (f (k - 1)).g (f k).g <;> cases ((f k).n == 0) <;> cases decide (1099511627776 < (f k).n) <;> cases decide ((f k).n < -1099511627776) <;> cases decide (0 < k) <;> rfl
theorem Fa (T : Option Addr) (n cap : Nat) (f : Nat → Lt) (w : World) (hT : Qk w T n 2 (Qz f)) (hcap : n ≤ cap) (hn : n ≤ 9223372036854775807) :
  Calls Tryz.prog 55 #[.slice T n cap] w fun e w' => e = .returned (.int .i64 (Jh f n)) ∧ Qa w w' := by
 have hge := Cu
 go_enter Tryz.func55, Tryz.ntmps55
 by_cases h64 : 64 < n
 ·have g1 : decide (64 < n) = true := decide_eq_true h64
  rw [Dw h64]
  go_wp2
  go_ret
  exact ⟨rfl, Qa.refl _⟩
 ·have g1 : decide (64 < n) = false := decide_eq_false h64
  go_upto_region 4 with (fail)
  go_loopw [3] (fun i wr => ∃ k : Nat, k ≤ n ∧ i = .int .i64 k ∧ Hid (∀ j, j < k → Xl f j = true) ∧ Qa w wr) (fun i _ => n - (intOf i).toNat)
  case atStart => exact ⟨0, Nat.zero_le _, rfl, (fun j h => absurd h (by omega)), Qa.refl _⟩
  case round =>
   obtain ⟨k, hk, rfl, hall, hE⟩ := hrel
   obtain ⟨wo, rfl⟩ := Qg wr
   obtain ⟨hcwo, hfwo, hzwo⟩ := Qa.rules hE
   try simp only [World.size_alloc] at hzwo
   obtain ⟨hcbwo, hfbwo, hzbwo⟩ := Qa.rules (show Qa w wo from (by repeat (first | exact Qa.refl _ | (refine Qa.alloc ?_ _) | (refine Qa.trans ?_ (by assumption)))))
   clear hcwo hfwo
   by_cases hlt : k < n
   ·obtain ⟨b, off, rfl, hb, hc⟩ := hT (by omega)
    have hbo : b < wo.heap.size := Nat.lt_of_lt_of_le hb hE.size
    have c0 : w.cell? ⟨b, off + k * 2, none⟩ = some (.string (f k).g) := by simpa using hc k 0 _ hlt rfl
    have c1 : w.cell? ⟨b, off + k * 2 + 1, none⟩ = some (.int .i64 (f k).n) := hc k 1 _ hlt rfl
    have hd0 : 0 < k → w.cell? ⟨b, off + (IntKind.i64.wrap ((k : Int) - 1)).toNat * 2, none⟩ = some (.string (f (k - 1)).g) := fun h => by
     rw [show (IntKind.i64.wrap ((k : Int) - 1)).toNat = k - 1 from by rw [IntKind.wrap_i64]; omega]
     simpa using hc (k - 1) 0 _ (by omega) rfl
    have hin : 0 < k → (0 ≤ IntKind.i64.wrap ((k : Int) - 1) ∧ IntKind.i64.wrap ((k : Int) - 1) < (n : Int)) := fun h => by rw [IntKind.wrap_i64]; omega
    have HK : Hid (Xl f k = _) := Qd9 f k
    clear hc
    go_upto_region 6 with (fail)
    refine Q8 wo Qm (by kernel_rfl) (by repeat (first | exact Qa.refl _ | (refine Qa.alloc ?_ _) | (refine Qa.trans ?_ (by assumption)))) ?_
    intro hne hrx hry
    try simp only []
    try simp only [List.append_eq, List.cons_append, List.nil_append]
    skip
    repeat (first
     | go_big_quiet_skip
     | ((with_reducible apply Yz)
        ·exact rfl
        ·exact rfl
        ·exact rfl
        intro K hK
        unfold Qt; go_big_quiet_op; (with_reducible refine hK _ ?_); clear hK K)
     | ((with_reducible apply Y6)
        ·exact rfl
        ·exact rfl
        ·exact rfl
        intro K hK
        unfold Qt; go_big_quiet_op; (with_reducible refine hK _ ?_); clear hK K)
     | (go_big_quiet_want; go_big_quiet_op; go_big_quiet_on)
     | (go_big_quiet_want; go_big_quiet_op; apply Exists.intro; refine ⟨fun u => ?_, ?_⟩
        ·first
          | (go_at_call 69; refine (Uw _ _).mono ?_; rintro e w' ⟨rfl, rfl⟩; exact ⟨rfl, u, rfl⟩)
        go_big_quiet_on)
     | ((with_reducible apply Yx)
        ·first | exact Zj rfl rfl rfl | exact Zi rfl rfl rfl | exact Zl rfl rfl rfl | exact Zk rfl rfl rfl
        ·exact rfl
        ·exact rfl
        ·exact rfl
        intro K hK
        unfold Qt; go_big_quiet_op; (with_reducible refine hK _ ?_); clear hK K)
     | ((with_reducible apply Y1)
        ·first | exact Zj rfl rfl rfl | exact Zi rfl rfl rfl | exact Zl rfl rfl rfl | exact Zk rfl rfl rfl
        ·exact rfl
        ·exact rfl
        ·exact rfl
        intro K hK
        unfold Qt; go_big_quiet_op; (with_reducible refine hK _ ?_); clear hK K)
     | ((with_reducible apply Yo)
        ·first | exact Zj rfl rfl rfl | exact Zi rfl rfl rfl | exact Zl rfl rfl rfl | exact Zk rfl rfl rfl
        apply Exists.intro
        refine And.intro (fun hgb => ?_) ?_
        ·intro u
         try simp at hgb
         go_simp
         try simp only [if_pos hsl]
         try simp only [if_pos (hin (by omega))]
         try (simp only [hd0 (by omega)]; go_simp)
         try (rw [hlook _ (Qa.trans (by repeat (first | exact Qa.refl _ | (refine Qa.alloc ?_ _) | (refine Qa.trans ?_ (by assumption)))) u.e) (hlk0 hgb)]; go_simp)
         first
          | (with_reducible exact rfl)
          | (go_at_call 69; refine (Uw _ _).mono ?_; rintro e w' ⟨rfl, rfl⟩; exact ⟨rfl, u, rfl⟩)
        intro K hK
        unfold Qt; go_big_quiet_op; (with_reducible refine hK _ ?_); clear hK K))
    clear hne hry hrx
    refine wpQuiet_nil ?_
    intro wn hwn
    obtain ⟨hcwn, hfwn, hzwn⟩ := Qa.rules hwn
    try simp only [World.size_alloc] at hzwn
    obtain ⟨hcbwn, hfbwn, hzbwn⟩ := Qa.rules (show Qa wo wn from (by repeat (first | exact Qa.refl _ | (refine Qa.alloc ?_ _) | (refine Qa.trans ?_ (by assumption)))))
    clear hcwn hfwn
    generalize hg : (!Zq (f k).g || ((f k).n == 0) || decide (1099511627776 < (f k).n) || decide ((f k).n < -1099511627776) || (decide (0 < k) && !Zw (f (k - 1)).g (f k).g)) = g at *
    have E2 : Qa w wn := hE.trans hwn
    cases g
    ·go_wp2
     exact ⟨⟨k + 1, by omega, by go_num, fun j hj => by
      by_cases e : j = k
      ·subst e; exact HK.out
      ·exact hall.out j (by omega), E2⟩, by simp [intOf]; omega⟩
    ·go_wp2
     go_ret
     exact ⟨Xg (Rh hlt HK.out h64).symm, E2⟩
   ·obtain rfl : k = n := by omega
    go_wp2
    go_ret
    exact ⟨Xg (Rl hall.out h64).symm, hE⟩
theorem I7 (T : Option Addr) (n cap : Nat) (f : Nat → Lt) (S : Option Addr) (m cm : Nat) (g : Nat → Lt) (w : World) (hT : Qk w T n 2 (Qz f)) (hcap : n ≤ cap) (hn : n ≤ 9223372036854775807) (hS : Qk w S m 2 (Qz g)) (hcm : m ≤ cm) (hm : m ≤ 9223372036854775807) :
  Calls Tryz.prog 122 #[.slice T n cap, .slice S m cm] w fun e w' => e = .returned (.int .i64 (Wp f n g m)) ∧ Qa w w' := by
 have N1 := Fa T n cap f w hT hcap hn
 have N2 := fun w h => Fa S m cm g w h hcm hm
 unfold Wp
 generalize Jh f n = a at *
 generalize Jh g m = b at *
 by_cases e0 : a = 0
 ·subst e0
  rw [if_neg (by simp)]
  go_enter Tryz.func122, Tryz.ntmps122
  go_wp2_with (first | (go_at_call 55; (with_reducible refine Calls.mono (N1) ?_); rintro e w1 ⟨rfl, h1⟩) | (go_at_call 55; (with_reducible refine Calls.mono (N2 _ (hS.ext h1)) ?_); rintro e w2 ⟨rfl, h2⟩))
  go_ret
  exact ⟨rfl, h1.trans h2⟩
 ·have g0 : (a == 0) = false := beq_eq_false_iff_ne.2 e0
  have g0n : (a != 0) = true := by rw [bne, g0]; rfl
  rw [if_pos e0]
  go_enter Tryz.func122, Tryz.ntmps122
  go_wp2_with (go_at_call 55; (with_reducible refine Calls.mono (N1) ?_); rintro e w1 ⟨rfl, h1⟩)
  go_ret
  exact ⟨rfl, h1⟩
theorem Tp (T : Option Addr) (n cap : Nat) (f : Nat → Lt) (s : ByteArray) (w : World) (hT : Qk w T n 2 (Qz f)) (hn : n ≤ 9223372036854775807) :
  Calls Tryz.prog 124 #[.slice T n cap, .string s] w fun e w' => e = .returned (.int .i64 (Z9 (Qu f n) s)) ∧ Qa w w' := by
 obtain ⟨R, hR0⟩ := Qg (Z9 (Qu f n) s)
 rw [← hR0]
 have HR : Hid (R = Z9 ((Qu f n).drop 0) s) := hR0
 clear hR0
 go_enter Tryz.func124, Tryz.ntmps124
 go_upto_region 2 with (fail)
 go_loopw [5] (fun i wr => ∃ k : Nat, k ≤ n ∧ i = .int .i64 k ∧ Hid (R = Z9 ((Qu f n).drop k) s) ∧ Qa w wr) (fun i _ => n - (intOf i).toNat)
 case atStart => exact ⟨0, Nat.zero_le _, rfl, HR, Qa.refl _⟩
 case round =>
  clear HR
  obtain ⟨k, hk, rfl, hR, hE⟩ := hrel
  obtain ⟨wo, rfl⟩ := Qg wr
  by_cases hlt : k < n
  ·obtain ⟨b, off, rfl, hb, hc⟩ := (hT.ext hE) (by omega)
   have c0 : wo.cell? ⟨b, off + k * 2, none⟩ = some (.string (f k).g) := by simpa [Qz] using hc k 0 _ hlt rfl
   have c1 : wo.cell? ⟨b, off + k * 2 + 1, none⟩ = some (.int .i64 (f k).n) := by simpa [Qz] using hc k 1 _ hlt rfl
   have hs : (Qu f n).drop k = f k :: (Qu f n).drop (k + 1) := by
    rw [List.drop_eq_getElem_cons (by simp [Qu]; omega)]
    simp [Qu]
   have hR2 : Hid (R = if (f k).g = s then (f k).n else Z9 ((Qu f n).drop (k + 1)) s) := by
    unfold Hid
    rw [hR.out, hs]; rfl
   clear hc hs hR hT
   by_cases he : (f k).g = s
   ·have hr := hR2.out
    rw [if_pos he] at hr
    subst hr
    rw [he] at c0
    clear hR2 he
    go_wp2
    go_ret
    exact ⟨rfl, hE⟩
   ·have hr := hR2.out
    rw [if_neg he] at hr
    have hRn := Lib.hid hr
    have g0 : ((f k).g.toList == s.toList) = false := beq_eq_false_iff_ne.2 fun h => he (Lx h)
    clear hR2 hr he
    go_wp2
    exact ⟨⟨k + 1, by omega, by go_num, hRn, hE⟩, by simp [intOf]; omega⟩
  ·obtain rfl : k = n := by omega
   have hr : R = 0 := by
    rw [hR.out, List.drop_eq_nil_of_le (by simp [Qu])]; rfl
   subst hr
   go_wp2
   go_ret
   exact ⟨rfl, hE⟩
def Ud (l : List ByteArray) : List Value := l.map fun s => Value.string s
def U9 (l : List ByteArray) (i : Nat) : List Value := [.string (l.getD i ⟨#[]⟩)]
theorem La (l : List ByteArray) (s : ByteArray) : Ud l ++ [.string s] = Ud (l ++ [s]) := by simp [Ud]
theorem Aa : (Tryz.prog.info? 9).map (fun i => (i.zero, i.size, i.bytes)) = some (some (.string ⟨#[]⟩), 1, 16) := by kernel_rfl
theorem Cf : (Tryz.prog.info? 68).map (fun i => (i.zero, i.size, i.bytes)) = some (some (.agg #[.string ⟨#[]⟩, .int .i64 0]), 2, 24) := by kernel_rfl
theorem Qen {w : World} {base k : Nat} {v : Value} {l : List ByteArray} (hk : k = l.length) (h : w.ownsRow base 9 1 v k (Ud l)) : ∃ F c, v = .slice F k c ∧ Qk w F k 1 (U9 l) := by
 have e : Ud l = Q0 (U9 l) k := by
  subst hk
  apply List.ext_getElem?
  intro j
  by_cases hj : j < l.length
  ·have := Ue (f := U9 l) (sz := 1) (fun _ => rfl) (i := j) (j := 0) hj (by decide)
   rw [Nat.mul_one, Nat.add_zero] at this
   rw [this]
   simp [Ud, U9, List.getD_eq_getElem?_getD, List.getElem?_eq_getElem hj]
  ·rw [List.getElem?_eq_none (by simp [Ud]; omega), List.getElem?_eq_none (by rw [Y7 (f := U9 l) (sz := 1) (fun _ => rfl)]; omega)]
 rw [e] at h
 obtain ⟨F, c, h1, h2, _⟩ := Ul (f := U9 l) (fun _ => rfl) h
 exact ⟨F, c, h1, h2⟩
theorem V4 {f : Nat → Lt} {n k : Nat} (h : k < n) : (Qu f n).drop k = f k :: (Qu f n).drop (k + 1) := by
 rw [List.drop_eq_getElem_cons (by simp [Qu]; omega)]
 simp [Qu]
theorem Nc {f : Nat → Lt} {n k : Nat} (h : n ≤ k) : (Qu f n).drop k = [] := List.drop_eq_nil_of_le (by simp [Qu]; omega)
theorem Kc : ∀ m a b, (Z6 m a b).length ≤ m
 | 0, _, _ => by simp [Z6]
 | m + 1, [], [] => by simp [Z6]
 | m + 1, x :: a, [] => by have := Kc m a []; simp [Z6]; omega
 | m + 1, [], y :: b => by have := Kc m [] b; simp [Z6]; omega
 | m + 1, x :: a, y :: b => by
  have h1 := Kc m a (y :: b)
  have h2 := Kc m (x :: a) b
  have h3 := Kc m a b
  rw [Z6]
  split
  ·simp; omega
  ·split
   ·simp; omega
   ·simp; omega
theorem Er (T : Option Addr) (n cap : Nat) (f : Nat → Lt) (S : Option Addr) (m cm : Nat) (g : Nat → Lt) (w : World) (hT : Qk w T n 2 (Qz f)) (hn : n ≤ 64) (hS : Qk w S m 2 (Qz g)) (hm : m ≤ 64) :
  Calls Tryz.prog 123 #[.slice T n cap, .slice S m cm] w fun e w' => ∃ F c, e = .returned (.slice F (Z6 (n + m) (Qu f n) (Qu g m)).length c) ∧ Qa w w' ∧ w'.ownsRow w.heap.size 9 1 (.slice F (Z6 (n + m) (Qu f n) (Qu g m)).length c) (Z6 (n + m) (Qu f n) (Qu g m)).length (Ud (Z6 (n + m) (Qu f n) (Qu g m))) := by
 obtain ⟨i0, hi, hz0, hz1, hz2⟩ := info_parts Aa
 have hls := lss_s
 obtain ⟨G, hG0⟩ := Qg (Z6 (n + m) (Qu f n) (Qu g m))
 rw [← hG0]
 have HG0 : Hid (G = [] ++ Z6 (n + m) ((Qu f n).drop 0) ((Qu g m).drop 0)) := by unfold Hid; rw [hG0]; simp
 clear hG0
 go_enter Tryz.func123, Tryz.ntmps123
 go_upto_region 3 with (fail)
 go_loopw [5, 6, 7] (fun ov iv kv wr => ∃ i k : Nat, i ≤ n ∧ k ≤ m ∧ iv = .int .i64 i ∧ kv = .int .i64 k ∧ ∃ gs : List ByteArray, Qa w wr ∧ wr.ownsRow w.heap.size 9 1 ov gs.length (Ud gs) ∧ ∃ M : Nat, (n - i) + (m - k) ≤ M ∧ M ≤ n + m ∧ gs.length + M ≤ n + m ∧ Hid (G = gs ++ Z6 M ((Qu f n).drop i) ((Qu g m).drop k))) (fun _ iv kv _ => (n - (intOf iv).toNat) + (m - (intOf kv).toNat))
 case atStart => exact ⟨0, 0, Nat.zero_le _, Nat.zero_le _, rfl, rfl, [], Qa.refl _, World.ownsRow_nil _ _ _ _, n + m, by omega, by omega, by simp, HG0⟩
 case round =>
  clear HG0
  obtain ⟨i, k, hi1, hk1, rfl, rfl, gs, hE, hO, M, hM, hM2, hM3, hG⟩ := hrel
  obtain ⟨wo, rfl⟩ := Qg wr
  obtain ⟨F5, m5, rfl⟩ := Z5 hO
  by_cases hin : i < n
  ·have gi : decide (i < n) = true := decide_eq_true hin
   obtain ⟨M', rfl⟩ : ∃ M', M = M' + 1 := ⟨M - 1, by omega⟩
   obtain ⟨b, off, rfl, hb, hc⟩ := (hT.ext hE) (by omega)
   have c0 : wo.cell? ⟨b, off + i * 2, none⟩ = some (.string (f i).g) := by simpa [Qz] using hc i 0 _ hin rfl
   clear hc
   by_cases hkm : k < m
   ·have gk : decide (k < m) = true := decide_eq_true hkm
    have gkm : ((k : Int) == (m : Int)) = false := beq_eq_false_iff_ne.2 (by omega)
    obtain ⟨b2, off2, rfl, hb2, hc⟩ := (hS.ext hE) (by omega)
    have d0 : wo.cell? ⟨b2, off2 + k * 2, none⟩ = some (.string (g k).g) := by simpa [Qz] using hc k 0 _ hkm rfl
    clear hc
    rw [V4 hin, V4 hkm] at hG
    go_upto_region 4 with (fail)
    by_cases hs : Zw (f i).g (g k).g = true
    ·have HG : Hid (G = (gs ++ [(f i).g]) ++ Z6 M' ((Qu f n).drop (i + 1)) ((Qu g m).drop k)) := by
      unfold Hid
      rw [hG.out, Z6, if_pos hs, V4 hkm]; simp
     have hsb : Op.bytesLess (f i).g.toList (g k).g.toList = true := by rw [bytesLess_eq]; exact hs
     clear hG hs
     refine Q8 wo Qm (by kernel_rfl) (by repeat (first | exact Qa.refl _ | (refine Qa.alloc ?_ _) | (refine Qa.trans ?_ (by assumption)))) ?_
     intro hne hrx hry
     try simp only []
     try simp only [List.append_eq, List.cons_append, List.nil_append]
     skip
     repeat (first
      | go_big_quiet_skip
      | (go_big_quiet_want; go_big_quiet_op; go_big_quiet_on))
     clear hne hry hrx
     refine wpQuiet_nil ?_
     intro w2 h2
     obtain ⟨hcw2, hfw2, hzw2⟩ := Qa.rules h2
     try simp only [World.size_alloc] at hzw2
     obtain ⟨hcbw2, hfbw2, hzbw2⟩ := Qa.rules (show Qa wo w2 from (by repeat (first | exact Qa.refl _ | (refine Qa.alloc ?_ _) | (refine Qa.trans ?_ (by assumption)))))
     clear hcw2 hfw2
     replace hE := hE.trans h2
     replace hO := Q5 hO h2
     go_upto_region 6 with (at_builtin; refine wpList_append_own_at _ rfl _ _ 22 rfl w.heap.size 9 i0 (.string ⟨#[]⟩) 1 16 Tryz.underlying22 hi hz0 hz1 hz2 rfl (by decide) _ _ _ rfl (hO.alloc _) ⟨w2.heap.size, 0, none⟩ 1 1 [.string (f i).g] rfl rfl (Xy _ _ _) (by simp [Value.oneCell']) (by unfold maxLen; omega) (by omega) (by have := hE.size; simp; omega) ?_; intro o' w5 hown hgrow _ _)
     have E5 : Qa w w5 := (hE.alloc _).grown hgrow (fun q hq => (hO.lt q hq).1)
     rw [La] at hown
     clear hgrow hO hE
     go_wp2
     exact ⟨⟨i + 1, k, by omega, by omega, by go_num, by go_num, gs ++ [(f i).g], E5, by simpa using hown, M', by omega, by omega, by simp; omega, HG⟩, by simp [intOf]; omega⟩
    ·rw [Bool.not_eq_true] at hs
     have hsb : Op.bytesLess (f i).g.toList (g k).g.toList = false := by rw [bytesLess_eq]; exact hs
     by_cases he : (f i).g = (g k).g
     ·have HG : Hid (G = (gs ++ [(g k).g]) ++ Z6 M' ((Qu f n).drop (i + 1)) ((Qu g m).drop (k + 1))) := by
       unfold Hid
       rw [hG.out, Z6, if_neg (by rw [hs]; decide), if_pos he]; simp
      have ge : ((f i).g.toList == (g k).g.toList) = true := by rw [he]; exact beq_self_eq_true _
      clear hG he
      refine Q8 wo Qm (by kernel_rfl) (by repeat (first | exact Qa.refl _ | (refine Qa.alloc ?_ _) | (refine Qa.trans ?_ (by assumption)))) ?_
      intro hne hrx hry
      try simp only []
      try simp only [List.append_eq, List.cons_append, List.nil_append]
      skip
      repeat (first
       | go_big_quiet_skip
       | (go_big_quiet_want; go_big_quiet_op; go_big_quiet_on))
      clear hne hry hrx
      refine wpQuiet_nil ?_
      intro w2 h2
      obtain ⟨hcw2, hfw2, hzw2⟩ := Qa.rules h2
      try simp only [World.size_alloc] at hzw2
      obtain ⟨hcbw2, hfbw2, hzbw2⟩ := Qa.rules (show Qa wo w2 from (by repeat (first | exact Qa.refl _ | (refine Qa.alloc ?_ _) | (refine Qa.trans ?_ (by assumption)))))
      clear hcw2 hfw2
      have b0 := (h2.cell (p := ⟨b2, off2 + k * 2, none⟩) hb2).trans d0
      have lb := Nat.lt_of_lt_of_le hb2 h2.size
      have a0 := (h2.cell (p := ⟨b, off + i * 2, none⟩) hb).trans c0
      have la := Nat.lt_of_lt_of_le hb h2.size
      clear c0 hb
      clear d0 hb2
      replace hE := hE.trans h2
      replace hO := Q5 hO h2
      clear h2
      go_upto_region 7 with (fail)
      refine Q8 w2 Qm (by kernel_rfl) (by repeat (first | exact Qa.refl _ | (refine Qa.alloc ?_ _) | (refine Qa.trans ?_ (by assumption)))) ?_
      intro hne hrx hry
      try simp only []
      try simp only [List.append_eq, List.cons_append, List.nil_append]
      skip
      repeat (first
       | go_big_quiet_skip
       | (go_big_quiet_want; go_big_quiet_op; go_big_quiet_on))
      clear hne hry hrx
      refine wpQuiet_nil ?_
      intro w3 h3
      obtain ⟨hcw3, hfw3, hzw3⟩ := Qa.rules h3
      try simp only [World.size_alloc] at hzw3
      obtain ⟨hcbw3, hfbw3, hzbw3⟩ := Qa.rules (show Qa w2 w3 from (by repeat (first | exact Qa.refl _ | (refine Qa.alloc ?_ _) | (refine Qa.trans ?_ (by assumption)))))
      clear hcw3 hfw3
      have d1 := (h3.cell (p := ⟨b2, off2 + k * 2, none⟩) lb).trans b0
      have lc := Nat.lt_of_lt_of_le lb h3.size
      clear b0 lb a0 la
      replace hE := hE.trans h3
      replace hO := Q5 hO h3
      clear h3
      go_upto_region 10 with (at_builtin; refine wpList_append_own_at _ rfl _ _ 22 rfl w.heap.size 9 i0 (.string ⟨#[]⟩) 1 16 Tryz.underlying22 hi hz0 hz1 hz2 rfl (by decide) _ _ _ rfl (hO.alloc _) ⟨w3.heap.size, 0, none⟩ 1 1 [.string (g k).g] rfl rfl (Xy _ _ _) (by simp [Value.oneCell']) (by unfold maxLen; omega) (by omega) (by have := hE.size; simp; omega) ?_; intro o' w5 hown hgrow _ _)
      have E5 : Qa w w5 := (hE.alloc _).grown hgrow (fun q hq => (hO.lt q hq).1)
      rw [La] at hown
      clear hgrow hO hE
      go_wp2
      exact ⟨⟨i + 1, k + 1, by omega, by omega, by go_num, by go_num, gs ++ [(g k).g], E5, by simpa using hown, M', by omega, by omega, by simp; omega, HG⟩, by simp [intOf]; omega⟩
     ·have HG : Hid (G = (gs ++ [(g k).g]) ++ Z6 M' ((Qu f n).drop i) ((Qu g m).drop (k + 1))) := by
       unfold Hid
       rw [hG.out, Z6, if_neg (by rw [hs]; decide), if_neg he, V4 hin]; simp
      have ge : ((f i).g.toList == (g k).g.toList) = false := beq_eq_false_iff_ne.2 fun h => he (Lx h)
      clear hG he
      refine Q8 wo Qm (by kernel_rfl) (by repeat (first | exact Qa.refl _ | (refine Qa.alloc ?_ _) | (refine Qa.trans ?_ (by assumption)))) ?_
      intro hne hrx hry
      try simp only []
      try simp only [List.append_eq, List.cons_append, List.nil_append]
      skip
      repeat (first
       | go_big_quiet_skip
       | (go_big_quiet_want; go_big_quiet_op; go_big_quiet_on))
      clear hne hry hrx
      refine wpQuiet_nil ?_
      intro w2 h2
      obtain ⟨hcw2, hfw2, hzw2⟩ := Qa.rules h2
      try simp only [World.size_alloc] at hzw2
      obtain ⟨hcbw2, hfbw2, hzbw2⟩ := Qa.rules (show Qa wo w2 from (by repeat (first | exact Qa.refl _ | (refine Qa.alloc ?_ _) | (refine Qa.trans ?_ (by assumption)))))
      clear hcw2 hfw2
      have b0 := (h2.cell (p := ⟨b2, off2 + k * 2, none⟩) hb2).trans d0
      have lb := Nat.lt_of_lt_of_le hb2 h2.size
      have a0 := (h2.cell (p := ⟨b, off + i * 2, none⟩) hb).trans c0
      have la := Nat.lt_of_lt_of_le hb h2.size
      clear c0 hb
      clear d0 hb2
      replace hE := hE.trans h2
      replace hO := Q5 hO h2
      clear h2
      go_upto_region 7 with (fail)
      refine Q8 w2 Qm (by kernel_rfl) (by repeat (first | exact Qa.refl _ | (refine Qa.alloc ?_ _) | (refine Qa.trans ?_ (by assumption)))) ?_
      intro hne hrx hry
      try simp only []
      try simp only [List.append_eq, List.cons_append, List.nil_append]
      skip
      repeat (first
       | go_big_quiet_skip
       | (go_big_quiet_want; go_big_quiet_op; go_big_quiet_on))
      clear hne hry hrx
      refine wpQuiet_nil ?_
      intro w3 h3
      obtain ⟨hcw3, hfw3, hzw3⟩ := Qa.rules h3
      try simp only [World.size_alloc] at hzw3
      obtain ⟨hcbw3, hfbw3, hzbw3⟩ := Qa.rules (show Qa w2 w3 from (by repeat (first | exact Qa.refl _ | (refine Qa.alloc ?_ _) | (refine Qa.trans ?_ (by assumption)))))
      clear hcw3 hfw3
      have d1 := (h3.cell (p := ⟨b2, off2 + k * 2, none⟩) lb).trans b0
      have lc := Nat.lt_of_lt_of_le lb h3.size
      clear b0 lb a0 la
      replace hE := hE.trans h3
      replace hO := Q5 hO h3
      clear h3
      go_upto_region 10 with (at_builtin; refine wpList_append_own_at _ rfl _ _ 22 rfl w.heap.size 9 i0 (.string ⟨#[]⟩) 1 16 Tryz.underlying22 hi hz0 hz1 hz2 rfl (by decide) _ _ _ rfl (hO.alloc _) ⟨w3.heap.size, 0, none⟩ 1 1 [.string (g k).g] rfl rfl (Xy _ _ _) (by simp [Value.oneCell']) (by unfold maxLen; omega) (by omega) (by have := hE.size; simp; omega) ?_; intro o' w5 hown hgrow _ _)
      have E5 : Qa w w5 := (hE.alloc _).grown hgrow (fun q hq => (hO.lt q hq).1)
      rw [La] at hown
      clear hgrow hO hE
      go_wp2
      exact ⟨⟨i, k + 1, by omega, by omega, by go_num, by go_num, gs ++ [(g k).g], E5, by simpa using hown, M', by omega, by omega, by simp; omega, HG⟩, by simp [intOf]; omega⟩
   ·obtain rfl : k = m := by omega
    have gk : decide (k < k) = false := decide_eq_false (by omega)
    have HG : Hid (G = (gs ++ [(f i).g]) ++ Z6 M' ((Qu f n).drop (i + 1)) ((Qu g k).drop k)) := by
     unfold Hid
     rw [hG.out, V4 hin, Nc (Nat.le_refl k), Z6]; simp
    clear hG
    go_upto_region 4 with (fail)
    refine Q8 wo Qm (by kernel_rfl) (by repeat (first | exact Qa.refl _ | (refine Qa.alloc ?_ _) | (refine Qa.trans ?_ (by assumption)))) ?_
    intro hne hrx hry
    try simp only []
    try simp only [List.append_eq, List.cons_append, List.nil_append]
    skip
    repeat (first
     | go_big_quiet_skip
     | (go_big_quiet_want; go_big_quiet_op; go_big_quiet_on))
    clear hne hry hrx
    refine wpQuiet_nil ?_
    intro w2 h2
    obtain ⟨hcw2, hfw2, hzw2⟩ := Qa.rules h2
    try simp only [World.size_alloc] at hzw2
    obtain ⟨hcbw2, hfbw2, hzbw2⟩ := Qa.rules (show Qa wo w2 from (by repeat (first | exact Qa.refl _ | (refine Qa.alloc ?_ _) | (refine Qa.trans ?_ (by assumption)))))
    clear hcw2 hfw2
    replace hE := hE.trans h2
    replace hO := Q5 hO h2
    go_upto_region 6 with (at_builtin; refine wpList_append_own_at _ rfl _ _ 22 rfl w.heap.size 9 i0 (.string ⟨#[]⟩) 1 16 Tryz.underlying22 hi hz0 hz1 hz2 rfl (by decide) _ _ _ rfl (hO.alloc _) ⟨w2.heap.size, 0, none⟩ 1 1 [.string (f i).g] rfl rfl (Xy _ _ _) (by simp [Value.oneCell']) (by unfold maxLen; omega) (by omega) (by have := hE.size; simp; omega) ?_; intro o' w5 hown hgrow _ _)
    have E5 : Qa w w5 := (hE.alloc _).grown hgrow (fun q hq => (hO.lt q hq).1)
    rw [La] at hown
    clear hgrow hO hE
    go_wp2
    exact ⟨⟨i + 1, k, by omega, by omega, by go_num, by go_num, gs ++ [(f i).g], E5, by simpa using hown, M', by omega, by omega, by simp; omega, HG⟩, by simp [intOf]; omega⟩
  ·obtain rfl : i = n := by omega
   have gi : decide (i < i) = false := decide_eq_false (by omega)
   by_cases hkm : k < m
   ·have gk : decide (k < m) = true := decide_eq_true hkm
    have gkm : ((k : Int) == (m : Int)) = false := beq_eq_false_iff_ne.2 (by omega)
    obtain ⟨M', rfl⟩ : ∃ M', M = M' + 1 := ⟨M - 1, by omega⟩
    obtain ⟨b2, off2, rfl, hb2, hc⟩ := (hS.ext hE) (by omega)
    have d0 : wo.cell? ⟨b2, off2 + k * 2, none⟩ = some (.string (g k).g) := by simpa [Qz] using hc k 0 _ hkm rfl
    clear hc
    have HG : Hid (G = (gs ++ [(g k).g]) ++ Z6 M' ((Qu f i).drop i) ((Qu g m).drop (k + 1))) := by
     unfold Hid
     rw [hG.out, V4 hkm, Nc (Nat.le_refl i), Z6]; simp
    clear hG
    go_upto_region 4 with (fail)
    refine Q8 wo Qm (by kernel_rfl) (by repeat (first | exact Qa.refl _ | (refine Qa.alloc ?_ _) | (refine Qa.trans ?_ (by assumption)))) ?_
    intro hne hrx hry
    try simp only []
    try simp only [List.append_eq, List.cons_append, List.nil_append]
    skip
    repeat (first
     | go_big_quiet_skip
     | (go_big_quiet_want; go_big_quiet_op; go_big_quiet_on))
    clear hne hry hrx
    refine wpQuiet_nil ?_
    intro w2 h2
    obtain ⟨hcw2, hfw2, hzw2⟩ := Qa.rules h2
    try simp only [World.size_alloc] at hzw2
    obtain ⟨hcbw2, hfbw2, hzbw2⟩ := Qa.rules (show Qa wo w2 from (by repeat (first | exact Qa.refl _ | (refine Qa.alloc ?_ _) | (refine Qa.trans ?_ (by assumption)))))
    clear hcw2 hfw2
    have b0 := (h2.cell (p := ⟨b2, off2 + k * 2, none⟩) hb2).trans d0
    have lb := Nat.lt_of_lt_of_le hb2 h2.size
    clear d0 hb2
    replace hE := hE.trans h2
    replace hO := Q5 hO h2
    clear h2
    go_upto_region 7 with (fail)
    refine Q8 w2 Qm (by kernel_rfl) (by repeat (first | exact Qa.refl _ | (refine Qa.alloc ?_ _) | (refine Qa.trans ?_ (by assumption)))) ?_
    intro hne hrx hry
    try simp only []
    try simp only [List.append_eq, List.cons_append, List.nil_append]
    skip
    repeat (first
     | go_big_quiet_skip
     | (go_big_quiet_want; go_big_quiet_op; go_big_quiet_on))
    clear hne hry hrx
    refine wpQuiet_nil ?_
    intro w3 h3
    obtain ⟨hcw3, hfw3, hzw3⟩ := Qa.rules h3
    try simp only [World.size_alloc] at hzw3
    obtain ⟨hcbw3, hfbw3, hzbw3⟩ := Qa.rules (show Qa w2 w3 from (by repeat (first | exact Qa.refl _ | (refine Qa.alloc ?_ _) | (refine Qa.trans ?_ (by assumption)))))
    clear hcw3 hfw3
    have d1 := (h3.cell (p := ⟨b2, off2 + k * 2, none⟩) lb).trans b0
    have lc := Nat.lt_of_lt_of_le lb h3.size
    clear b0 lb
    replace hE := hE.trans h3
    replace hO := Q5 hO h3
    clear h3
    go_upto_region 10 with (at_builtin; refine wpList_append_own_at _ rfl _ _ 22 rfl w.heap.size 9 i0 (.string ⟨#[]⟩) 1 16 Tryz.underlying22 hi hz0 hz1 hz2 rfl (by decide) _ _ _ rfl (hO.alloc _) ⟨w3.heap.size, 0, none⟩ 1 1 [.string (g k).g] rfl rfl (Xy _ _ _) (by simp [Value.oneCell']) (by unfold maxLen; omega) (by omega) (by have := hE.size; simp; omega) ?_; intro o' w5 hown hgrow _ _)
    have E5 : Qa w w5 := (hE.alloc _).grown hgrow (fun q hq => (hO.lt q hq).1)
    rw [La] at hown
    clear hgrow hO hE
    go_wp2
    exact ⟨⟨i, k + 1, by omega, by omega, by go_num, by go_num, gs ++ [(g k).g], E5, by simpa using hown, M', by omega, by omega, by simp; omega, HG⟩, by simp [intOf]; omega⟩
   ·obtain rfl : k = m := by omega
    have gk : decide (k < k) = false := decide_eq_false (by omega)
    have hr : G = gs := by
     rw [hG.out, Nc (Nat.le_refl i), Nc (Nat.le_refl k)]
     cases M <;> simp [Z6]
    subst hr
    clear hG
    go_wp2
    go_ret
    exact ⟨_, _, rfl, hE, hO⟩
theorem Qdp {s : ByteArray} (h : Zq s = true) : s.size ≠ 0 := by
 unfold Zq at h
 simp only [Bool.and_eq_true, decide_eq_true_eq] at h
 omega
theorem P2 {f : Nat → Lt} {n : Nat} (h : Jh f n = 0) : sorted (Qu f n) ∧ ∀ x ∈ Qu f n, x.g.size ≠ 0 := by
 have hok : ∀ i, i < n → Xl f i = true := fun i hi => by
  unfold Jh at h
  by_cases h64 : 64 < n
  ·rw [if_pos h64] at h; exact absurd h (by decide)
  ·rw [if_neg h64] at h
   by_cases ho : Lb f n = true
   ·exact List.all_eq_true.1 ho i (by simpa using hi)
   ·rw [if_neg ho] at h; exact absurd h (by decide)
 have hst : ∀ i, i + 1 < n → Zw (f i).g (f (i + 1)).g = true := fun i hi => by
  have := hok (i + 1) hi
  unfold Xl at this
  simp only [Bool.and_eq_true, Bool.or_eq_true, decide_eq_true_eq] at this
  rcases this.1.2 with h0 | h0
  ·omega
  ·exact h0
 have hlt : ∀ j i, i < j → j < n → Zw (f i).g (f j).g = true := by
  intro j
  induction j with
  | zero => intro i hi _; omega
  | succ j ih =>
   intro i hi hj
   by_cases e : i = j
   ·rw [e]; exact hst j hj
   ·exact Hj (ih i (by omega) (by omega)) (hst j hj)
 refine ⟨List.pairwise_iff_getElem.2 fun i j hi hj hij => ?_, fun x hx => ?_⟩
 ·simp only [Qu, List.length_map, List.length_range] at hi hj
  simp only [Qu, List.getElem_map, List.getElem_range]
  exact hlt j i hij hj
 ·simp only [Qu, List.mem_map, List.mem_range] at hx
  obtain ⟨i, hi, rfl⟩ := hx
  have := hok i hi
  unfold Xl at this
  simp only [Bool.and_eq_true] at this
  exact Qdp this.1.1
theorem Te {l : List Lt} (h : ∀ x ∈ l, Xv x) (s : ByteArray) : -1099511627776 ≤ Z9 l s ∧ Z9 l s ≤ 1099511627776 := by
 induction l with
 | nil => show -1099511627776 ≤ (0 : Int) ∧ (0 : Int) ≤ 1099511627776; decide
 | cons x l ih =>
  rw [Z9]
  split
  ·exact h x (by simp)
  ·exact ih fun z hz => h z (by simp [hz])
theorem Bv {f : Nat → Lt} {n : Nat} (h : ∀ i, i < n → Xv (f i)) : ∀ x ∈ Qu f n, Xv x := fun x hx => by
 simp only [Qu, List.mem_map, List.mem_range] at hx
 obtain ⟨i, hi, rfl⟩ := hx
 exact h i hi
theorem Qaa (l : List Lt) (s : ByteArray) (z : Int) : l.flatMap Jd ++ [.string s, .int .i64 z] = (l ++ [Lt.mk s z]).flatMap Jd := by rw [List.flatMap_append]; rfl
theorem I0 (s : ByteArray) (z : Int) : ∀ u ∈ [Value.string s, .int .i64 z], u.oneCell' = true := by simp [Value.oneCell']
theorem Ci (T : Option Addr) (n cap : Nat) (f : Nat → Lt) (S : Option Addr) (m cm : Nat) (g : Nat → Lt) (sg : Int) (hsg : sg = 1 ∨ sg = -1) (w : World) (hT : Qk w T n 2 (Qz f)) (hcap : n ≤ cap) (hn : n ≤ 9223372036854775807) (hS : Qk w S m 2 (Qz g)) (hcm : m ≤ cm) (hm : m ≤ 9223372036854775807) :
  Calls Tryz.prog 89 #[.slice T n cap, .slice S m cm, .int .i64 sg] w fun e w' => ∃ F k c, e = .returned (.tuple #[.slice F k c, .int .i64 (Ja sg f n g m)]) ∧ Qa w w' ∧ w'.ownsRow w.heap.size 68 2 (.slice F k c) k ((Yn sg f n g m).flatMap Jd) := by
 obtain ⟨i0, hi, hz0, hz1, hz2⟩ := info_parts Cf
 have N2 := I7 T n cap f S m cm g w hT hcap hn hS hcm hm
 obtain ⟨q, hq⟩ := Qg (Wp f n g m)
 rw [← hq] at N2
 replace hq := Lib.hid hq
 go_enter Tryz.func89, Tryz.ntmps89
 by_cases e0 : q = 0
 rotate_left
 ·have g0 : (q == 0) = false := beq_eq_false_iff_ne.2 e0
  have g0n : (q != 0) = true := by rw [bne, g0]; rfl
  have hE2 : Hid (Ja sg f n g m = q) := by unfold Hid Ja; rw [if_pos (by rw [← hq.out]; exact e0), hq.out]
  have hL2 := Lib.hid (U4 hE2.out e0)
  clear e0 hq
  go_wp2_with (go_at_call 122; (with_reducible refine Calls.mono (N2) ?_); rintro e w1 ⟨rfl, h1⟩)
  go_ret2
  exact ⟨none, 0, 0, by rw [hE2.out]; rfl, h1, by rw [hL2.out]; exact World.ownsRow_nil _ _ _ _⟩
 subst e0
 obtain ⟨o1, o2⟩ := Sm hq.out.symm
 obtain ⟨n64, bf⟩ := Kr o1
 obtain ⟨m64, bg⟩ := Kr o2
 obtain ⟨s1, z1⟩ := P2 o1
 obtain ⟨s2, _⟩ := P2 o2
 have hE2 : Hid (Ja sg f n g m = if Jo sg (Yu f n g m) then (if 64 < (Jw sg (Yu f n g m)).length then 3 else 0) else 6) := by unfold Hid Ja; rw [if_neg (by rw [← hq.out]; simp)]
 have hL3 : Hid (Ja sg f n g m = 0 → Yn sg f n g m = Jw sg (Yu f n g m)) := fun h => by unfold Yn; rw [if_pos h]
 have hV : Hid (Wo sg (Qu f n) (Qu g m) (Z6 (n + m) (Qu f n) (Qu g m)) [] = if Jo sg (Yu f n g m) then (Jw sg (Yu f n g m), true) else ([], false)) := by
  unfold Hid
  rw [Vu _ _ _ z1, Be s1 s2 z1 _ _ (V8 _ _ _ s1 s2)]
  rfl
 have A1 := fun s => Te (Bv bf) s
 have A2 := fun s => Te (Bv bg) s
 have NG := fun w hT hS => Er T n cap f S m cm g w hT n64 hS m64
 have NA := fun s w h => Tp T n cap f s w h hn
 have NB := fun s w h => Tp S m cm g s w h hm
 have hGl := Kc (n + m) (Qu f n) (Qu g m)
 clear o1 o2 hq bf bg s1 s2 z1
 generalize Z6 (n + m) (Qu f n) (Qu g m) = G at *
 generalize Yu f n g m = M at *
 generalize Qu f n = la at *
 generalize Qu g m = lb at *
 obtain ⟨V, hV0⟩ := Qg (Wo sg la lb G [])
 rw [← hV0] at hV
 have hV1 : Hid (V = Wo sg la lb (G.drop 0) []) := hV0
 clear hV0
 go_upto_region 6 with (first | (go_at_call 122; (with_reducible refine Calls.mono (N2) ?_); rintro e w1 ⟨rfl, h1⟩) | (go_at_call 123; (with_reducible refine Calls.mono (NG _ (hT.ext h1) (hS.ext h1)) ?_); rintro e w2 ⟨FG, cg, rfl, h2, hown⟩))
 obtain ⟨F', c', hf, RG⟩ := Qen rfl hown
 obtain ⟨rfl, rfl⟩ : FG = F' ∧ cg = c' := by simpa using hf
 have E2 := h1.trans h2
 have hb0 := E2.size
 have T2 := hT.ext E2
 have S2 := hS.ext E2
 clear hf hown NG N2 h1 h2 hT hS
 go_upto_region 7 with (fail)
 go_loopw [9, 11] (fun ov iv wr => ∃ k : Nat, k ≤ G.length ∧ iv = .int .i64 k ∧ ∃ o : List Lt, Qa w2 wr ∧ wr.ownsRow w2.heap.size 68 2 ov o.length (o.flatMap Jd) ∧ o.length ≤ k ∧ Hid (V = Wo sg la lb (G.drop k) o)) (fun _ iv _ => G.length - (intOf iv).toNat)
 case atStart => exact ⟨0, Nat.zero_le _, rfl, [], Qa.refl _, World.ownsRow_nil _ _ _ _, Nat.le_refl _, hV1⟩
 case round =>
  clear hV1
  obtain ⟨k, hk, rfl, o, hE, hO, hol, hV2⟩ := hrel
  obtain ⟨wo, rfl⟩ := Qg wr
  by_cases hlt : k < G.length
  ·obtain ⟨b, off, rfl, hb, hc⟩ := (RG.ext hE) (by omega)
   have c0 : wo.cell? ⟨b, off + k, none⟩ = some (.string (G.getD k ⟨#[]⟩)) := by simpa [U9] using hc k 0 _ hlt rfl
   have hd : G.drop k = G.getD k ⟨#[]⟩ :: G.drop (k + 1) := by
    rw [List.drop_eq_getElem_cons hlt]
    simp [List.getD_eq_getElem?_getD, hlt]
   have hV3 : Hid (V = Wo sg la lb (G.getD k ⟨#[]⟩ :: G.drop (k + 1)) o) := by unfold Hid; rw [← hd]; exact hV2.out
   clear hc hd hV2 RG
   generalize G.getD k ⟨#[]⟩ = s at *
   have a1 := A1 s
   have a2 := A2 s
   have NAs := fun w h => NA s w h
   have NBs := fun w h => NB s w h
   have hV4 : Hid (V = if 1099511627776 < Z9 la s + sg * Z9 lb s ∨ Z9 la s + sg * Z9 lb s < -1099511627776 then ([], false) else Wo sg la lb (G.drop (k + 1)) (if Z9 la s + sg * Z9 lb s = 0 then o else o ++ [⟨s, Z9 la s + sg * Z9 lb s⟩])) := hV3
   clear hV3 A1 A2 NA NB
   generalize Z9 la s = x at *
   generalize Z9 lb s = y at *
   have v1 : IntKind.i64.wrap (sg * y) = sg * y := by rcases hsg with rfl | rfl <;> exact Zr (by omega) (by omega)
   have v2 : IntKind.i64.wrap (x + sg * y) = x + sg * y := by rcases hsg with rfl | rfl <;> exact Zr (by omega) (by omega)
   clear a1 a2
   generalize hy : sg * y = y' at *
   have T3 := T2.ext hE
   have S3 := S2.ext hE
   clear T2 S2
   go_upto_region 9 with (fail)
   refine Q8 wo Qm (by kernel_rfl) (by repeat (first | exact Qa.refl _ | (refine Qa.alloc ?_ _) | (refine Qa.trans ?_ (by assumption)))) ?_
   intro hne hrx hry
   try simp only []
   try simp only [List.append_eq, List.cons_append, List.nil_append]
   skip
   repeat (first
    | go_big_quiet_skip
    | (go_big_quiet_want; go_big_quiet_op; go_big_quiet_on)
    | (go_big_quiet_want; go_big_quiet_op; apply Exists.intro; refine ⟨fun u => ?_, ?_⟩
       ·first
         | (go_at_call 124; (with_reducible refine Calls.mono (NAs _ (T3.ext u.e)) ?_); rintro e w' ⟨rfl, hb⟩; exact ⟨rfl, u.back hb⟩)
         | (go_at_call 124; (with_reducible refine Calls.mono (NBs _ (S3.ext u.e)) ?_); rintro e w' ⟨rfl, hb⟩; exact ⟨rfl, u.back hb⟩)
       go_big_quiet_on))
   clear hne hry hrx
   refine wpQuiet_nil ?_
   intro w3 h3
   obtain ⟨hcw3, hfw3, hzw3⟩ := Qa.rules h3
   try simp only [World.size_alloc] at hzw3
   obtain ⟨hcbw3, hfbw3, hzbw3⟩ := Qa.rules (show Qa wo w3 from (by repeat (first | exact Qa.refl _ | (refine Qa.alloc ?_ _) | (refine Qa.trans ?_ (by assumption)))))
   clear hcw3 hfw3
   clear NAs NBs T3 S3 hy v1 v2
   generalize x + y' = z at *
   by_cases z1 : 1099511627776 < z
   ·have g1 : decide (1099511627776 < z) = true := decide_eq_true z1
    have hv := hV4.out
    rw [if_pos (.inl z1)] at hv
    have hbad : Hid (Jo sg M = false) := by
     unfold Hid
     cases ha : Jo sg M
     ·rfl
     ·have := hV.out
      rw [ha, hv] at this
      simp at this
    have hE6 : Hid (Ja sg f n g m = 6) := by unfold Hid; rw [hE2.out, hbad.out]; rfl
    have hL6 := Lib.hid (U4 hE6.out (by decide))
    clear hV4 hV hv hbad hE2 hL3 z1
    go_wp2
    go_ret2
    exact ⟨none, 0, 0, by rw [hE6.out]; rfl, (E2.trans hE).trans h3, by rw [hL6.out]; exact World.ownsRow_nil _ _ _ _⟩
   have g1 : decide (1099511627776 < z) = false := decide_eq_false z1
   by_cases z2 : z < -1099511627776
   ·have g2 : decide (z < -1099511627776) = true := decide_eq_true z2
    have hv := hV4.out
    rw [if_pos (.inr z2)] at hv
    have hbad : Hid (Jo sg M = false) := by
     unfold Hid
     cases ha : Jo sg M
     ·rfl
     ·have := hV.out
      rw [ha, hv] at this
      simp at this
    have hE6 : Hid (Ja sg f n g m = 6) := by unfold Hid; rw [hE2.out, hbad.out]; rfl
    have hL6 := Lib.hid (U4 hE6.out (by decide))
    clear hV4 hV hv hbad hE2 hL3 z1 z2
    go_wp2
    go_ret2
    exact ⟨none, 0, 0, by rw [hE6.out]; rfl, (E2.trans hE).trans h3, by rw [hL6.out]; exact World.ownsRow_nil _ _ _ _⟩
   have g2 : decide (z < -1099511627776) = false := decide_eq_false z2
   have hv := hV4.out
   rw [if_neg (by omega)] at hv
   have hV5 := Lib.hid hv
   clear hV4 hv z1 z2
   by_cases z0 : z = 0
   ·subst z0
    have hv := hV5.out
    rw [if_pos rfl] at hv
    have hV6 := Lib.hid hv
    clear hv hV5 hV hE2 hL3
    replace hO := Q5 hO h3
    go_wp2
    exact ⟨⟨k + 1, by omega, by go_num, o, hE.trans h3, hO, by omega, hV6⟩, by simp [intOf]; omega⟩
   ·have gz : (z == 0) = false := beq_eq_false_iff_ne.2 z0
    have hv := hV5.out
    rw [if_neg z0] at hv
    have hV6 := Lib.hid hv
    clear hv hV5 hV hE2 hL3
    replace hO := Q5 hO h3
    obtain ⟨F5, m5, rfl⟩ := Z5 hO
    replace hE := hE.trans h3
    go_upto_region 8 with (at_builtin; refine wpList_append_own_at _ rfl _ _ 28 rfl w2.heap.size 68 i0 (.agg #[.string ⟨#[]⟩, .int .i64 0]) 2 24 Tryz.underlying28 hi hz0 hz1 hz2 rfl (by decide) _ _ _ rfl (hO.alloc _) ⟨w3.heap.size, 0, none⟩ 1 1 [.string s, .int .i64 z] rfl rfl (Xy _ _ _) (I0 _ _) (by unfold maxLen; omega) (by omega) (by have := hE.size; simp; omega) ?_; intro o' w5 hown hgrow _ _)
    have E5 : Qa w2 w5 := (hE.alloc _).grown hgrow (fun q hq => (hO.lt q hq).1)
    rw [Qaa] at hown
    clear hgrow hO hE
    go_wp2
    exact ⟨⟨k + 1, by omega, by go_num, o ++ [⟨s, z⟩], E5, by simpa using hown, by simp; omega, hV6⟩, by simp [intOf]; omega⟩
  ·obtain rfl : k = G.length := by omega
   have hv : V = (o, true) := by rw [hV2.out, List.drop_length]; rfl
   have hall : Jo sg M = true := by
    cases ha : Jo sg M
    ·have := hV.out
     rw [ha, hv] at this
     simp at this
    ·rfl
   have ho : Jw sg M = o := by
    have := hV.out
    rw [hall, hv] at this
    simpa using this.symm
   rw [hall, if_pos rfl, ho] at hE2
   rw [ho] at hL3
   clear hV hV2 hall hv ho RG T2 S2 NA NB A1 A2
   obtain ⟨F5, m5, rfl⟩ := Z5 hO
   by_cases h64 : 64 < o.length
   ·have d1 : decide (64 < o.length) = true := decide_eq_true h64
    have d1' : decide ((64 : Int) < (o.length : Int)) = true := decide_eq_true (by omega)
    have hE3 : Hid (Ja sg f n g m = 3) := by unfold Hid; rw [hE2.out, if_pos h64]
    have hL6 := Lib.hid (U4 hE3.out (by decide))
    clear hE2 hL3 h64
    go_wp2
    go_ret2
    exact ⟨none, 0, 0, by rw [hE3.out]; rfl, E2.trans hE, by rw [hL6.out]; exact World.ownsRow_nil _ _ _ _⟩
   ·have d1 : decide (64 < o.length) = false := decide_eq_false h64
    have d1' : decide ((64 : Int) < (o.length : Int)) = false := decide_eq_false (by omega)
    have hE3 : Hid (Ja sg f n g m = 0) := by unfold Hid; rw [hE2.out, if_neg h64]
    have hL6 := Lib.hid (hL3.out hE3.out)
    clear hE2 hL3 h64
    go_wp2
    go_ret2
    exact ⟨F5, _, m5, by rw [hE3.out]; rfl, E2.trans hE, by rw [hL6.out]; exact World.ownsRow.mono hO hb0⟩
theorem Qbm (T : Option Addr) (n cap : Nat) (f : Nat → Lt) (S : Option Addr) (m cm : Nat) (g : Nat → Lt) (w : World) (hT : Qk w T n 2 (Qz f)) (hcap : n ≤ cap) (hn : n ≤ 9223372036854775807) (hS : Qk w S m 2 (Qz g)) (hcm : m ≤ cm) (hm : m ≤ 9223372036854775807) :
  Calls Tryz.prog 57 #[.slice T n cap, .slice S m cm] w fun e w' => ∃ F k c, e = .returned (.tuple #[.slice F k c, .int .i64 (Ja 1 f n g m)]) ∧ Qa w w' ∧ w'.ownsRow w.heap.size 68 2 (.slice F k c) k ((Yn 1 f n g m).flatMap Jd) := by
 have NC := Ci T n cap f S m cm g 1 (by decide) w hT hcap hn hS hcm hm
 generalize Ja 1 f n g m = E at *
 generalize Yn 1 f n g m = L at *
 go_enter Tryz.func57, Tryz.ntmps57
 go_wp2_with (go_at_call 89; (with_reducible refine Calls.mono (NC) ?_); rintro e w1 ⟨F, k, c, rfl, h1, ho⟩)
 go_ret2
 exact ⟨F, k, c, rfl, h1, ho⟩
theorem Ek (T : Option Addr) (n cap : Nat) (f : Nat → Lt) (S : Option Addr) (m cm : Nat) (g : Nat → Lt) (w : World) (hT : Qk w T n 2 (Qz f)) (hcap : n ≤ cap) (hn : n ≤ 9223372036854775807) (hS : Qk w S m 2 (Qz g)) (hcm : m ≤ cm) (hm : m ≤ 9223372036854775807) :
  Calls Tryz.prog 68 #[.slice T n cap, .slice S m cm] w fun e w' => ∃ F k c, e = .returned (.tuple #[.slice F k c, .int .i64 (Ja (-1) f n g m)]) ∧ Qa w w' ∧ w'.ownsRow w.heap.size 68 2 (.slice F k c) k ((Yn (-1) f n g m).flatMap Jd) := by
 have NC := Ci T n cap f S m cm g (-1) (by decide) w hT hcap hn hS hcm hm
 generalize Ja (-1) f n g m = E at *
 generalize Yn (-1) f n g m = L at *
 go_enter Tryz.func68, Tryz.ntmps68
 go_wp2_with (go_at_call 89; (with_reducible refine Calls.mono (NC) ?_); rintro e w1 ⟨F, k, c, rfl, h1, ho⟩)
 go_ret2
 exact ⟨F, k, c, rfl, h1, ho⟩
def Rt.neg (r : Rt) : Rt := ⟨-r.n, r.d⟩
section
variable {W : World} {b : Nat} {t : TypeId} {v0 v1 v2 : Value}
end
end
end Go.Proofs.YtneiofnlmblglaaGreatDoor
