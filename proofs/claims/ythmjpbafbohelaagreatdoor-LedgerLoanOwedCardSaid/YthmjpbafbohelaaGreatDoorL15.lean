/- Walks of the program's functions and plain facts, packed; proved: the lemmas below; no conditions but those that each states. -/
import Derived.Test.YthmjpbafbohelaaGreatDoorL13
import Derived.Test.YthmjpbafbohelaaGreatDoorL8
import Derived.Test.YthmjpbafbohelaaGreatDoorL14
import Derived.Test.YthmjpbafbohelaaGreatDoorL12
import Derived.Test.YthmjpbafbohelaaGreatDoorL9
set_option maxRecDepth 100000
set_option maxHeartbeats 4000000
namespace Go.Proofs.YthmjpbafbohelaaGreatDoor
open Go Go.RowKit Go.Shelf
attribute [local go_sem] gv_yes
/-- A slice value that reads as a list of lots. -/
def LotsAt (w : World) (v : Value) (l : List Lt) : Prop := ∃ A cap, v = .slice A l.length cap ∧ RowsAt w A l.length 2 (lotr (ofL l)) ∧ l.length ≤ cap ∧ cap ≤ maxLen ∧ (A = none → l.length = 0 ∧ cap = 0)
theorem LotsAt.ext {w w' : World} {v : Value} {l : List Lt} (h : LotsAt w v l) (e : Ext w w') : LotsAt w' v l := by
 obtain ⟨A, cap, h1, h2, h3⟩ := h
 exact ⟨A, cap, h1, h2.ext e, h3⟩
def dealr (d : Dl) (v : Value) : List Value := [.int .i64 d.on.y, .int .i64 d.on.m, .bool d.on.s, .int .i64 d.on.d, .bool d.i, .string d.w, v]
/-- A slice value that reads as a list of deals. -/
def DealsAt (w : World) (v : Value) (l : List Dl) : Prop := ∃ D cap, ∃ vs : Nat → Value, v = .slice D l.length cap ∧ RowsAt w D l.length 7 (fun i => dealr (l.getD i zDl) (vs i)) ∧ l.length ≤ cap ∧ cap ≤ maxLen ∧ (D = none → l.length = 0 ∧ cap = 0) ∧ ∀ i, i < l.length → LotsAt w (vs i) (l.getD i zDl).l
theorem DealsAt.ext {w w' : World} {v : Value} {l : List Dl} (h : DealsAt w v l) (e : Ext w w') : DealsAt w' v l := by
 obtain ⟨D, cap, vs, h1, h2, h3, h4, h5, h6⟩ := h
 exact ⟨D, cap, vs, h1, h2.ext e, h3, h4, h5, fun i hi => (h6 i hi).ext e⟩
structure PerAt (w : World) (p : Pd) (vo vd vc : Value) : Prop where
 o : LotsAt w vo p.o
 d : DealsAt w vd p.d
 c : LotsAt w vc p.c
theorem PerAt.ext {w w' : World} {p : Pd} {vo vd vc : Value} (h : PerAt w p vo vd vc) (e : Ext w w') : PerAt w' p vo vd vc := ⟨h.o.ext e, h.d.ext e, h.c.ext e⟩
theorem any_ofL (l : List Lt) : ((List.range l.length).any fun j => decide ((ofL l j).n < 0)) = l.any fun x => decide (x.n < 0) := by
 conv => rhs; rw [← lotsL_ofL l]
 unfold lotsL
 rw [List.any_map]; rfl
section
variable {W : World} {b : Nat} {t : TypeId} {v0 v1 v2 v3 v4 v5 v6 v7 v8 v9 v10 v11 : Value}
theorem held_c7 (h : Held W b t #[v0, v1, v2, v3, v4, v5, v6]) : W.cell? ⟨b, 0, none⟩ = some v0 ∧ W.cell? ⟨b, 1, none⟩ = some v1 ∧ W.cell? ⟨b, 2, none⟩ = some v2 ∧ W.cell? ⟨b, 3, none⟩ = some v3 ∧ W.cell? ⟨b, 4, none⟩ = some v4 ∧ W.cell? ⟨b, 5, none⟩ = some v5 ∧ W.cell? ⟨b, 6, none⟩ = some v6 := ⟨h.cell 0, h.cell 1, h.cell 2, h.cell 3, h.cell 4, h.cell 5, h.cell 6⟩
theorem Held.c12 (h : Held W b t #[v0, v1, v2, v3, v4, v5, v6, v7, v8, v9, v10, v11]) : W.cell? ⟨b, 0, none⟩ = some v0 ∧ W.cell? ⟨b, 1, none⟩ = some v1 ∧ W.cell? ⟨b, 2, none⟩ = some v2 ∧ W.cell? ⟨b, 3, none⟩ = some v3 ∧ W.cell? ⟨b, 4, none⟩ = some v4 ∧ W.cell? ⟨b, 5, none⟩ = some v5 ∧ W.cell? ⟨b, 6, none⟩ = some v6 ∧ W.cell? ⟨b, 7, none⟩ = some v7 ∧ W.cell? ⟨b, 8, none⟩ = some v8 ∧ W.cell? ⟨b, 9, none⟩ = some v9 ∧ W.cell? ⟨b, 10, none⟩ = some v10 ∧ W.cell? ⟨b, 11, none⟩ = some v11 := ⟨h.cell 0, h.cell 1, h.cell 2, h.cell 3, h.cell 4, h.cell 5, h.cell 6, h.cell 7, h.cell 8, h.cell 9, h.cell 10, h.cell 11⟩
end
theorem given1_any (l : Lt) (w : World) :
  Calls Tryz.prog 185 #[.agg #[.string l.g, .int .i64 l.n]] w fun e w' => e = .returned (.bool (decide (l.n < 0))) ∧ Ext w w' := by
 go_enter Tryz.func185, Tryz.ntmps185
 go_upto_region 1 with (fail)
 obtain ⟨v, hv⟩ := zgE (w.alloc (.cells #[.string l.g, .int .i64 l.n] 122))
 rw [← hv]
 have E : Ext w v := by rw [hv]; exact (Ext.refl _).alloc _
 have B1 : Held v w.heap.size 122 #[.string l.g, .int .i64 l.n] := by rw [hv]; exact Held.new _ _ _
 clear hv
 generalize w.heap.size = b1 at *
 obtain ⟨k0, k1⟩ := B1.c2
 have lk := B1.lt
 go_wp2
 go_ret
 exact ⟨rfl, E⟩
theorem indexL_any (A : Option Addr) (n cap : Nat) (f : Nat → Lt) (w : World) (hA : RowsAt w A n 2 (lotr f)) (hn : n ≤ 9223372036854775807) :
  Calls Tryz.prog 186 #[.slice A n cap, .func (.func 185) #[] #[]] w fun e w' => ∃ r : Int, e = .returned (.int .i64 r) ∧ decide (0 ≤ r) = ((List.range n).any fun j => decide ((f j).n < 0)) ∧ Ext w w' := by
 go_enter Tryz.func186, Tryz.ntmps186
 go_wp2
 go_loopw [8] (fun iv wr => ∃ k : Nat, k ≤ n ∧ iv = .int .i64 (k : Int) ∧ Hid (∀ j, j < k → decide ((f j).n < 0) = false) ∧ Ext w wr) (fun iv _ => n - (intOf iv).toNat)
 case atStart => exact ⟨0, Nat.zero_le _, rfl, fun j h => absurd h (by omega), Ext.refl _⟩
 case round =>
  obtain ⟨k, hk0, rfl, hno, hE⟩ := hrel
  obtain ⟨wo, rfl⟩ := zgE wr
  by_cases hlt : k < n
  ·obtain ⟨b, off, hAA, hb, hc⟩ := (hA.ext hE) (by omega)
   subst hAA
   have c0 : wo.cell? ⟨b, off + k * 2, none⟩ = some (.string (f k).g) := by simpa [lotr] using hc k 0 _ hlt rfl
   have c1 : wo.cell? ⟨b, off + k * 2 + 1, none⟩ = some (.int .i64 (f k).n) := by simpa [lotr] using hc k 1 _ hlt rfl
   have NP := given1_any (f k) wo
   clear hc hA
   generalize hq : decide ((f k).n < 0) = q at *
   have HQ := Lib.hid hq
   clear hq
   cases q
   ·go_wp2_with (first | (go_at_call 185; (with_reducible refine Calls.mono (NP) ?_); rintro e w4 ⟨rfl, h⟩) | (go_at_fn 185; (with_reducible refine Calls.mono (NP) ?_); rintro e w4 ⟨rfl, h⟩))
    exact ⟨⟨k + 1, by omega, by go_num, fun j hj => by
     by_cases e : j = k
     ·subst e; exact HQ.out
     ·exact hno.out j (by omega), hE.trans h⟩, by simp [intOf]; omega⟩
   ·go_wp2_with (first | (go_at_call 185; (with_reducible refine Calls.mono (NP) ?_); rintro e w4 ⟨rfl, h⟩) | (go_at_fn 185; (with_reducible refine Calls.mono (NP) ?_); rintro e w4 ⟨rfl, h⟩))
    go_ret
    exact ⟨_, rfl, by rw [decide_eq_true (by omega)]; exact (List.any_eq_true.2 ⟨k, by simpa using hlt, HQ.out⟩).symm, hE.trans h⟩
  ·obtain rfl : k = n := by omega
   go_wp2
   go_ret
   exact ⟨_, rfl, by rw [decide_eq_false (by omega)]; exact (List.any_eq_false.2 (fun j hj => by have := hno.out j (by simpa using hj); simpa using this)).symm, hE⟩
theorem containsL_any (A : Option Addr) (n cap : Nat) (f : Nat → Lt) (w : World) (hA : RowsAt w A n 2 (lotr f)) (hn : n ≤ 9223372036854775807) :
  Calls Tryz.prog 184 #[.slice A n cap, .func (.func 185) #[] #[]] w fun e w' => e = .returned (.bool ((List.range n).any fun j => decide ((f j).n < 0))) ∧ Ext w w' := by
 have NI := indexL_any A n cap f w hA hn
 go_enter Tryz.func184, Tryz.ntmps184
 go_wp2_with (go_at_call 186; (with_reducible refine Calls.mono (NI) ?_); rintro e w4 ⟨r, rfl, hr, h⟩)
 go_ret
 exact ⟨by rw [← hr]; rfl, h⟩
theorem given_any (v : Value) (l : List Lt) (w : World) (hL : LotsAt w v l) :
  Calls Tryz.prog 170 #[v] w fun e w' => e = .returned (.bool (givenV l)) ∧ Ext w w' := by
 obtain ⟨T, cap, rfl, hT, hcap, hmax, _⟩ := hL
 have hn : l.length ≤ 9223372036854775807 := Nat.le_trans hcap (Nat.le_trans hmax (by decide))
 have N1 := checkLots_any T l.length cap (ofL l) w hT hcap hn
 have N2 := fun w h => containsL_any T l.length cap (ofL l) w h hn
 rw [any_ofL] at N2
 have HR : Hid (givenV l = (decide (0 < l.length) && decide (lotsE (ofL l) l.length = 0) && !(l.any fun x => decide (x.n < 0)))) := rfl
 generalize givenV l = r at *
 generalize (l.any fun x => decide (x.n < 0)) = an at *
 generalize lotsE (ofL l) l.length = e1 at *
 generalize l.length = n at *
 by_cases h0 : 0 < n
 ·have d0 : decide ((0 : Int) < (n : Int)) = true := decide_eq_true (by omega)
  have d0' : decide (0 < n) = true := decide_eq_true h0
  by_cases hz : e1 = 0
  ·subst hz
   have hr : r = !an := by rw [HR.out, d0']; rfl
   clear HR
   subst hr
   cases an
   all_goals
    go_enter Tryz.func170, Tryz.ntmps170
    go_wp2_with (first | (go_at_call 169; (with_reducible refine Calls.mono (N1) ?_); rintro e w1 ⟨rfl, h1⟩) | (go_at_call 184; (with_reducible refine Calls.mono (N2 _ (hT.ext h1)) ?_); rintro e w2 ⟨rfl, h2⟩))
    go_ret
    exact ⟨rfl, h1.trans h2⟩
  ·have g0 : (e1 == 0) = false := beq_eq_false_iff_ne.2 hz
   have hr : r = false := by rw [HR.out, d0', decide_eq_false hz]; rfl
   clear HR hz
   subst hr
   go_enter Tryz.func170, Tryz.ntmps170
   go_wp2_with (go_at_call 169; (with_reducible refine Calls.mono (N1) ?_); rintro e w1 ⟨rfl, h1⟩)
   go_ret
   exact ⟨rfl, h1⟩
 ·have d0 : decide ((0 : Int) < (n : Int)) = false := decide_eq_false (by omega)
  have d0' : decide (0 < n) = false := decide_eq_false h0
  have hr : r = false := by rw [HR.out, d0']; rfl
  clear HR
  subst hr
  go_enter Tryz.func170, Tryz.ntmps170
  go_wp2
  go_ret
  exact ⟨rfl, Ext.refl _⟩
theorem lots_rows {w : World} {T : Option Addr} {cap : Nat} {l : List Lt} (h : LotsAt w (.slice T l.length cap) l) : RowsAt w T l.length 2 (lotr (ofL l)) := by
 obtain ⟨A, cap', e, h2, _⟩ := h
 cases e
 exact h2
theorem period_any (A A' : Option Addr) (ca cb : Nat) (c : Cal) (p : Pd) (vo vd vc : Value) (w : World) (hC : CalAt w A ca A' cb c) (hP : PerAt w p vo vd vc) :
  Calls Tryz.prog 155 #[.agg #[.slice A c.nk ca, .slice A' c.ny cb], .agg #[.string p.h, .int .i64 p.a.y, .int .i64 p.a.m, .bool p.a.s, .int .i64 p.a.d, .int .i64 p.b.y, .int .i64 p.b.m, .bool p.b.s, .int .i64 p.b.d, vo, vd, vc]] w fun e w' => e = .returned (.bool (c.perOk p)) ∧ Ext w w' := by
 obtain ⟨R, hR0⟩ := zgE (c.perOk p)
 rw [← hR0]
 have HR := Lib.hid hR0
 clear hR0
 have NS := fun w h => span_any A A' ca cb c p.a p.b w h
 go_enter Tryz.func155, Tryz.ntmps155
 go_upto_region 1 with (fail)
 obtain ⟨v, hv⟩ := zgE ((w.alloc (.cells #[.slice A c.nk ca, .slice A' c.ny cb] 108)).alloc (.cells #[.string p.h, .int .i64 p.a.y, .int .i64 p.a.m, .bool p.a.s, .int .i64 p.a.d, .int .i64 p.b.y, .int .i64 p.b.m, .bool p.b.s, .int .i64 p.b.d, vo, vd, vc] 45))
 rw [← hv]
 have E : Ext w v := by rw [hv]; exact ((Ext.refl _).alloc _).alloc _
 have B1 : Held v w.heap.size 108 #[.slice A c.nk ca, .slice A' c.ny cb] := by rw [hv]; exact (Held.new _ _ _).alloc _
 have B2 : Held v (w.heap.size + 1) 45 #[.string p.h, .int .i64 p.a.y, .int .i64 p.a.m, .bool p.a.s, .int .i64 p.a.d, .int .i64 p.b.y, .int .i64 p.b.m, .bool p.b.s, .int .i64 p.b.d, vo, vd, vc] := by rw [hv]; exact Held.at _ _ _ _ (by simp)
 clear hv
 obtain ⟨b2, hb2⟩ := zgE (w.heap.size + 1)
 rw [← hb2] at B2 ⊢
 obtain ⟨b1, hb1⟩ := zgE (w.heap.size)
 rw [← hb1] at B1 ⊢
 have hbr : w.heap.size ≤ b2 := by omega
 have hbr1 : w.heap.size ≤ b1 := by omega
 have hn21 : b2 ≠ b1 := by omega
 clear hb1 hb2
 have C := hC.ext E
 have P := hP.ext E
 clear hC hP
 obtain ⟨TO, co, rfl, _, co1, co2, _⟩ := P.o
 obtain ⟨TC, cc, rfl, _, cc1, cc2, _⟩ := P.c
 obtain ⟨TD, cd, vs, rfl, _, cd1, cd2, _, _⟩ := P.d
 have no : p.o.length ≤ 9223372036854775807 := Nat.le_trans co1 (Nat.le_trans co2 (by decide))
 have nc : p.c.length ≤ 9223372036854775807 := Nat.le_trans cc1 (Nat.le_trans cc2 (by decide))
 have nd : p.d.length ≤ 9223372036854775807 := Nat.le_trans cd1 (Nat.le_trans cd2 (by decide))
 have KO := fun w h => checkLots_any TO p.o.length co (ofL p.o) w h co1 no
 have KC := fun w h => checkLots_any TC p.c.length cc (ofL p.c) w h cc1 nc
 clear co1 co2 cc1 cc2 cd1 cd2
 have HH : Hid (c.perHead p = (isName p.h && c.spanV p.a p.b && decide (lotsE (ofL p.o) p.o.length = 0) && decide (lotsE (ofL p.c) p.c.length = 0) && decide (p.d.length ≤ 64))) := rfl
 have hbad : Hid (c.perHead p = false → R = false) := fun h => by rw [HR.out]; exact per_head h
 obtain ⟨nm, hnm⟩ := zgE (isName p.h)
 have NN := fun w => isName_any p.h w
 rw [← hnm] at HH NN
 replace hnm := Lib.hid hnm
 have NSP : Hid (c.spanV p.a p.b = _) := show c.spanV p.a p.b = (decide (0 < c.numV p.a) && decide (c.numV p.a ≤ c.numV p.b)) from rfl
 unfold Cal.spanV at HH
 generalize (decide (0 < c.numV p.a) && decide (c.numV p.a ≤ c.numV p.b)) = sp at *
 clear NSP
 obtain ⟨eo, heo⟩ := zgE (lotsE (ofL p.o) p.o.length)
 rw [← heo] at HH KO
 replace heo := Lib.hid heo
 obtain ⟨ec, hec⟩ := zgE (lotsE (ofL p.c) p.c.length)
 rw [← hec] at HH KC
 replace hec := Lib.hid hec
 obtain ⟨k0, k1⟩ := B1.c2
 have lk := B1.lt
 obtain ⟨p0, p1, p2, p3, p4, p5, p6, p7, p8, p9, p10, p11⟩ := B2.c12
 have lp := B2.lt
 by_cases hz : nm = false
 ·have hr := hbad.out (by rw [HH.out, hz]; rfl)
  subst hz
  clear HH hbad HR NS KO KC hnm heo hec
  go_wp2_with (go_at_call 167; (with_reducible refine Calls.mono (NN _) ?_); rintro e wn ⟨rfl, rfl⟩)
  go_ret
  exact ⟨by rw [hr]; rfl, E⟩
 obtain rfl : nm = true := by simpa using hz
 clear hz
 by_cases hz : sp = false
 ·have hr := hbad.out (by rw [HH.out, hz]; rfl)
  subst hz
  clear HH hbad HR KO KC hnm heo hec
  go_wp2_with (first | (go_at_call 167; (with_reducible refine Calls.mono (NN _) ?_); rintro e wn ⟨rfl, rfl⟩) | (go_at_call 65; (with_reducible refine Calls.mono (NS _ C) ?_); rintro e w1 ⟨rfl, h1⟩; replace E := E.trans h1; replace C := C.ext h1; replace P := P.ext h1; replace B1 := B1.ext h1; replace B2 := B2.ext h1; clear h1 k0 k1 lk p0 p1 p2 p3 p4 p5 p6 p7 p8 p9 p10 p11 lp; obtain ⟨k0, k1⟩ := B1.c2; have lk := B1.lt; obtain ⟨p0, p1, p2, p3, p4, p5, p6, p7, p8, p9, p10, p11⟩ := B2.c12; have lp := B2.lt))
  go_ret
  exact ⟨by rw [hr]; rfl, E⟩
 obtain rfl : sp = true := by simpa using hz
 clear hz
 by_cases hz : eo = 0
 rotate_left
 ·have hr := hbad.out (by rw [HH.out, decide_eq_false hz]; rfl)
  have g0 : (eo == 0) = false := beq_eq_false_iff_ne.2 hz
  have g0n : (eo != 0) = true := by rw [bne, g0]; rfl
  clear HH hbad HR KC hnm heo hec hz
  go_wp2_with (first | (go_at_call 167; (with_reducible refine Calls.mono (NN _) ?_); rintro e wn ⟨rfl, rfl⟩) | (go_at_call 65; (with_reducible refine Calls.mono (NS _ C) ?_); rintro e w1 ⟨rfl, h1⟩; replace E := E.trans h1; replace C := C.ext h1; replace P := P.ext h1; replace B1 := B1.ext h1; replace B2 := B2.ext h1; clear h1 k0 k1 lk p0 p1 p2 p3 p4 p5 p6 p7 p8 p9 p10 p11 lp; obtain ⟨k0, k1⟩ := B1.c2; have lk := B1.lt; obtain ⟨p0, p1, p2, p3, p4, p5, p6, p7, p8, p9, p10, p11⟩ := B2.c12; have lp := B2.lt) | (go_at_call 169; (with_reducible refine Calls.mono (KO _ (lots_rows P.o)) ?_); rintro e w2 ⟨rfl, h1⟩; replace E := E.trans h1; replace C := C.ext h1; replace P := P.ext h1; replace B1 := B1.ext h1; replace B2 := B2.ext h1; clear h1 k0 k1 lk p0 p1 p2 p3 p4 p5 p6 p7 p8 p9 p10 p11 lp; obtain ⟨k0, k1⟩ := B1.c2; have lk := B1.lt; obtain ⟨p0, p1, p2, p3, p4, p5, p6, p7, p8, p9, p10, p11⟩ := B2.c12; have lp := B2.lt))
  go_ret
  exact ⟨by rw [hr]; rfl, E⟩
 subst hz
 by_cases hz : ec = 0
 rotate_left
 ·have hr := hbad.out (by rw [HH.out, decide_eq_false hz, Bool.and_false]; rfl)
  have g0 : (ec == 0) = false := beq_eq_false_iff_ne.2 hz
  have g0n : (ec != 0) = true := by rw [bne, g0]; rfl
  clear HH hbad HR hnm heo hec hz
  go_wp2_with (first | (go_at_call 167; (with_reducible refine Calls.mono (NN _) ?_); rintro e wn ⟨rfl, rfl⟩) | (go_at_call 65; (with_reducible refine Calls.mono (NS _ C) ?_); rintro e w1 ⟨rfl, h1⟩; replace E := E.trans h1; replace C := C.ext h1; replace P := P.ext h1; replace B1 := B1.ext h1; replace B2 := B2.ext h1; clear h1 k0 k1 lk p0 p1 p2 p3 p4 p5 p6 p7 p8 p9 p10 p11 lp; obtain ⟨k0, k1⟩ := B1.c2; have lk := B1.lt; obtain ⟨p0, p1, p2, p3, p4, p5, p6, p7, p8, p9, p10, p11⟩ := B2.c12; have lp := B2.lt) | (go_at_call 169; (with_reducible refine Calls.mono (KO _ (lots_rows P.o)) ?_); rintro e w2 ⟨rfl, h1⟩; replace E := E.trans h1; replace C := C.ext h1; replace P := P.ext h1; replace B1 := B1.ext h1; replace B2 := B2.ext h1; clear h1 k0 k1 lk p0 p1 p2 p3 p4 p5 p6 p7 p8 p9 p10 p11 lp; obtain ⟨k0, k1⟩ := B1.c2; have lk := B1.lt; obtain ⟨p0, p1, p2, p3, p4, p5, p6, p7, p8, p9, p10, p11⟩ := B2.c12; have lp := B2.lt) | (go_at_call 169; (with_reducible refine Calls.mono (KC _ (lots_rows P.c)) ?_); rintro e w3 ⟨rfl, h1⟩; replace E := E.trans h1; replace C := C.ext h1; replace P := P.ext h1; replace B1 := B1.ext h1; replace B2 := B2.ext h1; clear h1 k0 k1 lk p0 p1 p2 p3 p4 p5 p6 p7 p8 p9 p10 p11 lp; obtain ⟨k0, k1⟩ := B1.c2; have lk := B1.lt; obtain ⟨p0, p1, p2, p3, p4, p5, p6, p7, p8, p9, p10, p11⟩ := B2.c12; have lp := B2.lt))
  go_ret
  exact ⟨by rw [hr]; rfl, E⟩
 subst hz
 by_cases hz : p.d.length ≤ 64
 rotate_left
 ·have hr := hbad.out (by rw [HH.out, decide_eq_false hz, Bool.and_false])
  have d1 : decide ((64 : Int) < (p.d.length : Int)) = true := decide_eq_true (by omega)
  clear HH hbad HR hnm heo hec hz
  go_wp2_with (first | (go_at_call 167; (with_reducible refine Calls.mono (NN _) ?_); rintro e wn ⟨rfl, rfl⟩) | (go_at_call 65; (with_reducible refine Calls.mono (NS _ C) ?_); rintro e w1 ⟨rfl, h1⟩; replace E := E.trans h1; replace C := C.ext h1; replace P := P.ext h1; replace B1 := B1.ext h1; replace B2 := B2.ext h1; clear h1 k0 k1 lk p0 p1 p2 p3 p4 p5 p6 p7 p8 p9 p10 p11 lp; obtain ⟨k0, k1⟩ := B1.c2; have lk := B1.lt; obtain ⟨p0, p1, p2, p3, p4, p5, p6, p7, p8, p9, p10, p11⟩ := B2.c12; have lp := B2.lt) | (go_at_call 169; (with_reducible refine Calls.mono (KO _ (lots_rows P.o)) ?_); rintro e w2 ⟨rfl, h1⟩; replace E := E.trans h1; replace C := C.ext h1; replace P := P.ext h1; replace B1 := B1.ext h1; replace B2 := B2.ext h1; clear h1 k0 k1 lk p0 p1 p2 p3 p4 p5 p6 p7 p8 p9 p10 p11 lp; obtain ⟨k0, k1⟩ := B1.c2; have lk := B1.lt; obtain ⟨p0, p1, p2, p3, p4, p5, p6, p7, p8, p9, p10, p11⟩ := B2.c12; have lp := B2.lt) | (go_at_call 169; (with_reducible refine Calls.mono (KC _ (lots_rows P.c)) ?_); rintro e w3 ⟨rfl, h1⟩; replace E := E.trans h1; replace C := C.ext h1; replace P := P.ext h1; replace B1 := B1.ext h1; replace B2 := B2.ext h1; clear h1 k0 k1 lk p0 p1 p2 p3 p4 p5 p6 p7 p8 p9 p10 p11 lp; obtain ⟨k0, k1⟩ := B1.c2; have lk := B1.lt; obtain ⟨p0, p1, p2, p3, p4, p5, p6, p7, p8, p9, p10, p11⟩ := B2.c12; have lp := B2.lt))
  go_ret
  exact ⟨by rw [hr]; rfl, E⟩
 have hh : c.perHead p = true := by rw [HH.out, decide_eq_true hz]; rfl
 have HR2 : Hid (R = (List.range p.d.length).all (c.dealOk p)) := by unfold Hid; rw [HR.out]; unfold Cal.perOk; rw [hh]; rfl
 have d1 : decide ((64 : Int) < (p.d.length : Int)) = false := decide_eq_false (by omega)
 clear HH hbad HR hnm heo hec hz hh
 have NA := fun w h => day_any A A' ca cb c p.a w h
 have NB := fun w h => day_any A A' ca cb c p.b w h
 go_upto_region 3 with (first | (go_at_call 167; (with_reducible refine Calls.mono (NN _) ?_); rintro e wn ⟨rfl, rfl⟩) | (go_at_call 65; (with_reducible refine Calls.mono (NS _ C) ?_); rintro e w1 ⟨rfl, h1⟩; replace E := E.trans h1; replace C := C.ext h1; replace P := P.ext h1; replace B1 := B1.ext h1; replace B2 := B2.ext h1; clear h1 k0 k1 lk p0 p1 p2 p3 p4 p5 p6 p7 p8 p9 p10 p11 lp; obtain ⟨k0, k1⟩ := B1.c2; have lk := B1.lt; obtain ⟨p0, p1, p2, p3, p4, p5, p6, p7, p8, p9, p10, p11⟩ := B2.c12; have lp := B2.lt) | (go_at_call 169; (with_reducible refine Calls.mono (KO _ (lots_rows P.o)) ?_); rintro e w2 ⟨rfl, h1⟩; replace E := E.trans h1; replace C := C.ext h1; replace P := P.ext h1; replace B1 := B1.ext h1; replace B2 := B2.ext h1; clear h1 k0 k1 lk p0 p1 p2 p3 p4 p5 p6 p7 p8 p9 p10 p11 lp; obtain ⟨k0, k1⟩ := B1.c2; have lk := B1.lt; obtain ⟨p0, p1, p2, p3, p4, p5, p6, p7, p8, p9, p10, p11⟩ := B2.c12; have lp := B2.lt) | (go_at_call 169; (with_reducible refine Calls.mono (KC _ (lots_rows P.c)) ?_); rintro e w3 ⟨rfl, h1⟩; replace E := E.trans h1; replace C := C.ext h1; replace P := P.ext h1; replace B1 := B1.ext h1; replace B2 := B2.ext h1; clear h1 k0 k1 lk p0 p1 p2 p3 p4 p5 p6 p7 p8 p9 p10 p11 lp; obtain ⟨k0, k1⟩ := B1.c2; have lk := B1.lt; obtain ⟨p0, p1, p2, p3, p4, p5, p6, p7, p8, p9, p10, p11⟩ := B2.c12; have lp := B2.lt))
 clear NS KO KC NN
 refine wp_region_xw w3 mixed (by kernel_rfl) (by repeat (first | exact Ext.refl _ | (refine Ext.alloc ?_ _) | (refine Ext.trans ?_ (by assumption)))) ?_
 intro hne hrx hry
 try simp only []
 try simp only [List.append_eq, List.cons_append, List.nil_append]
 skip
 repeat (first
  | go_big_quiet_skip
  | (go_big_quiet_want; go_big_quiet_op; go_big_quiet_on)
  | (go_big_quiet_want; go_big_quiet_op; apply Exists.intro; refine ⟨fun u => ?_, ?_⟩
     ·first
       | (go_at_call 78; (with_reducible refine Calls.mono (NA _ (C.ext u.e)) ?_); rintro e w' ⟨rfl, hb⟩; exact ⟨rfl, u.back hb⟩)
       | (go_at_call 78; (with_reducible refine Calls.mono (NB _ (C.ext u.e)) ?_); rintro e w' ⟨rfl, hb⟩; exact ⟨rfl, u.back hb⟩)
     go_big_quiet_on))
 clear hne hry hrx
 refine wpQuiet_nil ?_
 intro vl hvl
 obtain ⟨hcvl, hfvl, hzvl⟩ := Ext.rules hvl
 try simp only [World.size_alloc] at hzvl
 obtain ⟨hcbvl, hfbvl, hzbvl⟩ := Ext.rules (show Ext w3 vl from (by repeat (first | exact Ext.refl _ | (refine Ext.alloc ?_ _) | (refine Ext.trans ?_ (by assumption)))))
 clear hcvl hfvl
 replace E := E.trans hvl
 replace C := C.ext hvl
 replace P := P.ext hvl
 replace B1 := B1.ext hvl
 replace B2 := B2.ext hvl
 clear k0 k1 lk p0 p1 p2 p3 p4 p5 p6 p7 p8 p9 p10 p11 lp NA NB
 obtain ⟨p0, p1, p2, p3, p4, p5, p6, p7, p8, p9, p10, p11⟩ := B2.c12
 have lp := B2.lt
 go_upto_region 5 with (fail)
 clear p0 p1 p2 p3 p4 p5 p6 p7 p8 p9 p10 p11 lp
 obtain ⟨n, hnl⟩ := zgE (p.d.length)
 rw [← hnl] at nd d1 HR2 ⊢
 replace hnl := Lib.hid hnl
 obtain ⟨_, _, vs', e1, hD, _, _, _, hat⟩ := P.d
 cases e1
 rw [← hnl.out] at hD hat
 replace hD : RowsAt vl TD n 7 (fun i => dealr (p.dl i) (vs' i)) := hD
 replace hat : Hid (∀ i, i < n → LotsAt vl (vs' i) (p.dl i).l) := hat
 clear P
 go_loopw [5, 52] (fun lv iv wr => ∃ k : Nat, k ≤ n ∧ iv = .int .i64 k ∧ lv = .int .i64 (c.lastD p k) ∧ Hid (∀ j, j < k → c.dealOk p j = true) ∧ Ext vl wr) (fun _ i _ => n - (intOf i).toNat)
 case atStart => exact ⟨0, Nat.zero_le _, rfl, rfl, (fun j h => absurd h (by omega)), Ext.refl _⟩
 case round =>
  obtain ⟨k, hk, rfl, rfl, hall, hE⟩ := hrel
  obtain ⟨wo, rfl⟩ := zgE wr
  by_cases hlt : k < n
  ·obtain ⟨b, off, rfl, hb, hc⟩ := (hD.ext hE) (by omega)
   have hL := (hat.out k hlt).ext hE
   have c0 : wo.cell? ⟨b, off + k * 7, none⟩ = some (.int .i64 (p.dl k).on.y) := by simpa [dealr] using hc k 0 _ hlt rfl
   have c1 : wo.cell? ⟨b, off + k * 7 + 1, none⟩ = some (.int .i64 (p.dl k).on.m) := by simpa [dealr] using hc k 1 _ hlt rfl
   have c2 : wo.cell? ⟨b, off + k * 7 + 2, none⟩ = some (.bool (p.dl k).on.s) := by simpa [dealr] using hc k 2 _ hlt rfl
   have c3 : wo.cell? ⟨b, off + k * 7 + 3, none⟩ = some (.int .i64 (p.dl k).on.d) := by simpa [dealr] using hc k 3 _ hlt rfl
   have c4 : wo.cell? ⟨b, off + k * 7 + 4, none⟩ = some (.bool (p.dl k).i) := by simpa [dealr] using hc k 4 _ hlt rfl
   have c5 : wo.cell? ⟨b, off + k * 7 + 5, none⟩ = some (.string (p.dl k).w) := by simpa [dealr] using hc k 5 _ hlt rfl
   have c6 : wo.cell? ⟨b, off + k * 7 + 6, none⟩ = some (vs' k) := by simpa [dealr] using hc k 6 _ hlt rfl
   have NG := fun w h => given_any (vs' k) (p.dl k).l w h
   have ND := fun w h => day_any A A' ca cb c (p.dl k).on w h
   have NN := fun w => isName_any (p.dl k).w w
   have HK : Hid (c.dealOk p k = !(decide (c.numV (p.dl k).on < c.lastD p k) || decide (c.numV p.b < c.numV (p.dl k).on) || !isName (p.dl k).w || ((p.dl k).w.toList == p.h.toList) || !givenV (p.dl k).l)) := by
    unfold Hid; rw [dealOk_eq, same_eq]
   have hno : Hid (c.dealOk p k = false → R = false) := fun h => by
    rw [HR2.out]
    exact List.all_eq_false.2 ⟨k, by simpa using hlt, by simp [h]⟩
   have hyes : Hid (c.dealOk p k = true → ∀ j, j < k + 1 → c.dealOk p j = true) := fun h j hj => by
    by_cases e : j = k
    ·subst e; exact h
    ·exact hall.out j (by omega)
   have hlo : Hid (c.lastD p (k + 1) = c.numV (p.dl k).on) := rfl
   obtain ⟨VL, hvl⟩ := zgE (vs' k)
   rw [← hvl] at c6 NG hL
   clear hvl hc hall HR2 hD hat
   obtain ⟨TL, cl, hVL, _⟩ := id hL
   subst hVL
   generalize c.dealOk p k = dk at *
   generalize c.lastD p k = L0 at *
   generalize c.numV (p.dl k).on = L1 at *
   generalize c.numV p.b = L2 at *
   generalize isName (p.dl k).w = nm at *
   generalize hse : ((p.dl k).w.toList == p.h.toList) = se at *
   generalize givenV (p.dl k).l = gv1 at *
   go_upto_region 7 with (fail)
   obtain ⟨v3, hv⟩ := zgE (wo.alloc (.cells #[.int .i64 (p.dl k).on.y, .int .i64 (p.dl k).on.m, .bool (p.dl k).on.s, .int .i64 (p.dl k).on.d, .bool (p.dl k).i, .string (p.dl k).w, .slice TL (p.dl k).l.length cl] 106))
   rw [← hv]
   have E3 : Ext wo v3 := by rw [hv]; exact (Ext.refl _).alloc _
   have H3 : Held v3 wo.heap.size 106 #[.int .i64 (p.dl k).on.y, .int .i64 (p.dl k).on.m, .bool (p.dl k).on.s, .int .i64 (p.dl k).on.d, .bool (p.dl k).i, .string (p.dl k).w, .slice TL (p.dl k).l.length cl] := by rw [hv]; exact Held.new _ _ _
   clear hv
   generalize wo.heap.size = b3 at *
   clear c0 c1 c2 c3 c4 c5 c6
   replace hL := hL.ext E3
   replace hE := hE.trans E3
   clear E3
   have B1e := B1.ext hE
   obtain ⟨k0, k1⟩ := B1e.c2
   have lk := B1e.lt
   obtain ⟨q0, q1, q2, q3, q4, q5, q6⟩ := held_c7 H3
   have lq := H3.lt
   go_upto_region 8 with (go_at_call 78; (with_reducible refine Calls.mono (ND _ (C.ext hE)) ?_); rintro e w4 ⟨rfl, h4⟩)
   replace hE := hE.trans h4
   replace H3 := H3.ext h4
   replace hL := hL.ext h4
   clear h4 q0 q1 q2 q3 q4 q5 q6 lq k0 k1 lk B1e ND
   obtain ⟨q0, q1, q2, q3, q4, q5, q6⟩ := held_c7 H3
   have lq := H3.lt
   have B2e := B2.ext hE
   obtain ⟨p0, p1, p2, p3, p4, p5, p6, p7, p8, p9, p10, p11⟩ := B2e.c12
   have lp := B2e.lt
   by_cases a1 : L1 < L0
   ·have g1 : decide (L1 < L0) = true := decide_eq_true a1
    have hr := hno.out (by rw [HK.out, g1]; rfl)
    clear HK hno hyes hlo a1 hse
    go_wp2
    go_ret
    exact ⟨by rw [hr]; rfl, E.trans hE⟩
   have g1 : decide (L1 < L0) = false := decide_eq_false a1
   rw [g1] at HK
   clear a1
   by_cases a2 : L2 < L1
   ·have g2 : decide (L2 < L1) = true := decide_eq_true a2
    have hr := hno.out (by rw [HK.out, g2]; rfl)
    clear HK hno hyes hlo a2 hse
    go_wp2
    go_ret
    exact ⟨by rw [hr]; rfl, E.trans hE⟩
   have g2 : decide (L2 < L1) = false := decide_eq_false a2
   rw [g2] at HK
   clear a2
   cases nm
   ·have hr := hno.out (by rw [HK.out]; rfl)
    clear HK hno hyes hlo hse
    go_wp2_with (first | (go_at_call 167; (with_reducible refine Calls.mono (NN _) ?_); rintro e wn ⟨rfl, rfl⟩))
    go_ret
    exact ⟨by rw [hr]; rfl, E.trans hE⟩
   cases se
   rotate_left
   ·have hr := hno.out (by rw [HK.out]; rfl)
    clear HK hno hyes hlo
    go_wp2_with (first | (go_at_call 167; (with_reducible refine Calls.mono (NN _) ?_); rintro e wn ⟨rfl, rfl⟩))
    go_ret
    exact ⟨by rw [hr]; rfl, E.trans hE⟩
   cases gv1
   ·have hr := hno.out (by rw [HK.out]; rfl)
    clear HK hno hyes hlo
    go_wp2_with (first | (go_at_call 167; (with_reducible refine Calls.mono (NN _) ?_); rintro e wn ⟨rfl, rfl⟩) | (go_at_call 170; (with_reducible refine Calls.mono (NG _ hL) ?_); rintro e w6 ⟨rfl, h6⟩))
    go_ret
    exact ⟨by rw [hr]; rfl, (E.trans hE).trans h6⟩
   have hx := Lib.hid (hyes.out (by rw [HK.out]; rfl))
   clear HK hno hyes
   go_wp2_with (first | (go_at_call 167; (with_reducible refine Calls.mono (NN _) ?_); rintro e wn ⟨rfl, rfl⟩) | (go_at_call 170; (with_reducible refine Calls.mono (NG _ hL) ?_); rintro e w6 ⟨rfl, h6⟩))
   exact ⟨⟨k + 1, by omega, by go_num, by rw [hlo.out], hx, hE.trans h6⟩, by simp [intOf]; omega⟩
  ·obtain rfl : k = n := by omega
   have hr : R = true := by
    rw [HR2.out]
    exact List.all_eq_true.2 fun j hj => hall.out j (by simpa using hj)
   clear HR2 hall
   subst hr
   go_wp2
   go_ret
   exact ⟨rfl, E.trans hE⟩
end Go.Proofs.YthmjpbafbohelaaGreatDoor
namespace Go.Proofs.YthmjpbafbohelaaGreatDoor
open Go Go.RowKit Go.Shelf
attribute [local go_sem] gv_yes
theorem flat_lots (l : List Lt) : l.flatMap lcells = flatL (lotr (ofL l)) l.length := by
 conv => lhs; rw [← lotsL_ofL l]
 unfold lotsL flatL
 rw [List.flatMap_map]; rfl
theorem lotsAt_own {w : World} {base k : Nat} {v : Value} {l : List Lt} (h : w.ownsRow base 122 2 v k (l.flatMap lcells)) : LotsAt w v l := by
 have hk := h.1
 rw [lcells_len] at hk
 obtain rfl : k = l.length := by omega
 rw [flat_lots] at h
 obtain ⟨F, c, h1, h2, h3, h4, h5, _⟩ := flat_rows (f := lotr (ofL l)) (fun _ => rfl) h
 exact ⟨F, c, h1, h2, h3, h4, h5⟩
theorem lotsAt_nil (w : World) : LotsAt w (.slice none 0 0) [] := ⟨none, 0, rfl, RowsAt.nil, Nat.le_refl _, Nat.zero_le _, fun _ => ⟨rfl, rfl⟩⟩
def zPd : Pd := ⟨⟨#[]⟩, ⟨0, 0, false, 0⟩, ⟨0, 0, false, 0⟩, [], [], []⟩
def perr (p : Pd) (vo vd vc : Value) : List Value := [.string p.h, .int .i64 p.a.y, .int .i64 p.a.m, .bool p.a.s, .int .i64 p.a.d, .int .i64 p.b.y, .int .i64 p.b.m, .bool p.b.s, .int .i64 p.b.d, vo, vd, vc]
/-- A slice value that reads as a list of periods. -/
def PersAt (w : World) (v : Value) (l : List Pd) : Prop := ∃ D cap, ∃ vo vd vc : Nat → Value, v = .slice D l.length cap ∧ RowsAt w D l.length 12 (fun i => perr (l.getD i zPd) (vo i) (vd i) (vc i)) ∧ l.length ≤ cap ∧ cap ≤ maxLen ∧ (D = none → l.length = 0 ∧ cap = 0) ∧ ∀ i, i < l.length → PerAt w (l.getD i zPd) (vo i) (vd i) (vc i)
theorem PersAt.ext {w w' : World} {v : Value} {l : List Pd} (h : PersAt w v l) (e : Ext w w') : PersAt w' v l := by
 obtain ⟨D, cap, vo, vd, vc, h1, h2, h3, h4, h5, h6⟩ := h
 exact ⟨D, cap, vo, vd, vc, h1, h2.ext e, h3, h4, h5, fun i hi => (h6 i hi).ext e⟩
theorem per_open {c : Cal} {p : Pd} (h : c.perE p = 0) : p.o.length ≤ 64 := by
 unfold Cal.perE at h
 cases hv : c.valid
 ·rw [hv, if_neg (by simp)] at h; exact absurd h (by decide)
 ·rw [hv, if_pos rfl] at h
  cases ho : c.perOk p
  ·rw [ho, if_neg (by simp)] at h; exact absurd h (by decide)
  ·unfold Cal.perOk Cal.perHead at ho
   simp only [Bool.and_eq_true, decide_eq_true_eq] at ho
   exact (lots_bd ho.1.1.1.2).1
def Cal.persE (c : Cal) (l : List Pd) : Int := if l.all c.perOk then 0 else 83
def Cal.validE (c : Cal) (l : List Pd) : Int := if c.chk ≠ 0 then c.chk else c.persE l
theorem validE_one (c : Cal) (p : Pd) : c.validE [p] = c.perE p := by
 unfold Cal.validE Cal.perE Cal.chk Cal.persE
 cases c.valid <;> simp
theorem all_getD {l : List Pd} {P : Pd → Bool} {k : Nat} (hk : k < l.length) (h : P (l.getD k zPd) = false) : l.all P = false :=
 List.all_eq_false.2 ⟨l[k], List.getElem_mem hk, by simpa [List.getD_eq_getElem?_getD, hk] using h⟩
theorem all_getD' {l : List Pd} {P : Pd → Bool} (h : ∀ k, k < l.length → P (l.getD k zPd) = true) : l.all P = true :=
 List.all_eq_true.2 fun x hx => by
  obtain ⟨k, hk, rfl⟩ := List.mem_iff_getElem.1 hx
  simpa [List.getD_eq_getElem?_getD, hk] using h k hk
theorem persAt_one {w : World} {b : Nat} {t : TypeId} {p : Pd} {vo vd vc : Value} (h : Held w b t (perr p vo vd vc).toArray) (hP : PerAt w p vo vd vc) : PersAt w (.slice (some ⟨b, 0, none⟩) 1 1) [p] :=
 ⟨some ⟨b, 0, none⟩, 1, fun _ => vo, fun _ => vd, fun _ => vc, rfl, rows_flat (f := fun _ => perr p vo vd vc) (n := 1) (fun _ => rfl) (by simpa [flatL] using h) |>.congr (fun i hi => by obtain rfl : i = 0 := (by simp at hi; omega); rfl), Nat.le_refl _, by decide, fun h => (by cases h), fun i hi => by obtain rfl : i = 0 := (by simp at hi; omega); exact hP⟩
theorem cloneLots_any (v : Value) (l : List Lt) (w : World) (hL : LotsAt w v l) (hn : l.length ≤ 1000000) :
  Calls Tryz.prog 95 #[v] w fun e w' => ∃ v', e = .returned v' ∧ Ext w w' ∧ w'.ownsRow w.heap.size 122 2 v' l.length (l.flatMap lcells) := by
 rw [flat_lots]
 obtain ⟨T, cap, rfl, hT, hcap, hmax, hnil⟩ := hL
 generalize l.length = n at *
 generalize ofL l = f at *
 have q23 : ∀ (w : World) (a : Option Addr) (n c n' c' : Nat), (binOp .eql 42 (.slice a n c) (.slice none n' c')).run Tryz.prog w = .ok (.bool a.isNone) w := fun w a n c n' c' => Lib.run_eql_slice_nil w _ _ a n c n' c' Tryz.underlying42
 cases T with
 | none =>
  obtain ⟨rfl, rfl⟩ := hnil rfl
  go_enter Tryz.func95, Tryz.ntmps95
  go_wp2
  go_ret
  exact ⟨_, rfl, Ext.refl _, World.ownsRow_nil _ _ _ _⟩
 | some a =>
  obtain ⟨i0, hi, hz0, hz1, hz2⟩ := info_parts info_lot
  have hlen := flatL_len (f := lotr f) (sz := 2) (fun _ => rfl) n
  have hone : ∀ u ∈ flatL (lotr f) n, u.oneCell' = true := flat_one (f := lotr f) (n := n) (fun i u hu => by simp [lotr] at hu; rcases hu with rfl | rfl <;> simp [Value.oneCell'])
  have HN := fun v (h : RowsAt v (some a) n 2 (lotr f)) => flat_news (f := lotr f) (sz := 2) (fun _ => rfl) (by decide) h
  go_enter Tryz.func95, Tryz.ntmps95
  go_wp2_with (at_builtin; refine wpList_append_own _ rfl _ _ 42 rfl w.heap.size 122 i0 (.agg #[.string ⟨#[]⟩, .int .i64 0]) 2 24 Tryz.underlying42 hi hz0 hz1 hz2 rfl (by decide) _ _ _ rfl (World.ownsRow_made w #[] 0 (Nat.le_refl _) (Nat.zero_le _) rfl) a n cap (flatL (lotr f) n) rfl hlen (HN _ (hT.ext ((Ext.refl _).alloc _)) a rfl) hone (by unfold maxLen; omega) (by omega) (by simp) ?_; intro v' w1 hown hgrow hnil2)
  go_ret
  refine ⟨v', rfl, ((Ext.refl w).alloc _).grown hgrow (fun q hq => by have h : some w.heap.size = some q := hq; cases h; exact Nat.le_refl _), by simpa using hown⟩
theorem periods_any (A A' : Option Addr) (ca cb : Nat) (c : Cal) (v : Value) (l : List Pd) (w : World) (hC : CalAt w A ca A' cb c) (hP : PersAt w v l) :
  Calls Tryz.prog 118 #[.agg #[.slice A c.nk ca, .slice A' c.ny cb], v] w fun e w' => e = .returned (.int .i64 (c.persE l)) ∧ Ext w w' := by
 obtain ⟨D, cap, vo, vd, vc, rfl, hD, hcap, hmax, _, hat⟩ := hP
 have hn : l.length ≤ 9223372036854775807 := Nat.le_trans hcap (Nat.le_trans hmax (by decide))
 obtain ⟨R, hR0⟩ := zgE (c.persE l)
 rw [← hR0]
 have HR := Lib.hid hR0
 clear hR0
 obtain ⟨n, hnl⟩ := zgE (l.length)
 rw [← hnl] at hn hD hat hcap ⊢
 replace hnl := Lib.hid hnl
 obtain ⟨g, hg⟩ := zgE (fun i => l.getD i zPd)
 have hg' : ∀ i, l.getD i zPd = g i := fun i => by rw [hg]
 simp only [hg'] at hD hat
 replace hg := Lib.hid hg
 clear hg'
 replace hat := Lib.hid hat
 go_enter Tryz.func118, Tryz.ntmps118
 go_upto_region 1 with (fail)
 obtain ⟨v, hv⟩ := zgE (w.alloc (.cells #[.slice A c.nk ca, .slice A' c.ny cb] 108))
 rw [← hv]
 have E : Ext w v := by rw [hv]; exact (Ext.refl _).alloc _
 have B1 : Held v w.heap.size 108 #[.slice A c.nk ca, .slice A' c.ny cb] := by rw [hv]; exact (Held.new _ _ _)
 clear hv
 obtain ⟨b1, hb1⟩ := zgE (w.heap.size)
 rw [← hb1] at B1 ⊢
 have hbr : w.heap.size ≤ b1 := by omega
 clear hb1
 have C := hC.ext E
 replace hD := hD.ext E
 replace hat := Lib.hid fun i hi => (hat.out i hi).ext E
 clear hC
 go_upto_region 2 with (fail)
 go_loopw [9] (fun i wr => ∃ k : Nat, k ≤ n ∧ i = .int .i64 k ∧ Hid (∀ j, j < k → c.perOk (g j) = true) ∧ Ext v wr) (fun i _ => n - (intOf i).toNat)
 case atStart => exact ⟨0, Nat.zero_le _, rfl, (fun j h => absurd h (by omega)), Ext.refl _⟩
 case round =>
  obtain ⟨k, hk, rfl, hall, hE⟩ := hrel
  obtain ⟨wo, rfl⟩ := zgE wr
  by_cases hlt : k < n
  ·obtain ⟨b, off, rfl, hb, hc⟩ := (hD.ext hE) (by omega)
   have hP := hat.out k hlt
   have c0 : wo.cell? ⟨b, off + k * 12, none⟩ = some (.string (g k).h) := by simpa [perr] using hc k 0 _ hlt rfl
   have c1 : wo.cell? ⟨b, off + k * 12 + 1, none⟩ = some (.int .i64 (g k).a.y) := by simpa [perr] using hc k 1 _ hlt rfl
   have c2 : wo.cell? ⟨b, off + k * 12 + 2, none⟩ = some (.int .i64 (g k).a.m) := by simpa [perr] using hc k 2 _ hlt rfl
   have c3 : wo.cell? ⟨b, off + k * 12 + 3, none⟩ = some (.bool (g k).a.s) := by simpa [perr] using hc k 3 _ hlt rfl
   have c4 : wo.cell? ⟨b, off + k * 12 + 4, none⟩ = some (.int .i64 (g k).a.d) := by simpa [perr] using hc k 4 _ hlt rfl
   have c5 : wo.cell? ⟨b, off + k * 12 + 5, none⟩ = some (.int .i64 (g k).b.y) := by simpa [perr] using hc k 5 _ hlt rfl
   have c6 : wo.cell? ⟨b, off + k * 12 + 6, none⟩ = some (.int .i64 (g k).b.m) := by simpa [perr] using hc k 6 _ hlt rfl
   have c7 : wo.cell? ⟨b, off + k * 12 + 7, none⟩ = some (.bool (g k).b.s) := by simpa [perr] using hc k 7 _ hlt rfl
   have c8 : wo.cell? ⟨b, off + k * 12 + 8, none⟩ = some (.int .i64 (g k).b.d) := by simpa [perr] using hc k 8 _ hlt rfl
   have c9 : wo.cell? ⟨b, off + k * 12 + 9, none⟩ = some (vo k) := by simpa [perr] using hc k 9 _ hlt rfl
   have c10 : wo.cell? ⟨b, off + k * 12 + 10, none⟩ = some (vd k) := by simpa [perr] using hc k 10 _ hlt rfl
   have c11 : wo.cell? ⟨b, off + k * 12 + 11, none⟩ = some (vc k) := by simpa [perr] using hc k 11 _ hlt rfl
   have NP := fun w h1 h2 => period_any A A' ca cb c (g k) (vo k) (vd k) (vc k) w h1 h2
   have hno : Hid (c.perOk (g k) = false → R = 83) := fun h => by
    rw [HR.out]; unfold Cal.persE
    rw [if_neg (by rw [Bool.not_eq_true]; exact all_getD (k := k) (by rw [← hnl.out]; exact hlt) (by rw [hg.out] at h; exact h))]
   have hyes : Hid (c.perOk (g k) = true → ∀ j, j < k + 1 → c.perOk (g j) = true) := fun h j hj => by
    by_cases e : j = k
    ·subst e; exact h
    ·exact hall.out j (by omega)
   obtain ⟨VO, VD, VC, hvo, hvd, hvc⟩ : ∃ x y z, x = vo k ∧ y = vd k ∧ z = vc k := ⟨_, _, _, rfl, rfl, rfl⟩
   rw [← hvo] at c9 NP hP
   rw [← hvd] at c10 NP hP
   rw [← hvc] at c11 NP hP
   clear hvo hvd hvc hc hall HR hat hg
   obtain ⟨t1, s1, e1, _⟩ := hP.o
   subst e1
   obtain ⟨t2, s2, _, e2, _⟩ := hP.d
   subst e2
   obtain ⟨t3, s3, e3, _⟩ := hP.c
   subst e3
   go_upto_region 4 with (fail)
   obtain ⟨v3, hv⟩ := zgE (wo.alloc (.cells #[.string (g k).h, .int .i64 (g k).a.y, .int .i64 (g k).a.m, .bool (g k).a.s, .int .i64 (g k).a.d, .int .i64 (g k).b.y, .int .i64 (g k).b.m, .bool (g k).b.s, .int .i64 (g k).b.d, .slice t1 (g k).o.length s1, .slice t2 (g k).d.length s2, .slice t3 (g k).c.length s3] 45))
   rw [← hv]
   have E3 : Ext wo v3 := by rw [hv]; exact (Ext.refl _).alloc _
   have H3 : Held v3 wo.heap.size 45 #[.string (g k).h, .int .i64 (g k).a.y, .int .i64 (g k).a.m, .bool (g k).a.s, .int .i64 (g k).a.d, .int .i64 (g k).b.y, .int .i64 (g k).b.m, .bool (g k).b.s, .int .i64 (g k).b.d, .slice t1 (g k).o.length s1, .slice t2 (g k).d.length s2, .slice t3 (g k).c.length s3] := by rw [hv]; exact Held.new _ _ _
   clear hv
   generalize wo.heap.size = b3 at *
   clear c0 c1 c2 c3 c4 c5 c6 c7 c8 c9 c10 c11
   replace NP := NP v3 (C.ext (hE.trans E3)) (hP.ext (hE.trans E3))
   replace hE := hE.trans E3
   have B1e := B1.ext hE
   obtain ⟨k0, k1⟩ := B1e.c2
   have lk := B1e.lt
   obtain ⟨p0, p1, p2, p3, p4, p5, p6, p7, p8, p9, p10, p11⟩ := H3.c12
   have lp := H3.lt
   clear E3 hP
   cases hq : c.perOk (g k)
   ·have hr := hno.out hq
    rw [hq] at NP
    clear hno hyes hq
    go_wp2_with (go_at_call 155; (with_reducible refine Calls.mono (NP) ?_); rintro e w2 ⟨rfl, h⟩)
    go_ret
    exact ⟨by rw [hr]; rfl, (E.trans hE).trans h⟩
   ·have hx := Lib.hid (hyes.out hq)
    rw [hq] at NP
    clear hno hyes hq
    go_wp2_with (go_at_call 155; (with_reducible refine Calls.mono (NP) ?_); rintro e w2 ⟨rfl, h⟩)
    exact ⟨⟨k + 1, by omega, by go_num, hx, hE.trans h⟩, by simp [intOf]; omega⟩
  ·obtain rfl : k = n := by omega
   have hr : R = 0 := by
    rw [HR.out]; unfold Cal.persE
    rw [if_pos (all_getD' fun j hj => by have := hall.out j (by rw [hnl.out]; exact hj); rw [hg.out] at this; exact this)]
   clear HR hall hat hg
   go_wp2
   go_ret
   exact ⟨by rw [hr]; rfl, E.trans hE⟩
theorem addLL_any (v1 v2 : Value) (a b : List Lt) (w : World) (h1 : LotsAt w v1 a) (h2 : LotsAt w v2 b) :
  Calls Tryz.prog 120 #[v1, v2] w fun e w' => ∃ F k m, e = .returned (.tuple #[.slice F k m, .int .i64 (combEL 1 a b)]) ∧ Ext w w' ∧ LotsAt w' (.slice F k m) (combLL 1 a b) := by
 obtain ⟨T, cap, rfl, hT, hcap, hmax, _⟩ := h1
 obtain ⟨S, cm, rfl, hS, hcm, hmm, _⟩ := h2
 refine Calls.mono (addL_any T a.length cap (ofL a) S b.length cm (ofL b) w hT hcap (Nat.le_trans hcap (Nat.le_trans hmax (by decide))) hS hcm (Nat.le_trans hcm (Nat.le_trans hmm (by decide)))) ?_
 rintro e w' ⟨F, k, c, rfl, hx, ho⟩
 exact ⟨F, k, c, rfl, hx, lotsAt_own ho⟩
theorem subLL_any (v1 v2 : Value) (a b : List Lt) (w : World) (h1 : LotsAt w v1 a) (h2 : LotsAt w v2 b) :
  Calls Tryz.prog 119 #[v1, v2] w fun e w' => ∃ F k m, e = .returned (.tuple #[.slice F k m, .int .i64 (combEL (-1) a b)]) ∧ Ext w w' ∧ LotsAt w' (.slice F k m) (combLL (-1) a b) := by
 obtain ⟨T, cap, rfl, hT, hcap, hmax, _⟩ := h1
 obtain ⟨S, cm, rfl, hS, hcm, hmm, _⟩ := h2
 refine Calls.mono (subL_any T a.length cap (ofL a) S b.length cm (ofL b) w hT hcap (Nat.le_trans hcap (Nat.le_trans hmax (by decide))) hS hcm (Nat.le_trans hcm (Nat.le_trans hmm (by decide)))) ?_
 rintro e w' ⟨F, k, c, rfl, hx, ho⟩
 exact ⟨F, k, c, rfl, hx, lotsAt_own ho⟩
theorem sumD_at (s : List Lt) {d : List Dl} {k : Nat} (hk : k < d.length) : sumD s (d.drop k) = if combEL (sgn (d.getD k zDl).i) s (d.getD k zDl).l ≠ 0 then ([], combEL (sgn (d.getD k zDl).i) s (d.getD k zDl).l) else sumD (combLL (sgn (d.getD k zDl).i) s (d.getD k zDl).l) (d.drop (k + 1)) := by
 have e : d.getD k zDl = d[k] := by simp [List.getD_eq_getElem?_getD, hk]
 rw [e]; exact sumD_drop s d hk
theorem balanceL_any (vo vd : Value) (o : List Lt) (d : List Dl) (w : World) (hO : LotsAt w vo o) (hD : DealsAt w vd d) (ho : o.length ≤ 1000000) :
  Calls Tryz.prog 73 #[vo, vd] w fun e w' => ∃ v', e = .returned (.tuple #[v', .int .i64 (sumD o d).2]) ∧ Ext w w' ∧ LotsAt w' v' (sumD o d).1 := by
 obtain ⟨D, cap, vs, rfl, hD, hcap, hmax, _, hat⟩ := hD
 have hn : d.length ≤ 9223372036854775807 := Nat.le_trans hcap (Nat.le_trans hmax (by decide))
 have NC := cloneLots_any vo o w hO ho
 obtain ⟨A0, cc0, rfl, _⟩ := id hO
 obtain ⟨R, hR⟩ := zgE (sumD o d)
 rw [← hR]
 replace hR := Lib.hid hR
 go_enter Tryz.func73, Tryz.ntmps73
 go_upto_region 2 with (go_at_call 95; (with_reducible refine Calls.mono (NC) ?_); rintro e w1 ⟨v0, rfl, h1, hown⟩)
 have hS0 := lotsAt_own hown
 obtain ⟨F0, m0, rfl⟩ := own_sl hown
 clear NC hown hO
 go_upto_region 3 with (fail)
 obtain ⟨n, hnl⟩ := zgE (d.length)
 rw [← hnl] at hn hD hat hcap ⊢
 replace hnl := Lib.hid hnl
 obtain ⟨g, hg⟩ := zgE (fun i => d.getD i zDl)
 have hg' : ∀ i, d.getD i zDl = g i := fun i => by rw [hg]
 have hdr : Hid (∀ s k, k < n → sumD s (d.drop k) = if combEL (sgn (g k).i) s (g k).l ≠ 0 then ([], combEL (sgn (g k).i) s (g k).l) else sumD (combLL (sgn (g k).i) s (g k).l) (d.drop (k + 1))) := fun s k hk => by
  rw [sumD_at s (by rw [← hnl.out]; exact hk), hg']
 simp only [hg'] at hD hat
 clear hg hg'
 replace hat := Lib.hid hat
 have hD1 := hD.ext h1
 go_loopw [6, 16] (fun sv iv wr => ∃ (k : Nat) (s : List Lt), k ≤ n ∧ iv = .int .i64 k ∧ LotsAt wr sv s ∧ Hid (R = sumD s (d.drop k)) ∧ Ext w wr) (fun _ i _ => n - (intOf i).toNat)
 case atStart => exact ⟨0, o, Nat.zero_le _, rfl, hS0, by unfold Hid; rw [hR.out]; rfl, h1⟩
 case round =>
  clear hS0
  obtain ⟨k, s, hk, rfl, hS, hrun, hE⟩ := hrel
  obtain ⟨wo, rfl⟩ := zgE wr
  by_cases hlt : k < n
  ·obtain ⟨b, off, rfl, hb, hc⟩ := (hD.ext hE) (by omega)
   have hL := (hat.out k hlt).ext hE
   have c0 : wo.cell? ⟨b, off + k * 7, none⟩ = some (.int .i64 (g k).on.y) := by simpa [dealr] using hc k 0 _ hlt rfl
   have c1 : wo.cell? ⟨b, off + k * 7 + 1, none⟩ = some (.int .i64 (g k).on.m) := by simpa [dealr] using hc k 1 _ hlt rfl
   have c2 : wo.cell? ⟨b, off + k * 7 + 2, none⟩ = some (.bool (g k).on.s) := by simpa [dealr] using hc k 2 _ hlt rfl
   have c3 : wo.cell? ⟨b, off + k * 7 + 3, none⟩ = some (.int .i64 (g k).on.d) := by simpa [dealr] using hc k 3 _ hlt rfl
   have c4 : wo.cell? ⟨b, off + k * 7 + 4, none⟩ = some (.bool (g k).i) := by simpa [dealr] using hc k 4 _ hlt rfl
   have c5 : wo.cell? ⟨b, off + k * 7 + 5, none⟩ = some (.string (g k).w) := by simpa [dealr] using hc k 5 _ hlt rfl
   have c6 : wo.cell? ⟨b, off + k * 7 + 6, none⟩ = some (vs k) := by simpa [dealr] using hc k 6 _ hlt rfl
   have HS := Lib.hid (hdr.out s k hlt)
   obtain ⟨VL, hvl⟩ := zgE (vs k)
   rw [← hvl] at c6 hL
   clear hvl hc hdr hat hR hD hD1
   obtain ⟨TL, cl, hVL, _⟩ := id hL
   subst hVL
   obtain ⟨AS, cs, hsv, _⟩ := id hS
   subst hsv
   obtain ⟨SD, hSD⟩ := zgE (sumD s (d.drop k))
   rw [← hSD] at HS hrun
   clear hSD
   go_upto_region 5 with (fail)
   obtain ⟨v3, hv⟩ := zgE (wo.alloc (.cells #[.int .i64 (g k).on.y, .int .i64 (g k).on.m, .bool (g k).on.s, .int .i64 (g k).on.d, .bool (g k).i, .string (g k).w, .slice TL (g k).l.length cl] 106))
   rw [← hv]
   have E3 : Ext wo v3 := by rw [hv]; exact (Ext.refl _).alloc _
   have H3 : Held v3 wo.heap.size 106 #[.int .i64 (g k).on.y, .int .i64 (g k).on.m, .bool (g k).on.s, .int .i64 (g k).on.d, .bool (g k).i, .string (g k).w, .slice TL (g k).l.length cl] := by rw [hv]; exact Held.new _ _ _
   clear hv
   generalize wo.heap.size = b3 at *
   clear c0 c1 c2 c3 c4 c5 c6
   replace hL := hL.ext E3
   replace hS := hS.ext E3
   replace hE := hE.trans E3
   clear E3
   have NA := fun h1 h2 => addLL_any (.slice AS s.length cs) (.slice TL (g k).l.length cl) s (g k).l v3 h1 h2
   have NB := fun h1 h2 => subLL_any (.slice AS s.length cs) (.slice TL (g k).l.length cl) s (g k).l v3 h1 h2
   obtain ⟨q0, q1, q2, q3, q4, q5, q6⟩ := held_c7 H3
   have lq := H3.lt
   cases hi : (g k).i
   ·have NX := NB hS hL
    rw [hi] at HS
    have HS2 : Hid (SD = if combEL (-1) s (g k).l ≠ 0 then ([], combEL (-1) s (g k).l) else sumD (combLL (-1) s (g k).l) (d.drop (k + 1))) := HS
    rw [hi] at q4
    clear HS hi
    generalize hce : combEL (-1) s (g k).l = E1 at *
    generalize combLL (-1) s (g k).l = L1 at *
    by_cases e0 : E1 = 0
    ·subst e0
     have HS3 := Lib.hid (HS2.out.trans (if_neg (by simp)))
     clear HS2 hce
     go_wp2_with (first | (go_at_call 119; (with_reducible refine Calls.mono (NX) ?_); rintro e w6 ⟨F6, k6, m6, rfl, h6, L6⟩) | (go_at_fn 119; (with_reducible refine Calls.mono (NX) ?_); rintro e w6 ⟨F6, k6, m6, rfl, h6, L6⟩))
     exact ⟨⟨k + 1, L1, by omega, by go_num, L6, Lib.hid (hrun.out.trans HS3.out), hE.trans h6⟩, by simp [intOf]; omega⟩
    ·have g0 : (E1 == 0) = false := beq_eq_false_iff_ne.2 e0
     have g0n : (E1 != 0) = true := by rw [bne, g0]; rfl
     have HS3 := Lib.hid (hrun.out.trans (HS2.out.trans (if_pos e0)))
     clear HS2 hrun hce e0
     go_wp2_with (first | (go_at_call 119; (with_reducible refine Calls.mono (NX) ?_); rintro e w6 ⟨F6, k6, m6, rfl, h6, L6⟩) | (go_at_fn 119; (with_reducible refine Calls.mono (NX) ?_); rintro e w6 ⟨F6, k6, m6, rfl, h6, L6⟩))
     go_ret2
     exact ⟨_, by rw [HS3.out]; rfl, hE.trans h6, by rw [HS3.out]; exact lotsAt_nil _⟩
   ·have NX := NA hS hL
    rw [hi] at HS
    have HS2 : Hid (SD = if combEL 1 s (g k).l ≠ 0 then ([], combEL 1 s (g k).l) else sumD (combLL 1 s (g k).l) (d.drop (k + 1))) := HS
    rw [hi] at q4
    clear HS hi
    generalize hce : combEL 1 s (g k).l = E1 at *
    generalize combLL 1 s (g k).l = L1 at *
    by_cases e0 : E1 = 0
    ·subst e0
     have HS3 := Lib.hid (HS2.out.trans (if_neg (by simp)))
     clear HS2 hce
     go_wp2_with (first | (go_at_call 120; (with_reducible refine Calls.mono (NX) ?_); rintro e w6 ⟨F6, k6, m6, rfl, h6, L6⟩) | (go_at_fn 120; (with_reducible refine Calls.mono (NX) ?_); rintro e w6 ⟨F6, k6, m6, rfl, h6, L6⟩))
     exact ⟨⟨k + 1, L1, by omega, by go_num, L6, Lib.hid (hrun.out.trans HS3.out), hE.trans h6⟩, by simp [intOf]; omega⟩
    ·have g0 : (E1 == 0) = false := beq_eq_false_iff_ne.2 e0
     have g0n : (E1 != 0) = true := by rw [bne, g0]; rfl
     have HS3 := Lib.hid (hrun.out.trans (HS2.out.trans (if_pos e0)))
     clear HS2 hrun hce e0
     go_wp2_with (first | (go_at_call 120; (with_reducible refine Calls.mono (NX) ?_); rintro e w6 ⟨F6, k6, m6, rfl, h6, L6⟩) | (go_at_fn 120; (with_reducible refine Calls.mono (NX) ?_); rintro e w6 ⟨F6, k6, m6, rfl, h6, L6⟩))
     go_ret2
     exact ⟨_, by rw [HS3.out]; rfl, hE.trans h6, by rw [HS3.out]; exact lotsAt_nil _⟩
  ·obtain rfl : k = n := by omega
   have hr : Hid (R = (s, 0)) := by
    unfold Hid
    rw [hrun.out, hnl.out, List.drop_length]; rfl
   clear hrun hdr hat hR
   go_wp2
   go_ret2
   exact ⟨_, by rw [hr.out]; rfl, hE, by rw [hr.out]; exact hS⟩
theorem validP_any (A A' : Option Addr) (ca cb : Nat) (c : Cal) (v : Value) (l : List Pd) (w : World) (hC : CalAt w A ca A' cb c) (hP : PersAt w v l) :
  Calls Tryz.prog 72 #[.agg #[.slice A c.nk ca, .slice A' c.ny cb], v] w fun e w' => e = .returned (.tuple #[.agg #[.slice A c.nk ca, .slice A' c.ny cb], .int .i64 (c.validE l)]) ∧ Ext w w' := by
 have NO := fun w h => opened_any A A' ca cb c w h
 obtain ⟨D, cap, _, _, _, hv9, _⟩ := id hP
 subst hv9
 have NP := fun w h1 h2 => periods_any A A' ca cb c (.slice D l.length cap) l w h1 h2
 obtain ⟨R, hR0⟩ := zgE (c.validE l)
 rw [← hR0]
 have HR := Lib.hid hR0
 clear hR0
 go_enter Tryz.func72, Tryz.ntmps72
 go_upto_region 1 with (fail)
 obtain ⟨v, hv⟩ := zgE ((w.alloc (.cells #[.slice A c.nk ca, .slice A' c.ny cb] 34)).alloc (.cells #[.slice none 0 0, .slice none 0 0] 108))
 rw [← hv]
 have E : Ext w v := by rw [hv]; exact ((Ext.refl _).alloc _).alloc _
 have B1 : Held v w.heap.size 34 #[.slice A c.nk ca, .slice A' c.ny cb] := by rw [hv]; exact (Held.new _ _ _).alloc _
 have B2 : Held v (w.heap.size + 1) 108 #[.slice none 0 0, .slice none 0 0] := by rw [hv]; exact Held.at _ _ _ _ (by simp)
 clear hv
 obtain ⟨b2, hb2⟩ := zgE (w.heap.size + 1)
 rw [← hb2] at B2 ⊢
 obtain ⟨b1, hb1⟩ := zgE (w.heap.size)
 rw [← hb1] at B1 ⊢
 have hbr : w.heap.size ≤ b2 := by omega
 have hbr1 : w.heap.size ≤ b1 := by omega
 have hn21 : b2 ≠ b1 := by omega
 clear hb1 hb2
 obtain ⟨k0, k1⟩ := B1.c2
 have lk := B1.lt
 obtain ⟨ck, hck⟩ := zgE (c.chk)
 simp only [← hck] at NO
 replace hck := Lib.hid hck
 go_upto_region 2 with (go_at_call 63; (with_reducible refine Calls.mono (NO _ (hC.ext E)) ?_); rintro e w1 ⟨rfl, h1⟩)
 obtain ⟨v3, hv⟩ := zgE (w1.alloc (.cells #[.slice A c.nk ca, .slice A' c.ny cb] 108))
 rw [← hv]
 have h3 : Ext w1 v3 := by rw [hv]; exact (Ext.refl _).alloc _
 have H3 : Held v3 w1.heap.size 108 #[.slice A c.nk ca, .slice A' c.ny cb] := by rw [hv]; exact Held.new _ _ _
 clear hv
 generalize w1.heap.size = b9 at *
 replace E := (E.trans h1).trans h3
 replace B2 := (B2.ext h1).ext h3
 have C := hC.ext E
 have P := hP.ext E
 clear hC hP k0 k1 lk B1 NO h1 h3
 by_cases e0 : ck = 0
 rotate_left
 ·have g0 : (ck == 0) = false := beq_eq_false_iff_ne.2 e0
  have g0n : (ck != 0) = true := by rw [bne, g0]; rfl
  have hr : R = ck := by rw [HR.out, hck.out]; unfold Cal.validE; rw [if_pos (by rw [← hck.out]; exact e0)]
  clear HR e0 hck NP
  obtain ⟨k0, k1⟩ := H3.c2
  have lk := H3.lt
  have f0 := B2.frozen 0
  have f1 := B2.frozen 1
  obtain ⟨x0, x1⟩ := B2.c2
  have lx := B2.lt
  have H4 := held_two B2 (.slice A c.nk ca) (.slice A' c.ny cb)
  have EF := (E.setCell (p := ⟨b2, 0, none⟩) hbr (.slice A c.nk ca)).setCell (p := ⟨b2, 1, none⟩) hbr (.slice A' c.ny cb)
  obtain ⟨y0, y1⟩ := H4.c2
  go_wp2
  refine bodyPost_ret (v := .tuple #[.agg #[.slice A c.nk ca, .slice A' c.ny cb], .int .i64 ck]) (by simp [results, Tryz.results72, go_sem, y0, y1]) rfl ⟨by rw [hr], EF⟩
 ·subst e0
  have hr : Hid (R = c.persE l) := by unfold Hid; rw [HR.out]; unfold Cal.validE; rw [if_neg (by rw [← hck.out]; simp)]
  clear HR hck
  go_upto_region 4 with (fail)
  refine wp_region_z 6 [4, 5] (fun x => Ext v3 x) mixed rfl ?_
  intro vz hvz
  have HC := hvz
  refine z_stills (g := 3) [0, 1, 2] [_, _, _] ⟨rfl, rfl, rfl, trivial⟩ (by kernel_rfl) (by kernel_rfl) HC ?_
  simp only [zgA, zgB, zgC]
  apply Exists.intro
  refine ⟨fun u hu => ?_, ?_⟩
  ·obtain ⟨k0, k1⟩ := (H3.ext hu).c2
   have lk := (H3.ext hu).lt
   repeat (first | go_big_quiet_skip | (go_big_quiet_want; go_big_quiet_op; go_big_quiet_on))
   refine wpQuiet_nil ?_
   rfl
  refine z_one 3 rfl (by kernel_rfl) ?_
  simp only [zgA, zgB, zgC]
  go_wp2_with (go_at_call 118; (with_reducible refine Calls.mono (NP _ (C.ext HC) (P.ext HC)) ?_); rintro e va ⟨rfl, h4⟩)
  replace HC := HC.trans h4
  clear h4
  refine onQ_in HC ?_
  refine z_end 4 rfl (by kernel_rfl) ?_
  simp only [zgA, zgB, zgC]
  replace B2 := B2.ext HC
  replace E := E.trans HC
  have f0 := B2.frozen 0
  have f1 := B2.frozen 1
  obtain ⟨x0, x1⟩ := B2.c2
  have lx := B2.lt
  have H4 := held_two B2 (.slice A c.nk ca) (.slice A' c.ny cb)
  have EF := (E.setCell (p := ⟨b2, 0, none⟩) hbr (.slice A c.nk ca)).setCell (p := ⟨b2, 1, none⟩) hbr (.slice A' c.ny cb)
  obtain ⟨y0, y1⟩ := H4.c2
  go_wp2
  refine onQ_last ?_
  refine z_end 5 rfl (by kernel_rfl) ?_
  simp only [zgA, zgB, zgC]
  go_wp2
  refine onQ_last ?_
  refine z_done (by kernel_rfl) ?_
  go_wp2
  refine bodyPost_ret (v := .tuple #[.agg #[.slice A c.nk ca, .slice A' c.ny cb], .int .i64 (c.persE l)]) (by simp [results, Tryz.results72, go_sem, y0, y1]) rfl ⟨by rw [hr.out], EF⟩
theorem close_any (A A' : Option Addr) (ca cb : Nat) (c : Cal) (p : Pd) (vo vd vc : Value) (w : World) (hC : CalAt w A ca A' cb c) (hP : PerAt w p vo vd vc) :
  Calls Tryz.prog 19 #[.agg #[.slice A c.nk ca, .slice A' c.ny cb], .agg #[.string p.h, .int .i64 p.a.y, .int .i64 p.a.m, .bool p.a.s, .int .i64 p.a.d, .int .i64 p.b.y, .int .i64 p.b.m, .bool p.b.s, .int .i64 p.b.d, vo, vd, vc]] w fun e w' => ∃ v', e = .returned (.tuple #[v', .int .i64 (c.closeV p).2]) ∧ Ext w w' ∧ LotsAt w' v' (c.closeV p).1 := by
 obtain ⟨t1, s1, e1, _⟩ := id hP.o
 subst e1
 obtain ⟨t2, s2, _, e2, _⟩ := id hP.d
 subst e2
 obtain ⟨t3, s3, e3, _⟩ := id hP.c
 subst e3
 have NV := fun w h1 v h2 => validP_any A A' ca cb c v [p] w h1 h2
 simp only [validE_one] at NV
 obtain ⟨R, hR0⟩ := zgE (c.closeV p)
 rw [← hR0]
 have HR := Lib.hid hR0
 clear hR0
 go_enter Tryz.func19, Tryz.ntmps19
 go_upto_region 1 with (fail)
 obtain ⟨v, hv⟩ := zgE ((w.alloc (.cells #[.slice A c.nk ca, .slice A' c.ny cb] 34)).alloc (.cells #[.string p.h, .int .i64 p.a.y, .int .i64 p.a.m, .bool p.a.s, .int .i64 p.a.d, .int .i64 p.b.y, .int .i64 p.b.m, .bool p.b.s, .int .i64 p.b.d, .slice t1 p.o.length s1, .slice t2 p.d.length s2, .slice t3 p.c.length s3] 45))
 rw [← hv]
 have E : Ext w v := by rw [hv]; exact ((Ext.refl _).alloc _).alloc _
 have B1 : Held v w.heap.size 34 #[.slice A c.nk ca, .slice A' c.ny cb] := by rw [hv]; exact (Held.new _ _ _).alloc _
 have B2 : Held v (w.heap.size + 1) 45 #[.string p.h, .int .i64 p.a.y, .int .i64 p.a.m, .bool p.a.s, .int .i64 p.a.d, .int .i64 p.b.y, .int .i64 p.b.m, .bool p.b.s, .int .i64 p.b.d, .slice t1 p.o.length s1, .slice t2 p.d.length s2, .slice t3 p.c.length s3] := by rw [hv]; exact Held.at _ _ _ _ (by simp)
 clear hv
 obtain ⟨b2, hb2⟩ := zgE (w.heap.size + 1)
 rw [← hb2] at B2 ⊢
 obtain ⟨b1, hb1⟩ := zgE (w.heap.size)
 rw [← hb1] at B1 ⊢
 have hbr : w.heap.size ≤ b2 := by omega
 have hbr1 : w.heap.size ≤ b1 := by omega
 have hn21 : b2 ≠ b1 := by omega
 clear hb1 hb2
 have C := hC.ext E
 have P := hP.ext E
 clear hC hP
 obtain ⟨k0, k1⟩ := B1.c2
 have lk := B1.lt
 obtain ⟨p0, p1, p2, p3, p4, p5, p6, p7, p8, p9, p10, p11⟩ := B2.c12
 have lp := B2.lt
 obtain ⟨pe, hpe⟩ := zgE (c.perE p)
 simp only [← hpe] at NV
 replace hpe := Lib.hid hpe
 have AL := (Ext.refl v).alloc (.cells #[.string p.h, .int .i64 p.a.y, .int .i64 p.a.m, .bool p.a.s, .int .i64 p.a.d, .int .i64 p.b.y, .int .i64 p.b.m, .bool p.b.s, .int .i64 p.b.d, .slice t1 p.o.length s1, .slice t2 p.d.length s2, .slice t3 p.c.length s3] 45)
 have NV1 := NV _ (C.ext AL) (.slice (some ⟨v.heap.size, 0, none⟩) 1 1) (persAt_one (t := 45) (Held.new v 45 #[.string p.h, .int .i64 p.a.y, .int .i64 p.a.m, .bool p.a.s, .int .i64 p.a.d, .int .i64 p.b.y, .int .i64 p.b.m, .bool p.b.s, .int .i64 p.b.d, .slice t1 p.o.length s1, .slice t2 p.d.length s2, .slice t3 p.c.length s3]) (P.ext AL))
 go_upto_region 2 with (go_at_call 72; (with_reducible refine Calls.mono (NV1) ?_); rintro e w1 ⟨rfl, h1⟩)
 replace h1 := AL.trans h1
 clear NV NV1 AL
 obtain ⟨v3, hv⟩ := zgE (w1.alloc (.cells #[.slice A c.nk ca, .slice A' c.ny cb] 108))
 rw [← hv]
 have h3 : Ext w1 v3 := by rw [hv]; exact (Ext.refl _).alloc _
 have H3 : Held v3 w1.heap.size 108 #[.slice A c.nk ca, .slice A' c.ny cb] := by rw [hv]; exact Held.new _ _ _
 clear hv
 generalize w1.heap.size = b9 at *
 replace h1 := h1.trans h3
 replace E := E.trans h1
 replace C := C.ext h1
 replace P := P.ext h1
 replace B2 := B2.ext h1
 clear h1 h3 H3 B1 k0 k1 lk p0 p1 p2 p3 p4 p5 p6 p7 p8 p9 p10 p11 lp
 by_cases e0 : pe = 0
 rotate_left
 ·have g0 : (pe == 0) = false := beq_eq_false_iff_ne.2 e0
  have g0n : (pe != 0) = true := by rw [bne, g0]; rfl
  have hr : Hid (R = ([], pe)) := by unfold Hid; rw [HR.out, hpe.out]; unfold Cal.closeV; rw [if_pos (by rw [← hpe.out]; exact e0)]
  clear HR e0 hpe
  go_wp2
  go_ret2
  exact ⟨_, by rw [hr.out]; rfl, E, by rw [hr.out]; exact lotsAt_nil _⟩
 ·subst e0
  have hr : Hid (R = sumD p.o p.d) := by unfold Hid; rw [HR.out]; unfold Cal.closeV; rw [if_neg (by rw [← hpe.out]; simp)]
  have NB := balanceL_any _ _ p.o p.d v3 P.o P.d (by have := per_open hpe.out.symm; omega)
  clear HR hpe
  rw [← hr.out] at NB
  clear hr
  obtain ⟨p0, p1, p2, p3, p4, p5, p6, p7, p8, p9, p10, p11⟩ := B2.c12
  have lp := B2.lt
  go_wp2_with (go_at_call 73; (with_reducible refine Calls.mono (NB) ?_); rintro e w5 ⟨v5, rfl, h5, L5⟩)
  go_ret2
  exact ⟨v5, rfl, E.trans h5, L5⟩
end Go.Proofs.YthmjpbafbohelaaGreatDoor
namespace Go.Proofs.YthmjpbafbohelaaGreatDoor
end Go.Proofs.YthmjpbafbohelaaGreatDoor
namespace Go.Proofs.YthmjpbafbohelaaGreatDoor
def sA : ByteArray := ⟨#[97]⟩
def sB : ByteArray := ⟨#[98]⟩
def sC : ByteArray := ⟨#[99]⟩
def sU8 : ByteArray := ⟨#[117, 114]⟩
def sBar : ByteArray := ⟨#[98, 97, 114, 108, 101, 121]⟩
def yr8 : Nat → Yr
 | 0 => ⟨0, sA, 4095, 0⟩
 | 1 => ⟨0, sB, 4095, 0⟩
 | _ => ⟨0, sC, 4095, 0⟩
def cal8 : Cal := ⟨1, fun _ => sU8, 3, yr8⟩
def l8 : Ln := ⟨⟨60, 1⟩, ⟨1, 5⟩, ⟨0, 1, false, 1⟩⟩
def p8 : Nat → Pay := fun _ => ⟨⟨0, 7, false, 1⟩, ⟨10, 1⟩⟩
def d8 : Dt := ⟨1, 7, false, 1⟩
def t8 : Nat → Tk
 | 0 => ⟨⟨10, 1⟩, ⟨1, 3⟩⟩
 | _ => ⟨⟨5, 1⟩, ⟨1, 1⟩⟩
def f8 : Dt := ⟨0, 1, false, 1⟩
def u8' : Dt := ⟨0, 1, false, 30⟩
def w8 : Nat → Cw := fun _ => ⟨2, ⟨1, 2⟩, f8, u8'⟩
def h8 : Hrd := ⟨10, 2, 5⟩
def pd8 : Pd := ⟨sA, f8, u8', [⟨sBar, 10⟩], [⟨⟨0, 1, false, 2⟩, true, sB, [⟨sBar, 5⟩]⟩, ⟨⟨0, 1, false, 2⟩, false, sB, [⟨sBar, 20⟩]⟩], []⟩
theorem e8_int : intV ⟨60, 1⟩ ⟨1, 5⟩ 180 = (⟨6, 1⟩, 0) := by kernel_rfl
theorem e8_dbl : dblV ⟨1, 3⟩ = (1080, 0) := by kernel_rfl
theorem e8_owed : cal8.owedV l8 p8 1 d8 = (⟨⟨56, 1⟩, ⟨56, 5⟩, ⟨0, 1⟩⟩, 0) := by kernel_rfl
theorem e8_settle : cal8.settleV l8 p8 1 d8 = (⟨336, 5⟩, 0) := by kernel_rfl
theorem e8_bal : cal8.balV t8 2 w8 1 = (⟨-5, 1⟩, 0) := by kernel_rfl
theorem e8_few : cal8.fewV t8 2 ⟨1, 2⟩ f8 u8' = (3, 0) := by kernel_rfl
theorem e8_grow : growV h8 ⟨4, 5⟩ ⟨1, 10⟩ 1 = (⟨12, 4, 7⟩, 0) := by kernel_rfl
theorem e8_close : cal8.closeV pd8 = ([⟨sBar, -5⟩], 0) := by kernel_rfl
end Go.Proofs.YthmjpbafbohelaaGreatDoor
namespace Go.Proofs.YthmjpbafbohelaaGreatDoor
open Go Go.RowKit Go.Shelf
attribute [local go_sem] gv_yes
attribute [local go_sem high] neq_lot
theorem rows_heldV {w : World} {b : Nat} {t : TypeId} {cs : Array Value} {n sz : Nat} {f : Nat → List Value} (h : Held w b t cs) (hf : ∀ i j v, i < n → (f i)[j]? = some v → cs[i * sz + j]? = some v) : RowsAt w (some ⟨b, 0, none⟩) n sz f :=
 fun _ => ⟨b, 0, rfl, h.lt, fun i j v hi hv => by rw [Nat.zero_add, h.cell]; exact hf i j v hi hv⟩
theorem q_any (n d : Int) (w : World) :
  Calls Tryz.prog 57 #[.int .i64 n, .int .i64 d] w fun e w' => e = .returned (.agg #[.int .i64 n, .int .i64 d]) ∧ Ext w w' := by
 go_enter Tryz.func57, Tryz.ntmps57
 go_wp2
 refine bodyPost_ret (v := .agg #[.int .i64 n, .int .i64 d]) (by simp [results, Tryz.results57, go_sem]) rfl ⟨rfl, (by repeat (first | exact Ext.refl _ | (refine Ext.alloc ?_ _) | (refine Ext.trans ?_ (by assumption))))⟩
theorem on_any (y m d : Int) (w : World) :
  Calls Tryz.prog 59 #[.int .i64 y, .int .i64 m, .int .i64 d] w fun e w' => e = .returned (.agg #[.int .i64 y, .int .i64 m, .bool false, .int .i64 d]) ∧ Ext w w' := by
 go_enter Tryz.func59, Tryz.ntmps59
 go_wp2
 refine bodyPost_ret (v := .agg #[.int .i64 y, .int .i64 m, .bool false, .int .i64 d]) (by simp [results, Tryz.results59, go_sem]) rfl ⟨rfl, (by repeat (first | exact Ext.refl _ | (refine Ext.alloc ?_ _) | (refine Ext.trans ?_ (by assumption))))⟩
theorem lot_any (s : ByteArray) (n : Int) (w : World) :
  Calls Tryz.prog 61 #[.string s, .int .i64 n] w fun e w' => ∃ b, e = .returned (.slice (some ⟨b, 0, none⟩) 1 1) ∧ Ext w w' ∧ LotsAt w' (.slice (some ⟨b, 0, none⟩) 1 1) [⟨s, n⟩] := by
 go_enter Tryz.func61, Tryz.ntmps61
 go_wp2
 go_ret
 refine ⟨w.heap.size, rfl, (by repeat (first | exact Ext.refl _ | (refine Ext.alloc ?_ _) | (refine Ext.trans ?_ (by assumption)))), some ⟨w.heap.size, 0, none⟩, 1, rfl, ?_, Nat.le_refl _, by decide, fun h => (by cases h)⟩
 refine rows_heldV (t := 122) (cs := #[.string s, .int .i64 n]) (by repeat (first | (refine Held.at _ _ _ _ ?_; (simp; done)) | refine Held.alloc ?_ _)) ?_
 intro i j v hi hv
 obtain rfl : i = 0 := by simp at hi; omega
 have hj : j < 2 := (List.getElem?_eq_some_iff.1 hv).1
 rw [← hv]
 have : j = 0 ∨ j = 1 := by omega
 rcases this with rfl | rfl <;> rfl
theorem calendar8_any (w : World) :
  Calls Tryz.prog 56 #[] w fun e w' => ∃ A A' ca cb, e = .returned (.agg #[.slice A 1 ca, .slice A' 3 cb]) ∧ Ext w w' ∧ CalAt w' A ca A' cb cal8 := by
 go_enter Tryz.func56, Tryz.ntmps56
 go_wp2
 refine bodyPost_ret (v := .agg #[.slice (some ⟨w.heap.size + 1, 0, none⟩) 1 1, .slice (some ⟨w.heap.size + 1 + 1, 0, none⟩) 3 3]) (by simp [results, Tryz.results56, go_sem]) rfl ⟨_, _, _, _, rfl, (by repeat (first | exact Ext.refl _ | (refine Ext.alloc ?_ _) | (refine Ext.trans ?_ (by assumption)))), ⟨?_, ?_, by decide, by decide, by decide, by decide⟩⟩
 ·refine rows_heldV (t := 9) (cs := #[.string sU8]) (by repeat (first | (refine Held.at _ _ _ _ ?_; (simp; done)) | refine Held.alloc ?_ _)) ?_
  intro i j v hi hv
  have hi : i < 1 := hi
  have hj : j < 1 := (List.getElem?_eq_some_iff.1 hv).1
  rw [← hv]
  obtain rfl : i = 0 := by omega
  obtain rfl : j = 0 := by omega
  rfl
 ·refine rows_heldV (t := 135) (cs := #[.int .i64 0, .string sA, .int .i64 4095, .int .i64 0, .int .i64 0, .string sB, .int .i64 4095, .int .i64 0, .int .i64 0, .string sC, .int .i64 4095, .int .i64 0]) (by repeat (first | (refine Held.at _ _ _ _ ?_; (simp; done)) | refine Held.alloc ?_ _)) ?_
  intro i j v hi hv
  have hi : i < 3 := hi
  have hj : j < 4 := (List.getElem?_eq_some_iff.1 hv).1
  rw [← hv]
  have h1 : i = 0 ∨ i = 1 ∨ i = 2 := by omega
  have h2 : j = 0 ∨ j = 1 ∨ j = 2 ∨ j = 3 := by omega
  rcases h1 with rfl | rfl | rfl <;> rcases h2 with rfl | rfl | rfl | rfl <;> rfl
theorem held8_all {W : World} {b : Nat} {t : TypeId} {v0 v1 v2 v3 v4 v5 v6 v7 : Value} (h : Held W b t #[v0, v1, v2, v3, v4, v5, v6, v7]) (u0 u1 u2 u3 u4 u5 u6 u7 : Value) : Held ((((((((W.setCell ⟨b, 0, none⟩ u0).setCell ⟨b, 1, none⟩ u1).setCell ⟨b, 2, none⟩ u2).setCell ⟨b, 3, none⟩ u3).setCell ⟨b, 4, none⟩ u4).setCell ⟨b, 5, none⟩ u5).setCell ⟨b, 6, none⟩ u6).setCell ⟨b, 7, none⟩ u7) b t #[u0, u1, u2, u3, u4, u5, u6, u7] := by unfold Held at h ⊢; simp [World.setCell, Array.getElem?_modify, h]
theorem ext8 {W0 W : World} {b : Nat} (h : Ext W0 W) (hb : W0.heap.size ≤ b) (u0 u1 u2 u3 u4 u5 u6 u7 : Value) : Ext W0 ((((((((W.setCell ⟨b, 0, none⟩ u0).setCell ⟨b, 1, none⟩ u1).setCell ⟨b, 2, none⟩ u2).setCell ⟨b, 3, none⟩ u3).setCell ⟨b, 4, none⟩ u4).setCell ⟨b, 5, none⟩ u5).setCell ⟨b, 6, none⟩ u6).setCell ⟨b, 7, none⟩ u7) :=
 (((((((h.setCell (p := ⟨b, 0, none⟩) hb u0).setCell (p := ⟨b, 1, none⟩) hb u1).setCell (p := ⟨b, 2, none⟩) hb u2).setCell (p := ⟨b, 3, none⟩) hb u3).setCell (p := ⟨b, 4, none⟩) hb u4).setCell (p := ⟨b, 5, none⟩) hb u5).setCell (p := ⟨b, 6, none⟩) hb u6).setCell (p := ⟨b, 7, none⟩) hb u7
theorem held8_oth {W : World} {b b' : Nat} {t : TypeId} {cs : Array Value} (h : Held W b t cs) (hne : b ≠ b') (u0 u1 u2 u3 u4 u5 u6 u7 : Value) : Held ((((((((W.setCell ⟨b', 0, none⟩ u0).setCell ⟨b', 1, none⟩ u1).setCell ⟨b', 2, none⟩ u2).setCell ⟨b', 3, none⟩ u3).setCell ⟨b', 4, none⟩ u4).setCell ⟨b', 5, none⟩ u5).setCell ⟨b', 6, none⟩ u6).setCell ⟨b', 7, none⟩ u7) b t cs :=
 held_oth (held_oth (held_oth (held_oth (held_oth (held_oth (held_oth (held_oth h hne 0 u0) hne 1 u1) hne 2 u2) hne 3 u3) hne 4 u4) hne 5 u5) hne 6 u6) hne 7 u7
theorem loan8_any (w : World) :
  Calls Tryz.prog 58 #[] w fun e w' => ∃ b, e = .returned (.tuple #[.agg #[.int .i64 60, .int .i64 1, .int .i64 1, .int .i64 5, .int .i64 0, .int .i64 1, .bool false, .int .i64 1], .slice (some ⟨b, 0, none⟩) 1 1]) ∧ Ext w w' ∧ RowsAt w' (some ⟨b, 0, none⟩) 1 6 (payr p8) := by
 go_enter Tryz.func58, Tryz.ntmps58
 go_upto_region 1 with (fail)
 obtain ⟨v, hv⟩ := zgE (w.alloc (.cells #[.int .i64 0, .int .i64 0, .int .i64 0, .int .i64 0, .int .i64 0, .int .i64 0, .bool false, .int .i64 0] 54))
 rw [← hv]
 have E : Ext w v := by rw [hv]; exact (Ext.refl _).alloc _
 have B1 : Held v w.heap.size 54 #[.int .i64 0, .int .i64 0, .int .i64 0, .int .i64 0, .int .i64 0, .int .i64 0, .bool false, .int .i64 0] := by rw [hv]; exact Held.new _ _ _
 clear hv
 obtain ⟨b1, hb1⟩ := zgE (w.heap.size)
 rw [← hb1] at B1 ⊢
 have hbr : w.heap.size ≤ b1 := by omega
 clear hb1
 go_wp2_with (first | (go_at_call 57; (with_reducible refine Calls.mono (q_any 10 1 _) ?_); rintro e wa ⟨rfl, hx⟩; replace E := E.trans hx; replace B1 := B1.ext hx; clear hx; have BA := B1.alloc (.cells #[.int .i64 0, .int .i64 7, .bool false, .int .i64 1, .int .i64 10, .int .i64 1] 129); have z0 := BA.frozen 0; have z1 := BA.frozen 1; have z2 := BA.frozen 2; have z3 := BA.frozen 3; have z4 := BA.frozen 4; have z5 := BA.frozen 5; have z6 := BA.frozen 6; have z7 := BA.frozen 7; obtain ⟨x0, x1, x2, x3, x4, x5, x6, x7⟩ := BA.c8; have lx := BA.lt) | (go_at_call 57; (with_reducible refine Calls.mono (q_any _ _ _) ?_); rintro e wa ⟨rfl, hx⟩; replace E := E.trans hx; replace B1 := B1.ext hx; clear hx) | (go_at_call 59; (with_reducible refine Calls.mono (on_any _ _ _ _) ?_); rintro e wa ⟨rfl, hx⟩; replace E := E.trans hx; replace B1 := B1.ext hx; clear hx))
 have H8 := held8_all (B1.alloc (.cells #[.int .i64 0, .int .i64 7, .bool false, .int .i64 1, .int .i64 10, .int .i64 1] 129)) (.int .i64 60) (.int .i64 1) (.int .i64 1) (.int .i64 5) (.int .i64 0) (.int .i64 1) (.bool false) (.int .i64 1)
 have E8 := ext8 (E.alloc (.cells #[.int .i64 0, .int .i64 7, .bool false, .int .i64 1, .int .i64 10, .int .i64 1] 129)) hbr (.int .i64 60) (.int .i64 1) (.int .i64 1) (.int .i64 5) (.int .i64 0) (.int .i64 1) (.bool false) (.int .i64 1)
 have P8 := held8_oth (Held.new wa 129 #[.int .i64 0, .int .i64 7, .bool false, .int .i64 1, .int .i64 10, .int .i64 1]) (show wa.heap.size ≠ b1 by have := B1.lt; omega) (.int .i64 60) (.int .i64 1) (.int .i64 1) (.int .i64 5) (.int .i64 0) (.int .i64 1) (.bool false) (.int .i64 1)
 obtain ⟨y0, y1, y2, y3, y4, y5, y6, y7⟩ := H8.c8
 refine bodyPost_ret (v := .tuple #[.agg #[.int .i64 60, .int .i64 1, .int .i64 1, .int .i64 5, .int .i64 0, .int .i64 1, .bool false, .int .i64 1], .slice (some ⟨wa.heap.size, 0, none⟩) 1 1]) (by simp [results, Tryz.results58, go_sem, y0, y1, y2, y3, y4, y5, y6, y7]) rfl ⟨_, rfl, E8, ?_⟩
 refine rows_heldV P8 ?_
 intro i j v hi hv
 obtain rfl : i = 0 := by omega
 have hj : j < 6 := (List.getElem?_eq_some_iff.1 hv).1
 rw [← hv]
 have : j = 0 ∨ j = 1 ∨ j = 2 ∨ j = 3 ∨ j = 4 ∨ j = 5 := by omega
 rcases this with rfl | rfl | rfl | rfl | rfl | rfl <;> rfl
theorem sameL_any (v1 v2 : Value) (a b : List Lt) (w : World) (h1 : LotsAt w v1 a) (h2 : LotsAt w v2 b) :
  Calls Tryz.prog 62 #[v1, v2] w fun e w' => e = .returned (.bool (decide (a = b))) ∧ Ext w w' := by
 obtain ⟨A, ca, rfl, hA, hca, hca', _⟩ := h1
 obtain ⟨B, cb, rfl, hB, hcb, hcb', _⟩ := h2
 obtain ⟨R, hR0⟩ := zgE (decide (a = b))
 rw [← hR0]
 have HR := Lib.hid hR0
 clear hR0
 by_cases hn : a.length = b.length
 ·have HL := Lib.hid hn
  obtain ⟨n, hnl⟩ := zgE (a.length)
  rw [← hn] at hcb hB ⊢
  rw [← hnl] at hca hcb hA hB ⊢
  have h63 : n ≤ 9223372036854775807 := Nat.le_trans hca (Nat.le_trans hca' (by decide))
  replace hnl := Lib.hid hnl
  have hno : Hid (∀ k, k < n → ofL a k ≠ ofL b k → R = false) := fun k hk h => by
   rw [HR.out]; exact decide_eq_false fun e => h (by rw [e])
  have hyes : Hid ((∀ k, k < n → ofL a k = ofL b k) → R = true) := fun h => by
   rw [HR.out]
   refine decide_eq_true (List.ext_getElem HL.out fun i h1 h2 => ?_)
   have := h i (by rw [hnl.out]; exact h1)
   rwa [ofL_get h1, ofL_get h2] at this
  clear HR HL hn hnl hca' hcb' hca hcb
  generalize ofL a = f at *
  generalize ofL b = g at *
  go_enter Tryz.func62, Tryz.ntmps62
  go_wp2
  go_loopw [5] (fun i wr => ∃ k : Nat, k ≤ n ∧ i = .int .i64 k ∧ Hid (∀ j, j < k → f j = g j) ∧ Ext w wr) (fun i _ => n - (intOf i).toNat)
  case atStart => exact ⟨0, Nat.zero_le _, rfl, (fun i hi => absurd hi (by omega)), Ext.refl _⟩
  case round =>
   obtain ⟨k, hk, rfl, hp, hE⟩ := hrel
   obtain ⟨wo, rfl⟩ := zgE wr
   by_cases hlt : k < n
   ·obtain ⟨b1, o1, rfl, hb, hc⟩ := (hA.ext hE) (by omega)
    obtain ⟨b2, o2, rfl, hb', hd⟩ := (hB.ext hE) (by omega)
    have c0 : wo.cell? ⟨b1, o1 + k * 2, none⟩ = some (.string (f k).g) := by simpa [lotr] using hc k 0 _ hlt rfl
    have c1 : wo.cell? ⟨b1, o1 + k * 2 + 1, none⟩ = some (.int .i64 (f k).n) := by simpa [lotr] using hc k 1 _ hlt rfl
    have d0 : wo.cell? ⟨b2, o2 + k * 2, none⟩ = some (.string (g k).g) := by simpa [lotr] using hd k 0 _ hlt rfl
    have d1 : wo.cell? ⟨b2, o2 + k * 2 + 1, none⟩ = some (.int .i64 (g k).n) := by simpa [lotr] using hd k 1 _ hlt rfl
    have hq : Hid ((((f k).g.toList == (g k).g.toList) && ((f k).n == (g k).n)) = decide (f k = g k)) := by
     unfold Hid
     rw [← same_eq, Bool.eq_iff_iff]
     simp only [Bool.and_eq_true, decide_eq_true_eq, beq_iff_eq]
     constructor
     ·rintro ⟨e1, e2⟩
      cases hf : f k; cases hg : g k
      rw [hf, hg] at e1 e2
      simp_all
     ·intro e; rw [e]; exact ⟨rfl, rfl⟩
    have hs : Hid (f k = g k → ∀ j, j < k + 1 → f j = g j) := fun e j hj => by
     by_cases h : j = k
     ·subst h; exact e
     ·exact hp.out j (by omega)
    have hnk := Lib.hid (hno.out k hlt)
    clear hc hd hA hB hp
    generalize f k = x at *
    generalize g k = y at *
    go_upto_region 6 with (fail)
    clear hno hyes
    generalize hg1 : (x.g.toList == y.g.toList) = e1 at *
    generalize hg2 : (x.n == y.n) = e2 at *
    by_cases hxy : x = y
    ·obtain ⟨rfl, rfl⟩ : e1 = true ∧ e2 = true := by
      have h := hq.out
      rw [decide_eq_true hxy] at h
      simpa using h
     have hp' := Lib.hid (hs.out hxy)
     clear hs hq hnk hxy
     refine wp_region_xw wo mixed (by kernel_rfl) (by repeat (first | exact Ext.refl _ | (refine Ext.alloc ?_ _) | (refine Ext.trans ?_ (by assumption)))) ?_
     intro hne hrx hry
     try simp only []
     try simp only [List.append_eq, List.cons_append, List.nil_append]
     skip
     repeat (first
      | go_big_quiet_skip
      | (go_big_quiet_want; go_big_quiet_op; go_big_quiet_on))
     clear hne hry hrx
     refine wpQuiet_nil ?_
     intro wn hwn
     obtain ⟨hcwn, hfwn, hzwn⟩ := Ext.rules hwn
     try simp only [World.size_alloc] at hzwn
     obtain ⟨hcbwn, hfbwn, hzbwn⟩ := Ext.rules (show Ext wo wn from (by repeat (first | exact Ext.refl _ | (refine Ext.alloc ?_ _) | (refine Ext.trans ?_ (by assumption)))))
     clear hcwn hfwn
     go_wp2
     exact ⟨⟨k + 1, by omega, by go_num, hp', hE.trans hwn⟩, by simp [intOf]; omega⟩
    ·have hr := hnk.out hxy
     have h : e1 = false ∨ (e1 = true ∧ e2 = false) := by
      have h := hq.out
      rw [decide_eq_false hxy] at h
      cases e1 <;> simp_all
     clear hs hq hnk hxy
     rcases h with rfl | ⟨rfl, rfl⟩
     ·skip
      refine wp_region_xw wo mixed (by kernel_rfl) (by repeat (first | exact Ext.refl _ | (refine Ext.alloc ?_ _) | (refine Ext.trans ?_ (by assumption)))) ?_
      intro hne hrx hry
      try simp only []
      try simp only [List.append_eq, List.cons_append, List.nil_append]
      skip
      repeat (first
       | go_big_quiet_skip
       | (go_big_quiet_want; go_big_quiet_op; go_big_quiet_on))
      clear hne hry hrx
      refine wpQuiet_nil ?_
      intro wn hwn
      obtain ⟨hcwn, hfwn, hzwn⟩ := Ext.rules hwn
      try simp only [World.size_alloc] at hzwn
      obtain ⟨hcbwn, hfbwn, hzbwn⟩ := Ext.rules (show Ext wo wn from (by repeat (first | exact Ext.refl _ | (refine Ext.alloc ?_ _) | (refine Ext.trans ?_ (by assumption)))))
      clear hcwn hfwn
      go_wp2
      go_ret
      exact ⟨by rw [hr]; rfl, hE.trans hwn⟩
     ·skip
      refine wp_region_xw wo mixed (by kernel_rfl) (by repeat (first | exact Ext.refl _ | (refine Ext.alloc ?_ _) | (refine Ext.trans ?_ (by assumption)))) ?_
      intro hne hrx hry
      try simp only []
      try simp only [List.append_eq, List.cons_append, List.nil_append]
      skip
      repeat (first
       | go_big_quiet_skip
       | (go_big_quiet_want; go_big_quiet_op; go_big_quiet_on))
      clear hne hry hrx
      refine wpQuiet_nil ?_
      intro wn hwn
      obtain ⟨hcwn, hfwn, hzwn⟩ := Ext.rules hwn
      try simp only [World.size_alloc] at hzwn
      obtain ⟨hcbwn, hfbwn, hzbwn⟩ := Ext.rules (show Ext wo wn from (by repeat (first | exact Ext.refl _ | (refine Ext.alloc ?_ _) | (refine Ext.trans ?_ (by assumption)))))
      clear hcwn hfwn
      go_wp2
      go_ret
      exact ⟨by rw [hr]; rfl, hE.trans hwn⟩
   ·obtain rfl : k = n := by omega
    have hr := hyes.out hp.out
    clear hyes hno
    go_wp2
    go_ret
    exact ⟨by rw [hr]; rfl, hE⟩
 ·have hne : ((a.length : Int) == (b.length : Int)) = false := beq_eq_false_iff_ne.2 (by omega)
  have hnn : ((a.length : Int) != (b.length : Int)) = true := by rw [bne, hne]; rfl
  have hr : R = false := by rw [HR.out]; exact decide_eq_false fun e => hn (by rw [e])
  clear hn HR
  go_enter Tryz.func62, Tryz.ntmps62
  go_wp2
  go_ret
  exact ⟨by rw [hr]; rfl, Ext.refl _⟩
end Go.Proofs.YthmjpbafbohelaaGreatDoor
