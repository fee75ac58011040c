/- CheckPeriod of the program; the walk of LedgerPeriodChecks. -/
import Derived.Test.YtneiofnlmblglaaGreatDoorN14
import Derived.Test.YtneiofnlmblglaaGreatDoorCNOb
import Derived.Test.YtneiofnlmblglaaGreatDoorN15
set_option maxRecDepth 100000
set_option maxHeartbeats 4000000
namespace Go.Proofs.YtneiofnlmblglaaGreatDoor
open Go Go.RowKit Go.Shelf
attribute [local go_sem] gv_yes
theorem checkPer_any (A A' : Option Addr) (ca cb : Nat) (c : Cal) (p : Pd) (vo vd vc : Value) (w : World) (hC : CalAt w A ca A' cb c) (hP : PerAt w p vo vd vc) :
  Calls Tryz.prog 11 #[.agg #[.slice A c.nk ca, .slice A' c.ny cb], .agg #[.string p.h, .int .i64 p.a.y, .int .i64 p.a.m, .bool p.a.s, .int .i64 p.a.d, .int .i64 p.b.y, .int .i64 p.b.m, .bool p.b.s, .int .i64 p.b.d, vo, vd, vc]] w fun e w' => e = .returned (.int .i64 (c.perE p)) ∧ Ext w w' := by
 obtain ⟨t1, s1, e1, _⟩ := id hP.o
 subst e1
 obtain ⟨t2, s2, _, e2, _⟩ := id hP.d
 subst e2
 obtain ⟨t3, s3, e3, _⟩ := id hP.c
 subst e3
 have NV := fun w h1 v h2 => validP_any A A' ca cb c v [p] w h1 h2
 simp only [validE_one] at NV
 generalize c.perE p = pe at *
 go_enter Tryz.func11, Tryz.ntmps11
 go_upto_region 1 with (fail)
 obtain ⟨v, hv⟩ := zgE ((w.alloc (.cells #[.slice A c.nk ca, .slice A' c.ny cb] 25)).alloc (.cells #[.string p.h, .int .i64 p.a.y, .int .i64 p.a.m, .bool p.a.s, .int .i64 p.a.d, .int .i64 p.b.y, .int .i64 p.b.m, .bool p.b.s, .int .i64 p.b.d, .slice t1 p.o.length s1, .slice t2 p.d.length s2, .slice t3 p.c.length s3] 31))
 rw [← hv]
 have E : Ext w v := by rw [hv]; exact ((Ext.refl _).alloc _).alloc _
 have B1 : Held v w.heap.size 25 #[.slice A c.nk ca, .slice A' c.ny cb] := by rw [hv]; exact (Held.new _ _ _).alloc _
 have B2 : Held v (w.heap.size + 1) 31 #[.string p.h, .int .i64 p.a.y, .int .i64 p.a.m, .bool p.a.s, .int .i64 p.a.d, .int .i64 p.b.y, .int .i64 p.b.m, .bool p.b.s, .int .i64 p.b.d, .slice t1 p.o.length s1, .slice t2 p.d.length s2, .slice t3 p.c.length s3] := by rw [hv]; exact Held.at _ _ _ _ (by simp)
 clear hv
 obtain ⟨b2, hb2⟩ := zgE (w.heap.size + 1)
 rw [← hb2] at B2 ⊢
 obtain ⟨b1, hb1⟩ := zgE (w.heap.size)
 rw [← hb1] at B1 ⊢
 have hbr : w.heap.size ≤ b2 := by omega
 have hbr1 : w.heap.size ≤ b1 := by omega
 have hn21 : b2 ≠ b1 := by omega
 clear hb1 hb2
 have C := hC.ext E
 have P := hP.ext E
 clear hC hP
 obtain ⟨k0, k1⟩ := B1.c2
 have kl := B1.lt
 obtain ⟨p0, p1, p2, p3, p4, p5, p6, p7, p8, p9, p10, p11⟩ := B2.c12
 have pl := B2.lt
 have AL := (Ext.refl v).alloc (.cells #[.string p.h, .int .i64 p.a.y, .int .i64 p.a.m, .bool p.a.s, .int .i64 p.a.d, .int .i64 p.b.y, .int .i64 p.b.m, .bool p.b.s, .int .i64 p.b.d, .slice t1 p.o.length s1, .slice t2 p.d.length s2, .slice t3 p.c.length s3] 31)
 have NV1 := NV _ (C.ext AL) (.slice (some ⟨v.heap.size, 0, none⟩) 1 1) (persAt_one (t := 31) (Held.new v 31 #[.string p.h, .int .i64 p.a.y, .int .i64 p.a.m, .bool p.a.s, .int .i64 p.a.d, .int .i64 p.b.y, .int .i64 p.b.m, .bool p.b.s, .int .i64 p.b.d, .slice t1 p.o.length s1, .slice t2 p.d.length s2, .slice t3 p.c.length s3]) (P.ext AL))
 clear NV
 go_wp2_with (go_at_call 28; (with_reducible refine Calls.mono (NV1) ?_); rintro e w1 ⟨rfl, h1⟩)
 go_ret
 exact ⟨rfl, ((E.trans AL).trans h1).alloc _⟩
set_option maxHeartbeats 20000000 in
theorem ledgerPeriodChecks_walk (A A' : Option Addr) (ca cb : Nat) (c : Cal) (p : Pd) (vo vd vc : Value) (w : World) (hC : CalAt w A ca A' cb c) (hP : PerAt w p vo vd vc) (hL : p.Light) (hZ : Zro w) :
  Calls Tryz.prog 3 #[.agg #[.slice A c.nk ca, .slice A' c.ny cb], .agg #[.string p.h, .int .i64 p.a.y, .int .i64 p.a.m, .bool p.a.s, .int .i64 p.a.d, .int .i64 p.b.y, .int .i64 p.b.m, .bool p.b.s, .int .i64 p.b.d, vo, vd, vc]] w fun e w' => e = .returned (.bool true) ∧ Ext w w' := by
 obtain ⟨t1, s1, e1, _⟩ := id hP.o
 subst e1
 obtain ⟨t2, s2, _, e2, _⟩ := id hP.d
 subst e2
 obtain ⟨t3, s3, e3, _⟩ := id hP.c
 subst e3
 have NCP := fun v h => copyPerR_any p (.slice t1 p.o.length s1) (.slice t2 p.d.length s2) (.slice t3 p.c.length s3) v h hL.o hL.c hL.l hL.d
 have N1 := fun v a b d h1 h2 => close_any A A' ca cb c p a b d v h1 h2
 have N2 := fun v h1 h2 => closeR_any A A' ca cb c p (.slice t1 p.o.length s1) (.slice t2 p.d.length s2) (.slice t3 p.c.length s3) v h1 h2 hL.o
 have N3 := fun v a b d h1 h2 => checkPer_any A A' ca cb c p a b d v h1 h2
 have N4 := fun v h1 h2 => chkPerR_any A A' ca cb c p (.slice t1 p.o.length s1) (.slice t2 p.d.length s2) (.slice t3 p.c.length s3) v h1 h2
 have N5 := fun v a b d h1 h2 => samePerR_any p a b d (.slice t1 p.o.length s1) (.slice t2 p.d.length s2) (.slice t3 p.c.length s3) v h1 h2
 generalize c.closeV p = V at *
 obtain ⟨S, Se⟩ := V
 simp only at N1 N2
 have N6 := fun v a b h1 h2 => sameLotsR_any a b S v h1 h2
 generalize c.perE p = pe at *
 go_enter Tryz.func3, Tryz.ntmps3
 go_upto_region 1 with (fail)
 obtain ⟨v, hv⟩ := zgE ((w.alloc (.cells #[.slice A c.nk ca, .slice A' c.ny cb] 25)).alloc (.cells #[.string p.h, .int .i64 p.a.y, .int .i64 p.a.m, .bool p.a.s, .int .i64 p.a.d, .int .i64 p.b.y, .int .i64 p.b.m, .bool p.b.s, .int .i64 p.b.d, .slice t1 p.o.length s1, .slice t2 p.d.length s2, .slice t3 p.c.length s3] 31))
 rw [← hv]
 have E : Ext w v := by rw [hv]; exact ((Ext.refl _).alloc _).alloc _
 have B1 : Held v w.heap.size 25 #[.slice A c.nk ca, .slice A' c.ny cb] := by rw [hv]; exact (Held.new _ _ _).alloc _
 have B2 : Held v (w.heap.size + 1) 31 #[.string p.h, .int .i64 p.a.y, .int .i64 p.a.m, .bool p.a.s, .int .i64 p.a.d, .int .i64 p.b.y, .int .i64 p.b.m, .bool p.b.s, .int .i64 p.b.d, .slice t1 p.o.length s1, .slice t2 p.d.length s2, .slice t3 p.c.length s3] := by rw [hv]; exact Held.at _ _ _ _ (by simp)
 clear hv
 obtain ⟨b2, hb2⟩ := zgE (w.heap.size + 1)
 rw [← hb2] at B2 ⊢
 obtain ⟨b1, hb1⟩ := zgE (w.heap.size)
 rw [← hb1] at B1 ⊢
 have hbr : w.heap.size ≤ b2 := by omega
 have hbr1 : w.heap.size ≤ b1 := by omega
 have hn21 : b2 ≠ b1 := by omega
 clear hb1 hb2
 have Z := hZ.ext E
 have C := hC.ext E
 have P := hP.ext E
 clear hC hP hZ hL
 obtain ⟨k0, k1⟩ := B1.c2
 have kl := B1.lt
 obtain ⟨p0, p1, p2, p3, p4, p5, p6, p7, p8, p9, p10, p11⟩ := B2.c12
 have pl := B2.lt
 go_upto_region 2 with (go_at_call 8; (with_reducible refine Calls.mono (NCP _ P) ?_); rintro e w1 ⟨vo, vd, vc, rfl, hx, D0⟩; replace E := E.trans hx; replace Z := Z.ext hx; replace C := C.ext hx; replace P := P.ext hx; replace B1 := B1.ext hx; replace B2 := B2.ext hx; clear hx; clear k0 k1 kl p0 p1 p2 p3 p4 p5 p6 p7 p8 p9 p10 p11 pl; obtain ⟨k0, k1⟩ := B1.c2; have kl := B1.lt; obtain ⟨p0, p1, p2, p3, p4, p5, p6, p7, p8, p9, p10, p11⟩ := B2.c12; have pl := B2.lt; have D := perAt_own D0; clear D0; obtain ⟨o1, q1, e1, _⟩ := id D.o; subst e1; obtain ⟨o2, q2, _, e2, _⟩ := id D.d; subst e2; obtain ⟨o3, q3, e3, _⟩ := id D.c; subst e3)
 obtain ⟨vb1, hv⟩ := zgE (w1.alloc (.cells #[.string p.h, .int .i64 p.a.y, .int .i64 p.a.m, .bool p.a.s, .int .i64 p.a.d, .int .i64 p.b.y, .int .i64 p.b.m, .bool p.b.s, .int .i64 p.b.d, .slice o1 p.o.length q1, .slice o2 p.d.length q2, .slice o3 p.c.length q3] 31))
 rw [← hv]
 have hx : Ext w1 vb1 := by rw [hv]; exact (Ext.refl _).alloc _
 have BO : Held vb1 w1.heap.size 31 #[.string p.h, .int .i64 p.a.y, .int .i64 p.a.m, .bool p.a.s, .int .i64 p.a.d, .int .i64 p.b.y, .int .i64 p.b.m, .bool p.b.s, .int .i64 p.b.d, .slice o1 p.o.length q1, .slice o2 p.d.length q2, .slice o3 p.c.length q3] := by rw [hv]; exact Held.new _ _ _
 clear hv
 generalize w1.heap.size = bb1 at *
 clear k0 k1 kl p0 p1 p2 p3 p4 p5 p6 p7 p8 p9 p10 p11 pl
 replace E := E.trans hx
 replace Z := Z.ext hx
 replace C := C.ext hx
 replace P := P.ext hx
 replace D := D.ext hx
 replace B1 := B1.ext hx
 replace B2 := B2.ext hx
 clear hx
 obtain ⟨k0, k1⟩ := B1.c2
 have kl := B1.lt
 obtain ⟨p0, p1, p2, p3, p4, p5, p6, p7, p8, p9, p10, p11⟩ := B2.c12
 have pl := B2.lt
 obtain ⟨o0, o1, o2, o3, o4, o5, o6, o7, o8, o9, o10, o11⟩ := BO.c12
 have ol := BO.lt
 go_upto_region 3 with (go_at_call 9; (with_reducible refine Calls.mono (N1 _ _ _ _ C D) ?_); rintro e w2 ⟨r1, rfl, hx, L1⟩; replace E := E.trans hx; replace Z := Z.ext hx; replace C := C.ext hx; replace P := P.ext hx; replace D := D.ext hx; replace B1 := B1.ext hx; replace B2 := B2.ext hx; replace BO := BO.ext hx; clear hx; clear k0 k1 kl p0 p1 p2 p3 p4 p5 p6 p7 p8 p9 p10 p11 pl o0 o1 o2 o3 o4 o5 o6 o7 o8 o9 o10 o11 ol; obtain ⟨k0, k1⟩ := B1.c2; have kl := B1.lt; obtain ⟨p0, p1, p2, p3, p4, p5, p6, p7, p8, p9, p10, p11⟩ := B2.c12; have pl := B2.lt; obtain ⟨o0, o1, o2, o3, o4, o5, o6, o7, o8, o9, o10, o11⟩ := BO.c12; have ol := BO.lt)
 obtain ⟨R1, Q1, e1, _⟩ := id L1
 subst e1
 go_upto_region 4 with (go_at_call 10; (with_reducible refine Calls.mono (N2 _ C P) ?_); rintro e w3 ⟨r2, rfl, hx, L2⟩; replace E := E.trans hx; replace Z := Z.ext hx; replace C := C.ext hx; replace P := P.ext hx; replace D := D.ext hx; replace L1 := L1.ext hx; replace B1 := B1.ext hx; replace B2 := B2.ext hx; replace BO := BO.ext hx; clear hx; clear k0 k1 kl p0 p1 p2 p3 p4 p5 p6 p7 p8 p9 p10 p11 pl o0 o1 o2 o3 o4 o5 o6 o7 o8 o9 o10 o11 ol; obtain ⟨k0, k1⟩ := B1.c2; have kl := B1.lt; obtain ⟨p0, p1, p2, p3, p4, p5, p6, p7, p8, p9, p10, p11⟩ := B2.c12; have pl := B2.lt; obtain ⟨o0, o1, o2, o3, o4, o5, o6, o7, o8, o9, o10, o11⟩ := BO.c12; have ol := BO.lt)
 obtain ⟨R2, Q2, e1, _⟩ := id L2
 subst e1
 refine wp_region_xw w3 mixed (by kernel_rfl) (by repeat (first | exact Ext.refl _ | (refine Ext.alloc ?_ _) | (refine Ext.trans ?_ (by assumption)))) ?_
 intro hne hrx hry
 try simp only []
 try simp only [List.append_eq, List.cons_append, List.nil_append]
 skip
 repeat (first
  | go_big_quiet_skip
  | (go_big_quiet_want; go_big_quiet_op; go_big_quiet_on)
  | (go_big_quiet_want; go_big_quiet_op; apply Exists.intro; refine ⟨fun u => ?_, ?_⟩
     ·first
       | (go_at_call 11; (with_reducible refine Calls.mono (N3 _ _ _ _ (C.ext u.e) (D.ext u.e)) ?_); rintro e w' ⟨rfl, hb⟩; exact ⟨rfl, u.back hb⟩)
       | (go_at_call 12; (with_reducible refine Calls.mono (N4 _ (C.ext u.e) (P.ext u.e)) ?_); rintro e w' ⟨rfl, hb⟩; exact ⟨rfl, u.back hb⟩)
       | (go_at_call 13; (with_reducible refine Calls.mono (N6 _ _ _ (L1.ext u.e) (L2.ext u.e)) ?_); rintro e w' ⟨rfl, hb⟩; exact ⟨rfl, u.back hb⟩)
       | (go_at_call 14; (with_reducible refine Calls.mono (N5 _ _ _ _ (D.ext u.e) (P.ext u.e)) ?_); rintro e w' ⟨rfl, hb⟩; exact ⟨rfl, u.back hb⟩)
       | (go_at_call 15; (with_reducible refine Calls.mono (works8_any _ (Z.ext u.e)) ?_); rintro e w' ⟨rfl, hb⟩; exact ⟨rfl, u.back hb⟩)
     go_big_quiet_on))
 clear hne hry hrx
 refine wpQuiet_nil ?_
 intro w7 hx
 obtain ⟨hcw7, hfw7, hzw7⟩ := Ext.rules hx
 try simp only [World.size_alloc] at hzw7
 obtain ⟨hcbw7, hfbw7, hzbw7⟩ := Ext.rules (show Ext w3 w7 from (by repeat (first | exact Ext.refl _ | (refine Ext.alloc ?_ _) | (refine Ext.trans ?_ (by assumption)))))
 clear hcw7 hfw7
 go_wp2
 go_ret
 exact ⟨rfl, E.trans hx⟩
end Go.Proofs.YtneiofnlmblglaaGreatDoor