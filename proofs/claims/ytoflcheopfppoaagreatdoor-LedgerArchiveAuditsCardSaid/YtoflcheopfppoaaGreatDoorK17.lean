/- Walks and plain facts, packed; no conditions but those that each states. -/
import Derived.Test.YtoflcheopfppoaaGreatDoorK16
set_option maxRecDepth 100000
set_option maxHeartbeats 4000000
namespace Go.Proofs.YtoflcheopfppoaaGreatDoor
section
open Go Go.RowKit Go.Shelf
attribute [local go_sem] Z8
attribute [local go_sem high] Qlj Qlg Qlh
theorem Qm9 {w : World} {b : Nat} (h : Qb w b 108 #[.int .i64 10,.int .i64 1,.int .i64 1,.int .i64 3,.int .i64 5,.int .i64 1,.int .i64 1,.int .i64 1]) : Qm w (some ⟨b,0,none⟩) 2 4 (Xa t8):=by
 refine Lv h ?_;intro i j v hi hv;have hj : j < 4:=(List.getElem?_eq_some_iff.1 hv).1;rw [← hv];have h1 : i = 0 ∨ i = 1:=Qa;have h2 : j = 0 ∨ j = 1 ∨ j = 2 ∨ j = 3:=Qa;rcases h1 with rfl | rfl <;> rcases h2 with rfl | rfl | rfl | rfl <;> rfl
theorem Nl {w : World} {b : Nat} (h : Qb w b 112 #[.int .i64 2,.int .i64 1,.int .i64 2,.int .i64 0,.int .i64 1,.bool false,.int .i64 1,.int .i64 0,.int .i64 1,.bool false,.int .i64 30]) : Qm w (some ⟨b,0,none⟩) 1 11 (Zz w8):=by
 refine Lv h ?_;intro i j v hi hv;obtain rfl : i = 0:=Qa;have hj : j < 11:=(List.getElem?_eq_some_iff.1 hv).1;rw [← hv];have : j = 0 ∨ j = 1 ∨ j = 2 ∨ j = 3 ∨ j = 4 ∨ j = 5 ∨ j = 6 ∨ j = 7 ∨ j = 8 ∨ j = 9 ∨ j = 10:=Qa;rcases this with rfl | rfl | rfl | rfl | rfl | rfl | rfl | rfl | rfl | rfl | rfl <;> rfl
theorem Cc {A A' : OA} {ca cb : Nat} {w : World} (hC : Za w A ca A' cb X5) {bp : Nat} (hB : Qm w (some ⟨bp,0,none⟩) 1 6 (Yz p8)) (hZ : Jc w) : Calls Tryz.prog 23 #[.agg #[.slice A 1 ca,.slice A' 3 cb],.agg #[.int .i64 60,.int .i64 1,.int .i64 1,.int .i64 5,.int .i64 0,.int .i64 1,.bool false,.int .i64 1],.slice (some ⟨bp,0,none⟩) 1 1,.agg #[.int .i64 1,.int .i64 7,.bool false,.int .i64 1]] w fun e w' => e = .returned (.tuple #[.agg #[.int .i64 56,.int .i64 1,.int .i64 56,.int .i64 5,.int .i64 0,.int .i64 1],.int .i64 0]) ∧ Qc w w':=by
 have:=Qco A A' ca cb X5 (some ⟨bp,0,none⟩) 1 1 l8 p8 (by unfold Rt.In;decide) (by unfold Rt.In;decide) (fun i _ => show (Rt.mk 10 1).In by unfold Rt.In;decide) w hC hB zD hZ d8;rw [Qht] at this;exact this
theorem Cd {A A' : OA} {ca cb : Nat} {w : World} (hC : Za w A ca A' cb X5) {bp : Nat} (hB : Qm w (some ⟨bp,0,none⟩) 1 6 (Yz p8)) (hZ : Jc w) : Calls Tryz.prog 39 #[.agg #[.slice A 1 ca,.slice A' 3 cb],.agg #[.int .i64 60,.int .i64 1,.int .i64 1,.int .i64 5,.int .i64 0,.int .i64 1,.bool false,.int .i64 1],.slice (some ⟨bp,0,none⟩) 1 1,.agg #[.int .i64 1,.int .i64 7,.bool false,.int .i64 1]] w fun e w' => e = .returned (.tuple #[.agg #[.int .i64 336,.int .i64 5],.int .i64 0]) ∧ Qc w w':=by
 have:=Qni A A' ca cb X5 (some ⟨bp,0,none⟩) 1 1 l8 p8 (by unfold Rt.In;decide) (by unfold Rt.In;decide) (fun i _ => show (Rt.mk 10 1).In by unfold Rt.In;decide) w hC hB zD hZ d8;rw [Qhu] at this;exact this
theorem Qd7 : ∀ i,i < 2 → (t8 i).a.In ∧ (t8 i).r.In:=fun i hi => by
 have : i = 0 ∨ i = 1:=Qa;rcases this with rfl | rfl <;> (unfold Rt.In;decide)
theorem Nt {A A' : OA} {ca cb : Nat} {w : World} (hC : Za w A ca A' cb X5) {bt bc : Nat} (hT : Qm w (some ⟨bt,0,none⟩) 2 4 (Xa t8)) (hS : Qm w (some ⟨bc,0,none⟩) 1 11 (Zz w8)) (hZ : Jc w) : Calls Tryz.prog 40 #[.agg #[.slice A 1 ca,.slice A' 3 cb],.slice (some ⟨bt,0,none⟩) 2 2,.slice (some ⟨bc,0,none⟩) 1 1] w fun e w' => e = .returned (.tuple #[.agg #[.int .i64 (-5),.int .i64 1],.int .i64 0]) ∧ Qc w w':=by
 have:=Qfy A A' ca cb X5 (some ⟨bt,0,none⟩) 2 2 t8 (some ⟨bc,0,none⟩) 1 1 w8 w hC Qd7 hT zD (fun i _ => ⟨show (Rt.mk 1 2).In by unfold Rt.In;decide,show (-9223372036854775808 : Int) ≤ 2 by decide,show (2 : Int) ≤ 9223372036854775807 by decide⟩) hS zD hZ;rw [e8_bal] at this;exact this
theorem w8_few {A A' : OA} {ca cb : Nat} {w : World} (hC : Za w A ca A' cb X5) {bt : Nat} (hT : Qm w (some ⟨bt,0,none⟩) 2 4 (Xa t8)) (hZ : Jc w) : Calls Tryz.prog 41 #[.agg #[.slice A 1 ca,.slice A' 3 cb],.slice (some ⟨bt,0,none⟩) 2 2,.agg #[.int .i64 1,.int .i64 2],.agg #[.int .i64 0,.int .i64 1,.bool false,.int .i64 1],.agg #[.int .i64 0,.int .i64 1,.bool false,.int .i64 30]] w fun e w' => e = .returned (.tuple #[.int .i64 3,.int .i64 0]) ∧ Qc w w':=by
 have:=Qh7 A A' ca cb X5 (some ⟨bt,0,none⟩) 2 2 t8 ⟨1,2⟩ (by unfold Rt.In;decide) f8 u8' w hC Qd7 hT zD hZ;rw [e8_few] at this;exact this
theorem Qop (w : World) : Calls Tryz.prog 42 #[.agg #[.int .i64 10,.int .i64 2,.int .i64 5],.agg #[.int .i64 4,.int .i64 5],.agg #[.int .i64 1,.int .i64 10],.int .i64 1] w fun e w' => e = .returned (.tuple #[.agg #[.int .i64 12,.int .i64 4,.int .i64 7],.int .i64 0]) ∧ Qc w w':=by
 have:=Qih h8 ⟨4,5⟩ ⟨1,10⟩ 1 (by unfold Rt.In;decide) (by unfold Rt.In;decide) zD zD w;rw [Qhs] at this;exact this
theorem Qoo {A A' : OA} {ca cb : Nat} {w : World} (hC : Za w A ca A' cb X5) {o x y d : Nat} (hO : Zl w (.slice (some ⟨o,0,none⟩) 1 1) [⟨Uj,10⟩]) (hX : Zl w (.slice (some ⟨x,0,none⟩) 1 1) [⟨Uj,5⟩]) (hY : Zl w (.slice (some ⟨y,0,none⟩) 1 1) [⟨Uj,20⟩]) (hD : Qb w d 57 #[.int .i64 0,.int .i64 1,.bool false,.int .i64 2,.bool true,.string ⟨#[98]⟩,.slice (some ⟨x,0,none⟩) 1 1,.int .i64 0,.int .i64 1,.bool false,.int .i64 2,.bool false,.string ⟨#[98]⟩,.slice (some ⟨y,0,none⟩) 1 1]) :
  Calls Tryz.prog 43 #[.agg #[.slice A 1 ca,.slice A' 3 cb],.agg #[.string ⟨#[97]⟩,.int .i64 0,.int .i64 1,.bool false,.int .i64 1,.int .i64 0,.int .i64 1,.bool false,.int .i64 30,.slice (some ⟨o,0,none⟩) 1 1,.slice (some ⟨d,0,none⟩) 2 2,.slice none 0 0]] w fun e w' => ∃ v,e = .returned (.tuple #[v,.int .i64 0]) ∧ Qc w w' ∧ Zl w' v [⟨Uj,-5⟩]:=by
 have hDl : Va w (.slice (some ⟨d,0,none⟩) 2 2) pd8.d:=by
  refine ⟨some ⟨d,0,none⟩,2,fun i => if i = 0 then .slice (some ⟨x,0,none⟩) 1 1 else .slice (some ⟨y,0,none⟩) 1 1,rfl,?_,Nat.le_refl _,by decide,fun h => (by cases h),?_⟩
  ·refine Lv hD ?_;intro i j v hi hv;have hi : i < 2:=hi;have hj : j < 7:=(List.getElem?_eq_some_iff.1 hv).1;rw [← hv];have h1 : i = 0 ∨ i = 1:=Qa;have h2 : j = 0 ∨ j = 1 ∨ j = 2 ∨ j = 3 ∨ j = 4 ∨ j = 5 ∨ j = 6:=Qa;rcases h1 with rfl | rfl <;> rcases h2 with rfl | rfl | rfl | rfl | rfl | rfl | rfl <;> rfl
  ·intro i hi;have hi : i < 2:=hi;have h1 : i = 0 ∨ i = 1:=Qa;rcases h1 with rfl | rfl
   ·exact hX
   ·exact hY
 have:=Qgu A A' ca cb X5 pd8 _ _ _ w hC ⟨hO,hDl,Fp w⟩;rw [Qhr] at this;exact this
theorem Qot (w : World) (hZ : Jc w) :
  Calls Tryz.prog 12 #[] w fun e w' => e = .returned (.bool true) ∧ Qc w w':=by
 go_enter Tryz.func12,Tryz.ntmps12
 go_upto_region 2 with (go_at_call 21;refine zc (Qf9 _) ?_;rintro e w1 ⟨A,A',ca,cb,rfl,h1,C⟩)
 obtain ⟨v1,hv⟩:=Qe (w1.alloc (.cells #[.slice A 1 ca,.slice A' 3 cb] 25));rw [← hv];have h2 : Qc w1 v1:=by rw [hv];exact (Qc.refl _).alloc _
 have B1 : Qb v1 w1.heap.size 25 #[.slice A 1 ca,.slice A' 3 cb]:=by rw [hv];exact Qb.new _ _ _
 clear hv;generalize w1.heap.size = b1 at *;have E:=h1.trans h2;replace C:=C.ext h2;have Z:=hZ.ext E;clear h1 h2 hZ;have NI:=fun w hz => Qan ⟨60,1⟩ ⟨1,5⟩ 180 (by unfold Rt.In;decide) (by unfold Rt.In;decide) zD zD w hz
 simp only [e8_int] at NI;go_upto_region 3 with (first | (go_at_call 25;refine zc (U5 _ _ _) ?_;rintro e wa ⟨rfl,hx⟩;replace E:=E.trans hx;replace C:=C.ext hx;replace Z:=Z.ext hx;replace B1:=B1.ext hx;clear hx) | (go_at_call 28;refine zc (NI _ Z) ?_;rintro e w2 ⟨rfl,hx⟩;replace E:=E.trans hx;replace C:=C.ext hx;replace Z:=Z.ext hx;replace B1:=B1.ext hx;clear hx))
 obtain ⟨v2,hv⟩:=Qe (w2.alloc (.cells #[.int .i64 6,.int .i64 1] 65));rw [← hv];have h2 : Qc w2 v2:=by rw [hv];exact (Qc.refl _).alloc _
 have B2 : Qb v2 w2.heap.size 65 #[.int .i64 6,.int .i64 1]:=by rw [hv];exact Qb.new _ _ _
 clear hv;generalize w2.heap.size = b2 at *;replace E:=E.trans h2;replace C:=C.ext h2;replace Z:=Z.ext h2;replace B1:=B1.ext h2;clear h2;have ND:=fun w => Qhq ⟨1,3⟩ (by unfold Rt.In;decide) w
 simp only [e8_dbl] at ND;clear NI;go_upto_region 4 with (first | (go_at_call 25;refine zc (U5 _ _ _) ?_;rintro e wa ⟨rfl,hx⟩;replace E:=E.trans hx;replace C:=C.ext hx;replace Z:=Z.ext hx;replace B1:=B1.ext hx;replace B2:=B2.ext hx;clear hx) | (go_at_call 26;refine zc (ND _) ?_;rintro e w3 ⟨rfl,hx⟩;replace E:=E.trans hx;replace C:=C.ext hx;replace Z:=Z.ext hx;replace B1:=B1.ext hx;replace B2:=B2.ext hx;clear hx))
 clear ND;go_upto_region 5 with (go_at_call 22;refine zc (Qj8 _) ?_;rintro e w4 ⟨bp,rfl,hx,PR⟩;replace E:=E.trans hx;replace C:=C.ext hx;replace Z:=Z.ext hx;replace B1:=B1.ext hx;replace B2:=B2.ext hx;clear hx)
 obtain ⟨v4,hv⟩:=Qe (w4.alloc (.cells #[.int .i64 60,.int .i64 1,.int .i64 1,.int .i64 5,.int .i64 0,.int .i64 1,.bool false,.int .i64 1] 67));rw [← hv];have h2 : Qc w4 v4:=by rw [hv];exact (Qc.refl _).alloc _
 have B4 : Qb v4 w4.heap.size 67 #[.int .i64 60,.int .i64 1,.int .i64 1,.int .i64 5,.int .i64 0,.int .i64 1,.bool false,.int .i64 1]:=by rw [hv];exact Qb.new _ _ _
 clear hv;generalize w4.heap.size = b4 at *;replace E:=E.trans h2;replace PR:=PR.ext h2;replace C:=C.ext h2;replace Z:=Z.ext h2;replace B1:=B1.ext h2;replace B2:=B2.ext h2;clear h2;go_upto_region 5 with fail
 apply K0 (S:=fun w' r => Qc v4 w' ∧ Qb w' r 72 #[.int .i64 56,.int .i64 1,.int .i64 56,.int .i64 5,.int .i64 0,.int .i64 1])
 ·refine Zc 11 [6,7,9,10] (fun x => Qc v4 x) mixed rfl ?_;intro vz hvz;have HC:=hvz;refine Qs (g:=8) [0,1,2] HC ?_
  constructor
  refine ⟨fun u hu => ?_,?_⟩
  ·obtain ⟨k0,k1,lk⟩:=Qb.d2 (B1.ext hu);obtain ⟨p0,p1,p2,p3,p4,p5,p6,p7,lp⟩:=Qb.d8 (B4.ext hu);exact Qk
  refine Zq 3 8 ?_ ?_
  ·go_wp2_with (go_at_call 24;refine zc (Xv _ _ _ _) ?_;rintro e wa ⟨rfl,hx⟩);replace HC:=HC.trans hx;clear hx;refine Qf HC ?_;refine Zq 4 8 ?_ ?_
   ·go_wp2_with (go_at_call 23;refine zc (Cc (C.ext HC) (PR.ext HC) (Z.ext HC)) ?_;rintro e wa ⟨rfl,hx⟩);replace HC:=HC.trans hx;clear hx;refine Qf HC ?_;refine Qs (g:=5) [5] HC ?_
    constructor
    refine ⟨fun u hu => ?_,?_⟩
    ·obtain ⟨k0,k1,lk⟩:=Qb.d2 (B1.ext hu);obtain ⟨p0,p1,p2,p3,p4,p5,p6,p7,lp⟩:=Qb.d8 (B4.ext hu);exact Qk
    refine Yg (g:=3) [6,7] ?_
    constructor
    refine ⟨fun u hu => ?_,?_⟩
    ·exact Qk
    refine Qj 8 ?_;go_wp2;obtain ⟨b9,wb,hbq,hwb,H5,HC',hx,g5⟩:=Ql HC 72 #[.int .i64 0,.int .i64 0,.int .i64 0,.int .i64 0,.int .i64 0,.int .i64 0];rw [← hbq,← hwb];replace HC:=HC';clear hbq hwb hx HC';refine Qf HC ?_;refine Qr 9 ?_;obtain ⟨z0,z1,z2,z3,z4,z5,x0,x1,x2,x3,x4,x5,lx⟩:=Qb.e6 H5;go_wp2;have H6:=Xt H5 (.int .i64 56) (.int .i64 1) (.int .i64 56) (.int .i64 5) (.int .i64 0) (.int .i64 1);replace HC:=Xs HC g5 (.int .i64 56) (.int .i64 1) (.int .i64 56) (.int .i64 5) (.int .i64 0) (.int .i64 1);clear z0 x0 z1 x1 z2 x2 z3 x3 z4 x4 z5 x5 lx H5;generalize World.setCell _ _ _ = wq at *;refine Qq ?_;refine Qr 10 ?_;go_wp2;refine Qq ?_
    refine Qx ?_;exact Yw b9 ⟨HC,H6⟩ rfl
   ·go_wp2;obtain ⟨b9,wb,hbq,hwb,H5,HC',hx,g5⟩:=Ql HC 72 #[.int .i64 0,.int .i64 0,.int .i64 0,.int .i64 0,.int .i64 0,.int .i64 0];rw [← hbq,← hwb];replace HC:=HC';clear hbq hwb hx HC';refine Qf HC ?_;refine Qj 4 ?_;go_wp2_with (go_at_call 23;refine zc (Cc (C.ext HC) (PR.ext HC) (Z.ext HC)) ?_;rintro e wa ⟨rfl,hx⟩);replace HC:=HC.trans hx;try replace H5:=H5.ext hx
    clear hx;refine Qf HC ?_;refine Qs (g:=4) [5] HC ?_
    constructor
    refine ⟨fun u hu => ?_,?_⟩
    ·obtain ⟨k0,k1,lk⟩:=Qb.d2 (B1.ext hu);obtain ⟨p0,p1,p2,p3,p4,p5,p6,p7,lp⟩:=Qb.d8 (B4.ext hu);exact Qk
    refine Yg (g:=2) [6,7] ?_
    constructor
    refine ⟨fun u hu => ?_,?_⟩
    ·exact Qk
    refine Qr 9 ?_;obtain ⟨z0,z1,z2,z3,z4,z5,x0,x1,x2,x3,x4,x5,lx⟩:=Qb.e6 H5;go_wp2;have H6:=Xt H5 (.int .i64 56) (.int .i64 1) (.int .i64 56) (.int .i64 5) (.int .i64 0) (.int .i64 1);replace HC:=Xs HC g5 (.int .i64 56) (.int .i64 1) (.int .i64 56) (.int .i64 5) (.int .i64 0) (.int .i64 1);clear z0 x0 z1 x1 z2 x2 z3 x3 z4 x4 z5 x5 lx H5;generalize World.setCell _ _ _ = wq at *;refine Qq ?_;refine Qr 10 ?_;go_wp2;refine Qq ?_;refine Qx ?_;exact Yw b9 ⟨HC,H6⟩ rfl
  ·go_wp2;obtain ⟨b9,wb,hbq,hwb,H5,HC',hx,g5⟩:=Ql HC 72 #[.int .i64 0,.int .i64 0,.int .i64 0,.int .i64 0,.int .i64 0,.int .i64 0];rw [← hbq,← hwb];replace HC:=HC';clear hbq hwb hx HC';refine Qf HC ?_;refine Qj 3 ?_;go_wp2_with (go_at_call 24;refine zc (Xv _ _ _ _) ?_;rintro e wa ⟨rfl,hx⟩);replace HC:=HC.trans hx;try replace H5:=H5.ext hx
   clear hx;refine Qf HC ?_;refine Qj 4 ?_;go_wp2_with (go_at_call 23;refine zc (Cc (C.ext HC) (PR.ext HC) (Z.ext HC)) ?_;rintro e wa ⟨rfl,hx⟩);replace HC:=HC.trans hx;try replace H5:=H5.ext hx
   clear hx;refine Qf HC ?_;refine Qs (g:=4) [5] HC ?_
   constructor
   refine ⟨fun u hu => ?_,?_⟩
   ·obtain ⟨k0,k1,lk⟩:=Qb.d2 (B1.ext hu);obtain ⟨p0,p1,p2,p3,p4,p5,p6,p7,lp⟩:=Qb.d8 (B4.ext hu);exact Qk
   refine Yg (g:=2) [6,7] ?_
   constructor
   refine ⟨fun u hu => ?_,?_⟩
   ·exact Qk
   refine Qr 9 ?_;obtain ⟨z0,z1,z2,z3,z4,z5,x0,x1,x2,x3,x4,x5,lx⟩:=Qb.e6 H5;go_wp2;have H6:=Xt H5 (.int .i64 56) (.int .i64 1) (.int .i64 56) (.int .i64 5) (.int .i64 0) (.int .i64 1);replace HC:=Xs HC g5 (.int .i64 56) (.int .i64 1) (.int .i64 56) (.int .i64 5) (.int .i64 0) (.int .i64 1);clear z0 x0 z1 x1 z2 x2 z3 x3 z4 x4 z5 x5 lx H5;generalize World.setCell _ _ _ = wq at *;refine Qq ?_;refine Qr 10 ?_;go_wp2;refine Qq ?_;refine Qx ?_;exact Yw b9 ⟨HC,H6⟩ rfl
 rintro b5 v5 ⟨h2,B5⟩;replace E:=E.trans h2;replace C:=C.ext h2;replace Z:=Z.ext h2;replace B1:=B1.ext h2;replace B2:=B2.ext h2;replace PR:=PR.ext h2;replace B4:=B4.ext h2;clear h2;go_upto_region 6 with fail
 apply K0 (S:=fun w' r => Qc v5 w' ∧ Qb w' r 65 #[.int .i64 336,.int .i64 5])
 ·refine Zc 11 [6,7,9,10] (fun x => Qc v5 x) mixed rfl ?_;intro vz hvz;have HC:=hvz;refine Qs (g:=8) [0,1,2] HC ?_
  constructor
  refine ⟨fun u hu => ?_,?_⟩
  ·obtain ⟨k0,k1,lk⟩:=Qb.d2 (B1.ext hu);obtain ⟨p0,p1,p2,p3,p4,p5,p6,p7,lp⟩:=Qb.d8 (B4.ext hu);exact Qk
  refine Zq 3 8 ?_ ?_
  ·go_wp2_with (go_at_call 24;refine zc (Xv _ _ _ _) ?_;rintro e wa ⟨rfl,hx⟩);replace HC:=HC.trans hx;clear hx;refine Qf HC ?_;refine Zq 4 8 ?_ ?_
   ·go_wp2_with (go_at_call 39;refine zc (Cd (C.ext HC) (PR.ext HC) (Z.ext HC)) ?_;rintro e wa ⟨rfl,hx⟩);replace HC:=HC.trans hx;clear hx;refine Qf HC ?_;refine Qs (g:=5) [5] HC ?_
    constructor
    refine ⟨fun u hu => ?_,?_⟩
    ·obtain ⟨k0,k1,lk⟩:=Qb.d2 (B1.ext hu);obtain ⟨p0,p1,p2,p3,p4,p5,p6,p7,lp⟩:=Qb.d8 (B4.ext hu);exact Qk
    refine Yg (g:=3) [6,7] ?_
    constructor
    refine ⟨fun u hu => ?_,?_⟩
    ·exact Qk
    refine Qj 8 ?_;go_wp2;obtain ⟨b9,wb,hbq,hwb,H5,HC',hx,g5⟩:=Ql HC 65 #[.int .i64 0,.int .i64 0];rw [← hbq,← hwb];replace HC:=HC';clear hbq hwb hx HC';refine Qf HC ?_;refine Qr 9 ?_;obtain ⟨z0,z1,x0,x1,lx⟩:=Qb.e2 H5;go_wp2;have H6:=Qo H5 (.int .i64 336) (.int .i64 5);replace HC:=(HC.setCell (p:=⟨b9,0,none⟩) g5 (.int .i64 336)).setCell (p:=⟨b9,1,none⟩) g5 (.int .i64 5);clear z0 x0 z1 x1 lx H5;generalize World.setCell _ _ _ = wq at *;refine Qq ?_;refine Qr 10 ?_;go_wp2;refine Qq ?_;refine Qx ?_;exact Yw b9 ⟨HC,H6⟩ rfl
   ·go_wp2;obtain ⟨b9,wb,hbq,hwb,H5,HC',hx,g5⟩:=Ql HC 65 #[.int .i64 0,.int .i64 0];rw [← hbq,← hwb];replace HC:=HC';clear hbq hwb hx HC';refine Qf HC ?_;refine Qj 4 ?_;go_wp2_with (go_at_call 39;refine zc (Cd (C.ext HC) (PR.ext HC) (Z.ext HC)) ?_;rintro e wa ⟨rfl,hx⟩);replace HC:=HC.trans hx;try replace H5:=H5.ext hx
    clear hx;refine Qf HC ?_;refine Qs (g:=4) [5] HC ?_
    constructor
    refine ⟨fun u hu => ?_,?_⟩
    ·obtain ⟨k0,k1,lk⟩:=Qb.d2 (B1.ext hu);obtain ⟨p0,p1,p2,p3,p4,p5,p6,p7,lp⟩:=Qb.d8 (B4.ext hu);exact Qk
    refine Yg (g:=2) [6,7] ?_
    constructor
    refine ⟨fun u hu => ?_,?_⟩
    ·exact Qk
    refine Qr 9 ?_;obtain ⟨z0,z1,x0,x1,lx⟩:=Qb.e2 H5;go_wp2;have H6:=Qo H5 (.int .i64 336) (.int .i64 5);replace HC:=(HC.setCell (p:=⟨b9,0,none⟩) g5 (.int .i64 336)).setCell (p:=⟨b9,1,none⟩) g5 (.int .i64 5);clear z0 x0 z1 x1 lx H5;generalize World.setCell _ _ _ = wq at *;refine Qq ?_;refine Qr 10 ?_;go_wp2;refine Qq ?_;refine Qx ?_;exact Yw b9 ⟨HC,H6⟩ rfl
  ·go_wp2;obtain ⟨b9,wb,hbq,hwb,H5,HC',hx,g5⟩:=Ql HC 65 #[.int .i64 0,.int .i64 0];rw [← hbq,← hwb];replace HC:=HC';clear hbq hwb hx HC';refine Qf HC ?_;refine Qj 3 ?_;go_wp2_with (go_at_call 24;refine zc (Xv _ _ _ _) ?_;rintro e wa ⟨rfl,hx⟩);replace HC:=HC.trans hx;try replace H5:=H5.ext hx
   clear hx;refine Qf HC ?_;refine Qj 4 ?_;go_wp2_with (go_at_call 39;refine zc (Cd (C.ext HC) (PR.ext HC) (Z.ext HC)) ?_;rintro e wa ⟨rfl,hx⟩);replace HC:=HC.trans hx;try replace H5:=H5.ext hx
   clear hx;refine Qf HC ?_;refine Qs (g:=4) [5] HC ?_
   constructor
   refine ⟨fun u hu => ?_,?_⟩
   ·obtain ⟨k0,k1,lk⟩:=Qb.d2 (B1.ext hu);obtain ⟨p0,p1,p2,p3,p4,p5,p6,p7,lp⟩:=Qb.d8 (B4.ext hu);exact Qk
   refine Yg (g:=2) [6,7] ?_
   constructor
   refine ⟨fun u hu => ?_,?_⟩
   ·exact Qk
   refine Qr 9 ?_;obtain ⟨z0,z1,x0,x1,lx⟩:=Qb.e2 H5;go_wp2;have H6:=Qo H5 (.int .i64 336) (.int .i64 5);replace HC:=(HC.setCell (p:=⟨b9,0,none⟩) g5 (.int .i64 336)).setCell (p:=⟨b9,1,none⟩) g5 (.int .i64 5);clear z0 x0 z1 x1 lx H5;generalize World.setCell _ _ _ = wq at *;refine Qq ?_;refine Qr 10 ?_;go_wp2;refine Qq ?_;refine Qx ?_;exact Yw b9 ⟨HC,H6⟩ rfl
 rintro b6 v6 ⟨h2,B6⟩;replace E:=E.trans h2;replace C:=C.ext h2;replace Z:=Z.ext h2;replace B1:=B1.ext h2;replace B2:=B2.ext h2;replace PR:=PR.ext h2;replace B4:=B4.ext h2;replace B5:=B5.ext h2;clear h2;clear PR B4;go_upto_region 7 with fail
 obtain ⟨k0,k1,lk⟩:=Qb.d2 B2;obtain ⟨x0,x1,x2,x3,x4,x5,lx⟩:=Qb.d6 B5;obtain ⟨y0,y1,ly⟩:=Qb.d2 B6;have m1:=fun x1 x2 x3 => U5 x1 x2 x3
 refine Qy v6 ?_;intro v7 h2;clear m1;obtain ⟨_,_,_,_⟩:=Qv v6 h2;replace E:=E.trans h2;replace C:=C.ext h2;replace Z:=Z.ext h2;replace B1:=B1.ext h2;replace B2:=B2.ext h2;replace B5:=B5.ext h2;replace B6:=B6.ext h2;clear h2;clear k0 k1 lk x0 x1 x2 x3 x4 x5 lx y0 y1 ly B2 B5 B6;go_upto_region 10 with (go_at_call 25;refine zc (U5 _ _ _) ?_;rintro e wa ⟨rfl,hx⟩;replace E:=E.trans hx;replace C:=C.ext hx;replace Z:=Z.ext hx;replace B1:=B1.ext hx;clear hx)
 obtain ⟨v9,hv⟩:=Qe (wa.alloc (.cells #[.int .i64 10,.int .i64 1,.int .i64 1,.int .i64 3,.int .i64 5,.int .i64 1,.int .i64 1,.int .i64 1] 108));rw [← hv];have h2 : Qc wa v9:=by rw [hv];exact (Qc.refl _).alloc _
 have B7 : Qb v9 wa.heap.size 108 #[.int .i64 10,.int .i64 1,.int .i64 1,.int .i64 3,.int .i64 5,.int .i64 1,.int .i64 1,.int .i64 1]:=by rw [hv];exact Qb.new _ _ _
 clear hv;generalize wa.heap.size = b7 at *;have PT:=Qm9 B7;clear B7;replace E:=E.trans h2;replace C:=C.ext h2;replace Z:=Z.ext h2;replace B1:=B1.ext h2;clear h2;go_upto_region 10 with fail
 apply Ul (S:=fun w' r _ => Qc v9 w' ∧ Qb w' r 65 #[.int .i64 (-5),.int .i64 1])
 ·refine Zc 14 [9,10,12,13] (fun x => Qc v9 x) mixed rfl ?_;intro vz hvz;have HC:=hvz;refine Qs (g:=12) [0,1] HC ?_
  constructor
  refine ⟨fun u hu => ?_,?_⟩
  ·obtain ⟨k0,k1,lk⟩:=Qb.d2 (B1.ext hu);exact Qk
  refine Zq 2 11 ?_ ?_
  ·go_wp2_with (go_at_call 25;refine zc (U5 _ _ _) ?_;rintro e wa ⟨rfl,hx⟩);replace HC:=HC.trans hx;clear hx;refine Qf HC ?_;refine Zq 3 11 ?_ ?_
   ·go_wp2_with (go_at_call 24;refine zc (Xv _ _ _ _) ?_;rintro e wa ⟨rfl,hx⟩);replace HC:=HC.trans hx;clear hx;refine Qf HC ?_;refine Zq 4 11 ?_ ?_
    ·go_wp2_with (go_at_call 24;refine zc (Xv _ _ _ _) ?_;rintro e wa ⟨rfl,hx⟩);replace HC:=HC.trans hx;clear hx;refine Qf HC ?_;refine Qs (g:=8) [5] HC ?_
     constructor
     refine ⟨fun u hu => ?_,?_⟩
     ·obtain ⟨k0,k1,lk⟩:=Qb.d2 (B1.ext hu);exact Qk
     refine Zq 6 11 ?_ ?_
     ·go_wp2;obtain ⟨bc,wb,hbq,hwb,HCW,HC',hx,_⟩:=Ql HC 112 #[.int .i64 2,.int .i64 1,.int .i64 2,.int .i64 0,.int .i64 1,.bool false,.int .i64 1,.int .i64 0,.int .i64 1,.bool false,.int .i64 30];rw [← hbq,← hwb];replace HC:=HC';clear hbq hwb hx HC';refine Qf HC ?_;refine Zq 7 11 ?_ ?_
      ·go_wp2_with (go_at_call 40;refine zc (Nt (C.ext HC) (PT.ext HC) (Nl HCW) (Z.ext HC)) ?_;rintro e wa ⟨rfl,hx⟩);replace HC:=HC.trans hx;clear hx;refine Qf HC ?_;refine Qs (g:=5) [8] HC ?_
       constructor
       refine ⟨fun u hu => ?_,?_⟩
       ·obtain ⟨k0,k1,lk⟩:=Qb.d2 (B1.ext hu);exact Qk
       refine Yg (g:=3) [9,10] ?_
       constructor
       refine ⟨fun u hu => ?_,?_⟩
       ·exact Qk
       refine Qj 11 ?_;go_wp2;obtain ⟨b9,wb,hbq,hwb,H5,HC',hx,g5⟩:=Ql HC 65 #[.int .i64 0,.int .i64 0];rw [← hbq,← hwb];replace HC:=HC';try replace HCW:=HCW.ext hx
       clear hbq hwb hx HC';refine Qf HC ?_;refine Qr 12 ?_;obtain ⟨z0,z1,x0,x1,lx⟩:=Qb.e2 H5;go_wp2;have H6:=Qo H5 (.int .i64 (-5)) (.int .i64 1);replace HC:=(HC.setCell (p:=⟨b9,0,none⟩) g5 (.int .i64 (-5))).setCell (p:=⟨b9,1,none⟩) g5 (.int .i64 1);clear z0 x0 z1 x1 lx H5;generalize World.setCell _ _ _ = wq at *;refine Qq ?_;refine Qr 13 ?_;go_wp2;refine Qq ?_;refine Qx ?_;exact Jl b9 bc ⟨HC,H6⟩ rfl
      ·go_wp2;obtain ⟨b9,wb,hbq,hwb,H5,HC',hx,g5⟩:=Ql HC 65 #[.int .i64 0,.int .i64 0];rw [← hbq,← hwb];replace HC:=HC';try replace HCW:=HCW.ext hx
       clear hbq hwb hx HC';refine Qf HC ?_;refine Qj 7 ?_;go_wp2_with (go_at_call 40;refine zc (Nt (C.ext HC) (PT.ext HC) (Nl HCW) (Z.ext HC)) ?_;rintro e wa ⟨rfl,hx⟩);replace HC:=HC.trans hx;try replace H5:=H5.ext hx
       clear hx;refine Qf HC ?_;refine Qs (g:=4) [8] HC ?_
       constructor
       refine ⟨fun u hu => ?_,?_⟩
       ·obtain ⟨k0,k1,lk⟩:=Qb.d2 (B1.ext hu);exact Qk
       refine Yg (g:=2) [9,10] ?_
       constructor
       refine ⟨fun u hu => ?_,?_⟩
       ·exact Qk
       refine Qr 12 ?_;obtain ⟨z0,z1,x0,x1,lx⟩:=Qb.e2 H5;go_wp2;have H6:=Qo H5 (.int .i64 (-5)) (.int .i64 1);replace HC:=(HC.setCell (p:=⟨b9,0,none⟩) g5 (.int .i64 (-5))).setCell (p:=⟨b9,1,none⟩) g5 (.int .i64 1);clear z0 x0 z1 x1 lx H5;generalize World.setCell _ _ _ = wq at *;refine Qq ?_;refine Qr 13 ?_;go_wp2;refine Qq ?_;refine Qx ?_;exact Jl b9 bc ⟨HC,H6⟩ rfl
     ·go_wp2;obtain ⟨b9,wb,hbq,hwb,H5,HC',hx,g5⟩:=Ql HC 65 #[.int .i64 0,.int .i64 0];rw [← hbq,← hwb];replace HC:=HC';clear hbq hwb hx HC';refine Qf HC ?_;refine Qj 6 ?_;go_wp2;obtain ⟨bc,wb,hbq,hwb,HCW,HC',hx,_⟩:=Ql HC 112 #[.int .i64 2,.int .i64 1,.int .i64 2,.int .i64 0,.int .i64 1,.bool false,.int .i64 1,.int .i64 0,.int .i64 1,.bool false,.int .i64 30];rw [← hbq,← hwb];replace HC:=HC';try replace H5:=H5.ext hx
      clear hbq hwb hx HC';refine Qf HC ?_;refine Qj 7 ?_;go_wp2_with (go_at_call 40;refine zc (Nt (C.ext HC) (PT.ext HC) (Nl HCW) (Z.ext HC)) ?_;rintro e wa ⟨rfl,hx⟩);replace HC:=HC.trans hx;try replace H5:=H5.ext hx
      clear hx;refine Qf HC ?_;refine Qs (g:=4) [8] HC ?_
      constructor
      refine ⟨fun u hu => ?_,?_⟩
      ·obtain ⟨k0,k1,lk⟩:=Qb.d2 (B1.ext hu);exact Qk
      refine Yg (g:=2) [9,10] ?_
      constructor
      refine ⟨fun u hu => ?_,?_⟩
      ·exact Qk
      refine Qr 12 ?_;obtain ⟨z0,z1,x0,x1,lx⟩:=Qb.e2 H5;go_wp2;have H6:=Qo H5 (.int .i64 (-5)) (.int .i64 1);replace HC:=(HC.setCell (p:=⟨b9,0,none⟩) g5 (.int .i64 (-5))).setCell (p:=⟨b9,1,none⟩) g5 (.int .i64 1);clear z0 x0 z1 x1 lx H5;generalize World.setCell _ _ _ = wq at *;refine Qq ?_;refine Qr 13 ?_;go_wp2;refine Qq ?_;refine Qx ?_;exact Jl b9 bc ⟨HC,H6⟩ rfl
    ·go_wp2;obtain ⟨b9,wb,hbq,hwb,H5,HC',hx,g5⟩:=Ql HC 65 #[.int .i64 0,.int .i64 0];rw [← hbq,← hwb];replace HC:=HC';clear hbq hwb hx HC';refine Qf HC ?_;refine Qj 4 ?_;go_wp2_with (go_at_call 24;refine zc (Xv _ _ _ _) ?_;rintro e wa ⟨rfl,hx⟩);replace HC:=HC.trans hx;try replace H5:=H5.ext hx
     clear hx;refine Qf HC ?_;refine Qs (g:=7) [5] HC ?_
     constructor
     refine ⟨fun u hu => ?_,?_⟩
     ·obtain ⟨k0,k1,lk⟩:=Qb.d2 (B1.ext hu);exact Qk
     refine Qj 6 ?_;go_wp2;obtain ⟨bc,wb,hbq,hwb,HCW,HC',hx,_⟩:=Ql HC 112 #[.int .i64 2,.int .i64 1,.int .i64 2,.int .i64 0,.int .i64 1,.bool false,.int .i64 1,.int .i64 0,.int .i64 1,.bool false,.int .i64 30];rw [← hbq,← hwb];replace HC:=HC';try replace H5:=H5.ext hx
     clear hbq hwb hx HC';refine Qf HC ?_;refine Qj 7 ?_;go_wp2_with (go_at_call 40;refine zc (Nt (C.ext HC) (PT.ext HC) (Nl HCW) (Z.ext HC)) ?_;rintro e wa ⟨rfl,hx⟩);replace HC:=HC.trans hx;try replace H5:=H5.ext hx
     clear hx;refine Qf HC ?_;refine Qs (g:=4) [8] HC ?_
     constructor
     refine ⟨fun u hu => ?_,?_⟩
     ·obtain ⟨k0,k1,lk⟩:=Qb.d2 (B1.ext hu);exact Qk
     refine Yg (g:=2) [9,10] ?_
     constructor
     refine ⟨fun u hu => ?_,?_⟩
     ·exact Qk
     refine Qr 12 ?_;obtain ⟨z0,z1,x0,x1,lx⟩:=Qb.e2 H5;go_wp2;have H6:=Qo H5 (.int .i64 (-5)) (.int .i64 1);replace HC:=(HC.setCell (p:=⟨b9,0,none⟩) g5 (.int .i64 (-5))).setCell (p:=⟨b9,1,none⟩) g5 (.int .i64 1);clear z0 x0 z1 x1 lx H5;generalize World.setCell _ _ _ = wq at *;refine Qq ?_;refine Qr 13 ?_;go_wp2;refine Qq ?_;refine Qx ?_;exact Jl b9 bc ⟨HC,H6⟩ rfl
   ·go_wp2;obtain ⟨b9,wb,hbq,hwb,H5,HC',hx,g5⟩:=Ql HC 65 #[.int .i64 0,.int .i64 0];rw [← hbq,← hwb];replace HC:=HC';clear hbq hwb hx HC';refine Qf HC ?_;refine Qj 3 ?_;go_wp2_with (go_at_call 24;refine zc (Xv _ _ _ _) ?_;rintro e wa ⟨rfl,hx⟩);replace HC:=HC.trans hx;try replace H5:=H5.ext hx
    clear hx;refine Qf HC ?_;refine Qj 4 ?_;go_wp2_with (go_at_call 24;refine zc (Xv _ _ _ _) ?_;rintro e wa ⟨rfl,hx⟩);replace HC:=HC.trans hx;try replace H5:=H5.ext hx
    clear hx;refine Qf HC ?_;refine Qs (g:=7) [5] HC ?_
    constructor
    refine ⟨fun u hu => ?_,?_⟩
    ·obtain ⟨k0,k1,lk⟩:=Qb.d2 (B1.ext hu);exact Qk
    refine Qj 6 ?_;go_wp2;obtain ⟨bc,wb,hbq,hwb,HCW,HC',hx,_⟩:=Ql HC 112 #[.int .i64 2,.int .i64 1,.int .i64 2,.int .i64 0,.int .i64 1,.bool false,.int .i64 1,.int .i64 0,.int .i64 1,.bool false,.int .i64 30];rw [← hbq,← hwb];replace HC:=HC';try replace H5:=H5.ext hx
    clear hbq hwb hx HC';refine Qf HC ?_;refine Qj 7 ?_;go_wp2_with (go_at_call 40;refine zc (Nt (C.ext HC) (PT.ext HC) (Nl HCW) (Z.ext HC)) ?_;rintro e wa ⟨rfl,hx⟩);replace HC:=HC.trans hx;try replace H5:=H5.ext hx
    clear hx;refine Qf HC ?_;refine Qs (g:=4) [8] HC ?_
    constructor
    refine ⟨fun u hu => ?_,?_⟩
    ·obtain ⟨k0,k1,lk⟩:=Qb.d2 (B1.ext hu);exact Qk
    refine Yg (g:=2) [9,10] ?_
    constructor
    refine ⟨fun u hu => ?_,?_⟩
    ·exact Qk
    refine Qr 12 ?_;obtain ⟨z0,z1,x0,x1,lx⟩:=Qb.e2 H5;go_wp2;have H6:=Qo H5 (.int .i64 (-5)) (.int .i64 1);replace HC:=(HC.setCell (p:=⟨b9,0,none⟩) g5 (.int .i64 (-5))).setCell (p:=⟨b9,1,none⟩) g5 (.int .i64 1);clear z0 x0 z1 x1 lx H5;generalize World.setCell _ _ _ = wq at *;refine Qq ?_;refine Qr 13 ?_;go_wp2;refine Qq ?_;refine Qx ?_;exact Jl b9 bc ⟨HC,H6⟩ rfl
  ·go_wp2;obtain ⟨b9,wb,hbq,hwb,H5,HC',hx,g5⟩:=Ql HC 65 #[.int .i64 0,.int .i64 0];rw [← hbq,← hwb];replace HC:=HC';clear hbq hwb hx HC';refine Qf HC ?_;refine Qj 2 ?_;go_wp2_with (go_at_call 25;refine zc (U5 _ _ _) ?_;rintro e wa ⟨rfl,hx⟩);replace HC:=HC.trans hx;try replace H5:=H5.ext hx
   clear hx;refine Qf HC ?_;refine Qj 3 ?_;go_wp2_with (go_at_call 24;refine zc (Xv _ _ _ _) ?_;rintro e wa ⟨rfl,hx⟩);replace HC:=HC.trans hx;try replace H5:=H5.ext hx
   clear hx;refine Qf HC ?_;refine Qj 4 ?_;go_wp2_with (go_at_call 24;refine zc (Xv _ _ _ _) ?_;rintro e wa ⟨rfl,hx⟩);replace HC:=HC.trans hx;try replace H5:=H5.ext hx
   clear hx;refine Qf HC ?_;refine Qs (g:=7) [5] HC ?_
   constructor
   refine ⟨fun u hu => ?_,?_⟩
   ·obtain ⟨k0,k1,lk⟩:=Qb.d2 (B1.ext hu);exact Qk
   refine Qj 6 ?_;go_wp2;obtain ⟨bc,wb,hbq,hwb,HCW,HC',hx,_⟩:=Ql HC 112 #[.int .i64 2,.int .i64 1,.int .i64 2,.int .i64 0,.int .i64 1,.bool false,.int .i64 1,.int .i64 0,.int .i64 1,.bool false,.int .i64 30];rw [← hbq,← hwb];replace HC:=HC';try replace H5:=H5.ext hx
   clear hbq hwb hx HC';refine Qf HC ?_;refine Qj 7 ?_;go_wp2_with (go_at_call 40;refine zc (Nt (C.ext HC) (PT.ext HC) (Nl HCW) (Z.ext HC)) ?_;rintro e wa ⟨rfl,hx⟩);replace HC:=HC.trans hx;try replace H5:=H5.ext hx
   clear hx;refine Qf HC ?_;refine Qs (g:=4) [8] HC ?_
   constructor
   refine ⟨fun u hu => ?_,?_⟩
   ·obtain ⟨k0,k1,lk⟩:=Qb.d2 (B1.ext hu);exact Qk
   refine Yg (g:=2) [9,10] ?_
   constructor
   refine ⟨fun u hu => ?_,?_⟩
   ·exact Qk
   refine Qr 12 ?_;obtain ⟨z0,z1,x0,x1,lx⟩:=Qb.e2 H5;go_wp2;have H6:=Qo H5 (.int .i64 (-5)) (.int .i64 1);replace HC:=(HC.setCell (p:=⟨b9,0,none⟩) g5 (.int .i64 (-5))).setCell (p:=⟨b9,1,none⟩) g5 (.int .i64 1);clear z0 x0 z1 x1 lx H5;generalize World.setCell _ _ _ = wq at *;refine Qq ?_;refine Qr 13 ?_;go_wp2;refine Qq ?_;refine Qx ?_;exact Jl b9 bc ⟨HC,H6⟩ rfl
 rintro b10 bc v10 ⟨h2,B10⟩;replace E:=E.trans h2;replace C:=C.ext h2;replace Z:=Z.ext h2;replace B1:=B1.ext h2;replace PT:=PT.ext h2;clear h2;go_upto_region 11 with fail
 obtain ⟨k0,k1,lk⟩:=Qb.d2 B1;have m1:=fun x1 x2 x3 => U5 x1 x2 x3
 have m2:=fun x1 x2 x3 x4 => Xv x1 x2 x3 x4
 have n1:=fun u : XW _ => w8_few (C.ext u.e) (PT.ext u.e) (Z.ext u.e)
 refine Qy v10 ?_;intro v11 h2;clear m1 m2 n1;obtain ⟨_,_,_,_⟩:=Qv v10 h2;replace E:=E.trans h2;replace C:=C.ext h2;replace Z:=Z.ext h2;replace B1:=B1.ext h2;replace PT:=PT.ext h2;replace B10:=B10.ext h2;clear h2;clear k0 k1 lk PT;go_upto_region 13 with (first | (go_at_call 25;refine zc (U5 _ _ _) ?_;rintro e wa ⟨rfl,hx⟩;replace E:=E.trans hx;replace C:=C.ext hx;replace Z:=Z.ext hx;replace B1:=B1.ext hx;replace B10:=B10.ext hx;clear hx) | (go_at_call 42;refine zc (Qop _) ?_;rintro e w12 ⟨rfl,hx⟩;replace E:=E.trans hx;replace C:=C.ext hx;replace Z:=Z.ext hx;replace B1:=B1.ext hx;replace B10:=B10.ext hx;clear hx))
 obtain ⟨v12,hv⟩:=Qe (w12.alloc (.cells #[.int .i64 12,.int .i64 4,.int .i64 7] 116));rw [← hv];have h2 : Qc w12 v12:=by rw [hv];exact (Qc.refl _).alloc _
 have B12 : Qb v12 w12.heap.size 116 #[.int .i64 12,.int .i64 4,.int .i64 7]:=by rw [hv];exact Qb.new _ _ _
 clear hv;generalize w12.heap.size = b12 at *;replace E:=E.trans h2;replace C:=C.ext h2;replace Z:=Z.ext h2;replace B1:=B1.ext h2;replace B10:=B10.ext h2;clear h2;obtain ⟨x0,x1,lx⟩:=Qb.d2 B10;obtain ⟨y0,y1,y2,ly⟩:=Qb.d3 B12;have m1:=fun x1 x2 x3 => U5 x1 x2 x3
 refine Qy v12 ?_;intro v13 h2;clear m1;obtain ⟨_,_,_,_⟩:=Qv v12 h2;clear x0 x1 lx y0 y1 y2 ly B10 B12;replace E:=E.trans h2;replace C:=C.ext h2;replace Z:=Z.ext h2;replace B1:=B1.ext h2;clear h2;go_upto_region 15 with fail
 refine Zc 18 [14,15,16,17] (fun x => Qc v13 x) mixed rfl ?_;intro vz hvz;have HC:=hvz;refine Qs (g:=17) [0] HC ?_
 constructor
 refine ⟨fun u hu => ?_,?_⟩
 ·obtain ⟨k0,k1,lk⟩:=Qb.d2 (B1.ext hu);exact Qk
 refine Qj 1 ?_;go_wp2_with (go_at_call 24;refine zc (Xv _ _ _ _) ?_;rintro e wa ⟨rfl,hx⟩);replace HC:=HC.trans hx;clear hx;refine Qf HC ?_;refine Qj 2 ?_;go_wp2_with (go_at_call 24;refine zc (Xv _ _ _ _) ?_;rintro e wa ⟨rfl,hx⟩);replace HC:=HC.trans hx;clear hx;refine Qf HC ?_;refine Qj 3 ?_;go_wp2_with (go_at_call 20;refine zc (Fo _ _ _) ?_;rintro e wa ⟨bo,rfl,hx,LO⟩);replace HC:=HC.trans hx;clear hx;refine Qf HC ?_;refine Qj 4 ?_;go_wp2_with (go_at_call 24;refine zc (Xv _ _ _ _) ?_;rintro e wa ⟨rfl,hx⟩);replace HC:=HC.trans hx;try replace LO:=LO.ext hx
 clear hx;refine Qf HC ?_;refine Qj 5 ?_;go_wp2_with (go_at_call 20;refine zc (Fo _ _ _) ?_;rintro e wa ⟨bx,rfl,hx,LX⟩);replace HC:=HC.trans hx;try replace LO:=LO.ext hx
 clear hx;refine Qf HC ?_;refine Qs (g:=11) [6] HC ?_
 constructor
 refine ⟨fun u hu => ?_,?_⟩
 ·obtain ⟨k0,k1,lk⟩:=Qb.d2 (B1.ext hu);exact Qk
 refine Qj 7 ?_;go_wp2_with (go_at_call 24;refine zc (Xv _ _ _ _) ?_;rintro e wa ⟨rfl,hx⟩);replace HC:=HC.trans hx;try replace LO:=LO.ext hx
 try replace LX:=LX.ext hx
 clear hx;refine Qf HC ?_;refine Qj 8 ?_;go_wp2_with (go_at_call 20;refine zc (Fo _ _ _) ?_;rintro e wa ⟨by',rfl,hx,LY⟩);replace HC:=HC.trans hx;try replace LO:=LO.ext hx
 try replace LX:=LX.ext hx
 clear hx;refine Qf HC ?_;refine Qs (g:=8) [9] HC ?_
 constructor
 refine ⟨fun u hu => ?_,?_⟩
 ·obtain ⟨k0,k1,lk⟩:=Qb.d2 (B1.ext hu);exact Qk
 refine Qj 10 ?_;go_wp2;obtain ⟨bd,wb,hbq,hwb,HD,HC',hx,_⟩:=Ql HC 57 #[.int .i64 0,.int .i64 1,.bool false,.int .i64 2,.bool true,.string ⟨#[98]⟩,.slice (some ⟨bx,0,none⟩) 1 1,.int .i64 0,.int .i64 1,.bool false,.int .i64 2,.bool false,.string ⟨#[98]⟩,.slice (some ⟨by',0,none⟩) 1 1];rw [← hbq,← hwb];replace HC:=HC';try replace LO:=LO.ext hx
 try replace LX:=LX.ext hx
 try replace LY:=LY.ext hx
 clear hbq hwb hx HC';refine Qf HC ?_;refine Qs (g:=6) [11] HC ?_
 constructor
 refine ⟨fun u hu => ?_,?_⟩
 ·obtain ⟨k0,k1,lk⟩:=Qb.d2 (B1.ext hu);exact Qk
 refine Qj 12 ?_;have NC:=Qoo (C.ext HC) LO LX LY HD;go_wp2_with (go_at_call 43;refine zc (NC) ?_;rintro e wa ⟨v16,rfl,hx,L16⟩);replace HC:=HC.trans hx;clear hx NC;refine Qf HC ?_;refine Qs (g:=4) [13] HC ?_
 constructor
 refine ⟨fun u hu => ?_,?_⟩
 ·obtain ⟨k0,k1,lk⟩:=Qb.d2 (B1.ext hu);exact Qk
 refine Yg (g:=2) [14,15] ?_
 constructor
 refine ⟨fun u hu => ?_,?_⟩
 ·exact Qk
 refine Qr 16 ?_;go_wp2;refine Qq ?_;refine Qr 17 ?_;go_wp2;refine Qq ?_;refine Qx ?_;replace E:=E.trans HC;clear HC LO LX LY HD;go_wp2_with (first | (go_at_call 20;refine zc (Fo _ _ _) ?_;rintro e wa ⟨bl,rfl,hx,LL⟩;have NS:=Qnf _ _ [⟨Uj,-5⟩] [⟨Uj,-5⟩] _ (L16.ext hx) LL;rw [zt (rfl : ([⟨Uj,-5⟩] : List Lt) = [⟨Uj,-5⟩])] at NS) | (go_at_call 29;refine zc (NS) ?_;rintro e wz ⟨rfl,hz⟩));go_ret;exact ⟨rfl,(E.trans hx).trans hz⟩
end
end Go.Proofs.YtoflcheopfppoaaGreatDoor
