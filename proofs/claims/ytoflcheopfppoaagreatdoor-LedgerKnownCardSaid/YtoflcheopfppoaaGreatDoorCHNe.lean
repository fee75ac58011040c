/- The walk of LedgerKnown. -/
import Derived.Test.YtoflcheopfppoaaGreatDoorH9
import Derived.Test.YtoflcheopfppoaaGreatDoorH10
import Derived.Test.YtoflcheopfppoaaGreatDoorH11
import Derived.Test.YtoflcheopfppoaaGreatDoorH12
import Derived.Test.YtoflcheopfppoaaGreatDoorH14
import Derived.Test.YtoflcheopfppoaaGreatDoorH16
set_option maxRecDepth 100000
set_option maxHeartbeats 4000000
namespace Go.Proofs.YtoflcheopfppoaaGreatDoor
open Go Go.RowKit Go.Shelf
attribute [local go_sem] Zu
attribute [local go_sem high] I0 Qje Qf7
theorem info_payK : (Tryz.prog.info? 78).map (fun i => (i.zero,i.size,i.bytes)) = some (some (.agg #[.int .i64 0,.int .i64 0,.bool false,.int .i64 0,.int .i64 0,.int .i64 0]),6,48):=by kernel_rfl
theorem held_news {W : World} {b : Nat} {t : TypeId} {l : List Value} (h : Qa W b t l.toArray) : ∀ j u,l[j]? = some u → W.cell? ((⟨b,0,none⟩ : Addr).add j) = some u:=fun j u hj => by
 have e : (⟨b,0,none⟩ : Addr).add j = ⟨b,j,none⟩:=by unfold Addr.add;split <;> simp_all
 rw [e,h.cell j]
 simpa using hj
theorem pay_own {w : World} {b base : Nat} (h : Qa w b 78 #[.int .i64 0,.int .i64 7,.bool false,.int .i64 1,.int .i64 10,.int .i64 1]) (hb : base ≤ b) : w.ownsRow base 78 6 (.slice (some ⟨b,0,none⟩) 1 1) 1 [.int .i64 0,.int .i64 7,.bool false,.int .i64 1,.int .i64 10,.int .i64 1] :=
 ⟨rfl,.inr ⟨b,1,_,rfl,hb,h,Nat.le_refl _,by decide,rfl,rfl⟩⟩
theorem pay_rows {w : World} {b : Nat} (h : Qa w b 78 #[.int .i64 0,.int .i64 7,.bool false,.int .i64 1,.int .i64 10,.int .i64 1]) : Qo w (some ⟨b,0,none⟩) 1 6 (J8 p8):=by
 refine Xj h ?_;intro i j v hi hv;obtain rfl : i = 0:=Qb;have hj : j < 6:=(List.getElem?_eq_some_iff.1 hv).1;rw [← hv];have : j = 0 ∨ j = 1 ∨ j = 2 ∨ j = 3 ∨ j = 4 ∨ j = 5:=Qb;rcases this with rfl | rfl | rfl | rfl | rfl | rfl <;> rfl
theorem pay2_rows {w : World} {base g m : Nat} (h : w.ownsRow base 78 6 (.slice (some ⟨g,0,none⟩) 2 m) 2 ([.int .i64 0,.int .i64 7,.bool false,.int .i64 1,.int .i64 10,.int .i64 1] ++ [.int .i64 1,.int .i64 7,.bool false,.int .i64 1,.int .i64 100,.int .i64 1])) : Qo w (some ⟨g,0,none⟩) 2 6 (J8 pp8):=fun _ => by
 refine ⟨g,0,rfl,(h.lt g rfl).2,fun i j v hi hv => ?_⟩;have hj : j < 6:=(List.getElem?_eq_some_iff.1 hv).1;rw [Nat.zero_add,World.ownsRow.cellAt h (i * 6 + j) Qb,← hv];have h1 : i = 0 ∨ i = 1:=Qb;have h2 : j = 0 ∨ j = 1 ∨ j = 2 ∨ j = 3 ∨ j = 4 ∨ j = 5:=Qb;rcases h1 with rfl | rfl <;> rcases h2 with rfl | rfl | rfl | rfl | rfl | rfl <;> rfl
theorem loan9_any (w : World) :
  Calls Tryz.prog 22 #[] w fun e w' => ∃ b,e = .returned (.tuple #[.agg #[.int .i64 60,.int .i64 1,.int .i64 1,.int .i64 5,.int .i64 0,.int .i64 1,.bool false,.int .i64 1],.slice (some ⟨b,0,none⟩) 1 1]) ∧ Qc w w' ∧ w.heap.size ≤ b ∧ Qa w' b 78 #[.int .i64 0,.int .i64 7,.bool false,.int .i64 1,.int .i64 10,.int .i64 1]:=by
 go_enter Tryz.func22,Tryz.ntmps22
 go_upto_region 1 with fail
 obtain ⟨v,hv⟩:=Qf (w.alloc (.cells #[.int .i64 0,.int .i64 0,.int .i64 0,.int .i64 0,.int .i64 0,.int .i64 0,.bool false,.int .i64 0] 67));rw [← hv];have E : Qc w v:=by rw [hv];exact (Qc.refl _).alloc _
 have B1 : Qa v w.heap.size 67 #[.int .i64 0,.int .i64 0,.int .i64 0,.int .i64 0,.int .i64 0,.int .i64 0,.bool false,.int .i64 0]:=by rw [hv];exact Qa.new _ _ _
 clear hv;obtain ⟨b1,hb1⟩:=Qf (w.heap.size);rw [← hb1] at B1 ⊢;have hbr : w.heap.size ≤ b1:=Qb;clear hb1;go_wp2_with (first | (go_at_call 25;(with_reducible refine zc (Y3 10 1 _) ?_);rintro e wa ⟨rfl,hx⟩;replace E:=E.trans hx;replace B1:=B1.ext hx;clear hx;have BA:=B1.alloc (.cells #[.int .i64 0,.int .i64 7,.bool false,.int .i64 1,.int .i64 10,.int .i64 1] 78);have z0:=BA.frozen 0;have z1:=BA.frozen 1;have z2:=BA.frozen 2;have z3:=BA.frozen 3;have z4:=BA.frozen 4;have z5:=BA.frozen 5;have z6:=BA.frozen 6;have z7:=BA.frozen 7;obtain ⟨x0,x1,x2,x3,x4,x5,x6,x7⟩:=BA.c8;have lx:=BA.lt) | (go_at_call 25;(with_reducible refine zc (Y3 _ _ _) ?_);rintro e wa ⟨rfl,hx⟩;replace E:=E.trans hx;replace B1:=B1.ext hx;clear hx) | (go_at_call 24;refine zc (Jc _ _ _ _) ?_;rintro e wa ⟨rfl,hx⟩;replace E:=E.trans hx;replace B1:=B1.ext hx;clear hx))
 have H8:=Ai (B1.alloc (.cells #[.int .i64 0,.int .i64 7,.bool false,.int .i64 1,.int .i64 10,.int .i64 1] 78)) (.int .i64 60) (.int .i64 1) (.int .i64 1) (.int .i64 5) (.int .i64 0) (.int .i64 1) (.bool false) (.int .i64 1);have E8:=ext8 (E.alloc (.cells #[.int .i64 0,.int .i64 7,.bool false,.int .i64 1,.int .i64 10,.int .i64 1] 78)) hbr (.int .i64 60) (.int .i64 1) (.int .i64 1) (.int .i64 5) (.int .i64 0) (.int .i64 1) (.bool false) (.int .i64 1);have P8:=Aj (Qa.new wa 78 #[.int .i64 0,.int .i64 7,.bool false,.int .i64 1,.int .i64 10,.int .i64 1]) (show wa.heap.size ≠ b1 by have:=B1.lt;omega) (.int .i64 60) (.int .i64 1) (.int .i64 1) (.int .i64 5) (.int .i64 0) (.int .i64 1) (.bool false) (.int .i64 1)
 obtain ⟨y0,y1,y2,y3,y4,y5,y6,y7⟩:=H8.c8;refine bodyPost_ret (v:=.tuple #[.agg #[.int .i64 60,.int .i64 1,.int .i64 1,.int .i64 5,.int .i64 0,.int .i64 1,.bool false,.int .i64 1],.slice (some ⟨wa.heap.size,0,none⟩) 1 1]) (by simp [results,Tryz.results22,go_sem,y0,y1,y2,y3,y4,y5,y6,y7]) rfl ⟨_,rfl,E8,E.size,P8⟩
theorem w9_owed1 {A A' : OA} {ca cb : Nat} {w : World} (hC : Q3 w A ca A' cb Zv) {bp : Nat} (hB : Qo w (some ⟨bp,0,none⟩) 1 6 (J8 p8)) (hZ : Zw w) : Calls Tryz.prog 23 #[.agg #[.slice A 1 ca,.slice A' 3 cb],.agg #[.int .i64 60,.int .i64 1,.int .i64 1,.int .i64 5,.int .i64 0,.int .i64 1,.bool false,.int .i64 1],.slice (some ⟨bp,0,none⟩) 1 1,.agg #[.int .i64 0,.int .i64 7,.bool false,.int .i64 1]] w fun e w' => e = .returned (.tuple #[.agg #[.int .i64 56,.int .i64 1,.int .i64 0,.int .i64 1,.int .i64 0,.int .i64 1],.int .i64 0]) ∧ Qc w w':=by
 have:=Gv A A' ca cb Zv (some ⟨bp,0,none⟩) 1 1 l8 p8 (by unfold Rt.In;decide) (by unfold Rt.In;decide) (fun i _ => show (Rt.mk 10 1).In by unfold Rt.In;decide) w hC hB zD hZ (Yp 7 1);rw [k8_o1] at this;exact this
theorem pp8_in : ∀ i,i < 2 → (pp8 i).n.In:=fun i hi => by
 have : i = 0 ∨ i = 1:=Qb;rcases this with rfl | rfl <;> (unfold Rt.In;decide)
theorem w9_owed2 {A A' : OA} {ca cb : Nat} {w : World} (hC : Q3 w A ca A' cb Zv) {bp m : Nat} (hB : Qo w (some ⟨bp,0,none⟩) 2 6 (J8 pp8)) (hZ : Zw w) : Calls Tryz.prog 23 #[.agg #[.slice A 1 ca,.slice A' 3 cb],.agg #[.int .i64 60,.int .i64 1,.int .i64 1,.int .i64 5,.int .i64 0,.int .i64 1,.bool false,.int .i64 1],.slice (some ⟨bp,0,none⟩) 2 m,.agg #[.int .i64 1,.int .i64 7,.bool false,.int .i64 1]] w fun e w' => e = .returned (.tuple #[.agg #[.int .i64 0,.int .i64 1,.int .i64 0,.int .i64 1,.int .i64 164,.int .i64 5],.int .i64 0]) ∧ Qc w w':=by
 have:=Gv A A' ca cb Zv (some ⟨bp,0,none⟩) 2 m l8 pp8 (by unfold Rt.In;decide) (by unfold Rt.In;decide) pp8_in w hC hB zD hZ d8;rw [k8_o2] at this;exact this
theorem lots2_at {w : World} {b : Nat} (x y : Int) (h : Qa w b 85 #[.string ⟨#[98,97,114,108,101,121]⟩,.int .i64 x,.string ⟨#[111,105,108]⟩,.int .i64 y]) : Q9 w (.slice (some ⟨b,0,none⟩) 2 2) [⟨Yd,x⟩,⟨Mv,y⟩]:=by
 refine ⟨_,2,rfl,Xj h ?_,Nat.le_refl _,by decide,fun h => by cases h⟩;intro i j v hi hv;have hi : i < 2:=hi;have hj : j < 2:=(List.getElem?_eq_some_iff.1 hv).1;rw [← hv];have h1 : i = 0 ∨ i = 1:=Qb;have h2 : j = 0 ∨ j = 1:=Qb;rcases h1 with rfl | rfl <;> rcases h2 with rfl | rfl <;> rfl
theorem rat8_any {wa : World} {b8 : Nat} (hL : Q9 wa (.slice (some ⟨b8,0,none⟩) 1 1) [⟨⟨#[98,97,114,108,101,121]⟩,60⟩]) : Calls Tryz.prog 27 #[.slice (some ⟨wa.heap.size + 1,0,none⟩) 2 2,.int .i64 2] ((wa.alloc (.cells #[.string ⟨#[98,97,114,108,101,121]⟩,.int .i64 30,.string ⟨#[111,105,108]⟩,.int .i64 1] 85)).alloc (.cells #[.int .i64 5,.slice (some ⟨b8,0,none⟩) 1 1,.int .i64 3,.slice (some ⟨wa.heap.size,0,none⟩) 2 2] 83)) fun e w' => ∃ v',e = .returned (.tuple #[v',.int .i64 0]) ∧ Qc wa w' ∧ Q9 w' v' [⟨Yd,780⟩,⟨Mv,6⟩]:=by
 have x1 : Qc wa (wa.alloc (.cells #[.string ⟨#[98,97,114,108,101,121]⟩,.int .i64 30,.string ⟨#[111,105,108]⟩,.int .i64 1] 85)):=(Qc.refl _).alloc _;have h1 : Qa (wa.alloc (.cells #[.string ⟨#[98,97,114,108,101,121]⟩,.int .i64 30,.string ⟨#[111,105,108]⟩,.int .i64 1] 85)) wa.heap.size 85 #[.string ⟨#[98,97,114,108,101,121]⟩,.int .i64 30,.string ⟨#[111,105,108]⟩,.int .i64 1]:=Qa.new _ _ _;obtain ⟨w1,hw1⟩:=Qf (wa.alloc (.cells #[.string ⟨#[98,97,114,108,101,121]⟩,.int .i64 30,.string ⟨#[111,105,108]⟩,.int .i64 1] 85));have hs : wa.heap.size + 1 = w1.heap.size:=by rw [hw1];simp
 rw [hs];rw [← hw1] at x1 h1 ⊢;clear hw1 hs;generalize wa.heap.size = c at *;have x2 : Qc w1 (w1.alloc (.cells #[.int .i64 5,.slice (some ⟨b8,0,none⟩) 1 1,.int .i64 3,.slice (some ⟨c,0,none⟩) 2 2] 83)):=(Qc.refl _).alloc _;have h2 : Qa (w1.alloc (.cells #[.int .i64 5,.slice (some ⟨b8,0,none⟩) 1 1,.int .i64 3,.slice (some ⟨c,0,none⟩) 2 2] 83)) w1.heap.size 83 #[.int .i64 5,.slice (some ⟨b8,0,none⟩) 1 1,.int .i64 3,.slice (some ⟨c,0,none⟩) 2 2]:=Qa.new _ _ _;generalize w1.alloc (.cells #[.int .i64 5,.slice (some ⟨b8,0,none⟩) 1 1,.int .i64 3,.slice (some ⟨c,0,none⟩) 2 2] 83) = w2 at *;generalize w1.heap.size = d at *
 have hC : Ll w2 (.slice (some ⟨d,0,none⟩) 2 2) cls8:=by
  refine ⟨_,2,fun i => if i = 0 then .slice (some ⟨b8,0,none⟩) 1 1 else .slice (some ⟨c,0,none⟩) 2 2,rfl,Xj h2 ?_,by decide,by decide,(fun h => by cases h),?_⟩
  ·intro i j v hi hv;have hi : i < 2:=hi;have hj : j < 2:=(List.getElem?_eq_some_iff.1 hv).1;rw [← hv];have h1 : i = 0 ∨ i = 1:=Qb;have h2 : j = 0 ∨ j = 1:=Qb;rcases h1 with rfl | rfl <;> rcases h2 with rfl | rfl <;> rfl
  ·intro i hi;have hi : i < 2:=hi;have h3 : i = 0 ∨ i = 1:=Qb;rcases h3 with rfl | rfl
   ·exact (hL.ext x1).ext x2
   ·exact (lots2_at 30 1 h1).ext x2
 have:=Qa3 _ cls8 2 w2 hC;rw [k8_r1] at this;exact this.mono fun e w' ⟨v',h3,h4,h5⟩ => ⟨v',h3,(x1.trans x2).trans h4,h5⟩
theorem rat9_any {wa : World} {b8 : Nat} (hL : Q9 wa (.slice (some ⟨b8,0,none⟩) 1 1) [⟨⟨#[111,105,108]⟩,1⟩]) : Calls Tryz.prog 27 #[.slice (some ⟨wa.heap.size,0,none⟩) 1 1,.int .i64 2] (wa.alloc (.cells #[.int .i64 1099511627776,.slice (some ⟨b8,0,none⟩) 1 1] 83)) fun e w' => ∃ v',e = .returned (.tuple #[v',.int .i64 6]) ∧ Qc wa w':=by
 have x1 : Qc wa (wa.alloc (.cells #[.int .i64 1099511627776,.slice (some ⟨b8,0,none⟩) 1 1] 83)):=(Qc.refl _).alloc _;have h1 : Qa (wa.alloc (.cells #[.int .i64 1099511627776,.slice (some ⟨b8,0,none⟩) 1 1] 83)) wa.heap.size 83 #[.int .i64 1099511627776,.slice (some ⟨b8,0,none⟩) 1 1]:=Qa.new _ _ _;generalize wa.alloc (.cells #[.int .i64 1099511627776,.slice (some ⟨b8,0,none⟩) 1 1] 83) = w1 at *;generalize wa.heap.size = d at *
 have hC : Ll w1 (.slice (some ⟨d,0,none⟩) 1 1) clb8:=by
  refine ⟨_,1,fun i => .slice (some ⟨b8,0,none⟩) 1 1,rfl,Xj h1 ?_,by decide,by decide,(fun h => by cases h),?_⟩
  ·intro i j v hi hv;have hi : i < 1:=hi;obtain rfl : i = 0:=Qb;have hj : j < 2:=(List.getElem?_eq_some_iff.1 hv).1;rw [← hv];have h2 : j = 0 ∨ j = 1:=Qb;rcases h2 with rfl | rfl <;> rfl
  ·intro i hi;have hi : i < 1:=hi;obtain rfl : i = 0:=Qb;exact hL.ext x1
 have:=Qa3 _ clb8 2 w1 hC;rw [k8_r2] at this;exact this.mono fun e w' ⟨v',h3,h4,h5⟩ => ⟨v',h3,x1.trans h4⟩
theorem int10_any {w : World} (hZ : Zw w) : Calls Tryz.prog 28 #[.agg #[.int .i64 1,.int .i64 1],.agg #[.int .i64 (-1),.int .i64 2],.int .i64 1] w fun e w' => e = .returned (.tuple #[.agg #[.int .i64 0,.int .i64 0],.int .i64 2]) ∧ Qc w w':=by
 have:=Hw ⟨1,1⟩ ⟨-1,2⟩ 1 (by unfold Rt.In;decide) (by unfold Rt.In;decide) zD zD w hZ;rw [k8_i1] at this;exact this
theorem int11_any {w : World} (hZ : Zw w) : Calls Tryz.prog 28 #[.agg #[.int .i64 1,.int .i64 1],.agg #[.int .i64 1,.int .i64 2],.int .i64 (-1)] w fun e w' => e = .returned (.tuple #[.agg #[.int .i64 0,.int .i64 0],.int .i64 8]) ∧ Qc w w':=by
 have:=Hw ⟨1,1⟩ ⟨1,2⟩ (-1) (by unfold Rt.In;decide) (by unfold Rt.In;decide) zD zD w hZ;rw [k8_i2] at this;exact this
theorem same12_any {w : World} {vr : Value} (hr : Q9 w vr [⟨Yd,780⟩,⟨Mv,6⟩]) : Calls Tryz.prog 29 #[vr,.slice (some ⟨w.heap.size,0,none⟩) 2 2] (w.alloc (.cells #[.string ⟨#[98,97,114,108,101,121]⟩,.int .i64 780,.string ⟨#[111,105,108]⟩,.int .i64 6] 85)) fun e w' => e = .returned (.bool true) ∧ Qc w w':=by
 have x1 : Qc w (w.alloc (.cells #[.string ⟨#[98,97,114,108,101,121]⟩,.int .i64 780,.string ⟨#[111,105,108]⟩,.int .i64 6] 85)):=(Qc.refl _).alloc _;have h1 : Qa (w.alloc (.cells #[.string ⟨#[98,97,114,108,101,121]⟩,.int .i64 780,.string ⟨#[111,105,108]⟩,.int .i64 6] 85)) w.heap.size 85 #[.string ⟨#[98,97,114,108,101,121]⟩,.int .i64 780,.string ⟨#[111,105,108]⟩,.int .i64 6]:=Qa.new _ _ _;generalize w.alloc (.cells #[.string ⟨#[98,97,114,108,101,121]⟩,.int .i64 780,.string ⟨#[111,105,108]⟩,.int .i64 6] 85) = w1 at *;have:=Qbm _ _ _ _ w1 (hr.ext x1) (lots2_at 780 6 h1);rw [zt rfl] at this;exact this.mono fun e w' ⟨h3,h4⟩ => ⟨h3,x1.trans h4⟩
theorem per_none (w : World) {p : Pd} (h : p.o = [] ∧ p.d = [] ∧ p.c = []) : J9 w p (.slice none 0 0) (.slice none 0 0) (.slice none 0 0):=⟨by rw [h.1];exact Jn w,by rw [h.2.1];exact Qff w,by rw [h.2.2];exact Jn w⟩
theorem join8_any {A A' : OA} {ca cb : Nat} {w : World} (hC : Q3 w A ca A' cb Zv) : Calls Tryz.prog 30 #[.agg #[.slice A 1 ca,.slice A' 3 cb],.agg #[.string ⟨#[97]⟩,.int .i64 0,.int .i64 1,.bool false,.int .i64 1,.int .i64 0,.int .i64 1,.bool false,.int .i64 30,.slice none 0 0,.slice none 0 0,.slice none 0 0],.agg #[.string ⟨#[97]⟩,.int .i64 0,.int .i64 2,.bool false,.int .i64 2,.int .i64 0,.int .i64 2,.bool false,.int .i64 30,.slice none 0 0,.slice none 0 0,.slice none 0 0]] w fun e w' => ∃ p,e = .returned (.tuple #[p,.int .i64 84]) ∧ Qc w w':=by
 have:=Qhv A A' ca cb Zv Lx Ho _ _ _ _ _ _ w hC (per_none w ⟨rfl,rfl,rfl⟩) (per_none w ⟨rfl,rfl,rfl⟩);rw [k8_j] at this;exact this.mono fun e w' ⟨_,_,_,h1,h2,_⟩ => ⟨_,h1,h2⟩
theorem div8_any {A A' : OA} {ca cb : Nat} {w : World} (hC : Q3 w A ca A' cb Zv) : Calls Tryz.prog 31 #[.agg #[.slice A 1 ca,.slice A' 3 cb],.agg #[.string ⟨#[97]⟩,.int .i64 0,.int .i64 1,.bool false,.int .i64 1,.int .i64 0,.int .i64 1,.bool false,.int .i64 30,.slice none 0 0,.slice none 0 0,.slice none 0 0],.agg #[.int .i64 0,.int .i64 1,.bool false,.int .i64 30]] w fun e w' => ∃ p q,e = .returned (.tuple #[p,q,.int .i64 8]) ∧ Qc w w':=by
 have:=Qft A A' ca cb Zv Lx _ _ _ (Yp 1 30) w hC (per_none w ⟨rfl,rfl,rfl⟩);rw [k8_v] at this;exact this.mono fun e w' ⟨_,_,_,_,_,_,h1,h2,_⟩ => ⟨_,_,h1,h2⟩
theorem chk8_any {A A' : OA} {ca cb : Nat} {w : World} (hC : Q3 w A ca A' cb Zv) : Calls Tryz.prog 32 #[.agg #[.slice A 1 ca,.slice A' 3 cb],.agg #[.string ⟨#[97]⟩,.int .i64 0,.int .i64 1,.bool false,.int .i64 2,.int .i64 0,.int .i64 1,.bool false,.int .i64 1,.slice none 0 0,.slice none 0 0,.slice none 0 0]] w fun e w' => e = .returned (.int .i64 83) ∧ Qc w w':=by
 have:=Qec A A' ca cb Zv bad8 _ _ _ w hC (per_none w ⟨rfl,rfl,rfl⟩);rw [k8_p] at this;exact this
theorem carry8_any {A A' : OA} {ca cb : Nat} {w : World} (hC : Q3 w A ca A' cb Zv) : Calls Tryz.prog 16 #[.agg #[.slice A 1 ca,.slice A' 3 cb],.slice (some ⟨w.heap.size,0,none⟩) 2 2] (w.alloc (.cells #[.string ⟨#[97]⟩,.int .i64 0,.int .i64 1,.bool false,.int .i64 1,.int .i64 0,.int .i64 1,.bool false,.int .i64 30,.slice none 0 0,.slice none 0 0,.slice none 0 0,.string ⟨#[97]⟩,.int .i64 0,.int .i64 2,.bool false,.int .i64 2,.int .i64 0,.int .i64 2,.bool false,.int .i64 30,.slice none 0 0,.slice none 0 0,.slice none 0 0] 55)) fun e w' => ∃ v,e = .returned (.tuple #[v,.int .i64 84]) ∧ Qc w w':=by
 have x1 : Qc w (w.alloc (.cells #[.string ⟨#[97]⟩,.int .i64 0,.int .i64 1,.bool false,.int .i64 1,.int .i64 0,.int .i64 1,.bool false,.int .i64 30,.slice none 0 0,.slice none 0 0,.slice none 0 0,.string ⟨#[97]⟩,.int .i64 0,.int .i64 2,.bool false,.int .i64 2,.int .i64 0,.int .i64 2,.bool false,.int .i64 30,.slice none 0 0,.slice none 0 0,.slice none 0 0] 55)):=(Qc.refl _).alloc _;have h1 : Qa (w.alloc (.cells #[.string ⟨#[97]⟩,.int .i64 0,.int .i64 1,.bool false,.int .i64 1,.int .i64 0,.int .i64 1,.bool false,.int .i64 30,.slice none 0 0,.slice none 0 0,.slice none 0 0,.string ⟨#[97]⟩,.int .i64 0,.int .i64 2,.bool false,.int .i64 2,.int .i64 0,.int .i64 2,.bool false,.int .i64 30,.slice none 0 0,.slice none 0 0,.slice none 0 0] 55)) w.heap.size 55 _:=Qa.new _ _ _
 generalize w.alloc (.cells #[.string ⟨#[97]⟩,.int .i64 0,.int .i64 1,.bool false,.int .i64 1,.int .i64 0,.int .i64 1,.bool false,.int .i64 30,.slice none 0 0,.slice none 0 0,.slice none 0 0,.string ⟨#[97]⟩,.int .i64 0,.int .i64 2,.bool false,.int .i64 2,.int .i64 0,.int .i64 2,.bool false,.int .i64 30,.slice none 0 0,.slice none 0 0,.slice none 0 0] 55) = w1 at *;generalize w.heap.size = d at *
 have hP : Jw w1 (.slice (some ⟨d,0,none⟩) 2 2) [Lx,Ho]:=by
  refine ⟨_,2,fun _ => .slice none 0 0,fun _ => .slice none 0 0,fun _ => .slice none 0 0,rfl,Xj h1 ?_,Nat.le_refl _,by decide,(fun h => by cases h),?_⟩
  ·intro i j v hi hv;have hi : i < 2:=hi;have hj : j < 12:=(List.getElem?_eq_some_iff.1 hv).1;rw [← hv];have h1 : i = 0 ∨ i = 1:=Qb;have h2 : j = 0 ∨ j = 1 ∨ j = 2 ∨ j = 3 ∨ j = 4 ∨ j = 5 ∨ j = 6 ∨ j = 7 ∨ j = 8 ∨ j = 9 ∨ j = 10 ∨ j = 11:=Qb;rcases h1 with rfl | rfl <;> rcases h2 with rfl | rfl | rfl | rfl | rfl | rfl | rfl | rfl | rfl | rfl | rfl | rfl <;> rfl
  ·intro i hi;have hi : i < 2:=hi;have h3 : i = 0 ∨ i = 1:=Qb;rcases h3 with rfl | rfl <;> exact per_none w1 ⟨rfl,rfl,rfl⟩
 have:=Qd6 A A' ca cb Zv _ _ w1 (hC.ext x1) hP;rw [k8_c] at this;exact this.mono fun e w' ⟨v',h3,h4,_⟩ => ⟨v',h3,x1.trans h4⟩
theorem give_at {w : World} {d a1 a2 : Nat} (h : Qa w d 57 #[.int .i64 0,.int .i64 1,.bool false,.int .i64 1,.bool false,.string ⟨#[98]⟩,.slice (some ⟨a1,0,none⟩) 1 1,.int .i64 0,.int .i64 1,.bool false,.int .i64 2,.bool false,.string ⟨#[98]⟩,.slice (some ⟨a2,0,none⟩) 1 1]) (h1 : Q9 w (.slice (some ⟨a1,0,none⟩) 1 1) [⟨⟨#[98,97,114,108,101,121]⟩,1⟩]) (h2 : Q9 w (.slice (some ⟨a2,0,none⟩) 1 1) [⟨⟨#[98,97,114,108,101,121]⟩,1⟩]) : Ja w (.slice (some ⟨d,0,none⟩) 2 2) Ul.d:=by
 refine ⟨_,2,fun i => if i = 0 then .slice (some ⟨a1,0,none⟩) 1 1 else .slice (some ⟨a2,0,none⟩) 1 1,rfl,Xj h ?_,by decide,by decide,(fun h => by cases h),?_⟩
 ·intro i j v hi hv;have hi : i < 2:=hi;have hj : j < 7:=(List.getElem?_eq_some_iff.1 hv).1;rw [← hv];have h1 : i = 0 ∨ i = 1:=Qb;have h2 : j = 0 ∨ j = 1 ∨ j = 2 ∨ j = 3 ∨ j = 4 ∨ j = 5 ∨ j = 6:=Qb;rcases h1 with rfl | rfl
  ·rcases h2 with rfl | rfl | rfl | rfl | rfl | rfl | rfl <;> rfl
  ·rcases h2 with rfl | rfl | rfl | rfl | rfl | rfl | rfl <;> rfl
 ·intro i hi;have hi : i < 2:=hi;have h3 : i = 0 ∨ i = 1:=Qb;rcases h3 with rfl | rfl
  ·exact h1
  ·exact h2
theorem take_at {w : World} {d a1 a2 : Nat} (h : Qa w d 57 #[.int .i64 0,.int .i64 1,.bool false,.int .i64 3,.bool true,.string ⟨#[97]⟩,.slice (some ⟨a1,0,none⟩) 1 1,.int .i64 0,.int .i64 1,.bool false,.int .i64 4,.bool true,.string ⟨#[97]⟩,.slice (some ⟨a2,0,none⟩) 1 1]) (h1 : Q9 w (.slice (some ⟨a1,0,none⟩) 1 1) [⟨⟨#[98,97,114,108,101,121]⟩,1⟩]) (h2 : Q9 w (.slice (some ⟨a2,0,none⟩) 1 1) [⟨⟨#[98,97,114,108,101,121]⟩,1⟩]) : Ja w (.slice (some ⟨d,0,none⟩) 2 2) Ow.d:=by
 refine ⟨_,2,fun i => if i = 0 then .slice (some ⟨a1,0,none⟩) 1 1 else .slice (some ⟨a2,0,none⟩) 1 1,rfl,Xj h ?_,by decide,by decide,(fun h => by cases h),?_⟩
 ·intro i j v hi hv;have hi : i < 2:=hi;have hj : j < 7:=(List.getElem?_eq_some_iff.1 hv).1;rw [← hv];have h1 : i = 0 ∨ i = 1:=Qb;have h2 : j = 0 ∨ j = 1 ∨ j = 2 ∨ j = 3 ∨ j = 4 ∨ j = 5 ∨ j = 6:=Qb;rcases h1 with rfl | rfl
  ·rcases h2 with rfl | rfl | rfl | rfl | rfl | rfl | rfl <;> rfl
  ·rcases h2 with rfl | rfl | rfl | rfl | rfl | rfl | rfl <;> rfl
 ·intro i hi;have hi : i < 2:=hi;have h3 : i = 0 ∨ i = 1:=Qb;rcases h3 with rfl | rfl
  ·exact h1
  ·exact h2
theorem one_at {w : World} {d a1 a2 : Nat} (h : Qa w d 57 #[.int .i64 0,.int .i64 1,.bool false,.int .i64 3,.bool true,.string ⟨#[97]⟩,.slice (some ⟨a1,0,none⟩) 1 1,.int .i64 0,.int .i64 1,.bool false,.int .i64 4,.bool true,.string ⟨#[97]⟩,.slice (some ⟨a2,0,none⟩) 1 1]) (h1 : Q9 w (.slice (some ⟨a1,0,none⟩) 1 1) [⟨⟨#[98,97,114,108,101,121]⟩,1⟩]) : Ja w (.slice (some ⟨d,0,none⟩) 1 2) La.d:=by
 refine ⟨_,2,fun i => if i = 0 then .slice (some ⟨a1,0,none⟩) 1 1 else .slice (some ⟨a2,0,none⟩) 1 1,rfl,Xj h ?_,by decide,by decide,(fun h => by cases h),?_⟩
 ·intro i j v hi hv;have hi : i < 1:=hi;have hj : j < 7:=(List.getElem?_eq_some_iff.1 hv).1;rw [← hv];have h1 : i = 0 ∨ i = 1:=Qb;have h2 : j = 0 ∨ j = 1 ∨ j = 2 ∨ j = 3 ∨ j = 4 ∨ j = 5 ∨ j = 6:=Qb;rcases h1 with rfl | rfl
  ·rcases h2 with rfl | rfl | rfl | rfl | rfl | rfl | rfl <;> rfl
  ·omega
 ·intro i hi;have hi : i < 1:=hi;have h3 : i = 0 ∨ i = 1:=Qb;rcases h3 with rfl | rfl
  ·exact h1
  ·omega
theorem held12_10 {W : World} {b : Nat} {t : TypeId} {v0 v1 v2 v3 v4 v5 v6 v7 v8 v9 v10 v11 : Value} (h : Qa W b t #[v0,v1,v2,v3,v4,v5,v6,v7,v8,v9,v10,v11]) (u : Value) : Qa (W.setCell ⟨b,10,none⟩ u) b t #[v0,v1,v2,v3,v4,v5,v6,v7,v8,v9,u,v11]:=by unfold Qa at h ⊢;simp [World.setCell,Array.getElem?_modify,h]
theorem pers_go {w : World} {b dg dk : Nat} (h : Qa w b 55 #[.string ⟨#[97]⟩,.int .i64 0,.int .i64 1,.bool false,.int .i64 1,.int .i64 0,.int .i64 1,.bool false,.int .i64 30,.slice none 0 0,.slice (some ⟨dg,0,none⟩) 2 2,.slice none 0 0,.string ⟨#[98]⟩,.int .i64 0,.int .i64 1,.bool false,.int .i64 1,.int .i64 0,.int .i64 1,.bool false,.int .i64 30,.slice none 0 0,.slice (some ⟨dk,0,none⟩) 1 2,.slice none 0 0]) (hg : Ja w (.slice (some ⟨dg,0,none⟩) 2 2) Ul.d) (hq : Ja w (.slice (some ⟨dk,0,none⟩) 1 2) La.d) : Jw w (.slice (some ⟨b,0,none⟩) 2 2) [Ul,La]:=by
 refine ⟨_,2,fun _ => .slice none 0 0,fun i => if i = 0 then .slice (some ⟨dg,0,none⟩) 2 2 else .slice (some ⟨dk,0,none⟩) 1 2,fun _ => .slice none 0 0,rfl,Xj h ?_,Nat.le_refl _,by decide,(fun h => by cases h),?_⟩
 ·intro i j v hi hv;have hi : i < 2:=hi;have hj : j < 12:=(List.getElem?_eq_some_iff.1 hv).1;rw [← hv];have h1 : i = 0 ∨ i = 1:=Qb;have h2 : j = 0 ∨ j = 1 ∨ j = 2 ∨ j = 3 ∨ j = 4 ∨ j = 5 ∨ j = 6 ∨ j = 7 ∨ j = 8 ∨ j = 9 ∨ j = 10 ∨ j = 11:=Qb;rcases h1 with rfl | rfl <;> rcases h2 with rfl | rfl | rfl | rfl | rfl | rfl | rfl | rfl | rfl | rfl | rfl | rfl <;> rfl
 ·intro i hi;have hi : i < 2:=hi;have h3 : i = 0 ∨ i = 1:=Qb;rcases h3 with rfl | rfl
  ·exact ⟨Jn w,hg,Jn w⟩
  ·exact ⟨Jn w,hq,Jn w⟩
theorem pers_gt {w : World} {b dg dk : Nat} (h : Qa w b 55 #[.string ⟨#[97]⟩,.int .i64 0,.int .i64 1,.bool false,.int .i64 1,.int .i64 0,.int .i64 1,.bool false,.int .i64 30,.slice none 0 0,.slice (some ⟨dg,0,none⟩) 2 2,.slice none 0 0,.string ⟨#[98]⟩,.int .i64 0,.int .i64 1,.bool false,.int .i64 1,.int .i64 0,.int .i64 1,.bool false,.int .i64 30,.slice none 0 0,.slice (some ⟨dk,0,none⟩) 2 2,.slice none 0 0]) (hg : Ja w (.slice (some ⟨dg,0,none⟩) 2 2) Ul.d) (hq : Ja w (.slice (some ⟨dk,0,none⟩) 2 2) Ow.d) : Jw w (.slice (some ⟨b,0,none⟩) 2 2) [Ul,Ow]:=by
 refine ⟨_,2,fun _ => .slice none 0 0,fun i => if i = 0 then .slice (some ⟨dg,0,none⟩) 2 2 else .slice (some ⟨dk,0,none⟩) 2 2,fun _ => .slice none 0 0,rfl,Xj h ?_,Nat.le_refl _,by decide,(fun h => by cases h),?_⟩
 ·intro i j v hi hv;have hi : i < 2:=hi;have hj : j < 12:=(List.getElem?_eq_some_iff.1 hv).1;rw [← hv];have h1 : i = 0 ∨ i = 1:=Qb;have h2 : j = 0 ∨ j = 1 ∨ j = 2 ∨ j = 3 ∨ j = 4 ∨ j = 5 ∨ j = 6 ∨ j = 7 ∨ j = 8 ∨ j = 9 ∨ j = 10 ∨ j = 11:=Qb;rcases h1 with rfl | rfl <;> rcases h2 with rfl | rfl | rfl | rfl | rfl | rfl | rfl | rfl | rfl | rfl | rfl | rfl <;> rfl
 ·intro i hi;have hi : i < 2:=hi;have h3 : i = 0 ∨ i = 1:=Qb;rcases h3 with rfl | rfl
  ·exact ⟨Jn w,hg,Jn w⟩
  ·exact ⟨Jn w,hq,Jn w⟩
theorem row1_own {w : World} {base g m : Nat} {a b c d : Value} (h : w.ownsRow base 35 4 (.slice (some ⟨g,0,none⟩) 1 m) 1 [a,b,c,d]) : Qo w (some ⟨g,0,none⟩) 1 4 (fun _ => [a,b,c,d]):=fun _ => by
 refine ⟨g,0,rfl,(h.lt g rfl).2,fun i j v hi hv => ?_⟩;have hj : j < 4:=(List.getElem?_eq_some_iff.1 hv).1;obtain rfl : i = 0:=Qb;rw [show (0 + 0 * 4 + j : Nat) = j by omega,World.ownsRow.cellAt h j Qb,← hv]
theorem m26_any {A A' : OA} {ca cb : Nat} {w : World} (hC : Q3 w A ca A' cb Zv) {dg dk : Nat} (hg : Ja w (.slice (some ⟨dg,0,none⟩) 2 2) Ul.d) (hq : Ja w (.slice (some ⟨dk,0,none⟩) 1 2) La.d) : Calls Tryz.prog 9 #[.agg #[.slice A 1 ca,.slice A' 3 cb],.slice (some ⟨w.heap.size,0,none⟩) 2 2,.int .i64 2] (w.alloc (.cells #[.string ⟨#[97]⟩,.int .i64 0,.int .i64 1,.bool false,.int .i64 1,.int .i64 0,.int .i64 1,.bool false,.int .i64 30,.slice none 0 0,.slice (some ⟨dg,0,none⟩) 2 2,.slice none 0 0,.string ⟨#[98]⟩,.int .i64 0,.int .i64 1,.bool false,.int .i64 1,.int .i64 0,.int .i64 1,.bool false,.int .i64 30,.slice none 0 0,.slice (some ⟨dk,0,none⟩) 1 2,.slice none 0 0] 55)) fun e w' => ∃ g m,e = .returned (.tuple #[.slice (some ⟨g,0,none⟩) 1 m,.int .i64 0]) ∧ Qc w w' ∧ Qo w' (some ⟨g,0,none⟩) 1 4 (fun _ => [.int .i64 0,.int .i64 0,.int .i64 1,.int .i64 0]):=by
 have x1 : Qc w (w.alloc (.cells #[.string ⟨#[97]⟩,.int .i64 0,.int .i64 1,.bool false,.int .i64 1,.int .i64 0,.int .i64 1,.bool false,.int .i64 30,.slice none 0 0,.slice (some ⟨dg,0,none⟩) 2 2,.slice none 0 0,.string ⟨#[98]⟩,.int .i64 0,.int .i64 1,.bool false,.int .i64 1,.int .i64 0,.int .i64 1,.bool false,.int .i64 30,.slice none 0 0,.slice (some ⟨dk,0,none⟩) 1 2,.slice none 0 0] 55)):=(Qc.refl _).alloc _;have h1 : Qa (w.alloc (.cells #[.string ⟨#[97]⟩,.int .i64 0,.int .i64 1,.bool false,.int .i64 1,.int .i64 0,.int .i64 1,.bool false,.int .i64 30,.slice none 0 0,.slice (some ⟨dg,0,none⟩) 2 2,.slice none 0 0,.string ⟨#[98]⟩,.int .i64 0,.int .i64 1,.bool false,.int .i64 1,.int .i64 0,.int .i64 1,.bool false,.int .i64 30,.slice none 0 0,.slice (some ⟨dk,0,none⟩) 1 2,.slice none 0 0] 55)) w.heap.size 55 _:=Qa.new _ _ _
 generalize w.alloc (.cells #[.string ⟨#[97]⟩,.int .i64 0,.int .i64 1,.bool false,.int .i64 1,.int .i64 0,.int .i64 1,.bool false,.int .i64 30,.slice none 0 0,.slice (some ⟨dg,0,none⟩) 2 2,.slice none 0 0,.string ⟨#[98]⟩,.int .i64 0,.int .i64 1,.bool false,.int .i64 1,.int .i64 0,.int .i64 1,.bool false,.int .i64 30,.slice none 0 0,.slice (some ⟨dk,0,none⟩) 1 2,.slice none 0 0] 55) = w1 at *;generalize w.heap.size = d at *;have:=Ie A A' ca cb Zv _ _ 2 w1 (hC.ext x1) (pers_go h1 (hg.ext x1) (hq.ext x1));rw [k8_m1] at this;refine this.mono fun e w' ⟨v,h3,h4,h5⟩ => ?_
 obtain ⟨g,m,e8,_,_⟩:=Vu h5 zD;subst e8;exact ⟨g,m,h3,x1.trans h4,row1_own h5⟩
theorem row2_own {w : World} {base g m : Nat} {a b c d a2 b2 c2 d2 : Value} (h : w.ownsRow base 35 4 (.slice (some ⟨g,0,none⟩) 2 m) 2 [a,b,c,d,a2,b2,c2,d2]) : Qo w (some ⟨g,0,none⟩) 2 4 (fun i => if i = 0 then [a,b,c,d] else [a2,b2,c2,d2]):=fun _ => by
 refine ⟨g,0,rfl,(h.lt g rfl).2,fun i j v hi hv => ?_⟩;have h1 : i = 0 ∨ i = 1:=Qb;rcases h1 with rfl | rfl
 ·have hj : j < 4:=(List.getElem?_eq_some_iff.1 hv).1;have h2 : j = 0 ∨ j = 1 ∨ j = 2 ∨ j = 3:=Qb;rw [show (0 + 0 * 4 + j : Nat) = j by omega,World.ownsRow.cellAt h j (by simp;omega),← hv];rcases h2 with rfl | rfl | rfl | rfl <;> rfl
 ·have hj : j < 4:=(List.getElem?_eq_some_iff.1 hv).1;have h2 : j = 0 ∨ j = 1 ∨ j = 2 ∨ j = 3:=Qb;rw [show (0 + 1 * 4 + j : Nat) = 4 + j by omega,World.ownsRow.cellAt h (4 + j) (by simp;omega),← hv];rcases h2 with rfl | rfl | rfl | rfl <;> rfl
theorem row3_own {w : World} {base g m : Nat} {a b c a2 b2 c2 a3 b3 c3 : Value} (h : w.ownsRow base 47 3 (.slice (some ⟨g,0,none⟩) 3 m) 3 [a,b,c,a2,b2,c2,a3,b3,c3]) : Qo w (some ⟨g,0,none⟩) 3 3 (fun i => if i = 0 then [a,b,c] else if i = 1 then [a2,b2,c2] else [a3,b3,c3]):=fun _ => by
 refine ⟨g,0,rfl,(h.lt g rfl).2,fun i j v hi hv => ?_⟩;have h1 : i = 0 ∨ i = 1 ∨ i = 2:=Qb;rcases h1 with rfl | rfl | rfl
 ·have hj : j < 3:=(List.getElem?_eq_some_iff.1 hv).1;have h2 : j = 0 ∨ j = 1 ∨ j = 2:=Qb;rw [show (0 + 0 * 3 + j : Nat) = j by omega,World.ownsRow.cellAt h j (by simp;omega),← hv];rcases h2 with rfl | rfl | rfl <;> rfl
 ·have hj : j < 3:=(List.getElem?_eq_some_iff.1 hv).1;have h2 : j = 0 ∨ j = 1 ∨ j = 2:=Qb;rw [show (0 + 1 * 3 + j : Nat) = 3 + j by omega,World.ownsRow.cellAt h (3 + j) (by simp;omega),← hv];rcases h2 with rfl | rfl | rfl <;> rfl
 ·have hj : j < 3:=(List.getElem?_eq_some_iff.1 hv).1;have h2 : j = 0 ∨ j = 1 ∨ j = 2:=Qb;rw [show (0 + 2 * 3 + j : Nat) = 6 + j by omega,World.ownsRow.cellAt h (6 + j) (by simp;omega),← hv];rcases h2 with rfl | rfl | rfl <;> rfl
theorem m27_any {A A' : OA} {ca cb : Nat} {w : World} (hC : Q3 w A ca A' cb Zv) {dg dk : Nat} (hg : Ja w (.slice (some ⟨dg,0,none⟩) 2 2) Ul.d) (hq : Ja w (.slice (some ⟨dk,0,none⟩) 2 2) Ow.d) : Calls Tryz.prog 9 #[.agg #[.slice A 1 ca,.slice A' 3 cb],.slice (some ⟨w.heap.size,0,none⟩) 2 2,.int .i64 2] (w.alloc (.cells #[.string ⟨#[97]⟩,.int .i64 0,.int .i64 1,.bool false,.int .i64 1,.int .i64 0,.int .i64 1,.bool false,.int .i64 30,.slice none 0 0,.slice (some ⟨dg,0,none⟩) 2 2,.slice none 0 0,.string ⟨#[98]⟩,.int .i64 0,.int .i64 1,.bool false,.int .i64 1,.int .i64 0,.int .i64 1,.bool false,.int .i64 30,.slice none 0 0,.slice (some ⟨dk,0,none⟩) 2 2,.slice none 0 0] 55)) fun e w' => ∃ g m,e = .returned (.tuple #[.slice (some ⟨g,0,none⟩) 2 m,.int .i64 0]) ∧ Qc w w' ∧ Qo w' (some ⟨g,0,none⟩) 2 4 (fun i => if i = 0 then [.int .i64 0,.int .i64 0,.int .i64 1,.int .i64 0] else [.int .i64 0,.int .i64 1,.int .i64 1,.int .i64 1]):=by
 have x1 : Qc w (w.alloc (.cells #[.string ⟨#[97]⟩,.int .i64 0,.int .i64 1,.bool false,.int .i64 1,.int .i64 0,.int .i64 1,.bool false,.int .i64 30,.slice none 0 0,.slice (some ⟨dg,0,none⟩) 2 2,.slice none 0 0,.string ⟨#[98]⟩,.int .i64 0,.int .i64 1,.bool false,.int .i64 1,.int .i64 0,.int .i64 1,.bool false,.int .i64 30,.slice none 0 0,.slice (some ⟨dk,0,none⟩) 2 2,.slice none 0 0] 55)):=(Qc.refl _).alloc _;have h1 : Qa (w.alloc (.cells #[.string ⟨#[97]⟩,.int .i64 0,.int .i64 1,.bool false,.int .i64 1,.int .i64 0,.int .i64 1,.bool false,.int .i64 30,.slice none 0 0,.slice (some ⟨dg,0,none⟩) 2 2,.slice none 0 0,.string ⟨#[98]⟩,.int .i64 0,.int .i64 1,.bool false,.int .i64 1,.int .i64 0,.int .i64 1,.bool false,.int .i64 30,.slice none 0 0,.slice (some ⟨dk,0,none⟩) 2 2,.slice none 0 0] 55)) w.heap.size 55 _:=Qa.new _ _ _
 generalize w.alloc (.cells #[.string ⟨#[97]⟩,.int .i64 0,.int .i64 1,.bool false,.int .i64 1,.int .i64 0,.int .i64 1,.bool false,.int .i64 30,.slice none 0 0,.slice (some ⟨dg,0,none⟩) 2 2,.slice none 0 0,.string ⟨#[98]⟩,.int .i64 0,.int .i64 1,.bool false,.int .i64 1,.int .i64 0,.int .i64 1,.bool false,.int .i64 30,.slice none 0 0,.slice (some ⟨dk,0,none⟩) 2 2,.slice none 0 0] 55) = w1 at *;generalize w.heap.size = d at *;have:=Ie A A' ca cb Zv _ _ 2 w1 (hC.ext x1) (pers_gt h1 (hg.ext x1) (hq.ext x1));rw [k8_m2] at this;refine this.mono fun e w' ⟨v,h3,h4,h5⟩ => ?_
 obtain ⟨g,m,e8,_,_⟩:=Vu h5 zD;subst e8;exact ⟨g,m,h3,x1.trans h4,row2_own h5⟩
theorem a28_any {A A' : OA} {ca cb : Nat} {w : World} (hC : Q3 w A ca A' cb Zv) {dg dk : Nat} (hg : Ja w (.slice (some ⟨dg,0,none⟩) 2 2) Ul.d) (hq : Ja w (.slice (some ⟨dk,0,none⟩) 1 2) La.d) : Calls Tryz.prog 14 #[.agg #[.slice A 1 ca,.slice A' 3 cb],.slice (some ⟨w.heap.size,0,none⟩) 2 2,.int .i64 2] (w.alloc (.cells #[.string ⟨#[97]⟩,.int .i64 0,.int .i64 1,.bool false,.int .i64 1,.int .i64 0,.int .i64 1,.bool false,.int .i64 30,.slice none 0 0,.slice (some ⟨dg,0,none⟩) 2 2,.slice none 0 0,.string ⟨#[98]⟩,.int .i64 0,.int .i64 1,.bool false,.int .i64 1,.int .i64 0,.int .i64 1,.bool false,.int .i64 30,.slice none 0 0,.slice (some ⟨dk,0,none⟩) 1 2,.slice none 0 0] 55)) fun e w' => ∃ g m,e = .returned (.tuple #[.slice (some ⟨g,0,none⟩) 3 m,.int .i64 0]) ∧ Qc w w' ∧ Qo w' (some ⟨g,0,none⟩) 3 3 (fun i => if i = 0 then [.int .i64 1,.int .i64 0,.int .i64 0] else if i = 1 then [.int .i64 4,.int .i64 0,.int .i64 1] else [.int .i64 1,.int .i64 1,.int .i64 0]):=by
 have x1 : Qc w (w.alloc (.cells #[.string ⟨#[97]⟩,.int .i64 0,.int .i64 1,.bool false,.int .i64 1,.int .i64 0,.int .i64 1,.bool false,.int .i64 30,.slice none 0 0,.slice (some ⟨dg,0,none⟩) 2 2,.slice none 0 0,.string ⟨#[98]⟩,.int .i64 0,.int .i64 1,.bool false,.int .i64 1,.int .i64 0,.int .i64 1,.bool false,.int .i64 30,.slice none 0 0,.slice (some ⟨dk,0,none⟩) 1 2,.slice none 0 0] 55)):=(Qc.refl _).alloc _;have h1 : Qa (w.alloc (.cells #[.string ⟨#[97]⟩,.int .i64 0,.int .i64 1,.bool false,.int .i64 1,.int .i64 0,.int .i64 1,.bool false,.int .i64 30,.slice none 0 0,.slice (some ⟨dg,0,none⟩) 2 2,.slice none 0 0,.string ⟨#[98]⟩,.int .i64 0,.int .i64 1,.bool false,.int .i64 1,.int .i64 0,.int .i64 1,.bool false,.int .i64 30,.slice none 0 0,.slice (some ⟨dk,0,none⟩) 1 2,.slice none 0 0] 55)) w.heap.size 55 _:=Qa.new _ _ _
 generalize w.alloc (.cells #[.string ⟨#[97]⟩,.int .i64 0,.int .i64 1,.bool false,.int .i64 1,.int .i64 0,.int .i64 1,.bool false,.int .i64 30,.slice none 0 0,.slice (some ⟨dg,0,none⟩) 2 2,.slice none 0 0,.string ⟨#[98]⟩,.int .i64 0,.int .i64 1,.bool false,.int .i64 1,.int .i64 0,.int .i64 1,.bool false,.int .i64 30,.slice none 0 0,.slice (some ⟨dk,0,none⟩) 1 2,.slice none 0 0] 55) = w1 at *;generalize w.heap.size = d at *;have:=Qdj A A' ca cb Zv _ _ 2 w1 (hC.ext x1) (pers_go h1 (hg.ext x1) (hq.ext x1));rw [k8_a] at this;refine this.mono fun e w' ⟨v,h3,h4,h5⟩ => ?_
 obtain ⟨g,m,e8,_,_⟩:=Vu h5 zD;subst e8;exact ⟨g,m,h3,x1.trans h4,row3_own h5⟩
theorem r1_cells {w : World} {g : Nat} {v0 v1 v2 v3 : Value} (h : Qo w (some ⟨g,0,none⟩) 1 4 (fun _ => [v0,v1,v2,v3])) : g < w.heap.size ∧ w.cell? ⟨g,0,none⟩ = some v0 ∧ w.cell? ⟨g,1,none⟩ = some v1 ∧ w.cell? ⟨g,2,none⟩ = some v2 ∧ w.cell? ⟨g,3,none⟩ = some v3:=by
 obtain ⟨b,off,hA,hb,hc⟩:=h zD;cases hA
 exact ⟨hb,hc 0 0 _ zD rfl,hc 0 1 _ zD rfl,hc 0 2 _ zD rfl,hc 0 3 _ zD rfl⟩
theorem r2_cells {w : World} {g : Nat} {v0 v1 v2 v3 v4 v5 v6 v7 : Value} (h : Qo w (some ⟨g,0,none⟩) 2 4 (fun i => if i = 0 then [v0,v1,v2,v3] else [v4,v5,v6,v7])) : g < w.heap.size ∧ w.cell? ⟨g,0,none⟩ = some v0 ∧ w.cell? ⟨g,1,none⟩ = some v1 ∧ w.cell? ⟨g,2,none⟩ = some v2 ∧ w.cell? ⟨g,3,none⟩ = some v3 ∧ w.cell? ⟨g,4,none⟩ = some v4 ∧ w.cell? ⟨g,5,none⟩ = some v5 ∧ w.cell? ⟨g,6,none⟩ = some v6 ∧ w.cell? ⟨g,7,none⟩ = some v7:=by
 obtain ⟨b,off,hA,hb,hc⟩:=h zD;cases hA
 exact ⟨hb,hc 0 0 _ zD rfl,hc 0 1 _ zD rfl,hc 0 2 _ zD rfl,hc 0 3 _ zD rfl,hc 1 0 _ zD rfl,hc 1 1 _ zD rfl,hc 1 2 _ zD rfl,hc 1 3 _ zD rfl⟩
theorem r3_cells {w : World} {g : Nat} {v0 v1 v2 v3 v4 v5 v6 v7 v8 : Value} (h : Qo w (some ⟨g,0,none⟩) 3 3 (fun i => if i = 0 then [v0,v1,v2] else if i = 1 then [v3,v4,v5] else [v6,v7,v8])) : g < w.heap.size ∧ w.cell? ⟨g,0,none⟩ = some v0 ∧ w.cell? ⟨g,1,none⟩ = some v1 ∧ w.cell? ⟨g,2,none⟩ = some v2 ∧ w.cell? ⟨g,3,none⟩ = some v3 ∧ w.cell? ⟨g,4,none⟩ = some v4 ∧ w.cell? ⟨g,5,none⟩ = some v5 ∧ w.cell? ⟨g,6,none⟩ = some v6 ∧ w.cell? ⟨g,7,none⟩ = some v7 ∧ w.cell? ⟨g,8,none⟩ = some v8:=by
 obtain ⟨b,off,hA,hb,hc⟩:=h zD;cases hA
 exact ⟨hb,hc 0 0 _ zD rfl,hc 0 1 _ zD rfl,hc 0 2 _ zD rfl,hc 1 0 _ zD rfl,hc 1 1 _ zD rfl,hc 1 2 _ zD rfl,hc 2 0 _ zD rfl,hc 2 1 _ zD rfl,hc 2 2 _ zD rfl⟩
theorem ledgerKnown_walk (w : World) (hZ : Zw w) :
  Calls Tryz.prog 7 #[] w fun e w' => e = .returned (.bool true) ∧ Qc w w':=by
 go_enter Tryz.func7,Tryz.ntmps7
 go_upto_region 2 with (go_at_call 21;refine zc (Bh _) ?_;rintro e w1 ⟨A,A',ca,cb,rfl,h1,C⟩)
 obtain ⟨v1,hv⟩:=Qf (w1.alloc (.cells #[.slice A 1 ca,.slice A' 3 cb] 25));rw [← hv];have h2 : Qc w1 v1:=by rw [hv];exact (Qc.refl _).alloc _
 have B1 : Qa v1 w1.heap.size 25 #[.slice A 1 ca,.slice A' 3 cb]:=by rw [hv];exact Qa.new _ _ _
 clear hv;generalize w1.heap.size = b1 at *;have E:=h1.trans h2;replace C:=C.ext h2;have Z:=hZ.ext E;clear h1 h2 hZ;have E0:=E;have C0:=C;have Z0:=Z;have B0:=B1;have E1 : Qc v1 v1:=Qc.refl _;go_upto_region 3 with (go_at_call 22;refine zc (loan9_any _) ?_;rintro e w4 ⟨bp,rfl,hx,hbp,PW⟩;replace E:=E.trans hx;replace C:=C.ext hx;replace Z:=Z.ext hx;replace B1:=B1.ext hx;replace E1:=E1.trans hx;clear hx)
 obtain ⟨v4,hv⟩:=Qf (w4.alloc (.cells #[.int .i64 60,.int .i64 1,.int .i64 1,.int .i64 5,.int .i64 0,.int .i64 1,.bool false,.int .i64 1] 67));rw [← hv];have h2 : Qc w4 v4:=by rw [hv];exact (Qc.refl _).alloc _
 have B4 : Qa v4 w4.heap.size 67 #[.int .i64 60,.int .i64 1,.int .i64 1,.int .i64 5,.int .i64 0,.int .i64 1,.bool false,.int .i64 1]:=by rw [hv];exact Qa.new _ _ _
 clear hv;generalize w4.heap.size = b4 at *;replace E:=E.trans h2;replace PW:=PW.ext h2;replace C:=C.ext h2;replace Z:=Z.ext h2;replace B1:=B1.ext h2;replace E1:=E1.trans h2;clear h2;go_upto_region 3 with fail
 apply V0 (S:=fun w' r => Qc v4 w' ∧ Qa w' r 72 #[.int .i64 56,.int .i64 1,.int .i64 0,.int .i64 1,.int .i64 0,.int .i64 1])
 ·refine Qy 11 [6,7,9,10] (fun x => Qc v4 x) mixed rfl ?_;intro vz hvz;have HC:=hvz;refine Qj (g:=8) [0,1,2] HC ?_
  constructor
  refine ⟨fun u hu => ?_,?_⟩
  ·obtain ⟨k0,k1,lk⟩:=Qa.d2 (B1.ext hu);obtain ⟨p0,p1,p2,p3,p4,p5,p6,p7,lp⟩:=Qa.d8 (B4.ext hu);exact Qi
  refine Zd 3 8 ?_ ?_
  ·go_wp2_with (go_at_call 24;refine zc (Jc _ _ _ _) ?_;rintro e wa ⟨rfl,hx⟩);replace HC:=HC.trans hx;clear hx;refine Qe HC ?_;refine Zd 4 8 ?_ ?_
   ·go_wp2_with (go_at_call 23;refine zc (w9_owed1 (C.ext HC) (pay_rows (PW.ext HC)) (Z.ext HC)) ?_;rintro e wa ⟨rfl,hx⟩);replace HC:=HC.trans hx;clear hx;refine Qe HC ?_;refine Qj (g:=5) [5] HC ?_
    constructor
    refine ⟨fun u hu => ?_,?_⟩
    ·obtain ⟨k0,k1,lk⟩:=Qa.d2 (B1.ext hu);obtain ⟨p0,p1,p2,p3,p4,p5,p6,p7,lp⟩:=Qa.d8 (B4.ext hu);exact Qi
    refine Jf (g:=3) [6,7] ?_
    constructor
    refine ⟨fun u hu => ?_,?_⟩
    ·exact Qi
    refine Qh 8 ?_;go_wp2;obtain ⟨b9,wb,hbq,hwb,H5,HC',hx,g5⟩:=Qm HC 72 #[.int .i64 0,.int .i64 0,.int .i64 0,.int .i64 0,.int .i64 0,.int .i64 0];rw [← hbq,← hwb];replace HC:=HC';clear hbq hwb hx HC';refine Qe HC ?_;refine Ql 9 ?_;obtain ⟨z0,z1,z2,z3,z4,z5,x0,x1,x2,x3,x4,x5,lx⟩:=Qa.e6 H5;go_wp2;have H6:=Ys H5 (.int .i64 56) (.int .i64 1) (.int .i64 0) (.int .i64 1) (.int .i64 0) (.int .i64 1);replace HC:=Yq HC g5 (.int .i64 56) (.int .i64 1) (.int .i64 0) (.int .i64 1) (.int .i64 0) (.int .i64 1);clear z0 x0 z1 x1 z2 x2 z3 x3 z4 x4 z5 x5 lx H5;generalize World.setCell _ _ _ = wq at *;refine Qk ?_;refine Ql 10 ?_;go_wp2;refine Qk ?_
    refine Qr ?_;exact J5 b9 ⟨HC,H6⟩ rfl
   ·go_wp2;obtain ⟨b9,wb,hbq,hwb,H5,HC',hx,g5⟩:=Qm HC 72 #[.int .i64 0,.int .i64 0,.int .i64 0,.int .i64 0,.int .i64 0,.int .i64 0];rw [← hbq,← hwb];replace HC:=HC';clear hbq hwb hx HC';refine Qe HC ?_;refine Qh 4 ?_;go_wp2_with (go_at_call 23;refine zc (w9_owed1 (C.ext HC) (pay_rows (PW.ext HC)) (Z.ext HC)) ?_;rintro e wa ⟨rfl,hx⟩);replace HC:=HC.trans hx;try replace H5:=H5.ext hx
    clear hx;refine Qe HC ?_;refine Qj (g:=4) [5] HC ?_
    constructor
    refine ⟨fun u hu => ?_,?_⟩
    ·obtain ⟨k0,k1,lk⟩:=Qa.d2 (B1.ext hu);obtain ⟨p0,p1,p2,p3,p4,p5,p6,p7,lp⟩:=Qa.d8 (B4.ext hu);exact Qi
    refine Jf (g:=2) [6,7] ?_
    constructor
    refine ⟨fun u hu => ?_,?_⟩
    ·exact Qi
    refine Ql 9 ?_;obtain ⟨z0,z1,z2,z3,z4,z5,x0,x1,x2,x3,x4,x5,lx⟩:=Qa.e6 H5;go_wp2;have H6:=Ys H5 (.int .i64 56) (.int .i64 1) (.int .i64 0) (.int .i64 1) (.int .i64 0) (.int .i64 1);replace HC:=Yq HC g5 (.int .i64 56) (.int .i64 1) (.int .i64 0) (.int .i64 1) (.int .i64 0) (.int .i64 1);clear z0 x0 z1 x1 z2 x2 z3 x3 z4 x4 z5 x5 lx H5;generalize World.setCell _ _ _ = wq at *;refine Qk ?_;refine Ql 10 ?_;go_wp2;refine Qk ?_;refine Qr ?_;exact J5 b9 ⟨HC,H6⟩ rfl
  ·go_wp2;obtain ⟨b9,wb,hbq,hwb,H5,HC',hx,g5⟩:=Qm HC 72 #[.int .i64 0,.int .i64 0,.int .i64 0,.int .i64 0,.int .i64 0,.int .i64 0];rw [← hbq,← hwb];replace HC:=HC';clear hbq hwb hx HC';refine Qe HC ?_;refine Qh 3 ?_;go_wp2_with (go_at_call 24;refine zc (Jc _ _ _ _) ?_;rintro e wa ⟨rfl,hx⟩);replace HC:=HC.trans hx;try replace H5:=H5.ext hx
   clear hx;refine Qe HC ?_;refine Qh 4 ?_;go_wp2_with (go_at_call 23;refine zc (w9_owed1 (C.ext HC) (pay_rows (PW.ext HC)) (Z.ext HC)) ?_;rintro e wa ⟨rfl,hx⟩);replace HC:=HC.trans hx;try replace H5:=H5.ext hx
   clear hx;refine Qe HC ?_;refine Qj (g:=4) [5] HC ?_
   constructor
   refine ⟨fun u hu => ?_,?_⟩
   ·obtain ⟨k0,k1,lk⟩:=Qa.d2 (B1.ext hu);obtain ⟨p0,p1,p2,p3,p4,p5,p6,p7,lp⟩:=Qa.d8 (B4.ext hu);exact Qi
   refine Jf (g:=2) [6,7] ?_
   constructor
   refine ⟨fun u hu => ?_,?_⟩
   ·exact Qi
   refine Ql 9 ?_;obtain ⟨z0,z1,z2,z3,z4,z5,x0,x1,x2,x3,x4,x5,lx⟩:=Qa.e6 H5;go_wp2;have H6:=Ys H5 (.int .i64 56) (.int .i64 1) (.int .i64 0) (.int .i64 1) (.int .i64 0) (.int .i64 1);replace HC:=Yq HC g5 (.int .i64 56) (.int .i64 1) (.int .i64 0) (.int .i64 1) (.int .i64 0) (.int .i64 1);clear z0 x0 z1 x1 z2 x2 z3 x3 z4 x4 z5 x5 lx H5;generalize World.setCell _ _ _ = wq at *;refine Qk ?_;refine Ql 10 ?_;go_wp2;refine Qk ?_;refine Qr ?_;exact J5 b9 ⟨HC,H6⟩ rfl
 rintro b5 v5 ⟨h2,B5⟩;replace E:=E.trans h2;replace C:=C.ext h2;replace Z:=Z.ext h2;replace B1:=B1.ext h2;replace E1:=E1.trans h2;replace PW:=PW.ext h2;replace B4:=B4.ext h2;clear h2;obtain ⟨i0,hi,hz0,hz1,hz2⟩:=info_parts info_payK;have PO:=pay_own PW hbp;go_upto_region 4 with fail
 apply Qct (S:=fun w' r _ _ _ => (Qc v1 w' ∧ Qa w' b4 67 #[.int .i64 60,.int .i64 1,.int .i64 1,.int .i64 5,.int .i64 0,.int .i64 1,.bool false,.int .i64 1] ∧ Qa w' b5 72 #[.int .i64 56,.int .i64 1,.int .i64 0,.int .i64 1,.int .i64 0,.int .i64 1]) ∧ Qa w' r 72 #[.int .i64 0,.int .i64 1,.int .i64 0,.int .i64 1,.int .i64 164,.int .i64 5])
 ·refine Qy 16 [11,12,14,15] (fun x => Qc v1 x ∧ Qa x b4 67 #[.int .i64 60,.int .i64 1,.int .i64 1,.int .i64 5,.int .i64 0,.int .i64 1,.bool false,.int .i64 1] ∧ Qa x b5 72 #[.int .i64 56,.int .i64 1,.int .i64 0,.int .i64 1,.int .i64 0,.int .i64 1]) mixed rfl ?_;intro vz hvz;replace PO:=Q1 PO hvz;have HC:=And.intro (E1.trans hvz) (And.intro (B4.ext hvz) (B5.ext hvz));clear hvz;have mz0:=trivial
  all_goals try
   (clear mz0
    refine Qj (g:=13) [0,1,2] HC ?_
    constructor
    refine ⟨fun u hu => ?_,?_⟩
    ·obtain ⟨k0,k1,lk⟩:=Qa.d2 (B0.ext hu.1);obtain ⟨p0,p1,p2,p3,p4,p5,p6,p7,lp⟩:=Qa.d8 hu.2.1;exact Qi
    have mz1:=trivial)
  all_goals try
   (clear mz1
    refine Zd 3 13 ?_ ?_
    focus
     go_wp2_with (go_at_call 24;refine zc (Jc _ _ _ _) ?_;rintro e wa ⟨rfl,hx⟩);replace HC:=And.intro (HC.1.trans hx) (And.intro (HC.2.1.ext hx) (HC.2.2.ext hx));try replace PO:=Q1 PO hx
     try replace PN:=Q1 PN hx
     clear hx;have mz2:=trivial;refine Qe HC ?_
    rotate_left
    focus
     go_wp2;obtain ⟨b9,wb,hbq,hwb,H5,HC',hx,g5⟩:=Qm HC.1 72 #[.int .i64 0,.int .i64 0,.int .i64 0,.int .i64 0,.int .i64 0,.int .i64 0];rw [← hbq,← hwb];have hb59 : b5 < b9:=by rw [hbq];exact HC.2.2.lt
     replace HC:=And.intro HC' (And.intro (HC.2.1.ext hx) (HC.2.2.ext hx));try replace PO:=Q1 PO hx
     try replace PN:=Q1 PN hx
     clear hbq hwb hx HC';have mz3:=trivial;refine Qe HC ?_
    rotate_left)
  all_goals try
   (clear mz2
    refine Zd 4 13 ?_ ?_
    focus
     go_wp2_with (go_at_call 25;refine zc (Y3 _ _ _) ?_;rintro e wa ⟨rfl,hx⟩);replace HC:=And.intro (HC.1.trans hx) (And.intro (HC.2.1.ext hx) (HC.2.2.ext hx));try replace PO:=Q1 PO hx
     try replace PN:=Q1 PN hx
     clear hx;have mz4:=trivial;refine Qe HC ?_
    rotate_left
    focus
     go_wp2;obtain ⟨b9,wb,hbq,hwb,H5,HC',hx,g5⟩:=Qm HC.1 72 #[.int .i64 0,.int .i64 0,.int .i64 0,.int .i64 0,.int .i64 0,.int .i64 0];rw [← hbq,← hwb];have hb59 : b5 < b9:=by rw [hbq];exact HC.2.2.lt
     replace HC:=And.intro HC' (And.intro (HC.2.1.ext hx) (HC.2.2.ext hx));try replace PO:=Q1 PO hx
     try replace PN:=Q1 PN hx
     clear hbq hwb hx HC';have mz5:=trivial;refine Qe HC ?_
    rotate_left)
  all_goals try
   (clear mz3
    refine Qh 3 ?_;go_wp2_with (go_at_call 24;refine zc (Jc _ _ _ _) ?_;rintro e wa ⟨rfl,hx⟩);replace HC:=And.intro (HC.1.trans hx) (And.intro (HC.2.1.ext hx) (HC.2.2.ext hx));try replace PO:=Q1 PO hx
    try replace PN:=Q1 PN hx
    try replace H5:=H5.ext hx
    clear hx;have mz5:=trivial;refine Qe HC ?_)
  all_goals try
   (clear mz4
    refine Qj (g:=10) [5] HC ?_
    constructor
    refine ⟨fun u hu => ?_,?_⟩
    ·obtain ⟨k0,k1,lk⟩:=Qa.d2 (B0.ext hu.1);obtain ⟨p0,p1,p2,p3,p4,p5,p6,p7,lp⟩:=Qa.d8 hu.2.1;exact Qi
    have mz6:=trivial)
  all_goals try
   (clear mz5
    refine Qh 4 ?_;go_wp2_with (go_at_call 25;refine zc (Y3 _ _ _) ?_;rintro e wa ⟨rfl,hx⟩);replace HC:=And.intro (HC.1.trans hx) (And.intro (HC.2.1.ext hx) (HC.2.2.ext hx));try replace PO:=Q1 PO hx
    try replace PN:=Q1 PN hx
    try replace H5:=H5.ext hx
    clear hx;have mz7:=trivial;refine Qe HC ?_)
  all_goals try
   (clear mz6
    refine Zd 6 13 ?_ ?_
    focus
     go_wp2;obtain ⟨bn,wb,hbq,hwb,HN,HC',hx,_⟩:=Qm HC.1 78 #[.int .i64 1,.int .i64 7,.bool false,.int .i64 1,.int .i64 100,.int .i64 1];rw [← hbq,← hwb];replace HC:=And.intro HC' (And.intro (HC.2.1.ext hx) (HC.2.2.ext hx));try replace PO:=Q1 PO hx
     clear hbq hwb hx HC';have mz8:=trivial;refine Qe HC ?_
    rotate_left
    focus
     go_wp2;obtain ⟨b9,wb,hbq,hwb,H5,HC',hx,g5⟩:=Qm HC.1 72 #[.int .i64 0,.int .i64 0,.int .i64 0,.int .i64 0,.int .i64 0,.int .i64 0];rw [← hbq,← hwb];have hb59 : b5 < b9:=by rw [hbq];exact HC.2.2.lt
     replace HC:=And.intro HC' (And.intro (HC.2.1.ext hx) (HC.2.2.ext hx));try replace PO:=Q1 PO hx
     try replace PN:=Q1 PN hx
     clear hbq hwb hx HC';have mz9:=trivial;refine Qe HC ?_
    rotate_left)
  all_goals try
   (clear mz7
    refine Qj (g:=9) [5] HC ?_
    constructor
    refine ⟨fun u hu => ?_,?_⟩
    ·obtain ⟨k0,k1,lk⟩:=Qa.d2 (B0.ext hu.1);obtain ⟨p0,p1,p2,p3,p4,p5,p6,p7,lp⟩:=Qa.d8 hu.2.1;exact Qi
    have mz9:=trivial)
  all_goals try
   (clear mz8
    refine Zd 7 13 ?_ ?_
    focus
     go_wp2_with (at_builtin;refine wpList_append_own_at _ rfl _ _ 68 rfl v1.heap.size 78 i0 (.agg #[.int .i64 0,.int .i64 0,.bool false,.int .i64 0,.int .i64 0,.int .i64 0]) 6 48 Tryz.underlying68 hi hz0 hz1 hz2 rfl zD _ _ _ rfl PO ⟨bn,0,none⟩ 1 1 [.int .i64 1,.int .i64 7,.bool false,.int .i64 1,.int .i64 100,.int .i64 1] rfl rfl (held_news HN) (by simp [Value.oneCell']) zD zD HC.1.size ?_;intro o' w8 PN hg _ _;obtain ⟨g8,c8,e8,_,_⟩:=Vu PN zD;subst e8);replace HC:=And.intro (HC.1.grown hg (fun q hq => by cases hq;exact hbp)) (And.intro (HC.2.1.kept hg (HC.2.1.not_row zD PO)) (HC.2.2.kept hg (HC.2.2.not_row zD PO)));try replace H5:=H5.kept hg (H5.not_row zD PO)
     clear hg PO HN;have mz10:=trivial;refine Qe HC ?_
    rotate_left
    focus
     go_wp2;obtain ⟨b9,wb,hbq,hwb,H5,HC',hx,g5⟩:=Qm HC.1 72 #[.int .i64 0,.int .i64 0,.int .i64 0,.int .i64 0,.int .i64 0,.int .i64 0];rw [← hbq,← hwb];have hb59 : b5 < b9:=by rw [hbq];exact HC.2.2.lt
     replace HC:=And.intro HC' (And.intro (HC.2.1.ext hx) (HC.2.2.ext hx));try replace PO:=Q1 PO hx
     try replace HN:=HN.ext hx
     try replace PN:=Q1 PN hx
     clear hbq hwb hx HC';have mz11:=trivial;refine Qe HC ?_
    rotate_left)
  all_goals try
   (clear mz9
    refine Qh 6 ?_;go_wp2;obtain ⟨bn,wb,hbq,hwb,HN,HC',hx,_⟩:=Qm HC.1 78 #[.int .i64 1,.int .i64 7,.bool false,.int .i64 1,.int .i64 100,.int .i64 1];rw [← hbq,← hwb];replace HC:=And.intro HC' (And.intro (HC.2.1.ext hx) (HC.2.2.ext hx));try replace PO:=Q1 PO hx
    try replace H5:=H5.ext hx
    clear hbq hwb hx HC';have mz11:=trivial;refine Qe HC ?_)
  all_goals try
   (clear mz10
    refine Zd 8 13 ?_ ?_
    focus
     go_wp2_with (go_at_call 24;refine zc (Jc _ _ _ _) ?_;rintro e wa ⟨rfl,hx⟩);replace HC:=And.intro (HC.1.trans hx) (And.intro (HC.2.1.ext hx) (HC.2.2.ext hx));try replace PO:=Q1 PO hx
     try replace HN:=HN.ext hx
     try replace PN:=Q1 PN hx
     clear hx;have mz12:=trivial;refine Qe HC ?_
    rotate_left
    focus
     go_wp2;obtain ⟨b9,wb,hbq,hwb,H5,HC',hx,g5⟩:=Qm HC.1 72 #[.int .i64 0,.int .i64 0,.int .i64 0,.int .i64 0,.int .i64 0,.int .i64 0];rw [← hbq,← hwb];have hb59 : b5 < b9:=by rw [hbq];exact HC.2.2.lt
     replace HC:=And.intro HC' (And.intro (HC.2.1.ext hx) (HC.2.2.ext hx));try replace PO:=Q1 PO hx
     try replace HN:=HN.ext hx
     try replace PN:=Q1 PN hx
     clear hbq hwb hx HC';have mz13:=trivial;refine Qe HC ?_
    rotate_left)
  all_goals try
   (clear mz11
    refine Qh 7 ?_;go_wp2_with (at_builtin;refine wpList_append_own_at _ rfl _ _ 68 rfl v1.heap.size 78 i0 (.agg #[.int .i64 0,.int .i64 0,.bool false,.int .i64 0,.int .i64 0,.int .i64 0]) 6 48 Tryz.underlying68 hi hz0 hz1 hz2 rfl zD _ _ _ rfl PO ⟨bn,0,none⟩ 1 1 [.int .i64 1,.int .i64 7,.bool false,.int .i64 1,.int .i64 100,.int .i64 1] rfl rfl (held_news HN) (by simp [Value.oneCell']) zD zD HC.1.size ?_;intro o' w8 PN hg _ _;obtain ⟨g8,c8,e8,_,_⟩:=Vu PN zD;subst e8);replace HC:=And.intro (HC.1.grown hg (fun q hq => by cases hq;exact hbp)) (And.intro (HC.2.1.kept hg (HC.2.1.not_row zD PO)) (HC.2.2.kept hg (HC.2.2.not_row zD PO)));try replace H5:=H5.kept hg (H5.not_row zD PO)
    clear hg PO HN;have mz13:=trivial;refine Qe HC ?_)
  all_goals try
   (clear mz12
    refine Zd 9 13 ?_ ?_
    focus
     go_wp2_with (go_at_call 23;refine zc (w9_owed2 (C0.ext HC.1) (pay2_rows PN) (Z0.ext HC.1)) ?_;rintro e wa ⟨rfl,hx⟩);replace HC:=And.intro (HC.1.trans hx) (And.intro (HC.2.1.ext hx) (HC.2.2.ext hx));try replace PO:=Q1 PO hx
     try replace HN:=HN.ext hx
     try replace PN:=Q1 PN hx
     clear hx;have mz14:=trivial;refine Qe HC ?_
    rotate_left
    focus
     go_wp2;obtain ⟨b9,wb,hbq,hwb,H5,HC',hx,g5⟩:=Qm HC.1 72 #[.int .i64 0,.int .i64 0,.int .i64 0,.int .i64 0,.int .i64 0,.int .i64 0];rw [← hbq,← hwb];have hb59 : b5 < b9:=by rw [hbq];exact HC.2.2.lt
     replace HC:=And.intro HC' (And.intro (HC.2.1.ext hx) (HC.2.2.ext hx));try replace PO:=Q1 PO hx
     try replace HN:=HN.ext hx
     try replace PN:=Q1 PN hx
     clear hbq hwb hx HC';have mz15:=trivial;refine Qe HC ?_
    rotate_left)
  all_goals try
   (clear mz13
    refine Qh 8 ?_;go_wp2_with (go_at_call 24;refine zc (Jc _ _ _ _) ?_;rintro e wa ⟨rfl,hx⟩);replace HC:=And.intro (HC.1.trans hx) (And.intro (HC.2.1.ext hx) (HC.2.2.ext hx));try replace PO:=Q1 PO hx
    try replace HN:=HN.ext hx
    try replace PN:=Q1 PN hx
    try replace H5:=H5.ext hx
    clear hx;have mz15:=trivial;refine Qe HC ?_)
  all_goals try
   (clear mz14
    refine Qj (g:=5) [10] HC ?_
    constructor
    refine ⟨fun u hu => ?_,?_⟩
    ·obtain ⟨k0,k1,lk⟩:=Qa.d2 (B0.ext hu.1);obtain ⟨p0,p1,p2,p3,p4,p5,p6,p7,lp⟩:=Qa.d8 hu.2.1;exact Qi
    have mz16:=trivial)
  all_goals try
   (clear mz15
    refine Qh 9 ?_;go_wp2_with (go_at_call 23;refine zc (w9_owed2 (C0.ext HC.1) (pay2_rows PN) (Z0.ext HC.1)) ?_;rintro e wa ⟨rfl,hx⟩);replace HC:=And.intro (HC.1.trans hx) (And.intro (HC.2.1.ext hx) (HC.2.2.ext hx));try replace PO:=Q1 PO hx
    try replace HN:=HN.ext hx
    try replace PN:=Q1 PN hx
    try replace H5:=H5.ext hx
    clear hx;have mz17:=trivial;refine Qe HC ?_)
  all_goals try
   (clear mz16
    refine Jf (g:=3) [11,12] ?_
    constructor
    refine ⟨fun u hu => ?_,?_⟩
    ·exact Qi
    have mz19:=trivial)
  all_goals try
   (clear mz17
    refine Qj (g:=4) [10] HC ?_
    constructor
    refine ⟨fun u hu => ?_,?_⟩
    ·obtain ⟨k0,k1,lk⟩:=Qa.d2 (B0.ext hu.1);obtain ⟨p0,p1,p2,p3,p4,p5,p6,p7,lp⟩:=Qa.d8 hu.2.1;exact Qi
    have mz18:=trivial)
  all_goals try
   (clear mz18
    refine Jf (g:=2) [11,12] ?_
    constructor
    refine ⟨fun u hu => ?_,?_⟩
    ·exact Qi
    have mz20:=trivial)
  all_goals try
   (clear mz19
    refine Qh 13 ?_;go_wp2;obtain ⟨b9,wb,hbq,hwb,H5,HC',hx,g5⟩:=Qm HC.1 72 #[.int .i64 0,.int .i64 0,.int .i64 0,.int .i64 0,.int .i64 0,.int .i64 0];rw [← hbq,← hwb];have hb59 : b5 < b9:=by rw [hbq];exact HC.2.2.lt
    replace HC:=And.intro HC' (And.intro (HC.2.1.ext hx) (HC.2.2.ext hx));try replace PO:=Q1 PO hx
    try replace HN:=HN.ext hx
    try replace PN:=Q1 PN hx
    clear hbq hwb hx HC';have mz20:=trivial;refine Qe HC ?_)
  all_goals try
   (clear mz20
    refine Ql 14 ?_;obtain ⟨z0,z1,z2,z3,z4,z5,x0,x1,x2,x3,x4,x5,lx⟩:=Qa.e6 H5;have ne4:=Xd HC.2.1 H5 zD;go_wp2;have H6:=Ys H5 (.int .i64 0) (.int .i64 1) (.int .i64 0) (.int .i64 1) (.int .i64 164) (.int .i64 5);replace HC:=And.intro (Yq HC.1 g5 (.int .i64 0) (.int .i64 1) (.int .i64 0) (.int .i64 1) (.int .i64 164) (.int .i64 5)) (And.intro (Qg (Qg (Qg (Qg (Qg (Qg HC.2.1 ne4 0 (.int .i64 0)) ne4 1 (.int .i64 1)) ne4 2 (.int .i64 0)) ne4 3 (.int .i64 1)) ne4 4 (.int .i64 164)) ne4 5 (.int .i64 5)) (Qg (Qg (Qg (Qg (Qg (Qg HC.2.2 (Nat.ne_of_lt hb59) 0 (.int .i64 0)) (Nat.ne_of_lt hb59) 1 (.int .i64 1)) (Nat.ne_of_lt hb59) 2 (.int .i64 0)) (Nat.ne_of_lt hb59) 3 (.int .i64 1)) (Nat.ne_of_lt hb59) 4 (.int .i64 164)) (Nat.ne_of_lt hb59) 5 (.int .i64 5)))
    clear z0 x0 z1 x1 z2 x2 z3 x3 z4 x4 z5 x5 lx H5;generalize World.setCell _ _ _ = wq at *;have mz21:=trivial;refine Qk ?_)
  all_goals try
   (clear mz21
    refine Ql 15 ?_;go_wp2;have mz22:=trivial;refine Qk ?_)
  all_goals try
   (clear mz22
    refine Qr ?_;exact Nk b9 bn g8 c8 ⟨HC,H6⟩ rfl)
 rintro b6 bn g8 c8 v6 ⟨⟨E1',_,B5'⟩,B6⟩;clear E C Z B1 E1 PW B4 B5 PO hi hz0 hz1 hz2 hbp;have E:=E0.trans E1';have C:=C0.ext E1';have Z:=Z0.ext E1';have B1:=B0.ext E1';have B5:=B5';clear E1' B5' E0 C0 Z0 B0;have ND:=fun w => Cp ⟨7,1⟩ (by unfold Rt.In;decide) w
 simp only [k8_d] at ND;go_upto_region 6 with (first | (go_at_call 25;refine zc (Y3 _ _ _) ?_;rintro e wa ⟨rfl,hx⟩;replace E:=E.trans hx;replace C:=C.ext hx;replace Z:=Z.ext hx;replace B1:=B1.ext hx;replace B5:=B5.ext hx;replace B6:=B6.ext hx;clear hx) | (go_at_call 26;refine zc (ND _) ?_;rintro e w7 ⟨rfl,hx⟩;replace E:=E.trans hx;replace C:=C.ext hx;replace Z:=Z.ext hx;replace B1:=B1.ext hx;replace B5:=B5.ext hx;replace B6:=B6.ext hx;clear hx))
 clear ND;obtain ⟨x0,x1,x2,x3,x4,x5,lx⟩:=Qa.d6 B5;obtain ⟨y0,y1,y2,y3,y4,y5,ly⟩:=Qa.d6 B6;have m1:=fun x1 x2 x3 => Y3 x1 x2 x3
 have n1:=fun u : XW _ => Qme _ (Z.ext u.e)
 refine Zj w7 ?_;intro v7 h2;clear m1 n1;obtain ⟨_,_,_,_⟩:=Zi w7 h2;clear x0 x1 x2 x3 x4 x5 lx y0 y1 y2 y3 y4 y5 ly B5 B6;replace E:=E.trans h2;replace C:=C.ext h2;replace Z:=Z.ext h2;replace B1:=B1.ext h2;clear h2;go_upto_region 8 with fail
 go_upto_region 9 with (first | (go_at_call 20;refine zc (U5 _ _ _) ?_;rintro e wa ⟨b8,rfl,hx,LB⟩;replace E:=E.trans hx;replace C:=C.ext hx;replace Z:=Z.ext hx;replace B1:=B1.ext hx;clear hx) | (go_at_call 27;refine zc (rat8_any LB) ?_;rintro e wr ⟨vr,rfl,hx,LR⟩;replace E:=E.trans hx;replace C:=C.ext hx;replace Z:=Z.ext hx;replace B1:=B1.ext hx;clear LB;clear hx))
 go_upto_region 10 with (first | (go_at_call 20;refine zc (U5 _ _ _) ?_;rintro e wb ⟨b8,rfl,hx,LB⟩;replace E:=E.trans hx;replace C:=C.ext hx;replace Z:=Z.ext hx;replace B1:=B1.ext hx;replace LR:=LR.ext hx;clear hx) | (go_at_call 27;refine zc (rat9_any LB) ?_;rintro e wr2 ⟨vq,rfl,hx⟩;replace E:=E.trans hx;replace C:=C.ext hx;replace Z:=Z.ext hx;replace B1:=B1.ext hx;replace LR:=LR.ext hx;clear LB;clear hx))
 go_upto_region 11 with (first | (go_at_call 25;refine zc (Y3 _ _ _) ?_;rintro e wa ⟨rfl,hx⟩;replace E:=E.trans hx;replace C:=C.ext hx;replace Z:=Z.ext hx;replace B1:=B1.ext hx;replace LR:=LR.ext hx;clear hx) | (go_at_call 28;refine zc (int10_any Z) ?_;rintro e wi ⟨rfl,hx⟩;replace E:=E.trans hx;replace C:=C.ext hx;replace Z:=Z.ext hx;replace B1:=B1.ext hx;replace LR:=LR.ext hx;clear hx))
 go_upto_region 12 with (first | (go_at_call 25;refine zc (Y3 _ _ _) ?_;rintro e wa ⟨rfl,hx⟩;replace E:=E.trans hx;replace C:=C.ext hx;replace Z:=Z.ext hx;replace B1:=B1.ext hx;replace LR:=LR.ext hx;clear hx) | (go_at_call 28;refine zc (int11_any Z) ?_;rintro e wz ⟨rfl,hx⟩;replace E:=E.trans hx;replace C:=C.ext hx;replace Z:=Z.ext hx;replace B1:=B1.ext hx;replace LR:=LR.ext hx;clear hx))
 obtain ⟨v11,hv⟩:=Qf (wz.alloc (.cells #[.int .i64 0,.int .i64 0] 65));rw [← hv];have h2 : Qc wz v11:=by rw [hv];exact (Qc.refl _).alloc _
 have B11 : Qa v11 wz.heap.size 65 #[.int .i64 0,.int .i64 0]:=by rw [hv];exact Qa.new _ _ _
 clear hv;generalize wz.heap.size = b11 at *;replace E:=E.trans h2;replace C:=C.ext h2;replace Z:=Z.ext h2;replace B1:=B1.ext h2;replace LR:=LR.ext h2;clear h2;clear B11;go_upto_region 14 with (first | (go_at_call 29;refine zc (same12_any LR) ?_;rintro e ws ⟨rfl,hx⟩;replace E:=E.trans hx;replace C:=C.ext hx;replace Z:=Z.ext hx;replace B1:=B1.ext hx;replace LR:=LR.ext hx;clear hx))
 clear LR;go_upto_region 15 with (go_at_call 24;refine zc (Jc _ _ _ _) ?_;rintro e wa ⟨rfl,hx⟩;replace E:=E.trans hx;replace C:=C.ext hx;replace Z:=Z.ext hx;replace B1:=B1.ext hx;clear hx)
 obtain ⟨v14,hv⟩:=Qf (wa.alloc (.cells #[.string ⟨#[97]⟩,.int .i64 0,.int .i64 1,.bool false,.int .i64 1,.int .i64 0,.int .i64 1,.bool false,.int .i64 30,.slice none 0 0,.slice none 0 0,.slice none 0 0] 55));rw [← hv];have h2 : Qc wa v14:=by rw [hv];exact (Qc.refl _).alloc _
 have B14 : Qa v14 wa.heap.size 55 #[.string ⟨#[97]⟩,.int .i64 0,.int .i64 1,.bool false,.int .i64 1,.int .i64 0,.int .i64 1,.bool false,.int .i64 30,.slice none 0 0,.slice none 0 0,.slice none 0 0]:=by rw [hv];exact Qa.new _ _ _
 clear hv;generalize wa.heap.size = b14 at *;replace E:=E.trans h2;replace C:=C.ext h2;replace Z:=Z.ext h2;replace B1:=B1.ext h2;clear h2;go_upto_region 16 with (go_at_call 24;refine zc (Jc _ _ _ _) ?_;rintro e wa ⟨rfl,hx⟩;replace E:=E.trans hx;replace C:=C.ext hx;replace Z:=Z.ext hx;replace B1:=B1.ext hx;replace B14:=B14.ext hx;clear hx)
 obtain ⟨v15,hv⟩:=Qf (wa.alloc (.cells #[.string ⟨#[97]⟩,.int .i64 0,.int .i64 2,.bool false,.int .i64 2,.int .i64 0,.int .i64 2,.bool false,.int .i64 30,.slice none 0 0,.slice none 0 0,.slice none 0 0] 55));rw [← hv];have h2 : Qc wa v15:=by rw [hv];exact (Qc.refl _).alloc _
 have B15 : Qa v15 wa.heap.size 55 #[.string ⟨#[97]⟩,.int .i64 0,.int .i64 2,.bool false,.int .i64 2,.int .i64 0,.int .i64 2,.bool false,.int .i64 30,.slice none 0 0,.slice none 0 0,.slice none 0 0]:=by rw [hv];exact Qa.new _ _ _
 clear hv;generalize wa.heap.size = b15 at *;replace E:=E.trans h2;replace C:=C.ext h2;replace Z:=Z.ext h2;replace B1:=B1.ext h2;replace B14:=B14.ext h2;clear h2;obtain ⟨k0,k1,lk⟩:=Qa.d2 B1;obtain ⟨x0,x1,x2,x3,x4,x5,x6,x7,x8,x9,x10,x11,lx⟩:=Qa.d12 B14;obtain ⟨y0,y1,y2,y3,y4,y5,y6,y7,y8,y9,y10,y11,ly⟩:=Qa.d12 B15;go_upto_region 17 with (go_at_call 30;refine zc (join8_any C) ?_;rintro e wj ⟨vj,rfl,hx⟩;replace E:=E.trans hx;replace C:=C.ext hx;replace Z:=Z.ext hx;replace B1:=B1.ext hx;replace B14:=B14.ext hx;replace B15:=B15.ext hx;clear hx)
 clear k0 k1 lk x0 x1 x2 x3 x4 x5 x6 x7 x8 x9 x10 x11 lx y0 y1 y2 y3 y4 y5 y6 y7 y8 y9 y10 y11 ly;obtain ⟨k0,k1,lk⟩:=Qa.d2 B1;obtain ⟨x0,x1,x2,x3,x4,x5,x6,x7,x8,x9,x10,x11,lx⟩:=Qa.d12 B14;obtain ⟨y0,y1,y2,y3,y4,y5,y6,y7,y8,y9,y10,y11,ly⟩:=Qa.d12 B15;go_upto_region 18 with (go_at_call 16;refine zc (carry8_any C) ?_;rintro e wc ⟨vc8,rfl,hx⟩;replace E:=E.trans hx;replace C:=C.ext hx;replace Z:=Z.ext hx;replace B1:=B1.ext hx;replace B14:=B14.ext hx;replace B15:=B15.ext hx;clear hx)
 clear k0 k1 lk x0 x1 x2 x3 x4 x5 x6 x7 x8 x9 x10 x11 lx y0 y1 y2 y3 y4 y5 y6 y7 y8 y9 y10 y11 ly;obtain ⟨k0,k1,lk⟩:=Qa.d2 B1;obtain ⟨x0,x1,x2,x3,x4,x5,x6,x7,x8,x9,x10,x11,lx⟩:=Qa.d12 B14;clear k0 k1 lk x0 x1 x2 x3 x4 x5 x6 x7 x8 x9 x10 x11 lx;go_upto_region 18 with fail
 refine Qy 9 [8] (fun x => Qc wc x) mixed rfl ?_;intro vz hvz;have HC:=hvz;refine Qj (g:=7) [0,1] HC ?_
 constructor
 refine ⟨fun u hu => ?_,?_⟩
 ·obtain ⟨k0,k1,lk⟩:=Qa.d2 (B1.ext hu);obtain ⟨x0,x1,x2,x3,x4,x5,x6,x7,x8,x9,x10,x11,lx⟩:=Qa.d12 (B14.ext hu);exact Qi
 refine Qh 2 ?_;go_wp2_with (go_at_call 24;refine zc (Jc _ _ _ _) ?_;rintro e wa ⟨rfl,hx⟩);replace HC:=HC.trans hx;clear hx;refine Qe HC ?_;refine Qh 3 ?_;go_wp2_with (go_at_call 31;refine zc (div8_any (C.ext HC)) ?_;rintro e wa ⟨vd1,vd2,rfl,hx⟩);replace HC:=HC.trans hx;clear hx;refine Qe HC ?_;refine Qj (g:=1) [4,5,6,7] HC ?_
 constructor
 refine ⟨fun u hu => ?_,?_⟩
 ·obtain ⟨k0,k1,lk⟩:=Qa.d2 (B1.ext hu);obtain ⟨x0,x1,x2,x3,x4,x5,x6,x7,x8,x9,x10,x11,lx⟩:=Qa.d12 (B14.ext hu);exact Qi
 refine Ql 8 ?_;go_wp2;refine Qk ?_;refine Qr ?_;replace E:=E.trans HC;replace C:=C.ext HC;replace Z:=Z.ext HC;replace B1:=B1.ext HC;replace B14:=B14.ext HC;replace B15:=B15.ext HC;clear HC;go_upto_region 19 with fail
 clear B14 B15;refine Qy 6 [5] (fun x => Qc wa x) mixed rfl ?_;intro vz hvz;have HC:=hvz;refine Qj (g:=5) [0] HC ?_
 constructor
 refine ⟨fun u hu => ?_,?_⟩
 ·obtain ⟨k0,k1,lk⟩:=Qa.d2 (B1.ext hu);exact Qi
 refine Qh 1 ?_;go_wp2_with (go_at_call 24;refine zc (Jc _ _ _ _) ?_;rintro e wa ⟨rfl,hx⟩);replace HC:=HC.trans hx;clear hx;refine Qe HC ?_;refine Qh 2 ?_;go_wp2_with (go_at_call 24;refine zc (Jc _ _ _ _) ?_;rintro e wa ⟨rfl,hx⟩);replace HC:=HC.trans hx;clear hx;refine Qe HC ?_;refine Qj (g:=2) [3] HC ?_
 constructor
 refine ⟨fun u hu => ?_,?_⟩
 ·obtain ⟨k0,k1,lk⟩:=Qa.d2 (B1.ext hu);exact Qi
 refine Qh 4 ?_;go_wp2_with (go_at_call 32;refine zc (chk8_any (C.ext HC)) ?_;rintro e wa ⟨rfl,hx⟩);replace HC:=HC.trans hx;clear hx;refine Qe HC ?_;refine Ql 5 ?_;go_wp2;refine Qk ?_;refine Qr ?_;replace E:=E.trans HC;replace C:=C.ext HC;replace Z:=Z.ext HC;replace B1:=B1.ext HC;clear HC;go_upto_region 22 with fail
 go_upto_region 23 with (first | (go_at_call 24;refine zc (Jc _ _ _ _) ?_;rintro e wa ⟨rfl,hx⟩;replace E:=E.trans hx;replace C:=C.ext hx;replace Z:=Z.ext hx;replace B1:=B1.ext hx;(try replace L1:=L1.ext hx);clear hx) | (have hh:=L1;clear hh;go_at_call 20;(with_reducible refine zc (U5 _ _ _) ?_);rintro e wa ⟨a2,rfl,hx,L2⟩;replace E:=E.trans hx;replace C:=C.ext hx;replace Z:=Z.ext hx;replace B1:=B1.ext hx;replace L1:=L1.ext hx;clear hx) | (go_at_call 20;(with_reducible refine zc (U5 _ _ _) ?_);rintro e wa ⟨a1,rfl,hx,L1⟩;replace E:=E.trans hx;replace C:=C.ext hx;replace Z:=Z.ext hx;replace B1:=B1.ext hx;clear hx))
 obtain ⟨v22,hv⟩:=Qf (wa.alloc (.cells #[.int .i64 0,.int .i64 1,.bool false,.int .i64 1,.bool false,.string ⟨#[98]⟩,.slice (some ⟨a1,0,none⟩) 1 1,.int .i64 0,.int .i64 1,.bool false,.int .i64 2,.bool false,.string ⟨#[98]⟩,.slice (some ⟨a2,0,none⟩) 1 1] 57));have hs : wa.heap.size + 1 = v22.heap.size:=by rw [hv];simp
 rw [← hv,hs];have h2 : Qc wa v22:=by rw [hv];exact (Qc.refl _).alloc _
 have DG : Qa v22 wa.heap.size 57 #[.int .i64 0,.int .i64 1,.bool false,.int .i64 1,.bool false,.string ⟨#[98]⟩,.slice (some ⟨a1,0,none⟩) 1 1,.int .i64 0,.int .i64 1,.bool false,.int .i64 2,.bool false,.string ⟨#[98]⟩,.slice (some ⟨a2,0,none⟩) 1 1]:=by rw [hv];exact Qa.new _ _ _
 clear hv hs;generalize wa.heap.size = dg at *;have GP:=give_at DG (L1.ext h2) (L2.ext h2);clear L1 L2 DG;replace E:=E.trans h2;replace C:=C.ext h2;replace Z:=Z.ext h2;replace B1:=B1.ext h2;clear h2;obtain ⟨v23,hv⟩:=Qf (v22.alloc (.cells #[.string ⟨#[97]⟩,.int .i64 0,.int .i64 1,.bool false,.int .i64 1,.int .i64 0,.int .i64 1,.bool false,.int .i64 30,.slice none 0 0,.slice (some ⟨dg,0,none⟩) 2 2,.slice none 0 0] 55));rw [← hv];have h2 : Qc v22 v23:=by rw [hv];exact (Qc.refl _).alloc _
 have BG : Qa v23 v22.heap.size 55 #[.string ⟨#[97]⟩,.int .i64 0,.int .i64 1,.bool false,.int .i64 1,.int .i64 0,.int .i64 1,.bool false,.int .i64 30,.slice none 0 0,.slice (some ⟨dg,0,none⟩) 2 2,.slice none 0 0]:=by rw [hv];exact Qa.new _ _ _
 clear hv;generalize v22.heap.size = bg at *;replace E:=E.trans h2;replace C:=C.ext h2;replace Z:=Z.ext h2;replace B1:=B1.ext h2;replace GP:=GP.ext h2;clear h2;go_upto_region 24 with (first | (go_at_call 24;refine zc (Jc _ _ _ _) ?_;rintro e wa ⟨rfl,hx⟩;replace E:=E.trans hx;replace C:=C.ext hx;replace Z:=Z.ext hx;replace B1:=B1.ext hx;replace GP:=GP.ext hx;replace BG:=BG.ext hx;(try replace L1:=L1.ext hx);clear hx) | (have hh:=L1;clear hh;go_at_call 20;(with_reducible refine zc (U5 _ _ _) ?_);rintro e wa ⟨a4,rfl,hx,L2⟩;replace E:=E.trans hx;replace C:=C.ext hx;replace Z:=Z.ext hx;replace B1:=B1.ext hx;replace GP:=GP.ext hx;replace BG:=BG.ext hx;replace L1:=L1.ext hx;clear hx) | (go_at_call 20;(with_reducible refine zc (U5 _ _ _) ?_);rintro e wa ⟨a3,rfl,hx,L1⟩;replace E:=E.trans hx;replace C:=C.ext hx;replace Z:=Z.ext hx;replace B1:=B1.ext hx;replace GP:=GP.ext hx;replace BG:=BG.ext hx;clear hx))
 obtain ⟨v24,hv⟩:=Qf (wa.alloc (.cells #[.int .i64 0,.int .i64 1,.bool false,.int .i64 3,.bool true,.string ⟨#[97]⟩,.slice (some ⟨a3,0,none⟩) 1 1,.int .i64 0,.int .i64 1,.bool false,.int .i64 4,.bool true,.string ⟨#[97]⟩,.slice (some ⟨a4,0,none⟩) 1 1] 57));have hs : wa.heap.size + 1 = v24.heap.size:=by rw [hv];simp
 rw [← hv,hs];have h2 : Qc wa v24:=by rw [hv];exact (Qc.refl _).alloc _
 have DK : Qa v24 wa.heap.size 57 #[.int .i64 0,.int .i64 1,.bool false,.int .i64 3,.bool true,.string ⟨#[97]⟩,.slice (some ⟨a3,0,none⟩) 1 1,.int .i64 0,.int .i64 1,.bool false,.int .i64 4,.bool true,.string ⟨#[97]⟩,.slice (some ⟨a4,0,none⟩) 1 1]:=by rw [hv];exact Qa.new _ _ _
 clear hv hs;generalize wa.heap.size = dk at *;have KP:=take_at DK (L1.ext h2) (L2.ext h2);have OP:=one_at DK (L1.ext h2);clear L1 L2 DK;replace E:=E.trans h2;replace C:=C.ext h2;replace Z:=Z.ext h2;replace B1:=B1.ext h2;replace GP:=GP.ext h2;replace BG:=BG.ext h2;clear h2;obtain ⟨v25,hv⟩:=Qf (v24.alloc (.cells #[.string ⟨#[98]⟩,.int .i64 0,.int .i64 1,.bool false,.int .i64 1,.int .i64 0,.int .i64 1,.bool false,.int .i64 30,.slice none 0 0,.slice (some ⟨dk,0,none⟩) 2 2,.slice none 0 0] 55));rw [← hv];have h2 : Qc v24 v25:=by rw [hv];exact (Qc.refl _).alloc _
 have BK : Qa v25 v24.heap.size 55 #[.string ⟨#[98]⟩,.int .i64 0,.int .i64 1,.bool false,.int .i64 1,.int .i64 0,.int .i64 1,.bool false,.int .i64 30,.slice none 0 0,.slice (some ⟨dk,0,none⟩) 2 2,.slice none 0 0]:=by rw [hv];exact Qa.new _ _ _
 clear hv;generalize v24.heap.size = bk at *;replace E:=E.trans h2;replace C:=C.ext h2;replace Z:=Z.ext h2;replace B1:=B1.ext h2;replace GP:=GP.ext h2;replace BG:=BG.ext h2;replace KP:=KP.ext h2;replace OP:=OP.ext h2;clear h2;obtain ⟨k0,k1,lk⟩:=Qa.d2 B1;obtain ⟨x0,x1,x2,x3,x4,x5,x6,x7,x8,x9,x10,x11,lx⟩:=Qa.d12 BK;go_upto_region 25 with fail
 clear k0 k1 lk x0 x1 x2 x3 x4 x5 x6 x7 x8 x9 x10 x11 lx;obtain ⟨bo,v26,hbq,hwb,BO,X6,hx6,g6⟩:=Qm (Qc.refl v25) 55 #[.string ⟨#[98]⟩,.int .i64 0,.int .i64 1,.bool false,.int .i64 1,.int .i64 0,.int .i64 1,.bool false,.int .i64 30,.slice none 0 0,.slice (some ⟨dk,0,none⟩) 2 2,.slice none 0 0];rw [← hbq,← hwb];clear hbq hwb hx6;obtain ⟨x0,x1,x2,x3,x4,x5,x6,x7,x8,x9,x10,x11,lx⟩:=Qa.d12 (BK.ext X6);have z10:=BO.frozen 10;obtain ⟨y0,y1,y2,y3,y4,y5,y6,y7,y8,y9,y10,y11,ly⟩:=Qa.d12 BO;go_upto_region 26 with fail
 clear x0 x1 x2 x3 x4 x5 x6 x7 x8 x9 x10 x11 lx y0 y1 y2 y3 y4 y5 y6 y7 y8 y9 y10 y11 ly z10;have BN:=held12_10 BO (.slice (some ⟨dk,0,none⟩) 1 2);replace X6:=X6.setCell (p:=⟨bo,10,none⟩) g6 (.slice (some ⟨dk,0,none⟩) 1 2);clear BO;generalize World.setCell _ _ _ = v27 at *;replace E:=E.trans X6;replace C:=C.ext X6;replace Z:=Z.ext X6;replace B1:=B1.ext X6;replace GP:=GP.ext X6;replace BG:=BG.ext X6;replace KP:=KP.ext X6;replace OP:=OP.ext X6;replace BK:=BK.ext X6;clear X6;obtain ⟨k0,k1,lk⟩:=Qa.d2 B1;obtain ⟨x0,x1,x2,x3,x4,x5,x6,x7,x8,x9,x10,x11,lx⟩:=Qa.d12 BG;obtain ⟨y0,y1,y2,y3,y4,y5,y6,y7,y8,y9,y10,y11,ly⟩:=Qa.d12 BN;go_upto_region 27 with (go_at_call 9;refine zc (m26_any C GP OP) ?_;rintro e wm ⟨g1,m1,rfl,hx,R1⟩;replace E:=E.trans hx;replace C:=C.ext hx;replace Z:=Z.ext hx;replace B1:=B1.ext hx;replace GP:=GP.ext hx;replace BG:=BG.ext hx;replace KP:=KP.ext hx;replace OP:=OP.ext hx;replace BK:=BK.ext hx;replace BN:=BN.ext hx;clear hx)
 clear k0 k1 lk x0 x1 x2 x3 x4 x5 x6 x7 x8 x9 x10 x11 lx y0 y1 y2 y3 y4 y5 y6 y7 y8 y9 y10 y11 ly;obtain ⟨k0,k1,lk⟩:=Qa.d2 B1;obtain ⟨x0,x1,x2,x3,x4,x5,x6,x7,x8,x9,x10,x11,lx⟩:=Qa.d12 BG;obtain ⟨y0,y1,y2,y3,y4,y5,y6,y7,y8,y9,y10,y11,ly⟩:=Qa.d12 BK;go_upto_region 28 with (go_at_call 9;refine zc (m27_any C GP KP) ?_;rintro e wm2 ⟨g2,m2,rfl,hx,R2⟩;replace E:=E.trans hx;replace C:=C.ext hx;replace Z:=Z.ext hx;replace B1:=B1.ext hx;replace GP:=GP.ext hx;replace BG:=BG.ext hx;replace KP:=KP.ext hx;replace OP:=OP.ext hx;replace BK:=BK.ext hx;replace BN:=BN.ext hx;replace R1:=R1.ext hx;clear hx)
 clear k0 k1 lk x0 x1 x2 x3 x4 x5 x6 x7 x8 x9 x10 x11 lx y0 y1 y2 y3 y4 y5 y6 y7 y8 y9 y10 y11 ly;obtain ⟨k0,k1,lk⟩:=Qa.d2 B1;obtain ⟨x0,x1,x2,x3,x4,x5,x6,x7,x8,x9,x10,x11,lx⟩:=Qa.d12 BG;obtain ⟨y0,y1,y2,y3,y4,y5,y6,y7,y8,y9,y10,y11,ly⟩:=Qa.d12 BN;go_upto_region 29 with (go_at_call 14;refine zc (a28_any C GP OP) ?_;rintro e wa9 ⟨g3,m3,rfl,hx,R3⟩;replace E:=E.trans hx;replace C:=C.ext hx;replace Z:=Z.ext hx;replace B1:=B1.ext hx;replace GP:=GP.ext hx;replace BG:=BG.ext hx;replace KP:=KP.ext hx;replace OP:=OP.ext hx;replace BK:=BK.ext hx;replace BN:=BN.ext hx;replace R1:=R1.ext hx;replace R2:=R2.ext hx;clear hx)
 clear k0 k1 lk x0 x1 x2 x3 x4 x5 x6 x7 x8 x9 x10 x11 lx y0 y1 y2 y3 y4 y5 y6 y7 y8 y9 y10 y11 ly;clear GP KP OP BG BK BN B1 C Z;obtain ⟨lr1,p0,p1,p2,p3⟩:=r1_cells R1;obtain ⟨lr2,q0,q1,q2,q3,q4,q5,q6,q7⟩:=r2_cells R2;obtain ⟨lr3,s0,s1,s2,s3,s4,s5,s6,s7,s8⟩:=r3_cells R3;clear R1 R2 R3;go_wp2;go_ret;exact ⟨rfl,E⟩
end Go.Proofs.YtoflcheopfppoaaGreatDoor