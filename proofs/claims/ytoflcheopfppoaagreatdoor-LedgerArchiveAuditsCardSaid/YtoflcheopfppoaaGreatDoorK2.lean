/- Walks and plain facts, packed; no conditions but those that each states. -/
import Derived.Test.YtoflcheopfppoaaGreatDoorK1
import Derived.Outline
import Derived.Lib.Hide
import Derived.Laws.StructEq
import Derived.Maps.Own
import Derived.Maps.Views
import Derived.DeepKeys4
import Derived.Sort.CutIn
import Derived.Shelf.Abstract
import Derived.Shelf.RegionOpen
import Derived.Test.YtoflcheopfppoaaGreatDoorShelf
set_option maxRecDepth 100000
set_option maxHeartbeats 4000000
namespace Go.Proofs.YtoflcheopfppoaaGreatDoor
section
open Go Go.RowKit
attribute [local go_sem] Oper.semAt_some
structure Y4 (n₀ : Nat) (W W' : World) : Prop where
 below : Below n₀ W W'
 years : ∀ (k : Nat) (cs : Array Value) (f : Nat × Nat),W.heap[k]? = some (.cells cs 148 f) → W'.heap[k]? = some (.cells cs 148 f)
namespace Y4
variable {n₀ : Nat} {A B C : World}
theorem refl (n₀ : Nat) (W : World) : Y4 n₀ W W:=⟨Below.refl _ _,fun _ _ _ h => h⟩
theorem trans (h : Y4 n₀ A B) (k : Y4 n₀ B C) : Y4 n₀ A C:=⟨h.below.trans k.below,fun i cs f hi => k.years i cs f (h.years i cs f hi)⟩
theorem of_ext (e : Qc A B) (hn : n₀ ≤ A.heap.size) : Y4 n₀ A B:=⟨e.below.mono hn,fun _ _ _ hi => (e.block (Array.getElem?_eq_some_iff.1 hi).1).trans hi⟩
theorem grown {row : Option Nat} (hg : A.grownBy B row) (hn : n₀ ≤ A.heap.size) (hr : ∀ r,row = some r → n₀ ≤ r ∧ ∃ o,A.heap[r]? = some o ∧ ∀ cs f,o ≠ .cells cs 148 f) : Y4 n₀ A B:=by
 refine ⟨(Below.refl n₀ A).grown hg hn (fun r e => (hr r e).1),fun i cs f hi => (hg.block i (Array.getElem?_eq_some_iff.1 hi).1 (fun e => ?_)).trans hi⟩;obtain ⟨_,o,ho,hne⟩:=hr i e.symm;rw [hi] at ho;cases ho;exact hne cs f rfl
theorem box {b : Nat} {t : TypeId} {v : Value} (hb : Boxed A b t v) (ht : t ≠ 148) (hn : n₀ ≤ b) (u : Value) : Y4 n₀ A (A.setCell ⟨b,0,none⟩ u) :=
 grown (grownBy_setCell' A b u) (Nat.le_of_lt (Nat.lt_of_le_of_lt hn hb.lt)) (fun r e => by
  cases e;exact ⟨hn,_,hb,fun cs f h => ht (by injection h)⟩)
theorem turn {w : World} (hn : n₀ ≤ w.heap.size) (W : World) (l : Nat) (o o' : Obj) (hl : w.heap.size ≤ l) (h : W.heap[l]? = some o) (hc : o.isCells = false) (_ : o.isWalk = false) : Y4 n₀ W (W.putObj l o') :=
 grown (grownBy_putObj' W l o') (by have:=(Array.getElem?_eq_some_iff.1 h).1;omega) (fun r e => by
  cases e;exact ⟨Qa,_,h,fun cs f hh => by rw [hh] at hc;cases hc⟩)
end Y4
theorem Ml {A B : World} (e : Qc A B) : A.grownBy B none:=⟨e.below.os,e.below.tape,e.below.output,e.size,fun _ hk _ => e.block hk⟩
theorem AbidesFrom.ext {β : Type} {B : Nat} {J : β → World → Prop} (h : AbidesFrom B J) {s : β} {W W' : World} (hs : J s W) (e : Qc W W') : J s W':=h s W W' none hs (Ml e) (fun r h => by cases h)
theorem OwnFrom.ext {β : Type} {B : Nat} {J : β → World → Prop} (h : OwnFrom B J) {s : β} {W W' : World} (hs : J s W) (e : Qc W W') : J s W':=h s W W' none hs (Ml e) (fun r h => by cases h)
abbrev Mo (c : Qd):={ x : It // c.okIt x }
def Mo.its {c : Qd} (l : List (Mo c)) : List It:=l.map (·.1)
def Mo.enc {c : Qd} (x : Mo c) : Array Value:=#[.agg #[.int .i64 (x.1.y : Int),.int .i64 x.1.n,.bool x.1.s],.int .i64 x.1.first]
theorem V0 {c : Qd} (l : List (Mo c)) (x : Mo c) : Mo.its (l ++ [x]) = Mo.its l ++ [x.1]:=by simp [Mo.its]
theorem Pw {c : Qd} (l : List (Mo c)) : (Mo.its l).length = l.length:=by simp [Mo.its]
theorem Qkz (A A' : OA) (ca cb : Nat) (c : Qd) (w : World) :
  Calls Tryz.prog 143 #[.agg #[.slice A c.nk ca,.slice A' c.ny cb]] w fun e w' => e = .returned (.func (.func 174) #[] #[.pointer (some ⟨w.heap.size,0,none⟩)]) ∧ w.alloc (.cells #[.slice A c.nk ca,.slice A' c.ny cb] 25) = w':=by
 go_enter Tryz.func143,Tryz.ntmps143
 go_wp2;go_ret;exact ⟨rfl,rfl⟩
theorem Oh {w : World} {Y : Nat} {t : TypeId} {v0 v1 v2 v3 : Value} (h : w.heap[Y]? = some (.cells #[v0,v1,v2,v3] t (0,0))) :
  w.cell? ⟨Y,0,none⟩ = some v0 ∧ w.cell? ⟨Y,1,none⟩ = some v1 ∧ w.cell? ⟨Y,2,none⟩ = some v2 ∧ w.cell? ⟨Y,3,none⟩ = some v3:=by
 refine ⟨?_,?_,?_,?_⟩ <;> simp [World.cell?,h]
theorem Qky (A A' : OA) (ca cb : Nat) (c : Qd) (B n : Nat) (w₀ w : World) (hC : Za w₀ A ca A' cb c) (hlg : ∀ i,i < c.ny → 0 ≤ (c.yr i).lg ∧ (c.yr i).lg ≤ 8191) (hny : c.ny ≤ 400) (hn : 1 ≤ n) (he : Qc w₀ w)
  (hB : w.cell? ⟨B,1,none⟩ = some (.slice A' c.ny cb)) (hBl : B < w.heap.size) :
  SeqStopsK Fence.wide n Tryz.prog 174 #[.pointer (some ⟨B,0,none⟩)] (Mo.enc (c:=c)) (Y4 w₀.heap.size) (fun xs => Mo.its xs = c.items) (fun Qt => Mo.its Qt <+: c.items) c.items.length w:=by
 intro l J Jx W hW hJ hJx hY h0;have hWe : Qc w₀ W:=he.trans hW;have hB' : W.cell? ⟨B,1,none⟩ = some (.slice A' c.ny cb):=(hW.cell (p:=⟨B,1,none⟩) hBl).trans hB;clear hB hBl he;refine callsIn_of_wp Tryz.func174 rfl trivial ?_ rfl;simp only [Tryz.ntmps174,List.size_toArray,List.length_cons,List.length_nil,Nat.reduceAdd,Nat.reduceSub,Array.replicate_succ,Array.replicate_zero,List.push_toArray,List.append_toArray,List.nil_append,List.cons_append]
 gi_wp2
 gi_loopw [3,10] (fun d i wr => ∃ k : Nat,k ≤ c.ny ∧ i = .int .i64 k ∧ d = .int .i64 (c.dayAt k) ∧ ∃ Qt : List (Mo c),Mo.its Qt = c.itemsTo k ∧ J Qt wr ∧ Qc w₀ wr) (fun _ i _ => c.ny - (intOf i).toNat)
 case atStart => exact ⟨0,Nat.zero_le _,rfl,rfl,[],rfl,h0,hWe⟩
 case round =>
  obtain ⟨k,hk,rfl,rfl,Qt,hpre,hJp,hE⟩:=hrel;obtain ⟨wo,rfl⟩:=Qe wr;by_cases hlt : k < c.ny
  ·obtain ⟨b,off,rfl,hb,c0,c1,c2,c3⟩:=(hC.ext hE).year hlt
   gi_wp2
   have hlgk:=hlg k hlt;have hE2 : Qc w₀ (wo.alloc (.cells #[.int .i64 (c.yr k).k,.string (c.yr k).nm,.int .i64 (c.yr k).lg,.int .i64 (c.yr k).db] 148)):=hE.alloc _;have hY0:=World.alloc_heap_new wo (.cells #[.int .i64 (c.yr k).k,.string (c.yr k).nm,.int .i64 (c.yr k).lg,.int .i64 (c.yr k).db] 148);have hJ0:=AbidesFrom.ext hJ hJp ((Qc.refl wo).alloc (.cells #[.int .i64 (c.yr k).k,.string (c.yr k).nm,.int .i64 (c.yr k).lg,.int .i64 (c.yr k).db] 148));generalize hyb : wo.heap.size = Y at *;clear hyb c0 c1 c2 c3 hb
   gi_loopw [3,6] (fun d m wq => ∃ j : Nat,j ≤ 12 ∧ m = .int .i64 (j + 1) ∧ d = .int .i64 (c.dayTo k j) ∧ ∃ Qt : List (Mo c),Mo.its Qt = c.upTo k j ∧ J Qt wq ∧ Qc w₀ wq ∧
    wq.heap[Y]? = some (.cells #[.int .i64 (c.yr k).k,.string (c.yr k).nm,.int .i64 (c.yr k).lg,.int .i64 (c.yr k).db] 148 (0,0))) (fun _ m _ => 13 - (intOf m).toNat)
   case atStart => exact ⟨0,Nat.zero_le _,rfl,by rw [Qhe],Qt,by rw [Qob,hpre],hJ0,hE2,hY0⟩
   case round =>
    clear hE hE2 hY0 hJ0 hJp hpre Qt;obtain ⟨j,hj,rfl,rfl,Qt,hpre,hJp,hE,hYb⟩:=hrel;by_cases hlj : j < 12
    ·obtain ⟨y0,y1,y2,y3⟩:=Oh hYb;have hx:=hY Qt ⟨_,Fh hlt hlj⟩ wr hJp (by have:=Qbl (hpre ▸ Qcm hlt hlj);rw [Pw] at this;exact this);obtain ⟨fn,tmps,assign,body,hy,hR⟩:=hx;simp only [Mo.enc,Qd.it1] at hy
     gi_wp2
     refine hR.mono ?_;rintro e W3 (⟨rfl,hJ3,hk3⟩ | ⟨rfl,hJx3⟩)
     ·clear hR hy;have hYb3:=hk3.years _ _ _ hYb;have hE3 : Qc w₀ W3:=Below.trans hE hk3.below;obtain ⟨z0,z1,z2,z3⟩:=Oh hYb3;have hbd:=Sy c (i:=k) (k:=j) Qa;have hbl:=Ux (c.yr k) ((j : Int) + 1) false;by_cases hdb : (c.yr k).db = (j : Int) + 1
      ·have hd1 : ((c.yr k).db != (j : Int) + 1) = false:=bne_eq_false_iff_eq.2 hdb;have HD:=zh hdb;clear hdb y0 y1 y2 y3
       gi_wp2_with (refine ⟨trivial,?_⟩;gi_at_call 173;refine (callsIn_wide.2 (Ox (c.yr k) _ _ _ Qa Qa hlgk.1 hlgk.2)).mono ?_;rintro e w4 ⟨rfl,hb4⟩;obtain ⟨fn2,tmps2,assign2,body2,hy2,hR2⟩:=hY _ ⟨_,Qas hlt hlj⟩ w4 (AbidesFrom.ext hJ hJ3 hb4) (by have:=Qbl (Qee hlt hlj HD.out);rwa [← hpre,← V0 Qt ⟨c.it1 k j,Fh hlt hlj⟩,Pw] at this);simp only [Mo.enc,Qd.it2] at hy2;have hYb4:=(hb4.block (Array.getElem?_eq_some_iff.1 hYb3).1).trans hYb3;obtain ⟨x0,x1,x2,x3⟩:=Oh hYb4;clear z0 z1 z2 z3)
       refine hR2.mono ?_;rintro e W5 (⟨rfl,hJ5,hk5⟩ | ⟨rfl,hJx5⟩)
       ·clear hR2 hy2;have hYb5:=hk5.years _ _ _ hYb4;have hE5 : Qc w₀ W5:=Below.trans (hE3.trans hb4) hk5.below;obtain ⟨s0,s1,s2,s3⟩:=Oh hYb5;clear x0 x1 x2 x3 hd1;have hbl2:=Ux (c.yr k) ((j : Int) + 1) true
        gi_wp2_with (refine ⟨trivial,?_⟩;gi_at_call 173;refine (callsIn_wide.2 (Ox (c.yr k) _ _ _ Qa Qa hlgk.1 hlgk.2)).mono ?_;rintro e w6 ⟨rfl,hb6⟩)
        exact ⟨⟨j + 1,Qa,by go_num,by rw [Qhd HD.out],_,by rw [V0,V0,hpre,Bz HD.out],AbidesFrom.ext hJ hJ5 hb6,hE5.trans hb6,(hb6.block (Array.getElem?_eq_some_iff.1 hYb5).1).trans hYb5⟩,zi⟩
       ·gi_wp2
        refine bodyPost_ret (results_none rfl _ _ _) rfl ?_;exact ⟨⟨_,rfl⟩,.inr ⟨_,by rw [V0,V0,hpre];exact Qee hlt hlj HD.out,hJx5⟩⟩
      ·have hd1 : ((c.yr k).db != (j : Int) + 1) = true:=bne_iff_ne.2 hdb;have HD:=zh hdb;clear hdb y0 y1 y2 y3
       gi_wp2_with (refine ⟨trivial,?_⟩;gi_at_call 173;refine (callsIn_wide.2 (Ox (c.yr k) _ _ _ Qa Qa hlgk.1 hlgk.2)).mono ?_;rintro e w4 ⟨rfl,hb4⟩;have hYb4:=(hb4.block (Array.getElem?_eq_some_iff.1 hYb3).1).trans hYb3;obtain ⟨x0,x1,x2,x3⟩:=Oh hYb4;clear z0 z1 z2 z3)
       exact ⟨⟨j + 1,Qa,by go_num,by rw [Qhc HD.out],_,by rw [V0,hpre,Qei HD.out],AbidesFrom.ext hJ hJ3 hb4,hE3.trans hb4,(hb4.block (Array.getElem?_eq_some_iff.1 hYb3).1).trans hYb3⟩,zi⟩
     ·gi_wp2
      refine bodyPost_ret (results_none rfl _ _ _) rfl ?_;exact ⟨⟨_,rfl⟩,.inr ⟨_,by rw [V0,hpre];exact Qcm hlt hlj,hJx3⟩⟩
    ·obtain rfl : j = 12:=Qa
     gi_wp2
     exact ⟨⟨k + 1,Qa,by go_num,rfl,Qt,by rw [hpre];rfl,hJp,hE⟩,zi⟩
  ·gi_wp2
   go_end0
   exact ⟨⟨_,rfl⟩,.inl ⟨Qt,by rw [hpre,show k = c.ny from by omega];rfl,hJp⟩⟩
end
section
open Go Go.RowKit
theorem Qh0 (w : World) (x0 y0 : Int) (x1 y1 : Int) (x2 y2 : Bool) : (Op.equalIn 10000 231 (.agg #[.int .i64 x0,.int .i64 x1,.bool x2]) (.agg #[.int .i64 y0,.int .i64 y1,.bool y2])).run Tryz.prog w = .ok ((x0 == y0) && ((x1 == y1) && (x2 == y2))) w:=by
 go_simp
 by_cases h0 : x0 = y0;rotate_left
 ·simp [h0]
 by_cases h1 : x1 = y1;rotate_left
 ·simp [h1]
 by_cases h2 : x2 = y2;rotate_left
 ·simp [h2]
 simp [h0,h1,h2]
theorem Qh3 (w : World) (x0 y0 : Int) (x1 y1 : Int) (x2 y2 : Bool) : (binOp .eql 231 (.agg #[.int .i64 x0,.int .i64 x1,.bool x2]) (.agg #[.int .i64 y0,.int .i64 y1,.bool y2])).run Tryz.prog w = .ok (.bool ((x0 == y0) && ((x1 == y1) && (x2 == y2)))) w:=by rw [run_eql_struct,Qh0];rfl
theorem Qhv (w : World) (x0 y0 : Int) (x1 y1 : Int) (x2 y2 : Bool) (x3 y3 : Int) : (Op.equalIn 10000 51 (.agg #[.int .i64 x0,.int .i64 x1,.bool x2,.int .i64 x3]) (.agg #[.int .i64 y0,.int .i64 y1,.bool y2,.int .i64 y3])).run Tryz.prog w = .ok ((x0 == y0) && ((x1 == y1) && ((x2 == y2) && (x3 == y3)))) w:=by
 go_simp
 by_cases h0 : x0 = y0;rotate_left
 ·simp [h0]
 by_cases h1 : x1 = y1;rotate_left
 ·simp [h1]
 by_cases h2 : x2 = y2;rotate_left
 ·simp [h2]
 by_cases h3 : x3 = y3;rotate_left
 ·simp [h3]
 simp [h0,h1,h2,h3]
theorem Qlf (w : World) (x0 y0 : Int) (x1 y1 : Int) (x2 y2 : Bool) (x3 y3 : Int) : (binOp .neq 51 (.agg #[.int .i64 x0,.int .i64 x1,.bool x2,.int .i64 x3]) (.agg #[.int .i64 y0,.int .i64 y1,.bool y2,.int .i64 y3])).run Tryz.prog w = .ok (.bool (!((x0 == y0) && ((x1 == y1) && ((x2 == y2) && (x3 == y3)))))) w:=by rw [run_neq_struct,Qhv];rfl
end
section
open Go Go.RowKit
attribute [local go_sem] Z8
set_option maxHeartbeats 1000000 in
theorem Qah (A A' : OA) (ca cb : Nat) (c : Qd) (d : Dt) (w : World) (hC : Za w A ca A' cb c) (hlg : ∀ i,i < c.ny → 0 ≤ (c.yr i).lg ∧ (c.yr i).lg ≤ 8191) :
  Calls Tryz.prog 142 #[.agg #[.slice A c.nk ca,.slice A' c.ny cb],.agg #[.int .i64 d.y,.int .i64 d.m,.bool d.s,.int .i64 d.d]] w fun e w' => e = .returned (.bool (c.has d)) ∧ Qc w w':=by
 have hny:=hC.ny_le
 have H : Hid (c.has d = (!(decide (d.y < 0) || decide ((c.ny : Int) ≤ d.y) || decide (d.m < 1) || decide (12 < d.m)) && ((!d.s || ((c.yrI d.y).db == d.m)) && decide (1 ≤ d.d) && decide (d.d ≤ (c.yrI d.y).len d.m d.s)))):=by
  unfold Hid Qd.has;rw [Bool.eq_iff_iff];cases d.s <;> simp <;> omega
 generalize c.has d = r at *
 go_enter Tryz.func142,Tryz.ntmps142
 go_upto_region 1 with fail
 refine Vq w Qu ?_;intro hne hrx hry;try simp only []
 try simp only [List.append_eq,List.cons_append,List.nil_append]
 have hrx0:=fun u o => hrx u (w.heap.size) o Q9
 have hrx1:=fun u o => hrx u (w.heap.size + 1) o Q9
 skip
 refine Un ?_;clear hne hry hrx hrx0 hrx1;intro wp hp;obtain ⟨hcwp,hfwp,hzwp⟩:=Qc.rules hp;try simp only [World.size_alloc] at hzwp
 have hk0wp:=fun o => hcwp (w.heap.size) o Q9
 have hj0wp:=fun o => hfwp (w.heap.size) o Q9
 have hl0wp : w.heap.size < wp.heap.size:=Q9;have hk1wp:=fun o => hcwp (w.heap.size + 1) o Q9
 have hj1wp:=fun o => hfwp (w.heap.size + 1) o Q9
 have hl1wp : w.heap.size + 1 < wp.heap.size:=Q9;obtain ⟨hcbwp,hfbwp,hzbwp⟩:=Qc.rules (show Qc w wp from Qu);clear hcwp hfwp;generalize hf : (decide (d.y < 0) || decide ((c.ny : Int) ≤ d.y) || decide (d.m < 1) || decide (12 < d.m)) = f at *;cases f
 ·have hb4 : 0 ≤ d.y ∧ d.y < c.ny ∧ 1 ≤ d.m ∧ d.m ≤ 12 := by simp only [Bool.or_eq_false_iff, decide_eq_false_iff_not] at hf; omega
  obtain ⟨hy0,hy1,hm0,hm1⟩:=hb4;clear hf;obtain ⟨b,off,rfl,hb,c0,c1,c2,c3⟩:=hC.yearI hy0 hy1;obtain ⟨hl,hl'⟩ : 0 ≤ (c.yrI d.y).lg ∧ (c.yrI d.y).lg ≤ 8191:=hlg _ Qa;clear hlg hC;generalize c.yrI d.y = yy at *;go_upto_region 4 with fail
  refine Vr w mixed zK Qu ?_;intro hne hrx hry;try simp only []
  try simp only [List.append_eq,List.cons_append,List.nil_append]
  have hrx0:=fun u o => hrx u (w.heap.size) o Q9
  have hrx1:=fun u o => hrx u (w.heap.size + 1) o Q9
  skip
  repeat (first
   | go_big_quiet_skip
   | ((with_reducible apply Nh)
      ·exact rfl
      ·exact rfl
      ·exact rfl
      intro K hK
      unfold Jb;go_big_quiet_op;(with_reducible refine hK _ ?_);clear hK K)
   | ((with_reducible apply Nj)
      ·exact rfl
      ·exact rfl
      ·exact rfl
      intro K hK
      unfold Jb;go_big_quiet_op;(with_reducible refine hK _ ?_);clear hK K)
   | (go_big_quiet_want;go_big_quiet_op;go_big_quiet_on)
   | (go_big_quiet_want;go_big_quiet_op;apply Exists.intro;refine ⟨fun u => ?_,?_⟩
      ·first
        | (go_at_call 173;refine (Ox yy _ _ _ hm0 hm1 hl hl').mono ?_;rintro e w' ⟨rfl,hb⟩;exact ⟨rfl,u.back hb⟩)
      go_big_quiet_on)
   | ((with_reducible apply Ni)
      ·first | exact Xm rfl rfl rfl | exact Xl rfl rfl rfl | exact Xk rfl rfl rfl | exact Xj rfl rfl rfl
      ·exact rfl
      ·exact rfl
      ·exact rfl
      intro K hK
      unfold Jb;go_big_quiet_op;(with_reducible refine hK _ ?_);clear hK K)
   | ((with_reducible apply Nk)
      ·first | exact Xm rfl rfl rfl | exact Xl rfl rfl rfl | exact Xk rfl rfl rfl | exact Xj rfl rfl rfl
      ·exact rfl
      ·exact rfl
      ·exact rfl
      intro K hK
      unfold Jb;go_big_quiet_op;(with_reducible refine hK _ ?_);clear hK K)
   | ((with_reducible apply Ku)
      ·first | exact Xm rfl rfl rfl | exact Xl rfl rfl rfl | exact Xk rfl rfl rfl | exact Xj rfl rfl rfl
      apply Exists.intro;refine And.intro (fun hgb => ?_) ?_
      ·intro u;try simp at hgb
       go_simp
       try simp only [if_pos hsl]
       try simp only [if_pos (hin Qa)]
       try (simp only [hd0 Qa];go_simp)
       try (rw [hlook _ (Qc.trans Qu u.e) (hlk0 hgb)];go_simp)
       first
        | (with_reducible exact rfl)
        | (go_at_call 173;refine (Ox yy _ _ _ hm0 hm1 hl hl').mono ?_;rintro e w' ⟨rfl,hb⟩;exact ⟨rfl,u.back hb⟩)
      intro K hK;unfold Jb;go_big_quiet_op;(with_reducible refine hK _ ?_);clear hK K))
  clear hne hry hrx hrx0 hrx1;refine wpQuiet_nil ?_;intro wq hq;obtain ⟨hcwq,hfwq,hzwq⟩:=Qc.rules hq;try simp only [World.size_alloc] at hzwq
  have hk0wq:=fun o => hcwq (w.heap.size) o Q9
  have hj0wq:=fun o => hfwq (w.heap.size) o Q9
  have hl0wq : w.heap.size < wq.heap.size:=Q9;have hk1wq:=fun o => hcwq (w.heap.size + 1) o Q9
  have hj1wq:=fun o => hfwq (w.heap.size + 1) o Q9
  have hl1wq : w.heap.size + 1 < wq.heap.size:=Q9;obtain ⟨hcbwq,hfbwq,hzbwq⟩:=Qc.rules (show Qc w wq from Qu);clear hcwq hfwq;go_wp2;go_ret;refine ⟨Jo ?_,Qu⟩;rw [H.out];rfl
 ·go_wp2;go_ret;exact ⟨Jo (by rw [H.out];rfl),Qu⟩
def Uw (f : Nat → ByteArray) (s : ByteArray) (n : Nat) : Int:=(((List.range n).find? (fun j => decide (f j = s))).map Int.ofNat).getD (-1)
theorem Qh8 {f : Nat → ByteArray} {s : ByteArray} {n k : Nat} (hk : k < n) (h : ∀ j,j < k → f j ≠ s) (e : f k = s) : Uw f s n = k:=by
 have : (List.range n).find? (fun j => decide (f j = s)) = some k:=by
  rw [List.find?_range_eq_some];exact ⟨by simpa using e,by simpa using hk,fun j hj => by simpa using h j hj⟩
 rw [Uw,this];rfl
theorem Il {f : Nat → ByteArray} {s : ByteArray} {n : Nat} (h : ∀ j,j < n → f j ≠ s) : Uw f s n = -1:=by
 have : (List.range n).find? (fun j => decide (f j = s)) = none:=by
  rw [List.find?_eq_none];intro j hj
  simpa using h j (by simpa using hj)
 rw [Uw,this];rfl
def Kd (f : Nat → ByteArray) (s : ByteArray) (k : Nat) : Prop:=∀ j,j < k → f j ≠ s
theorem Qds {a b : ByteArray} (h : (a.toList == b.toList) = true) : a = b:=by rw [← Nm] at h;simpa using h
theorem Qdr {a b : ByteArray} (h : (a.toList == b.toList) = false) : a ≠ b:=by rw [← Nm] at h;simpa using h
set_option maxHeartbeats 1000000 in
theorem Qfm (A : OA) (n cap : Nat) (f : Nat → ByteArray) (s : ByteArray) (w : World) (hA : Qm w A n 1 (fun i => [.string (f i)])) (hn : n ≤ 9223372036854775807) :
  Calls Tryz.prog 168 #[.slice A n cap,.string s] w fun e w' => e = .returned (.int .i64 (Uw f s n)) ∧ w = w':=by
 generalize hr : Uw f s n = r;have H : Hid (Uw f s n = r):=hr;clear hr
 go_enter Tryz.func168,Tryz.ntmps168
 go_wp2
 go_loop [5] (fun i => ∃ k : Nat,k ≤ n ∧ i = .int .i64 k ∧ Kd f s k) (fun i => n - (intOf i).toNat)
 case atStart => exact ⟨0,Nat.zero_le _,rfl,fun j hj => absurd hj Qa⟩
 case round =>
  obtain ⟨k,hk,rfl,hN⟩:=hrel;by_cases hlt : k < n
  ·obtain ⟨b, off, rfl, hb, hc⟩ := hA Qa;have c0 : w.cell? ⟨b, off + k, none⟩ = some (.string (f k)) := by simpa using hc k 0 _ hlt rfl
   clear hc hA;go_wp2
   ·go_ret;exact ⟨Wt (by rw [← H.out];exact (Qh8 hlt hN (Qds ‹_›)).symm),rfl⟩
   ·have hne:=Qdr (a:=f k) (b:=s) ‹_›;exact ⟨⟨k + 1,Qa,by go_num,fun j hj => by rcases Nat.lt_or_ge j k with h | h;exact hN j h;rw [show j = k from by omega];exact hne⟩,zi⟩
  ·go_wp2;go_ret;exact ⟨Wt (by rw [← H.out];exact (Il (fun j hj => hN j Qa)).symm),rfl⟩
def Yu (f : Nat → Yr) (y : Yr) (n : Nat) : Bool:=(List.range n).any fun j => (f j).alike y
def Cj (f : Nat → Yr) (y : Yr) (k : Nat) : Prop:=∀ j,j < k → (f j).alike y = false
theorem Qij {f : Nat → Yr} {y : Yr} {n : Nat} (h : Cj f y n) : Yu f y n = false:=by
 rw [Yu,List.any_eq_false];intro j hj;simpa using h j (by simpa using hj)
theorem Qik {f : Nat → Yr} {y : Yr} {n k : Nat} (hk : k < n) (h : (f k).alike y = true) : Yu f y n = true:=by
 rw [Yu,List.any_eq_true];exact ⟨k,by simpa using hk,h⟩
theorem Qe9 (x y : Yr) : x.alike y = ((x.k == y.k) && (x.nm.toList == y.nm.toList)):=by
 rw [Yr.alike,Nm];rfl
set_option maxHeartbeats 1000000 in
theorem Qil (A : OA) (n cap : Nat) (f : Nat → Yr) (y : Yr) (w : World) (hA : Qm w A n 4 (fun i => (f i).cells)) (hn : n ≤ 9223372036854775807) :
  Calls Tryz.prog 169 #[.slice A n cap,.agg #[.int .i64 y.k,.string y.nm,.int .i64 y.lg,.int .i64 y.db]] w fun e w' => e = .returned (.bool (Yu f y n)) ∧ Qc w w':=by
 generalize hr : Yu f y n = r;have H : Hid (Yu f y n = r):=hr;clear hr
 go_enter Tryz.func169,Tryz.ntmps169
 go_wp2
 go_loopw [5] (fun i wr => ∃ k : Nat,k ≤ n ∧ i = .int .i64 k ∧ Cj f y k ∧ Qc (w.alloc (.cells #[.int .i64 y.k,.string y.nm,.int .i64 y.lg,.int .i64 y.db] 148)) wr) (fun i _ => n - (intOf i).toNat)
 case atStart => exact ⟨0,Nat.zero_le _,rfl,fun j hj => absurd hj Qa,Qc.refl _⟩
 case round =>
  obtain ⟨k,hk,rfl,hN,hB⟩:=hrel;by_cases hlt : k < n
  ·obtain ⟨b, off, rfl, hb, hc⟩ := hA Qa;have c0 : w.cell? ⟨b, off + k * 4, none⟩ = some (.int .i64 (f k).k) := by simpa using hc k 0 _ hlt rfl
   have c1 : w.cell? ⟨b,off + k * 4 + 1,none⟩ = some (.string (f k).nm):=hc k 1 _ hlt rfl;have HA : Hid ((f k).alike y = _):=Qe9 (f k) y;clear hc hA;obtain ⟨hcwr,hfwr,hzwr⟩:=Qc.rules hB;try simp only [World.size_alloc] at hzwr
   have hk0wr:=fun o => hcwr (w.heap.size) o Q9
   have hj0wr:=fun o => hfwr (w.heap.size) o Q9
   have hl0wr : w.heap.size < wr.heap.size:=Q9;obtain ⟨hcbwr,hfbwr,hzbwr⟩:=Qc.rules (show Qc w wr from Qu);clear hcwr hfwr;go_upto_region 4 with fail
   refine Vr w mixed zK Qu ?_;intro hne hrx hry;try simp only []
   try simp only [List.append_eq,List.cons_append,List.nil_append]
   have hrx0:=fun u o => hrx u (w.heap.size) o Q9
   skip
   refine Un ?_;clear hne hry hrx hrx0;intro wq hq;obtain ⟨hcwq,hfwq,hzwq⟩:=Qc.rules hq;try simp only [World.size_alloc] at hzwq
   have hk0wq:=fun o => hcwq (w.heap.size) o Q9
   have hj0wq:=fun o => hfwq (w.heap.size) o Q9
   have hl0wq : w.heap.size < wq.heap.size:=Q9;obtain ⟨hcbwq,hfbwq,hzbwq⟩:=Qc.rules (show Qc w wq from Qu);clear hcwq hfwq;generalize hg : (((f k).k == y.k) && ((f k).nm.toList == y.nm.toList)) = g at *;cases g
   ·go_wp2;exact ⟨⟨k + 1,Qa,by go_num,fun j hj => by rcases Nat.lt_or_ge j k with h | h;exact hN j h;rw [show j = k from by omega];exact HA.out,hB.trans hq⟩,zi⟩
   ·go_wp2;go_ret;exact ⟨Jo (by rw [← H.out];exact (Qik hlt HA.out).symm),Qu⟩
  ·go_wp2;go_ret;exact ⟨Jo (by rw [← H.out];exact (Qij (fun j hj => hN j Qa)).symm),Qu⟩
def Gj (f : Nat → ByteArray) (k : Nat) : Prop:=∀ i j,j < i → i < k → f j ≠ f i
def Vb (f : Nat → ByteArray) (k : Nat) : Bool:=(List.range k).all fun i => Zu (f i)
theorem Qj2 {c : Qd} {j k : Nat} (hk : k < c.nk) (hj : j < k) (h : c.kg j = c.kg k) : c.kingsOk = false:=by
 rw [Bool.eq_false_iff];intro hh;simp only [Qd.kingsOk,Bool.and_eq_true,List.all_eq_true,List.mem_range] at hh;have h1:=hh.2 k hk;simp only [Qd.kingOk,Bool.and_eq_true,List.all_eq_true,List.mem_range,decide_eq_true_eq] at h1;exact h1.2 j hj h
theorem Qj1 {c : Qd} (h : Gj c.kg c.nk) : c.kingsOk = (decide (1 ≤ (c.nk : Int)) && decide ((c.nk : Int) ≤ 40) && Vb c.kg c.nk):=by
 have e : (List.range c.nk).all c.kingOk = Vb c.kg c.nk:=by
  rw [Vb,Bool.eq_iff_iff];simp only [List.all_eq_true,List.mem_range,Qd.kingOk,Bool.and_eq_true,decide_eq_true_eq];exact ⟨fun hh i hi => (hh i hi).1,fun hh i hi => ⟨hh i hi,fun j hj => h i j hj hi⟩⟩
 rw [Qd.kingsOk,e]
 congr 2 <;> simp <;> omega
theorem Qlp {f : Nat → ByteArray} {s : ByteArray} {k : Nat} (h : Kd f s k) (hk : f k ≠ s) : Kd f s (k + 1):=fun j hj => by
 rcases Nat.lt_or_ge j k with h' | h'
 ·exact h j h'
 ·rw [show j = k from by omega];exact hk
theorem Qlm {f : Nat → ByteArray} {k : Nat} (h : Gj f k) (hk : Kd f (f k) k) : Gj f (k + 1):=fun i j hj hi => by
 rcases Nat.lt_or_ge i k with h' | h'
 ·exact h i j hj h'
 ·obtain rfl : i = k:=Qa;exact hk j hj
theorem Qk2 (f : Nat → ByteArray) (k : Nat) : Vb f (k + 1) = (Vb f k && Zu (f k)):=by
 rw [Vb,Vb,List.range_succ,List.all_append];simp
set_option maxHeartbeats 1000000 in
theorem Qog (A : OA) (ca : Nat) (c : Qd) (w : World) (hA : Qm w A c.nk 1 (fun i => [.string (c.kg i)])) (hn : c.nk ≤ 9223372036854775807) (hcap : c.nk ≤ ca) :
  Calls Tryz.prog 172 #[.slice A c.nk ca] w fun e w' => e = .returned (.bool c.kingsOk) ∧ Qc w w':=by
 go_enter Tryz.func172,Tryz.ntmps172
 go_upto_region 1 with fail
 go_step3
 go_upto_region 1 with fail
 refine Vq w Qu ?_;intro hne hrx hry;try simp only []
 try simp only [List.append_eq,List.cons_append,List.nil_append]
 skip
 refine Un ?_;clear hne hry hrx;intro wq hq;obtain ⟨hcwq,hfwq,hzwq⟩:=Qc.rules hq;try simp only [World.size_alloc] at hzwq
 obtain ⟨hcbwq,hfbwq,hzbwq⟩:=Qc.rules (show Qc w wq from Qu);clear hcwq hfwq;go_wp2
 go_step3
 go_wp2
 go_loopw [3,18] (fun o i wr => ∃ k : Nat,k ≤ c.nk ∧ i = .int .i64 k ∧ o = .bool (decide (1 ≤ (c.nk : Int)) && decide ((c.nk : Int) ≤ 40) && Vb c.kg k) ∧ Gj c.kg k ∧ Qc w wr) (fun _ i _ => c.nk - (intOf i).toNat)
 case atStart => exact ⟨0,Nat.zero_le _,rfl,by simp [Vb],(fun i j _ h => absurd h Qa),hq⟩
 case round =>
  obtain ⟨k,hk,rfl,rfl,hN,hB⟩:=hrel;clear hq hzwq hcbwq hfbwq hzbwq;obtain ⟨wo,rfl⟩:=Qe wr;obtain ⟨hcwo,hfwo,hzwo⟩:=Qc.rules hB;try simp only [World.size_alloc] at hzwo
  obtain ⟨hcbwo,hfbwo,hzbwo⟩:=Qc.rules (show Qc w wo from Qu);clear hcwo hfwo;by_cases hlt : k < c.nk
  ·obtain ⟨b, off, rfl, hb, hc⟩ := hA Qa;have hc' : ∀ j, j < c.nk → w.cell? ⟨b, off + j, none⟩ = some (.string (c.kg j)) := fun j hj => by simpa using hc j 0 _ hj rfl
   have c0:=hc' k hlt;clear hc hA;go_wp2
   go_loop [3,27] (fun o i => ∃ j : Nat,j ≤ k ∧ i = .int .i64 j ∧ o = .bool (decide (1 ≤ (c.nk : Int)) && decide ((c.nk : Int) ≤ 40) && Vb c.kg k) ∧ Kd c.kg (c.kg k) j) (fun _ i => k - (intOf i).toNat)
   case atStart => exact ⟨0,Nat.zero_le _,rfl,rfl,fun j h => absurd h Qa⟩
   case round =>
    obtain ⟨j,hj,rfl,rfl,hT⟩:=hrel;by_cases hlj : j < k
    ·have c1:=hc' j Qa;go_wp2
     ·go_ret;exact ⟨Jo (Qj2 hlt hlj (Qds ‹_›)).symm,Qu⟩
     ·have hne:=Qdr (a:=c.kg j) (b:=c.kg k) ‹_›;exact ⟨⟨j + 1,Qa,by go_num,rfl,Qlp hT hne⟩,zi⟩
    ·have hTk : Kd c.kg (c.kg k) k:=fun i hi => hT i Qa
     go_upto_region 11 with fail
     refine Vq w Qu ?_;intro hne hrx hry;try simp only []
     try simp only [List.append_eq,List.cons_append,List.nil_append]
     skip
     have m1:=fun x1 x2 => Ot x1 x2
     refine Un ?_;clear hne hry hrx m1;intro wn hwn;obtain ⟨hcwn,hfwn,hzwn⟩:=Qc.rules hwn;try simp only [World.size_alloc] at hzwn
     obtain ⟨hcbwn,hfbwn,hzbwn⟩:=Qc.rules (show Qc w wn from Qu);clear hcwn hfwn;go_wp2;exact ⟨⟨k + 1,Qa,by go_num,by simp only [Qk2,Bool.and_assoc],Qlm hN hTk,Qu⟩,zi⟩
  ·go_wp2;rw [Exit.noGoto_ret];go_ret;exact ⟨Jo (by rw [Qj1 (fun i j hj hi => hN i j hj Qa),show c.nk = k from by omega]),Qu⟩
def Tp (c : Qd) (k : Nat) : Prop:=∀ i,i < k → c.kingOk i = true
def Us (c : Qd) (k : Nat) : Prop:=∀ i,i < k → c.yearOk i = true
theorem Qh9 {f : Nat → ByteArray} {s : ByteArray} {n : Nat} : (decide (0 ≤ Uw f s n)) = !((List.range n).all fun j => decide (f j ≠ s)):=by
 by_cases h : Kd f s n
 ·rw [Il h]
  have : ((List.range n).all fun j => decide (f j ≠ s)) = true:=by
   simp only [List.all_eq_true,List.mem_range,decide_eq_true_eq];exact h
  rw [this];rfl
 ·have : ((List.range n).all fun j => decide (f j ≠ s)) = false:=by
   rw [Bool.eq_false_iff];intro hh;simp only [List.all_eq_true,List.mem_range,decide_eq_true_eq] at hh;exact h hh
  rw [this]
  have h2 : ((List.range n).find? (fun j => decide (f j = s))).isSome = true:=by
   rw [List.find?_isSome];unfold Kd at h;simp only [Classical.not_forall] at h;obtain ⟨j,hj,hne⟩:=h;exact ⟨j,by simpa using hj,by simpa using hne⟩
  obtain ⟨k,hk⟩:=Option.isSome_iff_exists.1 h2;rw [Uw,hk]
  simp
theorem Qj0 (c : Qd) (k : Nat) : c.kingOk k = !(!Zu (c.kg k) || decide (0 ≤ Uw c.kg (c.kg k) k)):=by
 rw [Qh9,Qd.kingOk];cases Zu (c.kg k) <;> simp
theorem I4 (c : Qd) (y : Yr) (k : Nat) : c.hadTo y k = Yu c.yr y k:=rfl
theorem Qc2 {c : Qd} {k : Nat} (h : Us c k) : 0 ≤ c.prevK k ∧ (0 < k → c.prevK k = (c.yr (k - 1)).k):=by
 induction k with
 | zero => exact ⟨Int.le_refl _,fun h => absurd h Qa⟩
 | succ k ih =>
  have h1:=ih (fun i hi => h i Qa);have h2:=h k Qa;simp only [Qd.yearOk,Bool.and_eq_true,decide_eq_true_eq] at h2;refine ⟨?_,fun _ => rfl⟩
  show 0 ≤ (c.yr k).k
  omega
theorem Be (y : Yr) : y.shapeOk = !(decide (y.db < 0) || decide (12 < y.db) || decide (y.lg < 0) || decide (8191 < y.lg) || (y.db == 0 && decide (4096 ≤ y.lg))):=by
 rw [Yr.shapeOk,Bool.eq_iff_iff];simp;omega
theorem Qo5 {c : Qd} {k : Nat} (h : Us c k) : c.yearOk k =
  !((decide ((c.yr k).k < 0) || decide ((c.nk : Int) ≤ (c.yr k).k) || (decide (0 < k) && decide ((c.yr k).k < (c.yr (k - 1)).k)) || !Zu (c.yr k).nm || Yu c.yr (c.yr k) k) || !(c.yr k).shapeOk):=by
 obtain ⟨h1,h2⟩:=Qc2 h;rw [Qd.yearOk,I4,Bool.eq_iff_iff];rcases Nat.eq_zero_or_pos k with rfl | hk
 ·rw [show c.prevK 0 = 0 from rfl,show decide ((0 : Nat) < 0) = false from rfl,Bool.false_and,Bool.or_false];cases Zu (c.yr 0).nm <;> cases Yu c.yr (c.yr 0) 0 <;> cases (c.yr 0).shapeOk <;> simp <;> omega
 ·rw [h2 hk];have:=h2 hk;cases Zu (c.yr k).nm <;> cases Yu c.yr (c.yr k) k <;> cases (c.yr k).shapeOk <;> simp <;> omega
theorem Qok {c : Qd} (h : (decide ((c.nk : Int) < 1) || decide (40 < (c.nk : Int)) || decide ((c.ny : Int) < 1) || decide (400 < (c.ny : Int))) = true) : c.valid = false:=by
 rw [Bool.eq_false_iff];intro hh;simp only [Qd.valid,Qd.kingsOk,Bool.and_eq_true,decide_eq_true_eq] at hh;simp only [Bool.or_eq_true,decide_eq_true_eq] at h;omega
theorem Qoj {c : Qd} {k : Nat} (hk : k < c.nk) (h : c.kingOk k = false) : c.valid = false:=by
 rw [Bool.eq_false_iff];intro hh;simp only [Qd.valid,Qd.kingsOk,Bool.and_eq_true,List.all_eq_true,List.mem_range] at hh;rw [hh.1.1.1.2 k hk] at h;cases h
theorem Cb {c : Qd} {k : Nat} (hk : k < c.ny) (h : c.yearOk k = false) : c.valid = false:=by
 rw [Bool.eq_false_iff];intro hh;simp only [Qd.valid,Bool.and_eq_true,List.all_eq_true,List.mem_range] at hh;rw [hh.2 k hk] at h;cases h
theorem Qom {c : Qd} (h : (decide ((c.nk : Int) < 1) || decide (40 < (c.nk : Int)) || decide ((c.ny : Int) < 1) || decide (400 < (c.ny : Int))) = false) (hk : Tp c c.nk) (hy : Us c c.ny) : c.valid = true:=by
 simp only [Bool.or_eq_false_iff,decide_eq_false_iff_not] at h;simp only [Qd.valid,Qd.kingsOk,Bool.and_eq_true,List.all_eq_true,List.mem_range,decide_eq_true_eq];exact ⟨⟨⟨⟨⟨Qa,Qa⟩,hk⟩,Qa⟩,Qa⟩,hy⟩
theorem Td {p : Nat → Bool} {k : Nat} (h : ∀ i,i < k → p i = true) (hk : p k = true) : ∀ i,i < k + 1 → p i = true:=fun i hi => by
 rcases Nat.lt_or_ge i k with h' | h'
 ·exact h i h'
 ·rw [show i = k from by omega];exact hk
theorem Qoi (A A' : OA) (ca cb : Nat) (c : Qd) (w : World) (hC : Za w A ca A' cb c) :
  Calls Tryz.prog 129 #[.agg #[.slice A c.nk ca,.slice A' c.ny cb]] w fun e w' => e = .returned (.bool c.valid) ∧ Qc w w':=by
 have hnk:=hC.nk_le;have hny:=hC.ny_le;have hcapk:=hC.nk_cap;have hcapy:=hC.ny_cap
 go_enter Tryz.func129,Tryz.ntmps129
 go_upto_region 1 with fail
 refine Vq w Qu ?_;intro hne hrx hry;try simp only []
 try simp only [List.append_eq,List.cons_append,List.nil_append]
 have hrx0:=fun u o => hrx u (w.heap.size) o Q9
 skip
 refine Un ?_;clear hne hry hrx hrx0;intro wq hq;obtain ⟨hcwq,hfwq,hzwq⟩:=Qc.rules hq;try simp only [World.size_alloc] at hzwq
 have hk0wq:=fun o => hcwq (w.heap.size) o Q9
 have hj0wq:=fun o => hfwq (w.heap.size) o Q9
 have hl0wq : w.heap.size < wq.heap.size:=Q9;obtain ⟨hcbwq,hfbwq,hzbwq⟩:=Qc.rules (show Qc w wq from Qu);clear hcwq hfwq;generalize hf : (decide ((c.nk : Int) < 1) || decide (40 < (c.nk : Int)) || decide ((c.ny : Int) < 1) || decide (400 < (c.ny : Int))) = f at *;have HF : Hid (_ = f):=hf;clear hf;cases f
 ·go_wp2
  go_loopw [3] (fun i wr => ∃ k : Nat,k ≤ c.nk ∧ i = .int .i64 k ∧ Tp c k ∧ Qc (w.alloc (.cells #[.slice A c.nk ca,.slice A' c.ny cb] 25)) wr) (fun i _ => c.nk - (intOf i).toNat)
  case atStart => exact ⟨0,Nat.zero_le _,rfl,(fun i h => absurd h Qa),hq⟩
  case round =>
   obtain ⟨k,hk,rfl,hK,hB⟩:=hrel;clear hq hzwq hk0wq hj0wq hl0wq hcbwq hfbwq hzbwq;obtain ⟨wo,rfl⟩:=Qe wr;obtain ⟨hcwo,hfwo,hzwo⟩:=Qc.rules hB;try simp only [World.size_alloc] at hzwo
   have hk0wo:=fun o => hcwo (w.heap.size) o Q9
   have hj0wo:=fun o => hfwo (w.heap.size) o Q9
   have hl0wo : w.heap.size < wo.heap.size:=Q9;obtain ⟨hcbwo,hfbwo,hzbwo⟩:=Qc.rules (show Qc w wo from Qu);clear hcwo hfwo;by_cases hlt : k < c.nk
   ·obtain ⟨b,off,rfl,hb,c0⟩:=hC.king hlt;have HK : Hid (c.kingOk k = _):=Qj0 c k;have hsl : k ≤ ca:=Qa;go_upto_region 6 with fail
    refine Vr w mixed zK Qu ?_;intro hne hrx hry;try simp only []
    try simp only [List.append_eq,List.cons_append,List.nil_append]
    have hrx0:=fun u o => hrx u (w.heap.size) o Q9
    skip
    have m1:=fun x1 x2 => Oq x1 x2
    have n1:=fun u x1 x2 => (And.intro (hrx u) (Qfm _ k x1 c.kg x2 _ ((hC.kings.take hk).ext (Qc.trans Qu u.e)) Qa)).2
    refine Un ?_;clear hne hry hrx hrx0 m1 n1;intro wn hwn;obtain ⟨hcwn,hfwn,hzwn⟩:=Qc.rules hwn;try simp only [World.size_alloc] at hzwn
    have hk0wn:=fun o => hcwn (w.heap.size) o Q9
    have hj0wn:=fun o => hfwn (w.heap.size) o Q9
    have hl0wn : w.heap.size < wn.heap.size:=Q9;obtain ⟨hcbwn,hfbwn,hzbwn⟩:=Qc.rules (show Qc w wn from Qu);clear hcwn hfwn;generalize hg : (!Zu (c.kg k) || decide (0 ≤ Uw c.kg (c.kg k) k)) = g at *;cases g
    ·go_wp2;exact ⟨⟨k + 1,Qa,by go_num,Td hK HK.out,Qu⟩,zi⟩
    ·go_wp2;go_ret;exact ⟨Jo (Qoj hlt HK.out).symm,Qu⟩
   ·have hK' : Tp c c.nk:=fun i hi => hK i Qa
    go_wp2
    go_loopw [4] (fun i wr => ∃ k : Nat,k ≤ c.ny ∧ i = .int .i64 k ∧ Us c k ∧ Qc (w.alloc (.cells #[.slice A c.nk ca,.slice A' c.ny cb] 25)) wr) (fun i _ => c.ny - (intOf i).toNat)
    case atStart => exact ⟨0,Nat.zero_le _,rfl,(fun i h => absurd h Qa),hB⟩
    case round =>
     clear hK hlt hk hB hzwo hk0wo hj0wo hl0wo hcbwo hfbwo hzbwo;obtain ⟨k,hk,rfl,hY,hB⟩:=hrel;obtain ⟨wo,rfl⟩:=Qe wr;obtain ⟨hcwo,hfwo,hzwo⟩:=Qc.rules hB;try simp only [World.size_alloc] at hzwo
     have hk0wo:=fun o => hcwo (w.heap.size) o Q9
     have hj0wo:=fun o => hfwo (w.heap.size) o Q9
     have hl0wo : w.heap.size < wo.heap.size:=Q9;obtain ⟨hcbwo,hfbwo,hzbwo⟩:=Qc.rules (show Qc w wo from Qu);clear hcwo hfwo;by_cases hlt : k < c.ny
     ·obtain ⟨b, off, rfl, hb, c0, c1, c2, c3⟩ := hC.year hlt;have HY : Hid (c.yearOk k = _) := Qo5 hY;have hsl : k ≤ cb := Qa;have hin : 0 < k → (0 ≤ IntKind.i64.wrap ((k : Int) - 1) ∧ IntKind.i64.wrap ((k : Int) - 1) < (c.ny : Int)) := fun h => by rw [IntKind.wrap_i64]; omega
      have hbo : b < wo.heap.size:=Qa
      have hd0 : 0 < k → w.cell? ⟨b,off + (IntKind.i64.wrap ((k : Int) - 1)).toNat * 4,none⟩ = some (.int .i64 (c.yr (k - 1)).k):=fun h => by
       obtain ⟨b',off',hbb,hb',d0,-⟩:=hC.year (i:=k - 1) Qa;obtain ⟨rfl,rfl⟩ : b' = b ∧ off' = off:=by simp at hbb;exact ⟨hbb.1.symm,hbb.2.symm⟩
       rw [show (IntKind.i64.wrap ((k : Int) - 1)).toNat = k - 1 from by rw [IntKind.wrap_i64];omega];exact d0
      go_upto_region 12 with fail
      refine Vr wo mixed zK Qu ?_;intro hne hrx hry;try simp only []
      try simp only [List.append_eq,List.cons_append,List.nil_append]
      have hrx0:=fun u o => hrx u (wo.heap.size) o Q9
      skip
      have m1:=fun x1 x2 => Oq x1 x2
      have n1:=fun u x1 x2 => (And.intro (hrx u) (Qil _ _ x1 c.yr x2 _ ((hC.years.take hk).ext (Qc.trans Qu u.e)) Qa)).2
      refine Un ?_;clear hne hry hrx hrx0 m1 n1;intro wn hwn;obtain ⟨hcwn,hfwn,hzwn⟩:=Qc.rules hwn;try simp only [World.size_alloc] at hzwn
      have hk0wn:=fun o => hcwn (wo.heap.size) o Q9
      have hj0wn:=fun o => hfwn (wo.heap.size) o Q9
      have hl0wn : wo.heap.size < wn.heap.size:=Q9;obtain ⟨hcbwn,hfbwn,hzbwn⟩:=Qc.rules (show Qc wo wn from Qu);clear hcwn hfwn;generalize hg : (decide ((c.yr k).k < 0) || decide ((c.nk : Int) ≤ (c.yr k).k) || (decide (0 < k) && decide ((c.yr k).k < (c.yr (k - 1)).k)) || !Zu (c.yr k).nm || Yu c.yr (c.yr k) k) = g at *;cases g
      ·go_upto_region 14 with fail
       refine Vq wo Qu ?_;intro hne hrx hry;try simp only []
       try simp only [List.append_eq,List.cons_append,List.nil_append]
       have hrx0:=fun u o => hrx u (wo.heap.size) o Q9
       skip
       refine Un ?_;clear hne hry hrx hrx0;intro wm hwm;obtain ⟨hcwm,hfwm,hzwm⟩:=Qc.rules hwm;try simp only [World.size_alloc] at hzwm
       have hk0wm:=fun o => hcwm (wo.heap.size) o Q9
       have hj0wm:=fun o => hfwm (wo.heap.size) o Q9
       have hl0wm : wo.heap.size < wm.heap.size:=Q9;obtain ⟨hcbwm,hfbwm,hzbwm⟩:=Qc.rules (show Qc wo wm from Qu);clear hcwm hfwm;generalize hs : (decide ((c.yr k).db < 0) || decide (12 < (c.yr k).db) || decide ((c.yr k).lg < 0) || decide (8191 < (c.yr k).lg) || ((c.yr k).db == 0 && decide (4096 ≤ (c.yr k).lg))) = s at *;have HS : Hid ((c.yr k).shapeOk = !s):=by rw [← hs];exact Be _
       clear hs;cases s
       ·go_wp2;exact ⟨⟨k + 1,Qa,by go_num,Td hY (by rw [HY.out,HS.out];rfl),Qu⟩,zi⟩
       ·go_wp2;go_ret;exact ⟨Jo (Cb hlt (by rw [HY.out,HS.out];rfl)).symm,Qu⟩
      ·go_wp2;go_ret;exact ⟨Jo (Cb hlt (by rw [HY.out,Bool.true_or];rfl)).symm,Qu⟩
     ·have hY' : Us c c.ny:=fun i hi => hY i Qa
      go_wp2;go_ret;exact ⟨Jo (Qom HF.out hK' hY').symm,Qu⟩
 ·go_wp2;go_ret;exact ⟨Jo (Qok HF.out).symm,Qu⟩
end
section
open Go Go.RowKit
open Go.Maps
theorem Qb4 : (263 : TypeId) < Tryz.prog.types.size:=of_decide_eq_true zK
theorem Qlb : (match Tryz.prog.underlying 263 with | some (.array _ _) | some (.struct _) => true | _ => false) = true:=by kernel_rfl
theorem Qc5 : laidOutB Tryz.prog = true:=by kernel_rfl
theorem Ra : Keyed Tryz.prog 263:=Keyed.of_law (Go.deep_law_laid Qc5 (m:=2) Qa Qb4 zK Qlb)
theorem Qb3 : Tryz.prog.underlying 261 = some (.map 263 4):=by kernel_rfl
theorem Qlc (w : World) : (zeroValue 4).run Tryz.prog w = .ok (.bool false) w:=by kernel_rfl
theorem La : Tryz.prog.underlying 4 = some .bool:=by kernel_rfl
def Km : Option TypeDesc → Array Field
 | some (.struct fs) => fs
 | _ => #[]
theorem Qla : Tryz.prog.underlying 263 = some (.struct (Km (Tryz.prog.underlying 263))):=by kernel_rfl
theorem Qk7 : (Km (Tryz.prog.underlying 263)).toList.map (fun f => (f.type,f.offset)) = [(3,0),(9,1)]:=by kernel_rfl
theorem Qk9 : (Km (Tryz.prog.underlying 263)).all (·.name != "_") = true:=by kernel_rfl
theorem Qb2 : Tryz.prog.cellsOf 263 = 2:=by kernel_rfl
theorem Qk8 : Tryz.prog.keyType 263 = true:=by kernel_rfl
theorem Qn6 : ∃ m,Tryz.prog.types.size = m + 1 + 1:=by
 have h : (2 : Nat) ≤ Tryz.prog.types.size:=Nat.le_trans (show (2 : Nat) ≤ 263 by decide) (Nat.le_of_lt Qb4);exact ⟨Tryz.prog.types.size - 2,Qa⟩
def Tj (k : Int) (nm : ByteArray) : Lit:=.string (keyBytes [.int .i64 k,.string nm.data.toList])
theorem Fj {k : Int} {nm : ByteArray} (hk : (Lit.int .i64 k).wf = true) (hn : nm.size ≤ maxLen) : keyOf Tryz.prog 263 (.agg #[.int .i64 k,.string nm]) = some (Tj k nm):=by
 obtain ⟨m,hm⟩:=Qn6;have hf:=Qk7;have hN:=Qk9;have hU:=Qla;generalize Km (Tryz.prog.underlying 263) = fs at hf hN hU;obtain ⟨l⟩:=fs;simp only [List.map_eq_cons_iff,List.map_eq_nil_iff] at hf;obtain ⟨f0,_,rfl,e0,f1,_,rfl,e1,rfl⟩:=hf;simp only [Prod.mk.injEq] at e0 e1;unfold keyOf;simp only [hU];rw [if_pos (by simp [Qk8,Value.formed,hU,Qb2]),hm];unfold Program.keyLits;simp only [hU,Value.cells];rw [if_pos ⟨by rw [Qb2];rfl,hN⟩,List.mapM_cons,List.mapM_cons,List.mapM_nil];rw [e0.1,e0.2,e1.1,e1.2];have c3 : Tryz.prog.cellsOf 3 = 1:=by kernel_rfl
 have c9 : Tryz.prog.cellsOf 9 = 1:=by kernel_rfl
 simp [c3,c9,Program.keyLits,hk,hn,Tj]
def Lj {H : Type} (f : Nat → Yr) : Nat → DataW H
 | 0 => .map []
 | n + 1 => (Lj f n).put (Tj (f n).k (f n).nm) (.lit (.bool true))
theorem I3 {H : Type} (f : Nat → Yr) : ∀ n,IsMap (Lj (H:=H) f n)
 | 0 => isMap_empty
 | n + 1 => (I3 f n).put _ _
def Vw (y : Yr) : Prop:=(Lit.int .i64 y.k).wf = true ∧ y.nm.size ≤ maxLen
theorem I1 {H : Type} {f : Nat → Yr} {y : Yr} (hy : Vw y) : ∀ n,(∀ j,j < n → Vw (f j)) → (Lj (H:=H) f n).atKey (Tj y.k y.nm) (.lit (.bool false)) = .lit (.bool (Yu f y n))
 | 0,_ => rfl
 | n + 1,h => by
  have ih:=I1 (H:=H) hy n (fun j hj => h j Qa);have kf:=Fj (h n Qa).1 (h n Qa).2;have ky:=Fj hy.1 hy.2;have e : Yu f y (n + 1) = (Yu f y n || (f n).alike y):=by rw [Yu,Yu,List.range_succ,List.any_append];simp
  rw [e];by_cases he : (f n).alike y = true
  ·have h1 : (f n).k = y.k ∧ (f n).nm = y.nm := by simpa [Yr.alike] using he
   rw [he,Bool.or_true,Lj,h1.1,h1.2];exact atKey_put_same (I3 f n) (Ra.key ky) _ _
  ·rw [Bool.not_eq_true] at he;rw [he,Bool.or_false,← ih,Lj];refine atKey_put_other (fun hl => ?_) _ _;have h2:=Ra.inj ky (by rw [hl];exact kf);simp at h2;rw [Yr.alike,h2.1,h2.2] at he;simp at he
theorem Qim {H : Type} {w : World} {b m n : Nat} {f : Nat → Yr} {y : Yr} (hm : w.ownsMap Tryz.prog 263 (plainElem (H:=H) Tryz.prog 4) b m (Lj f n)) (hy : Vw y) (hf : ∀ j,j < n → Vw (f j)) :
  (Instr.lookup 261 (.map (some b)) (.agg #[.int .i64 y.k,.string y.nm]) false).run Tryz.prog w = .ok (.bool (Yu f y n)) w:=by
 obtain ⟨v,ps,hrun,hv⟩:=hm.lookup Ra Qb3 (Qlc w) (plainElem_bool La false) (Fj hy.1 hy.2);rw [I1 hy n hf] at hv;rw [hrun];simp only [plainElem,La] at hv
 split at hv <;> simp_all
end
section
open Go Go.RowKit
open Go.Maps
attribute [local go_sem] Z8
theorem Qcu {H : Type} {P : Program} {k : TypeId} {R : Value → Option (DataW H × List MemPlace)} {w w' : World} {b n : Nat} {D : DataW H} (h : w.ownsMap P k R b n D) (e : Qc w w') : w'.ownsMap P k R b n D:=by
 have hlt:=h.lt;obtain ⟨es,clock,hb,F,hs,hD⟩:=h;exact ⟨es,clock,(e.block hlt).trans hb,F,hs,hD⟩
theorem Qa1 {y : Yr} {n : Int} (h0 : 0 ≤ y.k) (h1 : y.k < n) (hn : n ≤ 9223372036854775807) (hs : Zu y.nm = true) : Vw y:=by
 refine ⟨?_,?_⟩
 ·simp [Lit.wf,IntKind.min,IntKind.max,IntKind.signed,IntKind.bits];omega
 ·simp only [Zu,Bool.and_eq_true,decide_eq_true_eq] at hs;have : maxLen = 9223372036854775807:=rfl;omega
theorem Qc3 {c : Qd} {k : Nat} (h : Us c k) : 0 ≤ c.prevK k:=(Qc2 h).1
theorem Qa2 {c : Qd} {k : Nat} (h : Us c k) (hn : c.nk ≤ 9223372036854775807) : ∀ j,j < k → Vw (c.yr j):=fun j hj => by
 have h1:=h j hj;have h2:=Qc3 (c:=c) (k:=j) (fun i hi => h i Qa);simp only [Qd.yearOk,Bool.and_eq_true,decide_eq_true_eq] at h1;exact Qa1 (n:=c.nk) Qa Qa Qa (by simp_all)
theorem Qo6 (c : Qd) (k : Nat) : c.yearOk k =
  !(decide ((c.yr k).k < c.prevK k) || decide ((c.nk : Int) ≤ (c.yr k).k) || !Zu (c.yr k).nm || Yu c.yr (c.yr k) k || decide ((c.yr k).db < 0) || decide (12 < (c.yr k).db) || decide ((c.yr k).lg < 0) || decide (8191 < (c.yr k).lg) || ((c.yr k).db == 0 && decide (4096 ≤ (c.yr k).lg))):=by
 rw [Qd.yearOk,I4,Be,Bool.eq_iff_iff];cases Zu (c.yr k).nm <;> cases Yu c.yr (c.yr k) k <;> simp <;> omega
theorem Qol {c : Qd} (h : (!c.kingsOk || decide ((c.ny : Int) < 1) || decide (400 < (c.ny : Int))) = true) : c.valid = false:=by
 rw [Bool.eq_false_iff];intro hh;simp only [Qd.valid,Bool.and_eq_true,decide_eq_true_eq] at hh;simp only [Bool.or_eq_true,decide_eq_true_eq,Bool.not_eq_true'] at h;rcases h with (h | h) | h
 ·rw [hh.1.1.1] at h;cases h
 ·omega
 ·omega
theorem Qon {c : Qd} (h : (!c.kingsOk || decide ((c.ny : Int) < 1) || decide (400 < (c.ny : Int))) = false) (hy : Us c c.ny) : c.valid = true:=by
 simp only [Bool.or_eq_false_iff,decide_eq_false_iff_not,Bool.not_eq_false'] at h;simp only [Qd.valid,Bool.and_eq_true,List.all_eq_true,List.mem_range,decide_eq_true_eq];exact ⟨⟨⟨h.1.1,Qa⟩,Qa⟩,hy⟩
theorem Tg (A A' : OA) (ca cb : Nat) (c : Qd) (w : World) (hC : Za w A ca A' cb c) :
  Calls Tryz.prog 141 #[.agg #[.slice A c.nk ca,.slice A' c.ny cb]] w fun e w' => e = .returned (.bool c.valid) ∧ Qc w w':=by
 have hnk:=hC.nk_le;have hny:=hC.ny_le;have hcapk:=hC.nk_cap;have hcapy:=hC.ny_cap;have hmm:=@run_makeMap Tryz.prog
 go_enter Tryz.func141,Tryz.ntmps141
 go_upto_region 1 with fail
 refine Vq w Qu ?_;intro hne hrx hry;try simp only []
 try simp only [List.append_eq,List.cons_append,List.nil_append]
 have hrx0:=fun u o => hrx u (w.heap.size) o Q9
 skip
 have n1:=fun u  => (And.intro (hrx u) (Qog _ ca c _ (hC.kings.ext (Qc.trans Qu u.e)) Qa Qa)).2
 refine Un ?_;clear hne hry hrx hrx0 n1;intro wq hq;obtain ⟨hcwq,hfwq,hzwq⟩:=Qc.rules hq;try simp only [World.size_alloc] at hzwq
 have hk0wq:=fun o => hcwq (w.heap.size) o Q9
 have hj0wq:=fun o => hfwq (w.heap.size) o Q9
 have hl0wq : w.heap.size < wq.heap.size:=Q9;obtain ⟨hcbwq,hfbwq,hzbwq⟩:=Qc.rules (show Qc w wq from Qu);clear hcwq hfwq;generalize hf : (!c.kingsOk || decide ((c.ny : Int) < 1) || decide (400 < (c.ny : Int))) = f at *;have HF : Hid (_ = f):=hf;clear hf;cases f
 ·go_wp2;have hB0 : Qc (w.alloc (.cells #[.slice A c.nk ca,.slice A' c.ny cb] 25)) wq:=hq
  go_loopw [4,27] (fun kg i wr => ∃ k : Nat,k ≤ c.ny ∧ i = .int .i64 k ∧ kg = .int .i64 (c.prevK k) ∧ Us c k ∧ Qc (w.alloc (.cells #[.slice A c.nk ca,.slice A' c.ny cb] 25)) wr ∧
   wr.ownsMap Tryz.prog 263 (plainElem (H:=Unit) Tryz.prog 4) wq.heap.size k (Lj c.yr k)) (fun _ i _ => c.ny - (intOf i).toNat)
  case atStart => exact ⟨0,Nat.zero_le _,rfl,rfl,(fun i h => absurd h Qa),Qc.alloc hq _,World.ownsMap_made _ _ _ _⟩
  case round =>
   obtain ⟨k,hk,rfl,rfl,hY,hB,hM⟩:=hrel;clear hzwq hk0wq hj0wq hl0wq hcbwq hfbwq hzbwq;obtain ⟨wo,rfl⟩:=Qe wr;obtain ⟨hcwo,hfwo,hzwo⟩:=Qc.rules hB;try simp only [World.size_alloc] at hzwo
   have hk0wo:=fun o => hcwo (w.heap.size) o Q9
   have hj0wo:=fun o => hfwo (w.heap.size) o Q9
   have hl0wo : w.heap.size < wo.heap.size:=Q9;obtain ⟨hcbwo,hfbwo,hzbwo⟩:=Qc.rules (show Qc w wo from Qu);clear hcwo hfwo;by_cases hlt : k < c.ny
   ·obtain ⟨b,off,rfl,hb,c0,c1,c2,c3⟩:=hC.year hlt;have HY : Hid (c.yearOk k = _):=Qo6 c k;have hbo : b < wo.heap.size:=Qa;have h0:=Qc3 hY
    have hlook : ∀ w',Qc wo w' → Vw (c.yr k) → (Instr.lookup 261 (.map (some wq.heap.size)) (.agg #[.int .i64 (c.yr k).k,.string (c.yr k).nm]) false).run Tryz.prog w' = .ok (.bool (Yu c.yr (c.yr k) k)) w' :=
     fun w' e hy => Qim (Qcu hM e) hy (Qa2 hY hnk)
    have hlk0 : (c.prevK k ≤ (c.yr k).k ∧ (c.yr k).k < c.nk) ∧ Zu (c.yr k).nm = true → Vw (c.yr k):=fun h => Qa1 Qa h.1.2 Qa h.2
    go_upto_region 8 with fail
    refine Vq wo Qu ?_;intro hne hrx hry;try simp only []
    try simp only [List.append_eq,List.cons_append,List.nil_append]
    have hrx0:=fun u o => hrx u (wo.heap.size) o Q9
    skip
    have m1:=fun x1 x2 => Ot x1 x2
    refine Un ?_;clear hne hry hrx hrx0 m1;intro wn hwn;obtain ⟨hcwn,hfwn,hzwn⟩:=Qc.rules hwn;try simp only [World.size_alloc] at hzwn
    have hk0wn:=fun o => hcwn (wo.heap.size) o Q9
    have hj0wn:=fun o => hfwn (wo.heap.size) o Q9
    have hl0wn : wo.heap.size < wn.heap.size:=Q9;obtain ⟨hcbwn,hfbwn,hzbwn⟩:=Qc.rules (show Qc wo wn from Qu);clear hcwn hfwn;generalize hs : (decide ((c.yr k).k < c.prevK k) || decide ((c.nk : Int) ≤ (c.yr k).k) || !Zu (c.yr k).nm || Yu c.yr (c.yr k) k || decide ((c.yr k).db < 0) || decide (12 < (c.yr k).db) || decide ((c.yr k).lg < 0) || decide (8191 < (c.yr k).lg) || ((c.yr k).db == 0 && decide (4096 ≤ (c.yr k).lg))) = s at *;have HS : Hid (c.yearOk k = !s):=HY.out;clear hs HY;cases s
    ·have hY1 : Us c (k + 1):=Td hY HS.out;have hyk : Vw (c.yr k):=Qa2 hY1 hnk k Qa;have hMn:=Qcu hM (w':=wn) (Qc.trans Qu hwn);obtain ⟨w1,hrun1,hM1,hg1⟩:=hMn.update Ra Qb3 (show k < 9223372036854775807 by omega) (Fj hyk.1 hyk.2) (plainElem_bool La true);have hsz : (w.alloc (.cells #[.slice A c.nk ca,.slice (some ⟨b,off,none⟩) c.ny cb] 25)).heap.size ≤ wq.heap.size:=hB0.size;have hE1 : Qc (w.alloc (.cells #[.slice A c.nk ca,.slice (some ⟨b,off,none⟩) c.ny cb] 25)) w1:=Qc.grown (w:=wn) Qu hg1 (fun j hj => by cases hj;exact hsz);go_wp2;exact ⟨⟨k + 1,Qa,by go_num,rfl,hY1,hE1,hM1⟩,zi⟩
    ·go_wp2;go_ret;exact ⟨Jo (Cb hlt HS.out).symm,Qu⟩
   ·have hY' : Us c c.ny:=fun i hi => hY i Qa
    go_wp2;go_ret;exact ⟨Jo (Qon HF.out hY').symm,Qu⟩
 ·go_wp2;go_ret;exact ⟨Jo (Qol HF.out).symm,Qu⟩
end
section
open Go Go.RowKit
attribute [local go_sem] Z8
theorem Qgr {c : Qd} (h : c.valid = true) : c.chk = 0:=by simp [Qd.chk,h]
theorem chk_no {c : Qd} (h : c.valid = false) : c.chk = 70:=by simp [Qd.chk,h]
set_option maxHeartbeats 1000000 in
theorem Qgn (A A' : OA) (ca cb : Nat) (c : Qd) (w : World) (hC : Za w A ca A' cb c) :
  Calls Tryz.prog 115 #[.agg #[.slice A c.nk ca,.slice A' c.ny cb]] w fun e w' => e = .returned (.int .i64 c.chk) ∧ Qc w w':=by
 go_enter Tryz.func115,Tryz.ntmps115
 go_upto_region 1 with fail
 refine Vq w Qu ?_;intro hne hrx hry;try simp only []
 try simp only [List.append_eq,List.cons_append,List.nil_append]
 have hrx0:=fun u o => hrx u (w.heap.size) o Q9
 skip
 repeat (first
  | go_big_quiet_skip
  | ((with_reducible apply Nh)
     ·exact rfl
     ·exact rfl
     ·exact rfl
     intro K hK
     unfold Jb;go_big_quiet_op;(with_reducible refine hK _ ?_);clear hK K)
  | ((with_reducible apply Nj)
     ·exact rfl
     ·exact rfl
     ·exact rfl
     intro K hK
     unfold Jb;go_big_quiet_op;(with_reducible refine hK _ ?_);clear hK K)
  | (go_big_quiet_want;go_big_quiet_op;go_big_quiet_on)
  | (go_big_quiet_want;go_big_quiet_op;apply Exists.intro;refine ⟨fun u => ?_,?_⟩
     ·first
       | (go_at_call 141;refine (Tg _ _ _ _ c _ (hC.ext (Qc.trans Qu u.e))).mono ?_;rintro e w' ⟨rfl,hb⟩;exact ⟨rfl,u.back hb⟩)
     go_big_quiet_on)
  | ((with_reducible apply Ni)
     ·first | exact Xm rfl rfl rfl | exact Xl rfl rfl rfl | exact Xk rfl rfl rfl | exact Xj rfl rfl rfl
     ·exact rfl
     ·exact rfl
     ·exact rfl
     intro K hK
     unfold Jb;go_big_quiet_op;(with_reducible refine hK _ ?_);clear hK K)
  | ((with_reducible apply Nk)
     ·first | exact Xm rfl rfl rfl | exact Xl rfl rfl rfl | exact Xk rfl rfl rfl | exact Xj rfl rfl rfl
     ·exact rfl
     ·exact rfl
     ·exact rfl
     intro K hK
     unfold Jb;go_big_quiet_op;(with_reducible refine hK _ ?_);clear hK K)
  | ((with_reducible apply Ku)
     ·first | exact Xm rfl rfl rfl | exact Xl rfl rfl rfl | exact Xk rfl rfl rfl | exact Xj rfl rfl rfl
     apply Exists.intro;refine And.intro (fun hgb => ?_) ?_
     ·intro u;try simp at hgb
      go_simp
      try simp only [if_pos hsl]
      try simp only [if_pos (hin Qa)]
      try (simp only [hd0 Qa];go_simp)
      try (rw [hlook _ (Qc.trans Qu u.e) (hlk0 hgb)];go_simp)
      first
       | (with_reducible exact rfl)
       | (go_at_call 141;refine (Tg _ _ _ _ c _ (hC.ext (Qc.trans Qu u.e))).mono ?_;rintro e w' ⟨rfl,hb⟩;exact ⟨rfl,u.back hb⟩)
     intro K hK;unfold Jb;go_big_quiet_op;(with_reducible refine hK _ ?_);clear hK K))
 clear hne hry hrx hrx0;refine wpQuiet_nil ?_;intro wq hq;obtain ⟨hcwq,hfwq,hzwq⟩:=Qc.rules hq;try simp only [World.size_alloc] at hzwq
 have hk0wq:=fun o => hcwq (w.heap.size) o Q9
 have hj0wq:=fun o => hfwq (w.heap.size) o Q9
 have hl0wq : w.heap.size < wq.heap.size:=Q9;obtain ⟨hcbwq,hfbwq,hzbwq⟩:=Qc.rules (show Qc w wq from Qu);clear hcwq hfwq;generalize hv : c.valid = v at *;cases v
 ·go_wp2;go_ret;exact ⟨Wt (chk_no hv).symm,Qu⟩
 ·go_wp2;go_ret;exact ⟨Wt (Qgr hv).symm,Qu⟩
def Sz (d : Dt) : List Value:=[.int .i64 d.y,.int .i64 d.m,.bool d.s,.int .i64 d.d]
def InTo (c : Qd) (f : Nat → Dt) (k : Nat) : Prop:=∀ i,i < k → c.has (f i) = true
def Qd.checks (c : Qd) (f : Nat → Dt) (n : Nat) : Int:=if c.valid then (if (List.range n).all (fun i => c.has (f i)) then 0 else 71) else 70
theorem Qgo {c : Qd} {f : Nat → Dt} {n : Nat} (h : c.valid = false) : c.checks f n = 70:=by simp [Qd.checks,h]
theorem Qgp {c : Qd} {f : Nat → Dt} {n k : Nat} (h : c.valid = true) (hk : k < n) (ho : c.has (f k) = false) : c.checks f n = 71:=by
 have : (List.range n).all (fun i => c.has (f i)) = false:=by
  rw [List.all_eq_false];exact ⟨k,by simpa using hk,by simp [ho]⟩
 simp only [Qd.checks,h,this];rfl
theorem Qgq {c : Qd} {f : Nat → Dt} {n : Nat} (h : c.valid = true) (hI : InTo c f n) : c.checks f n = 0:=by
 have : (List.range n).all (fun i => c.has (f i)) = true:=by
  rw [List.all_eq_true];intro i hi;exact hI i (by simpa using hi)
 simp only [Qd.checks,h,this];rfl
theorem Ns {c : Qd} (h : c.valid = true) : ∀ i,i < c.ny → 0 ≤ (c.yr i).lg ∧ (c.yr i).lg ≤ 8191:=fun i hi => by
 simp only [Qd.valid,Bool.and_eq_true,List.all_eq_true,List.mem_range] at h;have h1:=h.2 i hi;simp only [Qd.yearOk,Bool.and_eq_true] at h1;have h2:=h1.2;rw [Be] at h2;simp at h2;omega
set_option maxHeartbeats 1000000 in
theorem Ma (A A' : OA) (ca cb : Nat) (c : Qd) (B : OA) (n cap : Nat) (f : Nat → Dt) (w : World) (hC : Za w A ca A' cb c) (hD : Qm w B n 4 (fun i => Sz (f i))) (hn : n ≤ 9223372036854775807) :
  Calls Tryz.prog 94 #[.agg #[.slice A c.nk ca,.slice A' c.ny cb],.slice B n cap] w fun e w' => e = .returned (.int .i64 (c.checks f n)) ∧ Qc w w':=by
 go_enter Tryz.func94,Tryz.ntmps94
 go_upto_region 1 with fail
 refine Vq w Qu ?_;intro hne hrx hry;try simp only []
 try simp only [List.append_eq,List.cons_append,List.nil_append]
 have hrx0:=fun u o => hrx u (w.heap.size) o Q9
 skip
 repeat (first
  | go_big_quiet_skip
  | ((with_reducible apply Nh)
     ·exact rfl
     ·exact rfl
     ·exact rfl
     intro K hK
     unfold Jb;go_big_quiet_op;(with_reducible refine hK _ ?_);clear hK K)
  | ((with_reducible apply Nj)
     ·exact rfl
     ·exact rfl
     ·exact rfl
     intro K hK
     unfold Jb;go_big_quiet_op;(with_reducible refine hK _ ?_);clear hK K)
  | (go_big_quiet_want;go_big_quiet_op;go_big_quiet_on)
  | (go_big_quiet_want;go_big_quiet_op;apply Exists.intro;refine ⟨fun u => ?_,?_⟩
     ·first
       | (go_at_call 141;refine (Tg _ _ _ _ c _ (hC.ext (Qc.trans Qu u.e))).mono ?_;rintro e w' ⟨rfl,hb⟩;exact ⟨rfl,u.back hb⟩)
     go_big_quiet_on)
  | ((with_reducible apply Ni)
     ·first | exact Xm rfl rfl rfl | exact Xl rfl rfl rfl | exact Xk rfl rfl rfl | exact Xj rfl rfl rfl
     ·exact rfl
     ·exact rfl
     ·exact rfl
     intro K hK
     unfold Jb;go_big_quiet_op;(with_reducible refine hK _ ?_);clear hK K)
  | ((with_reducible apply Nk)
     ·first | exact Xm rfl rfl rfl | exact Xl rfl rfl rfl | exact Xk rfl rfl rfl | exact Xj rfl rfl rfl
     ·exact rfl
     ·exact rfl
     ·exact rfl
     intro K hK
     unfold Jb;go_big_quiet_op;(with_reducible refine hK _ ?_);clear hK K)
  | ((with_reducible apply Ku)
     ·first | exact Xm rfl rfl rfl | exact Xl rfl rfl rfl | exact Xk rfl rfl rfl | exact Xj rfl rfl rfl
     apply Exists.intro;refine And.intro (fun hgb => ?_) ?_
     ·intro u;try simp at hgb
      go_simp
      try simp only [if_pos hsl]
      try simp only [if_pos (hin Qa)]
      try (simp only [hd0 Qa];go_simp)
      try (rw [hlook _ (Qc.trans Qu u.e) (hlk0 hgb)];go_simp)
      first
       | (with_reducible exact rfl)
       | (go_at_call 141;refine (Tg _ _ _ _ c _ (hC.ext (Qc.trans Qu u.e))).mono ?_;rintro e w' ⟨rfl,hb⟩;exact ⟨rfl,u.back hb⟩)
     intro K hK;unfold Jb;go_big_quiet_op;(with_reducible refine hK _ ?_);clear hK K))
 clear hne hry hrx hrx0;refine wpQuiet_nil ?_;intro wq hq;obtain ⟨hcwq,hfwq,hzwq⟩:=Qc.rules hq;try simp only [World.size_alloc] at hzwq
 have hk0wq:=fun o => hcwq (w.heap.size) o Q9
 have hj0wq:=fun o => hfwq (w.heap.size) o Q9
 have hl0wq : w.heap.size < wq.heap.size:=Q9;obtain ⟨hcbwq,hfbwq,hzbwq⟩:=Qc.rules (show Qc w wq from Qu);clear hcwq hfwq;generalize hv : c.valid = v at *;cases v
 ·go_wp2;go_ret;exact ⟨Wt (Qgo hv).symm,Qu⟩
 ·go_wp2
  go_loopw [12] (fun i wr => ∃ k : Nat,k ≤ n ∧ i = .int .i64 k ∧ InTo c f k ∧ Qc (w.alloc (.cells #[.slice A c.nk ca,.slice A' c.ny cb] 25)) wr) (fun i _ => n - (intOf i).toNat)
  case atStart => exact ⟨0,Nat.zero_le _,rfl,(fun i h => absurd h Qa),hq⟩
  case round =>
   obtain ⟨k,hk,rfl,hI,hB⟩:=hrel;clear hzwq hk0wq hj0wq hl0wq hcbwq hfbwq hzbwq hq;obtain ⟨wo,rfl⟩:=Qe wr;obtain ⟨hcwo,hfwo,hzwo⟩:=Qc.rules hB;try simp only [World.size_alloc] at hzwo
   have hk0wo:=fun o => hcwo (w.heap.size) o Q9
   have hj0wo:=fun o => hfwo (w.heap.size) o Q9
   have hl0wo : w.heap.size < wo.heap.size:=Q9;obtain ⟨hcbwo,hfbwo,hzbwo⟩:=Qc.rules (show Qc w wo from Qu);clear hcwo hfwo;by_cases hlt : k < n
   ·obtain ⟨b, off, rfl, hb, hc⟩ := hD Qa;have c0 : w.cell? ⟨b, off + k * 4, none⟩ = some (.int .i64 (f k).y) := by simpa using hc k 0 _ hlt rfl
    have c1 : w.cell? ⟨b,off + k * 4 + 1,none⟩ = some (.int .i64 (f k).m):=hc k 1 _ hlt rfl;have c2 : w.cell? ⟨b,off + k * 4 + 2,none⟩ = some (.bool (f k).s):=hc k 2 _ hlt rfl;have c3 : w.cell? ⟨b,off + k * 4 + 3,none⟩ = some (.int .i64 (f k).d):=hc k 3 _ hlt rfl;clear hc hD;have hbo : b < wo.heap.size:=Qa;go_upto_region 6 with fail
    refine Vq wo Qu ?_;intro hne hrx hry;try simp only []
    try simp only [List.append_eq,List.cons_append,List.nil_append]
    have hrx0:=fun u o => hrx u (wo.heap.size) o Q9
    skip
    repeat (first
     | go_big_quiet_skip
     | ((with_reducible apply Nh)
        ·exact rfl
        ·exact rfl
        ·exact rfl
        intro K hK
        unfold Jb;go_big_quiet_op;(with_reducible refine hK _ ?_);clear hK K)
     | ((with_reducible apply Nj)
        ·exact rfl
        ·exact rfl
        ·exact rfl
        intro K hK
        unfold Jb;go_big_quiet_op;(with_reducible refine hK _ ?_);clear hK K)
     | (go_big_quiet_want;go_big_quiet_op;go_big_quiet_on)
     | (go_big_quiet_want;go_big_quiet_op;apply Exists.intro;refine ⟨fun u => ?_,?_⟩
        ·first
          | (go_at_call 142;refine (Qah _ _ _ _ c (f k) _ (hC.ext (Qc.trans Qu u.e)) (Ns hv)).mono ?_;rintro e w' ⟨rfl,hb⟩;exact ⟨rfl,u.back hb⟩)
        go_big_quiet_on)
     | ((with_reducible apply Ni)
        ·first | exact Xm rfl rfl rfl | exact Xl rfl rfl rfl | exact Xk rfl rfl rfl | exact Xj rfl rfl rfl
        ·exact rfl
        ·exact rfl
        ·exact rfl
        intro K hK
        unfold Jb;go_big_quiet_op;(with_reducible refine hK _ ?_);clear hK K)
     | ((with_reducible apply Nk)
        ·first | exact Xm rfl rfl rfl | exact Xl rfl rfl rfl | exact Xk rfl rfl rfl | exact Xj rfl rfl rfl
        ·exact rfl
        ·exact rfl
        ·exact rfl
        intro K hK
        unfold Jb;go_big_quiet_op;(with_reducible refine hK _ ?_);clear hK K)
     | ((with_reducible apply Ku)
        ·first | exact Xm rfl rfl rfl | exact Xl rfl rfl rfl | exact Xk rfl rfl rfl | exact Xj rfl rfl rfl
        apply Exists.intro;refine And.intro (fun hgb => ?_) ?_
        ·intro u;try simp at hgb
         go_simp
         try simp only [if_pos hsl]
         try simp only [if_pos (hin Qa)]
         try (simp only [hd0 Qa];go_simp)
         try (rw [hlook _ (Qc.trans Qu u.e) (hlk0 hgb)];go_simp)
         first
          | (with_reducible exact rfl)
          | (go_at_call 142;refine (Qah _ _ _ _ c (f k) _ (hC.ext (Qc.trans Qu u.e)) (Ns hv)).mono ?_;rintro e w' ⟨rfl,hb⟩;exact ⟨rfl,u.back hb⟩)
        intro K hK;unfold Jb;go_big_quiet_op;(with_reducible refine hK _ ?_);clear hK K))
    clear hne hry hrx hrx0;refine wpQuiet_nil ?_;intro wn hwn;obtain ⟨hcwn,hfwn,hzwn⟩:=Qc.rules hwn;try simp only [World.size_alloc] at hzwn
    have hk0wn:=fun o => hcwn (wo.heap.size) o Q9
    have hj0wn:=fun o => hfwn (wo.heap.size) o Q9
    have hl0wn : wo.heap.size < wn.heap.size:=Q9;obtain ⟨hcbwn,hfbwn,hzbwn⟩:=Qc.rules (show Qc wo wn from Qu);clear hcwn hfwn;generalize hs : c.has (f k) = s at *;cases s
    ·go_wp2;go_ret;exact ⟨Wt (Qgp hv hlt hs).symm,Qu⟩
    ·go_wp2;exact ⟨⟨k + 1,Qa,by go_num,Td hI hs,Qu⟩,zi⟩
   ·go_wp2;go_ret;exact ⟨Wt (Qgq hv (fun i hi => hI i Qa)).symm,Qu⟩
end
section
open Go Go.RowKit Go.Shelf
attribute [local go_sem] Oper.semAt_some Z8
attribute [local go_sem high] Qh3
theorem Qc.putObj {W w : World} (h : Qc W w) {k : Nat} (hk : W.heap.size ≤ k) (o : Obj) : Qc W (w.putObj k o):=h.grown (grownBy_putObj' w k o) (fun j e => by cases e;exact hk)
theorem Qcr {β : Type} {B : Nat} {w₀ : World} (hB : w₀.heap.size ≤ B) : OwnFrom B (fun (_ : β) W => Qc w₀ W):=ownFrom_below (Nat.le_refl _) hB
theorem Qa0 {B : Nat} {W W' : World} (e : Qc W W') : KeepsFrom B W W':=⟨e.size,fun _ _ _ h _ => (e.block (Array.getElem?_eq_some_iff.1 h).1).trans h⟩
theorem Qdh {F : Fence} {n : Nat} {P : Program} {fn : Func} {R : Ending → World → Prop} {tmps : Array Value} {w : World} {v : Value} {D : Nat} (hK : w.heap[D]? = some (.deferred (some [])))
  (hr : (results fn tmps).run P (w.putObj D (.deferred none)) = .ok v (w.putObj D (.deferred none))) (hR : R (.returned v) (w.putObj D (.deferred none))) :
  bodyPostM F n P fn R .ret { tmps:=tmps,defers:=[{ target:=.collected D,args:=#[] }] } w:=⟨by simp,.inl ⟨_,_,rfl,run_takeDeferred hK,v,hr,hR⟩⟩
theorem Gx {W : World} {B : Nat} {t : TypeId} {v : Value} (h : Boxed W B t v) {D : Nat} {o o' : Obj} (hK : W.heap[D]? = some o) (ho : o.isCells = false) : Boxed (W.putObj D o') B t v :=
 h.kept (grownBy_putObj' W D o') (fun e => by
  cases e
  rw [show W.heap[B]? = _ from h] at hK;cases hK;cases ho)
/-- 'for m, first := range months(c)': the law of such a loop. -/
theorem Qka {g : Operand} {ps : Array Tmp} {assign body : Code} {Q : Exit → Act → World → Prop} {a : Act} {A A' : OA} {ca cb : Nat} {c : Qd} {B : Nat} (w₀ w : World)
  (hg : a.eval g = .func (.func 174) #[] #[.pointer (some ⟨B,0,none⟩)]) (hps : ps.size = 2)
  (hC : Za w₀ A ca A' cb c) (hlg : ∀ i,i < c.ny → 0 ≤ (c.yr i).lg ∧ (c.yr i).lg ≤ 8191) (hny : c.ny ≤ 400) (he : Qc w₀ w) (hB : w.cell? ⟨B,1,none⟩ = some (.slice A' c.ny cb)) (hBl : B < w.heap.size)
  (I : List (Mo c) → World → Prop) (Ix : Code → List (Mo c) → World → Prop) (hI : OwnFrom w.heap.size I) (hIx : ∀ c,OwnFrom w.heap.size (Ix c)) (h0 : I [] w) (Ax : Mo c → Act → World → Prop)
  (hAx : ∀ x a',OwnFrom w.heap.size (fun (_ : Unit) W => Ax x a' W))
  (hassign : ∀ (l : Nat) (Qt : List (Mo c)) (x : Mo c) (W : World) (K : Act → World → Prop),I Qt W → (∀ a' W',KeepsFrom w.heap.size W W' → Y4 w₀.heap.size W W' → I Qt W' → Ax x a' W' → K a' W') →
   assign.wpIn (Fence.wide.inRound l) 7 Tryz.prog (Exit.then K (fun _ _ _ => False)) { tmps:=(ps.zip (Mo.enc x)).foldl (fun t (p,v) => t.setIfInBounds p v) a.tmps,defers:=[] } W)
  (hbody : ∀ (l : Nat) (Qt : List (Mo c)) (x : Mo c) (a' : Act) (W : World),w.heap.size ≤ l → I Qt W → Ax x a' W → Qt.length < 13 * c.ny → body.wpIn (Fence.wide.inRound l) 7 Tryz.prog (ownPostG w.heap.size (Y4 w₀.heap.size) I Ix (Qt ++ [x]) W) a' W)
  (hdone : ∀ (D : Nat) (xs : List (Mo c)) (W : World),w.heap.size ≤ D → Mo.its xs = c.items → I xs W → W.heap[D]? = some (.deferred (some [])) → Q .normal { a with defers:={ target:=.collected D,args:=#[] } :: a.defers } W)
  (hstop : ∀ (D : Nat) (c' : Code) (Qt : List (Mo c)) (W : World),w.heap.size ≤ D → Mo.its Qt <+: c.items → Ix c' Qt W → W.heap[D]? = some (.deferred (some [])) → c'.wp Tryz.prog Q { a with defers:={ target:=.collected D,args:=#[] } :: a.defers } W) :
  (Code.rangeFunc g ps assign body).wp Tryz.prog Q a w:=by
 refine (wpIn_wide (n:=9)).1 (wpIn_rangeFunc_ownH rfl Qa hg trivial (enters_of Tryz.func174 zK rfl) (Qky A A' ca cb c B 8 w₀ w hC hlg hny Qa he hB hBl)
  Y4.trans (Y4.turn he.size) (Below.refl _ _) (fun _ => hps.symm) I Ix hI hIx h0 Ax hAx hassign (fun l Qt x a' W hl _ hi hx hlt => hbody l Qt x a' W hl hi hx (Nat.lt_of_lt_of_le hlt (Ou c c.ny))) hdone
  (fun D c' Qt W hD hp hx hK => wpIn_wide.2 (hstop D c' Qt W hD hp hx hK)))
theorem Qcq {β γ : Type} {B : Nat} {I : γ → β → World → Prop} (h : ∀ x,OwnFrom B (I x)) : OwnFrom B (fun s W => ∃ x,I x s W):=fun s X Y row ⟨x,hs⟩ hg hr => ⟨x,h x s X Y row hs hg hr⟩
theorem Ro {β : Type} (B b : Nat) (t : TypeId) (f : β → Value) : OwnFrom B (fun s W => Boxed W b t (f s)):=Own.from (boxed_own b t f) B
def Qb (W : World) (b : Nat) (t : TypeId) (cs : Array Value) : Prop:=W.heap[b]? = some (.cells cs t (0,0))
theorem Qb.lt {W : World} {b : Nat} {t : TypeId} {cs : Array Value} (h : Qb W b t cs) : b < W.heap.size:=(Array.getElem?_eq_some_iff.1 h).1
theorem Qb.new (W : World) (t : TypeId) (cs : Array Value) : Qb (W.alloc (.cells cs t)) W.heap.size t cs:=World.alloc_heap_new W _
theorem Qb.at (W : World) (t : TypeId) (cs : Array Value) (b : Nat) (h : b = W.heap.size) : Qb (W.alloc (.cells cs t)) b t cs:=by rw [h];exact Qb.new W t cs
theorem Qb.alloc {W : World} {b : Nat} {t : TypeId} {cs : Array Value} (h : Qb W b t cs) (o : Obj) : Qb (W.alloc o) b t cs:=(Below.heap_alloc W o b h.lt).trans h
theorem Qb.boxed {W : World} {b : Nat} {t : TypeId} {v : Value} (h : Qb W b t #[v]) : Boxed W b t v:=h
theorem Qb.ext {W W' : World} {b : Nat} {t : TypeId} {cs : Array Value} (h : Qb W b t cs) (e : Qc W W') : Qb W' b t cs:=(e.block h.lt).trans h
theorem Qb.other {W : World} {b b' : Nat} {t : TypeId} {cs : Array Value} (h : Qb W b t cs) (hne : b ≠ b') (u : Value) : Qb (W.setCell ⟨b',0,none⟩ u) b t cs:=((grownBy_setCell' W b' u).block b h.lt (fun e => hne (by cases e;rfl))).trans h
theorem Qb.cell {W : World} {b : Nat} {t : TypeId} {cs : Array Value} (h : Qb W b t cs) (i : Nat) : W.cell? ⟨b,i,none⟩ = cs[i]?:=by simp [World.cell?,show W.heap[b]? = _ from h]
theorem Qb.frozen {W : World} {b : Nat} {t : TypeId} {cs : Array Value} (h : Qb W b t cs) (i : Nat) : W.frozen? ⟨b,i,none⟩ = false:=by simp [World.frozen?,show W.heap[b]? = _ from h]
section
variable {W : World} {b : Nat} {t : TypeId} {v0 v1 v2 v3 : Value}
theorem Qb.c1 (h : Qb W b t #[v0]) : W.cell? ⟨b,0,none⟩ = some v0:=h.cell 0
theorem Qb.c2 (h : Qb W b t #[v0,v1]) : W.cell? ⟨b,0,none⟩ = some v0 ∧ W.cell? ⟨b,1,none⟩ = some v1:=⟨h.cell 0,h.cell 1⟩
theorem Qb.c3 (h : Qb W b t #[v0,v1,v2]) : W.cell? ⟨b,0,none⟩ = some v0 ∧ W.cell? ⟨b,1,none⟩ = some v1 ∧ W.cell? ⟨b,2,none⟩ = some v2:=⟨h.cell 0,h.cell 1,h.cell 2⟩
theorem Qb.c4 (h : Qb W b t #[v0,v1,v2,v3]) : W.cell? ⟨b,0,none⟩ = some v0 ∧ W.cell? ⟨b,1,none⟩ = some v1 ∧ W.cell? ⟨b,2,none⟩ = some v2 ∧ W.cell? ⟨b,3,none⟩ = some v3:=⟨h.cell 0,h.cell 1,h.cell 2,h.cell 3⟩
end
theorem Ql3 {β : Type} (B b : Nat) (t : TypeId) (f : β → Array Value) : OwnFrom B (fun s W => Qb W b t (f s)):=fun s X Y row hs hg hr => (hg.block b hs.lt (fun e => by
 obtain ⟨_,o,ho,hc⟩:=hr b e.symm;rw [show X.heap[b]? = _ from hs] at ho;cases ho;cases hc)).trans hs
theorem Ap {W W' : World} {b : Nat} {t : TypeId} {v : Value} (h : Boxed W b t v) (e : Qc W W') : Boxed W' b t v:=(e.block h.lt).trans h
theorem Qjs (x : It) (d : Dt) : x.of d = ((x.y : Int) == d.y && (x.n == d.m && x.s == d.s)):=by rw [It.of,Bool.and_assoc];rfl
def AxM (L : Nat) (f : It → Nat → Array Value) {c : Qd} (x : Mo c) (a' : Act) (W : World) : Prop :=
 ∃ Bx,L ≤ Bx ∧ Qb W Bx 231 #[.int .i64 (x.1.y : Int),.int .i64 x.1.n,.bool x.1.s] ∧ a' = { tmps:=f x.1 Bx,defers:=[] }
theorem Qfu {L B : Nat} {f : It → Nat → Array Value} {c : Qd} (x : Mo c) (a' : Act) : OwnFrom B (fun (_ : Unit) W => AxM L f x a' W) :=
 Qcq fun _ => OwnFrom.and (ownFrom_pure _ _) (OwnFrom.and (Ql3 _ _ _ _) (ownFrom_pure _ _))
theorem Qec {W : World} {b b' : Nat} {t t' : TypeId} {v v' : Value} (h : Boxed W b t v) (h' : Boxed W b' t' v') (hne : b ≠ b') (u u' : Value) :
  Boxed ((W.setCell ⟨b,0,none⟩ u).setCell ⟨b',0,none⟩ u').drew b t u ∧ Boxed ((W.setCell ⟨b,0,none⟩ u).setCell ⟨b',0,none⟩ u').drew b' t' u' :=
 ⟨(h.set u).other hne u',(h'.other (Ne.symm hne) u).set u'⟩
/-! ### number -/
def Kc (d : Dt) (l : List It) : Prop:=∀ x,x ∈ l → x.of d = false
theorem Qcg {d : Dt} : ∀ {l : List It} (k : Int),Kc d l → Yy d l k = (0,0)
 | [],_,_ => rfl
 | x :: l,k,h => by
  rw [Yy,h x (List.mem_cons_self ..)];exact Qcg (k + 1) (fun y hy => h y (List.mem_cons_of_mem _ hy))
theorem Qcd {d : Dt} {x : It} (hx : x.of d = true) : ∀ (Qt l : List It) (k : Int),Kc d Qt → Yy d (Qt ++ x :: l) k = (x.first + d.d - 1,k + Qt.length + 1)
 | [],l,k,_ => by simp [Yy,hx]
 | y :: Qt,l,k,h => by
  rw [List.cons_append,Yy,h y (List.mem_cons_self ..)]
  show Yy d _ (k + 1) = _
  rw [Qcd hx Qt l (k + 1) (fun z hz => h z (List.mem_cons_of_mem _ hz)),List.length_cons]
  congr 1;omega
theorem Qlt {c : Qd} {d : Dt} (h : Kc d c.items) : c.num d = (0,0):=Qcg 0 h
theorem Qls {c : Qd} {d : Dt} {Qt : List It} {x : It} (hN : Kc d Qt) (hx : x.of d = true) (hp : Qt ++ [x] <+: c.items) : c.num d = (x.first + d.d - 1,(Qt.length : Int) + 1):=by
 obtain ⟨t,ht⟩:=hp;rw [Qd.num,← ht,List.append_assoc,List.singleton_append,Qcd hx Qt t 0 hN]
 congr 1;omega
theorem Qln {d : Dt} {l : List It} {x : It} (h : Kc d l) (hx : x.of d = false) : Kc d (l ++ [x]):=fun y hy => by
 rcases List.mem_append.1 hy with hy | hy
 ·exact h y hy
 ·rw [List.mem_singleton.1 hy];exact hx
def Hj (A A' : OA) (ca cb : Nat) (c : Qd) (d : Dt) (w : World) : World:=(w.alloc (.cells #[.slice A c.nk ca,.slice A' c.ny cb] 25)).alloc (.cells #[.int .i64 d.y,.int .i64 d.m,.bool d.s,.int .i64 d.d] 51)
theorem Dd (A A' : OA) (ca cb : Nat) (c : Qd) (d : Dt) (w : World) (hC : Za w A ca A' cb c) (hlg : ∀ i,i < c.ny → 0 ≤ (c.yr i).lg ∧ (c.yr i).lg ≤ 8191) (hny : c.ny ≤ 400) (hd : 1 ≤ d.d ∧ d.d ≤ 30) :
  Calls Tryz.prog 95 #[.agg #[.slice A c.nk ca,.slice A' c.ny cb],.agg #[.int .i64 d.y,.int .i64 d.m,.bool d.s,.int .i64 d.d]] w fun e w' => e = .returned (.tuple #[.int .i64 (c.num d).1,.int .i64 (c.num d).2]) ∧ Qc w w':=by
 refine callsIn_wide.1 (callsIn_of_wp_marks (F:=Fence.wide) (n:=9) Tryz.func95 rfl trivial (wpIn_wide.2 ?_) rfl);simp only [Tryz.ntmps95,List.size_toArray,List.length_cons,List.length_nil,Nat.reduceAdd,Nat.reduceSub,Array.replicate_succ,Array.replicate_zero,List.push_toArray,List.append_toArray,List.nil_append,List.cons_append];go_wp2_with (go_at_call 143;refine (Qkz _ _ _ _ c _).mono ?_;rintro e w' ⟨rfl,rfl⟩);obtain ⟨wd,hwd⟩:=Qe (Hj A A' ca cb c d w);have hEd : Qc w wd:=by rw [hwd];unfold Hj;exact Qu
 have hsd : wd.heap.size = w.heap.size + 1 + 1:=by rw [hwd];simp [Hj]
 have hdb : Qb wd (w.heap.size + 1) 51 #[.int .i64 d.y,.int .i64 d.m,.bool d.s,.int .i64 d.d]:=by rw [hwd];unfold Hj;exact (by repeat (first | (refine Qb.at _ _ _ _ ?_;(simp;done)) | refine Qb.alloc ?_ _))
 generalize hW5 : World.alloc _ _ = W5;have hE5 : Qc wd W5:=by rw [← hW5,hwd];unfold Hj;exact Qu
 have hs5 : W5.heap.size = w.heap.size + 1 + 1 + 1 + 1 + 1:=by rw [← hW5];simp
 have b4 : Boxed W5 (w.heap.size + 1 + 1) 3 (.int .i64 0):=by rw [← hW5];exact Qb.boxed (by repeat (first | (refine Qb.at _ _ _ _ ?_;(simp;done)) | refine Qb.alloc ?_ _))
 have b5 : Boxed W5 (w.heap.size + 1 + 1 + 1) 3 (.int .i64 0):=by rw [← hW5];exact Qb.boxed (by repeat (first | (refine Qb.at _ _ _ _ ?_;(simp;done)) | refine Qb.alloc ?_ _))
 have hB : W5.cell? ⟨w.heap.size + 1 + 1 + 1 + 1,1,none⟩ = some (.slice A' c.ny cb):=by rw [← hW5];exact (Qb.cell (t:=25) (cs:=#[.slice A c.nk ca,.slice A' c.ny cb]) (by repeat (first | (refine Qb.at _ _ _ _ ?_;(simp;done)) | refine Qb.alloc ?_ _)) 1)
 clear hW5 hwd;generalize hs : w.heap.size = s at *
 refine Qka (A:=A) (A':=A') (ca:=ca) (cb:=cb) (c:=c) (B:=s + 1 + 1 + 1 + 1) wd W5 rfl rfl (hC.ext hEd) hlg hny hE5 hB Qa
  (fun Qt W => Qc wd W ∧ Boxed W (s + 1 + 1) 3 (.int .i64 0) ∧ Boxed W (s + 1 + 1 + 1) 3 (.int .i64 (Qt.length : Int)) ∧ Kc d (Mo.its Qt))
  (fun c' Qt W => Qc wd W ∧ ∃ p : List (Mo c) × Mo c,Boxed W (s + 1 + 1) 3 (.int .i64 (p.2.1.first + d.d - 1)) ∧ Boxed W (s + 1 + 1 + 1) 3 (.int .i64 (Qt.length : Int)) ∧ c' = .ret ∧ Qt = p.1 ++ [p.2] ∧ Kc d (Mo.its p.1) ∧ p.2.1.of d = true)
  (OwnFrom.and (Qcr Qa) (OwnFrom.and (Ro _ _ _ _) (OwnFrom.and (Ro _ _ _ _) (ownFrom_pure _ _))))
  (fun c' => OwnFrom.and (Qcr Qa) (Qcq fun p => OwnFrom.and (Ro _ _ _ _) (OwnFrom.and (Ro _ _ _ _) (ownFrom_pure _ _))))
  ⟨hE5,b4,b5,fun _ h => (by cases h)⟩
  (AxM (s + 1 + 1 + 1 + 1) (fun y Bx => #[.agg #[.slice A c.nk ca,.slice A' c.ny cb],.agg #[.int .i64 d.y,.int .i64 d.m,.bool d.s,.int .i64 d.d],.pointer (some ⟨s,0,none⟩),.pointer (some ⟨s + 1,0,none⟩),.pointer (some ⟨s + 1 + 1,0,none⟩),.pointer (some ⟨s + 1 + 1 + 1,0,none⟩),.pointer (some ⟨Bx,0,none⟩),.int .i64 y.first,
   .agg #[.slice A c.nk ca,.slice A' c.ny cb],.func (.func 174) #[] #[.pointer (some ⟨s + 1 + 1 + 1 + 1,0,none⟩)],.agg #[.int .i64 (y.y : Int),.int .i64 y.n,.bool y.s],.int .i64 y.first,undef,undef,undef,undef,undef,undef,undef,undef,undef,undef,undef,undef])) Qfu ?assign ?body ?done ?stop
 case assign =>
  intro l Qt x W K hi hK;simp only [Mo.enc]
  gi_wp2
  refine hK _ _ (Qa0 ((Qc.refl W).alloc _)) (Y4.of_ext ((Qc.refl W).alloc _) hi.1.size) ⟨hi.1.alloc _,hi.2.1.alloc _,hi.2.2.1.alloc _,hi.2.2.2⟩ ⟨W.heap.size,hi.2.2.1.lt,Qb.new _ _ _,rfl⟩
 case body =>
  rintro l Qt x a' W hl ⟨hE,b4,b5,hN⟩ ⟨Bx,hBx,hm,rfl⟩ hlt;have hcb:=b5.cell;have hfb:=b5.frozen
  gi_wp2
  have hKp : Y4 wd.heap.size W (W.setCell ⟨s + 1 + 1 + 1,0,none⟩ (.int .i64 ((Qt.length : Int) + 1))):=Y4.box b5 zD Qa _;have hKf : KeepsFrom W5.heap.size W (W.setCell ⟨s + 1 + 1 + 1,0,none⟩ (.int .i64 ((Qt.length : Int) + 1))):=(KeepsOthers.setCell _ _ _).from _;have hE2:=hE.setCell (p:=⟨s + 1 + 1 + 1,0,none⟩) (show wd.heap.size ≤ s + 1 + 1 + 1 by omega) (.int .i64 ((Qt.length : Int) + 1));have b42:=b4.other (B':=s + 1 + 1 + 1) Qa (.int .i64 ((Qt.length : Int) + 1));have b52:=b5.set (.int .i64 ((Qt.length : Int) + 1));have hm2:=hm.other (b':=s + 1 + 1 + 1) Qa (.int .i64 ((Qt.length : Int) + 1));generalize World.setCell W _ _ = W2 at *;clear hcb hfb b4 b5 hm hE
  have hd2:=hdb.ext hE2;have m0:=hm2.cell 0;have m1:=hm2.cell 1;have m2:=hm2.cell 2;have e0:=hd2.cell 0;have e1:=hd2.cell 1;have e2:=hd2.cell 2;have e3:=hd2.cell 3;have hl1:=hm2.lt;have hl2:=hd2.lt;simp at m0 m1 m2 e0 e1 e2 e3;refine Qow W2 mixed zK zK Qu ?_;intro hne hrx hry;try simp only []
  try simp only [List.append_eq,List.cons_append,List.nil_append]
  skip
  have m1:=fun x1 => Qkx d x1
  refine Un ?_;clear hne hry hrx m1;intro wq hq;obtain ⟨hcwq,hfwq,hzwq⟩:=Qc.rules hq;try simp only [World.size_alloc] at hzwq
  obtain ⟨hcbwq,hfbwq,hzbwq⟩:=Qc.rules (show Qc W2 wq from Qu);clear hcwq hfwq;have HO : Hid (x.1.of d = _):=Qjs x.1 d;have hxok:=x.2;have hx1:=hxok.f1;have hx2:=hxok.f2;clear hxok;generalize ((x.1.y : Int) == d.y && (x.1.n == d.m && x.1.s == d.s)) = f at *;have hEq:=hE2.trans hq;have b4q:=Ap b42 hq;have b5q:=Ap b52 hq;have hKq:=hKp.trans (Y4.of_ext hq hE2.size);have hFq:=hKf.trans (Qa0 hq);clear m0 m1 m2 hl1;cases f
  ·gi_wp2
   exact ⟨hFq,hKq,hEq,b4q,by simpa using b5q,by rw [V0];exact Qln hN HO.out⟩
  ·have q4:=b4q.cell;have q5:=b5q.cell;have f4:=b4q.frozen;have f5:=b5q.frozen;have hdq:=hd2.ext hq;clear e0 e1 e2 e3 hd2 hcbwq hfbwq;have e3:=hdq.cell 3;simp at e3;have hl4:=b4q.lt;have hl5:=b5q.lt;have hld:=hdq.lt
   gi_upto_region 6 with (fail)
   have hmix:=mixed;have HS : Hid (IntKind.i64.wrap (IntKind.i64.wrap (x.1.first + d.d) - 1) = x.1.first + d.d - 1):=by unfold Hid;rw [IntKind.wrap_i64,IntKind.wrap_i64];omega
   have hEs:=fun u v => ((hEq.setCell (p:=⟨s + 1 + 1,0,none⟩) (show wd.heap.size ≤ s + 1 + 1 by omega) u).setCell (p:=⟨s + 1 + 1 + 1,0,none⟩) (show wd.heap.size ≤ s + 1 + 1 + 1 by omega) v).drew
   have hBs:=fun u v => Qec b4q b5q Qa u v
   have hFs:=fun u v => (((hFq.trans ((KeepsOthers.setCell _ ⟨s + 1 + 1,0,none⟩ u).from _)).trans ((KeepsOthers.setCell _ ⟨s + 1 + 1 + 1,0,none⟩ v).from _)).trans ((KeepsOthers.drew _).from _))
   gi_region_with_o (fail)
   all_goals
    gi_wp2
    refine ⟨hFs _ _,hEs _ _,(Qt,x),?_,?_,rfl,rfl,hN,HO.out⟩
    ·rw [← HS.out];exact (hBs _ _).1
    ·rw [List.length_append];exact (hBs _ _).2
 case done =>
  rintro D xs W hD hxs ⟨hE,b4,b5,hN⟩ hK;have hc4:=b4.cell;have hf4:=b4.frozen;have hc5:=b5.cell;have hf5:=b5.frozen;rw [hxs] at hN;have HN:=zh (Qlt hN);clear hN hxs;go_wp2;have hK2 : ((W.setCell ⟨s + 1 + 1,0,none⟩ (.int .i64 0)).setCell ⟨s + 1 + 1 + 1,0,none⟩ (.int .i64 0)).heap[D]? = some (.deferred (some [])):=((KeepsOthers.setCell W ⟨s + 1 + 1,0,none⟩ (.int .i64 0)).trans (KeepsOthers.setCell _ ⟨s + 1 + 1 + 1,0,none⟩ (.int .i64 0))).same D _ hK rfl;have hB2:=Qec b4 b5 Qa (.int .i64 0) (.int .i64 0);have hE2 : Qc wd ((W.setCell ⟨s + 1 + 1,0,none⟩ (.int .i64 0)).setCell ⟨s + 1 + 1 + 1,0,none⟩ (.int .i64 0)):=((hE.setCell (p:=⟨s + 1 + 1,0,none⟩) (show wd.heap.size ≤ s + 1 + 1 by omega) (.int .i64 0)).setCell (p:=⟨s + 1 + 1 + 1,0,none⟩) (show wd.heap.size ≤ s + 1 + 1 + 1 by omega) (.int .i64 0))
  clear hc4 hf4 hc5 hf5;generalize World.setCell _ _ _ = W6 at *;have c4:=(Gx (o':=.deferred none) (show Boxed W6 _ _ _ from hB2.1) hK2 rfl).cell;have c5:=(Gx (o':=.deferred none) (show Boxed W6 _ _ _ from hB2.2) hK2 rfl).cell;refine Qdh hK2 (v:=.tuple #[.int .i64 0,.int .i64 0]) (by simp [results,Tryz.results95,go_sem,c4,c5]) ⟨by rw [HN.out],hEd.trans (hE2.putObj Qa _)⟩
 case stop =>
  rintro D c' Qt W hD hpre ⟨hE,⟨p,x⟩,b4,b5,rfl,rfl,hN,hO⟩ hK;rw [V0] at hpre;have HN:=zh (Qls hN hO hpre);clear hN hpre hO;go_wp2;have c4:=(Gx (o':=.deferred none) b4 hK rfl).cell;have c5:=(Gx (o':=.deferred none) b5 hK rfl).cell;refine Qdh hK (v:=.tuple #[.int .i64 (x.1.first + d.d - 1),.int .i64 ((p.length : Int) + 1)]) (by simp [results,Tryz.results95,go_sem,c4,c5]) ⟨by rw [HN.out,Pw],hEd.trans (hE.putObj Qa _)⟩
end
section
open Go Go.RowKit
theorem J4 (w : World) (t1 : TypeId) (c1 : Array Value) : ∃ v b1,Qc w v ∧ Qb v b1 t1 c1 ∧ w.heap.size ≤ b1 ∧ v = (w.alloc (.cells c1 t1)) ∧ b1 = w.heap.size :=
 ⟨_,_,((Qc.refl _).alloc _),(Qb.new _ _ _),by omega,rfl,rfl⟩
theorem Jy (w : World) (t1 : TypeId) (c1 : Array Value) (t2 : TypeId) (c2 : Array Value) : ∃ v b1 b2,Qc w v ∧ Qb v b1 t1 c1 ∧ Qb v b2 t2 c2 ∧ w.heap.size ≤ b1 ∧ w.heap.size ≤ b2 ∧ b2 ≠ b1 ∧ v = ((w.alloc (.cells c1 t1)).alloc (.cells c2 t2)) ∧ b1 = w.heap.size ∧ b2 = w.heap.size + 1 :=
 ⟨_,_,_,(((Qc.refl _).alloc _).alloc _),((Qb.new _ _ _).alloc _),(Qb.at _ _ _ _ (by simp)),by omega,by omega,by omega,rfl,rfl,rfl⟩
theorem Up (w : World) (t1 : TypeId) (c1 : Array Value) (t2 : TypeId) (c2 : Array Value) (t3 : TypeId) (c3 : Array Value) : ∃ v b1 b2 b3,Qc w v ∧ Qb v b1 t1 c1 ∧ Qb v b2 t2 c2 ∧ Qb v b3 t3 c3 ∧ w.heap.size ≤ b1 ∧ w.heap.size ≤ b2 ∧ w.heap.size ≤ b3 ∧ b2 ≠ b1 ∧ b3 ≠ b1 ∧ b3 ≠ b2 ∧ v = (((w.alloc (.cells c1 t1)).alloc (.cells c2 t2)).alloc (.cells c3 t3)) ∧ b1 = w.heap.size ∧ b2 = w.heap.size + 1 ∧ b3 = w.heap.size + 1 + 1 :=
 ⟨_,_,_,_,((((Qc.refl _).alloc _).alloc _).alloc _),(((Qb.new _ _ _).alloc _).alloc _),((Qb.at _ _ _ _ (by simp)).alloc _),(Qb.at _ _ _ _ (by simp)),by omega,by omega,by omega,by omega,by omega,by omega,rfl,rfl,rfl,rfl⟩
theorem Gi (w : World) (t1 : TypeId) (c1 : Array Value) (t2 : TypeId) (c2 : Array Value) (t3 : TypeId) (c3 : Array Value) (t4 : TypeId) (c4 : Array Value) : ∃ v b1 b2 b3 b4,Qc w v ∧ Qb v b1 t1 c1 ∧ Qb v b2 t2 c2 ∧ Qb v b3 t3 c3 ∧ Qb v b4 t4 c4 ∧ w.heap.size ≤ b1 ∧ w.heap.size ≤ b2 ∧ w.heap.size ≤ b3 ∧ w.heap.size ≤ b4 ∧ b2 ≠ b1 ∧ b3 ≠ b1 ∧ b3 ≠ b2 ∧ b4 ≠ b1 ∧ b4 ≠ b2 ∧ b4 ≠ b3 ∧ v = ((((w.alloc (.cells c1 t1)).alloc (.cells c2 t2)).alloc (.cells c3 t3)).alloc (.cells c4 t4)) ∧ b1 = w.heap.size ∧ b2 = w.heap.size + 1 ∧ b3 = w.heap.size + 1 + 1 ∧ b4 = w.heap.size + 1 + 1 + 1 :=
 ⟨_,_,_,_,_,(((((Qc.refl _).alloc _).alloc _).alloc _).alloc _),((((Qb.new _ _ _).alloc _).alloc _).alloc _),(((Qb.at _ _ _ _ (by simp)).alloc _).alloc _),((Qb.at _ _ _ _ (by simp)).alloc _),(Qb.at _ _ _ _ (by simp)),by omega,by omega,by omega,by omega,by omega,by omega,by omega,by omega,by omega,by omega,rfl,rfl,rfl,rfl,rfl⟩
theorem Wx {p : Prop} (h : p:=by repeat (first | (refine Qb.at _ _ _ _ ?_;(simp;done)) | refine Qb.alloc ?_ _)) : p:=h
theorem Qb.d1 {W : World} {b : Nat} {t : TypeId} {v0 : Value} (h : Qb W b t #[v0]) : W.cell? ⟨b,0,none⟩ = some v0 ∧ b < W.heap.size:=⟨h.cell 0,h.lt⟩
theorem Qb.e1 {W : World} {b : Nat} {t : TypeId} {v0 : Value} (h : Qb W b t #[v0]) : W.frozen? ⟨b,0,none⟩ = false ∧ W.cell? ⟨b,0,none⟩ = some v0 ∧ b < W.heap.size:=⟨h.frozen 0,h.cell 0,h.lt⟩
theorem Qb.d2 {W : World} {b : Nat} {t : TypeId} {v0 v1 : Value} (h : Qb W b t #[v0,v1]) : W.cell? ⟨b,0,none⟩ = some v0 ∧ W.cell? ⟨b,1,none⟩ = some v1 ∧ b < W.heap.size:=⟨h.cell 0,h.cell 1,h.lt⟩
theorem Qb.e2 {W : World} {b : Nat} {t : TypeId} {v0 v1 : Value} (h : Qb W b t #[v0,v1]) : W.frozen? ⟨b,0,none⟩ = false ∧ W.frozen? ⟨b,1,none⟩ = false ∧ W.cell? ⟨b,0,none⟩ = some v0 ∧ W.cell? ⟨b,1,none⟩ = some v1 ∧ b < W.heap.size:=⟨h.frozen 0,h.frozen 1,h.cell 0,h.cell 1,h.lt⟩
theorem Qb.d3 {W : World} {b : Nat} {t : TypeId} {v0 v1 v2 : Value} (h : Qb W b t #[v0,v1,v2]) : W.cell? ⟨b,0,none⟩ = some v0 ∧ W.cell? ⟨b,1,none⟩ = some v1 ∧ W.cell? ⟨b,2,none⟩ = some v2 ∧ b < W.heap.size:=⟨h.cell 0,h.cell 1,h.cell 2,h.lt⟩
theorem Qb.e3 {W : World} {b : Nat} {t : TypeId} {v0 v1 v2 : Value} (h : Qb W b t #[v0,v1,v2]) : W.frozen? ⟨b,0,none⟩ = false ∧ W.frozen? ⟨b,1,none⟩ = false ∧ W.frozen? ⟨b,2,none⟩ = false ∧ W.cell? ⟨b,0,none⟩ = some v0 ∧ W.cell? ⟨b,1,none⟩ = some v1 ∧ W.cell? ⟨b,2,none⟩ = some v2 ∧ b < W.heap.size:=⟨h.frozen 0,h.frozen 1,h.frozen 2,h.cell 0,h.cell 1,h.cell 2,h.lt⟩
theorem Qb.d4 {W : World} {b : Nat} {t : TypeId} {v0 v1 v2 v3 : Value} (h : Qb W b t #[v0,v1,v2,v3]) : W.cell? ⟨b,0,none⟩ = some v0 ∧ W.cell? ⟨b,1,none⟩ = some v1 ∧ W.cell? ⟨b,2,none⟩ = some v2 ∧ W.cell? ⟨b,3,none⟩ = some v3 ∧ b < W.heap.size:=⟨h.cell 0,h.cell 1,h.cell 2,h.cell 3,h.lt⟩
theorem Qb.e4 {W : World} {b : Nat} {t : TypeId} {v0 v1 v2 v3 : Value} (h : Qb W b t #[v0,v1,v2,v3]) : W.frozen? ⟨b,0,none⟩ = false ∧ W.frozen? ⟨b,1,none⟩ = false ∧ W.frozen? ⟨b,2,none⟩ = false ∧ W.frozen? ⟨b,3,none⟩ = false ∧ W.cell? ⟨b,0,none⟩ = some v0 ∧ W.cell? ⟨b,1,none⟩ = some v1 ∧ W.cell? ⟨b,2,none⟩ = some v2 ∧ W.cell? ⟨b,3,none⟩ = some v3 ∧ b < W.heap.size:=⟨h.frozen 0,h.frozen 1,h.frozen 2,h.frozen 3,h.cell 0,h.cell 1,h.cell 2,h.cell 3,h.lt⟩
theorem Qb.d5 {W : World} {b : Nat} {t : TypeId} {v0 v1 v2 v3 v4 : Value} (h : Qb W b t #[v0,v1,v2,v3,v4]) : W.cell? ⟨b,0,none⟩ = some v0 ∧ W.cell? ⟨b,1,none⟩ = some v1 ∧ W.cell? ⟨b,2,none⟩ = some v2 ∧ W.cell? ⟨b,3,none⟩ = some v3 ∧ W.cell? ⟨b,4,none⟩ = some v4 ∧ b < W.heap.size:=⟨h.cell 0,h.cell 1,h.cell 2,h.cell 3,h.cell 4,h.lt⟩
theorem Qb.e5 {W : World} {b : Nat} {t : TypeId} {v0 v1 v2 v3 v4 : Value} (h : Qb W b t #[v0,v1,v2,v3,v4]) : W.frozen? ⟨b,0,none⟩ = false ∧ W.frozen? ⟨b,1,none⟩ = false ∧ W.frozen? ⟨b,2,none⟩ = false ∧ W.frozen? ⟨b,3,none⟩ = false ∧ W.frozen? ⟨b,4,none⟩ = false ∧ W.cell? ⟨b,0,none⟩ = some v0 ∧ W.cell? ⟨b,1,none⟩ = some v1 ∧ W.cell? ⟨b,2,none⟩ = some v2 ∧ W.cell? ⟨b,3,none⟩ = some v3 ∧ W.cell? ⟨b,4,none⟩ = some v4 ∧ b < W.heap.size:=⟨h.frozen 0,h.frozen 1,h.frozen 2,h.frozen 3,h.frozen 4,h.cell 0,h.cell 1,h.cell 2,h.cell 3,h.cell 4,h.lt⟩
theorem Qb.d6 {W : World} {b : Nat} {t : TypeId} {v0 v1 v2 v3 v4 v5 : Value} (h : Qb W b t #[v0,v1,v2,v3,v4,v5]) : W.cell? ⟨b,0,none⟩ = some v0 ∧ W.cell? ⟨b,1,none⟩ = some v1 ∧ W.cell? ⟨b,2,none⟩ = some v2 ∧ W.cell? ⟨b,3,none⟩ = some v3 ∧ W.cell? ⟨b,4,none⟩ = some v4 ∧ W.cell? ⟨b,5,none⟩ = some v5 ∧ b < W.heap.size:=⟨h.cell 0,h.cell 1,h.cell 2,h.cell 3,h.cell 4,h.cell 5,h.lt⟩
theorem Qb.e6 {W : World} {b : Nat} {t : TypeId} {v0 v1 v2 v3 v4 v5 : Value} (h : Qb W b t #[v0,v1,v2,v3,v4,v5]) : W.frozen? ⟨b,0,none⟩ = false ∧ W.frozen? ⟨b,1,none⟩ = false ∧ W.frozen? ⟨b,2,none⟩ = false ∧ W.frozen? ⟨b,3,none⟩ = false ∧ W.frozen? ⟨b,4,none⟩ = false ∧ W.frozen? ⟨b,5,none⟩ = false ∧ W.cell? ⟨b,0,none⟩ = some v0 ∧ W.cell? ⟨b,1,none⟩ = some v1 ∧ W.cell? ⟨b,2,none⟩ = some v2 ∧ W.cell? ⟨b,3,none⟩ = some v3 ∧ W.cell? ⟨b,4,none⟩ = some v4 ∧ W.cell? ⟨b,5,none⟩ = some v5 ∧ b < W.heap.size:=⟨h.frozen 0,h.frozen 1,h.frozen 2,h.frozen 3,h.frozen 4,h.frozen 5,h.cell 0,h.cell 1,h.cell 2,h.cell 3,h.cell 4,h.cell 5,h.lt⟩
theorem Qb.d7 {W : World} {b : Nat} {t : TypeId} {v0 v1 v2 v3 v4 v5 v6 : Value} (h : Qb W b t #[v0,v1,v2,v3,v4,v5,v6]) : W.cell? ⟨b,0,none⟩ = some v0 ∧ W.cell? ⟨b,1,none⟩ = some v1 ∧ W.cell? ⟨b,2,none⟩ = some v2 ∧ W.cell? ⟨b,3,none⟩ = some v3 ∧ W.cell? ⟨b,4,none⟩ = some v4 ∧ W.cell? ⟨b,5,none⟩ = some v5 ∧ W.cell? ⟨b,6,none⟩ = some v6 ∧ b < W.heap.size:=⟨h.cell 0,h.cell 1,h.cell 2,h.cell 3,h.cell 4,h.cell 5,h.cell 6,h.lt⟩
theorem Qb.e7 {W : World} {b : Nat} {t : TypeId} {v0 v1 v2 v3 v4 v5 v6 : Value} (h : Qb W b t #[v0,v1,v2,v3,v4,v5,v6]) : W.frozen? ⟨b,0,none⟩ = false ∧ W.frozen? ⟨b,1,none⟩ = false ∧ W.frozen? ⟨b,2,none⟩ = false ∧ W.frozen? ⟨b,3,none⟩ = false ∧ W.frozen? ⟨b,4,none⟩ = false ∧ W.frozen? ⟨b,5,none⟩ = false ∧ W.frozen? ⟨b,6,none⟩ = false ∧ W.cell? ⟨b,0,none⟩ = some v0 ∧ W.cell? ⟨b,1,none⟩ = some v1 ∧ W.cell? ⟨b,2,none⟩ = some v2 ∧ W.cell? ⟨b,3,none⟩ = some v3 ∧ W.cell? ⟨b,4,none⟩ = some v4 ∧ W.cell? ⟨b,5,none⟩ = some v5 ∧ W.cell? ⟨b,6,none⟩ = some v6 ∧ b < W.heap.size:=⟨h.frozen 0,h.frozen 1,h.frozen 2,h.frozen 3,h.frozen 4,h.frozen 5,h.frozen 6,h.cell 0,h.cell 1,h.cell 2,h.cell 3,h.cell 4,h.cell 5,h.cell 6,h.lt⟩
theorem Qb.d8 {W : World} {b : Nat} {t : TypeId} {v0 v1 v2 v3 v4 v5 v6 v7 : Value} (h : Qb W b t #[v0,v1,v2,v3,v4,v5,v6,v7]) : W.cell? ⟨b,0,none⟩ = some v0 ∧ W.cell? ⟨b,1,none⟩ = some v1 ∧ W.cell? ⟨b,2,none⟩ = some v2 ∧ W.cell? ⟨b,3,none⟩ = some v3 ∧ W.cell? ⟨b,4,none⟩ = some v4 ∧ W.cell? ⟨b,5,none⟩ = some v5 ∧ W.cell? ⟨b,6,none⟩ = some v6 ∧ W.cell? ⟨b,7,none⟩ = some v7 ∧ b < W.heap.size:=⟨h.cell 0,h.cell 1,h.cell 2,h.cell 3,h.cell 4,h.cell 5,h.cell 6,h.cell 7,h.lt⟩
theorem Qb.e8 {W : World} {b : Nat} {t : TypeId} {v0 v1 v2 v3 v4 v5 v6 v7 : Value} (h : Qb W b t #[v0,v1,v2,v3,v4,v5,v6,v7]) : W.frozen? ⟨b,0,none⟩ = false ∧ W.frozen? ⟨b,1,none⟩ = false ∧ W.frozen? ⟨b,2,none⟩ = false ∧ W.frozen? ⟨b,3,none⟩ = false ∧ W.frozen? ⟨b,4,none⟩ = false ∧ W.frozen? ⟨b,5,none⟩ = false ∧ W.frozen? ⟨b,6,none⟩ = false ∧ W.frozen? ⟨b,7,none⟩ = false ∧ W.cell? ⟨b,0,none⟩ = some v0 ∧ W.cell? ⟨b,1,none⟩ = some v1 ∧ W.cell? ⟨b,2,none⟩ = some v2 ∧ W.cell? ⟨b,3,none⟩ = some v3 ∧ W.cell? ⟨b,4,none⟩ = some v4 ∧ W.cell? ⟨b,5,none⟩ = some v5 ∧ W.cell? ⟨b,6,none⟩ = some v6 ∧ W.cell? ⟨b,7,none⟩ = some v7 ∧ b < W.heap.size:=⟨h.frozen 0,h.frozen 1,h.frozen 2,h.frozen 3,h.frozen 4,h.frozen 5,h.frozen 6,h.frozen 7,h.cell 0,h.cell 1,h.cell 2,h.cell 3,h.cell 4,h.cell 5,h.cell 6,h.cell 7,h.lt⟩
theorem Qb.d10 {W : World} {b : Nat} {t : TypeId} {v0 v1 v2 v3 v4 v5 v6 v7 v8 v9 : Value} (h : Qb W b t #[v0,v1,v2,v3,v4,v5,v6,v7,v8,v9]) : W.cell? ⟨b,0,none⟩ = some v0 ∧ W.cell? ⟨b,1,none⟩ = some v1 ∧ W.cell? ⟨b,2,none⟩ = some v2 ∧ W.cell? ⟨b,3,none⟩ = some v3 ∧ W.cell? ⟨b,4,none⟩ = some v4 ∧ W.cell? ⟨b,5,none⟩ = some v5 ∧ W.cell? ⟨b,6,none⟩ = some v6 ∧ W.cell? ⟨b,7,none⟩ = some v7 ∧ W.cell? ⟨b,8,none⟩ = some v8 ∧ W.cell? ⟨b,9,none⟩ = some v9 ∧ b < W.heap.size:=⟨h.cell 0,h.cell 1,h.cell 2,h.cell 3,h.cell 4,h.cell 5,h.cell 6,h.cell 7,h.cell 8,h.cell 9,h.lt⟩
theorem Qb.d11 {W : World} {b : Nat} {t : TypeId} {v0 v1 v2 v3 v4 v5 v6 v7 v8 v9 v10 : Value} (h : Qb W b t #[v0,v1,v2,v3,v4,v5,v6,v7,v8,v9,v10]) : W.cell? ⟨b,0,none⟩ = some v0 ∧ W.cell? ⟨b,1,none⟩ = some v1 ∧ W.cell? ⟨b,2,none⟩ = some v2 ∧ W.cell? ⟨b,3,none⟩ = some v3 ∧ W.cell? ⟨b,4,none⟩ = some v4 ∧ W.cell? ⟨b,5,none⟩ = some v5 ∧ W.cell? ⟨b,6,none⟩ = some v6 ∧ W.cell? ⟨b,7,none⟩ = some v7 ∧ W.cell? ⟨b,8,none⟩ = some v8 ∧ W.cell? ⟨b,9,none⟩ = some v9 ∧ W.cell? ⟨b,10,none⟩ = some v10 ∧ b < W.heap.size:=⟨h.cell 0,h.cell 1,h.cell 2,h.cell 3,h.cell 4,h.cell 5,h.cell 6,h.cell 7,h.cell 8,h.cell 9,h.cell 10,h.lt⟩
theorem Qb.d12 {W : World} {b : Nat} {t : TypeId} {v0 v1 v2 v3 v4 v5 v6 v7 v8 v9 v10 v11 : Value} (h : Qb W b t #[v0,v1,v2,v3,v4,v5,v6,v7,v8,v9,v10,v11]) : W.cell? ⟨b,0,none⟩ = some v0 ∧ W.cell? ⟨b,1,none⟩ = some v1 ∧ W.cell? ⟨b,2,none⟩ = some v2 ∧ W.cell? ⟨b,3,none⟩ = some v3 ∧ W.cell? ⟨b,4,none⟩ = some v4 ∧ W.cell? ⟨b,5,none⟩ = some v5 ∧ W.cell? ⟨b,6,none⟩ = some v6 ∧ W.cell? ⟨b,7,none⟩ = some v7 ∧ W.cell? ⟨b,8,none⟩ = some v8 ∧ W.cell? ⟨b,9,none⟩ = some v9 ∧ W.cell? ⟨b,10,none⟩ = some v10 ∧ W.cell? ⟨b,11,none⟩ = some v11 ∧ b < W.heap.size:=⟨h.cell 0,h.cell 1,h.cell 2,h.cell 3,h.cell 4,h.cell 5,h.cell 6,h.cell 7,h.cell 8,h.cell 9,h.cell 10,h.cell 11,h.lt⟩
theorem Qb.e12 {W : World} {b : Nat} {t : TypeId} {v0 v1 v2 v3 v4 v5 v6 v7 v8 v9 v10 v11 : Value} (h : Qb W b t #[v0,v1,v2,v3,v4,v5,v6,v7,v8,v9,v10,v11]) : W.frozen? ⟨b,0,none⟩ = false ∧ W.frozen? ⟨b,1,none⟩ = false ∧ W.frozen? ⟨b,2,none⟩ = false ∧ W.frozen? ⟨b,3,none⟩ = false ∧ W.frozen? ⟨b,4,none⟩ = false ∧ W.frozen? ⟨b,5,none⟩ = false ∧ W.frozen? ⟨b,6,none⟩ = false ∧ W.frozen? ⟨b,7,none⟩ = false ∧ W.frozen? ⟨b,8,none⟩ = false ∧ W.frozen? ⟨b,9,none⟩ = false ∧ W.frozen? ⟨b,10,none⟩ = false ∧ W.frozen? ⟨b,11,none⟩ = false ∧ W.cell? ⟨b,0,none⟩ = some v0 ∧ W.cell? ⟨b,1,none⟩ = some v1 ∧ W.cell? ⟨b,2,none⟩ = some v2 ∧ W.cell? ⟨b,3,none⟩ = some v3 ∧ W.cell? ⟨b,4,none⟩ = some v4 ∧ W.cell? ⟨b,5,none⟩ = some v5 ∧ W.cell? ⟨b,6,none⟩ = some v6 ∧ W.cell? ⟨b,7,none⟩ = some v7 ∧ W.cell? ⟨b,8,none⟩ = some v8 ∧ W.cell? ⟨b,9,none⟩ = some v9 ∧ W.cell? ⟨b,10,none⟩ = some v10 ∧ W.cell? ⟨b,11,none⟩ = some v11 ∧ b < W.heap.size:=⟨h.frozen 0,h.frozen 1,h.frozen 2,h.frozen 3,h.frozen 4,h.frozen 5,h.frozen 6,h.frozen 7,h.frozen 8,h.frozen 9,h.frozen 10,h.frozen 11,h.cell 0,h.cell 1,h.cell 2,h.cell 3,h.cell 4,h.cell 5,h.cell 6,h.cell 7,h.cell 8,h.cell 9,h.cell 10,h.cell 11,h.lt⟩
end
section
open Go Go.RowKit
attribute [local go_sem] Z8
theorem Es (a b : Nat) (hb : b < 18446744073709551616) (w : World) : Calls Tryz.prog 161 #[.int .u64 (a : Int),.int .u64 (b : Int)] w fun e w' => e = .returned (.int .u64 (Nat.gcd a b : Int)) ∧ Qc w w':=by
 obtain ⟨G,hG⟩:=Qe (Nat.gcd a b);rw [← hG];have HG:=zh hG;clear hG
 go_enter Tryz.func161,Tryz.ntmps161
 go_wp2
 go_loopw [0,1] (fun av bv wr => ∃ a b : Nat,av = .int .u64 (a : Int) ∧ bv = .int .u64 (b : Int) ∧ Hid (G = Nat.gcd a b) ∧ b < 18446744073709551616 ∧ Qc w wr) (fun _ bv _ => (intOf bv).toNat)
 case atStart => exact ⟨a,b,rfl,rfl,HG,hb,Qc.refl _⟩
 case round =>
  clear HG hb;obtain ⟨x,y,rfl,rfl,hG,hy,hE⟩:=hrel;obtain ⟨wo,rfl⟩:=Qe wr;by_cases h0 : y = 0
  ·subst h0;go_wp2;go_ret;exact ⟨by rw [hG.out];simp,hE⟩
  ·have h0b : ((y : Int) != 0) = true := by rw [bne, zb Qa]; rfl
   have h0c : ((y : Int) == 0) = false:=zb Qa;go_upto_region 2 with fail
   refine Qy wo ?_;intro wn hwn;obtain ⟨_,_,_,_⟩:=Qv wo hwn;have hlt : x % y < y:=Nat.mod_lt _ Qa;go_wp2;exact ⟨⟨y,x % y,rfl,by simp,by unfold Hid;rw [hG.out,Nat.gcd_comm x y,Nat.gcd_rec];exact Nat.gcd_comm _ _,Qa,hE.trans hwn⟩,zi⟩
theorem Vm (n : Int) (h1 : -9223372036854775808 ≤ n) (h2 : n ≤ 9223372036854775807) (w : World) : Calls Tryz.prog 162 #[.int .i64 n] w fun e w' => e = .returned (.int .u64 (n.natAbs : Int)) ∧ Qc w w':=by
 by_cases h : n < 0
 ·have hb : decide (n < 0) = true:=zt h
  go_enter Tryz.func162,Tryz.ntmps162
  go_wp2;go_ret;refine ⟨?_,Qu⟩
  simp
  omega
 ·have hb : decide (n < 0) = false:=zf h
  go_enter Tryz.func162,Tryz.ntmps162
  go_wp2;go_ret;refine ⟨?_,Qu⟩
  simp
  omega
set_option maxHeartbeats 2000000 in
theorem Vf (n d : Int) (h1 : -9223372036854775808 ≤ n) (h2 : n ≤ 9223372036854775807) (h3 : -9223372036854775808 ≤ d) (h4 : d ≤ 9223372036854775807) (w : World) :
  Calls Tryz.prog 121 #[.agg #[.int .i64 n,.int .i64 d]] w fun e w' => e = .returned (.bool (Rt.ok ⟨n,d⟩)) ∧ Qc w w':=by
 have N1:=fun w => Vm n h1 h2 w
 have N2:=fun w => Vm d h3 h4 w
 have N3:=fun w => Es n.natAbs d.natAbs Qa w
 have HR : Hid (Rt.ok ⟨n,d⟩ = (decide (1 ≤ d) && decide (d ≤ 1048576) && decide (-1099511627776 ≤ n) && decide (n ≤ 1099511627776) && decide (Nat.gcd n.natAbs d.natAbs = 1))):=rfl;generalize Rt.ok ⟨n,d⟩ = r at *;clear h1 h2 h3 h4;by_cases a1 : 1 ≤ d;rotate_left
 ·rw [zf a1] at HR;simp only [Bool.false_and] at HR;have a1b : decide (1 ≤ d) = false:=zf a1
  go_enter Tryz.func121,Tryz.ntmps121
  go_upto_region 1 with fail
  obtain ⟨v,hv⟩:=Qe (w.alloc (.cells #[.int .i64 n,.int .i64 d] 65));rw [← hv];have E : Qc w v:=by rw [hv];exact (Qc.refl _).alloc _
  have B1 : Qb v w.heap.size 65 #[.int .i64 n,.int .i64 d]:=by rw [hv];exact Qb.new _ _ _
  clear hv;generalize w.heap.size = b1 at *;obtain ⟨k0,k1,lk⟩:=Qb.d2 B1;have m1:=fun x1 => N1 x1
  have m2:=fun x1 => N2 x1
  have m3:=fun x1 => N3 x1
  refine Qy v ?_;intro w2 h;clear m1 m2 m3;obtain ⟨hcbw2,hfbw2,hzbw2,hzw2⟩:=Qv v h;go_wp2;go_ret;exact ⟨by rw [HR.out];rfl,E.trans h⟩
 have a1b : decide (1 ≤ d) = true:=zt a1;rw [a1b] at HR;by_cases a2 : d ≤ 1048576;rotate_left
 ·rw [zf a2] at HR;simp only [Bool.and_false,Bool.false_and] at HR;have a2b : decide (d ≤ 1048576) = false:=zf a2
  go_enter Tryz.func121,Tryz.ntmps121
  go_upto_region 1 with fail
  obtain ⟨v,hv⟩:=Qe (w.alloc (.cells #[.int .i64 n,.int .i64 d] 65));rw [← hv];have E : Qc w v:=by rw [hv];exact (Qc.refl _).alloc _
  have B1 : Qb v w.heap.size 65 #[.int .i64 n,.int .i64 d]:=by rw [hv];exact Qb.new _ _ _
  clear hv;generalize w.heap.size = b1 at *;obtain ⟨k0,k1,lk⟩:=Qb.d2 B1;have m1:=fun x1 => N1 x1
  have m2:=fun x1 => N2 x1
  have m3:=fun x1 => N3 x1
  refine Qy v ?_;intro w2 h;clear m1 m2 m3;obtain ⟨hcbw2,hfbw2,hzbw2,hzw2⟩:=Qv v h;go_wp2;go_ret;exact ⟨by rw [HR.out];rfl,E.trans h⟩
 have a2b : decide (d ≤ 1048576) = true:=zt a2;rw [a2b] at HR;by_cases a3 : -1099511627776 ≤ n;rotate_left
 ·rw [zf a3] at HR;simp only [Bool.and_false,Bool.false_and] at HR;have a3b : decide (-1099511627776 ≤ n) = false:=zf a3
  go_enter Tryz.func121,Tryz.ntmps121
  go_upto_region 1 with fail
  obtain ⟨v,hv⟩:=Qe (w.alloc (.cells #[.int .i64 n,.int .i64 d] 65));rw [← hv];have E : Qc w v:=by rw [hv];exact (Qc.refl _).alloc _
  have B1 : Qb v w.heap.size 65 #[.int .i64 n,.int .i64 d]:=by rw [hv];exact Qb.new _ _ _
  clear hv;generalize w.heap.size = b1 at *;obtain ⟨k0,k1,lk⟩:=Qb.d2 B1;have m1:=fun x1 => N1 x1
  have m2:=fun x1 => N2 x1
  have m3:=fun x1 => N3 x1
  refine Qy v ?_;intro w2 h;clear m1 m2 m3;obtain ⟨hcbw2,hfbw2,hzbw2,hzw2⟩:=Qv v h;go_wp2;go_ret;exact ⟨by rw [HR.out];rfl,E.trans h⟩
 have a3b : decide (-1099511627776 ≤ n) = true:=zt a3;rw [a3b] at HR;by_cases a4 : n ≤ 1099511627776;rotate_left
 ·rw [zf a4] at HR;simp only [Bool.and_false,Bool.false_and] at HR;have a4b : decide (n ≤ 1099511627776) = false:=zf a4
  go_enter Tryz.func121,Tryz.ntmps121
  go_upto_region 1 with fail
  obtain ⟨v,hv⟩:=Qe (w.alloc (.cells #[.int .i64 n,.int .i64 d] 65));rw [← hv];have E : Qc w v:=by rw [hv];exact (Qc.refl _).alloc _
  have B1 : Qb v w.heap.size 65 #[.int .i64 n,.int .i64 d]:=by rw [hv];exact Qb.new _ _ _
  clear hv;generalize w.heap.size = b1 at *;obtain ⟨k0,k1,lk⟩:=Qb.d2 B1;have m1:=fun x1 => N1 x1
  have m2:=fun x1 => N2 x1
  have m3:=fun x1 => N3 x1
  refine Qy v ?_;intro w2 h;clear m1 m2 m3;obtain ⟨hcbw2,hfbw2,hzbw2,hzw2⟩:=Qv v h;go_wp2;go_ret;exact ⟨by rw [HR.out];rfl,E.trans h⟩
 have a4b : decide (n ≤ 1099511627776) = true:=zt a4;rw [a4b] at HR;simp only [Bool.true_and] at HR;by_cases hg : Nat.gcd n.natAbs d.natAbs = 1
 ·rw [zt hg] at HR;rw [hg] at N3
  go_enter Tryz.func121,Tryz.ntmps121
  go_upto_region 1 with fail
  obtain ⟨v,hv⟩:=Qe (w.alloc (.cells #[.int .i64 n,.int .i64 d] 65));rw [← hv];have E : Qc w v:=by rw [hv];exact (Qc.refl _).alloc _
  have B1 : Qb v w.heap.size 65 #[.int .i64 n,.int .i64 d]:=by rw [hv];exact Qb.new _ _ _
  clear hv;generalize w.heap.size = b1 at *;obtain ⟨k0,k1,lk⟩:=Qb.d2 B1;have m1:=fun x1 => N1 x1
  have m2:=fun x1 => N2 x1
  have m3:=fun x1 => N3 x1
  refine Qy v ?_;intro w2 h;clear m1 m2 m3;obtain ⟨hcbw2,hfbw2,hzbw2,hzw2⟩:=Qv v h;go_wp2;go_ret;exact ⟨by rw [HR.out];rfl,E.trans h⟩
 ·rw [zf hg] at HR;have hgb : (((Nat.gcd n.natAbs d.natAbs : Nat) : Int) == 1) = false:=zb Qa;generalize Nat.gcd n.natAbs d.natAbs = gg at *
  go_enter Tryz.func121,Tryz.ntmps121
  go_upto_region 1 with fail
  obtain ⟨v,hv⟩:=Qe (w.alloc (.cells #[.int .i64 n,.int .i64 d] 65));rw [← hv];have E : Qc w v:=by rw [hv];exact (Qc.refl _).alloc _
  have B1 : Qb v w.heap.size 65 #[.int .i64 n,.int .i64 d]:=by rw [hv];exact Qb.new _ _ _
  clear hv;generalize w.heap.size = b1 at *;obtain ⟨k0,k1,lk⟩:=Qb.d2 B1;have m1:=fun x1 => N1 x1
  have m2:=fun x1 => N2 x1
  have m3:=fun x1 => N3 x1
  refine Qy v ?_;intro w2 h;clear m1 m2 m3;obtain ⟨hcbw2,hfbw2,hzbw2,hzw2⟩:=Qv v h;go_wp2;go_ret;exact ⟨by rw [HR.out];rfl,E.trans h⟩
end
section
open Go Go.RowKit Go.Shelf
attribute [local go_sem] Z8
theorem Qby (x y : Nat) (hx : x < 18446744073709551616) (hy : y < 18446744073709551616) (w : World) :
  Calls Tryz.prog 189 #[.int .u64 x,.int .u64 y] w fun e w' => e = .returned (.tuple #[.int .u64 ((x * y / 18446744073709551616 : Nat) : Int),.int .u64 ((x * y % 18446744073709551616 : Nat) : Int)]) ∧ w = w' :=
 (Tryz.bits_Mul64 x y hx hy w).mono fun _ _ ⟨h1,h2⟩ => ⟨h1,h2.symm⟩
set_option maxHeartbeats 2000000 in
theorem Qeq (A : OA) (n ca : Nat) (f : Nat → Nat) (M : Nat) (hM : M < 18446744073709551616) (hM1 : 1 ≤ M) (hf : ∀ i,i < n → 1 ≤ f i) (hf2 : ∀ i,i < n → f i < 18446744073709551616) (w : World) (hA : Qm w A n 1 (fun i => [.int .u64 (f i : Int)])) (hn : n ≤ 9223372036854775807) :
  Calls Tryz.prog 187 #[.slice A n ca,.int .u64 (M : Int)] w fun e w' => e = .returned (.tuple #[.int .u64 (((if upTo f n ≤ M then upTo f n else 0) : Nat) : Int),.bool (decide (upTo f n ≤ M))]) ∧ Qc w w':=by
 obtain ⟨R,hR⟩ : ∃ R : Nat × Bool,R = (if upTo f n ≤ M then upTo f n else 0,decide (upTo f n ≤ M)):=⟨_,rfl⟩;have HR:=zh hR;rw [show (if upTo f n ≤ M then upTo f n else 0) = R.1 by rw [hR],show decide (upTo f n ≤ M) = R.2 by rw [hR]];clear hR;obtain ⟨r1,r2⟩:=R
 go_enter Tryz.func187,Tryz.ntmps187
 go_wp2
 go_loopw [6,13] (fun p i wr => ∃ k : Nat,k ≤ n ∧ i = .int .i64 k ∧ ∃ q : Nat,p = .int .u64 (q : Int) ∧ Hid (q = upTo f k) ∧ q ≤ M ∧ Qc w wr) (fun _ i _ => n - (intOf i).toNat)
 case atStart => exact ⟨0,Nat.zero_le _,rfl,1,rfl,rfl,hM1,Qc.refl _⟩
 case round =>
  obtain ⟨k,hk,rfl,q,rfl,hq,hqM,hE⟩:=hrel;obtain ⟨wo,rfl⟩:=Qe wr;obtain ⟨hcwo,hfwo,hzwo⟩:=Qc.rules hE;try simp only [World.size_alloc] at hzwo
  obtain ⟨hcbwo,hfbwo,hzbwo⟩:=Qc.rules (show Qc w wo from Qu);clear hcwo hfwo;by_cases hlt : k < n
  ·obtain ⟨b, off, rfl, hb, hc⟩ := hA Qa;have c0 : w.cell? ⟨b, off + k, none⟩ = some (.int .u64 (f k : Int)) := by simpa using hc k 0 _ hlt rfl
   have F1:=hf k hlt;have F2:=hf2 k hlt;have hs : Hid (upTo f (k + 1) = q * f k):=by unfold Hid;rw [hq.out];rfl
   have hmn:=Qoa hf (k + 1) n Qa (Nat.le_refl _);have NM:=fun w => Qby q (f k) Qa F2 w
   have HM:=zh hmn;clear hmn hf hf2 hc hA;generalize f k = x at *;generalize q * x = z at *;go_upto_region 6 with (go_at_call 189;refine zc (NM _) ?_;rintro e w' ⟨rfl,rfl⟩)
   by_cases hbig : z ≤ M
   ·have d1 : (z : Int) / 18446744073709551616 = 0:=Qa;have d2 : (z : Int) % 18446744073709551616 = z:=Qa;simp only [d1,d2];clear d1 d2;have g1 : decide ((M : Int) < (z : Int)) = false:=zf Qa;go_wp2;exact ⟨⟨k + 1,Qa,by go_num,z,rfl,hs.out.symm,hbig,Qu⟩,zi⟩
   ·have hno : ¬ upTo f n ≤ M:=by
     have:=HM.out;rw [hs.out] at this;omega
    have hr:=HR.out;rw [if_neg hno,zf hno] at hr;obtain ⟨rfl,rfl⟩:=Prod.mk.inj hr;clear hr hno HR HM hs hq;by_cases hh : (z : Int) / 18446744073709551616 = 0
    ·have d2 : (z : Int) % 18446744073709551616 = z:=Qa;simp only [hh,d2];clear hh d2;have g1 : decide ((M : Int) < (z : Int)) = true:=zt Qa;go_wp2;go_ret2;exact ⟨rfl,Qu⟩
    ·have g0 : (((z : Int) / 18446744073709551616) != 0) = true := by rw [bne, zb hh]; rfl
     clear hh;generalize (z : Int) / 18446744073709551616 = zh at *;generalize (z : Int) % 18446744073709551616 = zl at *;go_wp2;go_ret2;exact ⟨rfl,Qu⟩
  ·obtain rfl : k = n:=Qa;go_wp2;go_ret2;have hr:=HR.out;rw [← hq.out,if_pos hqM,zt hqM] at hr;obtain ⟨rfl,rfl⟩:=Prod.mk.inj hr;exact ⟨rfl,Qu⟩
end
section
open Go Go.RowKit
section
variable {P : Program} {ops : Array Oper} {md : Region.Mode} {C : World → Prop}
theorem Qo3 {Q Q' : Exit → Act → World → Prop} (hQ : ∀ e a w,e ≠ .normal → Q e a w → Q' e a w) {o : Oper} {a : Act} {w : World} {K K' : Act → World → Prop} (h : ∀ a w,K a w → K' a w)
  (hh : o.wp P a w K Q) : o.wp P a w K' Q':=by
 have hL : LetsOut Q → LetsOut Q':=fun ⟨a,w,h⟩ => ⟨a,w,hQ _ _ _ (by simp) h⟩
 unfold Oper.wp at *;generalize (execOp a.eval o).run P w = r at *
 cases r with
 | ok n w' =>
  cases n <;> simp only [Oper.upon] at hh ⊢ <;>
   first
    | exact h _ _ hh
    | exact Calls.mono hh (fun e w'' he => by cases e <;> first | exact h _ _ he | exact hL he | exact hQ _ _ _ (by simp) he)
    | exact Rows.mono hh (fun _ _ he => h _ _ he)
    | exact hh
 | halt x w' => cases x <;> simp only [Oper.upon] at hh ⊢ <;> first | exact hQ _ _ _ (by simp) hh | exact hh
end
end
end Go.Proofs.YtoflcheopfppoaaGreatDoor
