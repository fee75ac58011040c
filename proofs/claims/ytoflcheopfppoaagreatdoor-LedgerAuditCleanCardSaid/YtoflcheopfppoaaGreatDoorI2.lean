/- Walks of the program's functions and plain facts, packed; proved: the lemmas below; no conditions but those that each states. -/
import Derived.Outline
import Derived.Lib.Hide
import Derived.Test.YtoflcheopfppoaaGreatDoorI1
import Derived.Laws.StructEq
import Derived.Maps.Own
import Derived.Maps.Views
import Derived.DeepKeys4
import Derived.Sort.CutIn
import Derived.Shelf.Abstract
import Derived.Shelf.RegionOpen
import Derived.Test.YtoflcheopfppoaaGreatDoorShelf
set_option maxRecDepth 100000
set_option maxHeartbeats 4000000
namespace Go.Proofs.YtoflcheopfppoaaGreatDoor
section
open Go Go.RowKit
attribute [local go_sem] Oper.semAt_some
/-- What a round of a loop over the months keeps: what lay in w₀, and each block of years. -/
structure Yw (n₀ : Nat) (W W' : World) : Prop where
 below : Below n₀ W W'
 years : ∀ (k : Nat) (cs : Array Value) (f : Nat × Nat),W.heap[k]? = some (.cells cs 148 f) → W'.heap[k]? = some (.cells cs 148 f)
namespace Yw
variable {n₀ : Nat} {A B C : World}
theorem refl (n₀ : Nat) (W : World) : Yw n₀ W W:=⟨Below.refl _ _,fun _ _ _ h => h⟩
theorem trans (h : Yw n₀ A B) (k : Yw n₀ B C) : Yw n₀ A C:=⟨h.below.trans k.below,fun i cs f hi => k.years i cs f (h.years i cs f hi)⟩
theorem of_ext (e : Qb A B) (hn : n₀ ≤ A.heap.size) : Yw n₀ A B:=⟨e.below.mono hn,fun _ _ _ hi => (e.block (Array.getElem?_eq_some_iff.1 hi).1).trans hi⟩
theorem grown {row : Option Nat} (hg : A.grownBy B row) (hn : n₀ ≤ A.heap.size) (hr : ∀ r,row = some r → n₀ ≤ r ∧ ∃ o,A.heap[r]? = some o ∧ ∀ cs f,o ≠ .cells cs 148 f) : Yw n₀ A B:=by
 refine ⟨(Below.refl n₀ A).grown hg hn (fun r e => (hr r e).1),fun i cs f hi => (hg.block i (Array.getElem?_eq_some_iff.1 hi).1 (fun e => ?_)).trans hi⟩;obtain ⟨_,o,ho,hne⟩:=hr i e.symm;rw [hi] at ho;cases ho;exact hne cs f rfl
theorem box {b : Nat} {t : TypeId} {v : Value} (hb : Boxed A b t v) (ht : t ≠ 148) (hn : n₀ ≤ b) (u : Value) : Yw n₀ A (A.setCell ⟨b,0,none⟩ u) :=
 grown (grownBy_setCell' A b u) (Nat.le_of_lt (Nat.lt_of_le_of_lt hn hb.lt)) (fun r e => by
  cases e;exact ⟨hn,_,hb,fun cs f h => ht (by injection h)⟩)
theorem turn {w : World} (hn : n₀ ≤ w.heap.size) (W : World) (l : Nat) (o o' : Obj) (hl : w.heap.size ≤ l) (h : W.heap[l]? = some o) (hc : o.isCells = false) (_ : o.isWalk = false) : Yw n₀ W (W.putObj l o') :=
 grown (grownBy_putObj' W l o') (by have:=(Array.getElem?_eq_some_iff.1 h).1;omega) (fun r e => by
  cases e;exact ⟨by omega,_,h,fun cs f hh => by rw [hh] at hc;cases hc⟩)
end Yw
theorem Ml {A B : World} (e : Qb A B) : A.grownBy B none:=⟨e.below.os,e.below.tape,e.below.output,e.size,fun _ hk _ => e.block hk⟩
theorem AbidesFrom.ext {β : Type} {B : Nat} {J : β → World → Prop} (h : AbidesFrom B J) {s : β} {W W' : World} (hs : J s W) (e : Qb W W') : J s W':=h s W W' none hs (Ml e) (fun r h => by cases h)
theorem OwnFrom.ext {β : Type} {B : Nat} {J : β → World → Prop} (h : OwnFrom B J) {s : β} {W W' : World} (hs : J s W) (e : Qb W W') : J s W':=h s W W' none hs (Ml e) (fun r h => by cases h)
/-- A month that a loop is handed. -/
abbrev Mo (c : Qd):={ x : It // c.okIt x }
def Mo.its {c : Qd} (l : List (Mo c)) : List It:=l.map (·.1)
def Mo.enc {c : Qd} (x : Mo c) : Array Value:=#[.agg #[.int .i64 (x.1.y : Int),.int .i64 x.1.n,.bool x.1.s],.int .i64 x.1.first]
theorem V4 {c : Qd} (l : List (Mo c)) (x : Mo c) : Mo.its (l ++ [x]) = Mo.its l ++ [x.1]:=by simp [Mo.its]
theorem Pf {c : Qd} (l : List (Mo c)) : (Mo.its l).length = l.length:=by simp [Mo.its]
theorem Qkl (A A' : Option Addr) (ca cb : Nat) (c : Qd) (w : World) :
  Calls Tryz.prog 143 #[.agg #[.slice A c.nk ca,.slice A' c.ny cb]] w fun e w' => e = .returned (.func (.func 174) #[] #[.pointer (some ⟨w.heap.size,0,none⟩)]) ∧ w.alloc (.cells #[.slice A c.nk ca,.slice A' c.ny cb] 25) = w':=by
 go_enter Tryz.func143,Tryz.ntmps143
 go_wp2;go_ret;exact ⟨rfl,rfl⟩
theorem Og {w : World} {Y : Nat} {t : TypeId} {v0 v1 v2 v3 : Value} (h : w.heap[Y]? = some (.cells #[v0,v1,v2,v3] t (0,0))) :
  w.cell? ⟨Y,0,none⟩ = some v0 ∧ w.cell? ⟨Y,1,none⟩ = some v1 ∧ w.cell? ⟨Y,2,none⟩ = some v2 ∧ w.cell? ⟨Y,3,none⟩ = some v3:=by
 refine ⟨?_,?_,?_,?_⟩ <;> simp [World.cell?,h]
theorem Qkk (A A' : Option Addr) (ca cb : Nat) (c : Qd) (B n : Nat) (w₀ w : World) (hC : Zg w₀ A ca A' cb c) (hlg : ∀ i,i < c.ny → 0 ≤ (c.yr i).lg ∧ (c.yr i).lg ≤ 8191) (hny : c.ny ≤ 400) (hn : 1 ≤ n) (he : Qb w₀ w)
  (hB : w.cell? ⟨B,1,none⟩ = some (.slice A' c.ny cb)) (hBl : B < w.heap.size) :
  SeqStopsK Fence.wide n Tryz.prog 174 #[.pointer (some ⟨B,0,none⟩)] (Mo.enc (c:=c)) (Yw w₀.heap.size) (fun xs => Mo.its xs = c.items) (fun Qv => Mo.its Qv <+: c.items) c.items.length w:=by
 intro l J Jx W hW hJ hJx hY h0;have hWe : Qb w₀ W:=he.trans hW;have hB' : W.cell? ⟨B,1,none⟩ = some (.slice A' c.ny cb):=(hW.cell (p:=⟨B,1,none⟩) hBl).trans hB;clear hB hBl he;refine callsIn_of_wp Tryz.func174 rfl trivial ?_ rfl;simp only [Tryz.ntmps174,List.size_toArray,List.length_cons,List.length_nil,Nat.reduceAdd,Nat.reduceSub,Array.replicate_succ,Array.replicate_zero,List.push_toArray,List.append_toArray,List.nil_append,List.cons_append]
 gi_wp2
 gi_loopw [3,10] (fun d i wr => ∃ k : Nat,k ≤ c.ny ∧ i = .int .i64 k ∧ d = .int .i64 (c.dayAt k) ∧ ∃ Qv : List (Mo c),Mo.its Qv = c.itemsTo k ∧ J Qv wr ∧ Qb w₀ wr) (fun _ i _ => c.ny - (intOf i).toNat)
 case atStart => exact ⟨0,Nat.zero_le _,rfl,rfl,[],rfl,h0,hWe⟩
 case round =>
  obtain ⟨k,hk,rfl,rfl,Qv,hpre,hJp,hE⟩:=hrel;obtain ⟨wo,rfl⟩:=Qf wr;by_cases hlt : k < c.ny
  ·obtain ⟨b,off,rfl,hb,c0,c1,c2,c3⟩:=(hC.ext hE).year hlt
   gi_wp2
   have hlgk:=hlg k hlt;have hE2 : Qb w₀ (wo.alloc (.cells #[.int .i64 (c.yr k).k,.string (c.yr k).nm,.int .i64 (c.yr k).lg,.int .i64 (c.yr k).db] 148)):=hE.alloc _;have hY0:=World.alloc_heap_new wo (.cells #[.int .i64 (c.yr k).k,.string (c.yr k).nm,.int .i64 (c.yr k).lg,.int .i64 (c.yr k).db] 148);have hJ0:=AbidesFrom.ext hJ hJp ((Qb.refl wo).alloc (.cells #[.int .i64 (c.yr k).k,.string (c.yr k).nm,.int .i64 (c.yr k).lg,.int .i64 (c.yr k).db] 148));generalize hyb : wo.heap.size = Y at *;clear hyb c0 c1 c2 c3 hb
   gi_loopw [3,6] (fun d m wq => ∃ j : Nat,j ≤ 12 ∧ m = .int .i64 (j + 1) ∧ d = .int .i64 (c.dayTo k j) ∧ ∃ Qv : List (Mo c),Mo.its Qv = c.upTo k j ∧ J Qv wq ∧ Qb w₀ wq ∧
    wq.heap[Y]? = some (.cells #[.int .i64 (c.yr k).k,.string (c.yr k).nm,.int .i64 (c.yr k).lg,.int .i64 (c.yr k).db] 148 (0,0))) (fun _ m _ => 13 - (intOf m).toNat)
   case atStart => exact ⟨0,Nat.zero_le _,rfl,by rw [Qg1],Qv,by rw [Qnk,hpre],hJ0,hE2,hY0⟩
   case round =>
    clear hE hE2 hY0 hJ0 hJp hpre Qv;obtain ⟨j,hj,rfl,rfl,Qv,hpre,hJp,hE,hYb⟩:=hrel;by_cases hlj : j < 12
    ·obtain ⟨y0,y1,y2,y3⟩:=Og hYb;have hx:=hY Qv ⟨_,G5 hlt hlj⟩ wr hJp (by have:=Qam (hpre ▸ Qbo hlt hlj);rw [Pf] at this;exact this);obtain ⟨fn,tmps,assign,body,hy,hR⟩:=hx;simp only [Mo.enc,Qd.it1] at hy
     gi_wp2
     refine hR.mono ?_;rintro e W3 (⟨rfl,hJ3,hk3⟩ | ⟨rfl,hJx3⟩)
     ·clear hR hy;have hYb3:=hk3.years _ _ _ hYb;have hE3 : Qb w₀ W3:=Below.trans hE hk3.below;obtain ⟨z0,z1,z2,z3⟩:=Og hYb3;have hbd:=Sk c (i:=k) (k:=j) Qa;have hbl:=V6 (c.yr k) ((j : Int) + 1) false;by_cases hdb : (c.yr k).db = (j : Int) + 1
      ·have hd1 : ((c.yr k).db != (j : Int) + 1) = false:=bne_eq_false_iff_eq.2 hdb;have HD:=Lib.hid hdb;clear hdb y0 y1 y2 y3
       gi_wp2_with (refine ⟨trivial,?_⟩;gi_at_call 173;refine (callsIn_wide.2 (Om (c.yr k) _ _ _ Qa Qa hlgk.1 hlgk.2)).mono ?_;rintro e w4 ⟨rfl,hb4⟩;obtain ⟨fn2,tmps2,assign2,body2,hy2,hR2⟩:=hY _ ⟨_,Iz hlt hlj⟩ w4 (AbidesFrom.ext hJ hJ3 hb4) (by have:=Qam (Qdn hlt hlj HD.out);rwa [← hpre,← V4 Qv ⟨c.it1 k j,G5 hlt hlj⟩,Pf] at this);simp only [Mo.enc,Qd.it2] at hy2;have hYb4:=(hb4.block (Array.getElem?_eq_some_iff.1 hYb3).1).trans hYb3;obtain ⟨x0,x1,x2,x3⟩:=Og hYb4;clear z0 z1 z2 z3)
       refine hR2.mono ?_;rintro e W5 (⟨rfl,hJ5,hk5⟩ | ⟨rfl,hJx5⟩)
       ·clear hR2 hy2;have hYb5:=hk5.years _ _ _ hYb4;have hE5 : Qb w₀ W5:=Below.trans (hE3.trans hb4) hk5.below;obtain ⟨s0,s1,s2,s3⟩:=Og hYb5;clear x0 x1 x2 x3 hd1;have hbl2:=V6 (c.yr k) ((j : Int) + 1) true
        gi_wp2_with (refine ⟨trivial,?_⟩;gi_at_call 173;refine (callsIn_wide.2 (Om (c.yr k) _ _ _ Qa Qa hlgk.1 hlgk.2)).mono ?_;rintro e w6 ⟨rfl,hb6⟩)
        exact ⟨⟨j + 1,by omega,by go_num,by rw [Qg0 HD.out],_,by rw [V4,V4,hpre,D7 HD.out],AbidesFrom.ext hJ hJ5 hb6,hE5.trans hb6,(hb6.block (Array.getElem?_eq_some_iff.1 hYb5).1).trans hYb5⟩,by simp [intOf];omega⟩
       ·gi_wp2
        refine bodyPost_ret (results_none rfl _ _ _) rfl ?_;exact ⟨⟨_,rfl⟩,.inr ⟨_,by rw [V4,V4,hpre];exact Qdn hlt hlj HD.out,hJx5⟩⟩
      ·have hd1 : ((c.yr k).db != (j : Int) + 1) = true:=bne_iff_ne.2 hdb;have HD:=Lib.hid hdb;clear hdb y0 y1 y2 y3
       gi_wp2_with (refine ⟨trivial,?_⟩;gi_at_call 173;refine (callsIn_wide.2 (Om (c.yr k) _ _ _ Qa Qa hlgk.1 hlgk.2)).mono ?_;rintro e w4 ⟨rfl,hb4⟩;have hYb4:=(hb4.block (Array.getElem?_eq_some_iff.1 hYb3).1).trans hYb3;obtain ⟨x0,x1,x2,x3⟩:=Og hYb4;clear z0 z1 z2 z3)
       exact ⟨⟨j + 1,by omega,by go_num,by rw [Qgz HD.out],_,by rw [V4,hpre,Qdr HD.out],AbidesFrom.ext hJ hJ3 hb4,hE3.trans hb4,(hb4.block (Array.getElem?_eq_some_iff.1 hYb3).1).trans hYb3⟩,by simp [intOf];omega⟩
     ·gi_wp2
      refine bodyPost_ret (results_none rfl _ _ _) rfl ?_;exact ⟨⟨_,rfl⟩,.inr ⟨_,by rw [V4,hpre];exact Qbo hlt hlj,hJx3⟩⟩
    ·obtain rfl : j = 12 := by omega
     gi_wp2
     exact ⟨⟨k + 1,by omega,by go_num,rfl,Qv,by rw [hpre];rfl,hJp,hE⟩,by simp [intOf];omega⟩
  ·gi_wp2
   go_end0
   exact ⟨⟨_,rfl⟩,.inl ⟨Qv,by rw [hpre,show k = c.ny from by omega];rfl,hJp⟩⟩
end
section
open Go Go.RowKit
theorem Qhp (w : World) (x0 y0 : Int) (x1 y1 : Int) (x2 y2 : Bool) : (Op.equalIn 10000 231 (.agg #[.int .i64 x0,.int .i64 x1,.bool x2]) (.agg #[.int .i64 y0,.int .i64 y1,.bool y2])).run Tryz.prog w = .ok ((x0 == y0) && ((x1 == y1) && (x2 == y2))) w:=by
 go_simp
 by_cases h0 : x0 = y0;rotate_left
 ·simp [h0]
 by_cases h1 : x1 = y1;rotate_left
 ·simp [h1]
 by_cases h2 : x2 = y2;rotate_left
 ·simp [h2]
 simp [h0,h1,h2]
theorem Qht (w : World) (x0 y0 : Int) (x1 y1 : Int) (x2 y2 : Bool) : (binOp .eql 231 (.agg #[.int .i64 x0,.int .i64 x1,.bool x2]) (.agg #[.int .i64 y0,.int .i64 y1,.bool y2])).run Tryz.prog w = .ok (.bool ((x0 == y0) && ((x1 == y1) && (x2 == y2)))) w:=by rw [run_eql_struct,Qhp];rfl
theorem Qhk (w : World) (x0 y0 : Int) (x1 y1 : Int) (x2 y2 : Bool) (x3 y3 : Int) : (Op.equalIn 10000 51 (.agg #[.int .i64 x0,.int .i64 x1,.bool x2,.int .i64 x3]) (.agg #[.int .i64 y0,.int .i64 y1,.bool y2,.int .i64 y3])).run Tryz.prog w = .ok ((x0 == y0) && ((x1 == y1) && ((x2 == y2) && (x3 == y3)))) w:=by
 go_simp
 by_cases h0 : x0 = y0;rotate_left
 ·simp [h0]
 by_cases h1 : x1 = y1;rotate_left
 ·simp [h1]
 by_cases h2 : x2 = y2;rotate_left
 ·simp [h2]
 by_cases h3 : x3 = y3;rotate_left
 ·simp [h3]
 simp [h0,h1,h2,h3]
theorem Qk0 (w : World) (x0 y0 : Int) (x1 y1 : Int) (x2 y2 : Bool) (x3 y3 : Int) : (binOp .neq 51 (.agg #[.int .i64 x0,.int .i64 x1,.bool x2,.int .i64 x3]) (.agg #[.int .i64 y0,.int .i64 y1,.bool y2,.int .i64 y3])).run Tryz.prog w = .ok (.bool (!((x0 == y0) && ((x1 == y1) && ((x2 == y2) && (x3 == y3)))))) w:=by rw [run_neq_struct,Qhk];rfl
end
section
open Go Go.RowKit
attribute [local go_sem] Zx
set_option maxHeartbeats 1000000 in
theorem in_any (A A' : Option Addr) (ca cb : Nat) (c : Qd) (d : Dt) (w : World) (hC : Zg w A ca A' cb c) (hlg : ∀ i,i < c.ny → 0 ≤ (c.yr i).lg ∧ (c.yr i).lg ≤ 8191) :
  Calls Tryz.prog 142 #[.agg #[.slice A c.nk ca,.slice A' c.ny cb],.agg #[.int .i64 d.y,.int .i64 d.m,.bool d.s,.int .i64 d.d]] w fun e w' => e = .returned (.bool (c.has d)) ∧ Qb w w':=by
 have hny:=hC.ny_le
 have H : Hid (c.has d = (!(decide (d.y < 0) || decide ((c.ny : Int) ≤ d.y) || decide (d.m < 1) || decide (12 < d.m)) && ((!d.s || ((c.yrI d.y).db == d.m)) && decide (1 ≤ d.d) && decide (d.d ≤ (c.yrI d.y).len d.m d.s)))):=by
  unfold Hid Qd.has;rw [Bool.eq_iff_iff];cases d.s <;> simp <;> omega
 generalize c.has d = r at *
 go_enter Tryz.func142,Tryz.ntmps142
 go_upto_region 1 with (fail)
 refine K6 w Qu ?_;intro hne hrx hry;try simp only []
 try simp only [List.append_eq,List.cons_append,List.nil_append]
 have hrx0:=fun u o => hrx u (w.heap.size) o Zv
 have hrx1:=fun u o => hrx u (w.heap.size + 1) o Zv
 skip
 refine zuK ?_;clear hne hry hrx hrx0 hrx1;intro wp hp;obtain ⟨hcwp,hfwp,hzwp⟩:=Qb.rules hp;try simp only [World.size_alloc] at hzwp
 have hk0wp:=fun o => hcwp (w.heap.size) o Zv
 have hj0wp:=fun o => hfwp (w.heap.size) o Zv
 have hl0wp : w.heap.size < wp.heap.size:=Zv;have hk1wp:=fun o => hcwp (w.heap.size + 1) o Zv
 have hj1wp:=fun o => hfwp (w.heap.size + 1) o Zv
 have hl1wp : w.heap.size + 1 < wp.heap.size:=Zv;obtain ⟨hcbwp,hfbwp,hzbwp⟩:=Qb.rules (show Qb w wp from Qu);clear hcwp hfwp;generalize hf : (decide (d.y < 0) || decide ((c.ny : Int) ≤ d.y) || decide (d.m < 1) || decide (12 < d.m)) = f at *;cases f
 ·have hb4 : 0 ≤ d.y ∧ d.y < c.ny ∧ 1 ≤ d.m ∧ d.m ≤ 12 := by simp only [Bool.or_eq_false_iff, decide_eq_false_iff_not] at hf; omega
  obtain ⟨hy0,hy1,hm0,hm1⟩:=hb4;clear hf;obtain ⟨b,off,rfl,hb,c0,c1,c2,c3⟩:=hC.yearI hy0 hy1;obtain ⟨hl,hl'⟩ : 0 ≤ (c.yrI d.y).lg ∧ (c.yrI d.y).lg ≤ 8191:=hlg _ Qa;clear hlg hC;generalize c.yrI d.y = yy at *;go_upto_region 4 with (fail)
  refine Nr w mixed (by kernel_rfl) Qu ?_;intro hne hrx hry;try simp only []
  try simp only [List.append_eq,List.cons_append,List.nil_append]
  have hrx0:=fun u o => hrx u (w.heap.size) o Zv
  have hrx1:=fun u o => hrx u (w.heap.size + 1) o Zv
  skip
  repeat (first
   | go_big_quiet_skip
   | ((with_reducible apply O8)
      ·exact rfl
      ·exact rfl
      ·exact rfl
      intro K hK
      unfold Je;go_big_quiet_op;(with_reducible refine hK _ ?_);clear hK K)
   | ((with_reducible apply Hc)
      ·exact rfl
      ·exact rfl
      ·exact rfl
      intro K hK
      unfold Je;go_big_quiet_op;(with_reducible refine hK _ ?_);clear hK K)
   | (go_big_quiet_want;go_big_quiet_op;go_big_quiet_on)
   | (go_big_quiet_want;go_big_quiet_op;apply Exists.intro;refine ⟨fun u => ?_,?_⟩
      ·first
        | (go_at_call 173;refine (Om yy _ _ _ hm0 hm1 hl hl').mono ?_;rintro e w' ⟨rfl,hb⟩;exact ⟨rfl,u.back hb⟩)
      go_big_quiet_on)
   | ((with_reducible apply O9)
      ·first | exact Wg rfl rfl rfl | exact Wf rfl rfl rfl | exact We rfl rfl rfl | exact Wd rfl rfl rfl
      ·exact rfl
      ·exact rfl
      ·exact rfl
      intro K hK
      unfold Je;go_big_quiet_op;(with_reducible refine hK _ ?_);clear hK K)
   | ((with_reducible apply Hg)
      ·first | exact Wg rfl rfl rfl | exact Wf rfl rfl rfl | exact We rfl rfl rfl | exact Wd rfl rfl rfl
      ·exact rfl
      ·exact rfl
      ·exact rfl
      intro K hK
      unfold Je;go_big_quiet_op;(with_reducible refine hK _ ?_);clear hK K)
   | ((with_reducible apply Lz)
      ·first | exact Wg rfl rfl rfl | exact Wf rfl rfl rfl | exact We rfl rfl rfl | exact Wd rfl rfl rfl
      apply Exists.intro;refine And.intro (fun hgb => ?_) ?_
      ·intro u;try simp at hgb
       go_simp
       try simp only [if_pos hsl]
       try simp only [if_pos (hin Qa)]
       try (simp only [hd0 Qa];go_simp)
       try (rw [hlook _ (Qb.trans Qu u.e) (hlk0 hgb)];go_simp)
       first
        | (with_reducible exact rfl)
        | (go_at_call 173;refine (Om yy _ _ _ hm0 hm1 hl hl').mono ?_;rintro e w' ⟨rfl,hb⟩;exact ⟨rfl,u.back hb⟩)
      intro K hK;unfold Je;go_big_quiet_op;(with_reducible refine hK _ ?_);clear hK K))
  clear hne hry hrx hrx0 hrx1;refine wpQuiet_nil ?_;intro wq hq;obtain ⟨hcwq,hfwq,hzwq⟩:=Qb.rules hq;try simp only [World.size_alloc] at hzwq
  have hk0wq:=fun o => hcwq (w.heap.size) o Zv
  have hj0wq:=fun o => hfwq (w.heap.size) o Zv
  have hl0wq : w.heap.size < wq.heap.size:=Zv;have hk1wq:=fun o => hcwq (w.heap.size + 1) o Zv
  have hj1wq:=fun o => hfwq (w.heap.size + 1) o Zv
  have hl1wq : w.heap.size + 1 < wq.heap.size:=Zv;obtain ⟨hcbwq,hfbwq,hzbwq⟩:=Qb.rules (show Qb w wq from Qu);clear hcwq hfwq;go_wp2;go_ret;refine ⟨Yn ?_,Qu⟩;rw [H.out];rfl
 ·go_wp2;go_ret;exact ⟨Yn (by rw [H.out];rfl),Qu⟩
def Nv (f : Nat → ByteArray) (s : ByteArray) (k : Nat) : Prop:=∀ j,j < k → f j ≠ s
theorem Qms {a b : ByteArray} (h : (a.toList == b.toList) = true) : a = b:=by rw [← Hq] at h;simpa using h
theorem Qmr {a b : ByteArray} (h : (a.toList == b.toList) = false) : a ≠ b:=by rw [← Hq] at h;simpa using h
def Ux (f : Nat → Yr) (y : Yr) (n : Nat) : Bool:=(List.range n).any fun j => (f j).alike y
def H0 (f : Nat → ByteArray) (k : Nat) : Prop:=∀ i j,j < i → i < k → f j ≠ f i
def Vd (f : Nat → ByteArray) (k : Nat) : Bool:=(List.range k).all fun i => Z9 (f i)
theorem Qjf {c : Qd} {j k : Nat} (hk : k < c.nk) (hj : j < k) (h : c.kg j = c.kg k) : c.kingsOk = false:=by
 rw [Bool.eq_false_iff];intro hh;simp only [Qd.kingsOk,Bool.and_eq_true,List.all_eq_true,List.mem_range] at hh;have h1:=hh.2 k hk;simp only [Qd.kingOk,Bool.and_eq_true,List.all_eq_true,List.mem_range,decide_eq_true_eq] at h1;exact h1.2 j hj h
theorem Qje {c : Qd} (h : H0 c.kg c.nk) : c.kingsOk = (decide (1 ≤ (c.nk : Int)) && decide ((c.nk : Int) ≤ 40) && Vd c.kg c.nk):=by
 have e : (List.range c.nk).all c.kingOk = Vd c.kg c.nk:=by
  rw [Vd,Bool.eq_iff_iff];simp only [List.all_eq_true,List.mem_range,Qd.kingOk,Bool.and_eq_true,decide_eq_true_eq];exact ⟨fun hh i hi => (hh i hi).1,fun hh i hi => ⟨hh i hi,fun j hj => h i j hj hi⟩⟩
 rw [Qd.kingsOk,e]
 congr 2 <;> simp <;> omega
theorem Qk8 {f : Nat → ByteArray} {s : ByteArray} {k : Nat} (h : Nv f s k) (hk : f k ≠ s) : Nv f s (k + 1):=fun j hj => by
 rcases Nat.lt_or_ge j k with h' | h'
 ·exact h j h'
 ·rw [show j = k from by omega];exact hk
theorem Qk6 {f : Nat → ByteArray} {k : Nat} (h : H0 f k) (hk : Nv f (f k) k) : H0 f (k + 1):=fun i j hj hi => by
 rcases Nat.lt_or_ge i k with h' | h'
 ·exact h i j hj h'
 ·obtain rfl : i = k := by omega
  exact hk j hj
theorem Qko (f : Nat → ByteArray) (k : Nat) : Vd f (k + 1) = (Vd f k && Z9 (f k)):=by
 rw [Vd,Vd,List.range_succ,List.all_append];simp
set_option maxHeartbeats 1000000 in
theorem Qno (A : Option Addr) (ca : Nat) (c : Qd) (w : World) (hA : Qs w A c.nk 1 (fun i => [.string (c.kg i)])) (hn : c.nk ≤ 9223372036854775807) (hcap : c.nk ≤ ca) :
  Calls Tryz.prog 172 #[.slice A c.nk ca] w fun e w' => e = .returned (.bool c.kingsOk) ∧ Qb w w':=by
 go_enter Tryz.func172,Tryz.ntmps172
 go_upto_region 1 with (fail)
 go_step3
 go_upto_region 1 with (fail)
 refine K6 w Qu ?_;intro hne hrx hry;try simp only []
 try simp only [List.append_eq,List.cons_append,List.nil_append]
 skip
 refine zuK ?_;clear hne hry hrx;intro wq hq;obtain ⟨hcwq,hfwq,hzwq⟩:=Qb.rules hq;try simp only [World.size_alloc] at hzwq
 obtain ⟨hcbwq,hfbwq,hzbwq⟩:=Qb.rules (show Qb w wq from Qu);clear hcwq hfwq;go_wp2
 go_step3
 go_wp2
 go_loopw [3,18] (fun o i wr => ∃ k : Nat,k ≤ c.nk ∧ i = .int .i64 k ∧ o = .bool (decide (1 ≤ (c.nk : Int)) && decide ((c.nk : Int) ≤ 40) && Vd c.kg k) ∧ H0 c.kg k ∧ Qb w wr) (fun _ i _ => c.nk - (intOf i).toNat)
 case atStart => exact ⟨0,Nat.zero_le _,rfl,by simp [Vd],(fun i j _ h => absurd h Qa),hq⟩
 case round =>
  obtain ⟨k,hk,rfl,rfl,hN,hB⟩:=hrel;clear hq hzwq hcbwq hfbwq hzbwq;obtain ⟨wo,rfl⟩:=Qf wr;obtain ⟨hcwo,hfwo,hzwo⟩:=Qb.rules hB;try simp only [World.size_alloc] at hzwo
  obtain ⟨hcbwo,hfbwo,hzbwo⟩:=Qb.rules (show Qb w wo from Qu);clear hcwo hfwo;by_cases hlt : k < c.nk
  ·obtain ⟨b, off, rfl, hb, hc⟩ := hA Qa;have hc' : ∀ j, j < c.nk → w.cell? ⟨b, off + j, none⟩ = some (.string (c.kg j)) := fun j hj => by simpa using hc j 0 _ hj rfl
   have c0:=hc' k hlt;clear hc hA;go_wp2
   go_loop [3,27] (fun o i => ∃ j : Nat,j ≤ k ∧ i = .int .i64 j ∧ o = .bool (decide (1 ≤ (c.nk : Int)) && decide ((c.nk : Int) ≤ 40) && Vd c.kg k) ∧ Nv c.kg (c.kg k) j) (fun _ i => k - (intOf i).toNat)
   case atStart => exact ⟨0,Nat.zero_le _,rfl,rfl,fun j h => absurd h Qa⟩
   case round =>
    obtain ⟨j,hj,rfl,rfl,hT⟩:=hrel;by_cases hlj : j < k
    ·have c1:=hc' j Qa;go_wp2
     ·go_ret;exact ⟨Yn (Qjf hlt hlj (Qms ‹_›)).symm,Qu⟩
     ·have hne:=Qmr (a:=c.kg j) (b:=c.kg k) ‹_›;exact ⟨⟨j + 1,by omega,by go_num,rfl,Qk8 hT hne⟩,by simp [intOf];omega⟩
    ·have hTk : Nv c.kg (c.kg k) k:=fun i hi => hT i Qa
     go_upto_region 11 with (fail)
     refine K6 w Qu ?_;intro hne hrx hry;try simp only []
     try simp only [List.append_eq,List.cons_append,List.nil_append]
     skip
     repeat (first
      | go_big_quiet_skip
      | ((with_reducible apply O8)
         ·exact rfl
         ·exact rfl
         ·exact rfl
         intro K hK
         unfold Je;go_big_quiet_op;(with_reducible refine hK _ ?_);clear hK K)
      | ((with_reducible apply Hc)
         ·exact rfl
         ·exact rfl
         ·exact rfl
         intro K hK
         unfold Je;go_big_quiet_op;(with_reducible refine hK _ ?_);clear hK K)
      | (go_big_quiet_want;go_big_quiet_op;go_big_quiet_on)
      | (go_big_quiet_want;go_big_quiet_op;apply Exists.intro;refine ⟨fun u => ?_,?_⟩
         ·first
           | (go_at_call 120;refine (Kt _ _).mono ?_;rintro e w' ⟨rfl,rfl⟩;exact ⟨rfl,u,rfl⟩)
         go_big_quiet_on)
      | ((with_reducible apply O9)
         ·first | exact Wg rfl rfl rfl | exact Wf rfl rfl rfl | exact We rfl rfl rfl | exact Wd rfl rfl rfl
         ·exact rfl
         ·exact rfl
         ·exact rfl
         intro K hK
         unfold Je;go_big_quiet_op;(with_reducible refine hK _ ?_);clear hK K)
      | ((with_reducible apply Hg)
         ·first | exact Wg rfl rfl rfl | exact Wf rfl rfl rfl | exact We rfl rfl rfl | exact Wd rfl rfl rfl
         ·exact rfl
         ·exact rfl
         ·exact rfl
         intro K hK
         unfold Je;go_big_quiet_op;(with_reducible refine hK _ ?_);clear hK K)
      | ((with_reducible apply Lz)
         ·first | exact Wg rfl rfl rfl | exact Wf rfl rfl rfl | exact We rfl rfl rfl | exact Wd rfl rfl rfl
         apply Exists.intro;refine And.intro (fun hgb => ?_) ?_
         ·intro u;try simp at hgb
          go_simp
          try simp only [if_pos hsl]
          try simp only [if_pos (hin Qa)]
          try (simp only [hd0 Qa];go_simp)
          try (rw [hlook _ (Qb.trans Qu u.e) (hlk0 hgb)];go_simp)
          first
           | (with_reducible exact rfl)
           | (go_at_call 120;refine (Kt _ _).mono ?_;rintro e w' ⟨rfl,rfl⟩;exact ⟨rfl,u,rfl⟩)
         intro K hK;unfold Je;go_big_quiet_op;(with_reducible refine hK _ ?_);clear hK K))
     clear hne hry hrx;refine wpQuiet_nil ?_;intro wn hwn;obtain ⟨hcwn,hfwn,hzwn⟩:=Qb.rules hwn;try simp only [World.size_alloc] at hzwn
     obtain ⟨hcbwn,hfbwn,hzbwn⟩:=Qb.rules (show Qb w wn from Qu);clear hcwn hfwn;go_wp2;exact ⟨⟨k + 1,by omega,by go_num,by simp only [Qko,Bool.and_assoc],Qk6 hN hTk,Qu⟩,by simp [intOf];omega⟩
  ·go_wp2;rw [Exit.noGoto_ret];go_ret;exact ⟨Yn (by rw [Qje (fun i j hj hi => hN i j hj Qa),show c.nk = k from by omega]),Qu⟩
def Lc (c : Qd) (k : Nat) : Prop:=∀ i,i < k → c.yearOk i = true
theorem Qh6 (c : Qd) (y : Yr) (k : Nat) : c.hadTo y k = Ux c.yr y k:=rfl
theorem Ql7 {c : Qd} {k : Nat} (h : Lc c k) : 0 ≤ c.prevK k ∧ (0 < k → c.prevK k = (c.yr (k - 1)).k):=by
 induction k with
 | zero => exact ⟨Int.le_refl _,fun h => absurd h Qa⟩
 | succ k ih =>
  have h1:=ih (fun i hi => h i Qa);have h2:=h k Qa;simp only [Qd.yearOk,Bool.and_eq_true,decide_eq_true_eq] at h2;refine ⟨?_,fun _ => rfl⟩
  show 0 ≤ (c.yr k).k
  omega
theorem Qcz (y : Yr) : y.shapeOk = !(decide (y.db < 0) || decide (12 < y.db) || decide (y.lg < 0) || decide (8191 < y.lg) || (y.db == 0 && decide (4096 ≤ y.lg))):=by
 rw [Yr.shapeOk,Bool.eq_iff_iff];simp;omega
theorem Qnr {c : Qd} {k : Nat} (hk : k < c.ny) (h : c.yearOk k = false) : c.valid = false:=by
 rw [Bool.eq_false_iff];intro hh;simp only [Qd.valid,Bool.and_eq_true,List.all_eq_true,List.mem_range] at hh;rw [hh.2 k hk] at h;cases h
theorem Qdh {p : Nat → Bool} {k : Nat} (h : ∀ i,i < k → p i = true) (hk : p k = true) : ∀ i,i < k + 1 → p i = true:=fun i hi => by
 rcases Nat.lt_or_ge i k with h' | h'
 ·exact h i h'
 ·rw [show i = k from by omega];exact hk
end
section
open Go Go.RowKit
open Go.Maps
theorem Qa3 : (263 : TypeId) < Tryz.prog.types.size:=of_decide_eq_true (by kernel_rfl)
theorem Qkw : (match Tryz.prog.underlying 263 with | some (.array _ _) | some (.struct _) => true | _ => false) = true:=by kernel_rfl
theorem Qb7 : laidOutB Tryz.prog = true:=by kernel_rfl
theorem Ff : Keyed Tryz.prog 263:=Keyed.of_law (Go.deep_law_laid Qb7 (m:=2) Qa Qa3 (by kernel_rfl) Qkw)
theorem Qa2 : Tryz.prog.underlying 261 = some (.map 263 4):=by kernel_rfl
theorem Qkx (w : World) : (zeroValue 4).run Tryz.prog w = .ok (.bool false) w:=by kernel_rfl
theorem Lh : Tryz.prog.underlying 4 = some .bool:=by kernel_rfl
def Kr : Option TypeDesc → Array Field
 | some (.struct fs) => fs
 | _ => #[]
theorem Qkv : Tryz.prog.underlying 263 = some (.struct (Kr (Tryz.prog.underlying 263))):=by kernel_rfl
theorem Qks : (Kr (Tryz.prog.underlying 263)).toList.map (fun f => (f.type,f.offset)) = [(3,0),(9,1)]:=by kernel_rfl
theorem Qku : (Kr (Tryz.prog.underlying 263)).all (·.name != "_") = true:=by kernel_rfl
theorem Qa1 : Tryz.prog.cellsOf 263 = 2:=by kernel_rfl
theorem Qkt : Tryz.prog.keyType 263 = true:=by kernel_rfl
theorem Qnf : ∃ m,Tryz.prog.types.size = m + 1 + 1:=by
 have h : (2 : Nat) ≤ Tryz.prog.types.size:=Nat.le_trans (show (2 : Nat) ≤ 263 by decide) (Nat.le_of_lt Qa3);exact ⟨Tryz.prog.types.size - 2,by omega⟩
/-- What the pair of a king's place and a name reads as. -/
def Rs (k : Int) (nm : ByteArray) : Lit:=.string (keyBytes [.int .i64 k,.string nm.data.toList])
theorem G8 {k : Int} {nm : ByteArray} (hk : (Lit.int .i64 k).wf = true) (hn : nm.size ≤ maxLen) : keyOf Tryz.prog 263 (.agg #[.int .i64 k,.string nm]) = some (Rs k nm):=by
 obtain ⟨m,hm⟩:=Qnf;have hf:=Qks;have hN:=Qku;have hU:=Qkv;generalize Kr (Tryz.prog.underlying 263) = fs at hf hN hU;obtain ⟨l⟩:=fs;simp only [List.map_eq_cons_iff,List.map_eq_nil_iff] at hf;obtain ⟨f0,_,rfl,e0,f1,_,rfl,e1,rfl⟩:=hf;simp only [Prod.mk.injEq] at e0 e1;unfold keyOf;simp only [hU];rw [if_pos (by simp [Qkt,Value.formed,hU,Qa1]),hm];unfold Program.keyLits;simp only [hU,Value.cells];rw [if_pos ⟨by rw [Qa1];rfl,hN⟩,List.mapM_cons,List.mapM_cons,List.mapM_nil];rw [e0.1,e0.2,e1.1,e1.2];have c3 : Tryz.prog.cellsOf 3 = 1:=by kernel_rfl
 have c9 : Tryz.prog.cellsOf 9 = 1:=by kernel_rfl
 simp [c3,c9,Program.keyLits,hk,hn,Rs]
/-- What the map holds after the first n years. -/
def Lm {H : Type} (f : Nat → Yr) : Nat → DataW H
 | 0 => .map []
 | n + 1 => (Lm f n).put (Rs (f n).k (f n).nm) (.lit (.bool true))
theorem Ew {H : Type} (f : Nat → Yr) : ∀ n,IsMap (Lm (H:=H) f n)
 | 0 => isMap_empty
 | n + 1 => (Ew f n).put _ _
def Vv (y : Yr) : Prop:=(Lit.int .i64 y.k).wf = true ∧ y.nm.size ≤ maxLen
theorem Ev {H : Type} {f : Nat → Yr} {y : Yr} (hy : Vv y) : ∀ n,(∀ j,j < n → Vv (f j)) → (Lm (H:=H) f n).atKey (Rs y.k y.nm) (.lit (.bool false)) = .lit (.bool (Ux f y n))
 | 0,_ => rfl
 | n + 1,h => by
  have ih:=Ev (H:=H) hy n (fun j hj => h j Qa);have kf:=G8 (h n Qa).1 (h n Qa).2;have ky:=G8 hy.1 hy.2;have e : Ux f y (n + 1) = (Ux f y n || (f n).alike y):=by rw [Ux,Ux,List.range_succ,List.any_append];simp
  rw [e];by_cases he : (f n).alike y = true
  ·have h1 : (f n).k = y.k ∧ (f n).nm = y.nm := by simpa [Yr.alike] using he
   rw [he,Bool.or_true,Lm,h1.1,h1.2];exact atKey_put_same (Ew f n) (Ff.key ky) _ _
  ·rw [Bool.not_eq_true] at he;rw [he,Bool.or_false,← ih,Lm];refine atKey_put_other (fun hl => ?_) _ _;have h2:=Ff.inj ky (by rw [hl];exact kf);simp at h2;rw [Yr.alike,h2.1,h2.2] at he;simp at he
/-- The lookup in the walk. -/
theorem Qh7 {H : Type} {w : World} {b m n : Nat} {f : Nat → Yr} {y : Yr} (hm : w.ownsMap Tryz.prog 263 (plainElem (H:=H) Tryz.prog 4) b m (Lm f n)) (hy : Vv y) (hf : ∀ j,j < n → Vv (f j)) :
  (Instr.lookup 261 (.map (some b)) (.agg #[.int .i64 y.k,.string y.nm]) false).run Tryz.prog w = .ok (.bool (Ux f y n)) w:=by
 obtain ⟨v,ps,hrun,hv⟩:=hm.lookup Ff Qa2 (Qkx w) (plainElem_bool Lh false) (G8 hy.1 hy.2);rw [Ev hy n hf] at hv;rw [hrun];simp only [plainElem,Lh] at hv
 split at hv <;> simp_all
end
section
open Go Go.RowKit
open Go.Maps
attribute [local go_sem] Zx
theorem Qbv {H : Type} {P : Program} {k : TypeId} {R : Value → Option (DataW H × List MemPlace)} {w w' : World} {b n : Nat} {D : DataW H} (h : w.ownsMap P k R b n D) (e : Qb w w') : w'.ownsMap P k R b n D:=by
 have hlt:=h.lt;obtain ⟨es,clock,hb,F,hs,hD⟩:=h;exact ⟨es,clock,(e.block hlt).trans hb,F,hs,hD⟩
theorem I8 {y : Yr} {n : Int} (h0 : 0 ≤ y.k) (h1 : y.k < n) (hn : n ≤ 9223372036854775807) (hs : Z9 y.nm = true) : Vv y:=by
 refine ⟨?_,?_⟩
 ·simp [Lit.wf,IntKind.min,IntKind.max,IntKind.signed,IntKind.bits];omega
 ·simp only [Z9,Bool.and_eq_true,decide_eq_true_eq] at hs;have : maxLen = 9223372036854775807:=rfl;omega
theorem Qb5 {c : Qd} {k : Nat} (h : Lc c k) : 0 ≤ c.prevK k:=(Ql7 h).1
theorem I9 {c : Qd} {k : Nat} (h : Lc c k) (hn : c.nk ≤ 9223372036854775807) : ∀ j,j < k → Vv (c.yr j):=fun j hj => by
 have h1:=h j hj;have h2:=Qb5 (c:=c) (k:=j) (fun i hi => h i Qa);simp only [Qd.yearOk,Bool.and_eq_true,decide_eq_true_eq] at h1;exact I8 (n:=c.nk) Qa Qa Qa (by simp_all)
theorem Qn9 (c : Qd) (k : Nat) : c.yearOk k =
  !(decide ((c.yr k).k < c.prevK k) || decide ((c.nk : Int) ≤ (c.yr k).k) || !Z9 (c.yr k).nm || Ux c.yr (c.yr k) k || decide ((c.yr k).db < 0) || decide (12 < (c.yr k).db) || decide ((c.yr k).lg < 0) || decide (8191 < (c.yr k).lg) || ((c.yr k).db == 0 && decide (4096 ≤ (c.yr k).lg))):=by
 rw [Qd.yearOk,Qh6,Qcz,Bool.eq_iff_iff];cases Z9 (c.yr k).nm <;> cases Ux c.yr (c.yr k) k <;> simp <;> omega
theorem Qnq {c : Qd} (h : (!c.kingsOk || decide ((c.ny : Int) < 1) || decide (400 < (c.ny : Int))) = true) : c.valid = false:=by
 rw [Bool.eq_false_iff];intro hh;simp only [Qd.valid,Bool.and_eq_true,decide_eq_true_eq] at hh;simp only [Bool.or_eq_true,decide_eq_true_eq,Bool.not_eq_true'] at h;rcases h with (h | h) | h
 ·rw [hh.1.1.1] at h;cases h
 ·omega
 ·omega
theorem Qns {c : Qd} (h : (!c.kingsOk || decide ((c.ny : Int) < 1) || decide (400 < (c.ny : Int))) = false) (hy : Lc c c.ny) : c.valid = true:=by
 simp only [Bool.or_eq_false_iff,decide_eq_false_iff_not,Bool.not_eq_false'] at h;simp only [Qd.valid,Bool.and_eq_true,List.all_eq_true,List.mem_range,decide_eq_true_eq];exact ⟨⟨⟨h.1.1,by omega⟩,by omega⟩,hy⟩
theorem Qdw (A A' : Option Addr) (ca cb : Nat) (c : Qd) (w : World) (hC : Zg w A ca A' cb c) :
  Calls Tryz.prog 141 #[.agg #[.slice A c.nk ca,.slice A' c.ny cb]] w fun e w' => e = .returned (.bool c.valid) ∧ Qb w w':=by
 have hnk:=hC.nk_le;have hny:=hC.ny_le;have hcapk:=hC.nk_cap;have hcapy:=hC.ny_cap;have hmm:=@run_makeMap Tryz.prog
 go_enter Tryz.func141,Tryz.ntmps141
 go_upto_region 1 with (fail)
 refine K6 w Qu ?_;intro hne hrx hry;try simp only []
 try simp only [List.append_eq,List.cons_append,List.nil_append]
 have hrx0:=fun u o => hrx u (w.heap.size) o Zv
 skip
 have n1:=fun u => (And.intro (hrx u) (Qno _ _ c _ (hC.kings.ext (Qb.trans Qu u.e)) Qa Qa)).2
 refine zuK ?_;clear hne hry hrx hrx0 n1;intro wq hq;obtain ⟨hcwq,hfwq,hzwq⟩:=Qb.rules hq;try simp only [World.size_alloc] at hzwq
 have hk0wq:=fun o => hcwq (w.heap.size) o Zv
 have hj0wq:=fun o => hfwq (w.heap.size) o Zv
 have hl0wq : w.heap.size < wq.heap.size:=Zv;obtain ⟨hcbwq,hfbwq,hzbwq⟩:=Qb.rules (show Qb w wq from Qu);clear hcwq hfwq;generalize hf : (!c.kingsOk || decide ((c.ny : Int) < 1) || decide (400 < (c.ny : Int))) = f at *;have HF : Hid (_ = f):=hf;clear hf;cases f
 ·go_wp2;have hB0 : Qb (w.alloc (.cells #[.slice A c.nk ca,.slice A' c.ny cb] 25)) wq:=hq
  go_loopw [4,27] (fun kg i wr => ∃ k : Nat,k ≤ c.ny ∧ i = .int .i64 k ∧ kg = .int .i64 (c.prevK k) ∧ Lc c k ∧ Qb (w.alloc (.cells #[.slice A c.nk ca,.slice A' c.ny cb] 25)) wr ∧
   wr.ownsMap Tryz.prog 263 (plainElem (H:=Unit) Tryz.prog 4) wq.heap.size k (Lm c.yr k)) (fun _ i _ => c.ny - (intOf i).toNat)
  case atStart => exact ⟨0,Nat.zero_le _,rfl,rfl,(fun i h => absurd h Qa),Qb.alloc hq _,World.ownsMap_made _ _ _ _⟩
  case round =>
   obtain ⟨k,hk,rfl,rfl,hY,hB,hM⟩:=hrel;clear hzwq hk0wq hj0wq hl0wq hcbwq hfbwq hzbwq;obtain ⟨wo,rfl⟩:=Qf wr;obtain ⟨hcwo,hfwo,hzwo⟩:=Qb.rules hB;try simp only [World.size_alloc] at hzwo
   have hk0wo:=fun o => hcwo (w.heap.size) o Zv
   have hj0wo:=fun o => hfwo (w.heap.size) o Zv
   have hl0wo : w.heap.size < wo.heap.size:=Zv;obtain ⟨hcbwo,hfbwo,hzbwo⟩:=Qb.rules (show Qb w wo from Qu);clear hcwo hfwo;by_cases hlt : k < c.ny
   ·obtain ⟨b, off, rfl, hb, c0, c1, c2, c3⟩ := hC.year hlt;have HY : Hid (c.yearOk k = _) := Qn9 c k;have hbo : b < wo.heap.size := by omega
    have h0:=Qb5 hY
    have hlook : ∀ w',Qb wo w' → Vv (c.yr k) → (Instr.lookup 261 (.map (some wq.heap.size)) (.agg #[.int .i64 (c.yr k).k,.string (c.yr k).nm]) false).run Tryz.prog w' = .ok (.bool (Ux c.yr (c.yr k) k)) w' :=
     fun w' e hy => Qh7 (Qbv hM e) hy (I9 hY hnk)
    have hlk0 : (c.prevK k ≤ (c.yr k).k ∧ (c.yr k).k < c.nk) ∧ Z9 (c.yr k).nm = true → Vv (c.yr k):=fun h => I8 Qa h.1.2 Qa h.2
    go_upto_region 8 with (fail)
    refine K6 wo Qu ?_;intro hne hrx hry;try simp only []
    try simp only [List.append_eq,List.cons_append,List.nil_append]
    have hrx0:=fun u o => hrx u (wo.heap.size) o Zv
    skip
    repeat (first
     | go_big_quiet_skip
     | ((with_reducible apply O8)
        ·exact rfl
        ·exact rfl
        ·exact rfl
        intro K hK
        unfold Je;go_big_quiet_op;(with_reducible refine hK _ ?_);clear hK K)
     | ((with_reducible apply Hc)
        ·exact rfl
        ·exact rfl
        ·exact rfl
        intro K hK
        unfold Je;go_big_quiet_op;(with_reducible refine hK _ ?_);clear hK K)
     | (go_big_quiet_want;go_big_quiet_op;go_big_quiet_on)
     | (go_big_quiet_want;go_big_quiet_op;apply Exists.intro;refine ⟨fun u => ?_,?_⟩
        ·first
          | (go_at_call 120;refine (Kt _ _).mono ?_;rintro e w' ⟨rfl,rfl⟩;exact ⟨rfl,u,rfl⟩)
        go_big_quiet_on)
     | ((with_reducible apply O9)
        ·first | exact Wg rfl rfl rfl | exact Wf rfl rfl rfl | exact We rfl rfl rfl | exact Wd rfl rfl rfl
        ·exact rfl
        ·exact rfl
        ·exact rfl
        intro K hK
        unfold Je;go_big_quiet_op;(with_reducible refine hK _ ?_);clear hK K)
     | ((with_reducible apply Hg)
        ·first | exact Wg rfl rfl rfl | exact Wf rfl rfl rfl | exact We rfl rfl rfl | exact Wd rfl rfl rfl
        ·exact rfl
        ·exact rfl
        ·exact rfl
        intro K hK
        unfold Je;go_big_quiet_op;(with_reducible refine hK _ ?_);clear hK K)
     | ((with_reducible apply Lz)
        ·first | exact Wg rfl rfl rfl | exact Wf rfl rfl rfl | exact We rfl rfl rfl | exact Wd rfl rfl rfl
        apply Exists.intro;refine And.intro (fun hgb => ?_) ?_
        ·intro u;try simp at hgb
         go_simp
         try simp only [if_pos hsl]
         try simp only [if_pos (hin Qa)]
         try (simp only [hd0 Qa];go_simp)
         try (rw [hlook _ (Qb.trans Qu u.e) (hlk0 hgb)];go_simp)
         first
          | (with_reducible exact rfl)
          | (go_at_call 120;refine (Kt _ _).mono ?_;rintro e w' ⟨rfl,rfl⟩;exact ⟨rfl,u,rfl⟩)
        intro K hK;unfold Je;go_big_quiet_op;(with_reducible refine hK _ ?_);clear hK K))
    clear hne hry hrx hrx0;refine wpQuiet_nil ?_;intro wn hwn;obtain ⟨hcwn,hfwn,hzwn⟩:=Qb.rules hwn;try simp only [World.size_alloc] at hzwn
    have hk0wn:=fun o => hcwn (wo.heap.size) o Zv
    have hj0wn:=fun o => hfwn (wo.heap.size) o Zv
    have hl0wn : wo.heap.size < wn.heap.size:=Zv;obtain ⟨hcbwn,hfbwn,hzbwn⟩:=Qb.rules (show Qb wo wn from Qu);clear hcwn hfwn;generalize hs : (decide ((c.yr k).k < c.prevK k) || decide ((c.nk : Int) ≤ (c.yr k).k) || !Z9 (c.yr k).nm || Ux c.yr (c.yr k) k || decide ((c.yr k).db < 0) || decide (12 < (c.yr k).db) || decide ((c.yr k).lg < 0) || decide (8191 < (c.yr k).lg) || ((c.yr k).db == 0 && decide (4096 ≤ (c.yr k).lg))) = s at *;have HS : Hid (c.yearOk k = !s):=HY.out;clear hs HY;cases s
    ·have hY1 : Lc c (k + 1):=Qdh hY HS.out;have hyk : Vv (c.yr k):=I9 hY1 hnk k Qa;have hMn:=Qbv hM (w':=wn) (Qb.trans Qu hwn);obtain ⟨w1,hrun1,hM1,hg1⟩:=hMn.update Ff Qa2 (show k < 9223372036854775807 by omega) (G8 hyk.1 hyk.2) (plainElem_bool Lh true);have hsz : (w.alloc (.cells #[.slice A c.nk ca,.slice (some ⟨b,off,none⟩) c.ny cb] 25)).heap.size ≤ wq.heap.size:=hB0.size;have hE1 : Qb (w.alloc (.cells #[.slice A c.nk ca,.slice (some ⟨b,off,none⟩) c.ny cb] 25)) w1:=Qb.grown (w:=wn) Qu hg1 (fun j hj => by cases hj;exact hsz);go_wp2;exact ⟨⟨k + 1,by omega,by go_num,rfl,hY1,hE1,hM1⟩,by simp [intOf];omega⟩
    ·go_wp2;go_ret;exact ⟨Yn (Qnr hlt HS.out).symm,Qu⟩
   ·have hY' : Lc c c.ny:=fun i hi => hY i Qa
    go_wp2;go_ret;exact ⟨Yn (Qns HF.out hY').symm,Qu⟩
 ·go_wp2;go_ret;exact ⟨Yn (Qnq HF.out).symm,Qu⟩
end
section
open Go Go.RowKit
attribute [local go_sem] Zx
theorem Qgf {c : Qd} (h : c.valid = true) : c.chk = 0:=by simp [Qd.chk,h]
theorem chk_no {c : Qd} (h : c.valid = false) : c.chk = 70:=by simp [Qd.chk,h]
set_option maxHeartbeats 1000000 in
theorem Qgb (A A' : Option Addr) (ca cb : Nat) (c : Qd) (w : World) (hC : Zg w A ca A' cb c) :
  Calls Tryz.prog 115 #[.agg #[.slice A c.nk ca,.slice A' c.ny cb]] w fun e w' => e = .returned (.int .i64 c.chk) ∧ Qb w w':=by
 go_enter Tryz.func115,Tryz.ntmps115
 go_upto_region 1 with (fail)
 refine K6 w Qu ?_;intro hne hrx hry;try simp only []
 try simp only [List.append_eq,List.cons_append,List.nil_append]
 have hrx0:=fun u o => hrx u (w.heap.size) o Zv
 skip
 have n1:=fun u => (And.intro (hrx u) (Qdw _ _ _ _ c _ (hC.ext (Qb.trans Qu u.e)))).2
 refine zuK ?_;clear hne hry hrx hrx0 n1;intro wq hq;obtain ⟨hcwq,hfwq,hzwq⟩:=Qb.rules hq;try simp only [World.size_alloc] at hzwq
 have hk0wq:=fun o => hcwq (w.heap.size) o Zv
 have hj0wq:=fun o => hfwq (w.heap.size) o Zv
 have hl0wq : w.heap.size < wq.heap.size:=Zv;obtain ⟨hcbwq,hfbwq,hzbwq⟩:=Qb.rules (show Qb w wq from Qu);clear hcwq hfwq;generalize hv : c.valid = v at *;cases v
 ·go_wp2;go_ret;exact ⟨U9 (chk_no hv).symm,Qu⟩
 ·go_wp2;go_ret;exact ⟨U9 (Qgf hv).symm,Qu⟩
def Sl (d : Dt) : List Value:=[.int .i64 d.y,.int .i64 d.m,.bool d.s,.int .i64 d.d]
def InTo (c : Qd) (f : Nat → Dt) (k : Nat) : Prop:=∀ i,i < k → c.has (f i) = true
def Qd.checks (c : Qd) (f : Nat → Dt) (n : Nat) : Int:=if c.valid then (if (List.range n).all (fun i => c.has (f i)) then 0 else 71) else 70
theorem Qgc {c : Qd} {f : Nat → Dt} {n : Nat} (h : c.valid = false) : c.checks f n = 70:=by simp [Qd.checks,h]
theorem Qgd {c : Qd} {f : Nat → Dt} {n k : Nat} (h : c.valid = true) (hk : k < n) (ho : c.has (f k) = false) : c.checks f n = 71:=by
 have : (List.range n).all (fun i => c.has (f i)) = false:=by
  rw [List.all_eq_false];exact ⟨k,by simpa using hk,by simp [ho]⟩
 simp only [Qd.checks,h,this];rfl
theorem Qge {c : Qd} {f : Nat → Dt} {n : Nat} (h : c.valid = true) (hI : InTo c f n) : c.checks f n = 0:=by
 have : (List.range n).all (fun i => c.has (f i)) = true:=by
  rw [List.all_eq_true];intro i hi;exact hI i (by simpa using hi)
 simp only [Qd.checks,h,this];rfl
theorem Bb {c : Qd} (h : c.valid = true) : ∀ i,i < c.ny → 0 ≤ (c.yr i).lg ∧ (c.yr i).lg ≤ 8191:=fun i hi => by
 simp only [Qd.valid,Bool.and_eq_true,List.all_eq_true,List.mem_range] at h;have h1:=h.2 i hi;simp only [Qd.yearOk,Bool.and_eq_true] at h1;have h2:=h1.2;rw [Qcz] at h2;simp at h2;omega
set_option maxHeartbeats 1000000 in
theorem Mf (A A' : Option Addr) (ca cb : Nat) (c : Qd) (B : Option Addr) (n cap : Nat) (f : Nat → Dt) (w : World) (hC : Zg w A ca A' cb c) (hD : Qs w B n 4 (fun i => Sl (f i))) (hn : n ≤ 9223372036854775807) :
  Calls Tryz.prog 94 #[.agg #[.slice A c.nk ca,.slice A' c.ny cb],.slice B n cap] w fun e w' => e = .returned (.int .i64 (c.checks f n)) ∧ Qb w w':=by
 go_enter Tryz.func94,Tryz.ntmps94
 go_upto_region 1 with (fail)
 refine K6 w Qu ?_;intro hne hrx hry;try simp only []
 try simp only [List.append_eq,List.cons_append,List.nil_append]
 have hrx0:=fun u o => hrx u (w.heap.size) o Zv
 skip
 have n1:=fun u => (And.intro (hrx u) (Qdw _ _ _ _ c _ (hC.ext (Qb.trans Qu u.e)))).2
 refine zuK ?_;clear hne hry hrx hrx0 n1;intro wq hq;obtain ⟨hcwq,hfwq,hzwq⟩:=Qb.rules hq;try simp only [World.size_alloc] at hzwq
 have hk0wq:=fun o => hcwq (w.heap.size) o Zv
 have hj0wq:=fun o => hfwq (w.heap.size) o Zv
 have hl0wq : w.heap.size < wq.heap.size:=Zv;obtain ⟨hcbwq,hfbwq,hzbwq⟩:=Qb.rules (show Qb w wq from Qu);clear hcwq hfwq;generalize hv : c.valid = v at *;cases v
 ·go_wp2;go_ret;exact ⟨U9 (Qgc hv).symm,Qu⟩
 ·go_wp2
  go_loopw [12] (fun i wr => ∃ k : Nat,k ≤ n ∧ i = .int .i64 k ∧ InTo c f k ∧ Qb (w.alloc (.cells #[.slice A c.nk ca,.slice A' c.ny cb] 25)) wr) (fun i _ => n - (intOf i).toNat)
  case atStart => exact ⟨0,Nat.zero_le _,rfl,(fun i h => absurd h Qa),hq⟩
  case round =>
   obtain ⟨k,hk,rfl,hI,hB⟩:=hrel;clear hzwq hk0wq hj0wq hl0wq hcbwq hfbwq hzbwq hq;obtain ⟨wo,rfl⟩:=Qf wr;obtain ⟨hcwo,hfwo,hzwo⟩:=Qb.rules hB;try simp only [World.size_alloc] at hzwo
   have hk0wo:=fun o => hcwo (w.heap.size) o Zv
   have hj0wo:=fun o => hfwo (w.heap.size) o Zv
   have hl0wo : w.heap.size < wo.heap.size:=Zv;obtain ⟨hcbwo,hfbwo,hzbwo⟩:=Qb.rules (show Qb w wo from Qu);clear hcwo hfwo;by_cases hlt : k < n
   ·obtain ⟨b, off, rfl, hb, hc⟩ := hD Qa;have c0 : w.cell? ⟨b, off + k * 4, none⟩ = some (.int .i64 (f k).y) := by simpa using hc k 0 _ hlt rfl
    have c1 : w.cell? ⟨b,off + k * 4 + 1,none⟩ = some (.int .i64 (f k).m):=hc k 1 _ hlt rfl;have c2 : w.cell? ⟨b,off + k * 4 + 2,none⟩ = some (.bool (f k).s):=hc k 2 _ hlt rfl;have c3 : w.cell? ⟨b,off + k * 4 + 3,none⟩ = some (.int .i64 (f k).d):=hc k 3 _ hlt rfl;clear hc hD;have hbo : b < wo.heap.size:=by omega
    go_upto_region 6 with (fail)
    refine K6 wo Qu ?_;intro hne hrx hry;try simp only []
    try simp only [List.append_eq,List.cons_append,List.nil_append]
    have hrx0:=fun u o => hrx u (wo.heap.size) o Zv
    skip
    have n1:=fun u => (And.intro (hrx u) (in_any _ _ _ _ c (f k) _ (hC.ext (Qb.trans Qu u.e)) (Bb hv))).2
    refine zuK ?_;clear hne hry hrx hrx0 n1;intro wn hwn;obtain ⟨hcwn,hfwn,hzwn⟩:=Qb.rules hwn;try simp only [World.size_alloc] at hzwn
    have hk0wn:=fun o => hcwn (wo.heap.size) o Zv
    have hj0wn:=fun o => hfwn (wo.heap.size) o Zv
    have hl0wn : wo.heap.size < wn.heap.size:=Zv;obtain ⟨hcbwn,hfbwn,hzbwn⟩:=Qb.rules (show Qb wo wn from Qu);clear hcwn hfwn;generalize hs : c.has (f k) = s at *;cases s
    ·go_wp2;go_ret;exact ⟨U9 (Qgd hv hlt hs).symm,Qu⟩
    ·go_wp2;exact ⟨⟨k + 1,by omega,by go_num,Qdh hI hs,Qu⟩,by simp [intOf];omega⟩
   ·go_wp2;go_ret;exact ⟨U9 (Qge hv (fun i hi => hI i Qa)).symm,Qu⟩
end
section
open Go Go.RowKit Go.Shelf
attribute [local go_sem] Oper.semAt_some Zx
attribute [local go_sem high] Qht
theorem Qb.putObj {W w : World} (h : Qb W w) {k : Nat} (hk : W.heap.size ≤ k) (o : Obj) : Qb W (w.putObj k o):=h.grown (grownBy_putObj' w k o) (fun j e => by cases e;exact hk)
theorem Qbt {β : Type} {B : Nat} {w₀ : World} (hB : w₀.heap.size ≤ B) : OwnFrom B (fun (_ : β) W => Qb w₀ W):=ownFrom_below (Nat.le_refl _) hB
theorem I7 {B : Nat} {W W' : World} (e : Qb W W') : KeepsFrom B W W':=⟨e.size,fun _ _ _ h _ => (e.block (Array.getElem?_eq_some_iff.1 h).1).trans h⟩
theorem Qcm {F : Fence} {n : Nat} {P : Program} {fn : Func} {R : Ending → World → Prop} {tmps : Array Value} {w : World} {v : Value} {D : Nat} (hK : w.heap[D]? = some (.deferred (some [])))
  (hr : (results fn tmps).run P (w.putObj D (.deferred none)) = .ok v (w.putObj D (.deferred none))) (hR : R (.returned v) (w.putObj D (.deferred none))) :
  bodyPostM F n P fn R .ret { tmps:=tmps,defers:=[{ target:=.collected D,args:=#[] }] } w:=⟨by simp,.inl ⟨_,_,rfl,run_takeDeferred hK,v,hr,hR⟩⟩
theorem Gj {W : World} {B : Nat} {t : TypeId} {v : Value} (h : Boxed W B t v) {D : Nat} {o o' : Obj} (hK : W.heap[D]? = some o) (ho : o.isCells = false) : Boxed (W.putObj D o') B t v :=
 h.kept (grownBy_putObj' W D o') (fun e => by
  cases e
  rw [show W.heap[B]? = _ from h] at hK;cases hK;cases ho)
/-- 'for m, first := range months(c)': the law of such a loop. -/
theorem Qjl {g : Operand} {ps : Array Tmp} {assign body : Code} {Q : Exit → Act → World → Prop} {a : Act} {A A' : Option Addr} {ca cb : Nat} {c : Qd} {B : Nat} (w₀ w : World)
  (hg : a.eval g = .func (.func 174) #[] #[.pointer (some ⟨B,0,none⟩)]) (hps : ps.size = 2)
  (hC : Zg w₀ A ca A' cb c) (hlg : ∀ i,i < c.ny → 0 ≤ (c.yr i).lg ∧ (c.yr i).lg ≤ 8191) (hny : c.ny ≤ 400) (he : Qb w₀ w) (hB : w.cell? ⟨B,1,none⟩ = some (.slice A' c.ny cb)) (hBl : B < w.heap.size)
  (I : List (Mo c) → World → Prop) (Ix : Code → List (Mo c) → World → Prop) (hI : OwnFrom w.heap.size I) (hIx : ∀ c,OwnFrom w.heap.size (Ix c)) (h0 : I [] w) (Ax : Mo c → Act → World → Prop)
  (hAx : ∀ x a',OwnFrom w.heap.size (fun (_ : Unit) W => Ax x a' W))
  (hassign : ∀ (l : Nat) (Qv : List (Mo c)) (x : Mo c) (W : World) (K : Act → World → Prop),I Qv W → (∀ a' W',KeepsFrom w.heap.size W W' → Yw w₀.heap.size W W' → I Qv W' → Ax x a' W' → K a' W') →
   assign.wpIn (Fence.wide.inRound l) 7 Tryz.prog (Exit.then K (fun _ _ _ => False)) { tmps:=(ps.zip (Mo.enc x)).foldl (fun t (p,v) => t.setIfInBounds p v) a.tmps,defers:=[] } W)
  (hbody : ∀ (l : Nat) (Qv : List (Mo c)) (x : Mo c) (a' : Act) (W : World),w.heap.size ≤ l → I Qv W → Ax x a' W → Qv.length < 13 * c.ny → body.wpIn (Fence.wide.inRound l) 7 Tryz.prog (ownPostG w.heap.size (Yw w₀.heap.size) I Ix (Qv ++ [x]) W) a' W)
  (hdone : ∀ (D : Nat) (xs : List (Mo c)) (W : World),w.heap.size ≤ D → Mo.its xs = c.items → I xs W → W.heap[D]? = some (.deferred (some [])) → Q .normal { a with defers:={ target:=.collected D,args:=#[] } :: a.defers } W)
  (hstop : ∀ (D : Nat) (c' : Code) (Qv : List (Mo c)) (W : World),w.heap.size ≤ D → Mo.its Qv <+: c.items → Ix c' Qv W → W.heap[D]? = some (.deferred (some [])) → c'.wp Tryz.prog Q { a with defers:={ target:=.collected D,args:=#[] } :: a.defers } W) :
  (Code.rangeFunc g ps assign body).wp Tryz.prog Q a w:=by
 refine (wpIn_wide (n:=9)).1 (wpIn_rangeFunc_ownH rfl Qa hg trivial (enters_of Tryz.func174 (by kernel_rfl) rfl) (Qkk A A' ca cb c B 8 w₀ w hC hlg hny Qa he hB hBl)
  Yw.trans (Yw.turn he.size) (Below.refl _ _) (fun _ => hps.symm) I Ix hI hIx h0 Ax hAx hassign (fun l Qv x a' W hl _ hi hx hlt => hbody l Qv x a' W hl hi hx (Nat.lt_of_lt_of_le hlt (G6 c c.ny))) hdone
  (fun D c' Qv W hD hp hx hK => wpIn_wide.2 (hstop D c' Qv W hD hp hx hK)))
theorem Qbs {β γ : Type} {B : Nat} {I : γ → β → World → Prop} (h : ∀ x,OwnFrom B (I x)) : OwnFrom B (fun s W => ∃ x,I x s W):=fun s X Y row ⟨x,hs⟩ hg hr => ⟨x,h x s X Y row hs hg hr⟩
theorem Fo {β : Type} (B b : Nat) (t : TypeId) (f : β → Value) : OwnFrom B (fun s W => Boxed W b t (f s)):=Own.from (boxed_own b t f) B
/-- Block b is just the cells cs. -/
def Qc (W : World) (b : Nat) (t : TypeId) (cs : Array Value) : Prop:=W.heap[b]? = some (.cells cs t (0,0))
theorem Qc.lt {W : World} {b : Nat} {t : TypeId} {cs : Array Value} (h : Qc W b t cs) : b < W.heap.size:=(Array.getElem?_eq_some_iff.1 h).1
theorem Qc.new (W : World) (t : TypeId) (cs : Array Value) : Qc (W.alloc (.cells cs t)) W.heap.size t cs:=World.alloc_heap_new W _
theorem Qc.at (W : World) (t : TypeId) (cs : Array Value) (b : Nat) (h : b = W.heap.size) : Qc (W.alloc (.cells cs t)) b t cs:=by rw [h];exact Qc.new W t cs
theorem Qc.alloc {W : World} {b : Nat} {t : TypeId} {cs : Array Value} (h : Qc W b t cs) (o : Obj) : Qc (W.alloc o) b t cs:=(Below.heap_alloc W o b h.lt).trans h
theorem Qc.boxed {W : World} {b : Nat} {t : TypeId} {v : Value} (h : Qc W b t #[v]) : Boxed W b t v:=h
theorem Qc.ext {W W' : World} {b : Nat} {t : TypeId} {cs : Array Value} (h : Qc W b t cs) (e : Qb W W') : Qc W' b t cs:=(e.block h.lt).trans h
theorem Qc.other {W : World} {b b' : Nat} {t : TypeId} {cs : Array Value} (h : Qc W b t cs) (hne : b ≠ b') (u : Value) : Qc (W.setCell ⟨b',0,none⟩ u) b t cs:=((grownBy_setCell' W b' u).block b h.lt (fun e => hne (by cases e;rfl))).trans h
theorem Qc.cell {W : World} {b : Nat} {t : TypeId} {cs : Array Value} (h : Qc W b t cs) (i : Nat) : W.cell? ⟨b,i,none⟩ = cs[i]?:=by simp [World.cell?,show W.heap[b]? = _ from h]
theorem Qc.frozen {W : World} {b : Nat} {t : TypeId} {cs : Array Value} (h : Qc W b t cs) (i : Nat) : W.frozen? ⟨b,i,none⟩ = false:=by simp [World.frozen?,show W.heap[b]? = _ from h]
section
variable {W : World} {b : Nat} {t : TypeId} {v0 v1 v2 v3 : Value}
theorem Qc.c1 (h : Qc W b t #[v0]) : W.cell? ⟨b,0,none⟩ = some v0:=h.cell 0
theorem Qc.c2 (h : Qc W b t #[v0,v1]) : W.cell? ⟨b,0,none⟩ = some v0 ∧ W.cell? ⟨b,1,none⟩ = some v1:=⟨h.cell 0,h.cell 1⟩
theorem Qc.c3 (h : Qc W b t #[v0,v1,v2]) : W.cell? ⟨b,0,none⟩ = some v0 ∧ W.cell? ⟨b,1,none⟩ = some v1 ∧ W.cell? ⟨b,2,none⟩ = some v2:=⟨h.cell 0,h.cell 1,h.cell 2⟩
theorem Qc.c4 (h : Qc W b t #[v0,v1,v2,v3]) : W.cell? ⟨b,0,none⟩ = some v0 ∧ W.cell? ⟨b,1,none⟩ = some v1 ∧ W.cell? ⟨b,2,none⟩ = some v2 ∧ W.cell? ⟨b,3,none⟩ = some v3:=⟨h.cell 0,h.cell 1,h.cell 2,h.cell 3⟩
end
theorem Qlk {β : Type} (B b : Nat) (t : TypeId) (f : β → Array Value) : OwnFrom B (fun s W => Qc W b t (f s)):=fun s X Y row hs hg hr => (hg.block b hs.lt (fun e => by
 obtain ⟨_,o,ho,hc⟩:=hr b e.symm;rw [show X.heap[b]? = _ from hs] at ho;cases ho;cases hc)).trans hs
theorem Cs {W W' : World} {b : Nat} {t : TypeId} {v : Value} (h : Boxed W b t v) (e : Qb W W') : Boxed W' b t v:=(e.block h.lt).trans h
theorem Qi9 (x : It) (d : Dt) : x.of d = ((x.y : Int) == d.y && (x.n == d.m && x.s == d.s)):=by rw [It.of,Bool.and_assoc];rfl
/-- What a month's box is behind the assignment, and the frame with it. -/
def AxM (L : Nat) (f : It → Nat → Array Value) {c : Qd} (x : Mo c) (a' : Act) (W : World) : Prop :=
 ∃ Bx,L ≤ Bx ∧ Qc W Bx 231 #[.int .i64 (x.1.y : Int),.int .i64 x.1.n,.bool x.1.s] ∧ a' = { tmps:=f x.1 Bx,defers:=[] }
theorem Qe4 {L B : Nat} {f : It → Nat → Array Value} {c : Qd} (x : Mo c) (a' : Act) : OwnFrom B (fun (_ : Unit) W => AxM L f x a' W) :=
 Qbs fun _ => OwnFrom.and (ownFrom_pure _ _) (OwnFrom.and (Qlk _ _ _ _) (ownFrom_pure _ _))
theorem Qdm {W : World} {b b' : Nat} {t t' : TypeId} {v v' : Value} (h : Boxed W b t v) (h' : Boxed W b' t' v') (hne : b ≠ b') (u u' : Value) :
  Boxed ((W.setCell ⟨b,0,none⟩ u).setCell ⟨b',0,none⟩ u').drew b t u ∧ Boxed ((W.setCell ⟨b,0,none⟩ u).setCell ⟨b',0,none⟩ u').drew b' t' u' :=
 ⟨(h.set u).other hne u',(h'.other (Ne.symm hne) u).set u'⟩
/-! ### number -/
def Ki (d : Dt) (l : List It) : Prop:=∀ x,x ∈ l → x.of d = false
theorem Qbg {d : Dt} : ∀ {l : List It} (k : Int),Ki d l → Ym d l k = (0,0)
 | [],_,_ => rfl
 | x :: l,k,h => by
  rw [Ym,h x (List.mem_cons_self ..)];exact Qbg (k + 1) (fun y hy => h y (List.mem_cons_of_mem _ hy))
theorem Qbd {d : Dt} {x : It} (hx : x.of d = true) : ∀ (Qv l : List It) (k : Int),Ki d Qv → Ym d (Qv ++ x :: l) k = (x.first + d.d - 1,k + Qv.length + 1)
 | [],l,k,_ => by simp [Ym,hx]
 | y :: Qv,l,k,h => by
  rw [List.cons_append,Ym,h y (List.mem_cons_self ..)]
  show Ym d _ (k + 1) = _
  rw [Qbd hx Qv l (k + 1) (fun z hz => h z (List.mem_cons_of_mem _ hz)),List.length_cons]
  congr 1;omega
theorem Qlc {c : Qd} {d : Dt} (h : Ki d c.items) : c.num d = (0,0):=Qbg 0 h
theorem Qlb {c : Qd} {d : Dt} {Qv : List It} {x : It} (hN : Ki d Qv) (hx : x.of d = true) (hp : Qv ++ [x] <+: c.items) : c.num d = (x.first + d.d - 1,(Qv.length : Int) + 1):=by
 obtain ⟨t,ht⟩:=hp;rw [Qd.num,← ht,List.append_assoc,List.singleton_append,Qbd hx Qv t 0 hN]
 congr 1;omega
theorem Qk7 {d : Dt} {l : List It} {x : It} (h : Ki d l) (hx : x.of d = false) : Ki d (l ++ [x]):=fun y hy => by
 rcases List.mem_append.1 hy with hy | hy
 ·exact h y hy
 ·rw [List.mem_singleton.1 hy];exact hx
/-- The world in which number has boxed its arguments. -/
def Ou (A A' : Option Addr) (ca cb : Nat) (c : Qd) (d : Dt) (w : World) : World:=(w.alloc (.cells #[.slice A c.nk ca,.slice A' c.ny cb] 25)).alloc (.cells #[.int .i64 d.y,.int .i64 d.m,.bool d.s,.int .i64 d.d] 51)
theorem Pz (A A' : Option Addr) (ca cb : Nat) (c : Qd) (d : Dt) (w : World) (hC : Zg w A ca A' cb c) (hlg : ∀ i,i < c.ny → 0 ≤ (c.yr i).lg ∧ (c.yr i).lg ≤ 8191) (hny : c.ny ≤ 400) (hd : 1 ≤ d.d ∧ d.d ≤ 30) :
  Calls Tryz.prog 95 #[.agg #[.slice A c.nk ca,.slice A' c.ny cb],.agg #[.int .i64 d.y,.int .i64 d.m,.bool d.s,.int .i64 d.d]] w fun e w' => e = .returned (.tuple #[.int .i64 (c.num d).1,.int .i64 (c.num d).2]) ∧ Qb w w':=by
 refine callsIn_wide.1 (callsIn_of_wp_marks (F:=Fence.wide) (n:=9) Tryz.func95 rfl trivial (wpIn_wide.2 ?_) rfl);simp only [Tryz.ntmps95,List.size_toArray,List.length_cons,List.length_nil,Nat.reduceAdd,Nat.reduceSub,Array.replicate_succ,Array.replicate_zero,List.push_toArray,List.append_toArray,List.nil_append,List.cons_append];go_wp2_with (go_at_call 143;refine (Qkl _ _ _ _ c _).mono ?_;rintro e w' ⟨rfl,rfl⟩);obtain ⟨wd,hwd⟩:=Qf (Ou A A' ca cb c d w);have hEd : Qb w wd:=by rw [hwd];unfold Ou;exact Qu
 have hsd : wd.heap.size = w.heap.size + 1 + 1:=by rw [hwd];simp [Ou]
 have hdb : Qc wd (w.heap.size + 1) 51 #[.int .i64 d.y,.int .i64 d.m,.bool d.s,.int .i64 d.d]:=by rw [hwd];unfold Ou;exact (by repeat (first | (refine Qc.at _ _ _ _ ?_;(simp;done)) | refine Qc.alloc ?_ _))
 generalize hW5 : World.alloc _ _ = W5;have hE5 : Qb wd W5:=by rw [← hW5,hwd];unfold Ou;exact Qu
 have hs5 : W5.heap.size = w.heap.size + 1 + 1 + 1 + 1 + 1:=by rw [← hW5];simp
 have b4 : Boxed W5 (w.heap.size + 1 + 1) 3 (.int .i64 0):=by rw [← hW5];exact Qc.boxed (by repeat (first | (refine Qc.at _ _ _ _ ?_;(simp;done)) | refine Qc.alloc ?_ _))
 have b5 : Boxed W5 (w.heap.size + 1 + 1 + 1) 3 (.int .i64 0):=by rw [← hW5];exact Qc.boxed (by repeat (first | (refine Qc.at _ _ _ _ ?_;(simp;done)) | refine Qc.alloc ?_ _))
 have hB : W5.cell? ⟨w.heap.size + 1 + 1 + 1 + 1,1,none⟩ = some (.slice A' c.ny cb):=by rw [← hW5];exact (Qc.cell (t:=25) (cs:=#[.slice A c.nk ca,.slice A' c.ny cb]) (by repeat (first | (refine Qc.at _ _ _ _ ?_;(simp;done)) | refine Qc.alloc ?_ _)) 1)
 clear hW5 hwd;generalize hs : w.heap.size = s at *
 refine Qjl (A:=A) (A':=A') (ca:=ca) (cb:=cb) (c:=c) (B:=s + 1 + 1 + 1 + 1) wd W5 rfl rfl (hC.ext hEd) hlg hny hE5 hB Qa
  (fun Qv W => Qb wd W ∧ Boxed W (s + 1 + 1) 3 (.int .i64 0) ∧ Boxed W (s + 1 + 1 + 1) 3 (.int .i64 (Qv.length : Int)) ∧ Ki d (Mo.its Qv))
  (fun c' Qv W => Qb wd W ∧ ∃ p : List (Mo c) × Mo c,Boxed W (s + 1 + 1) 3 (.int .i64 (p.2.1.first + d.d - 1)) ∧ Boxed W (s + 1 + 1 + 1) 3 (.int .i64 (Qv.length : Int)) ∧ c' = .ret ∧ Qv = p.1 ++ [p.2] ∧ Ki d (Mo.its p.1) ∧ p.2.1.of d = true)
  (OwnFrom.and (Qbt Qa) (OwnFrom.and (Fo _ _ _ _) (OwnFrom.and (Fo _ _ _ _) (ownFrom_pure _ _))))
  (fun c' => OwnFrom.and (Qbt Qa) (Qbs fun p => OwnFrom.and (Fo _ _ _ _) (OwnFrom.and (Fo _ _ _ _) (ownFrom_pure _ _))))
  ⟨hE5,b4,b5,fun _ h => (by cases h)⟩
  (AxM (s + 1 + 1 + 1 + 1) (fun y Bx => #[.agg #[.slice A c.nk ca,.slice A' c.ny cb],.agg #[.int .i64 d.y,.int .i64 d.m,.bool d.s,.int .i64 d.d],.pointer (some ⟨s,0,none⟩),.pointer (some ⟨s + 1,0,none⟩),.pointer (some ⟨s + 1 + 1,0,none⟩),.pointer (some ⟨s + 1 + 1 + 1,0,none⟩),.pointer (some ⟨Bx,0,none⟩),.int .i64 y.first,
   .agg #[.slice A c.nk ca,.slice A' c.ny cb],.func (.func 174) #[] #[.pointer (some ⟨s + 1 + 1 + 1 + 1,0,none⟩)],.agg #[.int .i64 (y.y : Int),.int .i64 y.n,.bool y.s],.int .i64 y.first,undef,undef,undef,undef,undef,undef,undef,undef,undef,undef,undef,undef])) Qe4 ?assign ?body ?done ?stop
 case assign =>
  intro l Qv x W K hi hK;simp only [Mo.enc]
  gi_wp2
  refine hK _ _ (I7 ((Qb.refl W).alloc _)) (Yw.of_ext ((Qb.refl W).alloc _) hi.1.size) ⟨hi.1.alloc _,hi.2.1.alloc _,hi.2.2.1.alloc _,hi.2.2.2⟩ ⟨W.heap.size,hi.2.2.1.lt,Qc.new _ _ _,rfl⟩
 case body =>
  rintro l Qv x a' W hl ⟨hE,b4,b5,hN⟩ ⟨Bx,hBx,hm,rfl⟩ hlt;have hcb:=b5.cell;have hfb:=b5.frozen
  gi_wp2
  have hKp : Yw wd.heap.size W (W.setCell ⟨s + 1 + 1 + 1,0,none⟩ (.int .i64 ((Qv.length : Int) + 1))):=Yw.box b5 (by decide) Qa _;have hKf : KeepsFrom W5.heap.size W (W.setCell ⟨s + 1 + 1 + 1,0,none⟩ (.int .i64 ((Qv.length : Int) + 1))):=(KeepsOthers.setCell _ _ _).from _;have hE2:=hE.setCell (p:=⟨s + 1 + 1 + 1,0,none⟩) (show wd.heap.size ≤ s + 1 + 1 + 1 by omega) (.int .i64 ((Qv.length : Int) + 1));have b42:=b4.other (B':=s + 1 + 1 + 1) Qa (.int .i64 ((Qv.length : Int) + 1));have b52:=b5.set (.int .i64 ((Qv.length : Int) + 1));have hm2:=hm.other (b':=s + 1 + 1 + 1) Qa (.int .i64 ((Qv.length : Int) + 1));generalize World.setCell W _ _ = W2 at *;clear hcb hfb b4 b5 hm hE
  have hd2:=hdb.ext hE2;have m0:=hm2.cell 0;have m1:=hm2.cell 1;have m2:=hm2.cell 2;have e0:=hd2.cell 0;have e1:=hd2.cell 1;have e2:=hd2.cell 2;have e3:=hd2.cell 3;have hl1:=hm2.lt;have hl2:=hd2.lt;simp at m0 m1 m2 e0 e1 e2 e3;refine Qn0 W2 mixed (by kernel_rfl) (by kernel_rfl) Qu ?_;intro hne hrx hry;try simp only []
  try simp only [List.append_eq,List.cons_append,List.nil_append]
  skip
  have m1:=fun x : World => Qkj d x
  refine zuK ?_;clear hne hry hrx m1;intro wq hq;obtain ⟨hcwq,hfwq,hzwq⟩:=Qb.rules hq;try simp only [World.size_alloc] at hzwq
  obtain ⟨hcbwq,hfbwq,hzbwq⟩:=Qb.rules (show Qb W2 wq from Qu);clear hcwq hfwq;have HO : Hid (x.1.of d = _):=Qi9 x.1 d;have hxok:=x.2;have hx1:=hxok.f1;have hx2:=hxok.f2;clear hxok;generalize ((x.1.y : Int) == d.y && (x.1.n == d.m && x.1.s == d.s)) = f at *;have hEq:=hE2.trans hq;have b4q:=Cs b42 hq;have b5q:=Cs b52 hq;have hKq:=hKp.trans (Yw.of_ext hq hE2.size);have hFq:=hKf.trans (I7 hq);clear m0 m1 m2 hl1;cases f
  ·gi_wp2
   exact ⟨hFq,hKq,hEq,b4q,by simpa using b5q,by rw [V4];exact Qk7 hN HO.out⟩
  ·have q4:=b4q.cell;have q5:=b5q.cell;have f4:=b4q.frozen;have f5:=b5q.frozen;have hdq:=hd2.ext hq;clear e0 e1 e2 e3 hd2 hcbwq hfbwq;have e3:=hdq.cell 3;simp at e3;have hl4:=b4q.lt;have hl5:=b5q.lt;have hld:=hdq.lt
   gi_upto_region 6 with (fail)
   have hmix:=mixed;have HS : Hid (IntKind.i64.wrap (IntKind.i64.wrap (x.1.first + d.d) - 1) = x.1.first + d.d - 1):=by unfold Hid;rw [IntKind.wrap_i64,IntKind.wrap_i64];omega
   have hEs:=fun u v => ((hEq.setCell (p:=⟨s + 1 + 1,0,none⟩) (show wd.heap.size ≤ s + 1 + 1 by omega) u).setCell (p:=⟨s + 1 + 1 + 1,0,none⟩) (show wd.heap.size ≤ s + 1 + 1 + 1 by omega) v).drew
   have hBs:=fun u v => Qdm b4q b5q Qa u v
   have hFs:=fun u v => (((hFq.trans ((KeepsOthers.setCell _ ⟨s + 1 + 1,0,none⟩ u).from _)).trans ((KeepsOthers.setCell _ ⟨s + 1 + 1 + 1,0,none⟩ v).from _)).trans ((KeepsOthers.drew _).from _))
   gi_region_with_o (fail)
   all_goals
    gi_wp2
    refine ⟨hFs _ _,hEs _ _,(Qv,x),?_,?_,rfl,rfl,hN,HO.out⟩
    ·rw [← HS.out];exact (hBs _ _).1
    ·rw [List.length_append];exact (hBs _ _).2
 case done =>
  rintro D xs W hD hxs ⟨hE,b4,b5,hN⟩ hK;have hc4:=b4.cell;have hf4:=b4.frozen;have hc5:=b5.cell;have hf5:=b5.frozen;rw [hxs] at hN;have HN:=Lib.hid (Qlc hN);clear hN hxs;go_wp2;have hK2 : ((W.setCell ⟨s + 1 + 1,0,none⟩ (.int .i64 0)).setCell ⟨s + 1 + 1 + 1,0,none⟩ (.int .i64 0)).heap[D]? = some (.deferred (some [])):=((KeepsOthers.setCell W ⟨s + 1 + 1,0,none⟩ (.int .i64 0)).trans (KeepsOthers.setCell _ ⟨s + 1 + 1 + 1,0,none⟩ (.int .i64 0))).same D _ hK rfl;have hB2:=Qdm b4 b5 Qa (.int .i64 0) (.int .i64 0);have hE2 : Qb wd ((W.setCell ⟨s + 1 + 1,0,none⟩ (.int .i64 0)).setCell ⟨s + 1 + 1 + 1,0,none⟩ (.int .i64 0)):=((hE.setCell (p:=⟨s + 1 + 1,0,none⟩) (show wd.heap.size ≤ s + 1 + 1 by omega) (.int .i64 0)).setCell (p:=⟨s + 1 + 1 + 1,0,none⟩) (show wd.heap.size ≤ s + 1 + 1 + 1 by omega) (.int .i64 0))
  clear hc4 hf4 hc5 hf5;generalize World.setCell _ _ _ = W6 at *;have c4:=(Gj (o':=.deferred none) (show Boxed W6 _ _ _ from hB2.1) hK2 rfl).cell;have c5:=(Gj (o':=.deferred none) (show Boxed W6 _ _ _ from hB2.2) hK2 rfl).cell;refine Qcm hK2 (v:=.tuple #[.int .i64 0,.int .i64 0]) (by simp [results,Tryz.results95,go_sem,c4,c5]) ⟨by rw [HN.out],hEd.trans (hE2.putObj Qa _)⟩
 case stop =>
  rintro D c' Qv W hD hpre ⟨hE,⟨p,x⟩,b4,b5,rfl,rfl,hN,hO⟩ hK;rw [V4] at hpre;have HN:=Lib.hid (Qlb hN hO hpre);clear hN hpre hO;go_wp2;have c4:=(Gj (o':=.deferred none) b4 hK rfl).cell;have c5:=(Gj (o':=.deferred none) b5 hK rfl).cell;refine Qcm hK (v:=.tuple #[.int .i64 (x.1.first + d.d - 1),.int .i64 ((p.length : Int) + 1)]) (by simp [results,Tryz.results95,go_sem,c4,c5]) ⟨by rw [HN.out,Pf],hEd.trans (hE.putObj Qa _)⟩
end
section
open Go Go.RowKit
theorem Yi (w : World) (t1 : TypeId) (c1 : Array Value) : ∃ v b1,Qb w v ∧ Qc v b1 t1 c1 ∧ w.heap.size ≤ b1 ∧ v = (w.alloc (.cells c1 t1)) ∧ b1 = w.heap.size :=
 ⟨_,_,((Qb.refl _).alloc _),(Qc.new _ _ _),by omega,rfl,rfl⟩
theorem Yb (w : World) (t1 : TypeId) (c1 : Array Value) (t2 : TypeId) (c2 : Array Value) : ∃ v b1 b2,Qb w v ∧ Qc v b1 t1 c1 ∧ Qc v b2 t2 c2 ∧ w.heap.size ≤ b1 ∧ w.heap.size ≤ b2 ∧ b2 ≠ b1 ∧ v = ((w.alloc (.cells c1 t1)).alloc (.cells c2 t2)) ∧ b1 = w.heap.size ∧ b2 = w.heap.size + 1 :=
 ⟨_,_,_,(((Qb.refl _).alloc _).alloc _),((Qc.new _ _ _).alloc _),(Qc.at _ _ _ _ (by simp)),by omega,by omega,by omega,rfl,rfl,rfl⟩
theorem Uq (w : World) (t1 : TypeId) (c1 : Array Value) (t2 : TypeId) (c2 : Array Value) (t3 : TypeId) (c3 : Array Value) : ∃ v b1 b2 b3,Qb w v ∧ Qc v b1 t1 c1 ∧ Qc v b2 t2 c2 ∧ Qc v b3 t3 c3 ∧ w.heap.size ≤ b1 ∧ w.heap.size ≤ b2 ∧ w.heap.size ≤ b3 ∧ b2 ≠ b1 ∧ b3 ≠ b1 ∧ b3 ≠ b2 ∧ v = (((w.alloc (.cells c1 t1)).alloc (.cells c2 t2)).alloc (.cells c3 t3)) ∧ b1 = w.heap.size ∧ b2 = w.heap.size + 1 ∧ b3 = w.heap.size + 1 + 1 :=
 ⟨_,_,_,_,((((Qb.refl _).alloc _).alloc _).alloc _),(((Qc.new _ _ _).alloc _).alloc _),((Qc.at _ _ _ _ (by simp)).alloc _),(Qc.at _ _ _ _ (by simp)),by omega,by omega,by omega,by omega,by omega,by omega,rfl,rfl,rfl,rfl⟩
theorem Hz (w : World) (t1 : TypeId) (c1 : Array Value) (t2 : TypeId) (c2 : Array Value) (t3 : TypeId) (c3 : Array Value) (t4 : TypeId) (c4 : Array Value) : ∃ v b1 b2 b3 b4,Qb w v ∧ Qc v b1 t1 c1 ∧ Qc v b2 t2 c2 ∧ Qc v b3 t3 c3 ∧ Qc v b4 t4 c4 ∧ w.heap.size ≤ b1 ∧ w.heap.size ≤ b2 ∧ w.heap.size ≤ b3 ∧ w.heap.size ≤ b4 ∧ b2 ≠ b1 ∧ b3 ≠ b1 ∧ b3 ≠ b2 ∧ b4 ≠ b1 ∧ b4 ≠ b2 ∧ b4 ≠ b3 ∧ v = ((((w.alloc (.cells c1 t1)).alloc (.cells c2 t2)).alloc (.cells c3 t3)).alloc (.cells c4 t4)) ∧ b1 = w.heap.size ∧ b2 = w.heap.size + 1 ∧ b3 = w.heap.size + 1 + 1 ∧ b4 = w.heap.size + 1 + 1 + 1 :=
 ⟨_,_,_,_,_,(((((Qb.refl _).alloc _).alloc _).alloc _).alloc _),((((Qc.new _ _ _).alloc _).alloc _).alloc _),(((Qc.at _ _ _ _ (by simp)).alloc _).alloc _),((Qc.at _ _ _ _ (by simp)).alloc _),(Qc.at _ _ _ _ (by simp)),by omega,by omega,by omega,by omega,by omega,by omega,by omega,by omega,by omega,by omega,rfl,rfl,rfl,rfl,rfl⟩
theorem Wv {p : Prop} (h : p:=by repeat (first | (refine Qc.at _ _ _ _ ?_;(simp;done)) | refine Qc.alloc ?_ _)) : p:=h
end
section
open Go Go.RowKit
attribute [local go_sem] Zx
theorem Al (a b : Nat) (hb : b < 18446744073709551616) (w : World) : Calls Tryz.prog 161 #[.int .u64 (a : Int),.int .u64 (b : Int)] w fun e w' => e = .returned (.int .u64 (Nat.gcd a b : Int)) ∧ Qb w w':=by
 obtain ⟨G,hG⟩:=Qf (Nat.gcd a b);rw [← hG];have HG:=Lib.hid hG;clear hG
 go_enter Tryz.func161,Tryz.ntmps161
 go_wp2
 go_loopw [0,1] (fun av bv wr => ∃ a b : Nat,av = .int .u64 (a : Int) ∧ bv = .int .u64 (b : Int) ∧ Hid (G = Nat.gcd a b) ∧ b < 18446744073709551616 ∧ Qb w wr) (fun _ bv _ => (intOf bv).toNat)
 case atStart => exact ⟨a,b,rfl,rfl,HG,hb,Qb.refl _⟩
 case round =>
  clear HG hb;obtain ⟨x,y,rfl,rfl,hG,hy,hE⟩:=hrel;obtain ⟨wo,rfl⟩:=Qf wr;by_cases h0 : y = 0
  ·subst h0;go_wp2;go_ret;exact ⟨by rw [hG.out];simp,hE⟩
  ·have h0b : ((y : Int) != 0) = true := by rw [bne, beq_eq_false_iff_ne.2 Qa]; rfl
   have h0c : ((y : Int) == 0) = false:=beq_eq_false_iff_ne.2 Qa;go_upto_region 2 with (fail)
   refine Zo wo ?_;intro wn hwn;obtain ⟨hcbwn,hfbwn,hzbwn,hzwn⟩:=Zn wo hwn;have hlt : x % y < y:=Nat.mod_lt _ Qa;go_wp2;exact ⟨⟨y,x % y,rfl,by simp,by unfold Hid;rw [hG.out,Nat.gcd_comm x y,Nat.gcd_rec];exact Nat.gcd_comm _ _,by omega,hE.trans hwn⟩,by simp [intOf];omega⟩
theorem Vr (n : Int) (h1 : -9223372036854775808 ≤ n) (h2 : n ≤ 9223372036854775807) (w : World) : Calls Tryz.prog 162 #[.int .i64 n] w fun e w' => e = .returned (.int .u64 (n.natAbs : Int)) ∧ Qb w w':=by
 by_cases h : n < 0
 ·have hb : decide (n < 0) = true:=decide_eq_true h
  go_enter Tryz.func162,Tryz.ntmps162
  go_wp2;go_ret;refine ⟨?_,Qu⟩
  simp
  omega
 ·have hb : decide (n < 0) = false:=decide_eq_false h
  go_enter Tryz.func162,Tryz.ntmps162
  go_wp2;go_ret;refine ⟨?_,Qu⟩
  simp
  omega
set_option maxHeartbeats 2000000 in
theorem Vl (n d : Int) (h1 : -9223372036854775808 ≤ n) (h2 : n ≤ 9223372036854775807) (h3 : -9223372036854775808 ≤ d) (h4 : d ≤ 9223372036854775807) (w : World) :
  Calls Tryz.prog 121 #[.agg #[.int .i64 n,.int .i64 d]] w fun e w' => e = .returned (.bool (Rt.ok ⟨n,d⟩)) ∧ Qb w w':=by
 have N1:=fun w => Vr n h1 h2 w
 have N2:=fun w => Vr d h3 h4 w
 have N3:=fun w => Al n.natAbs d.natAbs Qa w
 have HR : Hid (Rt.ok ⟨n,d⟩ = (decide (1 ≤ d) && decide (d ≤ 1048576) && decide (-1099511627776 ≤ n) && decide (n ≤ 1099511627776) && decide (Nat.gcd n.natAbs d.natAbs = 1))):=rfl;generalize Rt.ok ⟨n,d⟩ = r at *;clear h1 h2 h3 h4;by_cases a1 : 1 ≤ d;rotate_left
 ·rw [decide_eq_false a1] at HR;simp only [Bool.false_and] at HR;have a1b : decide (1 ≤ d) = false:=decide_eq_false a1
  go_enter Tryz.func121,Tryz.ntmps121
  go_upto_region 1 with (fail)
  obtain ⟨v,hv⟩:=Qf (w.alloc (.cells #[.int .i64 n,.int .i64 d] 65));rw [← hv];have E : Qb w v:=by rw [hv];exact (Qb.refl _).alloc _
  have B1 : Qc v w.heap.size 65 #[.int .i64 n,.int .i64 d]:=by rw [hv];exact Qc.new _ _ _
  clear hv;generalize w.heap.size = b1 at *;obtain ⟨k0,k1⟩:=B1.c2;have lk:=B1.lt;have m1:=fun x : World => N1 x
  have m2:=fun x : World => N2 x
  have m3:=fun x : World => N3 x
  refine Zo v ?_;intro w2 h;clear m1 m2 m3;obtain ⟨hcbw2,hfbw2,hzbw2,hzw2⟩:=Zn v h;go_wp2;go_ret;exact ⟨by rw [HR.out];rfl,E.trans h⟩
 have a1b : decide (1 ≤ d) = true:=decide_eq_true a1;rw [a1b] at HR;by_cases a2 : d ≤ 1048576;rotate_left
 ·rw [decide_eq_false a2] at HR;simp only [Bool.and_false,Bool.false_and] at HR;have a2b : decide (d ≤ 1048576) = false:=decide_eq_false a2
  go_enter Tryz.func121,Tryz.ntmps121
  go_upto_region 1 with (fail)
  obtain ⟨v,hv⟩:=Qf (w.alloc (.cells #[.int .i64 n,.int .i64 d] 65));rw [← hv];have E : Qb w v:=by rw [hv];exact (Qb.refl _).alloc _
  have B1 : Qc v w.heap.size 65 #[.int .i64 n,.int .i64 d]:=by rw [hv];exact Qc.new _ _ _
  clear hv;generalize w.heap.size = b1 at *;obtain ⟨k0,k1⟩:=B1.c2;have lk:=B1.lt;have m1:=fun x : World => N1 x
  have m2:=fun x : World => N2 x
  have m3:=fun x : World => N3 x
  refine Zo v ?_;intro w2 h;clear m1 m2 m3;obtain ⟨hcbw2,hfbw2,hzbw2,hzw2⟩:=Zn v h;go_wp2;go_ret;exact ⟨by rw [HR.out];rfl,E.trans h⟩
 have a2b : decide (d ≤ 1048576) = true:=decide_eq_true a2;rw [a2b] at HR;by_cases a3 : -1099511627776 ≤ n;rotate_left
 ·rw [decide_eq_false a3] at HR;simp only [Bool.and_false,Bool.false_and] at HR;have a3b : decide (-1099511627776 ≤ n) = false:=decide_eq_false a3
  go_enter Tryz.func121,Tryz.ntmps121
  go_upto_region 1 with (fail)
  obtain ⟨v,hv⟩:=Qf (w.alloc (.cells #[.int .i64 n,.int .i64 d] 65));rw [← hv];have E : Qb w v:=by rw [hv];exact (Qb.refl _).alloc _
  have B1 : Qc v w.heap.size 65 #[.int .i64 n,.int .i64 d]:=by rw [hv];exact Qc.new _ _ _
  clear hv;generalize w.heap.size = b1 at *;obtain ⟨k0,k1⟩:=B1.c2;have lk:=B1.lt;have m1:=fun x : World => N1 x
  have m2:=fun x : World => N2 x
  have m3:=fun x : World => N3 x
  refine Zo v ?_;intro w2 h;clear m1 m2 m3;obtain ⟨hcbw2,hfbw2,hzbw2,hzw2⟩:=Zn v h;go_wp2;go_ret;exact ⟨by rw [HR.out];rfl,E.trans h⟩
 have a3b : decide (-1099511627776 ≤ n) = true:=decide_eq_true a3;rw [a3b] at HR;by_cases a4 : n ≤ 1099511627776;rotate_left
 ·rw [decide_eq_false a4] at HR;simp only [Bool.and_false,Bool.false_and] at HR;have a4b : decide (n ≤ 1099511627776) = false:=decide_eq_false a4
  go_enter Tryz.func121,Tryz.ntmps121
  go_upto_region 1 with (fail)
  obtain ⟨v,hv⟩:=Qf (w.alloc (.cells #[.int .i64 n,.int .i64 d] 65));rw [← hv];have E : Qb w v:=by rw [hv];exact (Qb.refl _).alloc _
  have B1 : Qc v w.heap.size 65 #[.int .i64 n,.int .i64 d]:=by rw [hv];exact Qc.new _ _ _
  clear hv;generalize w.heap.size = b1 at *;obtain ⟨k0,k1⟩:=B1.c2;have lk:=B1.lt;have m1:=fun x : World => N1 x
  have m2:=fun x : World => N2 x
  have m3:=fun x : World => N3 x
  refine Zo v ?_;intro w2 h;clear m1 m2 m3;obtain ⟨hcbw2,hfbw2,hzbw2,hzw2⟩:=Zn v h;go_wp2;go_ret;exact ⟨by rw [HR.out];rfl,E.trans h⟩
 have a4b : decide (n ≤ 1099511627776) = true:=decide_eq_true a4;rw [a4b] at HR;simp only [Bool.true_and] at HR;by_cases hg : Nat.gcd n.natAbs d.natAbs = 1
 ·rw [decide_eq_true hg] at HR;rw [hg] at N3
  go_enter Tryz.func121,Tryz.ntmps121
  go_upto_region 1 with (fail)
  obtain ⟨v,hv⟩:=Qf (w.alloc (.cells #[.int .i64 n,.int .i64 d] 65));rw [← hv];have E : Qb w v:=by rw [hv];exact (Qb.refl _).alloc _
  have B1 : Qc v w.heap.size 65 #[.int .i64 n,.int .i64 d]:=by rw [hv];exact Qc.new _ _ _
  clear hv;generalize w.heap.size = b1 at *;obtain ⟨k0,k1⟩:=B1.c2;have lk:=B1.lt;have m1:=fun x : World => N1 x
  have m2:=fun x : World => N2 x
  have m3:=fun x : World => N3 x
  refine Zo v ?_;intro w2 h;clear m1 m2 m3;obtain ⟨hcbw2,hfbw2,hzbw2,hzw2⟩:=Zn v h;go_wp2;go_ret;exact ⟨by rw [HR.out];rfl,E.trans h⟩
 ·rw [decide_eq_false hg] at HR;have hgb : (((Nat.gcd n.natAbs d.natAbs : Nat) : Int) == 1) = false:=beq_eq_false_iff_ne.2 Qa;generalize Nat.gcd n.natAbs d.natAbs = gg at *
  go_enter Tryz.func121,Tryz.ntmps121
  go_upto_region 1 with (fail)
  obtain ⟨v,hv⟩:=Qf (w.alloc (.cells #[.int .i64 n,.int .i64 d] 65));rw [← hv];have E : Qb w v:=by rw [hv];exact (Qb.refl _).alloc _
  have B1 : Qc v w.heap.size 65 #[.int .i64 n,.int .i64 d]:=by rw [hv];exact Qc.new _ _ _
  clear hv;generalize w.heap.size = b1 at *;obtain ⟨k0,k1⟩:=B1.c2;have lk:=B1.lt;have m1:=fun x : World => N1 x
  have m2:=fun x : World => N2 x
  have m3:=fun x : World => N3 x
  refine Zo v ?_;intro w2 h;clear m1 m2 m3;obtain ⟨hcbw2,hfbw2,hzbw2,hzw2⟩:=Zn v h;go_wp2;go_ret;exact ⟨by rw [HR.out];rfl,E.trans h⟩
end
section
open Go Go.RowKit Go.Shelf
attribute [local go_sem] Zx
theorem Qa0 (x y : Nat) (hx : x < 18446744073709551616) (hy : y < 18446744073709551616) (w : World) :
  Calls Tryz.prog 189 #[.int .u64 x,.int .u64 y] w fun e w' => e = .returned (.tuple #[.int .u64 ((x * y / 18446744073709551616 : Nat) : Int),.int .u64 ((x * y % 18446744073709551616 : Nat) : Int)]) ∧ w = w' :=
 (Tryz.bits_Mul64 x y hx hy w).mono fun _ _ ⟨h1,h2⟩ => ⟨h1,h2.symm⟩
set_option maxHeartbeats 2000000 in
theorem Qd1 (A : Option Addr) (n ca : Nat) (f : Nat → Nat) (M : Nat) (hM : M < 18446744073709551616) (hM1 : 1 ≤ M) (hf : ∀ i,i < n → 1 ≤ f i) (hf2 : ∀ i,i < n → f i < 18446744073709551616) (w : World) (hA : Qs w A n 1 (fun i => [.int .u64 (f i : Int)])) (hn : n ≤ 9223372036854775807) :
  Calls Tryz.prog 187 #[.slice A n ca,.int .u64 (M : Int)] w fun e w' => e = .returned (.tuple #[.int .u64 (((if upTo f n ≤ M then upTo f n else 0) : Nat) : Int),.bool (decide (upTo f n ≤ M))]) ∧ Qb w w':=by
 obtain ⟨R,hR⟩ : ∃ R : Nat × Bool,R = (if upTo f n ≤ M then upTo f n else 0,decide (upTo f n ≤ M)):=⟨_,rfl⟩;have HR:=Lib.hid hR;rw [show (if upTo f n ≤ M then upTo f n else 0) = R.1 by rw [hR],show decide (upTo f n ≤ M) = R.2 by rw [hR]];clear hR;obtain ⟨r1,r2⟩:=R
 go_enter Tryz.func187,Tryz.ntmps187
 go_wp2
 go_loopw [6,13] (fun p i wr => ∃ k : Nat,k ≤ n ∧ i = .int .i64 k ∧ ∃ q : Nat,p = .int .u64 (q : Int) ∧ Hid (q = upTo f k) ∧ q ≤ M ∧ Qb w wr) (fun _ i _ => n - (intOf i).toNat)
 case atStart => exact ⟨0,Nat.zero_le _,rfl,1,rfl,rfl,hM1,Qb.refl _⟩
 case round =>
  obtain ⟨k,hk,rfl,q,rfl,hq,hqM,hE⟩:=hrel;obtain ⟨wo,rfl⟩:=Qf wr;obtain ⟨hcwo,hfwo,hzwo⟩:=Qb.rules hE;try simp only [World.size_alloc] at hzwo
  obtain ⟨hcbwo,hfbwo,hzbwo⟩:=Qb.rules (show Qb w wo from Qu);clear hcwo hfwo;by_cases hlt : k < n
  ·obtain ⟨b, off, rfl, hb, hc⟩ := hA Qa;have c0 : w.cell? ⟨b, off + k, none⟩ = some (.int .u64 (f k : Int)) := by simpa using hc k 0 _ hlt rfl
   have F1:=hf k hlt;have F2:=hf2 k hlt;have hs : Hid (upTo f (k + 1) = q * f k):=by unfold Hid;rw [hq.out];rfl
   have hmn:=Qnj hf (k + 1) n Qa (Nat.le_refl _);have NM:=fun w => Qa0 q (f k) Qa F2 w
   have HM:=Lib.hid hmn;clear hmn hf hf2 hc hA;generalize f k = x at *;generalize q * x = z at *;go_upto_region 6 with (go_at_call 189;(with_reducible refine zc (NM _) ?_);rintro e w' ⟨rfl,rfl⟩)
   by_cases hbig : z ≤ M
   ·have d1 : (z : Int) / 18446744073709551616 = 0 := by omega
    have d2 : (z : Int) % 18446744073709551616 = z:=by omega
    simp only [d1,d2];clear d1 d2;have g1 : decide ((M : Int) < (z : Int)) = false:=decide_eq_false Qa;go_wp2;exact ⟨⟨k + 1,by omega,by go_num,z,rfl,hs.out.symm,hbig,Qu⟩,by simp [intOf];omega⟩
   ·have hno : ¬ upTo f n ≤ M:=by
     have:=HM.out;rw [hs.out] at this;omega
    have hr:=HR.out;rw [if_neg hno,decide_eq_false hno] at hr;obtain ⟨rfl,rfl⟩:=Prod.mk.inj hr;clear hr hno HR HM hs hq;by_cases hh : (z : Int) / 18446744073709551616 = 0
    ·have d2 : (z : Int) % 18446744073709551616 = z := by omega
     simp only [hh,d2];clear hh d2;have g1 : decide ((M : Int) < (z : Int)) = true:=decide_eq_true Qa;go_wp2;go_ret2;exact ⟨rfl,Qu⟩
    ·have g0 : (((z : Int) / 18446744073709551616) != 0) = true := by rw [bne, beq_eq_false_iff_ne.2 hh]; rfl
     clear hh;generalize (z : Int) / 18446744073709551616 = zh at *;generalize (z : Int) % 18446744073709551616 = zl at *;go_wp2;go_ret2;exact ⟨rfl,Qu⟩
  ·obtain rfl : k = n := by omega
   go_wp2;go_ret2;have hr:=HR.out;rw [← hq.out,if_pos hqM,decide_eq_true hqM] at hr;obtain ⟨rfl,rfl⟩:=Prod.mk.inj hr;exact ⟨rfl,Qu⟩
end
section
open Go Go.RowKit
section
variable {P : Program} {ops : Array Oper} {md : Region.Mode} {C : World → Prop}
theorem Qn7 {Q Q' : Exit → Act → World → Prop} (hQ : ∀ e a w,e ≠ .normal → Q e a w → Q' e a w) {o : Oper} {a : Act} {w : World} {K K' : Act → World → Prop} (h : ∀ a w,K a w → K' a w)
  (hh : o.wp P a w K Q) : o.wp P a w K' Q':=by
 have hL : LetsOut Q → LetsOut Q':=fun ⟨a,w,h⟩ => ⟨a,w,hQ _ _ _ (by simp) h⟩
 unfold Oper.wp at *;generalize (execOp a.eval o).run P w = r at *
 cases r with
 | ok n w' =>
  cases n <;> simp only [Oper.upon] at hh ⊢ <;>
   first
    | exact h _ _ hh
    | exact Calls.mono hh (fun e w'' he => by cases e <;> first | exact h _ _ he | exact hL he | exact hQ _ _ _ (by simp) he)
    | exact Rows.mono hh (fun _ _ he => h _ _ he)
    | exact hh
 | halt x w' => cases x <;> simp only [Oper.upon] at hh ⊢ <;> first | exact hQ _ _ _ (by simp) hh | exact hh
end
/-- A post-condition that only the way on can meet. -/
def Zz (R : Act → World → Prop) : Exit → Act → World → Prop
 | .normal,a,w => R a w
 | _,_,_ => False
section
variable {P : Program} {ops : Array Oper} {md : Region.Mode} {C : World → Prop}
theorem Qlg {R : Act → World → Prop} {Q : Exit → Act → World → Prop} {e : Exit} {a : Act} {w : World} (he : e ≠ .normal) (h : Zz R e a w) : Q e a w:=by
 cases e <;> first | exact absurd rfl he | exact False.elim h
theorem P3 {R : Act → World → Prop} (h : LetsOut (Zz R)) : False:=by
 obtain ⟨_,_,h⟩:=h;exact h
theorem Qe {S : Act → World → Prop} {a : Act} {w : World} (h1 : C w) (h2 : S a w) : Zz (fun a' w' => C w' ∧ S a' w') .normal a w:=⟨h1,h2⟩
def Wx (P : Program) (ops : Array Oper) (C : World → Prop) (o : Oper) (v : Value) (a : Act) : Prop :=
 Region.wanted o (yielded ops a.tmps) = true ∧ ∀ w,C w → o.quietAt P a (fun w' => w' = w) w v
theorem Wx.wpOp {i : Nat} {o : Oper} {v : Value} {a : Act} (hi : ops[i]? = some o) (hy : Wx P ops C o v a) {Q : Exit → Act → World → Prop} {K : Act → World → Prop} {w : World} (hw : C w) (h : K (a.put o.dst v) w) : wpOp P ops Q i K a w:=by
 unfold Go.wpOp;simp only [hi,hy.1,if_true];refine .inl (Oper.wp_of_quiet (C:=fun w' => w' = w) (K:=fun a' => a' = a.put o.dst v) rfl (fun a' w' h1 h2 => by rw [h1,h2];exact h) ⟨v,fun w' h1 => by rw [h1];exact hy.2 w hw,rfl⟩)
theorem Wu {i : Nat} {o : Oper} {R : Act → World → Prop} {a : Act} {w : World} (hi : ops[i]? = some o) (h : wpList P ops (Zz R) [o] a w) : wpOp P ops (Zz R) i R a w:=by
 unfold Go.wpOp;simp only [hi];unfold wpList at h;by_cases hw : Region.wanted o (yielded ops a.tmps) = true
 ·rw [if_pos hw] at h ⊢;exact h.imp (Oper.wp_mono fun _ _ h => h) id
 ·rw [if_neg hw] at h ⊢;exact h
theorem Wh {i : Nat} {R : Act → World → Prop} {Q : Exit → Act → World → Prop} {K : Act → World → Prop} {a : Act} {w : World} (h : wpOp P ops (Zz R) i K a w) : wpOp P ops Q i K a w:=by
 unfold Go.wpOp at *
 split
 ·rename_i ho;simp only [ho] at h;exact h
 ·rename_i o ho
  simp only [ho] at h
  split
  ·rename_i hw
   rw [if_pos hw] at h;exact h.imp (Qn7 (fun _ _ _ he h => Qlg he h) fun _ _ h => h) fun hl => (P3 hl.2).elim
  ·rename_i hw;rw [if_neg hw] at h;exact h
theorem Bg {j : Nat} {oi oj : Oper} {v : Value} (hj : ops[j]? = some oj) (hap : oi.apart ops oj = true)
  (hsi : ∀ cs b,oi.op ≠ .select cs b) (hsj : ∀ cs b,oj.op ≠ .select cs b) {K R : Act → World → Prop} {Q : Exit → Act → World → Prop} {a : Act} {w : World}
  (hy : Wx P ops C oi v a) (h : wpOp P ops (Zz R) j K (a.put oi.dst v) w) :
  wpOp P ops Q j (fun a' w' => Wx P ops C oi v a' ∧ K (a'.put oi.dst v) w') a w:=by
 obtain ⟨h1,h2,h3⟩:=Oper.apart_spec hap
 have keep : ∀ (a : Act),Wx P ops C oi v a → ∀ u,Wx P ops C oi v (a.put oj.dst u):=fun a hy u => by
  refine ⟨by rw [wanted_put oi a oj.dst u h3];exact hy.1,fun w hw => ?_⟩;have:=hy.2 w hw;unfold Oper.quietAt at *;rw [execOp_put oi hsi a oj.dst u h3];exact this
 have keepD : ∀ d,Wx P ops C oi v { a with defers:=d :: a.defers }:=fun d => ⟨hy.1,fun w hw => hy.2 w hw⟩
 unfold Go.wpOp at *;simp only [hj] at *;rw [wanted_put oj a oi.dst v h1] at h
 split
 ·rename_i hw
  rw [if_pos hw] at h;rcases h with h | hl
  case inr => exact (P3 hl.2).elim
  refine .inl ?_;unfold Oper.wp at *;rw [execOp_put oj hsj a oi.dst v h1] at h;generalize (execOp a.eval oj).run P w = r at *
  cases r with
  | ok n w' =>
   cases n <;> simp only [Oper.upon] at h ⊢
   case value u => exact ⟨keep a hy u,by rw [← Act.put_comm a v u h2];exact h⟩
   case skip => exact ⟨keep a hy _,by rw [← Act.put_comm a v undef h2];exact h⟩
   case defer d =>
    refine ⟨keep _ (keepD d) _,?_⟩;rw [← Act.put_comm _ v undef h2,← Act.put_defers];exact h
   case enter f args =>
    refine Calls.mono h fun e w'' he => ?_
    cases e with
    | returned u => exact ⟨keep a hy u,by rw [← Act.put_comm a v u h2];exact he⟩
    | panicked c => exact False.elim he
    | outgrown => exact (P3 he).elim
   case row row args => exact Rows.mono h fun u w'' he => ⟨keep a hy u,by rw [← Act.put_comm a v u h2];exact he⟩
  | halt x w' =>
   cases x <;> simp only [Oper.upon] at h ⊢
   case panic u => exact False.elim h
 ·rename_i hw
  rw [if_neg hw] at h;exact ⟨keep a hy _,by rw [← Act.put_comm a v undef h2];exact h⟩
/-! ### The orders -/
end
section
variable {P : Program} {ops : Array Oper} {md : Region.Mode} {C : World → Prop}
def Ys (P : Program) (md : Region.Mode) (ops : Array Oper) (C : World → Prop) (R : Act → World → Prop) : Nat → Array Bool → Act → World → Prop
 | 0,L,a,w => Region.ready md ops L = [] ∧ R a w
 | f + 1,L,a,w => (Region.ready md ops L = [] → R a w) ∧ ∀ i ∈ Region.ready md ops L,wpOp P ops (Zz fun _ _ => False) i (fun a' w' => C w' ∧ Ys P md ops C R f (L.setIfInBounds i true) a' w') a w
theorem Qea {i : Nat} {Q : Exit → Act → World → Prop} {K : Act → World → Prop} {a : Act} {w : World} (h : wpOp P ops (Zz fun _ _ => False) i K a w) : wpOp P ops Q i K a w:=Wh h
theorem Be {R : Act → World → Prop} : ∀ (f : Nat) (L : Array Bool) (a : Act) (w : World),Ys P md ops C R f L a w → wpAny P md ops (Zz R) f L a w
 | 0,_,_,_,h => h
 | f + 1,_,_,_,h => ⟨h.1,fun i hi => wpOp_mono (fun a' w' h' => Be f _ a' w' h'.2) (Qea (h.2 i hi))⟩
/-- An operation that leaves the world may be taken first. -/
theorem Qd4 {R : Act → World → Prop} {i : Nat} {oi : Oper} {v : Value} (hi : ops[i]? = some oi) (hsel : ∀ (j : Nat) (o : Oper) cs b,ops[j]? = some o → o.op ≠ .select cs b) :
  ∀ (f : Nat) (L : Array Bool) (a : Act) (w : World),
   (∀ j oj,ops[j]? = some oj → j ≠ i → L.getD j true = false → (∀ e ∈ oj.after,Region.binds md e = true → e.on ≠ i) → oi.apart ops oj = true) →
   i ∈ Region.ready md ops L → C w → Wx P ops C oi v a →
   Ys P md ops C R f (L.setIfInBounds i true) (a.put oi.dst v) w → Ys P md ops C R (f + 1) L a w:=by
 intro f
 induction f with
 | zero =>
  intro L a w _ hr hw hy H;refine ⟨fun h => (by rw [h] at hr;cases hr),fun j hj => ?_⟩;by_cases hji : j = i
  ·subst hji;exact hy.wpOp hi hw ⟨hw,H⟩
  ·have:=ready_mono hj hji;rw [H.1] at this
   cases this
 | succ f ih =>
  intro L a w hfree hr hw hy H;refine ⟨fun h => (by rw [h] at hr;cases hr),fun j hj => ?_⟩;by_cases hji : j = i
  ·subst hji;exact hy.wpOp hi hw ⟨hw,H⟩
  ·have h1:=H.2 j (ready_mono hj hji);obtain ⟨hjun,oj,hoj,hall⟩:=mem_ready.1 hj
   have hnot : ∀ e ∈ oj.after,Region.binds md e = true → e.on ≠ i:=fun e he hb heq => by
    have h1:=hall e he hb;rw [heq,getD_both (mem_ready.1 hr).1] at h1;cases h1
   have h2:=Bg (Q:=Zz fun _ _ => False) hoj (hfree j oj hoj hji hjun hnot) (fun cs b => hsel i oi cs b hi) (fun cs b => hsel j oj cs b hoj) hy h1
   have hfree' : ∀ k ok,ops[k]? = some ok → k ≠ i → (L.setIfInBounds j true).getD k true = false → (∀ e ∈ ok.after,Region.binds md e = true → e.on ≠ i) → oi.apart ops ok = true:=fun k ok hk hki hun hno => by
    refine hfree k ok hk hki ?_ hno;by_cases hjk : j = k
    ·subst hjk;exact hjun
    ·rw [getD_set_ne true hjk] at hun;exact hun
   refine wpOp_mono (fun a' w' h3 => ⟨h3.2.1,ih (L.setIfInBounds j true) a' w' hfree' (ready_mono hr (Ne.symm hji)) h3.2.1 h3.1 ?_⟩) h2;rw [Array.setIfInBounds_comm _ _ hji];exact h3.2.2
/-! ### The values of the operations that leave the world -/
def Yd : List Oper → Bool
 | [] => true
 | o :: l => o.guard.isNone && (match o.dst with | some d => l.all fun q => q.dst != some d | none => false) && Yd l
theorem Ft {A : Act} {w : World} {d : Tmp} : ∀ (l : List Oper) (a : Act),(l.all fun q => q.dst != some d) = true → wpQuiet P ops (fun w' => w' = w) (fun a' => a' = A) l a → A.tmps[d]? = a.tmps[d]?
 | [],a,_,h => by
  have h : a = A:=h
  rw [h]
 | o :: l,a,hd,h => by
  simp only [List.all_cons,Bool.and_eq_true,bne_iff_ne,ne_eq] at hd
  have keep : ∀ v,(a.put o.dst v).tmps[d]? = a.tmps[d]?:=fun v => by
   cases ho : o.dst with
   | none => rfl
   | some e =>
    have hne : e ≠ d:=fun he => hd.1 (by rw [ho,he])
    simp [Act.put,Array.getElem?_setIfInBounds_ne hne]
  unfold wpQuiet at h
  split at h
  ·obtain ⟨v,_,h2⟩:=h;rw [Ft l _ hd.2 h2,keep]
  ·rw [Ft l _ hd.2 h,keep]
theorem Qm3 {W : World} {A : Act} {o : Oper} {l : List Oper} {a : Act} (hb : Yd (o :: l) = true) (hz : ∀ d,o.dst = some d → d < a.tmps.size) (h : ∀ u : XW W,wpQuiet P ops (fun w' => w' = u.w) (fun a' => a' = A) (o :: l) a) :
  ∃ v,Wx P ops (Qb W) o v a ∧ ∀ u : XW W,wpQuiet P ops (fun w' => w' = u.w) (fun a' => a' = A) l (a.put o.dst v):=by
 simp only [Yd,Bool.and_eq_true] at hb;obtain ⟨⟨hg,hd⟩,_⟩:=hb
 cases ho : o.dst with
 | none => rw [ho] at hd;cases hd
 | some d =>
  rw [ho] at hd
  have hw : Region.wanted o (yielded ops a.tmps) = true:=by
   unfold Region.wanted
   cases hgo : o.guard with
   | none => rfl
   | some g => rw [hgo] at hg;cases hg
  have each : ∀ u : XW W,∃ v,o.quietAt P a (fun w' => w' = u.w) u.w v ∧ A.tmps[d]? = some v ∧ wpQuiet P ops (fun w' => w' = u.w) (fun a' => a' = A) l (a.put (some d) v):=fun u => by
   have h1:=h u;unfold wpQuiet at h1;rw [if_pos hw] at h1;obtain ⟨v,h2,h3⟩:=h1;rw [ho] at h3;refine ⟨v,h2 _ rfl,?_,h3⟩;rw [Ft l _ hd h3];simp [Act.put,hz d ho]
  obtain ⟨v,_,hv,_⟩:=each ⟨W,Qb.refl W⟩;refine ⟨v,⟨hw,fun w' e => ?_⟩,fun u => ?_⟩
  ·obtain ⟨v',h1,h2,_⟩:=each ⟨w',e⟩;rw [hv] at h2;rw [Option.some.inj h2];exact h1
  ·obtain ⟨v',_,h2,h3⟩:=each u;rw [hv] at h2;rw [Option.some.inj h2];exact h3
end
section
variable {P : Program} {ops : Array Oper} {md : Region.Mode} {C : World → Prop} {R : Act → World → Prop}
def L7 (md : Region.Mode) (ops : Array Oper) : List Nat → Array Bool → Bool
 | [],_ => true
 | k :: ks,L => (Region.ready md ops L).contains k && Region.free md ops L k && L7 md ops ks (L.setIfInBounds k true)
def Vb : List Nat → Array Bool → Array Bool
 | [],L => L
 | k :: ks,L => Vb ks (L.setIfInBounds k true)
def Y9 (a : Act) (l : List Oper) : Bool:=l.all fun o => match o.dst with | some d => decide (d < a.tmps.size) | none => true
theorem Bp {W : World} {A : Act} {g : Nat} (hs : Region.noSelect ops = true) : ∀ (ks : List Nat) (l : List Oper) (L : Array Bool) (a : Act) (w : World),l.map some = ks.map (fun k => ops[k]?) → Yd l = true → Y9 a l = true →
  L7 md ops ks L = true → Qb W w → (∀ u : XW W,wpQuiet P ops (fun w' => w' = u.w) (fun a' => a' = A) l a) → Ys P md ops (Qb W) R g (Vb ks L) A w → Ys P md ops (Qb W) R (l.length + g) L a w
 | [],[],L,a,w,_,_,_,_,_,h,H => by
  have e : a = A:=h ⟨W,Qb.refl W⟩;subst e;rw [List.length_nil,Nat.zero_add]
  exact H
 | k :: ks,o :: l,L,a,w,hl,hd,hz,hB,hw,h,H => by
  simp only [List.map_cons,List.cons.injEq] at hl;have h0 : ops[k]? = some o:=hl.1.symm;simp only [L7,Bool.and_eq_true] at hB;obtain ⟨⟨hr,hf⟩,hB'⟩:=hB;have hzo:=hz;simp only [Y9,List.all_cons,Bool.and_eq_true] at hzo;obtain ⟨v,hy,hn⟩:=Qm3 hd (fun d he => by have:=hzo.1;rw [he] at this;simpa using this) h;have hd' : Yd l = true:=by simp only [Yd,Bool.and_eq_true] at hd;exact hd.2
  have hsz : (a.put o.dst v).tmps.size = a.tmps.size:=by cases o.dst <;> simp [Act.put]
  rw [show (o :: l).length + g = (l.length + g) + 1 by simp only [List.length_cons];omega]
  exact Qd4 h0 (Region.noSelect_spec hs) _ L a w (Region.free_spec h0 hf) (by simpa using hr) hw hy
   (Bp hs ks l _ _ w hl.2 hd' (by unfold Y9;rw [hsz];exact hzo.2) hB' hw hn H)
 | [],_ :: _,_,_,_,hl,_,_,_,_,_,_ => by simp at hl
 | _ :: _,[],_,_,_,hl,_,_,_,_,_,_ => by simp at hl
def La (ops : Array Oper) : List Nat → List Oper → Prop
 | [],[] => True
 | k :: ks,o :: l => ops[k]? = some o ∧ La ops ks l
 | _,_ => False
theorem O3 : ∀ {ks : List Nat} {l : List Oper},La ops ks l → l.map some = ks.map (fun k => ops[k]?)
 | [],[],_ => rfl
 | k :: ks,o :: l,h => by rw [List.map_cons,List.map_cons,h.1,O3 h.2]
 | [],_ :: _,h => h.elim
 | _ :: _,[],h => h.elim
theorem Bm {W : World} {g f : Nat} {L : Array Bool} {a : Act} {w : World} (ks : List Nat) (l : List Oper) (hl : La ops ks l) (hB : (Region.noSelect ops && Yd l && L7 md ops ks L && decide (f = l.length + g)) = true) (hz : Y9 a l = true) (hw : Qb W w)
  (h : ∃ A,(∀ u : XW W,wpQuiet P ops (fun w' => w' = u.w) (fun a' => a' = A) l a) ∧ Ys P md ops (Qb W) R g (Vb ks L) A w) : Ys P md ops (Qb W) R f L a w:=by
 obtain ⟨A,h1,h2⟩:=h;simp only [Bool.and_eq_true,decide_eq_true_eq] at hB;obtain ⟨⟨⟨hs,hd⟩,hk⟩,rfl⟩:=hB;exact Bp hs ks l L a w (O3 hl) hd hz hk hw h1 h2
theorem Ve {f : Nat} {L : Array Bool} {a : Act} {w : World} {o : Oper} (k : Nat) (ho : ops[k]? = some o) (hB : decide (Region.ready md ops L = [k]) = true)
  (h : wpList P ops (Zz fun a' w' => C w' ∧ Ys P md ops C R f (L.setIfInBounds k true) a' w') [o] a w) : Ys P md ops C R (f + 1) L a w:=by
 have hB:=of_decide_eq_true hB;refine ⟨fun h => (by rw [hB] at h;cases h),fun j hj => ?_⟩;rw [hB,List.mem_singleton] at hj;subst hj;exact Wh (Wu ho h)
theorem Qem {f : Nat} {L : Array Bool} {a : Act} {w : World} {o1 o2 : Oper} (k1 k2 : Nat) (h1 : ops[k1]? = some o1) (h2 : ops[k2]? = some o2) (hB : decide (Region.ready md ops L = [k1,k2]) = true)
  (ha : wpList P ops (Zz fun a' w' => C w' ∧ Ys P md ops C R f (L.setIfInBounds k1 true) a' w') [o1] a w)
  (hb : wpList P ops (Zz fun a' w' => C w' ∧ Ys P md ops C R f (L.setIfInBounds k2 true) a' w') [o2] a w) : Ys P md ops C R (f + 1) L a w:=by
 have hB:=of_decide_eq_true hB;refine ⟨fun h => (by rw [hB] at h;cases h),fun j hj => ?_⟩;rw [hB] at hj;rcases List.mem_cons.1 hj with rfl | hj
 ·exact Wh (Wu h1 ha)
 ·rw [List.mem_singleton] at hj;subst hj;exact Wh (Wu h2 hb)
theorem Gf {L : Array Bool} {a : Act} {w : World} (hB : decide (Region.ready md ops L = []) = true) (h : R a w) : Ys P md ops C R 0 L a w:=⟨of_decide_eq_true hB,h⟩
end
end
section
open Go Go.RowKit
attribute [local go_sem] Zx
end
section
theorem Sj (c : Qd) {i j : Nat} (h : i ≤ j) : c.dayAt i ≤ c.dayAt j:=by
 induction j with
 | zero => obtain rfl : i = 0 := by omega
           exact Int.le_refl _
 | succ j ih =>
  rcases Nat.lt_or_ge j i with h' | h'
  ·obtain rfl : i = j + 1 := by omega
   exact Int.le_refl _
  ·have:=ih h';have:=Aw (c.yr j);rw [Qd.dayAt];omega
theorem Rj (c : Qd) (i : Nat) : ∀ (l : List (Int × Bool)) (d : Int) (x : It),x ∈ J5 i (c.yr i) d l → x.y = i ∧ d ≤ x.first ∧ x.first + x.len c ≤ d + (c.yr i).lens l
 | [],d,x,hx => by cases hx
 | p :: l,d,x,hx => by
  have h0:=Fa (c.yr i) l;have h1:=V6 (c.yr i) p.1 p.2;rw [J5] at hx;rw [Yr.lens];rcases List.mem_cons.1 hx with rfl | hx
  ·refine ⟨rfl,Int.le_refl _,?_⟩
   show d + (c.yr i).len p.1 p.2 ≤ _
   omega
  ·have:=Rj c i l _ x hx;omega
theorem Pc (c : Qd) : ∀ (k : Nat) (x : It),x ∈ c.itemsTo k → x.y < k ∧ c.dayAt x.y ≤ x.first ∧ x.first + x.len c ≤ c.dayAt (x.y + 1)
 | 0,x,hx => by cases hx
 | k + 1,x,hx => by
  rw [Qd.itemsTo,List.mem_append] at hx;rcases hx with hx | hx
  ·have:=Pc c k x hx;omega
  ·have h:=Rj c k _ _ x hx;refine ⟨by omega,by rw [h.1];exact h.2.1,by rw [h.1];exact h.2.2⟩
theorem I4 {c : Qd} {x : It} (hx : x ∈ c.items) : 1 ≤ x.first ∧ x.first + x.len c ≤ c.dayAt c.ny:=by
 have h:=Pc c c.ny x hx;have h1:=Sj c (i:=0) (j:=x.y) Qa;have h2:=Sj c (i:=x.y + 1) (j:=c.ny) Qa;have h3 : c.dayAt 0 = 1:=rfl;omega
theorem B8 {c : Qd} {n : Int} {o : Dt} : ∀ {l : List It},c.atFrom n l = some o → ∃ x,x ∈ l ∧ x.first ≤ n ∧ n - x.first < x.len c ∧ o = ⟨x.y,x.n,x.s,n - x.first + 1⟩
 | x :: l,h => by
  rw [Qd.atFrom] at h
  split at h
  ·rename_i hx
   exact ⟨x,List.mem_cons_self ..,hx.1,hx.2,by simpa using h.symm⟩
  ·obtain ⟨y,hy,h1⟩:=B8 h;exact ⟨y,List.mem_cons_of_mem _ hy,h1⟩
theorem at_out {c : Qd} {n : Int} (h : n < 1 ∨ c.dayAt c.ny ≤ n) : c.at? n = none:=by
 cases ho : c.at? n with
 | none => rfl
 | some o =>
  obtain ⟨x,hx,h1,h2,_⟩:=B8 ho;have:=I4 hx;omega
theorem Qbf {c : Qd} {d : Dt} (hd : c.has d = true) : ∀ (l : List It) (k : Int),(∀ x,x ∈ l → x ∈ c.items) → 0 ≤ (Ym d l k).1 ∧ (Ym d l k).1 ≤ c.dayAt c.ny - 1
 | [],k,_ => by
  have h2:=Gv c c.ny
  simp [Ym];omega
 | x :: l,k,hl => by
  rw [Ym]
  split
  ·rename_i hx
   have h1:=I4 (hl x (List.mem_cons_self ..));simp only [Qd.has,Bool.and_eq_true,decide_eq_true_eq] at hd;simp only [It.of,Bool.and_eq_true,decide_eq_true_eq,beq_iff_eq] at hx
   have e : x.len c = (c.yrI d.y).len d.m d.s:=by
    unfold It.len Qd.yrI;rw [hx.2,hx.1.2,← hx.1.1];rfl
   simp only
   omega
  ·exact Qbf hd l (k + 1) (fun y hy => hl y (List.mem_cons_of_mem _ hy))
theorem num_le {c : Qd} {d : Dt} (hd : c.has d = true) : 0 ≤ (c.num d).1 ∧ (c.num d).1 ≤ c.dayAt c.ny - 1:=Qbf hd c.items 0 (fun _ h => h)
end
end Go.Proofs.YtoflcheopfppoaaGreatDoor
