/- Walks of the program's functions and plain facts, packed; proved: the lemmas below; no conditions but those that each states. -/
import Derived.Test.YtoflcheopfppoaaGreatDoorL13
import Derived.Test.YtoflcheopfppoaaGreatDoorL15
import Derived.Laws.StructEq
import Derived.Test.YtoflcheopfppoaaGreatDoorL11
import Derived.Test.YtoflcheopfppoaaGreatDoorL10
import Derived.Test.YtoflcheopfppoaaGreatDoorL1
import Derived.Test.YtoflcheopfppoaaGreatDoorL7
import Derived.Test.YtoflcheopfppoaaGreatDoorL12
set_option maxRecDepth 100000
set_option maxHeartbeats 4000000
namespace Go.Proofs.YtoflcheopfppoaaGreatDoor
section
/-- The ins from k on with which an out may be matched. -/
def fl (my : Nat → Bool) (ni k : Nat) : List Nat:=(List.range' k (ni - k)).filter my
theorem Dq {my : Nat → Bool} {ni : Nat} : fl my ni ni = []:=by simp [fl]
theorem Dr {my : Nat → Bool} {ni k : Nat} (hk : k < ni) (h : my k = false) : fl my ni k = fl my ni (k + 1):=by
 unfold fl;rw [show ni - k = (ni - (k + 1)) + 1 by omega,List.range'_succ,List.filter_cons,h];rfl
theorem Ds {my : Nat → Bool} {ni k : Nat} (hk : k < ni) (h : my k = true) : fl my ni k = k :: fl my ni (k + 1):=by
 unfold fl;rw [show ni - k = (ni - (k + 1)) + 1 by omega,List.range'_succ,List.filter_cons,h];rfl
def Zp (my : Nat → Nat → Bool) (ni : Nat) (o : Nat) : List Nat:=(List.range ni).filter (my o)
theorem Sv (my : Nat → Nat → Bool) (ni o : Nat) : Zp my ni o = fl (my o) ni 0:=by
 unfold Zp fl;rw [List.range_eq_range'];rfl
theorem Gm (my : Nat → Nat → Bool) (ni : Nat) : ∀ o,∀ k ∈ Zp my ni o,k < ni:=fun _ _ hk => List.mem_range.1 (List.mem_filter.1 hk).1
/-- The greedy count, one out at a time. -/
theorem Dw {adj : Nat → List Nat} {ni n s : Nat} {fx : Bl} {m : Mt} (h : (Q3 adj ni m fx s).1 = none) : Zo adj ni fx (n + 1) s m = Zo adj ni fx n (s + 1) m:=by
 conv => lhs;unfold Zo
 rw [h]
theorem Dx {adj : Nat → List Nat} {ni n s : Nat} {fx : Bl} {m m' : Mt} (h : (Q3 adj ni m fx s).1 = some m') : (Zo adj ni fx (n + 1) s m).2 = (Zo adj ni fx n (s + 1) m').2 + 1:=by
 conv => lhs;unfold Zo
 rw [h]
theorem Np {adj : Nat → List Nat} {ni : Nat} {fx : Bl} : ∀ (n s : Nat) (m : Mt),(Zo adj ni fx n s m).2 ≤ n
 | 0,_,_ => Nat.le_refl _
 | n + 1,s,m => by
  cases h : (Q3 adj ni m fx s).1 with
  | none => rw [Dw h];have:=Np (adj:=adj) (ni:=ni) (fx:=fx) n (s + 1) m;omega
  | some m' => rw [Dx h];have:=Np (adj:=adj) (ni:=ni) (fx:=fx) n (s + 1) m';omega
/-- What a partner's number is, in the run of the greedy count. -/
theorem Dv {adj : Nat → List Nat} {ni f s : Nat} {fx : Bl} {m : Mt} (h : Up adj ni f fx s m) {no : Nat} (hs : s ≤ no) : ∀ k,k < ni → 0 ≤ m.1 k → (m.1 k).toNat < no:=fun k hk h0 => by
 by_cases e : fx k = true
 ·have:=h.x k hk e;omega
 ·have:=(h.v.a k hk (by simpa using e) h0).1.2;omega
/-- The reference's choice, in at a time. -/
theorem Qhv {adj : Nat → List Nat} {ni no i k : Nat} {left : Int} {fx : Bl} {r : List Nat} (h : fx k = true) : Jw adj ni no i left fx (k :: r) = Jw adj ni no i left fx r:=by
 conv => lhs;unfold Jw
 rw [if_pos h]
theorem Qhw {adj : Nat → List Nat} {ni no i k : Nat} {left : Int} {fx : Bl} {r : List Nat} (h : fx k = false) (hn : ((Zo adj ni (Qk fx k true) (no - (i + 1)) (i + 1) Z8).2 : Int) = left - 1) : Jw adj ni no i left fx (k :: r) = some k:=by
 conv => lhs;unfold Jw
 rw [if_neg (by simp [h]),if_pos hn]
theorem Qhu {adj : Nat → List Nat} {ni no i k : Nat} {left : Int} {fx : Bl} {r : List Nat} (h : fx k = false) (hn : ((Zo adj ni (Qk fx k true) (no - (i + 1)) (i + 1) Z8).2 : Int) ≠ left - 1) : Jw adj ni no i left fx (k :: r) = Jw adj ni no i left fx r:=by
 conv => lhs;unfold Jw
 rw [if_neg (by simp [h]),if_neg hn]
theorem Qis {fx : Bl} {k : Nat} (h : fx k = false) : Qk (Qk fx k true) k false = fx:=by
 funext x
 unfold Qk;by_cases e : x = k
 ·rw [if_pos e,e,h]
 ·rw [if_neg e,if_neg e]
/-- What the reference asks of Vs deals. -/
def Qf.mayR (c : Qf) (l : List Pd) (days : Int) (x y : Rf) : Bool :=
 !decide ((l.getD x.1 Qx).h = (l.getD y.1 Qx).h) && decide ((Q0 l x).w = (l.getD y.1 Qx).h) && decide ((Q0 l y).w = (l.getD x.1 Qx).h) && !(Q0 l x).i && (Q0 l y).i && decide ((Q0 l x).l = (Q0 l y).l) && decide (0 ≤ c.numV (Q0 l y).on - c.numV (Q0 l x).on) && decide (c.numV (Q0 l y).on - c.numV (Q0 l x).on ≤ days)
theorem Qfo {c : Qf} {l : List Pd} {days : Int} (h : ∀ p ∈ l,Xu c p) {x y : Rf} (hx : x ∈ Q9 l false) (hy : y ∈ Q9 l true) : c.mayR l days x y = c.mayB l days x y:=by
 obtain ⟨_,_,x3⟩:=U3.1 hx;obtain ⟨_,_,y3⟩:=U3.1 hy;obtain ⟨p1,p2⟩:=pok_at h hx;have hne:=(p1.l _ p2).2.1;unfold Qf.mayR Qf.mayB;rw [x3,y3];simp only [Bool.not_false,Bool.and_true];by_cases g1 : (Q0 l x).w = (l.getD y.1 Qx).h
 ·have : ¬ (l.getD x.1 Qx).h = (l.getD y.1 Qx).h:=fun e => hne (by rw [g1,e])
  rw [decide_eq_true g1,decide_eq_false this]
  simp
 ·rw [decide_eq_false g1]
  simp
def Qf.myR (c : Qf) (l : List Pd) (days : Int) (i k : Nat) : Bool:=c.mayR l days ((Q9 l false).getD i Q7) ((Q9 l true).getD k Q7)
theorem Pg {adj adj' : Nat → List Nat} {no : Nat} (h : ∀ o,o < no → adj o = adj' o) {ni : Nat} (hadj : ∀ o,∀ k ∈ adj o,k < ni) {m : Mt} (hm : ∀ k,k < ni → 0 ≤ m.1 k → (m.1 k).toNat < no) : ∀ (n : Nat) (b : Bl) (i : Nat),i < no → Q3 adj n m b i = Q3 adj' n m b i
 | 0,_,_,_ => rfl
 | n + 1,b,i,hi => by
  have IH:=Pg h hadj hm n;unfold Q3;rw [← h i hi]
  have : ∀ (l : List Nat) (b : Bl),(∀ k ∈ l,k < ni) → Zy (Q3 adj n) i l m b = Zy (Q3 adj' n) i l m b:=fun l => by
   induction l with
   | nil => intro _ _;rfl
   | cons k r ih =>
    intro b hl;have ih:=fun b => ih b fun x hx => hl x (List.mem_cons_of_mem _ hx)
    by_cases e1 : b k = true
    ·unfold Zy;rw [if_pos e1,if_pos e1,ih b]
    ·by_cases e2 : m.1 k < 0
     ·unfold Zy;rw [if_neg e1,if_neg e1,if_pos e2,if_pos e2]
     ·have h1:=IH (Qk b k true) (m.1 k).toNat (hm k (hl k List.mem_cons_self) (by omega));unfold Zy;rw [if_neg e1,if_neg e1,if_neg e2,if_neg e2,h1]
      split
      ·rfl
      ·exact ih _
  exact this _ _ (hadj i)
theorem Fz {adj adj' : Nat → List Nat} {no : Nat} (h : ∀ o,o < no → adj o = adj' o) {ni f : Nat} (hadj : ∀ o,∀ k ∈ adj o,k < ni) {fx : Bl} : ∀ (n s : Nat) (m : Mt),f ≤ s → s + n = no → Up adj ni f fx s m → Zo adj ni fx n s m = Zo adj' ni fx n s m
 | 0,_,_,_,_,_ => rfl
 | n + 1,s,m,hf,hn,hG => by
  have e:=Pg h hadj (Dv hG (show s ≤ no by omega)) ni fx s (by omega);have hG':=(F9 hadj hf hG).1;have IH:=Fz h hadj n (s + 1) _ (by omega) (by omega) hG';unfold Zo;rw [← e]
  cases h1 : (Q3 adj ni m fx s).1 with
  | none => rw [h1] at IH;exact IH
  | some m' =>
   rw [h1] at IH;exact congrArg (fun x : Mt × Nat => (x.1,x.2 + 1)) IH
theorem Ij {adj adj' : Nat → List Nat} {no : Nat} (h : ∀ o,o < no → adj o = adj' o) {ni : Nat} (hadj : ∀ o,∀ k ∈ adj o,k < ni) {i : Nat} (hi : i < no) {left : Int} {fx : Bl} : ∀ (l : List Nat),Jw adj ni no i left fx l = Jw adj' ni no i left fx l
 | [] => rfl
 | k :: r => by
  have IH:=Ij h hadj hi (left:=left) (fx:=fx) r;have e:=Fz h hadj (fx:=Qk fx k true) (f:=i + 1) (no - (i + 1)) (i + 1) Z8 (Nat.le_refl _) (by omega) (Lw adj ni (i + 1) _);unfold Jw;rw [e,IH]
theorem Ii {adj adj' : Nat → List Nat} {no : Nat} (h : ∀ o,o < no → adj o = adj' o) {ni : Nat} (hadj : ∀ o,∀ k ∈ adj o,k < ni) : ∀ (n i : Nat) (left : Int) (fx : Bl),i + n = no → Yo adj ni no n i left fx = Yo adj' ni no n i left fx
 | 0,_,_,_,_ => rfl
 | n + 1,i,left,fx,hn => by
  have IH:=fun l f => Ii h hadj n (i + 1) l f (by omega)
  have e:=Ij h hadj (i:=i) (by omega) (left:=left) (fx:=fx) (adj i);unfold Yo;rw [← h i (by omega),← e]
  split
  ·rw [IH]
  ·rw [IH]
/-- The reference's pairs are the program's. -/
theorem Qfl {c : Qf} {l : List Pd} {days : Int} (h : ∀ p ∈ l,Xu c p) : Yo (Zp (c.myR l days) (Q9 l true).length) (Q9 l true).length (Q9 l false).length (Q9 l false).length 0 (Zo (Zp (c.myR l days) (Q9 l true).length) (Q9 l true).length (fun _ => false) (Q9 l false).length 0 Z8).2 (fun _ => false) = c.matchI l days:=by
 have e : ∀ o,o < (Q9 l false).length → Zp (c.myR l days) (Q9 l true).length o = c.adjA l days o:=fun o ho => by
  unfold Zp Qf.adjA;refine List.filter_congr fun k hk => ?_
  exact Qfo h (Xy ho) (Xy (List.mem_range.1 hk))
 have hl:=Gm (c.myR l days) (Q9 l true).length;rw [Fz e hl (f:=0) (Q9 l false).length 0 Z8 (Nat.le_refl _) (by omega) (Lw _ _ _ _),Ii e hl _ _ _ _ (by omega)];unfold Qf.matchI;rw [(Qcl (Su c l days)).1];rfl
end
section
open Go Go.RowKit Go.Shelf
theorem Fc {adj : Nat → List Nat} {ni no : Nat} : ∀ (n i : Nat) (m : Mt) (fx : Bl),(Js adj ni no n i m fx).length ≤ n
 | 0,_,_,_ => Nat.le_refl _
 | n + 1,i,m,fx => by
  rw [Pu]
  cases Yv adj ni no i (adj i) m fx with
  | none => exact Nat.le_succ_of_le (Fc n (i + 1) m fx)
  | some p =>
   obtain ⟨k,m',fx'⟩:=p;exact Nat.succ_le_succ (Fc n (i + 1) m' fx')
theorem Qfh (c : Qf) (l : List Pd) (days : Int) : (c.matchL l days).length ≤ (Q9 l false).length:=by
 unfold Qf.matchL;rw [List.length_map];exact Fc _ _ _ _
theorem Ae : ∀ (L : List (Rf × Rf)) (i j : Nat),i < L.length → j < 4 → (L.flatMap Wa)[i * 4 + j]? = (Wa (L.getD i (Q7,Q7)))[j]?
 | r :: L,0,j,_,hj => by
  match j,hj with
  | 0,_ => simp [Wa]
  | 1,_ => simp [Wa]
  | 2,_ => simp [Wa]
  | 3,_ => simp [Wa]
 | r :: L,i + 1,j,h,hj => by
  have hl : (Wa r).length = 4:=rfl;rw [List.flatMap_cons,List.getElem?_append_right (by omega),hl,show (i + 1) * 4 + j - 4 = i * 4 + j by omega,Ae L i j (by simpa using h) hj];rfl
/-- A row of pairs of one's own, read. -/
theorem Iq {w : World} {base : Nat} {v : Value} {L : List (Rf × Rf)} (h : w.ownsRow base 35 4 v L.length (L.flatMap Wa)) : ∃ F c,v = .slice F L.length c ∧ Qp w F L.length 4 (fun i => Wa (L.getD i (Q7,Q7))):=by
 rcases h.2 with ⟨rfl,h0⟩ | ⟨q,cap,cur,rfl,hb,hq,hn,hm,_⟩
 ·exact ⟨none,0,by rw [h0],fun hp => by omega⟩
 ·refine ⟨_, _, rfl, fun _ => ⟨q, 0, rfl, (Array.getElem?_eq_some_iff.1 hq).1, fun i j v hi hv => ?_⟩⟩;have hj : j < 4 := (List.getElem?_eq_some_iff.1 hv).1;have hlt : i * 4 + j < L.length * 4 := by omega
  rw [Nat.zero_add,World.ownsRow.cellAt h (i * 4 + j) hlt,Ae L i j hi hj];exact hv
theorem Qfi {c : Qf} {l : List Pd} {days : Int} (h : c.audE l days = 0) : (c.matchL l days).length ≤ 2048:=by
 obtain ⟨⟨_,hp⟩,_⟩:=Gs h;have h1:=Qfh c l days;have h2:=U0 (l:=l) false (m:=64) (fun i hi => (hp _ (Xy (z:=Qx) hi)).m) l.length (Nat.le_refl _);have h3:=Gq (Gu h);have h4 : (Q9 l false).length ≤ l.length * 64:=h2;omega
theorem Qfj (c : Qf) (l : List Pd) (days : Int) : (c.matchV l days).1.length ≤ 2048:=by
 unfold Qf.matchV;by_cases h : c.audE l days ≠ 0
 ·rw [if_pos h];exact Nat.zero_le _
 ·rw [if_neg h];exact Qfi (by simpa using h)
end
section
open Go Go.RowKit
theorem Qdm (w : World) (x0 y0 : Int) (x1 y1 : Int) (x2 y2 : Int) (x3 y3 : Int) : (Op.equalIn 10000 35 (.agg #[.int .i64 x0,.int .i64 x1,.int .i64 x2,.int .i64 x3]) (.agg #[.int .i64 y0,.int .i64 y1,.int .i64 y2,.int .i64 y3])).run Tryz.prog w = .ok ((x0 == y0) && ((x1 == y1) && ((x2 == y2) && (x3 == y3)))) w:=by
 go_simp
 by_cases h0 : x0 = y0;rotate_left
 ·simp [h0]
 by_cases h1 : x1 = y1;rotate_left
 ·simp [h1]
 by_cases h2 : x2 = y2;rotate_left
 ·simp [h2]
 by_cases h3 : x3 = y3;rotate_left
 ·simp [h3]
 simp [h0,h1,h2,h3]
theorem Qgg (w : World) (x0 y0 : Int) (x1 y1 : Int) (x2 y2 : Int) (x3 y3 : Int) : (binOp .neq 35 (.agg #[.int .i64 x0,.int .i64 x1,.int .i64 x2,.int .i64 x3]) (.agg #[.int .i64 y0,.int .i64 y1,.int .i64 y2,.int .i64 y3])).run Tryz.prog w = .ok (.bool (!((x0 == y0) && ((x1 == y1) && ((x2 == y2) && (x3 == y3)))))) w:=by rw [run_neq_struct,Qdm];rfl
end
section
def sA : ByteArray:=⟨#[97]⟩
def sB : ByteArray:=⟨#[98]⟩
def sC : ByteArray:=⟨#[99]⟩
def sU8 : ByteArray:=⟨#[117,114]⟩
def Wd : ByteArray:=⟨#[98,97,114,108,101,121]⟩
def yr8 : Nat → Yr
 | 0 => ⟨0,sA,4095,0⟩
 | 1 => ⟨0,sB,4095,0⟩
 | _ => ⟨0,sC,4095,0⟩
def Xc : Qf:=⟨1,fun _ => sU8,3,yr8⟩
def l8 : Ln:=⟨⟨60,1⟩,⟨1,5⟩,⟨0,1,false,1⟩⟩
def p8 : Nat → Jz:=fun _ => ⟨⟨0,7,false,1⟩,⟨10,1⟩⟩
def d8 : Dt:=⟨1,7,false,1⟩
def t8 : Nat → Tk
 | 0 => ⟨⟨10,1⟩,⟨1,3⟩⟩
 | _ => ⟨⟨5,1⟩,⟨1,1⟩⟩
def f8 : Dt:=⟨0,1,false,1⟩
def u8' : Dt:=⟨0,1,false,30⟩
def w8 : Nat → Cw:=fun _ => ⟨2,⟨1,2⟩,f8,u8'⟩
def h8 : Yh:=⟨10,2,5⟩
def pd8 : Pd:=⟨sA,f8,u8',[⟨Wd,10⟩],[⟨⟨0,1,false,2⟩,true,sB,[⟨Wd,5⟩]⟩,⟨⟨0,1,false,2⟩,false,sB,[⟨Wd,20⟩]⟩],[]⟩
theorem e8_int : Ju ⟨60,1⟩ ⟨1,5⟩ 180 = (⟨6,1⟩,0):=by kernel_rfl
theorem e8_dbl : X7 ⟨1,3⟩ = (1080,0):=by kernel_rfl
theorem Qdg : Xc.owedV l8 p8 1 d8 = (⟨⟨56,1⟩,⟨56,5⟩,⟨0,1⟩⟩,0):=by kernel_rfl
theorem Qdh : Xc.settleV l8 p8 1 d8 = (⟨336,5⟩,0):=by kernel_rfl
theorem e8_bal : Xc.balV t8 2 w8 1 = (⟨-5,1⟩,0):=by kernel_rfl
theorem e8_few : Xc.fewV t8 2 ⟨1,2⟩ f8 u8' = (3,0):=by kernel_rfl
theorem Qdf : Ub h8 ⟨4,5⟩ ⟨1,10⟩ 1 = (⟨12,4,7⟩,0):=by kernel_rfl
theorem Qde : Xc.closeV pd8 = ([⟨Wd,-5⟩],0):=by kernel_rfl
end
section
open Go Go.RowKit Go.Shelf
attribute [local go_sem] Z5
attribute [local go_sem high] Ry
theorem Kf {w : World} {b : Nat} {t : TypeId} {cs : Array Value} {n sz : Nat} {f : Nat → List Value} (h : Qa w b t cs) (hf : ∀ i j v,i < n → (f i)[j]? = some v → cs[i * sz + j]? = some v) : Qp w (some ⟨b,0,none⟩) n sz f :=
 fun _ => ⟨b,0,rfl,h.lt,fun i j v hi hv => by rw [Nat.zero_add,h.cell];exact hf i j v hi hv⟩
theorem Wz (n d : Int) (w : World) :
  Calls Tryz.prog 25 #[.int .i64 n,.int .i64 d] w fun e w' => e = .returned (.agg #[.int .i64 n,.int .i64 d]) ∧ Qb w w':=by
 go_enter Tryz.func25,Tryz.ntmps25
 go_wp2;refine bodyPost_ret (v:=.agg #[.int .i64 n,.int .i64 d]) (by simp [results,Tryz.results25,go_sem]) rfl ⟨rfl,Qj⟩
theorem Y1 (y m d : Int) (w : World) :
  Calls Tryz.prog 24 #[.int .i64 y,.int .i64 m,.int .i64 d] w fun e w' => e = .returned (.agg #[.int .i64 y,.int .i64 m,.bool false,.int .i64 d]) ∧ Qb w w':=by
 go_enter Tryz.func24,Tryz.ntmps24
 go_wp2;refine bodyPost_ret (v:=.agg #[.int .i64 y,.int .i64 m,.bool false,.int .i64 d]) (by simp [results,Tryz.results24,go_sem]) rfl ⟨rfl,Qj⟩
theorem N9 (s : ByteArray) (n : Int) (w : World) :
  Calls Tryz.prog 20 #[.string s,.int .i64 n] w fun e w' => ∃ b,e = .returned (.slice (some ⟨b,0,none⟩) 1 1) ∧ Qb w w' ∧ Zz w' (.slice (some ⟨b,0,none⟩) 1 1) [⟨s,n⟩]:=by
 go_enter Tryz.func20,Tryz.ntmps20
 go_wp2;go_ret;refine ⟨w.heap.size,rfl,Qj,some ⟨w.heap.size,0,none⟩,1,rfl,?_,Nat.le_refl _,by decide,fun h => (by cases h)⟩;refine Kf (t:=85) (cs:=#[.string s,.int .i64 n]) (by repeat (first | (refine Qa.at _ _ _ _ ?_;(simp;done)) | refine Qa.alloc ?_ _)) ?_;intro i j v hi hv;obtain rfl : i = 0:=by simp at hi;omega
 have hj : j < 2:=(List.getElem?_eq_some_iff.1 hv).1;rw [← hv];have : j = 0 ∨ j = 1:=by omega
 rcases this with rfl | rfl <;> rfl
theorem Qb2 (w : World) :
  Calls Tryz.prog 21 #[] w fun e w' => ∃ A A' ca cb,e = .returned (.agg #[.slice A 1 ca,.slice A' 3 cb]) ∧ Qb w w' ∧ Q8 w' A ca A' cb Xc:=by
 go_enter Tryz.func21,Tryz.ntmps21
 go_wp2;refine bodyPost_ret (v:=.agg #[.slice (some ⟨w.heap.size + 1,0,none⟩) 1 1,.slice (some ⟨w.heap.size + 1 + 1,0,none⟩) 3 3]) (by simp [results,Tryz.results21,go_sem]) rfl ⟨_,_,_,_,rfl,Qj,⟨?_,?_,by decide,by decide,by decide,by decide⟩⟩
 ·refine Kf (t := 9) (cs := #[.string sU8]) (by repeat (first | (refine Qa.at _ _ _ _ ?_; (simp; done)) | refine Qa.alloc ?_ _)) ?_;intro i j v hi hv;have hi : i < 1 := hi;have hj : j < 1 := (List.getElem?_eq_some_iff.1 hv).1;rw [← hv];obtain rfl : i = 0 := by omega
  obtain rfl : j = 0:=by omega
  rfl
 ·refine Kf (t := 148) (cs := #[.int .i64 0, .string sA, .int .i64 4095, .int .i64 0, .int .i64 0, .string sB, .int .i64 4095, .int .i64 0, .int .i64 0, .string sC, .int .i64 4095, .int .i64 0]) (by repeat (first | (refine Qa.at _ _ _ _ ?_; (simp; done)) | refine Qa.alloc ?_ _)) ?_;intro i j v hi hv;have hi : i < 3 := hi;have hj : j < 4 := (List.getElem?_eq_some_iff.1 hv).1;rw [← hv];have h1 : i = 0 ∨ i = 1 ∨ i = 2 := by omega
  have h2 : j = 0 ∨ j = 1 ∨ j = 2 ∨ j = 3:=by omega
  rcases h1 with rfl | rfl | rfl <;> rcases h2 with rfl | rfl | rfl | rfl <;> rfl
theorem Qeg {W : World} {b : Nat} {t : TypeId} {v0 v1 v2 v3 v4 v5 v6 v7 : Value} (h : Qa W b t #[v0,v1,v2,v3,v4,v5,v6,v7]) (u0 u1 u2 u3 u4 u5 u6 u7 : Value) : Qa ((((((((W.setCell ⟨b,0,none⟩ u0).setCell ⟨b,1,none⟩ u1).setCell ⟨b,2,none⟩ u2).setCell ⟨b,3,none⟩ u3).setCell ⟨b,4,none⟩ u4).setCell ⟨b,5,none⟩ u5).setCell ⟨b,6,none⟩ u6).setCell ⟨b,7,none⟩ u7) b t #[u0,u1,u2,u3,u4,u5,u6,u7]:=by unfold Qa at h ⊢;simp [World.setCell,Array.getElem?_modify,h]
theorem ext8 {W0 W : World} {b : Nat} (h : Qb W0 W) (hb : W0.heap.size ≤ b) (u0 u1 u2 u3 u4 u5 u6 u7 : Value) : Qb W0 ((((((((W.setCell ⟨b,0,none⟩ u0).setCell ⟨b,1,none⟩ u1).setCell ⟨b,2,none⟩ u2).setCell ⟨b,3,none⟩ u3).setCell ⟨b,4,none⟩ u4).setCell ⟨b,5,none⟩ u5).setCell ⟨b,6,none⟩ u6).setCell ⟨b,7,none⟩ u7) :=
 (((((((h.setCell (p:=⟨b,0,none⟩) hb u0).setCell (p:=⟨b,1,none⟩) hb u1).setCell (p:=⟨b,2,none⟩) hb u2).setCell (p:=⟨b,3,none⟩) hb u3).setCell (p:=⟨b,4,none⟩) hb u4).setCell (p:=⟨b,5,none⟩) hb u5).setCell (p:=⟨b,6,none⟩) hb u6).setCell (p:=⟨b,7,none⟩) hb u7
theorem Qeh {W : World} {b b' : Nat} {t : TypeId} {cs : Array Value} (h : Qa W b t cs) (hne : b ≠ b') (u0 u1 u2 u3 u4 u5 u6 u7 : Value) : Qa ((((((((W.setCell ⟨b',0,none⟩ u0).setCell ⟨b',1,none⟩ u1).setCell ⟨b',2,none⟩ u2).setCell ⟨b',3,none⟩ u3).setCell ⟨b',4,none⟩ u4).setCell ⟨b',5,none⟩ u5).setCell ⟨b',6,none⟩ u6).setCell ⟨b',7,none⟩ u7) b t cs :=
 Qi (Qi (Qi (Qi (Qi (Qi (Qi (Qi h hne 0 u0) hne 1 u1) hne 2 u2) hne 3 u3) hne 4 u4) hne 5 u5) hne 6 u6) hne 7 u7
theorem Qfa (w : World) :
  Calls Tryz.prog 22 #[] w fun e w' => ∃ b,e = .returned (.tuple #[.agg #[.int .i64 60,.int .i64 1,.int .i64 1,.int .i64 5,.int .i64 0,.int .i64 1,.bool false,.int .i64 1],.slice (some ⟨b,0,none⟩) 1 1]) ∧ Qb w w' ∧ Qp w' (some ⟨b,0,none⟩) 1 6 (Yg p8):=by
 go_enter Tryz.func22,Tryz.ntmps22
 go_upto_region 1 with (fail)
 obtain ⟨v,hv⟩:=Qg (w.alloc (.cells #[.int .i64 0,.int .i64 0,.int .i64 0,.int .i64 0,.int .i64 0,.int .i64 0,.bool false,.int .i64 0] 67));rw [← hv];have E : Qb w v:=by rw [hv];exact (Qb.refl _).alloc _
 have B1 : Qa v w.heap.size 67 #[.int .i64 0,.int .i64 0,.int .i64 0,.int .i64 0,.int .i64 0,.int .i64 0,.bool false,.int .i64 0]:=by rw [hv];exact Qa.new _ _ _
 clear hv;obtain ⟨b1,hb1⟩:=Qg (w.heap.size);rw [← hb1] at B1 ⊢;have hbr : w.heap.size ≤ b1:=by omega
 clear hb1;go_wp2_with (first | (go_at_call 25;(with_reducible refine Calls.mono (Wz 10 1 _) ?_);rintro e wa ⟨rfl,hx⟩;replace E:=E.trans hx;replace B1:=B1.ext hx;clear hx;have BA:=B1.alloc (.cells #[.int .i64 0,.int .i64 7,.bool false,.int .i64 1,.int .i64 10,.int .i64 1] 78);have z0:=BA.frozen 0;have z1:=BA.frozen 1;have z2:=BA.frozen 2;have z3:=BA.frozen 3;have z4:=BA.frozen 4;have z5:=BA.frozen 5;have z6:=BA.frozen 6;have z7:=BA.frozen 7;obtain ⟨x0,x1,x2,x3,x4,x5,x6,x7⟩:=BA.c8;have lx:=BA.lt) | (go_at_call 25;(with_reducible refine Calls.mono (Wz _ _ _) ?_);rintro e wa ⟨rfl,hx⟩;replace E:=E.trans hx;replace B1:=B1.ext hx;clear hx) | (go_at_call 24;(with_reducible refine Calls.mono (Y1 _ _ _ _) ?_);rintro e wa ⟨rfl,hx⟩;replace E:=E.trans hx;replace B1:=B1.ext hx;clear hx))
 have H8:=Qeg (B1.alloc (.cells #[.int .i64 0,.int .i64 7,.bool false,.int .i64 1,.int .i64 10,.int .i64 1] 78)) (.int .i64 60) (.int .i64 1) (.int .i64 1) (.int .i64 5) (.int .i64 0) (.int .i64 1) (.bool false) (.int .i64 1);have E8:=ext8 (E.alloc (.cells #[.int .i64 0,.int .i64 7,.bool false,.int .i64 1,.int .i64 10,.int .i64 1] 78)) hbr (.int .i64 60) (.int .i64 1) (.int .i64 1) (.int .i64 5) (.int .i64 0) (.int .i64 1) (.bool false) (.int .i64 1);have P8:=Qeh (Qa.new wa 78 #[.int .i64 0,.int .i64 7,.bool false,.int .i64 1,.int .i64 10,.int .i64 1]) (show wa.heap.size ≠ b1 by have:=B1.lt;omega) (.int .i64 60) (.int .i64 1) (.int .i64 1) (.int .i64 5) (.int .i64 0) (.int .i64 1) (.bool false) (.int .i64 1)
 obtain ⟨y0,y1,y2,y3,y4,y5,y6,y7⟩:=H8.c8;refine bodyPost_ret (v:=.tuple #[.agg #[.int .i64 60,.int .i64 1,.int .i64 1,.int .i64 5,.int .i64 0,.int .i64 1,.bool false,.int .i64 1],.slice (some ⟨wa.heap.size,0,none⟩) 1 1]) (by simp [results,Tryz.results22,go_sem,y0,y1,y2,y3,y4,y5,y6,y7]) rfl ⟨_,rfl,E8,?_⟩;refine Kf P8 ?_;intro i j v hi hv;obtain rfl : i = 0:=by omega
 have hj : j < 6:=(List.getElem?_eq_some_iff.1 hv).1;rw [← hv];have : j = 0 ∨ j = 1 ∨ j = 2 ∨ j = 3 ∨ j = 4 ∨ j = 5:=by omega
 rcases this with rfl | rfl | rfl | rfl | rfl | rfl <;> rfl
theorem Qh2 (v1 v2 : Value) (a b : List Lt) (w : World) (h1 : Zz w v1 a) (h2 : Zz w v2 b) :
  Calls Tryz.prog 29 #[v1,v2] w fun e w' => e = .returned (.bool (decide (a = b))) ∧ Qb w w':=by
 obtain ⟨A,ca,rfl,hA,hca,hca',_⟩:=h1;obtain ⟨B,cb,rfl,hB,hcb,hcb',_⟩:=h2;obtain ⟨R,hR0⟩:=Qg (decide (a = b));rw [← hR0];have HR:=Lib.hid hR0;clear hR0;by_cases hn : a.length = b.length
 ·have HL:=Lib.hid hn;obtain ⟨n,hnl⟩:=Qg (a.length);rw [← hn] at hcb hB ⊢;rw [← hnl] at hca hcb hA hB ⊢;have h63 : n ≤ 9223372036854775807:=Nat.le_trans hca (Nat.le_trans hca' (by decide));replace hnl:=Lib.hid hnl
  have hno : Hid (∀ k,k < n → Za a k ≠ Za b k → R = false):=fun k hk h => by
   rw [HR.out];exact decide_eq_false fun e => h (by rw [e])
  have hyes : Hid ((∀ k,k < n → Za a k = Za b k) → R = true):=fun h => by
   rw [HR.out];refine decide_eq_true (List.ext_getElem HL.out fun i h1 h2 => ?_);have:=h i (by rw [hnl.out];exact h1)
   rwa [Kd h1,Kd h2] at this
  clear HR HL hn hnl hca' hcb' hca hcb;generalize Za a = f at *;generalize Za b = g at *
  go_enter Tryz.func29,Tryz.ntmps29
  go_wp2
  go_loopw [5] (fun i wr => ∃ k : Nat,k ≤ n ∧ i = .int .i64 k ∧ Hid (∀ j,j < k → f j = g j) ∧ Qb w wr) (fun i _ => n - (intOf i).toNat)
  case atStart => exact ⟨0,Nat.zero_le _,rfl,(fun i hi => absurd hi (by omega)),Qb.refl _⟩
  case round =>
   obtain ⟨k,hk,rfl,hp,hE⟩:=hrel;obtain ⟨wo,rfl⟩:=Qg wr;by_cases hlt : k < n
   ·obtain ⟨b1, o1, rfl, hb, hc⟩ := (hA.ext hE) (by omega);obtain ⟨b2, o2, rfl, hb', hd⟩ := (hB.ext hE) (by omega);have c0 : wo.cell? ⟨b1, o1 + k * 2, none⟩ = some (.string (f k).g) := by simpa [Zc] using hc k 0 _ hlt rfl
    have c1 : wo.cell? ⟨b1,o1 + k * 2 + 1,none⟩ = some (.int .i64 (f k).n):=by simpa [Zc] using hc k 1 _ hlt rfl
    have d0 : wo.cell? ⟨b2,o2 + k * 2,none⟩ = some (.string (g k).g):=by simpa [Zc] using hd k 0 _ hlt rfl
    have d1 : wo.cell? ⟨b2,o2 + k * 2 + 1,none⟩ = some (.int .i64 (g k).n):=by simpa [Zc] using hd k 1 _ hlt rfl
    have hq : Hid ((((f k).g.toList == (g k).g.toList) && ((f k).n == (g k).n)) = decide (f k = g k)):=by
     unfold Hid;rw [← Mp,Bool.eq_iff_iff];simp only [Bool.and_eq_true,decide_eq_true_eq,beq_iff_eq]
     constructor
     ·rintro ⟨e1,e2⟩;cases hf : f k;cases hg : g k
      rw [hf,hg] at e1 e2
      simp_all
     ·intro e;rw [e];exact ⟨rfl,rfl⟩
    have hs : Hid (f k = g k → ∀ j,j < k + 1 → f j = g j):=fun e j hj => by
     by_cases h : j = k
     ·subst h;exact e
     ·exact hp.out j (by omega)
    have hnk:=Lib.hid (hno.out k hlt);clear hc hd hA hB hp;generalize f k = x at *;generalize g k = y at *;go_upto_region 6 with (fail)
    clear hno hyes;generalize hg1 : (x.g.toList == y.g.toList) = e1 at *;generalize hg2 : (x.n == y.n) = e2 at *;by_cases hxy : x = y
    ·obtain ⟨rfl,rfl⟩ : e1 = true ∧ e2 = true:=by
      have h:=hq.out;rw [decide_eq_true hxy] at h
      simpa using h
     have hp':=Lib.hid (hs.out hxy);clear hs hq hnk hxy;refine Zd wo Qo (by kernel_rfl) Qj ?_;intro hne hrx hry;try simp only []
     try simp only [List.append_eq,List.cons_append,List.nil_append]
     skip
     repeat (first
      | go_big_quiet_skip
      | (go_big_quiet_want;go_big_quiet_op;go_big_quiet_on))
     clear hne hry hrx;refine wpQuiet_nil ?_;intro wn hwn;obtain ⟨hcwn,hfwn,hzwn⟩:=Qb.rules hwn;try simp only [World.size_alloc] at hzwn
     obtain ⟨hcbwn,hfbwn,hzbwn⟩:=Qb.rules (show Qb wo wn from Qj);clear hcwn hfwn;go_wp2;exact ⟨⟨k + 1,by omega,by go_num,hp',hE.trans hwn⟩,by simp [intOf];omega⟩
    ·have hr:=hnk.out hxy
     have h : e1 = false ∨ (e1 = true ∧ e2 = false):=by
      have h:=hq.out;rw [decide_eq_false hxy] at h;cases e1 <;> simp_all
     clear hs hq hnk hxy;rcases h with rfl | ⟨rfl,rfl⟩
     ·skip
      refine Zd wo Qo (by kernel_rfl) Qj ?_;intro hne hrx hry;try simp only []
      try simp only [List.append_eq,List.cons_append,List.nil_append]
      skip
      repeat (first
       | go_big_quiet_skip
       | (go_big_quiet_want;go_big_quiet_op;go_big_quiet_on))
      clear hne hry hrx;refine wpQuiet_nil ?_;intro wn hwn;obtain ⟨hcwn,hfwn,hzwn⟩:=Qb.rules hwn;try simp only [World.size_alloc] at hzwn
      obtain ⟨hcbwn,hfbwn,hzbwn⟩:=Qb.rules (show Qb wo wn from Qj);clear hcwn hfwn;go_wp2;go_ret;exact ⟨by rw [hr];rfl,hE.trans hwn⟩
     ·skip
      refine Zd wo Qo (by kernel_rfl) Qj ?_;intro hne hrx hry;try simp only []
      try simp only [List.append_eq,List.cons_append,List.nil_append]
      skip
      repeat (first
       | go_big_quiet_skip
       | (go_big_quiet_want;go_big_quiet_op;go_big_quiet_on))
      clear hne hry hrx;refine wpQuiet_nil ?_;intro wn hwn;obtain ⟨hcwn,hfwn,hzwn⟩:=Qb.rules hwn;try simp only [World.size_alloc] at hzwn
      obtain ⟨hcbwn,hfbwn,hzbwn⟩:=Qb.rules (show Qb wo wn from Qj);clear hcwn hfwn;go_wp2;go_ret;exact ⟨by rw [hr];rfl,hE.trans hwn⟩
   ·obtain rfl : k = n := by omega
    have hr:=hyes.out hp.out;clear hyes hno;go_wp2;go_ret;exact ⟨by rw [hr];rfl,hE⟩
 ·have hne : ((a.length : Int) == (b.length : Int)) = false := beq_eq_false_iff_ne.2 (by omega);have hnn : ((a.length : Int) != (b.length : Int)) = true := by rw [bne, hne]; rfl
  have hr : R = false:=by rw [HR.out];exact decide_eq_false fun e => hn (by rw [e])
  clear hn HR
  go_enter Tryz.func29,Tryz.ntmps29
  go_wp2;go_ret;exact ⟨by rw [hr];rfl,Qb.refl _⟩
end
section
open Go Go.RowKit Go.Shelf
attribute [local go_sem] Z5
attribute [local go_sem high] Qgh Qge Qgf
theorem Qhx {w : World} {b : Nat} (h : Qa w b 108 #[.int .i64 10,.int .i64 1,.int .i64 1,.int .i64 3,.int .i64 5,.int .i64 1,.int .i64 1,.int .i64 1]) : Qp w (some ⟨b,0,none⟩) 2 4 (Yp t8):=by
 refine Kf h ?_;intro i j v hi hv;have hj : j < 4:=(List.getElem?_eq_some_iff.1 hv).1;rw [← hv];have h1 : i = 0 ∨ i = 1:=by omega
 have h2 : j = 0 ∨ j = 1 ∨ j = 2 ∨ j = 3:=by omega
 rcases h1 with rfl | rfl <;> rcases h2 with rfl | rfl | rfl | rfl <;> rfl
theorem K6 {w : World} {b : Nat} (h : Qa w b 112 #[.int .i64 2,.int .i64 1,.int .i64 2,.int .i64 0,.int .i64 1,.bool false,.int .i64 1,.int .i64 0,.int .i64 1,.bool false,.int .i64 30]) : Qp w (some ⟨b,0,none⟩) 1 11 (Zv w8):=by
 refine Kf h ?_;intro i j v hi hv;obtain rfl : i = 0:=by omega
 have hj : j < 11:=(List.getElem?_eq_some_iff.1 hv).1;rw [← hv];have : j = 0 ∨ j = 1 ∨ j = 2 ∨ j = 3 ∨ j = 4 ∨ j = 5 ∨ j = 6 ∨ j = 7 ∨ j = 8 ∨ j = 9 ∨ j = 10:=by omega
 rcases this with rfl | rfl | rfl | rfl | rfl | rfl | rfl | rfl | rfl | rfl | rfl <;> rfl
theorem Sl {A A' : Option Addr} {ca cb : Nat} {w : World} (hC : Q8 w A ca A' cb Xc) {bp : Nat} (hB : Qp w (some ⟨bp,0,none⟩) 1 6 (Yg p8)) (hZ : Z6 w) : Calls Tryz.prog 23 #[.agg #[.slice A 1 ca,.slice A' 3 cb],.agg #[.int .i64 60,.int .i64 1,.int .i64 1,.int .i64 5,.int .i64 0,.int .i64 1,.bool false,.int .i64 1],.slice (some ⟨bp,0,none⟩) 1 1,.agg #[.int .i64 1,.int .i64 7,.bool false,.int .i64 1]] w fun e w' => e = .returned (.tuple #[.agg #[.int .i64 56,.int .i64 1,.int .i64 56,.int .i64 5,.int .i64 0,.int .i64 1],.int .i64 0]) ∧ Qb w w':=by
 have:=Ej A A' ca cb Xc (some ⟨bp,0,none⟩) 1 1 l8 p8 (by unfold Rt.In;decide) (by unfold Rt.In;decide) (fun i _ => show (Rt.mk 10 1).In by unfold Rt.In;decide) w hC hB (by decide) hZ d8;rw [Qdg] at this;exact this
theorem Sm {A A' : Option Addr} {ca cb : Nat} {w : World} (hC : Q8 w A ca A' cb Xc) {bp : Nat} (hB : Qp w (some ⟨bp,0,none⟩) 1 6 (Yg p8)) (hZ : Z6 w) : Calls Tryz.prog 39 #[.agg #[.slice A 1 ca,.slice A' 3 cb],.agg #[.int .i64 60,.int .i64 1,.int .i64 1,.int .i64 5,.int .i64 0,.int .i64 1,.bool false,.int .i64 1],.slice (some ⟨bp,0,none⟩) 1 1,.agg #[.int .i64 1,.int .i64 7,.bool false,.int .i64 1]] w fun e w' => e = .returned (.tuple #[.agg #[.int .i64 336,.int .i64 5],.int .i64 0]) ∧ Qb w w':=by
 have:=Qh6 A A' ca cb Xc (some ⟨bp,0,none⟩) 1 1 l8 p8 (by unfold Rt.In;decide) (by unfold Rt.In;decide) (fun i _ => show (Rt.mk 10 1).In by unfold Rt.In;decide) w hC hB (by decide) hZ d8;rw [Qdh] at this;exact this
theorem Qae : ∀ i,i < 2 → (t8 i).a.In ∧ (t8 i).r.In:=fun i hi => by
 have : i = 0 ∨ i = 1:=by omega
 rcases this with rfl | rfl <;> (unfold Rt.In;decide)
theorem Lc {A A' : Option Addr} {ca cb : Nat} {w : World} (hC : Q8 w A ca A' cb Xc) {bt bc : Nat} (hT : Qp w (some ⟨bt,0,none⟩) 2 4 (Yp t8)) (hS : Qp w (some ⟨bc,0,none⟩) 1 11 (Zv w8)) (hZ : Z6 w) : Calls Tryz.prog 40 #[.agg #[.slice A 1 ca,.slice A' 3 cb],.slice (some ⟨bt,0,none⟩) 2 2,.slice (some ⟨bc,0,none⟩) 1 1] w fun e w' => e = .returned (.tuple #[.agg #[.int .i64 (-5),.int .i64 1],.int .i64 0]) ∧ Qb w w':=by
 have:=Qbu A A' ca cb Xc (some ⟨bt,0,none⟩) 2 2 t8 (some ⟨bc,0,none⟩) 1 1 w8 w hC Qae hT (by decide) (fun i _ => ⟨show (Rt.mk 1 2).In by unfold Rt.In;decide,show (-9223372036854775808 : Int) ≤ 2 by decide,show (2 : Int) ≤ 9223372036854775807 by decide⟩) hS (by decide) hZ;rw [e8_bal] at this;exact this
theorem w8_few {A A' : Option Addr} {ca cb : Nat} {w : World} (hC : Q8 w A ca A' cb Xc) {bt : Nat} (hT : Qp w (some ⟨bt,0,none⟩) 2 4 (Yp t8)) (hZ : Z6 w) : Calls Tryz.prog 41 #[.agg #[.slice A 1 ca,.slice A' 3 cb],.slice (some ⟨bt,0,none⟩) 2 2,.agg #[.int .i64 1,.int .i64 2],.agg #[.int .i64 0,.int .i64 1,.bool false,.int .i64 1],.agg #[.int .i64 0,.int .i64 1,.bool false,.int .i64 30]] w fun e w' => e = .returned (.tuple #[.int .i64 3,.int .i64 0]) ∧ Qb w w':=by
 have:=Qdt A A' ca cb Xc (some ⟨bt,0,none⟩) 2 2 t8 ⟨1,2⟩ (by unfold Rt.In;decide) f8 u8' w hC Qae hT (by decide) hZ;rw [e8_few] at this;exact this
theorem Qi4 (w : World) : Calls Tryz.prog 42 #[.agg #[.int .i64 10,.int .i64 2,.int .i64 5],.agg #[.int .i64 4,.int .i64 5],.agg #[.int .i64 1,.int .i64 10],.int .i64 1] w fun e w' => e = .returned (.tuple #[.agg #[.int .i64 12,.int .i64 4,.int .i64 7],.int .i64 0]) ∧ Qb w w':=by
 have:=Qd0 h8 ⟨4,5⟩ ⟨1,10⟩ 1 (by unfold Rt.In;decide) (by unfold Rt.In;decide) (by decide) (by decide) w;rw [Qdf] at this;exact this
theorem Qi3 {A A' : Option Addr} {ca cb : Nat} {w : World} (hC : Q8 w A ca A' cb Xc) {o x y d : Nat} (hO : Zz w (.slice (some ⟨o,0,none⟩) 1 1) [⟨Wd,10⟩]) (hX : Zz w (.slice (some ⟨x,0,none⟩) 1 1) [⟨Wd,5⟩]) (hY : Zz w (.slice (some ⟨y,0,none⟩) 1 1) [⟨Wd,20⟩]) (hD : Qa w d 57 #[.int .i64 0,.int .i64 1,.bool false,.int .i64 2,.bool true,.string ⟨#[98]⟩,.slice (some ⟨x,0,none⟩) 1 1,.int .i64 0,.int .i64 1,.bool false,.int .i64 2,.bool false,.string ⟨#[98]⟩,.slice (some ⟨y,0,none⟩) 1 1]) :
  Calls Tryz.prog 43 #[.agg #[.slice A 1 ca,.slice A' 3 cb],.agg #[.string ⟨#[97]⟩,.int .i64 0,.int .i64 1,.bool false,.int .i64 1,.int .i64 0,.int .i64 1,.bool false,.int .i64 30,.slice (some ⟨o,0,none⟩) 1 1,.slice (some ⟨d,0,none⟩) 2 2,.slice none 0 0]] w fun e w' => ∃ v,e = .returned (.tuple #[v,.int .i64 0]) ∧ Qb w w' ∧ Zz w' v [⟨Wd,-5⟩]:=by
 have hDl : Un w (.slice (some ⟨d,0,none⟩) 2 2) pd8.d:=by
  refine ⟨some ⟨d,0,none⟩,2,fun i => if i = 0 then .slice (some ⟨x,0,none⟩) 1 1 else .slice (some ⟨y,0,none⟩) 1 1,rfl,?_,Nat.le_refl _,by decide,fun h => (by cases h),?_⟩
  ·refine Kf hD ?_;intro i j v hi hv;have hi : i < 2 := hi;have hj : j < 7 := (List.getElem?_eq_some_iff.1 hv).1;rw [← hv];have h1 : i = 0 ∨ i = 1 := by omega
   have h2 : j = 0 ∨ j = 1 ∨ j = 2 ∨ j = 3 ∨ j = 4 ∨ j = 5 ∨ j = 6:=by omega
   rcases h1 with rfl | rfl <;> rcases h2 with rfl | rfl | rfl | rfl | rfl | rfl | rfl <;> rfl
  ·intro i hi;have hi : i < 2 := hi;have h1 : i = 0 ∨ i = 1 := by omega
   rcases h1 with rfl | rfl
   ·exact hX
   ·exact hY
 have:=Qcn A A' ca cb Xc pd8 _ _ _ w hC ⟨hO,hDl,Oa w⟩;rw [Qde] at this;exact this
theorem Qi8 (w : World) (hZ : Z6 w) :
  Calls Tryz.prog 12 #[] w fun e w' => e = .returned (.bool true) ∧ Qb w w':=by
 go_enter Tryz.func12,Tryz.ntmps12
 go_upto_region 2 with (go_at_call 21;(with_reducible refine Calls.mono (Qb2 _) ?_);rintro e w1 ⟨A,A',ca,cb,rfl,h1,C⟩)
 obtain ⟨v1,hv⟩:=Qg (w1.alloc (.cells #[.slice A 1 ca,.slice A' 3 cb] 25));rw [← hv];have h2 : Qb w1 v1:=by rw [hv];exact (Qb.refl _).alloc _
 have B1 : Qa v1 w1.heap.size 25 #[.slice A 1 ca,.slice A' 3 cb]:=by rw [hv];exact Qa.new _ _ _
 clear hv;generalize w1.heap.size = b1 at *;have E:=h1.trans h2;replace C:=C.ext h2;have Z:=hZ.ext E;clear h1 h2 hZ;have NI:=fun w hz => Bq ⟨60,1⟩ ⟨1,5⟩ 180 (by unfold Rt.In;decide) (by unfold Rt.In;decide) (by decide) (by decide) w hz
 simp only [e8_int] at NI;go_upto_region 3 with (first | (go_at_call 25;(with_reducible refine Calls.mono (Wz _ _ _) ?_);rintro e wa ⟨rfl,hx⟩;replace E:=E.trans hx;replace C:=C.ext hx;replace Z:=Z.ext hx;replace B1:=B1.ext hx;clear hx) | (go_at_call 28;(with_reducible refine Calls.mono (NI _ Z) ?_);rintro e w2 ⟨rfl,hx⟩;replace E:=E.trans hx;replace C:=C.ext hx;replace Z:=Z.ext hx;replace B1:=B1.ext hx;clear hx))
 obtain ⟨v2,hv⟩:=Qg (w2.alloc (.cells #[.int .i64 6,.int .i64 1] 65));rw [← hv];have h2 : Qb w2 v2:=by rw [hv];exact (Qb.refl _).alloc _
 have B2 : Qa v2 w2.heap.size 65 #[.int .i64 6,.int .i64 1]:=by rw [hv];exact Qa.new _ _ _
 clear hv;generalize w2.heap.size = b2 at *;replace E:=E.trans h2;replace C:=C.ext h2;replace Z:=Z.ext h2;replace B1:=B1.ext h2;clear h2;have ND:=fun w => Qdd ⟨1,3⟩ (by unfold Rt.In;decide) w
 simp only [e8_dbl] at ND;clear NI;go_upto_region 4 with (first | (go_at_call 25;(with_reducible refine Calls.mono (Wz _ _ _) ?_);rintro e wa ⟨rfl,hx⟩;replace E:=E.trans hx;replace C:=C.ext hx;replace Z:=Z.ext hx;replace B1:=B1.ext hx;replace B2:=B2.ext hx;clear hx) | (go_at_call 26;(with_reducible refine Calls.mono (ND _) ?_);rintro e w3 ⟨rfl,hx⟩;replace E:=E.trans hx;replace C:=C.ext hx;replace Z:=Z.ext hx;replace B1:=B1.ext hx;replace B2:=B2.ext hx;clear hx))
 clear ND;go_upto_region 5 with (go_at_call 22;(with_reducible refine Calls.mono (Qfa _) ?_);rintro e w4 ⟨bp,rfl,hx,PR⟩;replace E:=E.trans hx;replace C:=C.ext hx;replace Z:=Z.ext hx;replace B1:=B1.ext hx;replace B2:=B2.ext hx;clear hx)
 obtain ⟨v4,hv⟩:=Qg (w4.alloc (.cells #[.int .i64 60,.int .i64 1,.int .i64 1,.int .i64 5,.int .i64 0,.int .i64 1,.bool false,.int .i64 1] 67));rw [← hv];have h2 : Qb w4 v4:=by rw [hv];exact (Qb.refl _).alloc _
 have B4 : Qa v4 w4.heap.size 67 #[.int .i64 60,.int .i64 1,.int .i64 1,.int .i64 5,.int .i64 0,.int .i64 1,.bool false,.int .i64 1]:=by rw [hv];exact Qa.new _ _ _
 clear hv;generalize w4.heap.size = b4 at *;replace E:=E.trans h2;replace PR:=PR.ext h2;replace C:=C.ext h2;replace Z:=Z.ext h2;replace B1:=B1.ext h2;replace B2:=B2.ext h2;clear h2;go_upto_region 5 with (fail)
 apply Vt (S:=fun w' r => Qb v4 w' ∧ Qa w' r 72 #[.int .i64 56,.int .i64 1,.int .i64 56,.int .i64 5,.int .i64 0,.int .i64 1])
 ·refine Zb 11 [6,7,9,10] (fun x => Qb v4 x) Qo rfl ?_;intro vz hvz;have HC:=hvz;refine Qs (g:=8) [0,1,2] [_,_,_] ⟨rfl,rfl,rfl,trivial⟩ (by kernel_rfl) (by kernel_rfl) HC ?_;simp only [Qc,Qd,Qe];apply Exists.intro;refine ⟨fun u hu => ?_,?_⟩
  ·obtain ⟨k0,k1⟩:=(B1.ext hu).c2;have lk:=(B1.ext hu).lt;obtain ⟨p0,p1,p2,p3,p4,p5,p6,p7⟩:=(B4.ext hu).c8;have lp:=(B4.ext hu).lt;repeat (first | go_big_quiet_skip | (go_big_quiet_want;go_big_quiet_op;go_big_quiet_on))
   refine wpQuiet_nil ?_;rfl
  refine Zh 3 8 rfl rfl (by kernel_rfl) ?_ ?_
  ·simp only [Qc,Qd,Qe];go_wp2_with (go_at_call 24;(with_reducible refine Calls.mono (Y1 _ _ _ _) ?_);rintro e wa ⟨rfl,hx⟩);replace HC:=HC.trans hx;try replace H5:=H5.ext hx
   clear hx;refine Qh HC ?_;refine Zh 4 8 rfl rfl (by kernel_rfl) ?_ ?_
   ·simp only [Qc,Qd,Qe];go_wp2_with (go_at_call 23;(with_reducible refine Calls.mono (Sl (C.ext HC) (PR.ext HC) (Z.ext HC)) ?_);rintro e wa ⟨rfl,hx⟩);replace HC:=HC.trans hx;try replace H5:=H5.ext hx
    clear hx;refine Qh HC ?_;refine Qs (g:=5) [5] [_] ⟨rfl,trivial⟩ (by kernel_rfl) (by kernel_rfl) HC ?_;simp only [Qc,Qd,Qe];apply Exists.intro;refine ⟨fun u hu => ?_,?_⟩
    ·obtain ⟨k0,k1⟩:=(B1.ext hu).c2;have lk:=(B1.ext hu).lt;obtain ⟨p0,p1,p2,p3,p4,p5,p6,p7⟩:=(B4.ext hu).c8;have lp:=(B4.ext hu).lt;repeat (first | go_big_quiet_skip | (go_big_quiet_want;go_big_quiet_op;go_big_quiet_on))
     refine wpQuiet_nil ?_;rfl
    refine Jy (g:=3) [6,7] [_,_] ⟨rfl,rfl,trivial⟩ (by kernel_rfl) (by kernel_rfl) ?_;simp only [Qc,Qd,Qe];apply Exists.intro;refine ⟨fun u hu => ?_,?_⟩
    ·repeat (first | go_big_quiet_skip | (go_big_quiet_want;go_big_quiet_op;go_big_quiet_on))
     refine wpQuiet_nil ?_;rfl
    refine Ql 8 rfl (by kernel_rfl) ?_;simp only [Qc,Qd,Qe];go_wp2;obtain ⟨b9,wb,hbq,hwb,H5,HC',hx,g5⟩:=Qn HC 72 #[.int .i64 0,.int .i64 0,.int .i64 0,.int .i64 0,.int .i64 0,.int .i64 0];rw [← hbq,← hwb];replace HC:=HC';clear hbq hwb hx HC';refine Qh HC ?_;refine Qr 9 rfl (by kernel_rfl) ?_;simp only [Qc,Qd,Qe];have z0:=H5.frozen 0;have z1:=H5.frozen 1;have z2:=H5.frozen 2;have z3:=H5.frozen 3;have z4:=H5.frozen 4;have z5:=H5.frozen 5;obtain ⟨x0,x1,x2,x3,x4,x5⟩:=H5.c6;have lx:=H5.lt;go_wp2;have H6:=Yz H5 (.int .i64 56) (.int .i64 1) (.int .i64 56) (.int .i64 5) (.int .i64 0) (.int .i64 1);replace HC:=Yy HC g5 (.int .i64 56) (.int .i64 1) (.int .i64 56) (.int .i64 5) (.int .i64 0) (.int .i64 1)
    clear z0 x0 z1 x1 z2 x2 z3 x3 z4 x4 z5 x5 lx H5;generalize World.setCell _ _ _ = wq at *;refine Qq ?_;refine Qr 10 rfl (by kernel_rfl) ?_;simp only [Qc,Qd,Qe];go_wp2;refine Qq ?_;refine Qv (by kernel_rfl) ?_;exact Yc b9 ⟨HC,H6⟩ rfl
   ·simp only [Qc,Qd,Qe];go_wp2;obtain ⟨b9,wb,hbq,hwb,H5,HC',hx,g5⟩:=Qn HC 72 #[.int .i64 0,.int .i64 0,.int .i64 0,.int .i64 0,.int .i64 0,.int .i64 0];rw [← hbq,← hwb];replace HC:=HC';clear hbq hwb hx HC';refine Qh HC ?_;refine Ql 4 rfl (by kernel_rfl) ?_;simp only [Qc,Qd,Qe];go_wp2_with (go_at_call 23;(with_reducible refine Calls.mono (Sl (C.ext HC) (PR.ext HC) (Z.ext HC)) ?_);rintro e wa ⟨rfl,hx⟩);replace HC:=HC.trans hx;try replace H5:=H5.ext hx
    clear hx;refine Qh HC ?_;refine Qs (g:=4) [5] [_] ⟨rfl,trivial⟩ (by kernel_rfl) (by kernel_rfl) HC ?_;simp only [Qc,Qd,Qe];apply Exists.intro;refine ⟨fun u hu => ?_,?_⟩
    ·obtain ⟨k0,k1⟩:=(B1.ext hu).c2;have lk:=(B1.ext hu).lt;obtain ⟨p0,p1,p2,p3,p4,p5,p6,p7⟩:=(B4.ext hu).c8;have lp:=(B4.ext hu).lt;repeat (first | go_big_quiet_skip | (go_big_quiet_want;go_big_quiet_op;go_big_quiet_on))
     refine wpQuiet_nil ?_;rfl
    refine Jy (g:=2) [6,7] [_,_] ⟨rfl,rfl,trivial⟩ (by kernel_rfl) (by kernel_rfl) ?_;simp only [Qc,Qd,Qe];apply Exists.intro;refine ⟨fun u hu => ?_,?_⟩
    ·repeat (first | go_big_quiet_skip | (go_big_quiet_want;go_big_quiet_op;go_big_quiet_on))
     refine wpQuiet_nil ?_;rfl
    refine Qr 9 rfl (by kernel_rfl) ?_;simp only [Qc,Qd,Qe];have z0:=H5.frozen 0;have z1:=H5.frozen 1;have z2:=H5.frozen 2;have z3:=H5.frozen 3;have z4:=H5.frozen 4;have z5:=H5.frozen 5;obtain ⟨x0,x1,x2,x3,x4,x5⟩:=H5.c6;have lx:=H5.lt;go_wp2;have H6:=Yz H5 (.int .i64 56) (.int .i64 1) (.int .i64 56) (.int .i64 5) (.int .i64 0) (.int .i64 1);replace HC:=Yy HC g5 (.int .i64 56) (.int .i64 1) (.int .i64 56) (.int .i64 5) (.int .i64 0) (.int .i64 1);clear z0 x0 z1 x1 z2 x2 z3 x3 z4 x4 z5 x5 lx H5;generalize World.setCell _ _ _ = wq at *;refine Qq ?_;refine Qr 10 rfl (by kernel_rfl) ?_;simp only [Qc,Qd,Qe];go_wp2;refine Qq ?_;refine Qv (by kernel_rfl) ?_
    exact Yc b9 ⟨HC,H6⟩ rfl
  ·simp only [Qc,Qd,Qe];go_wp2;obtain ⟨b9,wb,hbq,hwb,H5,HC',hx,g5⟩:=Qn HC 72 #[.int .i64 0,.int .i64 0,.int .i64 0,.int .i64 0,.int .i64 0,.int .i64 0];rw [← hbq,← hwb];replace HC:=HC';clear hbq hwb hx HC';refine Qh HC ?_;refine Ql 3 rfl (by kernel_rfl) ?_;simp only [Qc,Qd,Qe];go_wp2_with (go_at_call 24;(with_reducible refine Calls.mono (Y1 _ _ _ _) ?_);rintro e wa ⟨rfl,hx⟩);replace HC:=HC.trans hx;try replace H5:=H5.ext hx
   clear hx;refine Qh HC ?_;refine Ql 4 rfl (by kernel_rfl) ?_;simp only [Qc,Qd,Qe];go_wp2_with (go_at_call 23;(with_reducible refine Calls.mono (Sl (C.ext HC) (PR.ext HC) (Z.ext HC)) ?_);rintro e wa ⟨rfl,hx⟩);replace HC:=HC.trans hx;try replace H5:=H5.ext hx
   clear hx;refine Qh HC ?_;refine Qs (g:=4) [5] [_] ⟨rfl,trivial⟩ (by kernel_rfl) (by kernel_rfl) HC ?_;simp only [Qc,Qd,Qe];apply Exists.intro;refine ⟨fun u hu => ?_,?_⟩
   ·obtain ⟨k0,k1⟩:=(B1.ext hu).c2;have lk:=(B1.ext hu).lt;obtain ⟨p0,p1,p2,p3,p4,p5,p6,p7⟩:=(B4.ext hu).c8;have lp:=(B4.ext hu).lt;repeat (first | go_big_quiet_skip | (go_big_quiet_want;go_big_quiet_op;go_big_quiet_on))
    refine wpQuiet_nil ?_;rfl
   refine Jy (g:=2) [6,7] [_,_] ⟨rfl,rfl,trivial⟩ (by kernel_rfl) (by kernel_rfl) ?_;simp only [Qc,Qd,Qe];apply Exists.intro;refine ⟨fun u hu => ?_,?_⟩
   ·repeat (first | go_big_quiet_skip | (go_big_quiet_want;go_big_quiet_op;go_big_quiet_on))
    refine wpQuiet_nil ?_;rfl
   refine Qr 9 rfl (by kernel_rfl) ?_;simp only [Qc,Qd,Qe];have z0:=H5.frozen 0;have z1:=H5.frozen 1;have z2:=H5.frozen 2;have z3:=H5.frozen 3;have z4:=H5.frozen 4;have z5:=H5.frozen 5;obtain ⟨x0,x1,x2,x3,x4,x5⟩:=H5.c6;have lx:=H5.lt;go_wp2;have H6:=Yz H5 (.int .i64 56) (.int .i64 1) (.int .i64 56) (.int .i64 5) (.int .i64 0) (.int .i64 1);replace HC:=Yy HC g5 (.int .i64 56) (.int .i64 1) (.int .i64 56) (.int .i64 5) (.int .i64 0) (.int .i64 1);clear z0 x0 z1 x1 z2 x2 z3 x3 z4 x4 z5 x5 lx H5;generalize World.setCell _ _ _ = wq at *;refine Qq ?_;refine Qr 10 rfl (by kernel_rfl) ?_;simp only [Qc,Qd,Qe];go_wp2;refine Qq ?_;refine Qv (by kernel_rfl) ?_
   exact Yc b9 ⟨HC,H6⟩ rfl
 rintro b5 v5 ⟨h2,B5⟩;replace E:=E.trans h2;replace C:=C.ext h2;replace Z:=Z.ext h2;replace B1:=B1.ext h2;replace B2:=B2.ext h2;replace PR:=PR.ext h2;replace B4:=B4.ext h2;clear h2;go_upto_region 6 with (fail)
 apply Vt (S:=fun w' r => Qb v5 w' ∧ Qa w' r 65 #[.int .i64 336,.int .i64 5])
 ·refine Zb 11 [6,7,9,10] (fun x => Qb v5 x) Qo rfl ?_;intro vz hvz;have HC:=hvz;refine Qs (g:=8) [0,1,2] [_,_,_] ⟨rfl,rfl,rfl,trivial⟩ (by kernel_rfl) (by kernel_rfl) HC ?_;simp only [Qc,Qd,Qe];apply Exists.intro;refine ⟨fun u hu => ?_,?_⟩
  ·obtain ⟨k0,k1⟩:=(B1.ext hu).c2;have lk:=(B1.ext hu).lt;obtain ⟨p0,p1,p2,p3,p4,p5,p6,p7⟩:=(B4.ext hu).c8;have lp:=(B4.ext hu).lt;repeat (first | go_big_quiet_skip | (go_big_quiet_want;go_big_quiet_op;go_big_quiet_on))
   refine wpQuiet_nil ?_;rfl
  refine Zh 3 8 rfl rfl (by kernel_rfl) ?_ ?_
  ·simp only [Qc,Qd,Qe];go_wp2_with (go_at_call 24;(with_reducible refine Calls.mono (Y1 _ _ _ _) ?_);rintro e wa ⟨rfl,hx⟩);replace HC:=HC.trans hx;try replace H5:=H5.ext hx
   clear hx;refine Qh HC ?_;refine Zh 4 8 rfl rfl (by kernel_rfl) ?_ ?_
   ·simp only [Qc,Qd,Qe];go_wp2_with (go_at_call 39;(with_reducible refine Calls.mono (Sm (C.ext HC) (PR.ext HC) (Z.ext HC)) ?_);rintro e wa ⟨rfl,hx⟩);replace HC:=HC.trans hx;try replace H5:=H5.ext hx
    clear hx;refine Qh HC ?_;refine Qs (g:=5) [5] [_] ⟨rfl,trivial⟩ (by kernel_rfl) (by kernel_rfl) HC ?_;simp only [Qc,Qd,Qe];apply Exists.intro;refine ⟨fun u hu => ?_,?_⟩
    ·obtain ⟨k0,k1⟩:=(B1.ext hu).c2;have lk:=(B1.ext hu).lt;obtain ⟨p0,p1,p2,p3,p4,p5,p6,p7⟩:=(B4.ext hu).c8;have lp:=(B4.ext hu).lt;repeat (first | go_big_quiet_skip | (go_big_quiet_want;go_big_quiet_op;go_big_quiet_on))
     refine wpQuiet_nil ?_;rfl
    refine Jy (g:=3) [6,7] [_,_] ⟨rfl,rfl,trivial⟩ (by kernel_rfl) (by kernel_rfl) ?_;simp only [Qc,Qd,Qe];apply Exists.intro;refine ⟨fun u hu => ?_,?_⟩
    ·repeat (first | go_big_quiet_skip | (go_big_quiet_want;go_big_quiet_op;go_big_quiet_on))
     refine wpQuiet_nil ?_;rfl
    refine Ql 8 rfl (by kernel_rfl) ?_;simp only [Qc,Qd,Qe];go_wp2;obtain ⟨b9,wb,hbq,hwb,H5,HC',hx,g5⟩:=Qn HC 65 #[.int .i64 0,.int .i64 0];rw [← hbq,← hwb];replace HC:=HC';clear hbq hwb hx HC';refine Qh HC ?_;refine Qr 9 rfl (by kernel_rfl) ?_;simp only [Qc,Qd,Qe];have z0:=H5.frozen 0;have z1:=H5.frozen 1;obtain ⟨x0,x1⟩:=H5.c2;have lx:=H5.lt;go_wp2;have H6:=Qm H5 (.int .i64 336) (.int .i64 5);replace HC:=(HC.setCell (p:=⟨b9,0,none⟩) g5 (.int .i64 336)).setCell (p:=⟨b9,1,none⟩) g5 (.int .i64 5);clear z0 x0 z1 x1 lx H5;generalize World.setCell _ _ _ = wq at *;refine Qq ?_;refine Qr 10 rfl (by kernel_rfl) ?_;simp only [Qc,Qd,Qe]
    go_wp2;refine Qq ?_;refine Qv (by kernel_rfl) ?_;exact Yc b9 ⟨HC,H6⟩ rfl
   ·simp only [Qc,Qd,Qe];go_wp2;obtain ⟨b9,wb,hbq,hwb,H5,HC',hx,g5⟩:=Qn HC 65 #[.int .i64 0,.int .i64 0];rw [← hbq,← hwb];replace HC:=HC';clear hbq hwb hx HC';refine Qh HC ?_;refine Ql 4 rfl (by kernel_rfl) ?_;simp only [Qc,Qd,Qe];go_wp2_with (go_at_call 39;(with_reducible refine Calls.mono (Sm (C.ext HC) (PR.ext HC) (Z.ext HC)) ?_);rintro e wa ⟨rfl,hx⟩);replace HC:=HC.trans hx;try replace H5:=H5.ext hx
    clear hx;refine Qh HC ?_;refine Qs (g:=4) [5] [_] ⟨rfl,trivial⟩ (by kernel_rfl) (by kernel_rfl) HC ?_;simp only [Qc,Qd,Qe];apply Exists.intro;refine ⟨fun u hu => ?_,?_⟩
    ·obtain ⟨k0,k1⟩:=(B1.ext hu).c2;have lk:=(B1.ext hu).lt;obtain ⟨p0,p1,p2,p3,p4,p5,p6,p7⟩:=(B4.ext hu).c8;have lp:=(B4.ext hu).lt;repeat (first | go_big_quiet_skip | (go_big_quiet_want;go_big_quiet_op;go_big_quiet_on))
     refine wpQuiet_nil ?_;rfl
    refine Jy (g:=2) [6,7] [_,_] ⟨rfl,rfl,trivial⟩ (by kernel_rfl) (by kernel_rfl) ?_;simp only [Qc,Qd,Qe];apply Exists.intro;refine ⟨fun u hu => ?_,?_⟩
    ·repeat (first | go_big_quiet_skip | (go_big_quiet_want;go_big_quiet_op;go_big_quiet_on))
     refine wpQuiet_nil ?_;rfl
    refine Qr 9 rfl (by kernel_rfl) ?_;simp only [Qc,Qd,Qe];have z0:=H5.frozen 0;have z1:=H5.frozen 1;obtain ⟨x0,x1⟩:=H5.c2;have lx:=H5.lt;go_wp2;have H6:=Qm H5 (.int .i64 336) (.int .i64 5);replace HC:=(HC.setCell (p:=⟨b9,0,none⟩) g5 (.int .i64 336)).setCell (p:=⟨b9,1,none⟩) g5 (.int .i64 5);clear z0 x0 z1 x1 lx H5;generalize World.setCell _ _ _ = wq at *;refine Qq ?_;refine Qr 10 rfl (by kernel_rfl) ?_;simp only [Qc,Qd,Qe];go_wp2;refine Qq ?_;refine Qv (by kernel_rfl) ?_;exact Yc b9 ⟨HC,H6⟩ rfl
  ·simp only [Qc,Qd,Qe];go_wp2;obtain ⟨b9,wb,hbq,hwb,H5,HC',hx,g5⟩:=Qn HC 65 #[.int .i64 0,.int .i64 0];rw [← hbq,← hwb];replace HC:=HC';clear hbq hwb hx HC';refine Qh HC ?_;refine Ql 3 rfl (by kernel_rfl) ?_;simp only [Qc,Qd,Qe];go_wp2_with (go_at_call 24;(with_reducible refine Calls.mono (Y1 _ _ _ _) ?_);rintro e wa ⟨rfl,hx⟩);replace HC:=HC.trans hx;try replace H5:=H5.ext hx
   clear hx;refine Qh HC ?_;refine Ql 4 rfl (by kernel_rfl) ?_;simp only [Qc,Qd,Qe];go_wp2_with (go_at_call 39;(with_reducible refine Calls.mono (Sm (C.ext HC) (PR.ext HC) (Z.ext HC)) ?_);rintro e wa ⟨rfl,hx⟩);replace HC:=HC.trans hx;try replace H5:=H5.ext hx
   clear hx;refine Qh HC ?_;refine Qs (g:=4) [5] [_] ⟨rfl,trivial⟩ (by kernel_rfl) (by kernel_rfl) HC ?_;simp only [Qc,Qd,Qe];apply Exists.intro;refine ⟨fun u hu => ?_,?_⟩
   ·obtain ⟨k0,k1⟩:=(B1.ext hu).c2;have lk:=(B1.ext hu).lt;obtain ⟨p0,p1,p2,p3,p4,p5,p6,p7⟩:=(B4.ext hu).c8;have lp:=(B4.ext hu).lt;repeat (first | go_big_quiet_skip | (go_big_quiet_want;go_big_quiet_op;go_big_quiet_on))
    refine wpQuiet_nil ?_;rfl
   refine Jy (g:=2) [6,7] [_,_] ⟨rfl,rfl,trivial⟩ (by kernel_rfl) (by kernel_rfl) ?_;simp only [Qc,Qd,Qe];apply Exists.intro;refine ⟨fun u hu => ?_,?_⟩
   ·repeat (first | go_big_quiet_skip | (go_big_quiet_want;go_big_quiet_op;go_big_quiet_on))
    refine wpQuiet_nil ?_;rfl
   refine Qr 9 rfl (by kernel_rfl) ?_;simp only [Qc,Qd,Qe];have z0:=H5.frozen 0;have z1:=H5.frozen 1;obtain ⟨x0,x1⟩:=H5.c2;have lx:=H5.lt;go_wp2;have H6:=Qm H5 (.int .i64 336) (.int .i64 5);replace HC:=(HC.setCell (p:=⟨b9,0,none⟩) g5 (.int .i64 336)).setCell (p:=⟨b9,1,none⟩) g5 (.int .i64 5);clear z0 x0 z1 x1 lx H5;generalize World.setCell _ _ _ = wq at *;refine Qq ?_;refine Qr 10 rfl (by kernel_rfl) ?_;simp only [Qc,Qd,Qe];go_wp2;refine Qq ?_;refine Qv (by kernel_rfl) ?_;exact Yc b9 ⟨HC,H6⟩ rfl
 rintro b6 v6 ⟨h2,B6⟩;replace E:=E.trans h2;replace C:=C.ext h2;replace Z:=Z.ext h2;replace B1:=B1.ext h2;replace B2:=B2.ext h2;replace PR:=PR.ext h2;replace B4:=B4.ext h2;replace B5:=B5.ext h2;clear h2;clear PR B4;go_upto_region 7 with (fail)
 obtain ⟨k0,k1⟩:=B2.c2;have lk:=B2.lt;obtain ⟨x0,x1,x2,x3,x4,x5⟩:=B5.c6;have lx:=B5.lt;obtain ⟨y0,y1⟩:=B6.c2;have ly:=B6.lt;refine Zd v6 Qo (by kernel_rfl) Qj ?_;intro hne hrx hry;try simp only []
 try simp only [List.append_eq,List.cons_append,List.nil_append]
 skip
 repeat (first
  | go_big_quiet_skip
  | (go_big_quiet_want;go_big_quiet_op;go_big_quiet_on)
  | (go_big_quiet_want;go_big_quiet_op;apply Exists.intro;refine ⟨fun u => ?_,?_⟩
     ·first
       | (go_at_call 25;(with_reducible refine Calls.mono (Wz _ _ _) ?_);rintro e w' ⟨rfl,hb⟩;exact ⟨rfl,u.back hb⟩)
     go_big_quiet_on))
 clear hne hry hrx;refine wpQuiet_nil ?_;intro v7 h2;obtain ⟨hcv7,hfv7,hzv7⟩:=Qb.rules h2;try simp only [World.size_alloc] at hzv7
 obtain ⟨hcbv7,hfbv7,hzbv7⟩:=Qb.rules (show Qb v6 v7 from Qj);clear hcv7 hfv7;replace E:=E.trans h2;replace C:=C.ext h2;replace Z:=Z.ext h2;replace B1:=B1.ext h2;replace B2:=B2.ext h2;replace B5:=B5.ext h2;replace B6:=B6.ext h2;clear h2;clear k0 k1 lk x0 x1 x2 x3 x4 x5 lx y0 y1 ly B2 B5 B6;go_upto_region 10 with (go_at_call 25;(with_reducible refine Calls.mono (Wz _ _ _) ?_);rintro e wa ⟨rfl,hx⟩;replace E:=E.trans hx;replace C:=C.ext hx;replace Z:=Z.ext hx;replace B1:=B1.ext hx;clear hx)
 obtain ⟨v9,hv⟩:=Qg (wa.alloc (.cells #[.int .i64 10,.int .i64 1,.int .i64 1,.int .i64 3,.int .i64 5,.int .i64 1,.int .i64 1,.int .i64 1] 108));rw [← hv];have h2 : Qb wa v9:=by rw [hv];exact (Qb.refl _).alloc _
 have B7 : Qa v9 wa.heap.size 108 #[.int .i64 10,.int .i64 1,.int .i64 1,.int .i64 3,.int .i64 5,.int .i64 1,.int .i64 1,.int .i64 1]:=by rw [hv];exact Qa.new _ _ _
 clear hv;generalize wa.heap.size = b7 at *;have PT:=Qhx B7;clear B7;replace E:=E.trans h2;replace C:=C.ext h2;replace Z:=Z.ext h2;replace B1:=B1.ext h2;clear h2;go_upto_region 10 with (fail)
 apply W8 (S:=fun w' r _ => Qb v9 w' ∧ Qa w' r 65 #[.int .i64 (-5),.int .i64 1])
 ·refine Zb 14 [9,10,12,13] (fun x => Qb v9 x) Qo rfl ?_;intro vz hvz;have HC:=hvz;refine Qs (g:=12) [0,1] [_,_] ⟨rfl,rfl,trivial⟩ (by kernel_rfl) (by kernel_rfl) HC ?_;simp only [Qc,Qd,Qe];apply Exists.intro;refine ⟨fun u hu => ?_,?_⟩
  ·obtain ⟨k0,k1⟩:=(B1.ext hu).c2;have lk:=(B1.ext hu).lt;repeat (first | go_big_quiet_skip | (go_big_quiet_want;go_big_quiet_op;go_big_quiet_on))
   refine wpQuiet_nil ?_;rfl
  refine Zh 2 11 rfl rfl (by kernel_rfl) ?_ ?_
  ·simp only [Qc,Qd,Qe];go_wp2_with (go_at_call 25;(with_reducible refine Calls.mono (Wz _ _ _) ?_);rintro e wa ⟨rfl,hx⟩);replace HC:=HC.trans hx;try replace H5:=H5.ext hx
   clear hx;refine Qh HC ?_;refine Zh 3 11 rfl rfl (by kernel_rfl) ?_ ?_
   ·simp only [Qc,Qd,Qe];go_wp2_with (go_at_call 24;(with_reducible refine Calls.mono (Y1 _ _ _ _) ?_);rintro e wa ⟨rfl,hx⟩);replace HC:=HC.trans hx;try replace H5:=H5.ext hx
    clear hx;refine Qh HC ?_;refine Zh 4 11 rfl rfl (by kernel_rfl) ?_ ?_
    ·simp only [Qc,Qd,Qe];go_wp2_with (go_at_call 24;(with_reducible refine Calls.mono (Y1 _ _ _ _) ?_);rintro e wa ⟨rfl,hx⟩);replace HC:=HC.trans hx;try replace H5:=H5.ext hx
     clear hx;refine Qh HC ?_;refine Qs (g:=8) [5] [_] ⟨rfl,trivial⟩ (by kernel_rfl) (by kernel_rfl) HC ?_;simp only [Qc,Qd,Qe];apply Exists.intro;refine ⟨fun u hu => ?_,?_⟩
     ·obtain ⟨k0,k1⟩:=(B1.ext hu).c2;have lk:=(B1.ext hu).lt;repeat (first | go_big_quiet_skip | (go_big_quiet_want;go_big_quiet_op;go_big_quiet_on))
      refine wpQuiet_nil ?_;rfl
     refine Zh 6 11 rfl rfl (by kernel_rfl) ?_ ?_
     ·simp only [Qc,Qd,Qe];go_wp2;obtain ⟨bc,wb,hbq,hwb,HCW,HC',hx,_⟩:=Qn HC 112 #[.int .i64 2,.int .i64 1,.int .i64 2,.int .i64 0,.int .i64 1,.bool false,.int .i64 1,.int .i64 0,.int .i64 1,.bool false,.int .i64 30];rw [← hbq,← hwb];replace HC:=HC';try replace H5:=H5.ext hx
      clear hbq hwb hx HC';refine Qh HC ?_;refine Zh 7 11 rfl rfl (by kernel_rfl) ?_ ?_
      ·simp only [Qc,Qd,Qe];go_wp2_with (go_at_call 40;(with_reducible refine Calls.mono (Lc (C.ext HC) (PT.ext HC) (K6 HCW) (Z.ext HC)) ?_);rintro e wa ⟨rfl,hx⟩);replace HC:=HC.trans hx;try replace H5:=H5.ext hx
       clear hx;refine Qh HC ?_;refine Qs (g:=5) [8] [_] ⟨rfl,trivial⟩ (by kernel_rfl) (by kernel_rfl) HC ?_;simp only [Qc,Qd,Qe];apply Exists.intro;refine ⟨fun u hu => ?_,?_⟩
       ·obtain ⟨k0,k1⟩:=(B1.ext hu).c2;have lk:=(B1.ext hu).lt;repeat (first | go_big_quiet_skip | (go_big_quiet_want;go_big_quiet_op;go_big_quiet_on))
        refine wpQuiet_nil ?_;rfl
       refine Jy (g:=3) [9,10] [_,_] ⟨rfl,rfl,trivial⟩ (by kernel_rfl) (by kernel_rfl) ?_;simp only [Qc,Qd,Qe];apply Exists.intro;refine ⟨fun u hu => ?_,?_⟩
       ·repeat (first | go_big_quiet_skip | (go_big_quiet_want;go_big_quiet_op;go_big_quiet_on))
        refine wpQuiet_nil ?_;rfl
       refine Ql 11 rfl (by kernel_rfl) ?_;simp only [Qc,Qd,Qe];go_wp2;obtain ⟨b9,wb,hbq,hwb,H5,HC',hx,g5⟩:=Qn HC 65 #[.int .i64 0,.int .i64 0];rw [← hbq,← hwb];replace HC:=HC';try replace HCW:=HCW.ext hx
       clear hbq hwb hx HC';refine Qh HC ?_;refine Qr 12 rfl (by kernel_rfl) ?_;simp only [Qc,Qd,Qe];have z0:=H5.frozen 0;have z1:=H5.frozen 1;obtain ⟨x0,x1⟩:=H5.c2;have lx:=H5.lt;go_wp2;have H6:=Qm H5 (.int .i64 (-5)) (.int .i64 1);replace HC:=(HC.setCell (p:=⟨b9,0,none⟩) g5 (.int .i64 (-5))).setCell (p:=⟨b9,1,none⟩) g5 (.int .i64 1);clear z0 x0 z1 x1 lx H5;generalize World.setCell _ _ _ = wq at *;refine Qq ?_;refine Qr 13 rfl (by kernel_rfl) ?_;simp only [Qc,Qd,Qe];go_wp2;refine Qq ?_;refine Qv (by kernel_rfl) ?_;exact Ja b9 bc ⟨HC,H6⟩ rfl
      ·simp only [Qc,Qd,Qe];go_wp2;obtain ⟨b9,wb,hbq,hwb,H5,HC',hx,g5⟩:=Qn HC 65 #[.int .i64 0,.int .i64 0];rw [← hbq,← hwb];replace HC:=HC';try replace HCW:=HCW.ext hx
       clear hbq hwb hx HC';refine Qh HC ?_;refine Ql 7 rfl (by kernel_rfl) ?_;simp only [Qc,Qd,Qe];go_wp2_with (go_at_call 40;(with_reducible refine Calls.mono (Lc (C.ext HC) (PT.ext HC) (K6 HCW) (Z.ext HC)) ?_);rintro e wa ⟨rfl,hx⟩);replace HC:=HC.trans hx;try replace H5:=H5.ext hx
       clear hx;refine Qh HC ?_;refine Qs (g:=4) [8] [_] ⟨rfl,trivial⟩ (by kernel_rfl) (by kernel_rfl) HC ?_;simp only [Qc,Qd,Qe];apply Exists.intro;refine ⟨fun u hu => ?_,?_⟩
       ·obtain ⟨k0,k1⟩:=(B1.ext hu).c2;have lk:=(B1.ext hu).lt;repeat (first | go_big_quiet_skip | (go_big_quiet_want;go_big_quiet_op;go_big_quiet_on))
        refine wpQuiet_nil ?_;rfl
       refine Jy (g:=2) [9,10] [_,_] ⟨rfl,rfl,trivial⟩ (by kernel_rfl) (by kernel_rfl) ?_;simp only [Qc,Qd,Qe];apply Exists.intro;refine ⟨fun u hu => ?_,?_⟩
       ·repeat (first | go_big_quiet_skip | (go_big_quiet_want;go_big_quiet_op;go_big_quiet_on))
        refine wpQuiet_nil ?_;rfl
       refine Qr 12 rfl (by kernel_rfl) ?_;simp only [Qc,Qd,Qe];have z0:=H5.frozen 0;have z1:=H5.frozen 1;obtain ⟨x0,x1⟩:=H5.c2;have lx:=H5.lt;go_wp2;have H6:=Qm H5 (.int .i64 (-5)) (.int .i64 1);replace HC:=(HC.setCell (p:=⟨b9,0,none⟩) g5 (.int .i64 (-5))).setCell (p:=⟨b9,1,none⟩) g5 (.int .i64 1);clear z0 x0 z1 x1 lx H5;generalize World.setCell _ _ _ = wq at *;refine Qq ?_;refine Qr 13 rfl (by kernel_rfl) ?_;simp only [Qc,Qd,Qe];go_wp2;refine Qq ?_;refine Qv (by kernel_rfl) ?_;exact Ja b9 bc ⟨HC,H6⟩ rfl
     ·simp only [Qc,Qd,Qe];go_wp2;obtain ⟨b9,wb,hbq,hwb,H5,HC',hx,g5⟩:=Qn HC 65 #[.int .i64 0,.int .i64 0];rw [← hbq,← hwb];replace HC:=HC';try replace HCW:=HCW.ext hx
      clear hbq hwb hx HC';refine Qh HC ?_;refine Ql 6 rfl (by kernel_rfl) ?_;simp only [Qc,Qd,Qe];go_wp2;obtain ⟨bc,wb,hbq,hwb,HCW,HC',hx,_⟩:=Qn HC 112 #[.int .i64 2,.int .i64 1,.int .i64 2,.int .i64 0,.int .i64 1,.bool false,.int .i64 1,.int .i64 0,.int .i64 1,.bool false,.int .i64 30];rw [← hbq,← hwb];replace HC:=HC';try replace H5:=H5.ext hx
      clear hbq hwb hx HC';refine Qh HC ?_;refine Ql 7 rfl (by kernel_rfl) ?_;simp only [Qc,Qd,Qe];go_wp2_with (go_at_call 40;(with_reducible refine Calls.mono (Lc (C.ext HC) (PT.ext HC) (K6 HCW) (Z.ext HC)) ?_);rintro e wa ⟨rfl,hx⟩);replace HC:=HC.trans hx;try replace H5:=H5.ext hx
      clear hx;refine Qh HC ?_;refine Qs (g:=4) [8] [_] ⟨rfl,trivial⟩ (by kernel_rfl) (by kernel_rfl) HC ?_;simp only [Qc,Qd,Qe];apply Exists.intro;refine ⟨fun u hu => ?_,?_⟩
      ·obtain ⟨k0,k1⟩:=(B1.ext hu).c2;have lk:=(B1.ext hu).lt;repeat (first | go_big_quiet_skip | (go_big_quiet_want;go_big_quiet_op;go_big_quiet_on))
       refine wpQuiet_nil ?_;rfl
      refine Jy (g:=2) [9,10] [_,_] ⟨rfl,rfl,trivial⟩ (by kernel_rfl) (by kernel_rfl) ?_;simp only [Qc,Qd,Qe];apply Exists.intro;refine ⟨fun u hu => ?_,?_⟩
      ·repeat (first | go_big_quiet_skip | (go_big_quiet_want;go_big_quiet_op;go_big_quiet_on))
       refine wpQuiet_nil ?_;rfl
      refine Qr 12 rfl (by kernel_rfl) ?_;simp only [Qc,Qd,Qe];have z0:=H5.frozen 0;have z1:=H5.frozen 1;obtain ⟨x0,x1⟩:=H5.c2;have lx:=H5.lt;go_wp2;have H6:=Qm H5 (.int .i64 (-5)) (.int .i64 1);replace HC:=(HC.setCell (p:=⟨b9,0,none⟩) g5 (.int .i64 (-5))).setCell (p:=⟨b9,1,none⟩) g5 (.int .i64 1);clear z0 x0 z1 x1 lx H5;generalize World.setCell _ _ _ = wq at *;refine Qq ?_;refine Qr 13 rfl (by kernel_rfl) ?_;simp only [Qc,Qd,Qe];go_wp2;refine Qq ?_;refine Qv (by kernel_rfl) ?_;exact Ja b9 bc ⟨HC,H6⟩ rfl
    ·simp only [Qc,Qd,Qe];go_wp2;obtain ⟨b9,wb,hbq,hwb,H5,HC',hx,g5⟩:=Qn HC 65 #[.int .i64 0,.int .i64 0];rw [← hbq,← hwb];replace HC:=HC';try replace HCW:=HCW.ext hx
     clear hbq hwb hx HC';refine Qh HC ?_;refine Ql 4 rfl (by kernel_rfl) ?_;simp only [Qc,Qd,Qe];go_wp2_with (go_at_call 24;(with_reducible refine Calls.mono (Y1 _ _ _ _) ?_);rintro e wa ⟨rfl,hx⟩);replace HC:=HC.trans hx;try replace H5:=H5.ext hx
     clear hx;refine Qh HC ?_;refine Qs (g:=7) [5] [_] ⟨rfl,trivial⟩ (by kernel_rfl) (by kernel_rfl) HC ?_;simp only [Qc,Qd,Qe];apply Exists.intro;refine ⟨fun u hu => ?_,?_⟩
     ·obtain ⟨k0,k1⟩:=(B1.ext hu).c2;have lk:=(B1.ext hu).lt;repeat (first | go_big_quiet_skip | (go_big_quiet_want;go_big_quiet_op;go_big_quiet_on))
      refine wpQuiet_nil ?_;rfl
     refine Ql 6 rfl (by kernel_rfl) ?_;simp only [Qc,Qd,Qe];go_wp2;obtain ⟨bc,wb,hbq,hwb,HCW,HC',hx,_⟩:=Qn HC 112 #[.int .i64 2,.int .i64 1,.int .i64 2,.int .i64 0,.int .i64 1,.bool false,.int .i64 1,.int .i64 0,.int .i64 1,.bool false,.int .i64 30];rw [← hbq,← hwb];replace HC:=HC';try replace H5:=H5.ext hx
     clear hbq hwb hx HC';refine Qh HC ?_;refine Ql 7 rfl (by kernel_rfl) ?_;simp only [Qc,Qd,Qe];go_wp2_with (go_at_call 40;(with_reducible refine Calls.mono (Lc (C.ext HC) (PT.ext HC) (K6 HCW) (Z.ext HC)) ?_);rintro e wa ⟨rfl,hx⟩);replace HC:=HC.trans hx;try replace H5:=H5.ext hx
     clear hx;refine Qh HC ?_;refine Qs (g:=4) [8] [_] ⟨rfl,trivial⟩ (by kernel_rfl) (by kernel_rfl) HC ?_;simp only [Qc,Qd,Qe];apply Exists.intro;refine ⟨fun u hu => ?_,?_⟩
     ·obtain ⟨k0,k1⟩:=(B1.ext hu).c2;have lk:=(B1.ext hu).lt;repeat (first | go_big_quiet_skip | (go_big_quiet_want;go_big_quiet_op;go_big_quiet_on))
      refine wpQuiet_nil ?_;rfl
     refine Jy (g:=2) [9,10] [_,_] ⟨rfl,rfl,trivial⟩ (by kernel_rfl) (by kernel_rfl) ?_;simp only [Qc,Qd,Qe];apply Exists.intro;refine ⟨fun u hu => ?_,?_⟩
     ·repeat (first | go_big_quiet_skip | (go_big_quiet_want;go_big_quiet_op;go_big_quiet_on))
      refine wpQuiet_nil ?_;rfl
     refine Qr 12 rfl (by kernel_rfl) ?_;simp only [Qc,Qd,Qe];have z0:=H5.frozen 0;have z1:=H5.frozen 1;obtain ⟨x0,x1⟩:=H5.c2;have lx:=H5.lt;go_wp2;have H6:=Qm H5 (.int .i64 (-5)) (.int .i64 1);replace HC:=(HC.setCell (p:=⟨b9,0,none⟩) g5 (.int .i64 (-5))).setCell (p:=⟨b9,1,none⟩) g5 (.int .i64 1);clear z0 x0 z1 x1 lx H5;generalize World.setCell _ _ _ = wq at *;refine Qq ?_;refine Qr 13 rfl (by kernel_rfl) ?_;simp only [Qc,Qd,Qe];go_wp2;refine Qq ?_;refine Qv (by kernel_rfl) ?_;exact Ja b9 bc ⟨HC,H6⟩ rfl
   ·simp only [Qc,Qd,Qe];go_wp2;obtain ⟨b9,wb,hbq,hwb,H5,HC',hx,g5⟩:=Qn HC 65 #[.int .i64 0,.int .i64 0];rw [← hbq,← hwb];replace HC:=HC';try replace HCW:=HCW.ext hx
    clear hbq hwb hx HC';refine Qh HC ?_;refine Ql 3 rfl (by kernel_rfl) ?_;simp only [Qc,Qd,Qe];go_wp2_with (go_at_call 24;(with_reducible refine Calls.mono (Y1 _ _ _ _) ?_);rintro e wa ⟨rfl,hx⟩);replace HC:=HC.trans hx;try replace H5:=H5.ext hx
    clear hx;refine Qh HC ?_;refine Ql 4 rfl (by kernel_rfl) ?_;simp only [Qc,Qd,Qe];go_wp2_with (go_at_call 24;(with_reducible refine Calls.mono (Y1 _ _ _ _) ?_);rintro e wa ⟨rfl,hx⟩);replace HC:=HC.trans hx;try replace H5:=H5.ext hx
    clear hx;refine Qh HC ?_;refine Qs (g:=7) [5] [_] ⟨rfl,trivial⟩ (by kernel_rfl) (by kernel_rfl) HC ?_;simp only [Qc,Qd,Qe];apply Exists.intro;refine ⟨fun u hu => ?_,?_⟩
    ·obtain ⟨k0,k1⟩:=(B1.ext hu).c2;have lk:=(B1.ext hu).lt;repeat (first | go_big_quiet_skip | (go_big_quiet_want;go_big_quiet_op;go_big_quiet_on))
     refine wpQuiet_nil ?_;rfl
    refine Ql 6 rfl (by kernel_rfl) ?_;simp only [Qc,Qd,Qe];go_wp2;obtain ⟨bc,wb,hbq,hwb,HCW,HC',hx,_⟩:=Qn HC 112 #[.int .i64 2,.int .i64 1,.int .i64 2,.int .i64 0,.int .i64 1,.bool false,.int .i64 1,.int .i64 0,.int .i64 1,.bool false,.int .i64 30];rw [← hbq,← hwb];replace HC:=HC';try replace H5:=H5.ext hx
    clear hbq hwb hx HC';refine Qh HC ?_;refine Ql 7 rfl (by kernel_rfl) ?_;simp only [Qc,Qd,Qe];go_wp2_with (go_at_call 40;(with_reducible refine Calls.mono (Lc (C.ext HC) (PT.ext HC) (K6 HCW) (Z.ext HC)) ?_);rintro e wa ⟨rfl,hx⟩);replace HC:=HC.trans hx;try replace H5:=H5.ext hx
    clear hx;refine Qh HC ?_;refine Qs (g:=4) [8] [_] ⟨rfl,trivial⟩ (by kernel_rfl) (by kernel_rfl) HC ?_;simp only [Qc,Qd,Qe];apply Exists.intro;refine ⟨fun u hu => ?_,?_⟩
    ·obtain ⟨k0,k1⟩:=(B1.ext hu).c2;have lk:=(B1.ext hu).lt;repeat (first | go_big_quiet_skip | (go_big_quiet_want;go_big_quiet_op;go_big_quiet_on))
     refine wpQuiet_nil ?_;rfl
    refine Jy (g:=2) [9,10] [_,_] ⟨rfl,rfl,trivial⟩ (by kernel_rfl) (by kernel_rfl) ?_;simp only [Qc,Qd,Qe];apply Exists.intro;refine ⟨fun u hu => ?_,?_⟩
    ·repeat (first | go_big_quiet_skip | (go_big_quiet_want;go_big_quiet_op;go_big_quiet_on))
     refine wpQuiet_nil ?_;rfl
    refine Qr 12 rfl (by kernel_rfl) ?_;simp only [Qc,Qd,Qe];have z0:=H5.frozen 0;have z1:=H5.frozen 1;obtain ⟨x0,x1⟩:=H5.c2;have lx:=H5.lt;go_wp2;have H6:=Qm H5 (.int .i64 (-5)) (.int .i64 1);replace HC:=(HC.setCell (p:=⟨b9,0,none⟩) g5 (.int .i64 (-5))).setCell (p:=⟨b9,1,none⟩) g5 (.int .i64 1);clear z0 x0 z1 x1 lx H5;generalize World.setCell _ _ _ = wq at *;refine Qq ?_;refine Qr 13 rfl (by kernel_rfl) ?_;simp only [Qc,Qd,Qe];go_wp2;refine Qq ?_;refine Qv (by kernel_rfl) ?_;exact Ja b9 bc ⟨HC,H6⟩ rfl
  ·simp only [Qc,Qd,Qe];go_wp2;obtain ⟨b9,wb,hbq,hwb,H5,HC',hx,g5⟩:=Qn HC 65 #[.int .i64 0,.int .i64 0];rw [← hbq,← hwb];replace HC:=HC';try replace HCW:=HCW.ext hx
   clear hbq hwb hx HC';refine Qh HC ?_;refine Ql 2 rfl (by kernel_rfl) ?_;simp only [Qc,Qd,Qe];go_wp2_with (go_at_call 25;(with_reducible refine Calls.mono (Wz _ _ _) ?_);rintro e wa ⟨rfl,hx⟩);replace HC:=HC.trans hx;try replace H5:=H5.ext hx
   clear hx;refine Qh HC ?_;refine Ql 3 rfl (by kernel_rfl) ?_;simp only [Qc,Qd,Qe];go_wp2_with (go_at_call 24;(with_reducible refine Calls.mono (Y1 _ _ _ _) ?_);rintro e wa ⟨rfl,hx⟩);replace HC:=HC.trans hx;try replace H5:=H5.ext hx
   clear hx;refine Qh HC ?_;refine Ql 4 rfl (by kernel_rfl) ?_;simp only [Qc,Qd,Qe];go_wp2_with (go_at_call 24;(with_reducible refine Calls.mono (Y1 _ _ _ _) ?_);rintro e wa ⟨rfl,hx⟩);replace HC:=HC.trans hx;try replace H5:=H5.ext hx
   clear hx;refine Qh HC ?_;refine Qs (g:=7) [5] [_] ⟨rfl,trivial⟩ (by kernel_rfl) (by kernel_rfl) HC ?_;simp only [Qc,Qd,Qe];apply Exists.intro;refine ⟨fun u hu => ?_,?_⟩
   ·obtain ⟨k0,k1⟩:=(B1.ext hu).c2;have lk:=(B1.ext hu).lt;repeat (first | go_big_quiet_skip | (go_big_quiet_want;go_big_quiet_op;go_big_quiet_on))
    refine wpQuiet_nil ?_;rfl
   refine Ql 6 rfl (by kernel_rfl) ?_;simp only [Qc,Qd,Qe];go_wp2;obtain ⟨bc,wb,hbq,hwb,HCW,HC',hx,_⟩:=Qn HC 112 #[.int .i64 2,.int .i64 1,.int .i64 2,.int .i64 0,.int .i64 1,.bool false,.int .i64 1,.int .i64 0,.int .i64 1,.bool false,.int .i64 30];rw [← hbq,← hwb];replace HC:=HC';try replace H5:=H5.ext hx
   clear hbq hwb hx HC';refine Qh HC ?_;refine Ql 7 rfl (by kernel_rfl) ?_;simp only [Qc,Qd,Qe];go_wp2_with (go_at_call 40;(with_reducible refine Calls.mono (Lc (C.ext HC) (PT.ext HC) (K6 HCW) (Z.ext HC)) ?_);rintro e wa ⟨rfl,hx⟩);replace HC:=HC.trans hx;try replace H5:=H5.ext hx
   clear hx;refine Qh HC ?_;refine Qs (g:=4) [8] [_] ⟨rfl,trivial⟩ (by kernel_rfl) (by kernel_rfl) HC ?_;simp only [Qc,Qd,Qe];apply Exists.intro;refine ⟨fun u hu => ?_,?_⟩
   ·obtain ⟨k0,k1⟩:=(B1.ext hu).c2;have lk:=(B1.ext hu).lt;repeat (first | go_big_quiet_skip | (go_big_quiet_want;go_big_quiet_op;go_big_quiet_on))
    refine wpQuiet_nil ?_;rfl
   refine Jy (g:=2) [9,10] [_,_] ⟨rfl,rfl,trivial⟩ (by kernel_rfl) (by kernel_rfl) ?_;simp only [Qc,Qd,Qe];apply Exists.intro;refine ⟨fun u hu => ?_,?_⟩
   ·repeat (first | go_big_quiet_skip | (go_big_quiet_want;go_big_quiet_op;go_big_quiet_on))
    refine wpQuiet_nil ?_;rfl
   refine Qr 12 rfl (by kernel_rfl) ?_;simp only [Qc,Qd,Qe];have z0:=H5.frozen 0;have z1:=H5.frozen 1;obtain ⟨x0,x1⟩:=H5.c2;have lx:=H5.lt;go_wp2;have H6:=Qm H5 (.int .i64 (-5)) (.int .i64 1);replace HC:=(HC.setCell (p:=⟨b9,0,none⟩) g5 (.int .i64 (-5))).setCell (p:=⟨b9,1,none⟩) g5 (.int .i64 1);clear z0 x0 z1 x1 lx H5;generalize World.setCell _ _ _ = wq at *;refine Qq ?_;refine Qr 13 rfl (by kernel_rfl) ?_;simp only [Qc,Qd,Qe];go_wp2;refine Qq ?_;refine Qv (by kernel_rfl) ?_;exact Ja b9 bc ⟨HC,H6⟩ rfl
 rintro b10 bc v10 ⟨h2,B10⟩;replace E:=E.trans h2;replace C:=C.ext h2;replace Z:=Z.ext h2;replace B1:=B1.ext h2;replace PT:=PT.ext h2;clear h2;go_upto_region 11 with (fail)
 obtain ⟨k0,k1⟩:=B1.c2;have lk:=B1.lt;refine Zd v10 Qo (by kernel_rfl) Qj ?_;intro hne hrx hry;try simp only []
 try simp only [List.append_eq,List.cons_append,List.nil_append]
 skip
 repeat (first
  | go_big_quiet_skip
  | (go_big_quiet_want;go_big_quiet_op;go_big_quiet_on)
  | (go_big_quiet_want;go_big_quiet_op;apply Exists.intro;refine ⟨fun u => ?_,?_⟩
     ·first
       | (go_at_call 25;(with_reducible refine Calls.mono (Wz _ _ _) ?_);rintro e w' ⟨rfl,hb⟩;exact ⟨rfl,u.back hb⟩)
       | (go_at_call 24;(with_reducible refine Calls.mono (Y1 _ _ _ _) ?_);rintro e w' ⟨rfl,hb⟩;exact ⟨rfl,u.back hb⟩)
       | (go_at_call 41;(with_reducible refine Calls.mono (w8_few (C.ext u.e) (PT.ext u.e) (Z.ext u.e)) ?_);rintro e w' ⟨rfl,hb⟩;exact ⟨rfl,u.back hb⟩)
     go_big_quiet_on))
 clear hne hry hrx;refine wpQuiet_nil ?_;intro v11 h2;obtain ⟨hcv11,hfv11,hzv11⟩:=Qb.rules h2;try simp only [World.size_alloc] at hzv11
 obtain ⟨hcbv11,hfbv11,hzbv11⟩:=Qb.rules (show Qb v10 v11 from Qj);clear hcv11 hfv11;replace E:=E.trans h2;replace C:=C.ext h2;replace Z:=Z.ext h2;replace B1:=B1.ext h2;replace PT:=PT.ext h2;replace B10:=B10.ext h2;clear h2;clear k0 k1 lk PT;go_upto_region 13 with (first | (go_at_call 25;(with_reducible refine Calls.mono (Wz _ _ _) ?_);rintro e wa ⟨rfl,hx⟩;replace E:=E.trans hx;replace C:=C.ext hx;replace Z:=Z.ext hx;replace B1:=B1.ext hx;replace B10:=B10.ext hx;clear hx) | (go_at_call 42;(with_reducible refine Calls.mono (Qi4 _) ?_);rintro e w12 ⟨rfl,hx⟩;replace E:=E.trans hx;replace C:=C.ext hx;replace Z:=Z.ext hx;replace B1:=B1.ext hx;replace B10:=B10.ext hx;clear hx))
 obtain ⟨v12,hv⟩:=Qg (w12.alloc (.cells #[.int .i64 12,.int .i64 4,.int .i64 7] 116));rw [← hv];have h2 : Qb w12 v12:=by rw [hv];exact (Qb.refl _).alloc _
 have B12 : Qa v12 w12.heap.size 116 #[.int .i64 12,.int .i64 4,.int .i64 7]:=by rw [hv];exact Qa.new _ _ _
 clear hv;generalize w12.heap.size = b12 at *;replace E:=E.trans h2;replace C:=C.ext h2;replace Z:=Z.ext h2;replace B1:=B1.ext h2;replace B10:=B10.ext h2;clear h2;obtain ⟨x0,x1⟩:=B10.c2;have lx:=B10.lt;obtain ⟨y0,y1,y2⟩:=B12.c3;have ly:=B12.lt;refine Zd v12 Qo (by kernel_rfl) Qj ?_;intro hne hrx hry;try simp only []
 try simp only [List.append_eq,List.cons_append,List.nil_append]
 skip
 repeat (first
  | go_big_quiet_skip
  | (go_big_quiet_want;go_big_quiet_op;go_big_quiet_on)
  | (go_big_quiet_want;go_big_quiet_op;apply Exists.intro;refine ⟨fun u => ?_,?_⟩
     ·first
       | (go_at_call 25;(with_reducible refine Calls.mono (Wz _ _ _) ?_);rintro e w' ⟨rfl,hb⟩;exact ⟨rfl,u.back hb⟩)
     go_big_quiet_on))
 clear hne hry hrx;refine wpQuiet_nil ?_;intro v13 h2;obtain ⟨hcv13,hfv13,hzv13⟩:=Qb.rules h2;try simp only [World.size_alloc] at hzv13
 obtain ⟨hcbv13,hfbv13,hzbv13⟩:=Qb.rules (show Qb v12 v13 from Qj);clear hcv13 hfv13;clear x0 x1 lx y0 y1 y2 ly B10 B12;replace E:=E.trans h2;replace C:=C.ext h2;replace Z:=Z.ext h2;replace B1:=B1.ext h2;clear h2;go_upto_region 15 with (fail)
 refine Zb 18 [14,15,16,17] (fun x => Qb v13 x) Qo rfl ?_;intro vz hvz;have HC:=hvz;refine Qs (g:=17) [0] [_] ⟨rfl,trivial⟩ (by kernel_rfl) (by kernel_rfl) HC ?_;simp only [List.getElem_toArray,List.getElem_cons_zero];apply Exists.intro;refine ⟨fun u hu => ?_,?_⟩
 ·obtain ⟨k0,k1⟩:=(B1.ext hu).c2;have lk:=(B1.ext hu).lt;repeat (first | go_big_quiet_skip | (go_big_quiet_want;go_big_quiet_op;go_big_quiet_on))
  refine wpQuiet_nil ?_;rfl
 refine Ql 1 rfl (by kernel_rfl) ?_;simp only [Qc,Qd,Qe];go_wp2_with (go_at_call 24;(with_reducible refine Calls.mono (Y1 _ _ _ _) ?_);rintro e wa ⟨rfl,hx⟩);replace HC:=HC.trans hx;try replace LO:=LO.ext hx
 try replace LX:=LX.ext hx
 try replace LY:=LY.ext hx
 clear hx;refine Qh HC ?_;refine Ql 2 rfl (by kernel_rfl) ?_;simp only [Qc,Qd,Qe];go_wp2_with (go_at_call 24;(with_reducible refine Calls.mono (Y1 _ _ _ _) ?_);rintro e wa ⟨rfl,hx⟩);replace HC:=HC.trans hx;try replace LO:=LO.ext hx
 try replace LX:=LX.ext hx
 try replace LY:=LY.ext hx
 clear hx;refine Qh HC ?_;refine Ql 3 rfl (by kernel_rfl) ?_;simp only [Qc,Qd,Qe];go_wp2_with (go_at_call 20;(with_reducible refine Calls.mono (N9 _ _ _) ?_);rintro e wa ⟨bo,rfl,hx,LO⟩);replace HC:=HC.trans hx;try replace LX:=LX.ext hx
 try replace LY:=LY.ext hx
 clear hx;refine Qh HC ?_;refine Ql 4 rfl (by kernel_rfl) ?_;simp only [Qc,Qd,Qe];go_wp2_with (go_at_call 24;(with_reducible refine Calls.mono (Y1 _ _ _ _) ?_);rintro e wa ⟨rfl,hx⟩);replace HC:=HC.trans hx;try replace LO:=LO.ext hx
 try replace LX:=LX.ext hx
 try replace LY:=LY.ext hx
 clear hx;refine Qh HC ?_;refine Ql 5 rfl (by kernel_rfl) ?_;simp only [Qc,Qd,Qe];go_wp2_with (go_at_call 20;(with_reducible refine Calls.mono (N9 _ _ _) ?_);rintro e wa ⟨bx,rfl,hx,LX⟩);replace HC:=HC.trans hx;try replace LO:=LO.ext hx
 try replace LY:=LY.ext hx
 clear hx;refine Qh HC ?_;refine Qs (g:=11) [6] [_] ⟨rfl,trivial⟩ (by kernel_rfl) (by kernel_rfl) HC ?_;simp only [Qc,Qd,Qe];apply Exists.intro;refine ⟨fun u hu => ?_,?_⟩
 ·obtain ⟨k0,k1⟩:=(B1.ext hu).c2;have lk:=(B1.ext hu).lt;repeat (first | go_big_quiet_skip | (go_big_quiet_want;go_big_quiet_op;go_big_quiet_on))
  refine wpQuiet_nil ?_;rfl
 refine Ql 7 rfl (by kernel_rfl) ?_;simp only [Qc,Qd,Qe];go_wp2_with (go_at_call 24;(with_reducible refine Calls.mono (Y1 _ _ _ _) ?_);rintro e wa ⟨rfl,hx⟩);replace HC:=HC.trans hx;try replace LO:=LO.ext hx
 try replace LX:=LX.ext hx
 try replace LY:=LY.ext hx
 clear hx;refine Qh HC ?_;refine Ql 8 rfl (by kernel_rfl) ?_;simp only [Qc,Qd,Qe];go_wp2_with (go_at_call 20;(with_reducible refine Calls.mono (N9 _ _ _) ?_);rintro e wa ⟨by',rfl,hx,LY⟩);replace HC:=HC.trans hx;try replace LO:=LO.ext hx
 try replace LX:=LX.ext hx
 clear hx;refine Qh HC ?_;refine Qs (g:=8) [9] [_] ⟨rfl,trivial⟩ (by kernel_rfl) (by kernel_rfl) HC ?_;simp only [Qc,Qd,Qe];apply Exists.intro;refine ⟨fun u hu => ?_,?_⟩
 ·obtain ⟨k0,k1⟩:=(B1.ext hu).c2;have lk:=(B1.ext hu).lt;repeat (first | go_big_quiet_skip | (go_big_quiet_want;go_big_quiet_op;go_big_quiet_on))
  refine wpQuiet_nil ?_;rfl
 refine Ql 10 rfl (by kernel_rfl) ?_;simp only [Qc,Qd,Qe];go_wp2;obtain ⟨bd,wb,hbq,hwb,HD,HC',hx,_⟩:=Qn HC 57 #[.int .i64 0,.int .i64 1,.bool false,.int .i64 2,.bool true,.string ⟨#[98]⟩,.slice (some ⟨bx,0,none⟩) 1 1,.int .i64 0,.int .i64 1,.bool false,.int .i64 2,.bool false,.string ⟨#[98]⟩,.slice (some ⟨by',0,none⟩) 1 1];rw [← hbq,← hwb];replace HC:=HC';try replace LO:=LO.ext hx
 try replace LX:=LX.ext hx
 try replace LY:=LY.ext hx
 clear hbq hwb hx HC';refine Qh HC ?_;refine Qs (g:=6) [11] [_] ⟨rfl,trivial⟩ (by kernel_rfl) (by kernel_rfl) HC ?_;simp only [Qc,Qd,Qe];apply Exists.intro;refine ⟨fun u hu => ?_,?_⟩
 ·obtain ⟨k0,k1⟩:=(B1.ext hu).c2;have lk:=(B1.ext hu).lt;repeat (first | go_big_quiet_skip | (go_big_quiet_want;go_big_quiet_op;go_big_quiet_on))
  refine wpQuiet_nil ?_;rfl
 refine Ql 12 rfl (by kernel_rfl) ?_;simp only [Qc,Qd,Qe];have NC:=Qi3 (C.ext HC) LO LX LY HD;go_wp2_with (go_at_call 43;(with_reducible refine Calls.mono (NC) ?_);rintro e wa ⟨v16,rfl,hx,L16⟩);replace HC:=HC.trans hx;clear hx NC;refine Qh HC ?_;refine Qs (g:=4) [13] [_] ⟨rfl,trivial⟩ (by kernel_rfl) (by kernel_rfl) HC ?_;simp only [Qc,Qd,Qe];apply Exists.intro;refine ⟨fun u hu => ?_,?_⟩
 ·obtain ⟨k0,k1⟩:=(B1.ext hu).c2;have lk:=(B1.ext hu).lt;repeat (first | go_big_quiet_skip | (go_big_quiet_want;go_big_quiet_op;go_big_quiet_on))
  refine wpQuiet_nil ?_;rfl
 refine Jy (g:=2) [14,15] [_,_] ⟨rfl,rfl,trivial⟩ (by kernel_rfl) (by kernel_rfl) ?_;simp only [Qc,Qd,Qe];apply Exists.intro;refine ⟨fun u hu => ?_,?_⟩
 ·repeat (first | go_big_quiet_skip | (go_big_quiet_want;go_big_quiet_op;go_big_quiet_on))
  refine wpQuiet_nil ?_;rfl
 refine Qr 16 rfl (by kernel_rfl) ?_;simp only [Qc,Qd,Qe];go_wp2;refine Qq ?_;refine Qr 17 rfl (by kernel_rfl) ?_;simp only [Qc,Qd,Qe];go_wp2;refine Qq ?_;refine Qv (by kernel_rfl) ?_;replace E:=E.trans HC;clear HC LO LX LY HD;go_wp2_with (first | (go_at_call 20;(with_reducible refine Calls.mono (N9 _ _ _) ?_);rintro e wa ⟨bl,rfl,hx,LL⟩;have NS:=Qh2 _ _ [⟨Wd,-5⟩] [⟨Wd,-5⟩] _ (L16.ext hx) LL;rw [decide_eq_true (rfl : ([⟨Wd,-5⟩] : List Lt) = [⟨Wd,-5⟩])] at NS) | (go_at_call 29;(with_reducible refine Calls.mono (NS) ?_);rintro e wz ⟨rfl,hz⟩));go_ret;exact ⟨rfl,(E.trans hx).trans hz⟩
end
end Go.Proofs.YtoflcheopfppoaaGreatDoor
