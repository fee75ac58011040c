/- Walks and plain facts, packed; no conditions but those that each states. -/
import Derived.Test.YtoflcheopfppoaaGreatDoorH1
import Derived.StillTail
import Derived.OrdersIn
import Derived.TacticsIn
import Derived.RangeFuncNested
import Derived.RangeFuncBound
import Derived.RangeFuncLeaves
import Derived.OwnWalkIn
import Derived.TacticsInMore
import Derived.LoopNIn
import Derived.LoopIn
import Derived.Outline
import Derived.Lib.Hide
import Derived.Laws.StructEq
import Derived.Maps.Own
import Derived.Maps.Views
import Derived.DeepKeys4
import Derived.Sort.CutIn
import Derived.Shelf.Abstract
import Derived.Shelf.RegionOpen
set_option maxRecDepth 100000
set_option maxHeartbeats 4000000
namespace Go.Proofs.YtoflcheopfppoaaGreatDoor
section
open Go Go.RowKit
theorem Dh (n : Int) : bits .and .i64 n 1 = n % 2:=by
 have h1 : (BitVec.ofInt 64 1).toNat = 2 ^ 1 - 1:=by decide
 have key : (BitVec.ofInt 64 n &&& BitVec.ofInt 64 1).toNat = (n % ((2 ^ 64 : Nat) : Int)).toNat % 2 ^ 1:=by
  rw [BitVec.toNat_and,BitVec.toNat_ofInt,h1,Nat.and_two_pow_sub_one_eq_mod]
 show IntKind.i64.wrap ((BitVec.ofInt 64 n &&& BitVec.ofInt 64 1).toNat : Nat) = n % 2
 rw [key,IntKind.wrap_i64];omega
theorem Ii {lg : Int} {b : Nat} (h : (bits .and .i64 (lg / 2 ^ b) 1 == 1) = true) : W8 lg b = 30:=by
 rw [Dh] at h;simp only [W8,Ru];simp at h;simp [h]
theorem Ih {lg : Int} {b : Nat} (h : (bits .and .i64 (lg / 2 ^ b) 1 == 1) = false) : W8 lg b = 29:=by
 rw [Dh] at h;simp only [W8,Ru];simp at h;simp [h]
theorem Qiq (lg : Int) (h : (bits .and .i64 (lg / 4096) 1 == 1) = true) : W8 lg 12 = 30:=Ii (b:=12) h
theorem Qir (lg : Int) (h : (bits .and .i64 (lg / 4096) 1 == 1) = false) : W8 lg 12 = 29:=Ih (b:=12) h
set_option maxHeartbeats 400000 in
theorem Mh (y : Yr) (n : Int) (s : Bool) (w : World) (_h1 : 1 ≤ n) (_h2 : n ≤ 12) (_hl : 0 ≤ y.lg) (_hl' : y.lg ≤ 8191) :
  Calls Tryz.prog 173 #[.agg #[.int .i64 y.k,.string y.nm,.int .i64 y.lg,.int .i64 y.db],.int .i64 n,.bool s] w fun e w' =>
   e = .returned (.int .i64 (y.len n s)) ∧ Qc w w':=by
 cases s
 ·have H : Hid (y.len n false = W8 y.lg (n.toNat - 1)):=rfl;generalize y.len n false = r at *
  go_enter Tryz.func173,Tryz.ntmps173
  go_wp2
  all_goals
   go_ret;refine ⟨Vw ?_,(Qc.refl w).alloc _⟩;rw [H.out]
   first | exact (Ii ‹_›).symm | exact (Ih ‹_›).symm
 ·have H : Hid (y.len n true = W8 y.lg 12):=rfl;generalize y.len n true = r at *
  go_enter Tryz.func173,Tryz.ntmps173
  go_wp2
  all_goals
   go_ret;refine ⟨Vw ?_,(Qc.refl w).alloc _⟩;rw [H.out]
   first | exact (Qiq _ ‹_›).symm | exact (Qir _ ‹_›).symm
set_option maxHeartbeats 400000 in
theorem Qiv (d : Dt) (w : World) :
  Calls Tryz.prog 144 #[.agg #[.int .i64 d.y,.int .i64 d.m,.bool d.s,.int .i64 d.d]] w fun e w' => e = .returned (.agg #[.int .i64 d.y,.int .i64 d.m,.bool d.s]) ∧ Qc w w':=by
 go_enter Tryz.func144,Tryz.ntmps144
 go_wp2;refine bodyPost_ret (v:=.agg #[.int .i64 d.y,.int .i64 d.m,.bool d.s]) (by simp [results,Tryz.results144,go_sem]) rfl ⟨rfl,Qq⟩
set_option maxHeartbeats 400000 in
theorem of_any (A A' : OA) (ca cb : Nat) (c : Qd) (i : Nat) (n : Int) (s : Bool) (w : World) (hC : Q3 w A ca A' cb c) (hi : i < c.ny) (_h1 : 1 ≤ n) (_h2 : n ≤ 12) (hl : 0 ≤ (c.yr i).lg) (hl' : (c.yr i).lg ≤ 8191) :
  Calls Tryz.prog 164 #[.agg #[.int .i64 i,.int .i64 n,.bool s],.agg #[.slice A c.nk ca,.slice A' c.ny cb]] w fun e w' => e = .returned (.int .i64 ((c.yr i).len n s)) ∧ Qc w w':=by
 obtain ⟨b,off,rfl,hb,c0,c1,c2,c3⟩:=hC.year hi;have hny:=hC.ny_le;clear hC
 go_enter Tryz.func164,Tryz.ntmps164
 go_wp2;refine Lk w mixed zK Qq ?_;intro hne hrx hry;try simp only []
 try simp only [List.append_eq,List.cons_append,List.nil_append]
 skip
 repeat (first
  | go_big_quiet_skip
  | (go_big_quiet_want;go_big_quiet_op;go_big_quiet_on)
  | (go_big_quiet_want;go_big_quiet_op;apply Exists.intro;refine ⟨fun u => ?_,?_⟩
     ·first
       | (go_at_call 173;refine (Mh (c.yr i) _ _ _ _h1 _h2 hl hl').mono ?_;rintro e w' ⟨rfl,hb⟩;exact ⟨rfl,u.back hb⟩)
     go_big_quiet_on))
 clear hne hry hrx;refine wpQuiet_nil ?_;intro wq hq;obtain ⟨hcwq,hfwq,hzwq⟩:=Qc.rules hq;try simp only [World.size_alloc] at hzwq
 obtain ⟨hcbwq,hfbwq,hzbwq⟩:=Qc.rules (show Qc w wq from Qq);clear hcwq hfwq;go_wp2;go_ret;exact ⟨rfl,Qq⟩
theorem Ot (a b : ByteArray) : decide (a = b) = (a.toList == b.toList):=by
 rw [Go.ByteArray.toList_eq,Go.ByteArray.toList_eq,Bool.eq_iff_iff];simp only [decide_eq_true_eq,beq_iff_eq];exact ⟨fun h => by rw [h],fun h => by cases a;cases b;simp at h;simp [h]⟩
section
variable {P : Program} {ops : Array Oper} {md : Region.Mode} {C : World → Prop}
/-! ### A head that is quiet in a class of worlds, and a tail in its Gs -/
def L9 (P : Program) (md : Region.Mode) (ops : Array Oper) (C : World → Prop) (n : Nat) (L : Array Bool → Act → Prop) : Nat → Array Bool → Act → Prop
 | 0,listed,a => L listed a
 | f + 1,listed,a => Region.ready md ops listed ≠ [] ∧ ∀ i ∈ Region.ready md ops listed,i < n ∧ qOp P ops C i (L9 P md ops C n L f (listed.setIfInBounds i true)) a
theorem Qcq {n g : Nat} {L : Array Bool → Act → Prop} {Q' : Exit → Act → World → Prop} (hL : ∀ listed a w,C w → L listed a → wpAny P md ops Q' g listed a w) :
  ∀ (f : Nat) (listed : Array Bool) (a : Act) (w : World),C w → L9 P md ops C n L f listed a → wpAny P md ops Q' (f + g) listed a w
 | 0,_,_,_,hw,h => by rw [Nat.zero_add];exact hL _ _ _ hw h
 | f + 1,_,_,_,hw,h => by
  rw [show f + 1 + g = (f + g) + 1 by omega];exact ⟨fun h0 => absurd h0 h.1,fun i hi => wpOp_of_qOp hw (fun a' w' hw' h' => Qcq hL f _ a' w' hw' h') (h.2 i hi).2⟩
theorem Qgt {n i : Nat} {oi : Oper} {v : Value} {L : Array Bool → Act → Prop} (hi : ops[i]? = some oi) (hsel : ∀ (j : Nat) (o : Oper) cs b,ops[j]? = some o → o.op ≠ .select cs b)
  (hs : Region.sinkB md ops n = true) (hc : Region.chainB md ops n = true) (hn : n < ops.size) (hin : i < n) (hdone : ∀ listed a,L listed a → ∀ j ∈ Region.ready md ops listed,n ≤ j) :
  ∀ (f : Nat) (listed : Array Bool) (a : Act),HeadInv md ops n listed →
   (∀ j oj,ops[j]? = some oj → j ≠ i → listed.getD j true = false → (∀ e ∈ oj.after,Region.binds md e = true → e.on ≠ i) → oi.apart ops oj = true) →
   i ∈ Region.ready md ops listed → YieldsIn P ops C oi v a →
   L9 P md ops C n L f (listed.setIfInBounds i true) (a.put oi.dst v) → L9 P md ops C n L (f + 1) listed a:=by
 intro f
 induction f with
 | zero =>
  intro listed a inv _ hr hy H;refine ⟨List.ne_nil_of_mem hr,fun j hj => ?_⟩;have hjn : j < n:=Nat.lt_of_not_le fun h => tail_waits hs hc hn inv _ i rfl hin (mem_ready.1 hr).1 j h hj
  refine ⟨hjn,?_⟩;by_cases hji : j = i
  ·subst hji;exact hy.qOp hi H
  ·exact absurd (hdone _ _ H j (ready_mono hj hji)) Qb
 | succ f ih =>
  intro listed a inv hfree hr hy H;refine ⟨List.ne_nil_of_mem hr,fun j hj => ?_⟩;have hjn : j < n:=Nat.lt_of_not_le fun h => tail_waits hs hc hn inv _ i rfl hin (mem_ready.1 hr).1 j h hj
  refine ⟨hjn,?_⟩;by_cases hji : j = i
  ·subst hji;exact hy.qOp hi H
  ·obtain ⟨hjun,oj,hoj,hall⟩:=mem_ready.1 hj
   have hnot : ∀ e ∈ oj.after,Region.binds md e = true → e.on ≠ i:=fun e he hb heq => by
    have h1:=hall e he hb;rw [heq,getD_both (mem_ready.1 hr).1] at h1;cases h1
   have h2:=qOp_put hoj (hfree j oj hoj hji hjun hnot) (fun cs b => hsel i oi cs b hi) (fun cs b => hsel j oj cs b hoj) hy (H.2 j (ready_mono hj hji)).2;refine qOp_mono (fun a' h3 => ih (listed.setIfInBounds j true) a' (inv.set hj hjn) (fun k ok hk hki hun hno => hfree k ok hk hki ?_ hno) (ready_mono hr (Ne.symm hji)) h3.1 ?_) h2
   ·by_cases hjk : j = k
    ·subst hjk;exact hjun
    ·rwa [getD_set_ne true hjk] at hun
   ·rw [Array.setIfInBounds_comm _ _ hji];exact h3.2
theorem Ab {n g : Nat} {Lq : Act → Prop} (hsel : Region.noSelect ops = true) (hs : Region.sinkB md ops n = true) (hc : Region.chainB md ops n = true) (hn : n < ops.size) :
  ∀ (l : List Oper) (k : Nat) (listed : Array Bool) (a : Act),(∀ j,j < l.length → l[j]? = ops[k + j]?) → k + l.length = n → HeadInv md ops n listed →
  Region.lexHead md ops g l.length k listed = true → wpQuiet P ops C Lq l a → L9 P md ops C n (fun listed' a' => Region.seqB md ops g n listed' = true ∧ Lq a') l.length listed a
 | [],k,listed,a,_,hk,_,hB,h => by
  obtain rfl : k = n:=by simpa using hk
  exact ⟨by simpa [Region.lexHead] using hB,h⟩
 | o :: l,k,listed,a,hl,hk,inv,hB,h => by
  have h0 : ops[k]? = some o:=by simpa using (hl 0 (by simp)).symm
  simp only [List.length_cons,Region.lexHead,Bool.and_eq_true] at hB;obtain ⟨⟨hr,hf⟩,hB'⟩:=hB;have hkn : k < n:=by simp only [List.length_cons] at hk;omega
  have hr' : k ∈ Region.ready md ops listed:=by simpa using hr
  have hst : qOp P ops C k (wpQuiet P ops C Lq l) a:=by unfold qOp;simp only [h0];exact h
  obtain ⟨v,hy,hK⟩:=yieldsIn_of_qOp h0 hst
  exact Qgt h0 (Region.noSelect_spec hsel) hs hc hn hkn (fun listed' a' hL => seqB_ready hL.1) l.length listed a inv (Region.free_spec h0 hf) hr' hy
   (Ab hsel hs hc hn l (k + 1) _ _ (fun j hj => by have:=hl (j + 1) (by simp;omega);simpa [Nat.add_assoc,Nat.add_comm 1 j] using this) (by simp only [List.length_cons] at hk;omega) (inv.set hr' hkn) hB' hK)
theorem Qgv (md : Region.Mode) (ops : Array Oper) (n : Nat) : HeadInv md ops n (Array.replicate ops.size false) :=
 ⟨by simp,fun _ _ _ hl => (by rw [getD_replicate_false] at hl;cases hl),fun _ _ ht => getD_in (by simpa using ht) (getD_replicate_false _ _)⟩
theorem Qgu {l : List Oper} {n : Nat} {Lq : Act → Prop} {a : Act} (hB : Region.lexTailB .any l.toArray n = true) (h : wpQuiet P l.toArray C Lq (l.take n) a) :
  n < l.length ∧ L9 P .any l.toArray C n (fun listed' a' => Region.seqB .any l.toArray (l.drop n).length n listed' = true ∧ Lq a') n (Array.replicate l.toArray.size false) a:=by
 simp only [Region.lexTailB,Bool.and_eq_true,decide_eq_true_eq] at hB;obtain ⟨⟨⟨⟨hsel,hn⟩,hs⟩,hc⟩,hlex⟩:=hB;have hn' : n < l.length:=by simpa using hn
 have htl : (l.take n).length = n:=by simp;omega
 have hdl : (l.drop n).length = l.toArray.size - n:=by simp
 have:=Ab (md:=.any) (C:=C) (g:=l.toArray.size - n) hsel hs hc hn (l.take n) 0 _ a (fun j hj => by
  have hj' : j < n:=by rw [htl] at hj;exact hj
  simp [hj']) (by simpa using htl) (Qgv _ _ _) (by rw [htl];exact hlex) h
 rw [htl] at this;rw [hdl];exact ⟨hn',this⟩
end
theorem XW.drawn (w : World) : ∃ u : XW w,{ w with drawn:=w.drawn + 1 } = u.w:=⟨⟨{ w with drawn:=w.drawn + 1 },⟨rfl,rfl,rfl,Nat.le_refl _,fun _ _ => rfl⟩⟩,rfl⟩
theorem Qcv {P : Program} {id : Nat} {Q : Exit → Act → World → Prop} {a : Act} {w : World} {l : List Oper} (n : Nat) (w₀ : World) (hm : P.follows .mixedOrders = true) (hB : Region.lexTailB .any l.toArray n = true) (he : Qc w₀ w)
  (h : Nonempty (XW w) → (∀ (u : XW w) b o,b < w.heap.size → u.w.cell? ⟨b,o,none⟩ = w.cell? ⟨b,o,none⟩) → (∀ (u : XW w) b o,b < w₀.heap.size → u.w.cell? ⟨b,o,none⟩ = w₀.cell? ⟨b,o,none⟩) →
   wpQuiet P l.toArray (fun w' => ∃ u : XW w,w' = u.w) (fun a' => ∀ w',Qc w w' → wpList P l.toArray Q (l.drop n) a' w') (l.take n) a) : (Code.region id l.toArray true).wp P Q a w:=by
 obtain ⟨hn,H⟩:=Qgu hB (h (XW.some w) (fun u => u.cell) (fun u => u.from he));refine wp_region_any hm ?_
 have:=Qcq (Q':=Q) (g:=(l.drop n).length) (fun listed a' w' hw' hL => wpAny_of_seq (md:=.any) (Q':=Q) (l.drop n) n listed a' w' (fun j => by simp [List.getElem?_drop]) hL.1 (by
  obtain ⟨u,rfl⟩:=hw';exact hL.2 _ u.e)) _ _ _ { w with drawn:=w.drawn + 1 } (XW.drawn w) H
 rw [show n + (l.drop n).length = l.toArray.size by simp;omega] at this;exact this
/-! ### Within a round -/
def Nw (o : Oper) : Bool:=match o.op with | .defer _ => false | _ => true
section
variable {P : Program} {ops : Array Oper} {md : Region.Mode} {C : World → Prop} {l n : Nat}
theorem Qmg {o : Oper} {a : Act} {K : Act → Prop} {K' : Act → World → Prop} {Q' : Exit → Act → World → Prop} {w : World} (hnd : Nw o = true) (hw : C w) (h : ∀ a w',C w' → K a → K' a w') (hh : o.quiet P a C K) :
  o.wpIn (Fence.wide.inRound l) n P a w K' Q':=by
 obtain ⟨v,h1,h2⟩:=hh;have h3:=h1 w hw;refine ⟨fun _ _ => trivial,?_⟩;rw [Fence.inRound_round,Oper.semAt_some l _ _ (fun c hc => by simp [Nw,hc] at hnd)];unfold Oper.quietAt at h3;generalize (execOp a.eval o).run P w = r at *
 cases r with
 | ok x w' =>
  cases x <;> simp only [Oper.quietUpon] at h3 <;> simp only [Oper.uponIn]
  case value u => obtain ⟨e1,e2⟩:=h3;rw [e1,e2];exact h _ _ hw h2
  case skip => obtain ⟨e1,e2⟩:=h3;rw [e1,← e2];exact h _ _ hw h2
  case enter f args =>
   obtain ⟨e1,hc⟩:=h3;rw [e1];refine ⟨fun hd => by simp [Fence.inRound,Fence.wide] at hd,CallsIn.inRound l (callsIn_wide.2 (hc.mono fun e w'' ⟨he,hw''⟩ => ?_))⟩;subst he
   exact h _ _ hw'' h2
 | halt x w' => simp only [Oper.quietUpon] at h3
theorem Qmh {i : Nat} {a : Act} {K : Act → Prop} {K' : Act → World → Prop} {Q' : Exit → Act → World → Prop} {w : World} (hnd : ops.all Nw = true) (hC : C w) (h : ∀ a w',C w' → K a → K' a w') (hh : qOp P ops C i K a) :
  wpOpIn (Fence.wide.inRound l) n P ops Q' i K' a w:=by
 unfold qOp at hh;unfold wpOpIn
 split
 ·rename_i ho;simp only [ho] at hh;exact h _ _ hC hh
 ·rename_i o ho
  simp only [ho] at hh
  split
  ·rename_i hw
   simp only [hw,if_true] at hh;exact Qmg (Array.all_eq_true_iff_forall_mem.1 hnd o (Array.mem_of_getElem? ho)) hC h hh
  ·rename_i hw;simp only [hw] at hh;exact ⟨fun _ _ => trivial,h _ _ hC hh⟩
theorem Qcn {Q : Act → Prop} {Q' : Exit → Act → World → Prop} (hnd : ops.all Nw = true) (hQ : ∀ a w,C w → Q a → Q' .normal a w) : ∀ (fuel : Nat) (listed : Array Bool) (a : Act) (w : World),C w →
  wpAnyQ P md ops C Q fuel listed a → wpAnyIn (Fence.wide.inRound l) n P md ops Q' fuel listed a w
 | 0,_,_,_,hw,h => ⟨h.1,hQ _ _ hw h.2⟩
 | fuel + 1,_,_,_,hw,h => ⟨fun h0 => hQ _ _ hw (h.1 h0),fun i hi => Qmh hnd hw (fun a' w' hw' => Qcn hnd hQ fuel _ a' w' hw') (h.2 i hi)⟩
end
section
variable {P : Program} {id k n : Nat} {Q : Exit → Act → World → Prop} {a : Act} {w : World} {l : List Oper}
theorem P9 (w₀ : World) (hm : P.follows .mixedOrders = true) (hB : Nm l.toArray = true) (hnd : l.toArray.all Nw = true) (he : Qc w₀ w)
  (h : Nonempty (XW w) → (∀ (u : XW w) b o,b < w.heap.size → u.w.cell? ⟨b,o,none⟩ = w.cell? ⟨b,o,none⟩) → (∀ (u : XW w) b o,b < w₀.heap.size → u.w.cell? ⟨b,o,none⟩ = w₀.cell? ⟨b,o,none⟩) →
   wpQuiet P l.toArray (fun w' => ∃ u : XW w,w' = u.w) (fun a' => ∀ w',Qc w w' → Q .normal a' w') l a) : (Code.region id l.toArray true).wpIn (Fence.wide.inRound k) n P Q a w:=by
 have hB':=Er hB;simp only [Region.lexB,Bool.and_eq_true] at hB';have H:=wpAnyQ_lex (C:=fun w' => ∃ u : XW w,w' = u.w) (md:=.any) hB'.1 l 0 (Array.replicate l.toArray.size false) a (by simp) (by simpa using hB'.2) (h (XW.some w) (fun u => u.cell) (fun u => u.from he));exact wpIn_region_any hm (Qcn (C:=fun w' => ∃ u : XW w,w' = u.w) (Q:=fun a' => ∀ w',Qc w w' → Q .normal a' w') hnd (fun a' w' hu h' => h' w' (by obtain ⟨u,rfl⟩:=hu;exact u.e)) _ _ _ _ (XW.drawn w) (by simpa using H))
end
end
section
theorem Sl (y : Yr) : ∀ l l' : List (Int × Bool),y.lens (l ++ l') = y.lens l + y.lens l'
 | [],l' => by simp [Yr.lens]
 | p :: l,l' => by rw [List.cons_append,Yr.lens,Yr.lens,Sl y l l'];omega
theorem Oq (i : Nat) (y : Yr) : ∀ (l l' : List (Int × Bool)) (d : Int),Jz i y d (l ++ l') = Jz i y d l ++ Jz i y (d + y.lens l) l'
 | [],l',d => by simp [Jz,Yr.lens]
 | p :: l,l',d => by
  rw [List.cons_append,Jz,Jz,Oq i y l l',List.cons_append,Yr.lens]
  congr 3;omega
theorem Qbi (i : Nat) (y : Yr) : ∀ (l : List (Int × Bool)) (d : Int),(Jz i y d l).length = l.length
 | [],_ => rfl
 | p :: l,d => by rw [Jz,List.length_cons,List.length_cons,Qbi i y l]
theorem Qis (lg : Int) (b : Nat) : 29 ≤ W8 lg b ∧ W8 lg b ≤ 30:=by unfold W8;split <;> omega
theorem Vp (y : Yr) (n : Int) (s : Bool) : 29 ≤ y.len n s ∧ y.len n s ≤ 30:=Qis _ _
theorem Gg (y : Yr) : ∀ l : List (Int × Bool),29 * (l.length : Int) ≤ y.lens l ∧ y.lens l ≤ 30 * (l.length : Int)
 | [] => by simp [Yr.lens]
 | p :: l => by
  have:=Gg y l;have h:=Vp y p.1 p.2;rw [Yr.lens,List.length_cons];omega
theorem Vs (y : Yr) (k : Nat) : y.moTo (k + 1) = y.moTo k ++ (((k : Int) + 1,false) :: (if y.db = (k : Int) + 1 then [((k : Int) + 1,true)] else [])):=rfl
theorem Ss (y : Yr) : ∀ k : Nat,(y.moTo k).length = k + (if 1 ≤ y.db ∧ y.db ≤ (k : Int) then 1 else 0)
 | 0 => by
  have : ¬ (1 ≤ y.db ∧ y.db ≤ ((0 : Nat) : Int)):=by omega
  rw [if_neg this];rfl
 | k + 1 => by
  rw [Vs,List.length_append,List.length_cons,Ss y k];by_cases h : y.db = (k : Int) + 1
  ·rw [if_pos h,if_neg Qb,if_pos Qb];simp
  ·rw [if_neg h];by_cases h2 : 1 ≤ y.db ∧ y.db ≤ (k : Int)
   ·rw [if_pos h2,if_pos Qb];simp
   ·rw [if_neg h2,if_neg Qb];simp
theorem Ip (y : Yr) : 12 ≤ y.mos.length ∧ y.mos.length ≤ 13:=by
 rw [Yr.mos,Ss];split <;> omega
theorem Cm (y : Yr) : 348 ≤ y.days ∧ y.days ≤ 390:=by
 have h:=Gg y y.mos;have h2:=Ip y;unfold Yr.days;omega
theorem Lw (c : Qd) : ∀ i : Nat,1 + 348 * (i : Int) ≤ c.dayAt i ∧ c.dayAt i ≤ 1 + 390 * (i : Int)
 | 0 => by simp [Qd.dayAt]
 | i + 1 => by
  have:=Lw c i;have:=Cm (c.yr i);rw [Qd.dayAt];omega
def Qd.upTo (c : Qd) (i k : Nat) : List It:=c.itemsTo i ++ Jz i (c.yr i) (c.dayAt i) ((c.yr i).moTo k)
def Qd.dayTo (c : Qd) (i k : Nat) : Int:=c.dayAt i + (c.yr i).lens ((c.yr i).moTo k)
theorem Ql1 (c : Qd) (i : Nat) : c.upTo i 0 = c.itemsTo i:=by simp [Qd.upTo,Yr.moTo,Jz]
theorem Qe8 (c : Qd) (i : Nat) : c.dayTo i 0 = c.dayAt i:=by simp [Qd.dayTo,Yr.moTo,Yr.lens]
def Qd.it1 (c : Qd) (i k : Nat) : It:=⟨i,(k : Int) + 1,false,c.dayTo i k⟩
def Qd.it2 (c : Qd) (i k : Nat) : It:=⟨i,(k : Int) + 1,true,c.dayTo i k + (c.yr i).len ((k : Int) + 1) false⟩
theorem Qcc {c : Qd} {i k : Nat} (h : (c.yr i).db ≠ (k : Int) + 1) : c.upTo i (k + 1) = c.upTo i k ++ [c.it1 i k]:=by
 rw [Qd.upTo,Vs,if_neg h,Oq,← List.append_assoc];rfl
theorem P2 {c : Qd} {i k : Nat} (h : (c.yr i).db = (k : Int) + 1) : c.upTo i (k + 1) = c.upTo i k ++ [c.it1 i k] ++ [c.it2 i k]:=by
 rw [Qd.upTo,Vs,if_pos h,Oq,← List.append_assoc,List.append_assoc (c.upTo i k)];rfl
theorem Qe6 {c : Qd} {i k : Nat} (h : (c.yr i).db ≠ (k : Int) + 1) : c.dayTo i (k + 1) = c.dayTo i k + (c.yr i).len ((k : Int) + 1) false:=by
 rw [Qd.dayTo,Vs,if_neg h,Sl,← Int.add_assoc]
 show _ + (_ + 0) = _ + _;rw [Int.add_zero];rfl
theorem Qe7 {c : Qd} {i k : Nat} (h : (c.yr i).db = (k : Int) + 1) : c.dayTo i (k + 1) = c.dayTo i k + (c.yr i).len ((k : Int) + 1) false + (c.yr i).len ((k : Int) + 1) true:=by
 rw [Qd.dayTo,Vs,if_pos h,Sl,← Int.add_assoc]
 show _ + (_ + (_ + 0)) = _ + _ + _;rw [Int.add_zero,← Int.add_assoc];rfl
theorem Qhp (c : Qd) {i j : Nat} (h : i ≤ j) : c.itemsTo i <+: c.itemsTo j:=by
 induction j with
 | zero => obtain rfl : i = 0 := by omega
           exact List.prefix_rfl
 | succ j ih =>
  rcases Nat.lt_or_ge j i with h' | h'
  ·obtain rfl : i = j + 1 := by omega
   exact List.prefix_rfl
  ·exact (ih h').trans (List.prefix_append _ _)
theorem Qit (y : Yr) {i j : Nat} (h : i ≤ j) : y.moTo i <+: y.moTo j:=by
 induction j with
 | zero => obtain rfl : i = 0 := by omega
           exact List.prefix_rfl
 | succ j ih =>
  rcases Nat.lt_or_ge j i with h' | h'
  ·obtain rfl : i = j + 1 := by omega
   exact List.prefix_rfl
  ·exact (ih h').trans (List.prefix_append _ _)
theorem P0 {c : Qd} {i k : Nat} (hi : i < c.ny) (hk : k ≤ 12) : c.upTo i k <+: c.items:=by
 refine List.IsPrefix.trans ?_ (Qhp c (show i + 1 ≤ c.ny from hi));obtain ⟨t,ht⟩:=Qit (c.yr i) hk
 show c.itemsTo i ++ _ <+: c.itemsTo i ++ Jz i (c.yr i) (c.dayAt i) ((c.yr i).moTo 12)
 rw [← ht,Oq,← List.append_assoc];exact List.prefix_append _ _
theorem Qai {c : Qd} {i k : Nat} (hi : i < c.ny) (hk : k < 12) : c.upTo i k ++ [c.it1 i k] <+: c.items:=by
 by_cases h : (c.yr i).db = (k : Int) + 1
 ·refine List.IsPrefix.trans ?_ (P0 hi (show k + 1 ≤ 12 from hk));rw [P2 h];exact List.prefix_append _ _
 ·rw [← Qcc h];exact P0 hi hk
theorem Qb8 {c : Qd} {i k : Nat} (hi : i < c.ny) (hk : k < 12) (h : (c.yr i).db = (k : Int) + 1) : c.upTo i k ++ [c.it1 i k] ++ [c.it2 i k] <+: c.items:=by
 rw [← P2 h];exact P0 hi hk
theorem E9 {α : Type} {Qt l : List α} {x : α} (h : Qt ++ [x] <+: l) : Qt.length < l.length:=by
 have:=h.length_le;simp at this;omega
theorem Te (c : Qd) {i k : Nat} (hk : k ≤ 12) : 1 + 348 * (i : Int) ≤ c.dayTo i k ∧ c.dayTo i k ≤ 1 + 390 * (i : Int) + 390:=by
 have h1:=Lw c i;have h2:=Gg (c.yr i) ((c.yr i).moTo k);have h3 : ((c.yr i).moTo k).length ≤ 13:=by rw [Ss];split <;> omega
 unfold Qd.dayTo;omega
structure Qd.okIt (c : Qd) (x : It) : Prop where
 y : x.y < c.ny
 n1 : 1 ≤ x.n
 n12 : x.n ≤ 12
 f1 : 1 ≤ x.first
 f2 : x.first ≤ 390 * (c.ny : Int) + 391
theorem Hz {c : Qd} {i k : Nat} (hi : i < c.ny) (hk : k < 12) : c.okIt (c.it1 i k):=by
 have h:=Te c (i:=i) (k:=k) Qb;exact ⟨hi,by show 1 ≤ (k : Int) + 1;omega,by show (k : Int) + 1 ≤ 12;omega,by show 1 ≤ c.dayTo i k;omega,by show c.dayTo i k ≤ _;omega⟩
theorem A3 {c : Qd} {i k : Nat} (hi : i < c.ny) (hk : k < 12) : c.okIt (c.it2 i k):=by
 have h:=Te c (i:=i) (k:=k) Qb;have h2:=Vp (c.yr i) ((k : Int) + 1) false;exact ⟨hi,by show 1 ≤ (k : Int) + 1;omega,by show (k : Int) + 1 ≤ 12;omega,by show 1 ≤ c.dayTo i k + _;omega,by show c.dayTo i k + _ ≤ _;omega⟩
theorem H0 (c : Qd) : ∀ i : Nat,(c.itemsTo i).length ≤ 13 * i
 | 0 => by simp [Qd.itemsTo]
 | i + 1 => by
  have:=H0 c i;have:=Ip (c.yr i);rw [Qd.itemsTo,List.length_append,Qbi];omega
end
section
open Go Go.RowKit
attribute [local go_sem] Oper.semAt_some
structure Yf (n₀ : Nat) (W W' : World) : Prop where
 below : Below n₀ W W'
 years : ∀ (k : Nat) (cs : Array Value) (f : Nat × Nat),W.heap[k]? = some (.cells cs 148 f) → W'.heap[k]? = some (.cells cs 148 f)
namespace Yf
variable {n₀ : Nat} {A B C : World}
theorem refl (n₀ : Nat) (W : World) : Yf n₀ W W:=⟨Below.refl _ _,fun _ _ _ h => h⟩
theorem trans (h : Yf n₀ A B) (k : Yf n₀ B C) : Yf n₀ A C:=⟨h.below.trans k.below,fun i cs f hi => k.years i cs f (h.years i cs f hi)⟩
theorem of_ext (e : Qc A B) (hn : n₀ ≤ A.heap.size) : Yf n₀ A B:=⟨e.below.mono hn,fun _ _ _ hi => (e.block (Array.getElem?_eq_some_iff.1 hi).1).trans hi⟩
theorem grown {row : Option Nat} (hg : A.grownBy B row) (hn : n₀ ≤ A.heap.size) (hr : ∀ r,row = some r → n₀ ≤ r ∧ ∃ o,A.heap[r]? = some o ∧ ∀ cs f,o ≠ .cells cs 148 f) : Yf n₀ A B:=by
 refine ⟨(Below.refl n₀ A).grown hg hn (fun r e => (hr r e).1),fun i cs f hi => (hg.block i (Array.getElem?_eq_some_iff.1 hi).1 (fun e => ?_)).trans hi⟩;obtain ⟨_,o,ho,hne⟩:=hr i e.symm;rw [hi] at ho;cases ho;exact hne cs f rfl
theorem box {b : Nat} {t : TypeId} {v : Value} (hb : Boxed A b t v) (ht : t ≠ 148) (hn : n₀ ≤ b) (u : Value) : Yf n₀ A (A.setCell ⟨b,0,none⟩ u) :=
 grown (grownBy_setCell' A b u) (Nat.le_of_lt (Nat.lt_of_le_of_lt hn hb.lt)) (fun r e => by
  cases e;exact ⟨hn,_,hb,fun cs f h => ht (by injection h)⟩)
theorem turn {w : World} (hn : n₀ ≤ w.heap.size) (W : World) (l : Nat) (o o' : Obj) (hl : w.heap.size ≤ l) (h : W.heap[l]? = some o) (hc : o.isCells = false) (_ : o.isWalk = false) : Yf n₀ W (W.putObj l o') :=
 grown (grownBy_putObj' W l o') (by have:=(Array.getElem?_eq_some_iff.1 h).1;omega) (fun r e => by
  cases e;exact ⟨Qb,_,h,fun cs f hh => by rw [hh] at hc;cases hc⟩)
end Yf
theorem L7 {A B : World} (e : Qc A B) : A.grownBy B none:=⟨e.below.os,e.below.tape,e.below.output,e.size,fun _ hk _ => e.block hk⟩
theorem AbidesFrom.ext {β : Type} {B : Nat} {J : β → World → Prop} (h : AbidesFrom B J) {s : β} {W W' : World} (hs : J s W) (e : Qc W W') : J s W':=h s W W' none hs (L7 e) (fun r h => by cases h)
theorem OwnFrom.ext {β : Type} {B : Nat} {J : β → World → Prop} (h : OwnFrom B J) {s : β} {W W' : World} (hs : J s W) (e : Qc W W') : J s W':=h s W W' none hs (L7 e) (fun r h => by cases h)
abbrev Mo (c : Qd):={ x : It // c.okIt x }
def Mo.its {c : Qd} (l : List (Mo c)) : List It:=l.map (·.1)
def Mo.enc {c : Qd} (x : Mo c) : Array Value:=#[.agg #[.int .i64 (x.1.y : Int),.int .i64 x.1.n,.bool x.1.s],.int .i64 x.1.first]
theorem W7 {c : Qd} (l : List (Mo c)) (x : Mo c) : Mo.its (l ++ [x]) = Mo.its l ++ [x.1]:=by simp [Mo.its]
theorem Si {c : Qd} (l : List (Mo c)) : (Mo.its l).length = l.length:=by simp [Mo.its]
theorem Im (A A' : OA) (ca cb : Nat) (c : Qd) (w : World) :
  Calls Tryz.prog 143 #[.agg #[.slice A c.nk ca,.slice A' c.ny cb]] w fun e w' => e = .returned (.func (.func 174) #[] #[.pointer (some ⟨w.heap.size,0,none⟩)]) ∧ w.alloc (.cells #[.slice A c.nk ca,.slice A' c.ny cb] 25) = w':=by
 go_enter Tryz.func143,Tryz.ntmps143
 go_wp2;go_ret;exact ⟨rfl,rfl⟩
theorem Np {w : World} {Y : Nat} {t : TypeId} {v0 v1 v2 v3 : Value} (h : w.heap[Y]? = some (.cells #[v0,v1,v2,v3] t (0,0))) :
  w.cell? ⟨Y,0,none⟩ = some v0 ∧ w.cell? ⟨Y,1,none⟩ = some v1 ∧ w.cell? ⟨Y,2,none⟩ = some v2 ∧ w.cell? ⟨Y,3,none⟩ = some v3:=by
 refine ⟨?_,?_,?_,?_⟩ <;> simp [World.cell?,h]
theorem Qiw (A A' : OA) (ca cb : Nat) (c : Qd) (B n : Nat) (w₀ w : World) (hC : Q3 w₀ A ca A' cb c) (hlg : ∀ i,i < c.ny → 0 ≤ (c.yr i).lg ∧ (c.yr i).lg ≤ 8191) (hny : c.ny ≤ 400) (hn : 1 ≤ n) (he : Qc w₀ w)
  (hB : w.cell? ⟨B,1,none⟩ = some (.slice A' c.ny cb)) (hBl : B < w.heap.size) :
  SeqStopsK Fence.wide n Tryz.prog 174 #[.pointer (some ⟨B,0,none⟩)] (Mo.enc (c:=c)) (Yf w₀.heap.size) (fun xs => Mo.its xs = c.items) (fun Qt => Mo.its Qt <+: c.items) c.items.length w:=by
 intro l J Jx W hW hJ hJx hY h0;have hWe : Qc w₀ W:=he.trans hW;have hB' : W.cell? ⟨B,1,none⟩ = some (.slice A' c.ny cb):=(hW.cell (p:=⟨B,1,none⟩) hBl).trans hB;clear hB hBl he;refine callsIn_of_wp Tryz.func174 rfl trivial ?_ rfl;simp only [Tryz.ntmps174,List.size_toArray,List.length_cons,List.length_nil,Nat.reduceAdd,Nat.reduceSub,Array.replicate_succ,Array.replicate_zero,List.push_toArray,List.append_toArray,List.nil_append,List.cons_append]
 gi_wp2
 gi_loopw [3,10] (fun d i wr => ∃ k : Nat,k ≤ c.ny ∧ i = .int .i64 k ∧ d = .int .i64 (c.dayAt k) ∧ ∃ Qt : List (Mo c),Mo.its Qt = c.itemsTo k ∧ J Qt wr ∧ Qc w₀ wr) (fun _ i _ => c.ny - (intOf i).toNat)
 case atStart => exact ⟨0,Nat.zero_le _,rfl,rfl,[],rfl,h0,hWe⟩
 case round =>
  obtain ⟨k,hk,rfl,rfl,Qt,hpre,hJp,hE⟩:=hrel;obtain ⟨wo,rfl⟩:=Qf wr;by_cases hlt : k < c.ny
  ·obtain ⟨b,off,rfl,hb,c0,c1,c2,c3⟩:=(hC.ext hE).year hlt
   gi_wp2
   have hlgk:=hlg k hlt;have hE2 : Qc w₀ (wo.alloc (.cells #[.int .i64 (c.yr k).k,.string (c.yr k).nm,.int .i64 (c.yr k).lg,.int .i64 (c.yr k).db] 148)):=hE.alloc _;have hY0:=World.alloc_heap_new wo (.cells #[.int .i64 (c.yr k).k,.string (c.yr k).nm,.int .i64 (c.yr k).lg,.int .i64 (c.yr k).db] 148);have hJ0:=AbidesFrom.ext hJ hJp ((Qc.refl wo).alloc (.cells #[.int .i64 (c.yr k).k,.string (c.yr k).nm,.int .i64 (c.yr k).lg,.int .i64 (c.yr k).db] 148));generalize hyb : wo.heap.size = Y at *;clear hyb c0 c1 c2 c3 hb
   gi_loopw [3,6] (fun d m wq => ∃ j : Nat,j ≤ 12 ∧ m = .int .i64 (j + 1) ∧ d = .int .i64 (c.dayTo k j) ∧ ∃ Qt : List (Mo c),Mo.its Qt = c.upTo k j ∧ J Qt wq ∧ Qc w₀ wq ∧
    wq.heap[Y]? = some (.cells #[.int .i64 (c.yr k).k,.string (c.yr k).nm,.int .i64 (c.yr k).lg,.int .i64 (c.yr k).db] 148 (0,0))) (fun _ m _ => 13 - (intOf m).toNat)
   case atStart => exact ⟨0,Nat.zero_le _,rfl,by rw [Qe8],Qt,by rw [Ql1,hpre],hJ0,hE2,hY0⟩
   case round =>
    clear hE hE2 hY0 hJ0 hJp hpre Qt;obtain ⟨j,hj,rfl,rfl,Qt,hpre,hJp,hE,hYb⟩:=hrel;by_cases hlj : j < 12
    ·obtain ⟨y0,y1,y2,y3⟩:=Np hYb;have hx:=hY Qt ⟨_,Hz hlt hlj⟩ wr hJp (by have:=E9 (hpre ▸ Qai hlt hlj);rw [Si] at this;exact this);obtain ⟨fn,tmps,assign,body,hy,hR⟩:=hx;simp only [Mo.enc,Qd.it1] at hy
     gi_wp2
     refine hR.mono ?_;rintro e W3 (⟨rfl,hJ3,hk3⟩ | ⟨rfl,hJx3⟩)
     ·clear hR hy;have hYb3:=hk3.years _ _ _ hYb;have hE3 : Qc w₀ W3:=Below.trans hE hk3.below;obtain ⟨z0,z1,z2,z3⟩:=Np hYb3;have hbd:=Te c (i:=k) (k:=j) Qb;have hbl:=Vp (c.yr k) ((j : Int) + 1) false;by_cases hdb : (c.yr k).db = (j : Int) + 1
      ·have hd1 : ((c.yr k).db != (j : Int) + 1) = false:=bne_eq_false_iff_eq.2 hdb;have HD:=zh hdb;clear hdb y0 y1 y2 y3
       gi_wp2_with (refine ⟨trivial,?_⟩;gi_at_call 173;refine (callsIn_wide.2 (Mh (c.yr k) _ _ _ Qb Qb hlgk.1 hlgk.2)).mono ?_;rintro e w4 ⟨rfl,hb4⟩;obtain ⟨fn2,tmps2,assign2,body2,hy2,hR2⟩:=hY _ ⟨_,A3 hlt hlj⟩ w4 (AbidesFrom.ext hJ hJ3 hb4) (by have:=E9 (Qb8 hlt hlj HD.out);rwa [← hpre,← W7 Qt ⟨c.it1 k j,Hz hlt hlj⟩,Si] at this);simp only [Mo.enc,Qd.it2] at hy2;have hYb4:=(hb4.block (Array.getElem?_eq_some_iff.1 hYb3).1).trans hYb3;obtain ⟨x0,x1,x2,x3⟩:=Np hYb4;clear z0 z1 z2 z3)
       refine hR2.mono ?_;rintro e W5 (⟨rfl,hJ5,hk5⟩ | ⟨rfl,hJx5⟩)
       ·clear hR2 hy2;have hYb5:=hk5.years _ _ _ hYb4;have hE5 : Qc w₀ W5:=Below.trans (hE3.trans hb4) hk5.below;obtain ⟨s0,s1,s2,s3⟩:=Np hYb5;clear x0 x1 x2 x3 hd1;have hbl2:=Vp (c.yr k) ((j : Int) + 1) true
        gi_wp2_with (refine ⟨trivial,?_⟩;gi_at_call 173;refine (callsIn_wide.2 (Mh (c.yr k) _ _ _ Qb Qb hlgk.1 hlgk.2)).mono ?_;rintro e w6 ⟨rfl,hb6⟩)
        exact ⟨⟨j + 1,Qb,by go_num,by rw [Qe7 HD.out],_,by rw [W7,W7,hpre,P2 HD.out],AbidesFrom.ext hJ hJ5 hb6,hE5.trans hb6,(hb6.block (Array.getElem?_eq_some_iff.1 hYb5).1).trans hYb5⟩,zi⟩
       ·gi_wp2
        refine bodyPost_ret (results_none rfl _ _ _) rfl ?_;exact ⟨⟨_,rfl⟩,.inr ⟨_,by rw [W7,W7,hpre];exact Qb8 hlt hlj HD.out,hJx5⟩⟩
      ·have hd1 : ((c.yr k).db != (j : Int) + 1) = true:=bne_iff_ne.2 hdb;have HD:=zh hdb;clear hdb y0 y1 y2 y3
       gi_wp2_with (refine ⟨trivial,?_⟩;gi_at_call 173;refine (callsIn_wide.2 (Mh (c.yr k) _ _ _ Qb Qb hlgk.1 hlgk.2)).mono ?_;rintro e w4 ⟨rfl,hb4⟩;have hYb4:=(hb4.block (Array.getElem?_eq_some_iff.1 hYb3).1).trans hYb3;obtain ⟨x0,x1,x2,x3⟩:=Np hYb4;clear z0 z1 z2 z3)
       exact ⟨⟨j + 1,Qb,by go_num,by rw [Qe6 HD.out],_,by rw [W7,hpre,Qcc HD.out],AbidesFrom.ext hJ hJ3 hb4,hE3.trans hb4,(hb4.block (Array.getElem?_eq_some_iff.1 hYb3).1).trans hYb3⟩,zi⟩
     ·gi_wp2
      refine bodyPost_ret (results_none rfl _ _ _) rfl ?_;exact ⟨⟨_,rfl⟩,.inr ⟨_,by rw [W7,hpre];exact Qai hlt hlj,hJx3⟩⟩
    ·obtain rfl : j = 12:=Qb
     gi_wp2
     exact ⟨⟨k + 1,Qb,by go_num,rfl,Qt,by rw [hpre];rfl,hJp,hE⟩,zi⟩
  ·gi_wp2
   go_end0
   exact ⟨⟨_,rfl⟩,.inl ⟨Qt,by rw [hpre,show k = c.ny from by omega];rfl,hJp⟩⟩
end
section
open Go Go.RowKit
theorem Qf4 (w : World) (x0 y0 : Int) (x1 y1 : Int) (x2 y2 : Bool) : (Op.equalIn 10000 231 (.agg #[.int .i64 x0,.int .i64 x1,.bool x2]) (.agg #[.int .i64 y0,.int .i64 y1,.bool y2])).run Tryz.prog w = .ok ((x0 == y0) && ((x1 == y1) && (x2 == y2))) w:=by
 go_simp
 by_cases h0 : x0 = y0;rotate_left
 ·simp [h0]
 by_cases h1 : x1 = y1;rotate_left
 ·simp [h1]
 by_cases h2 : x2 = y2;rotate_left
 ·simp [h2]
 simp [h0,h1,h2]
theorem Qf8 (w : World) (x0 y0 : Int) (x1 y1 : Int) (x2 y2 : Bool) : (binOp .eql 231 (.agg #[.int .i64 x0,.int .i64 x1,.bool x2]) (.agg #[.int .i64 y0,.int .i64 y1,.bool y2])).run Tryz.prog w = .ok (.bool ((x0 == y0) && ((x1 == y1) && (x2 == y2)))) w:=by rw [run_eql_struct,Qf4];rfl
theorem Qfy (w : World) (x0 y0 : Int) (x1 y1 : Int) (x2 y2 : Bool) (x3 y3 : Int) : (Op.equalIn 10000 51 (.agg #[.int .i64 x0,.int .i64 x1,.bool x2,.int .i64 x3]) (.agg #[.int .i64 y0,.int .i64 y1,.bool y2,.int .i64 y3])).run Tryz.prog w = .ok ((x0 == y0) && ((x1 == y1) && ((x2 == y2) && (x3 == y3)))) w:=by
 go_simp
 by_cases h0 : x0 = y0;rotate_left
 ·simp [h0]
 by_cases h1 : x1 = y1;rotate_left
 ·simp [h1]
 by_cases h2 : x2 = y2;rotate_left
 ·simp [h2]
 by_cases h3 : x3 = y3;rotate_left
 ·simp [h3]
 simp [h0,h1,h2,h3]
theorem Qjc (w : World) (x0 y0 : Int) (x1 y1 : Int) (x2 y2 : Bool) (x3 y3 : Int) : (binOp .neq 51 (.agg #[.int .i64 x0,.int .i64 x1,.bool x2,.int .i64 x3]) (.agg #[.int .i64 y0,.int .i64 y1,.bool y2,.int .i64 y3])).run Tryz.prog w = .ok (.bool (!((x0 == y0) && ((x1 == y1) && ((x2 == y2) && (x3 == y3)))))) w:=by rw [run_neq_struct,Qfy];rfl
end
section
open Go Go.RowKit
attribute [local go_sem] Zu
set_option maxHeartbeats 1000000 in
theorem Ar (A A' : OA) (ca cb : Nat) (c : Qd) (d : Dt) (w : World) (hC : Q3 w A ca A' cb c) (hlg : ∀ i,i < c.ny → 0 ≤ (c.yr i).lg ∧ (c.yr i).lg ≤ 8191) :
  Calls Tryz.prog 142 #[.agg #[.slice A c.nk ca,.slice A' c.ny cb],.agg #[.int .i64 d.y,.int .i64 d.m,.bool d.s,.int .i64 d.d]] w fun e w' => e = .returned (.bool (c.has d)) ∧ Qc w w':=by
 have hny:=hC.ny_le
 have H : Hid (c.has d = (!(decide (d.y < 0) || decide ((c.ny : Int) ≤ d.y) || decide (d.m < 1) || decide (12 < d.m)) && ((!d.s || ((c.yrI d.y).db == d.m)) && decide (1 ≤ d.d) && decide (d.d ≤ (c.yrI d.y).len d.m d.s)))):=by
  unfold Hid Qd.has;rw [Bool.eq_iff_iff];cases d.s <;> simp <;> omega
 generalize c.has d = r at *
 go_enter Tryz.func142,Tryz.ntmps142
 go_upto_region 1 with fail
 refine Kq w Qq ?_;intro hne hrx hry;try simp only []
 try simp only [List.append_eq,List.cons_append,List.nil_append]
 have hrx0:=fun u o => hrx u (w.heap.size) o Zt
 have hrx1:=fun u o => hrx u (w.heap.size + 1) o Zt
 skip
 refine zuK ?_;clear hne hry hrx hrx0 hrx1;intro wp hp;obtain ⟨hcwp,hfwp,hzwp⟩:=Qc.rules hp;try simp only [World.size_alloc] at hzwp
 have hk0wp:=fun o => hcwp (w.heap.size) o Zt
 have hj0wp:=fun o => hfwp (w.heap.size) o Zt
 have hl0wp : w.heap.size < wp.heap.size:=Zt;have hk1wp:=fun o => hcwp (w.heap.size + 1) o Zt
 have hj1wp:=fun o => hfwp (w.heap.size + 1) o Zt
 have hl1wp : w.heap.size + 1 < wp.heap.size:=Zt;obtain ⟨hcbwp,hfbwp,hzbwp⟩:=Qc.rules (show Qc w wp from Qq);clear hcwp hfwp;generalize hf : (decide (d.y < 0) || decide ((c.ny : Int) ≤ d.y) || decide (d.m < 1) || decide (12 < d.m)) = f at *;cases f
 ·have hb4 : 0 ≤ d.y ∧ d.y < c.ny ∧ 1 ≤ d.m ∧ d.m ≤ 12 := by simp only [Bool.or_eq_false_iff, decide_eq_false_iff_not] at hf; omega
  obtain ⟨hy0,hy1,hm0,hm1⟩:=hb4;clear hf;obtain ⟨b,off,rfl,hb,c0,c1,c2,c3⟩:=hC.yearI hy0 hy1;obtain ⟨hl,hl'⟩ : 0 ≤ (c.yrI d.y).lg ∧ (c.yrI d.y).lg ≤ 8191:=hlg _ Qb;clear hlg hC;generalize c.yrI d.y = yy at *;go_upto_region 4 with fail
  refine Lk w mixed zK Qq ?_;intro hne hrx hry;try simp only []
  try simp only [List.append_eq,List.cons_append,List.nil_append]
  have hrx0:=fun u o => hrx u (w.heap.size) o Zt
  have hrx1:=fun u o => hrx u (w.heap.size + 1) o Zt
  skip
  repeat (first
   | go_big_quiet_skip
   | ((with_reducible apply Oh)
      ·exact rfl
      ·exact rfl
      ·exact rfl
      intro K hK
      unfold Z7;go_big_quiet_op;(with_reducible refine hK _ ?_);clear hK K)
   | ((with_reducible apply Oj)
      ·exact rfl
      ·exact rfl
      ·exact rfl
      intro K hK
      unfold Z7;go_big_quiet_op;(with_reducible refine hK _ ?_);clear hK K)
   | (go_big_quiet_want;go_big_quiet_op;go_big_quiet_on)
   | (go_big_quiet_want;go_big_quiet_op;apply Exists.intro;refine ⟨fun u => ?_,?_⟩
      ·first
        | (go_at_call 173;refine (Mh yy _ _ _ hm0 hm1 hl hl').mono ?_;rintro e w' ⟨rfl,hb⟩;exact ⟨rfl,u.back hb⟩)
      go_big_quiet_on)
   | ((with_reducible apply Oi)
      ·first | exact Wa rfl rfl rfl | exact X9 rfl rfl rfl | exact X8 rfl rfl rfl | exact X7 rfl rfl rfl
      ·exact rfl
      ·exact rfl
      ·exact rfl
      intro K hK
      unfold Z7;go_big_quiet_op;(with_reducible refine hK _ ?_);clear hK K)
   | ((with_reducible apply Ol)
      ·first | exact Wa rfl rfl rfl | exact X9 rfl rfl rfl | exact X8 rfl rfl rfl | exact X7 rfl rfl rfl
      ·exact rfl
      ·exact rfl
      ·exact rfl
      intro K hK
      unfold Z7;go_big_quiet_op;(with_reducible refine hK _ ?_);clear hK K)
   | ((with_reducible apply Lc)
      ·first | exact Wa rfl rfl rfl | exact X9 rfl rfl rfl | exact X8 rfl rfl rfl | exact X7 rfl rfl rfl
      apply Exists.intro;refine And.intro (fun hgb => ?_) ?_
      ·intro u;try simp at hgb
       go_simp
       try simp only [if_pos hsl]
       try simp only [if_pos (hin Qb)]
       try (simp only [hd0 Qb];go_simp)
       try (rw [hlook _ (Qc.trans Qq u.e) (hlk0 hgb)];go_simp)
       first
        | (with_reducible exact rfl)
        | (go_at_call 173;refine (Mh yy _ _ _ hm0 hm1 hl hl').mono ?_;rintro e w' ⟨rfl,hb⟩;exact ⟨rfl,u.back hb⟩)
      intro K hK;unfold Z7;go_big_quiet_op;(with_reducible refine hK _ ?_);clear hK K))
  clear hne hry hrx hrx0 hrx1;refine wpQuiet_nil ?_;intro wq hq;obtain ⟨hcwq,hfwq,hzwq⟩:=Qc.rules hq;try simp only [World.size_alloc] at hzwq
  have hk0wq:=fun o => hcwq (w.heap.size) o Zt
  have hj0wq:=fun o => hfwq (w.heap.size) o Zt
  have hl0wq : w.heap.size < wq.heap.size:=Zt;have hk1wq:=fun o => hcwq (w.heap.size + 1) o Zt
  have hj1wq:=fun o => hfwq (w.heap.size + 1) o Zt
  have hl1wq : w.heap.size + 1 < wq.heap.size:=Zt;obtain ⟨hcbwq,hfbwq,hzbwq⟩:=Qc.rules (show Qc w wq from Qq);clear hcwq hfwq;go_wp2;go_ret;refine ⟨Yu ?_,Qq⟩;rw [H.out];rfl
 ·go_wp2;go_ret;exact ⟨Yu (by rw [H.out];rfl),Qq⟩
def M4 (f : Nat → ByteArray) (s : ByteArray) (k : Nat) : Prop:=∀ j,j < k → f j ≠ s
theorem Qk5 {a b : ByteArray} (h : (a.toList == b.toList) = true) : a = b:=by rw [← Ot] at h;simpa using h
theorem Qk4 {a b : ByteArray} (h : (a.toList == b.toList) = false) : a ≠ b:=by rw [← Ot] at h;simpa using h
def Un (f : Nat → Yr) (y : Yr) (n : Nat) : Bool:=(List.range n).any fun j => (f j).alike y
def O0 (f : Nat → ByteArray) (k : Nat) : Prop:=∀ i j,j < i → i < k → f j ≠ f i
def Uw (f : Nat → ByteArray) (k : Nat) : Bool:=(List.range k).all fun i => Z5 (f i)
theorem Qhz {c : Qd} {j k : Nat} (hk : k < c.nk) (hj : j < k) (h : c.kg j = c.kg k) : c.kingsOk = false:=by
 rw [Bool.eq_false_iff];intro hh;simp only [Qd.kingsOk,Bool.and_eq_true,List.all_eq_true,List.mem_range] at hh;have h1:=hh.2 k hk;simp only [Qd.kingOk,Bool.and_eq_true,List.all_eq_true,List.mem_range,decide_eq_true_eq] at h1;exact h1.2 j hj h
theorem Qhy {c : Qd} (h : O0 c.kg c.nk) : c.kingsOk = (decide (1 ≤ (c.nk : Int)) && decide ((c.nk : Int) ≤ 40) && Uw c.kg c.nk):=by
 have e : (List.range c.nk).all c.kingOk = Uw c.kg c.nk:=by
  rw [Uw,Bool.eq_iff_iff];simp only [List.all_eq_true,List.mem_range,Qd.kingOk,Bool.and_eq_true,decide_eq_true_eq];exact ⟨fun hh i hi => (hh i hi).1,fun hh i hi => ⟨hh i hi,fun j hj => h i j hj hi⟩⟩
 rw [Qd.kingsOk,e]
 congr 2 <;> simp <;> omega
theorem Qjk {f : Nat → ByteArray} {s : ByteArray} {k : Nat} (h : M4 f s k) (hk : f k ≠ s) : M4 f s (k + 1):=fun j hj => by
 rcases Nat.lt_or_ge j k with h' | h'
 ·exact h j h'
 ·rw [show j = k from by omega];exact hk
theorem Qji {f : Nat → ByteArray} {k : Nat} (h : O0 f k) (hk : M4 f (f k) k) : O0 f (k + 1):=fun i j hj hi => by
 rcases Nat.lt_or_ge i k with h' | h'
 ·exact h i j hj h'
 ·obtain rfl : i = k:=Qb;exact hk j hj
theorem Qiz (f : Nat → ByteArray) (k : Nat) : Uw f (k + 1) = (Uw f k && Z5 (f k)):=by
 rw [Uw,Uw,List.range_succ,List.all_append];simp
set_option maxHeartbeats 1000000 in
theorem Ql3 (A : OA) (ca : Nat) (c : Qd) (w : World) (hA : Qo w A c.nk 1 (fun i => [.string (c.kg i)])) (hn : c.nk ≤ 9223372036854775807) (hcap : c.nk ≤ ca) :
  Calls Tryz.prog 172 #[.slice A c.nk ca] w fun e w' => e = .returned (.bool c.kingsOk) ∧ Qc w w':=by
 go_enter Tryz.func172,Tryz.ntmps172
 go_upto_region 1 with fail
 go_step3
 go_upto_region 1 with fail
 refine Kq w Qq ?_;intro hne hrx hry;try simp only []
 try simp only [List.append_eq,List.cons_append,List.nil_append]
 skip
 refine zuK ?_;clear hne hry hrx;intro wq hq;obtain ⟨hcwq,hfwq,hzwq⟩:=Qc.rules hq;try simp only [World.size_alloc] at hzwq
 obtain ⟨hcbwq,hfbwq,hzbwq⟩:=Qc.rules (show Qc w wq from Qq);clear hcwq hfwq;go_wp2
 go_step3
 go_wp2
 go_loopw [3,18] (fun o i wr => ∃ k : Nat,k ≤ c.nk ∧ i = .int .i64 k ∧ o = .bool (decide (1 ≤ (c.nk : Int)) && decide ((c.nk : Int) ≤ 40) && Uw c.kg k) ∧ O0 c.kg k ∧ Qc w wr) (fun _ i _ => c.nk - (intOf i).toNat)
 case atStart => exact ⟨0,Nat.zero_le _,rfl,by simp [Uw],(fun i j _ h => absurd h Qb),hq⟩
 case round =>
  obtain ⟨k,hk,rfl,rfl,hN,hB⟩:=hrel;clear hq hzwq hcbwq hfbwq hzbwq;obtain ⟨wo,rfl⟩:=Qf wr;obtain ⟨hcwo,hfwo,hzwo⟩:=Qc.rules hB;try simp only [World.size_alloc] at hzwo
  obtain ⟨hcbwo,hfbwo,hzbwo⟩:=Qc.rules (show Qc w wo from Qq);clear hcwo hfwo;by_cases hlt : k < c.nk
  ·obtain ⟨b, off, rfl, hb, hc⟩ := hA Qb;have hc' : ∀ j, j < c.nk → w.cell? ⟨b, off + j, none⟩ = some (.string (c.kg j)) := fun j hj => by simpa using hc j 0 _ hj rfl
   have c0:=hc' k hlt;clear hc hA;go_wp2
   go_loop [3,27] (fun o i => ∃ j : Nat,j ≤ k ∧ i = .int .i64 j ∧ o = .bool (decide (1 ≤ (c.nk : Int)) && decide ((c.nk : Int) ≤ 40) && Uw c.kg k) ∧ M4 c.kg (c.kg k) j) (fun _ i => k - (intOf i).toNat)
   case atStart => exact ⟨0,Nat.zero_le _,rfl,rfl,fun j h => absurd h Qb⟩
   case round =>
    obtain ⟨j,hj,rfl,rfl,hT⟩:=hrel;by_cases hlj : j < k
    ·have c1:=hc' j Qb;go_wp2
     ·go_ret;exact ⟨Yu (Qhz hlt hlj (Qk5 ‹_›)).symm,Qq⟩
     ·have hne:=Qk4 (a:=c.kg j) (b:=c.kg k) ‹_›;exact ⟨⟨j + 1,Qb,by go_num,rfl,Qjk hT hne⟩,zi⟩
    ·have hTk : M4 c.kg (c.kg k) k:=fun i hi => hT i Qb
     go_upto_region 11 with fail
     refine Kq w Qq ?_;intro hne hrx hry;try simp only []
     try simp only [List.append_eq,List.cons_append,List.nil_append]
     skip
     have m1:=fun x1 x2 => Ns x1 x2
     refine zuK ?_;clear hne hry hrx m1;intro wn hwn;obtain ⟨hcwn,hfwn,hzwn⟩:=Qc.rules hwn;try simp only [World.size_alloc] at hzwn
     obtain ⟨hcbwn,hfbwn,hzbwn⟩:=Qc.rules (show Qc w wn from Qq);clear hcwn hfwn;go_wp2;exact ⟨⟨k + 1,Qb,by go_num,by simp only [Qiz,Bool.and_assoc],Qji hN hTk,Qq⟩,zi⟩
  ·go_wp2;rw [Exit.noGoto_ret];go_ret;exact ⟨Yu (by rw [Qhy (fun i j hj hi => hN i j hj Qb),show c.nk = k from by omega]),Qq⟩
def Kv (c : Qd) (k : Nat) : Prop:=∀ i,i < k → c.yearOk i = true
theorem Qgo (c : Qd) (y : Yr) (k : Nat) : c.hadTo y k = Un c.yr y k:=rfl
theorem Qkf {c : Qd} {k : Nat} (h : Kv c k) : 0 ≤ c.prevK k ∧ (0 < k → c.prevK k = (c.yr (k - 1)).k):=by
 induction k with
 | zero => exact ⟨Int.le_refl _,fun h => absurd h Qb⟩
 | succ k ih =>
  have h1:=ih (fun i hi => h i Qb);have h2:=h k Qb;simp only [Qd.yearOk,Bool.and_eq_true,decide_eq_true_eq] at h2;refine ⟨?_,fun _ => rfl⟩
  show 0 ≤ (c.yr k).k
  omega
theorem Qbo (y : Yr) : y.shapeOk = !(decide (y.db < 0) || decide (12 < y.db) || decide (y.lg < 0) || decide (8191 < y.lg) || (y.db == 0 && decide (4096 ≤ y.lg))):=by
 rw [Yr.shapeOk,Bool.eq_iff_iff];simp;omega
theorem Ql6 {c : Qd} {k : Nat} (hk : k < c.ny) (h : c.yearOk k = false) : c.valid = false:=by
 rw [Bool.eq_false_iff];intro hh;simp only [Qd.valid,Bool.and_eq_true,List.all_eq_true,List.mem_range] at hh;rw [hh.2 k hk] at h;cases h
theorem Qb2 {p : Nat → Bool} {k : Nat} (h : ∀ i,i < k → p i = true) (hk : p k = true) : ∀ i,i < k + 1 → p i = true:=fun i hi => by
 rcases Nat.lt_or_ge i k with h' | h'
 ·exact h i h'
 ·rw [show i = k from by omega];exact hk
end
section
open Go Go.RowKit
open Go.Maps
theorem Iy : (263 : TypeId) < Tryz.prog.types.size:=of_decide_eq_true zK
theorem Qi8 : (match Tryz.prog.underlying 263 with | some (.array _ _) | some (.struct _) => true | _ => false) = true:=by kernel_rfl
theorem Qay : laidOutB Tryz.prog = true:=by kernel_rfl
theorem Gk : Keyed Tryz.prog 263:=Keyed.of_law (Go.deep_law_laid Qay (m:=2) Qb Iy zK Qi8)
theorem Iw : Tryz.prog.underlying 261 = some (.map 263 4):=by kernel_rfl
theorem Qi9 (w : World) : (zeroValue 4).run Tryz.prog w = .ok (.bool false) w:=by kernel_rfl
theorem Ky : Tryz.prog.underlying 4 = some .bool:=by kernel_rfl
def Kf : Option TypeDesc → Array Field
 | some (.struct fs) => fs
 | _ => #[]
theorem Qi7 : Tryz.prog.underlying 263 = some (.struct (Kf (Tryz.prog.underlying 263))):=by kernel_rfl
theorem Qi4 : (Kf (Tryz.prog.underlying 263)).toList.map (fun f => (f.type,f.offset)) = [(3,0),(9,1)]:=by kernel_rfl
theorem Qi6 : (Kf (Tryz.prog.underlying 263)).all (·.name != "_") = true:=by kernel_rfl
theorem Iv : Tryz.prog.cellsOf 263 = 2:=by kernel_rfl
theorem Qi5 : Tryz.prog.keyType 263 = true:=by kernel_rfl
theorem Qlw : ∃ m,Tryz.prog.types.size = m + 1 + 1:=by
 have h : (2 : Nat) ≤ Tryz.prog.types.size:=Nat.le_trans (show (2 : Nat) ≤ 263 by decide) (Nat.le_of_lt Iy);exact ⟨Tryz.prog.types.size - 2,Qb⟩
def Fs (k : Int) (nm : ByteArray) : Lit:=.string (keyBytes [.int .i64 k,.string nm.data.toList])
theorem Gc {k : Int} {nm : ByteArray} (hk : (Lit.int .i64 k).wf = true) (hn : nm.size ≤ maxLen) : keyOf Tryz.prog 263 (.agg #[.int .i64 k,.string nm]) = some (Fs k nm):=by
 obtain ⟨m,hm⟩:=Qlw;have hf:=Qi4;have hN:=Qi6;have hU:=Qi7;generalize Kf (Tryz.prog.underlying 263) = fs at hf hN hU;obtain ⟨l⟩:=fs;simp only [List.map_eq_cons_iff,List.map_eq_nil_iff] at hf;obtain ⟨f0,_,rfl,e0,f1,_,rfl,e1,rfl⟩:=hf;simp only [Prod.mk.injEq] at e0 e1;unfold keyOf;simp only [hU];rw [if_pos (by simp [Qi5,Value.formed,hU,Iv]),hm];unfold Program.keyLits;simp only [hU,Value.cells];rw [if_pos ⟨by rw [Iv];rfl,hN⟩,List.mapM_cons,List.mapM_cons,List.mapM_nil];rw [e0.1,e0.2,e1.1,e1.2];have c3 : Tryz.prog.cellsOf 3 = 1:=by kernel_rfl
 have c9 : Tryz.prog.cellsOf 9 = 1:=by kernel_rfl
 simp [c3,c9,Program.keyLits,hk,hn,Fs]
def K3 {H : Type} (f : Nat → Yr) : Nat → DataW H
 | 0 => .map []
 | n + 1 => (K3 f n).put (Fs (f n).k (f n).nm) (.lit (.bool true))
theorem C9 {H : Type} (f : Nat → Yr) : ∀ n,IsMap (K3 (H:=H) f n)
 | 0 => isMap_empty
 | n + 1 => (C9 f n).put _ _
def Vf (y : Yr) : Prop:=(Lit.int .i64 y.k).wf = true ∧ y.nm.size ≤ maxLen
theorem C8 {H : Type} {f : Nat → Yr} {y : Yr} (hy : Vf y) : ∀ n,(∀ j,j < n → Vf (f j)) → (K3 (H:=H) f n).atKey (Fs y.k y.nm) (.lit (.bool false)) = .lit (.bool (Un f y n))
 | 0,_ => rfl
 | n + 1,h => by
  have ih:=C8 (H:=H) hy n (fun j hj => h j Qb);have kf:=Gc (h n Qb).1 (h n Qb).2;have ky:=Gc hy.1 hy.2;have e : Un f y (n + 1) = (Un f y n || (f n).alike y):=by rw [Un,Un,List.range_succ,List.any_append];simp
  rw [e];by_cases he : (f n).alike y = true
  ·have h1 : (f n).k = y.k ∧ (f n).nm = y.nm := by simpa [Yr.alike] using he
   rw [he,Bool.or_true,K3,h1.1,h1.2];exact atKey_put_same (C9 f n) (Gk.key ky) _ _
  ·rw [Bool.not_eq_true] at he;rw [he,Bool.or_false,← ih,K3];refine atKey_put_other (fun hl => ?_) _ _;have h2:=Gk.inj ky (by rw [hl];exact kf);simp at h2;rw [Yr.alike,h2.1,h2.2] at he;simp at he
theorem Qgp {H : Type} {w : World} {b m n : Nat} {f : Nat → Yr} {y : Yr} (hm : w.ownsMap Tryz.prog 263 (plainElem (H:=H) Tryz.prog 4) b m (K3 f n)) (hy : Vf y) (hf : ∀ j,j < n → Vf (f j)) :
  (Instr.lookup 261 (.map (some b)) (.agg #[.int .i64 y.k,.string y.nm]) false).run Tryz.prog w = .ok (.bool (Un f y n)) w:=by
 obtain ⟨v,ps,hrun,hv⟩:=hm.lookup Gk Iw (Qi9 w) (plainElem_bool Ky false) (Gc hy.1 hy.2);rw [C8 hy n hf] at hv;rw [hrun];simp only [plainElem,Ky] at hv
 split at hv <;> simp_all
end
section
open Go Go.RowKit
open Go.Maps
attribute [local go_sem] Zu
theorem Qan {H : Type} {P : Program} {k : TypeId} {R : Value → Option (DataW H × List MemPlace)} {w w' : World} {b n : Nat} {D : DataW H} (h : w.ownsMap P k R b n D) (e : Qc w w') : w'.ownsMap P k R b n D:=by
 have hlt:=h.lt;obtain ⟨es,clock,hb,F,hs,hD⟩:=h;exact ⟨es,clock,(e.block hlt).trans hb,F,hs,hD⟩
theorem Ej {y : Yr} {n : Int} (h0 : 0 ≤ y.k) (h1 : y.k < n) (hn : n ≤ 9223372036854775807) (hs : Z5 y.nm = true) : Vf y:=by
 refine ⟨?_,?_⟩
 ·simp [Lit.wf,IntKind.min,IntKind.max,IntKind.signed,IntKind.bits];omega
 ·simp only [Z5,Bool.and_eq_true,decide_eq_true_eq] at hs;have : maxLen = 9223372036854775807:=rfl;omega
theorem Qaw {c : Qd} {k : Nat} (h : Kv c k) : 0 ≤ c.prevK k:=(Qkf h).1
theorem El {c : Qd} {k : Nat} (h : Kv c k) (hn : c.nk ≤ 9223372036854775807) : ∀ j,j < k → Vf (c.yr j):=fun j hj => by
 have h1:=h j hj;have h2:=Qaw (c:=c) (k:=j) (fun i hi => h i Qb);simp only [Qd.yearOk,Bool.and_eq_true,decide_eq_true_eq] at h1;exact Ej (n:=c.nk) Qb Qb Qb (by simp_all)
theorem Qmo (c : Qd) (k : Nat) : c.yearOk k =
  !(decide ((c.yr k).k < c.prevK k) || decide ((c.nk : Int) ≤ (c.yr k).k) || !Z5 (c.yr k).nm || Un c.yr (c.yr k) k || decide ((c.yr k).db < 0) || decide (12 < (c.yr k).db) || decide ((c.yr k).lg < 0) || decide (8191 < (c.yr k).lg) || ((c.yr k).db == 0 && decide (4096 ≤ (c.yr k).lg))):=by
 rw [Qd.yearOk,Qgo,Qbo,Bool.eq_iff_iff];cases Z5 (c.yr k).nm <;> cases Un c.yr (c.yr k) k <;> simp <;> omega
theorem Ql4 {c : Qd} (h : (!c.kingsOk || decide ((c.ny : Int) < 1) || decide (400 < (c.ny : Int))) = true) : c.valid = false:=by
 rw [Bool.eq_false_iff];intro hh;simp only [Qd.valid,Bool.and_eq_true,decide_eq_true_eq] at hh;simp only [Bool.or_eq_true,decide_eq_true_eq,Bool.not_eq_true'] at h;rcases h with (h | h) | h
 ·rw [hh.1.1.1] at h;cases h
 ·omega
 ·omega
theorem Ql7 {c : Qd} (h : (!c.kingsOk || decide ((c.ny : Int) < 1) || decide (400 < (c.ny : Int))) = false) (hy : Kv c c.ny) : c.valid = true:=by
 simp only [Bool.or_eq_false_iff,decide_eq_false_iff_not,Bool.not_eq_false'] at h;simp only [Qd.valid,Bool.and_eq_true,List.all_eq_true,List.mem_range,decide_eq_true_eq];exact ⟨⟨⟨h.1.1,Qb⟩,Qb⟩,hy⟩
theorem Fo (A A' : OA) (ca cb : Nat) (c : Qd) (w : World) (hC : Q3 w A ca A' cb c) :
  Calls Tryz.prog 141 #[.agg #[.slice A c.nk ca,.slice A' c.ny cb]] w fun e w' => e = .returned (.bool c.valid) ∧ Qc w w':=by
 have hnk:=hC.nk_le;have hny:=hC.ny_le;have hcapk:=hC.nk_cap;have hcapy:=hC.ny_cap;have hmm:=@run_makeMap Tryz.prog
 go_enter Tryz.func141,Tryz.ntmps141
 go_upto_region 1 with fail
 refine Kq w Qq ?_;intro hne hrx hry;try simp only []
 try simp only [List.append_eq,List.cons_append,List.nil_append]
 have hrx0:=fun u o => hrx u (w.heap.size) o Zt
 skip
 have n1:=fun u  => (And.intro (hrx u) (Ql3 _ ca c _ (hC.kings.ext (Qc.trans Qq u.e)) Qb Qb)).2
 refine zuK ?_;clear hne hry hrx hrx0 n1;intro wq hq;obtain ⟨hcwq,hfwq,hzwq⟩:=Qc.rules hq;try simp only [World.size_alloc] at hzwq
 have hk0wq:=fun o => hcwq (w.heap.size) o Zt
 have hj0wq:=fun o => hfwq (w.heap.size) o Zt
 have hl0wq : w.heap.size < wq.heap.size:=Zt;obtain ⟨hcbwq,hfbwq,hzbwq⟩:=Qc.rules (show Qc w wq from Qq);clear hcwq hfwq;generalize hf : (!c.kingsOk || decide ((c.ny : Int) < 1) || decide (400 < (c.ny : Int))) = f at *;have HF : Hid (_ = f):=hf;clear hf;cases f
 ·go_wp2;have hB0 : Qc (w.alloc (.cells #[.slice A c.nk ca,.slice A' c.ny cb] 25)) wq:=hq
  go_loopw [4,27] (fun kg i wr => ∃ k : Nat,k ≤ c.ny ∧ i = .int .i64 k ∧ kg = .int .i64 (c.prevK k) ∧ Kv c k ∧ Qc (w.alloc (.cells #[.slice A c.nk ca,.slice A' c.ny cb] 25)) wr ∧
   wr.ownsMap Tryz.prog 263 (plainElem (H:=Unit) Tryz.prog 4) wq.heap.size k (K3 c.yr k)) (fun _ i _ => c.ny - (intOf i).toNat)
  case atStart => exact ⟨0,Nat.zero_le _,rfl,rfl,(fun i h => absurd h Qb),Qc.alloc hq _,World.ownsMap_made _ _ _ _⟩
  case round =>
   obtain ⟨k,hk,rfl,rfl,hY,hB,hM⟩:=hrel;clear hzwq hk0wq hj0wq hl0wq hcbwq hfbwq hzbwq;obtain ⟨wo,rfl⟩:=Qf wr;obtain ⟨hcwo,hfwo,hzwo⟩:=Qc.rules hB;try simp only [World.size_alloc] at hzwo
   have hk0wo:=fun o => hcwo (w.heap.size) o Zt
   have hj0wo:=fun o => hfwo (w.heap.size) o Zt
   have hl0wo : w.heap.size < wo.heap.size:=Zt;obtain ⟨hcbwo,hfbwo,hzbwo⟩:=Qc.rules (show Qc w wo from Qq);clear hcwo hfwo;by_cases hlt : k < c.ny
   ·obtain ⟨b,off,rfl,hb,c0,c1,c2,c3⟩:=hC.year hlt;have HY : Hid (c.yearOk k = _):=Qmo c k;have hbo : b < wo.heap.size:=Qb;have h0:=Qaw hY
    have hlook : ∀ w',Qc wo w' → Vf (c.yr k) → (Instr.lookup 261 (.map (some wq.heap.size)) (.agg #[.int .i64 (c.yr k).k,.string (c.yr k).nm]) false).run Tryz.prog w' = .ok (.bool (Un c.yr (c.yr k) k)) w' :=
     fun w' e hy => Qgp (Qan hM e) hy (El hY hnk)
    have hlk0 : (c.prevK k ≤ (c.yr k).k ∧ (c.yr k).k < c.nk) ∧ Z5 (c.yr k).nm = true → Vf (c.yr k):=fun h => Ej Qb h.1.2 Qb h.2
    go_upto_region 8 with fail
    refine Kq wo Qq ?_;intro hne hrx hry;try simp only []
    try simp only [List.append_eq,List.cons_append,List.nil_append]
    have hrx0:=fun u o => hrx u (wo.heap.size) o Zt
    skip
    have m1:=fun x1 x2 => Ns x1 x2
    refine zuK ?_;clear hne hry hrx hrx0 m1;intro wn hwn;obtain ⟨hcwn,hfwn,hzwn⟩:=Qc.rules hwn;try simp only [World.size_alloc] at hzwn
    have hk0wn:=fun o => hcwn (wo.heap.size) o Zt
    have hj0wn:=fun o => hfwn (wo.heap.size) o Zt
    have hl0wn : wo.heap.size < wn.heap.size:=Zt;obtain ⟨hcbwn,hfbwn,hzbwn⟩:=Qc.rules (show Qc wo wn from Qq);clear hcwn hfwn;generalize hs : (decide ((c.yr k).k < c.prevK k) || decide ((c.nk : Int) ≤ (c.yr k).k) || !Z5 (c.yr k).nm || Un c.yr (c.yr k) k || decide ((c.yr k).db < 0) || decide (12 < (c.yr k).db) || decide ((c.yr k).lg < 0) || decide (8191 < (c.yr k).lg) || ((c.yr k).db == 0 && decide (4096 ≤ (c.yr k).lg))) = s at *;have HS : Hid (c.yearOk k = !s):=HY.out;clear hs HY;cases s
    ·have hY1 : Kv c (k + 1):=Qb2 hY HS.out;have hyk : Vf (c.yr k):=El hY1 hnk k Qb;have hMn:=Qan hM (w':=wn) (Qc.trans Qq hwn);obtain ⟨w1,hrun1,hM1,hg1⟩:=hMn.update Gk Iw (show k < 9223372036854775807 by omega) (Gc hyk.1 hyk.2) (plainElem_bool Ky true);have hsz : (w.alloc (.cells #[.slice A c.nk ca,.slice (some ⟨b,off,none⟩) c.ny cb] 25)).heap.size ≤ wq.heap.size:=hB0.size;have hE1 : Qc (w.alloc (.cells #[.slice A c.nk ca,.slice (some ⟨b,off,none⟩) c.ny cb] 25)) w1:=Qc.grown (w:=wn) Qq hg1 (fun j hj => by cases hj;exact hsz);go_wp2;exact ⟨⟨k + 1,Qb,by go_num,rfl,hY1,hE1,hM1⟩,zi⟩
    ·go_wp2;go_ret;exact ⟨Yu (Ql6 hlt HS.out).symm,Qq⟩
   ·have hY' : Kv c c.ny:=fun i hi => hY i Qb
    go_wp2;go_ret;exact ⟨Yu (Ql7 HF.out hY').symm,Qq⟩
 ·go_wp2;go_ret;exact ⟨Yu (Ql4 HF.out).symm,Qq⟩
end
section
open Go Go.RowKit
attribute [local go_sem] Zu
theorem Qej {c : Qd} (h : c.valid = true) : c.chk = 0:=by simp [Qd.chk,h]
theorem chk_no {c : Qd} (h : c.valid = false) : c.chk = 70:=by simp [Qd.chk,h]
set_option maxHeartbeats 1000000 in
theorem Qee (A A' : OA) (ca cb : Nat) (c : Qd) (w : World) (hC : Q3 w A ca A' cb c) :
  Calls Tryz.prog 115 #[.agg #[.slice A c.nk ca,.slice A' c.ny cb]] w fun e w' => e = .returned (.int .i64 c.chk) ∧ Qc w w':=by
 go_enter Tryz.func115,Tryz.ntmps115
 go_upto_region 1 with fail
 refine Kq w Qq ?_;intro hne hrx hry;try simp only []
 try simp only [List.append_eq,List.cons_append,List.nil_append]
 have hrx0:=fun u o => hrx u (w.heap.size) o Zt
 skip
 repeat (first
  | go_big_quiet_skip
  | ((with_reducible apply Oh)
     ·exact rfl
     ·exact rfl
     ·exact rfl
     intro K hK
     unfold Z7;go_big_quiet_op;(with_reducible refine hK _ ?_);clear hK K)
  | ((with_reducible apply Oj)
     ·exact rfl
     ·exact rfl
     ·exact rfl
     intro K hK
     unfold Z7;go_big_quiet_op;(with_reducible refine hK _ ?_);clear hK K)
  | (go_big_quiet_want;go_big_quiet_op;go_big_quiet_on)
  | (go_big_quiet_want;go_big_quiet_op;apply Exists.intro;refine ⟨fun u => ?_,?_⟩
     ·first
       | (go_at_call 141;refine (Fo _ _ _ _ c _ (hC.ext (Qc.trans Qq u.e))).mono ?_;rintro e w' ⟨rfl,hb⟩;exact ⟨rfl,u.back hb⟩)
     go_big_quiet_on)
  | ((with_reducible apply Oi)
     ·first | exact Wa rfl rfl rfl | exact X9 rfl rfl rfl | exact X8 rfl rfl rfl | exact X7 rfl rfl rfl
     ·exact rfl
     ·exact rfl
     ·exact rfl
     intro K hK
     unfold Z7;go_big_quiet_op;(with_reducible refine hK _ ?_);clear hK K)
  | ((with_reducible apply Ol)
     ·first | exact Wa rfl rfl rfl | exact X9 rfl rfl rfl | exact X8 rfl rfl rfl | exact X7 rfl rfl rfl
     ·exact rfl
     ·exact rfl
     ·exact rfl
     intro K hK
     unfold Z7;go_big_quiet_op;(with_reducible refine hK _ ?_);clear hK K)
  | ((with_reducible apply Lc)
     ·first | exact Wa rfl rfl rfl | exact X9 rfl rfl rfl | exact X8 rfl rfl rfl | exact X7 rfl rfl rfl
     apply Exists.intro;refine And.intro (fun hgb => ?_) ?_
     ·intro u;try simp at hgb
      go_simp
      try simp only [if_pos hsl]
      try simp only [if_pos (hin Qb)]
      try (simp only [hd0 Qb];go_simp)
      try (rw [hlook _ (Qc.trans Qq u.e) (hlk0 hgb)];go_simp)
      first
       | (with_reducible exact rfl)
       | (go_at_call 141;refine (Fo _ _ _ _ c _ (hC.ext (Qc.trans Qq u.e))).mono ?_;rintro e w' ⟨rfl,hb⟩;exact ⟨rfl,u.back hb⟩)
     intro K hK;unfold Z7;go_big_quiet_op;(with_reducible refine hK _ ?_);clear hK K))
 clear hne hry hrx hrx0;refine wpQuiet_nil ?_;intro wq hq;obtain ⟨hcwq,hfwq,hzwq⟩:=Qc.rules hq;try simp only [World.size_alloc] at hzwq
 have hk0wq:=fun o => hcwq (w.heap.size) o Zt
 have hj0wq:=fun o => hfwq (w.heap.size) o Zt
 have hl0wq : w.heap.size < wq.heap.size:=Zt;obtain ⟨hcbwq,hfbwq,hzbwq⟩:=Qc.rules (show Qc w wq from Qq);clear hcwq hfwq;generalize hv : c.valid = v at *;cases v
 ·go_wp2;go_ret;exact ⟨Vw (chk_no hv).symm,Qq⟩
 ·go_wp2;go_ret;exact ⟨Vw (Qej hv).symm,Qq⟩
def Tf (d : Dt) : List Value:=[.int .i64 d.y,.int .i64 d.m,.bool d.s,.int .i64 d.d]
def InTo (c : Qd) (f : Nat → Dt) (k : Nat) : Prop:=∀ i,i < k → c.has (f i) = true
def Qd.checks (c : Qd) (f : Nat → Dt) (n : Nat) : Int:=if c.valid then (if (List.range n).all (fun i => c.has (f i)) then 0 else 71) else 70
theorem Qef {c : Qd} {f : Nat → Dt} {n : Nat} (h : c.valid = false) : c.checks f n = 70:=by simp [Qd.checks,h]
theorem Qeg {c : Qd} {f : Nat → Dt} {n k : Nat} (h : c.valid = true) (hk : k < n) (ho : c.has (f k) = false) : c.checks f n = 71:=by
 have : (List.range n).all (fun i => c.has (f i)) = false:=by
  rw [List.all_eq_false];exact ⟨k,by simpa using hk,by simp [ho]⟩
 simp only [Qd.checks,h,this];rfl
theorem Qeh {c : Qd} {f : Nat → Dt} {n : Nat} (h : c.valid = true) (hI : InTo c f n) : c.checks f n = 0:=by
 have : (List.range n).all (fun i => c.has (f i)) = true:=by
  rw [List.all_eq_true];intro i hi;exact hI i (by simpa using hi)
 simp only [Qd.checks,h,this];rfl
theorem Ox {c : Qd} (h : c.valid = true) : ∀ i,i < c.ny → 0 ≤ (c.yr i).lg ∧ (c.yr i).lg ≤ 8191:=fun i hi => by
 simp only [Qd.valid,Bool.and_eq_true,List.all_eq_true,List.mem_range] at h;have h1:=h.2 i hi;simp only [Qd.yearOk,Bool.and_eq_true] at h1;have h2:=h1.2;rw [Qbo] at h2;simp at h2;omega
set_option maxHeartbeats 1000000 in
theorem Ui (A A' : OA) (ca cb : Nat) (c : Qd) (B : OA) (n cap : Nat) (f : Nat → Dt) (w : World) (hC : Q3 w A ca A' cb c) (hD : Qo w B n 4 (fun i => Tf (f i))) (hn : n ≤ 9223372036854775807) :
  Calls Tryz.prog 94 #[.agg #[.slice A c.nk ca,.slice A' c.ny cb],.slice B n cap] w fun e w' => e = .returned (.int .i64 (c.checks f n)) ∧ Qc w w':=by
 go_enter Tryz.func94,Tryz.ntmps94
 go_upto_region 1 with fail
 refine Kq w Qq ?_;intro hne hrx hry;try simp only []
 try simp only [List.append_eq,List.cons_append,List.nil_append]
 have hrx0:=fun u o => hrx u (w.heap.size) o Zt
 skip
 repeat (first
  | go_big_quiet_skip
  | ((with_reducible apply Oh)
     ·exact rfl
     ·exact rfl
     ·exact rfl
     intro K hK
     unfold Z7;go_big_quiet_op;(with_reducible refine hK _ ?_);clear hK K)
  | ((with_reducible apply Oj)
     ·exact rfl
     ·exact rfl
     ·exact rfl
     intro K hK
     unfold Z7;go_big_quiet_op;(with_reducible refine hK _ ?_);clear hK K)
  | (go_big_quiet_want;go_big_quiet_op;go_big_quiet_on)
  | (go_big_quiet_want;go_big_quiet_op;apply Exists.intro;refine ⟨fun u => ?_,?_⟩
     ·first
       | (go_at_call 141;refine (Fo _ _ _ _ c _ (hC.ext (Qc.trans Qq u.e))).mono ?_;rintro e w' ⟨rfl,hb⟩;exact ⟨rfl,u.back hb⟩)
     go_big_quiet_on)
  | ((with_reducible apply Oi)
     ·first | exact Wa rfl rfl rfl | exact X9 rfl rfl rfl | exact X8 rfl rfl rfl | exact X7 rfl rfl rfl
     ·exact rfl
     ·exact rfl
     ·exact rfl
     intro K hK
     unfold Z7;go_big_quiet_op;(with_reducible refine hK _ ?_);clear hK K)
  | ((with_reducible apply Ol)
     ·first | exact Wa rfl rfl rfl | exact X9 rfl rfl rfl | exact X8 rfl rfl rfl | exact X7 rfl rfl rfl
     ·exact rfl
     ·exact rfl
     ·exact rfl
     intro K hK
     unfold Z7;go_big_quiet_op;(with_reducible refine hK _ ?_);clear hK K)
  | ((with_reducible apply Lc)
     ·first | exact Wa rfl rfl rfl | exact X9 rfl rfl rfl | exact X8 rfl rfl rfl | exact X7 rfl rfl rfl
     apply Exists.intro;refine And.intro (fun hgb => ?_) ?_
     ·intro u;try simp at hgb
      go_simp
      try simp only [if_pos hsl]
      try simp only [if_pos (hin Qb)]
      try (simp only [hd0 Qb];go_simp)
      try (rw [hlook _ (Qc.trans Qq u.e) (hlk0 hgb)];go_simp)
      first
       | (with_reducible exact rfl)
       | (go_at_call 141;refine (Fo _ _ _ _ c _ (hC.ext (Qc.trans Qq u.e))).mono ?_;rintro e w' ⟨rfl,hb⟩;exact ⟨rfl,u.back hb⟩)
     intro K hK;unfold Z7;go_big_quiet_op;(with_reducible refine hK _ ?_);clear hK K))
 clear hne hry hrx hrx0;refine wpQuiet_nil ?_;intro wq hq;obtain ⟨hcwq,hfwq,hzwq⟩:=Qc.rules hq;try simp only [World.size_alloc] at hzwq
 have hk0wq:=fun o => hcwq (w.heap.size) o Zt
 have hj0wq:=fun o => hfwq (w.heap.size) o Zt
 have hl0wq : w.heap.size < wq.heap.size:=Zt;obtain ⟨hcbwq,hfbwq,hzbwq⟩:=Qc.rules (show Qc w wq from Qq);clear hcwq hfwq;generalize hv : c.valid = v at *;cases v
 ·go_wp2;go_ret;exact ⟨Vw (Qef hv).symm,Qq⟩
 ·go_wp2
  go_loopw [12] (fun i wr => ∃ k : Nat,k ≤ n ∧ i = .int .i64 k ∧ InTo c f k ∧ Qc (w.alloc (.cells #[.slice A c.nk ca,.slice A' c.ny cb] 25)) wr) (fun i _ => n - (intOf i).toNat)
  case atStart => exact ⟨0,Nat.zero_le _,rfl,(fun i h => absurd h Qb),hq⟩
  case round =>
   obtain ⟨k,hk,rfl,hI,hB⟩:=hrel;clear hzwq hk0wq hj0wq hl0wq hcbwq hfbwq hzbwq hq;obtain ⟨wo,rfl⟩:=Qf wr;obtain ⟨hcwo,hfwo,hzwo⟩:=Qc.rules hB;try simp only [World.size_alloc] at hzwo
   have hk0wo:=fun o => hcwo (w.heap.size) o Zt
   have hj0wo:=fun o => hfwo (w.heap.size) o Zt
   have hl0wo : w.heap.size < wo.heap.size:=Zt;obtain ⟨hcbwo,hfbwo,hzbwo⟩:=Qc.rules (show Qc w wo from Qq);clear hcwo hfwo;by_cases hlt : k < n
   ·obtain ⟨b, off, rfl, hb, hc⟩ := hD Qb;have c0 : w.cell? ⟨b, off + k * 4, none⟩ = some (.int .i64 (f k).y) := by simpa using hc k 0 _ hlt rfl
    have c1 : w.cell? ⟨b,off + k * 4 + 1,none⟩ = some (.int .i64 (f k).m):=hc k 1 _ hlt rfl;have c2 : w.cell? ⟨b,off + k * 4 + 2,none⟩ = some (.bool (f k).s):=hc k 2 _ hlt rfl;have c3 : w.cell? ⟨b,off + k * 4 + 3,none⟩ = some (.int .i64 (f k).d):=hc k 3 _ hlt rfl;clear hc hD;have hbo : b < wo.heap.size:=Qb;go_upto_region 6 with fail
    refine Kq wo Qq ?_;intro hne hrx hry;try simp only []
    try simp only [List.append_eq,List.cons_append,List.nil_append]
    have hrx0:=fun u o => hrx u (wo.heap.size) o Zt
    skip
    repeat (first
     | go_big_quiet_skip
     | ((with_reducible apply Oh)
        ·exact rfl
        ·exact rfl
        ·exact rfl
        intro K hK
        unfold Z7;go_big_quiet_op;(with_reducible refine hK _ ?_);clear hK K)
     | ((with_reducible apply Oj)
        ·exact rfl
        ·exact rfl
        ·exact rfl
        intro K hK
        unfold Z7;go_big_quiet_op;(with_reducible refine hK _ ?_);clear hK K)
     | (go_big_quiet_want;go_big_quiet_op;go_big_quiet_on)
     | (go_big_quiet_want;go_big_quiet_op;apply Exists.intro;refine ⟨fun u => ?_,?_⟩
        ·first
          | (go_at_call 142;refine (Ar _ _ _ _ c (f k) _ (hC.ext (Qc.trans Qq u.e)) (Ox hv)).mono ?_;rintro e w' ⟨rfl,hb⟩;exact ⟨rfl,u.back hb⟩)
        go_big_quiet_on)
     | ((with_reducible apply Oi)
        ·first | exact Wa rfl rfl rfl | exact X9 rfl rfl rfl | exact X8 rfl rfl rfl | exact X7 rfl rfl rfl
        ·exact rfl
        ·exact rfl
        ·exact rfl
        intro K hK
        unfold Z7;go_big_quiet_op;(with_reducible refine hK _ ?_);clear hK K)
     | ((with_reducible apply Ol)
        ·first | exact Wa rfl rfl rfl | exact X9 rfl rfl rfl | exact X8 rfl rfl rfl | exact X7 rfl rfl rfl
        ·exact rfl
        ·exact rfl
        ·exact rfl
        intro K hK
        unfold Z7;go_big_quiet_op;(with_reducible refine hK _ ?_);clear hK K)
     | ((with_reducible apply Lc)
        ·first | exact Wa rfl rfl rfl | exact X9 rfl rfl rfl | exact X8 rfl rfl rfl | exact X7 rfl rfl rfl
        apply Exists.intro;refine And.intro (fun hgb => ?_) ?_
        ·intro u;try simp at hgb
         go_simp
         try simp only [if_pos hsl]
         try simp only [if_pos (hin Qb)]
         try (simp only [hd0 Qb];go_simp)
         try (rw [hlook _ (Qc.trans Qq u.e) (hlk0 hgb)];go_simp)
         first
          | (with_reducible exact rfl)
          | (go_at_call 142;refine (Ar _ _ _ _ c (f k) _ (hC.ext (Qc.trans Qq u.e)) (Ox hv)).mono ?_;rintro e w' ⟨rfl,hb⟩;exact ⟨rfl,u.back hb⟩)
        intro K hK;unfold Z7;go_big_quiet_op;(with_reducible refine hK _ ?_);clear hK K))
    clear hne hry hrx hrx0;refine wpQuiet_nil ?_;intro wn hwn;obtain ⟨hcwn,hfwn,hzwn⟩:=Qc.rules hwn;try simp only [World.size_alloc] at hzwn
    have hk0wn:=fun o => hcwn (wo.heap.size) o Zt
    have hj0wn:=fun o => hfwn (wo.heap.size) o Zt
    have hl0wn : wo.heap.size < wn.heap.size:=Zt;obtain ⟨hcbwn,hfbwn,hzbwn⟩:=Qc.rules (show Qc wo wn from Qq);clear hcwn hfwn;generalize hs : c.has (f k) = s at *;cases s
    ·go_wp2;go_ret;exact ⟨Vw (Qeg hv hlt hs).symm,Qq⟩
    ·go_wp2;exact ⟨⟨k + 1,Qb,by go_num,Qb2 hI hs,Qq⟩,zi⟩
   ·go_wp2;go_ret;exact ⟨Vw (Qeh hv (fun i hi => hI i Qb)).symm,Qq⟩
end
section
open Go Go.RowKit Go.Shelf
attribute [local go_sem] Oper.semAt_some Zu
attribute [local go_sem high] Qf8
theorem Qc.putObj {W w : World} (h : Qc W w) {k : Nat} (hk : W.heap.size ≤ k) (o : Obj) : Qc W (w.putObj k o):=h.grown (grownBy_putObj' w k o) (fun j e => by cases e;exact hk)
theorem Gw {β : Type} {B : Nat} {w₀ : World} (hB : w₀.heap.size ≤ B) : OwnFrom B (fun (_ : β) W => Qc w₀ W):=ownFrom_below (Nat.le_refl _) hB
theorem Mf {B : Nat} {W W' : World} (e : Qc W W') : KeepsFrom B W W':=⟨e.size,fun _ _ _ h _ => (e.block (Array.getElem?_eq_some_iff.1 h).1).trans h⟩
theorem Fa {F : Fence} {n : Nat} {P : Program} {fn : Func} {R : Ending → World → Prop} {tmps : Array Value} {w : World} {v : Value} {D : Nat} (hK : w.heap[D]? = some (.deferred (some [])))
  (hr : (results fn tmps).run P (w.putObj D (.deferred none)) = .ok v (w.putObj D (.deferred none))) (hR : R (.returned v) (w.putObj D (.deferred none))) :
  bodyPostM F n P fn R .ret { tmps:=tmps,defers:=[{ target:=.collected D,args:=#[] }] } w:=⟨by simp,.inl ⟨_,_,rfl,run_takeDeferred hK,v,hr,hR⟩⟩
theorem Lr {W : World} {B : Nat} {t : TypeId} {v : Value} (h : Boxed W B t v) {D : Nat} {o o' : Obj} (hK : W.heap[D]? = some o) (ho : o.isCells = false) : Boxed (W.putObj D o') B t v :=
 h.kept (grownBy_putObj' W D o') (fun e => by
  cases e
  rw [show W.heap[B]? = _ from h] at hK;cases hK;cases ho)
/-- 'for m, first := range months(c)': the law of such a loop. -/
theorem Eu {g : Operand} {ps : Array Tmp} {assign body : Code} {Q : Exit → Act → World → Prop} {a : Act} {A A' : OA} {ca cb : Nat} {c : Qd} {B : Nat} (w₀ w : World)
  (hg : a.eval g = .func (.func 174) #[] #[.pointer (some ⟨B,0,none⟩)]) (hps : ps.size = 2)
  (hC : Q3 w₀ A ca A' cb c) (hlg : ∀ i,i < c.ny → 0 ≤ (c.yr i).lg ∧ (c.yr i).lg ≤ 8191) (hny : c.ny ≤ 400) (he : Qc w₀ w) (hB : w.cell? ⟨B,1,none⟩ = some (.slice A' c.ny cb)) (hBl : B < w.heap.size)
  (I : List (Mo c) → World → Prop) (Ix : Code → List (Mo c) → World → Prop) (hI : OwnFrom w.heap.size I) (hIx : ∀ c,OwnFrom w.heap.size (Ix c)) (h0 : I [] w) (Ax : Mo c → Act → World → Prop)
  (hAx : ∀ x a',OwnFrom w.heap.size (fun (_ : Unit) W => Ax x a' W))
  (hassign : ∀ (l : Nat) (Qt : List (Mo c)) (x : Mo c) (W : World) (K : Act → World → Prop),I Qt W → (∀ a' W',KeepsFrom w.heap.size W W' → Yf w₀.heap.size W W' → I Qt W' → Ax x a' W' → K a' W') →
   assign.wpIn (Fence.wide.inRound l) 7 Tryz.prog (Exit.then K (fun _ _ _ => False)) { tmps:=(ps.zip (Mo.enc x)).foldl (fun t (p,v) => t.setIfInBounds p v) a.tmps,defers:=[] } W)
  (hbody : ∀ (l : Nat) (Qt : List (Mo c)) (x : Mo c) (a' : Act) (W : World),w.heap.size ≤ l → I Qt W → Ax x a' W → Qt.length < 13 * c.ny → body.wpIn (Fence.wide.inRound l) 7 Tryz.prog (ownPostG w.heap.size (Yf w₀.heap.size) I Ix (Qt ++ [x]) W) a' W)
  (hdone : ∀ (D : Nat) (xs : List (Mo c)) (W : World),w.heap.size ≤ D → Mo.its xs = c.items → I xs W → W.heap[D]? = some (.deferred (some [])) → Q .normal { a with defers:={ target:=.collected D,args:=#[] } :: a.defers } W)
  (hstop : ∀ (D : Nat) (c' : Code) (Qt : List (Mo c)) (W : World),w.heap.size ≤ D → Mo.its Qt <+: c.items → Ix c' Qt W → W.heap[D]? = some (.deferred (some [])) → c'.wp Tryz.prog Q { a with defers:={ target:=.collected D,args:=#[] } :: a.defers } W) :
  (Code.rangeFunc g ps assign body).wp Tryz.prog Q a w:=by
 refine (wpIn_wide (n:=9)).1 (wpIn_rangeFunc_ownH rfl Qb hg trivial (enters_of Tryz.func174 zK rfl) (Qiw A A' ca cb c B 8 w₀ w hC hlg hny Qb he hB hBl)
  Yf.trans (Yf.turn he.size) (Below.refl _ _) (fun _ => hps.symm) I Ix hI hIx h0 Ax hAx hassign (fun l Qt x a' W hl _ hi hx hlt => hbody l Qt x a' W hl hi hx (Nat.lt_of_lt_of_le hlt (H0 c c.ny))) hdone
  (fun D c' Qt W hD hp hx hK => wpIn_wide.2 (hstop D c' Qt W hD hp hx hK)))
theorem S9 {β γ : Type} {B : Nat} {I : γ → β → World → Prop} (h : ∀ x,OwnFrom B (I x)) : OwnFrom B (fun s W => ∃ x,I x s W):=fun s X Y row ⟨x,hs⟩ hg hr => ⟨x,h x s X Y row hs hg hr⟩
theorem Mm {β : Type} (B b : Nat) (t : TypeId) (f : β → Value) : OwnFrom B (fun s W => Boxed W b t (f s)):=Own.from (boxed_own b t f) B
def Qa (W : World) (b : Nat) (t : TypeId) (cs : Array Value) : Prop:=W.heap[b]? = some (.cells cs t (0,0))
theorem Qa.lt {W : World} {b : Nat} {t : TypeId} {cs : Array Value} (h : Qa W b t cs) : b < W.heap.size:=(Array.getElem?_eq_some_iff.1 h).1
theorem Qa.new (W : World) (t : TypeId) (cs : Array Value) : Qa (W.alloc (.cells cs t)) W.heap.size t cs:=World.alloc_heap_new W _
theorem Qa.at (W : World) (t : TypeId) (cs : Array Value) (b : Nat) (h : b = W.heap.size) : Qa (W.alloc (.cells cs t)) b t cs:=by rw [h];exact Qa.new W t cs
theorem Qa.alloc {W : World} {b : Nat} {t : TypeId} {cs : Array Value} (h : Qa W b t cs) (o : Obj) : Qa (W.alloc o) b t cs:=(Below.heap_alloc W o b h.lt).trans h
theorem Qa.boxed {W : World} {b : Nat} {t : TypeId} {v : Value} (h : Qa W b t #[v]) : Boxed W b t v:=h
theorem Qa.ext {W W' : World} {b : Nat} {t : TypeId} {cs : Array Value} (h : Qa W b t cs) (e : Qc W W') : Qa W' b t cs:=(e.block h.lt).trans h
theorem Qa.other {W : World} {b b' : Nat} {t : TypeId} {cs : Array Value} (h : Qa W b t cs) (hne : b ≠ b') (u : Value) : Qa (W.setCell ⟨b',0,none⟩ u) b t cs:=((grownBy_setCell' W b' u).block b h.lt (fun e => hne (by cases e;rfl))).trans h
theorem Qa.cell {W : World} {b : Nat} {t : TypeId} {cs : Array Value} (h : Qa W b t cs) (i : Nat) : W.cell? ⟨b,i,none⟩ = cs[i]?:=by simp [World.cell?,show W.heap[b]? = _ from h]
theorem Qa.frozen {W : World} {b : Nat} {t : TypeId} {cs : Array Value} (h : Qa W b t cs) (i : Nat) : W.frozen? ⟨b,i,none⟩ = false:=by simp [World.frozen?,show W.heap[b]? = _ from h]
section
variable {W : World} {b : Nat} {t : TypeId} {v0 v1 v2 v3 : Value}
theorem Qa.c1 (h : Qa W b t #[v0]) : W.cell? ⟨b,0,none⟩ = some v0:=h.cell 0
theorem Qa.c2 (h : Qa W b t #[v0,v1]) : W.cell? ⟨b,0,none⟩ = some v0 ∧ W.cell? ⟨b,1,none⟩ = some v1:=⟨h.cell 0,h.cell 1⟩
theorem Qa.c3 (h : Qa W b t #[v0,v1,v2]) : W.cell? ⟨b,0,none⟩ = some v0 ∧ W.cell? ⟨b,1,none⟩ = some v1 ∧ W.cell? ⟨b,2,none⟩ = some v2:=⟨h.cell 0,h.cell 1,h.cell 2⟩
theorem Qa.c4 (h : Qa W b t #[v0,v1,v2,v3]) : W.cell? ⟨b,0,none⟩ = some v0 ∧ W.cell? ⟨b,1,none⟩ = some v1 ∧ W.cell? ⟨b,2,none⟩ = some v2 ∧ W.cell? ⟨b,3,none⟩ = some v3:=⟨h.cell 0,h.cell 1,h.cell 2,h.cell 3⟩
end
theorem Pa {β : Type} (B b : Nat) (t : TypeId) (f : β → Array Value) : OwnFrom B (fun s W => Qa W b t (f s)):=fun s X Y row hs hg hr => (hg.block b hs.lt (fun e => by
 obtain ⟨_,o,ho,hc⟩:=hr b e.symm;rw [show X.heap[b]? = _ from hs] at ho;cases ho;cases hc)).trans hs
theorem Ng {W W' : World} {b : Nat} {t : TypeId} {v : Value} (h : Boxed W b t v) (e : Qc W W') : Boxed W' b t v:=(e.block h.lt).trans h
theorem Qho (x : It) (d : Dt) : x.of d = ((x.y : Int) == d.y && (x.n == d.m && x.s == d.s)):=by rw [It.of,Bool.and_assoc];rfl
def AxM (L : Nat) (f : It → Nat → Array Value) {c : Qd} (x : Mo c) (a' : Act) (W : World) : Prop :=
 ∃ Bx,L ≤ Bx ∧ Qa W Bx 231 #[.int .i64 (x.1.y : Int),.int .i64 x.1.n,.bool x.1.s] ∧ a' = { tmps:=f x.1 Bx,defers:=[] }
theorem Bc {L B : Nat} {f : It → Nat → Array Value} {c : Qd} (x : Mo c) (a' : Act) : OwnFrom B (fun (_ : Unit) W => AxM L f x a' W) :=
 S9 fun _ => OwnFrom.and (ownFrom_pure _ _) (OwnFrom.and (Pa _ _ _ _) (ownFrom_pure _ _))
theorem Qb7 {W : World} {b b' : Nat} {t t' : TypeId} {v v' : Value} (h : Boxed W b t v) (h' : Boxed W b' t' v') (hne : b ≠ b') (u u' : Value) :
  Boxed ((W.setCell ⟨b,0,none⟩ u).setCell ⟨b',0,none⟩ u').drew b t u ∧ Boxed ((W.setCell ⟨b,0,none⟩ u).setCell ⟨b',0,none⟩ u').drew b' t' u' :=
 ⟨(h.set u).other hne u',(h'.other (Ne.symm hne) u).set u'⟩
/-! ### number -/
def V5 (d : Dt) (l : List It) : Prop:=∀ x,x ∈ l → x.of d = false
theorem Qac {d : Dt} : ∀ {l : List It} (k : Int),V5 d l → Yt d l k = (0,0)
 | [],_,_ => rfl
 | x :: l,k,h => by
  rw [Yt,h x (List.mem_cons_self ..)];exact Qac (k + 1) (fun y hy => h y (List.mem_cons_of_mem _ hy))
theorem I9 {d : Dt} {x : It} (hx : x.of d = true) : ∀ (Qt l : List It) (k : Int),V5 d Qt → Yt d (Qt ++ x :: l) k = (x.first + d.d - 1,k + Qt.length + 1)
 | [],l,k,_ => by simp [Yt,hx]
 | y :: Qt,l,k,h => by
  rw [List.cons_append,Yt,h y (List.mem_cons_self ..)]
  show Yt d _ (k + 1) = _
  rw [I9 hx Qt l (k + 1) (fun z hz => h z (List.mem_cons_of_mem _ hz)),List.length_cons]
  congr 1;omega
theorem Qjo {c : Qd} {d : Dt} (h : V5 d c.items) : c.num d = (0,0):=Qac 0 h
theorem Qjn {c : Qd} {d : Dt} {Qt : List It} {x : It} (hN : V5 d Qt) (hx : x.of d = true) (hp : Qt ++ [x] <+: c.items) : c.num d = (x.first + d.d - 1,(Qt.length : Int) + 1):=by
 obtain ⟨t,ht⟩:=hp;rw [Qd.num,← ht,List.append_assoc,List.singleton_append,I9 hx Qt t 0 hN]
 congr 1;omega
theorem Qjj {d : Dt} {l : List It} {x : It} (h : V5 d l) (hx : x.of d = false) : V5 d (l ++ [x]):=fun y hy => by
 rcases List.mem_append.1 hy with hy | hy
 ·exact h y hy
 ·rw [List.mem_singleton.1 hy];exact hx
def Nx (A A' : OA) (ca cb : Nat) (c : Qd) (d : Dt) (w : World) : World:=(w.alloc (.cells #[.slice A c.nk ca,.slice A' c.ny cb] 25)).alloc (.cells #[.int .i64 d.y,.int .i64 d.m,.bool d.s,.int .i64 d.d] 51)
theorem Gr (A A' : OA) (ca cb : Nat) (c : Qd) (d : Dt) (w : World) (hC : Q3 w A ca A' cb c) (hlg : ∀ i,i < c.ny → 0 ≤ (c.yr i).lg ∧ (c.yr i).lg ≤ 8191) (hny : c.ny ≤ 400) (hd : 1 ≤ d.d ∧ d.d ≤ 30) :
  Calls Tryz.prog 95 #[.agg #[.slice A c.nk ca,.slice A' c.ny cb],.agg #[.int .i64 d.y,.int .i64 d.m,.bool d.s,.int .i64 d.d]] w fun e w' => e = .returned (.tuple #[.int .i64 (c.num d).1,.int .i64 (c.num d).2]) ∧ Qc w w':=by
 refine callsIn_wide.1 (callsIn_of_wp_marks (F:=Fence.wide) (n:=9) Tryz.func95 rfl trivial (wpIn_wide.2 ?_) rfl);simp only [Tryz.ntmps95,List.size_toArray,List.length_cons,List.length_nil,Nat.reduceAdd,Nat.reduceSub,Array.replicate_succ,Array.replicate_zero,List.push_toArray,List.append_toArray,List.nil_append,List.cons_append];go_wp2_with (go_at_call 143;refine (Im _ _ _ _ c _).mono ?_;rintro e w' ⟨rfl,rfl⟩);obtain ⟨wd,hwd⟩:=Qf (Nx A A' ca cb c d w);have hEd : Qc w wd:=by rw [hwd];unfold Nx;exact Qq
 have hsd : wd.heap.size = w.heap.size + 1 + 1:=by rw [hwd];simp [Nx]
 have hdb : Qa wd (w.heap.size + 1) 51 #[.int .i64 d.y,.int .i64 d.m,.bool d.s,.int .i64 d.d]:=by rw [hwd];unfold Nx;exact (by repeat (first | (refine Qa.at _ _ _ _ ?_;(simp;done)) | refine Qa.alloc ?_ _))
 generalize hW5 : World.alloc _ _ = W5;have hE5 : Qc wd W5:=by rw [← hW5,hwd];unfold Nx;exact Qq
 have hs5 : W5.heap.size = w.heap.size + 1 + 1 + 1 + 1 + 1:=by rw [← hW5];simp
 have b4 : Boxed W5 (w.heap.size + 1 + 1) 3 (.int .i64 0):=by rw [← hW5];exact Qa.boxed (by repeat (first | (refine Qa.at _ _ _ _ ?_;(simp;done)) | refine Qa.alloc ?_ _))
 have b5 : Boxed W5 (w.heap.size + 1 + 1 + 1) 3 (.int .i64 0):=by rw [← hW5];exact Qa.boxed (by repeat (first | (refine Qa.at _ _ _ _ ?_;(simp;done)) | refine Qa.alloc ?_ _))
 have hB : W5.cell? ⟨w.heap.size + 1 + 1 + 1 + 1,1,none⟩ = some (.slice A' c.ny cb):=by rw [← hW5];exact (Qa.cell (t:=25) (cs:=#[.slice A c.nk ca,.slice A' c.ny cb]) (by repeat (first | (refine Qa.at _ _ _ _ ?_;(simp;done)) | refine Qa.alloc ?_ _)) 1)
 clear hW5 hwd;generalize hs : w.heap.size = s at *
 refine Eu (A:=A) (A':=A') (ca:=ca) (cb:=cb) (c:=c) (B:=s + 1 + 1 + 1 + 1) wd W5 rfl rfl (hC.ext hEd) hlg hny hE5 hB Qb
  (fun Qt W => Qc wd W ∧ Boxed W (s + 1 + 1) 3 (.int .i64 0) ∧ Boxed W (s + 1 + 1 + 1) 3 (.int .i64 (Qt.length : Int)) ∧ V5 d (Mo.its Qt))
  (fun c' Qt W => Qc wd W ∧ ∃ p : List (Mo c) × Mo c,Boxed W (s + 1 + 1) 3 (.int .i64 (p.2.1.first + d.d - 1)) ∧ Boxed W (s + 1 + 1 + 1) 3 (.int .i64 (Qt.length : Int)) ∧ c' = .ret ∧ Qt = p.1 ++ [p.2] ∧ V5 d (Mo.its p.1) ∧ p.2.1.of d = true)
  (OwnFrom.and (Gw Qb) (OwnFrom.and (Mm _ _ _ _) (OwnFrom.and (Mm _ _ _ _) (ownFrom_pure _ _))))
  (fun c' => OwnFrom.and (Gw Qb) (S9 fun p => OwnFrom.and (Mm _ _ _ _) (OwnFrom.and (Mm _ _ _ _) (ownFrom_pure _ _))))
  ⟨hE5,b4,b5,fun _ h => (by cases h)⟩
  (AxM (s + 1 + 1 + 1 + 1) (fun y Bx => #[.agg #[.slice A c.nk ca,.slice A' c.ny cb],.agg #[.int .i64 d.y,.int .i64 d.m,.bool d.s,.int .i64 d.d],.pointer (some ⟨s,0,none⟩),.pointer (some ⟨s + 1,0,none⟩),.pointer (some ⟨s + 1 + 1,0,none⟩),.pointer (some ⟨s + 1 + 1 + 1,0,none⟩),.pointer (some ⟨Bx,0,none⟩),.int .i64 y.first,
   .agg #[.slice A c.nk ca,.slice A' c.ny cb],.func (.func 174) #[] #[.pointer (some ⟨s + 1 + 1 + 1 + 1,0,none⟩)],.agg #[.int .i64 (y.y : Int),.int .i64 y.n,.bool y.s],.int .i64 y.first,undef,undef,undef,undef,undef,undef,undef,undef,undef,undef,undef,undef])) Bc ?assign ?body ?done ?stop
 case assign =>
  intro l Qt x W K hi hK;simp only [Mo.enc]
  gi_wp2
  refine hK _ _ (Mf ((Qc.refl W).alloc _)) (Yf.of_ext ((Qc.refl W).alloc _) hi.1.size) ⟨hi.1.alloc _,hi.2.1.alloc _,hi.2.2.1.alloc _,hi.2.2.2⟩ ⟨W.heap.size,hi.2.2.1.lt,Qa.new _ _ _,rfl⟩
 case body =>
  rintro l Qt x a' W hl ⟨hE,b4,b5,hN⟩ ⟨Bx,hBx,hm,rfl⟩ hlt;have hcb:=b5.cell;have hfb:=b5.frozen
  gi_wp2
  have hKp : Yf wd.heap.size W (W.setCell ⟨s + 1 + 1 + 1,0,none⟩ (.int .i64 ((Qt.length : Int) + 1))):=Yf.box b5 zD Qb _;have hKf : KeepsFrom W5.heap.size W (W.setCell ⟨s + 1 + 1 + 1,0,none⟩ (.int .i64 ((Qt.length : Int) + 1))):=(KeepsOthers.setCell _ _ _).from _;have hE2:=hE.setCell (p:=⟨s + 1 + 1 + 1,0,none⟩) (show wd.heap.size ≤ s + 1 + 1 + 1 by omega) (.int .i64 ((Qt.length : Int) + 1));have b42:=b4.other (B':=s + 1 + 1 + 1) Qb (.int .i64 ((Qt.length : Int) + 1));have b52:=b5.set (.int .i64 ((Qt.length : Int) + 1));have hm2:=hm.other (b':=s + 1 + 1 + 1) Qb (.int .i64 ((Qt.length : Int) + 1));generalize World.setCell W _ _ = W2 at *;clear hcb hfb b4 b5 hm hE
  have hd2:=hdb.ext hE2;have m0:=hm2.cell 0;have m1:=hm2.cell 1;have m2:=hm2.cell 2;have e0:=hd2.cell 0;have e1:=hd2.cell 1;have e2:=hd2.cell 2;have e3:=hd2.cell 3;have hl1:=hm2.lt;have hl2:=hd2.lt;simp at m0 m1 m2 e0 e1 e2 e3;refine P9 W2 mixed zK zK Qq ?_;intro hne hrx hry;try simp only []
  try simp only [List.append_eq,List.cons_append,List.nil_append]
  skip
  have m1:=fun x1 => Qiv d x1
  refine zuK ?_;clear hne hry hrx m1;intro wq hq;obtain ⟨hcwq,hfwq,hzwq⟩:=Qc.rules hq;try simp only [World.size_alloc] at hzwq
  obtain ⟨hcbwq,hfbwq,hzbwq⟩:=Qc.rules (show Qc W2 wq from Qq);clear hcwq hfwq;have HO : Hid (x.1.of d = _):=Qho x.1 d;have hxok:=x.2;have hx1:=hxok.f1;have hx2:=hxok.f2;clear hxok;generalize ((x.1.y : Int) == d.y && (x.1.n == d.m && x.1.s == d.s)) = f at *;have hEq:=hE2.trans hq;have b4q:=Ng b42 hq;have b5q:=Ng b52 hq;have hKq:=hKp.trans (Yf.of_ext hq hE2.size);have hFq:=hKf.trans (Mf hq);clear m0 m1 m2 hl1;cases f
  ·gi_wp2
   exact ⟨hFq,hKq,hEq,b4q,by simpa using b5q,by rw [W7];exact Qjj hN HO.out⟩
  ·have q4:=b4q.cell;have q5:=b5q.cell;have f4:=b4q.frozen;have f5:=b5q.frozen;have hdq:=hd2.ext hq;clear e0 e1 e2 e3 hd2 hcbwq hfbwq;have e3:=hdq.cell 3;simp at e3;have hl4:=b4q.lt;have hl5:=b5q.lt;have hld:=hdq.lt
   gi_upto_region 6 with (fail)
   have hmix:=mixed;have HS : Hid (IntKind.i64.wrap (IntKind.i64.wrap (x.1.first + d.d) - 1) = x.1.first + d.d - 1):=by unfold Hid;rw [IntKind.wrap_i64,IntKind.wrap_i64];omega
   have hEs:=fun u v => ((hEq.setCell (p:=⟨s + 1 + 1,0,none⟩) (show wd.heap.size ≤ s + 1 + 1 by omega) u).setCell (p:=⟨s + 1 + 1 + 1,0,none⟩) (show wd.heap.size ≤ s + 1 + 1 + 1 by omega) v).drew
   have hBs:=fun u v => Qb7 b4q b5q Qb u v
   have hFs:=fun u v => (((hFq.trans ((KeepsOthers.setCell _ ⟨s + 1 + 1,0,none⟩ u).from _)).trans ((KeepsOthers.setCell _ ⟨s + 1 + 1 + 1,0,none⟩ v).from _)).trans ((KeepsOthers.drew _).from _))
   gi_region_with_o (fail)
   all_goals
    gi_wp2
    refine ⟨hFs _ _,hEs _ _,(Qt,x),?_,?_,rfl,rfl,hN,HO.out⟩
    ·rw [← HS.out];exact (hBs _ _).1
    ·rw [List.length_append];exact (hBs _ _).2
 case done =>
  rintro D xs W hD hxs ⟨hE,b4,b5,hN⟩ hK;have hc4:=b4.cell;have hf4:=b4.frozen;have hc5:=b5.cell;have hf5:=b5.frozen;rw [hxs] at hN;have HN:=zh (Qjo hN);clear hN hxs;go_wp2;have hK2 : ((W.setCell ⟨s + 1 + 1,0,none⟩ (.int .i64 0)).setCell ⟨s + 1 + 1 + 1,0,none⟩ (.int .i64 0)).heap[D]? = some (.deferred (some [])):=((KeepsOthers.setCell W ⟨s + 1 + 1,0,none⟩ (.int .i64 0)).trans (KeepsOthers.setCell _ ⟨s + 1 + 1 + 1,0,none⟩ (.int .i64 0))).same D _ hK rfl;have hB2:=Qb7 b4 b5 Qb (.int .i64 0) (.int .i64 0);have hE2 : Qc wd ((W.setCell ⟨s + 1 + 1,0,none⟩ (.int .i64 0)).setCell ⟨s + 1 + 1 + 1,0,none⟩ (.int .i64 0)):=((hE.setCell (p:=⟨s + 1 + 1,0,none⟩) (show wd.heap.size ≤ s + 1 + 1 by omega) (.int .i64 0)).setCell (p:=⟨s + 1 + 1 + 1,0,none⟩) (show wd.heap.size ≤ s + 1 + 1 + 1 by omega) (.int .i64 0))
  clear hc4 hf4 hc5 hf5;generalize World.setCell _ _ _ = W6 at *;have c4:=(Lr (o':=.deferred none) (show Boxed W6 _ _ _ from hB2.1) hK2 rfl).cell;have c5:=(Lr (o':=.deferred none) (show Boxed W6 _ _ _ from hB2.2) hK2 rfl).cell;refine Fa hK2 (v:=.tuple #[.int .i64 0,.int .i64 0]) (by simp [results,Tryz.results95,go_sem,c4,c5]) ⟨by rw [HN.out],hEd.trans (hE2.putObj Qb _)⟩
 case stop =>
  rintro D c' Qt W hD hpre ⟨hE,⟨p,x⟩,b4,b5,rfl,rfl,hN,hO⟩ hK;rw [W7] at hpre;have HN:=zh (Qjn hN hO hpre);clear hN hpre hO;go_wp2;have c4:=(Lr (o':=.deferred none) b4 hK rfl).cell;have c5:=(Lr (o':=.deferred none) b5 hK rfl).cell;refine Fa hK (v:=.tuple #[.int .i64 (x.1.first + d.d - 1),.int .i64 ((p.length : Int) + 1)]) (by simp [results,Tryz.results95,go_sem,c4,c5]) ⟨by rw [HN.out,Si],hEd.trans (hE.putObj Qb _)⟩
end
section
open Go Go.RowKit
theorem Ym (w : World) (t1 : TypeId) (c1 : Array Value) : ∃ v b1,Qc w v ∧ Qa v b1 t1 c1 ∧ w.heap.size ≤ b1 ∧ v = (w.alloc (.cells c1 t1)) ∧ b1 = w.heap.size :=
 ⟨_,_,((Qc.refl _).alloc _),(Qa.new _ _ _),by omega,rfl,rfl⟩
theorem J1 (w : World) (t1 : TypeId) (c1 : Array Value) (t2 : TypeId) (c2 : Array Value) : ∃ v b1 b2,Qc w v ∧ Qa v b1 t1 c1 ∧ Qa v b2 t2 c2 ∧ w.heap.size ≤ b1 ∧ w.heap.size ≤ b2 ∧ b2 ≠ b1 ∧ v = ((w.alloc (.cells c1 t1)).alloc (.cells c2 t2)) ∧ b1 = w.heap.size ∧ b2 = w.heap.size + 1 :=
 ⟨_,_,_,(((Qc.refl _).alloc _).alloc _),((Qa.new _ _ _).alloc _),(Qa.at _ _ _ _ (by simp)),by omega,by omega,by omega,rfl,rfl,rfl⟩
theorem Uh (w : World) (t1 : TypeId) (c1 : Array Value) (t2 : TypeId) (c2 : Array Value) (t3 : TypeId) (c3 : Array Value) : ∃ v b1 b2 b3,Qc w v ∧ Qa v b1 t1 c1 ∧ Qa v b2 t2 c2 ∧ Qa v b3 t3 c3 ∧ w.heap.size ≤ b1 ∧ w.heap.size ≤ b2 ∧ w.heap.size ≤ b3 ∧ b2 ≠ b1 ∧ b3 ≠ b1 ∧ b3 ≠ b2 ∧ v = (((w.alloc (.cells c1 t1)).alloc (.cells c2 t2)).alloc (.cells c3 t3)) ∧ b1 = w.heap.size ∧ b2 = w.heap.size + 1 ∧ b3 = w.heap.size + 1 + 1 :=
 ⟨_,_,_,_,((((Qc.refl _).alloc _).alloc _).alloc _),(((Qa.new _ _ _).alloc _).alloc _),((Qa.at _ _ _ _ (by simp)).alloc _),(Qa.at _ _ _ _ (by simp)),by omega,by omega,by omega,by omega,by omega,by omega,rfl,rfl,rfl,rfl⟩
theorem Mz (w : World) (t1 : TypeId) (c1 : Array Value) (t2 : TypeId) (c2 : Array Value) (t3 : TypeId) (c3 : Array Value) (t4 : TypeId) (c4 : Array Value) : ∃ v b1 b2 b3 b4,Qc w v ∧ Qa v b1 t1 c1 ∧ Qa v b2 t2 c2 ∧ Qa v b3 t3 c3 ∧ Qa v b4 t4 c4 ∧ w.heap.size ≤ b1 ∧ w.heap.size ≤ b2 ∧ w.heap.size ≤ b3 ∧ w.heap.size ≤ b4 ∧ b2 ≠ b1 ∧ b3 ≠ b1 ∧ b3 ≠ b2 ∧ b4 ≠ b1 ∧ b4 ≠ b2 ∧ b4 ≠ b3 ∧ v = ((((w.alloc (.cells c1 t1)).alloc (.cells c2 t2)).alloc (.cells c3 t3)).alloc (.cells c4 t4)) ∧ b1 = w.heap.size ∧ b2 = w.heap.size + 1 ∧ b3 = w.heap.size + 1 + 1 ∧ b4 = w.heap.size + 1 + 1 + 1 :=
 ⟨_,_,_,_,_,(((((Qc.refl _).alloc _).alloc _).alloc _).alloc _),((((Qa.new _ _ _).alloc _).alloc _).alloc _),(((Qa.at _ _ _ _ (by simp)).alloc _).alloc _),((Qa.at _ _ _ _ (by simp)).alloc _),(Qa.at _ _ _ _ (by simp)),by omega,by omega,by omega,by omega,by omega,by omega,by omega,by omega,by omega,by omega,rfl,rfl,rfl,rfl,rfl⟩
theorem zub5 (w : World) (t1 : TypeId) (c1 : Array Value) (t2 : TypeId) (c2 : Array Value) (t3 : TypeId) (c3 : Array Value) (t4 : TypeId) (c4 : Array Value) (t5 : TypeId) (c5 : Array Value) : ∃ v b1 b2 b3 b4 b5,Qc w v ∧ Qa v b1 t1 c1 ∧ Qa v b2 t2 c2 ∧ Qa v b3 t3 c3 ∧ Qa v b4 t4 c4 ∧ Qa v b5 t5 c5 ∧ w.heap.size ≤ b1 ∧ w.heap.size ≤ b2 ∧ w.heap.size ≤ b3 ∧ w.heap.size ≤ b4 ∧ w.heap.size ≤ b5 ∧ b2 ≠ b1 ∧ b3 ≠ b1 ∧ b3 ≠ b2 ∧ b4 ≠ b1 ∧ b4 ≠ b2 ∧ b4 ≠ b3 ∧ b5 ≠ b1 ∧ b5 ≠ b2 ∧ b5 ≠ b3 ∧ b5 ≠ b4 ∧ v = (((((w.alloc (.cells c1 t1)).alloc (.cells c2 t2)).alloc (.cells c3 t3)).alloc (.cells c4 t4)).alloc (.cells c5 t5)) ∧ b1 = w.heap.size ∧ b2 = w.heap.size + 1 ∧ b3 = w.heap.size + 1 + 1 ∧ b4 = w.heap.size + 1 + 1 + 1 ∧ b5 = w.heap.size + 1 + 1 + 1 + 1 :=
 ⟨_,_,_,_,_,_,((((((Qc.refl _).alloc _).alloc _).alloc _).alloc _).alloc _),(((((Qa.new _ _ _).alloc _).alloc _).alloc _).alloc _),((((Qa.at _ _ _ _ (by simp)).alloc _).alloc _).alloc _),(((Qa.at _ _ _ _ (by simp)).alloc _).alloc _),((Qa.at _ _ _ _ (by simp)).alloc _),(Qa.at _ _ _ _ (by simp)),by omega,by omega,by omega,by omega,by omega,by omega,by omega,by omega,by omega,by omega,by omega,by omega,by omega,by omega,by omega,rfl,rfl,rfl,rfl,rfl,rfl⟩
theorem Je {p : Prop} (h : p:=by repeat (first | (refine Qa.at _ _ _ _ ?_;(simp;done)) | refine Qa.alloc ?_ _)) : p:=h
theorem Qa.d1 {W : World} {b : Nat} {t : TypeId} {v0 : Value} (h : Qa W b t #[v0]) : W.cell? ⟨b,0,none⟩ = some v0 ∧ b < W.heap.size:=⟨h.cell 0,h.lt⟩
theorem Qa.e1 {W : World} {b : Nat} {t : TypeId} {v0 : Value} (h : Qa W b t #[v0]) : W.frozen? ⟨b,0,none⟩ = false ∧ W.cell? ⟨b,0,none⟩ = some v0 ∧ b < W.heap.size:=⟨h.frozen 0,h.cell 0,h.lt⟩
theorem Qa.d2 {W : World} {b : Nat} {t : TypeId} {v0 v1 : Value} (h : Qa W b t #[v0,v1]) : W.cell? ⟨b,0,none⟩ = some v0 ∧ W.cell? ⟨b,1,none⟩ = some v1 ∧ b < W.heap.size:=⟨h.cell 0,h.cell 1,h.lt⟩
theorem Qa.e2 {W : World} {b : Nat} {t : TypeId} {v0 v1 : Value} (h : Qa W b t #[v0,v1]) : W.frozen? ⟨b,0,none⟩ = false ∧ W.frozen? ⟨b,1,none⟩ = false ∧ W.cell? ⟨b,0,none⟩ = some v0 ∧ W.cell? ⟨b,1,none⟩ = some v1 ∧ b < W.heap.size:=⟨h.frozen 0,h.frozen 1,h.cell 0,h.cell 1,h.lt⟩
theorem Qa.d3 {W : World} {b : Nat} {t : TypeId} {v0 v1 v2 : Value} (h : Qa W b t #[v0,v1,v2]) : W.cell? ⟨b,0,none⟩ = some v0 ∧ W.cell? ⟨b,1,none⟩ = some v1 ∧ W.cell? ⟨b,2,none⟩ = some v2 ∧ b < W.heap.size:=⟨h.cell 0,h.cell 1,h.cell 2,h.lt⟩
theorem Qa.e3 {W : World} {b : Nat} {t : TypeId} {v0 v1 v2 : Value} (h : Qa W b t #[v0,v1,v2]) : W.frozen? ⟨b,0,none⟩ = false ∧ W.frozen? ⟨b,1,none⟩ = false ∧ W.frozen? ⟨b,2,none⟩ = false ∧ W.cell? ⟨b,0,none⟩ = some v0 ∧ W.cell? ⟨b,1,none⟩ = some v1 ∧ W.cell? ⟨b,2,none⟩ = some v2 ∧ b < W.heap.size:=⟨h.frozen 0,h.frozen 1,h.frozen 2,h.cell 0,h.cell 1,h.cell 2,h.lt⟩
theorem Qa.d4 {W : World} {b : Nat} {t : TypeId} {v0 v1 v2 v3 : Value} (h : Qa W b t #[v0,v1,v2,v3]) : W.cell? ⟨b,0,none⟩ = some v0 ∧ W.cell? ⟨b,1,none⟩ = some v1 ∧ W.cell? ⟨b,2,none⟩ = some v2 ∧ W.cell? ⟨b,3,none⟩ = some v3 ∧ b < W.heap.size:=⟨h.cell 0,h.cell 1,h.cell 2,h.cell 3,h.lt⟩
theorem Qa.e4 {W : World} {b : Nat} {t : TypeId} {v0 v1 v2 v3 : Value} (h : Qa W b t #[v0,v1,v2,v3]) : W.frozen? ⟨b,0,none⟩ = false ∧ W.frozen? ⟨b,1,none⟩ = false ∧ W.frozen? ⟨b,2,none⟩ = false ∧ W.frozen? ⟨b,3,none⟩ = false ∧ W.cell? ⟨b,0,none⟩ = some v0 ∧ W.cell? ⟨b,1,none⟩ = some v1 ∧ W.cell? ⟨b,2,none⟩ = some v2 ∧ W.cell? ⟨b,3,none⟩ = some v3 ∧ b < W.heap.size:=⟨h.frozen 0,h.frozen 1,h.frozen 2,h.frozen 3,h.cell 0,h.cell 1,h.cell 2,h.cell 3,h.lt⟩
theorem Qa.d5 {W : World} {b : Nat} {t : TypeId} {v0 v1 v2 v3 v4 : Value} (h : Qa W b t #[v0,v1,v2,v3,v4]) : W.cell? ⟨b,0,none⟩ = some v0 ∧ W.cell? ⟨b,1,none⟩ = some v1 ∧ W.cell? ⟨b,2,none⟩ = some v2 ∧ W.cell? ⟨b,3,none⟩ = some v3 ∧ W.cell? ⟨b,4,none⟩ = some v4 ∧ b < W.heap.size:=⟨h.cell 0,h.cell 1,h.cell 2,h.cell 3,h.cell 4,h.lt⟩
theorem Qa.e5 {W : World} {b : Nat} {t : TypeId} {v0 v1 v2 v3 v4 : Value} (h : Qa W b t #[v0,v1,v2,v3,v4]) : W.frozen? ⟨b,0,none⟩ = false ∧ W.frozen? ⟨b,1,none⟩ = false ∧ W.frozen? ⟨b,2,none⟩ = false ∧ W.frozen? ⟨b,3,none⟩ = false ∧ W.frozen? ⟨b,4,none⟩ = false ∧ W.cell? ⟨b,0,none⟩ = some v0 ∧ W.cell? ⟨b,1,none⟩ = some v1 ∧ W.cell? ⟨b,2,none⟩ = some v2 ∧ W.cell? ⟨b,3,none⟩ = some v3 ∧ W.cell? ⟨b,4,none⟩ = some v4 ∧ b < W.heap.size:=⟨h.frozen 0,h.frozen 1,h.frozen 2,h.frozen 3,h.frozen 4,h.cell 0,h.cell 1,h.cell 2,h.cell 3,h.cell 4,h.lt⟩
theorem Qa.d6 {W : World} {b : Nat} {t : TypeId} {v0 v1 v2 v3 v4 v5 : Value} (h : Qa W b t #[v0,v1,v2,v3,v4,v5]) : W.cell? ⟨b,0,none⟩ = some v0 ∧ W.cell? ⟨b,1,none⟩ = some v1 ∧ W.cell? ⟨b,2,none⟩ = some v2 ∧ W.cell? ⟨b,3,none⟩ = some v3 ∧ W.cell? ⟨b,4,none⟩ = some v4 ∧ W.cell? ⟨b,5,none⟩ = some v5 ∧ b < W.heap.size:=⟨h.cell 0,h.cell 1,h.cell 2,h.cell 3,h.cell 4,h.cell 5,h.lt⟩
theorem Qa.e6 {W : World} {b : Nat} {t : TypeId} {v0 v1 v2 v3 v4 v5 : Value} (h : Qa W b t #[v0,v1,v2,v3,v4,v5]) : W.frozen? ⟨b,0,none⟩ = false ∧ W.frozen? ⟨b,1,none⟩ = false ∧ W.frozen? ⟨b,2,none⟩ = false ∧ W.frozen? ⟨b,3,none⟩ = false ∧ W.frozen? ⟨b,4,none⟩ = false ∧ W.frozen? ⟨b,5,none⟩ = false ∧ W.cell? ⟨b,0,none⟩ = some v0 ∧ W.cell? ⟨b,1,none⟩ = some v1 ∧ W.cell? ⟨b,2,none⟩ = some v2 ∧ W.cell? ⟨b,3,none⟩ = some v3 ∧ W.cell? ⟨b,4,none⟩ = some v4 ∧ W.cell? ⟨b,5,none⟩ = some v5 ∧ b < W.heap.size:=⟨h.frozen 0,h.frozen 1,h.frozen 2,h.frozen 3,h.frozen 4,h.frozen 5,h.cell 0,h.cell 1,h.cell 2,h.cell 3,h.cell 4,h.cell 5,h.lt⟩
theorem Qa.d7 {W : World} {b : Nat} {t : TypeId} {v0 v1 v2 v3 v4 v5 v6 : Value} (h : Qa W b t #[v0,v1,v2,v3,v4,v5,v6]) : W.cell? ⟨b,0,none⟩ = some v0 ∧ W.cell? ⟨b,1,none⟩ = some v1 ∧ W.cell? ⟨b,2,none⟩ = some v2 ∧ W.cell? ⟨b,3,none⟩ = some v3 ∧ W.cell? ⟨b,4,none⟩ = some v4 ∧ W.cell? ⟨b,5,none⟩ = some v5 ∧ W.cell? ⟨b,6,none⟩ = some v6 ∧ b < W.heap.size:=⟨h.cell 0,h.cell 1,h.cell 2,h.cell 3,h.cell 4,h.cell 5,h.cell 6,h.lt⟩
theorem Qa.e7 {W : World} {b : Nat} {t : TypeId} {v0 v1 v2 v3 v4 v5 v6 : Value} (h : Qa W b t #[v0,v1,v2,v3,v4,v5,v6]) : W.frozen? ⟨b,0,none⟩ = false ∧ W.frozen? ⟨b,1,none⟩ = false ∧ W.frozen? ⟨b,2,none⟩ = false ∧ W.frozen? ⟨b,3,none⟩ = false ∧ W.frozen? ⟨b,4,none⟩ = false ∧ W.frozen? ⟨b,5,none⟩ = false ∧ W.frozen? ⟨b,6,none⟩ = false ∧ W.cell? ⟨b,0,none⟩ = some v0 ∧ W.cell? ⟨b,1,none⟩ = some v1 ∧ W.cell? ⟨b,2,none⟩ = some v2 ∧ W.cell? ⟨b,3,none⟩ = some v3 ∧ W.cell? ⟨b,4,none⟩ = some v4 ∧ W.cell? ⟨b,5,none⟩ = some v5 ∧ W.cell? ⟨b,6,none⟩ = some v6 ∧ b < W.heap.size:=⟨h.frozen 0,h.frozen 1,h.frozen 2,h.frozen 3,h.frozen 4,h.frozen 5,h.frozen 6,h.cell 0,h.cell 1,h.cell 2,h.cell 3,h.cell 4,h.cell 5,h.cell 6,h.lt⟩
theorem Qa.d8 {W : World} {b : Nat} {t : TypeId} {v0 v1 v2 v3 v4 v5 v6 v7 : Value} (h : Qa W b t #[v0,v1,v2,v3,v4,v5,v6,v7]) : W.cell? ⟨b,0,none⟩ = some v0 ∧ W.cell? ⟨b,1,none⟩ = some v1 ∧ W.cell? ⟨b,2,none⟩ = some v2 ∧ W.cell? ⟨b,3,none⟩ = some v3 ∧ W.cell? ⟨b,4,none⟩ = some v4 ∧ W.cell? ⟨b,5,none⟩ = some v5 ∧ W.cell? ⟨b,6,none⟩ = some v6 ∧ W.cell? ⟨b,7,none⟩ = some v7 ∧ b < W.heap.size:=⟨h.cell 0,h.cell 1,h.cell 2,h.cell 3,h.cell 4,h.cell 5,h.cell 6,h.cell 7,h.lt⟩
theorem Qa.e8 {W : World} {b : Nat} {t : TypeId} {v0 v1 v2 v3 v4 v5 v6 v7 : Value} (h : Qa W b t #[v0,v1,v2,v3,v4,v5,v6,v7]) : W.frozen? ⟨b,0,none⟩ = false ∧ W.frozen? ⟨b,1,none⟩ = false ∧ W.frozen? ⟨b,2,none⟩ = false ∧ W.frozen? ⟨b,3,none⟩ = false ∧ W.frozen? ⟨b,4,none⟩ = false ∧ W.frozen? ⟨b,5,none⟩ = false ∧ W.frozen? ⟨b,6,none⟩ = false ∧ W.frozen? ⟨b,7,none⟩ = false ∧ W.cell? ⟨b,0,none⟩ = some v0 ∧ W.cell? ⟨b,1,none⟩ = some v1 ∧ W.cell? ⟨b,2,none⟩ = some v2 ∧ W.cell? ⟨b,3,none⟩ = some v3 ∧ W.cell? ⟨b,4,none⟩ = some v4 ∧ W.cell? ⟨b,5,none⟩ = some v5 ∧ W.cell? ⟨b,6,none⟩ = some v6 ∧ W.cell? ⟨b,7,none⟩ = some v7 ∧ b < W.heap.size:=⟨h.frozen 0,h.frozen 1,h.frozen 2,h.frozen 3,h.frozen 4,h.frozen 5,h.frozen 6,h.frozen 7,h.cell 0,h.cell 1,h.cell 2,h.cell 3,h.cell 4,h.cell 5,h.cell 6,h.cell 7,h.lt⟩
theorem Qa.e10 {W : World} {b : Nat} {t : TypeId} {v0 v1 v2 v3 v4 v5 v6 v7 v8 v9 : Value} (h : Qa W b t #[v0,v1,v2,v3,v4,v5,v6,v7,v8,v9]) : W.frozen? ⟨b,0,none⟩ = false ∧ W.frozen? ⟨b,1,none⟩ = false ∧ W.frozen? ⟨b,2,none⟩ = false ∧ W.frozen? ⟨b,3,none⟩ = false ∧ W.frozen? ⟨b,4,none⟩ = false ∧ W.frozen? ⟨b,5,none⟩ = false ∧ W.frozen? ⟨b,6,none⟩ = false ∧ W.frozen? ⟨b,7,none⟩ = false ∧ W.frozen? ⟨b,8,none⟩ = false ∧ W.frozen? ⟨b,9,none⟩ = false ∧ W.cell? ⟨b,0,none⟩ = some v0 ∧ W.cell? ⟨b,1,none⟩ = some v1 ∧ W.cell? ⟨b,2,none⟩ = some v2 ∧ W.cell? ⟨b,3,none⟩ = some v3 ∧ W.cell? ⟨b,4,none⟩ = some v4 ∧ W.cell? ⟨b,5,none⟩ = some v5 ∧ W.cell? ⟨b,6,none⟩ = some v6 ∧ W.cell? ⟨b,7,none⟩ = some v7 ∧ W.cell? ⟨b,8,none⟩ = some v8 ∧ W.cell? ⟨b,9,none⟩ = some v9 ∧ b < W.heap.size:=⟨h.frozen 0,h.frozen 1,h.frozen 2,h.frozen 3,h.frozen 4,h.frozen 5,h.frozen 6,h.frozen 7,h.frozen 8,h.frozen 9,h.cell 0,h.cell 1,h.cell 2,h.cell 3,h.cell 4,h.cell 5,h.cell 6,h.cell 7,h.cell 8,h.cell 9,h.lt⟩
theorem Qa.d11 {W : World} {b : Nat} {t : TypeId} {v0 v1 v2 v3 v4 v5 v6 v7 v8 v9 v10 : Value} (h : Qa W b t #[v0,v1,v2,v3,v4,v5,v6,v7,v8,v9,v10]) : W.cell? ⟨b,0,none⟩ = some v0 ∧ W.cell? ⟨b,1,none⟩ = some v1 ∧ W.cell? ⟨b,2,none⟩ = some v2 ∧ W.cell? ⟨b,3,none⟩ = some v3 ∧ W.cell? ⟨b,4,none⟩ = some v4 ∧ W.cell? ⟨b,5,none⟩ = some v5 ∧ W.cell? ⟨b,6,none⟩ = some v6 ∧ W.cell? ⟨b,7,none⟩ = some v7 ∧ W.cell? ⟨b,8,none⟩ = some v8 ∧ W.cell? ⟨b,9,none⟩ = some v9 ∧ W.cell? ⟨b,10,none⟩ = some v10 ∧ b < W.heap.size:=⟨h.cell 0,h.cell 1,h.cell 2,h.cell 3,h.cell 4,h.cell 5,h.cell 6,h.cell 7,h.cell 8,h.cell 9,h.cell 10,h.lt⟩
theorem Qa.e11 {W : World} {b : Nat} {t : TypeId} {v0 v1 v2 v3 v4 v5 v6 v7 v8 v9 v10 : Value} (h : Qa W b t #[v0,v1,v2,v3,v4,v5,v6,v7,v8,v9,v10]) : W.frozen? ⟨b,0,none⟩ = false ∧ W.frozen? ⟨b,1,none⟩ = false ∧ W.frozen? ⟨b,2,none⟩ = false ∧ W.frozen? ⟨b,3,none⟩ = false ∧ W.frozen? ⟨b,4,none⟩ = false ∧ W.frozen? ⟨b,5,none⟩ = false ∧ W.frozen? ⟨b,6,none⟩ = false ∧ W.frozen? ⟨b,7,none⟩ = false ∧ W.frozen? ⟨b,8,none⟩ = false ∧ W.frozen? ⟨b,9,none⟩ = false ∧ W.frozen? ⟨b,10,none⟩ = false ∧ W.cell? ⟨b,0,none⟩ = some v0 ∧ W.cell? ⟨b,1,none⟩ = some v1 ∧ W.cell? ⟨b,2,none⟩ = some v2 ∧ W.cell? ⟨b,3,none⟩ = some v3 ∧ W.cell? ⟨b,4,none⟩ = some v4 ∧ W.cell? ⟨b,5,none⟩ = some v5 ∧ W.cell? ⟨b,6,none⟩ = some v6 ∧ W.cell? ⟨b,7,none⟩ = some v7 ∧ W.cell? ⟨b,8,none⟩ = some v8 ∧ W.cell? ⟨b,9,none⟩ = some v9 ∧ W.cell? ⟨b,10,none⟩ = some v10 ∧ b < W.heap.size:=⟨h.frozen 0,h.frozen 1,h.frozen 2,h.frozen 3,h.frozen 4,h.frozen 5,h.frozen 6,h.frozen 7,h.frozen 8,h.frozen 9,h.frozen 10,h.cell 0,h.cell 1,h.cell 2,h.cell 3,h.cell 4,h.cell 5,h.cell 6,h.cell 7,h.cell 8,h.cell 9,h.cell 10,h.lt⟩
theorem Qa.d12 {W : World} {b : Nat} {t : TypeId} {v0 v1 v2 v3 v4 v5 v6 v7 v8 v9 v10 v11 : Value} (h : Qa W b t #[v0,v1,v2,v3,v4,v5,v6,v7,v8,v9,v10,v11]) : W.cell? ⟨b,0,none⟩ = some v0 ∧ W.cell? ⟨b,1,none⟩ = some v1 ∧ W.cell? ⟨b,2,none⟩ = some v2 ∧ W.cell? ⟨b,3,none⟩ = some v3 ∧ W.cell? ⟨b,4,none⟩ = some v4 ∧ W.cell? ⟨b,5,none⟩ = some v5 ∧ W.cell? ⟨b,6,none⟩ = some v6 ∧ W.cell? ⟨b,7,none⟩ = some v7 ∧ W.cell? ⟨b,8,none⟩ = some v8 ∧ W.cell? ⟨b,9,none⟩ = some v9 ∧ W.cell? ⟨b,10,none⟩ = some v10 ∧ W.cell? ⟨b,11,none⟩ = some v11 ∧ b < W.heap.size:=⟨h.cell 0,h.cell 1,h.cell 2,h.cell 3,h.cell 4,h.cell 5,h.cell 6,h.cell 7,h.cell 8,h.cell 9,h.cell 10,h.cell 11,h.lt⟩
theorem Qa.e12 {W : World} {b : Nat} {t : TypeId} {v0 v1 v2 v3 v4 v5 v6 v7 v8 v9 v10 v11 : Value} (h : Qa W b t #[v0,v1,v2,v3,v4,v5,v6,v7,v8,v9,v10,v11]) : W.frozen? ⟨b,0,none⟩ = false ∧ W.frozen? ⟨b,1,none⟩ = false ∧ W.frozen? ⟨b,2,none⟩ = false ∧ W.frozen? ⟨b,3,none⟩ = false ∧ W.frozen? ⟨b,4,none⟩ = false ∧ W.frozen? ⟨b,5,none⟩ = false ∧ W.frozen? ⟨b,6,none⟩ = false ∧ W.frozen? ⟨b,7,none⟩ = false ∧ W.frozen? ⟨b,8,none⟩ = false ∧ W.frozen? ⟨b,9,none⟩ = false ∧ W.frozen? ⟨b,10,none⟩ = false ∧ W.frozen? ⟨b,11,none⟩ = false ∧ W.cell? ⟨b,0,none⟩ = some v0 ∧ W.cell? ⟨b,1,none⟩ = some v1 ∧ W.cell? ⟨b,2,none⟩ = some v2 ∧ W.cell? ⟨b,3,none⟩ = some v3 ∧ W.cell? ⟨b,4,none⟩ = some v4 ∧ W.cell? ⟨b,5,none⟩ = some v5 ∧ W.cell? ⟨b,6,none⟩ = some v6 ∧ W.cell? ⟨b,7,none⟩ = some v7 ∧ W.cell? ⟨b,8,none⟩ = some v8 ∧ W.cell? ⟨b,9,none⟩ = some v9 ∧ W.cell? ⟨b,10,none⟩ = some v10 ∧ W.cell? ⟨b,11,none⟩ = some v11 ∧ b < W.heap.size:=⟨h.frozen 0,h.frozen 1,h.frozen 2,h.frozen 3,h.frozen 4,h.frozen 5,h.frozen 6,h.frozen 7,h.frozen 8,h.frozen 9,h.frozen 10,h.frozen 11,h.cell 0,h.cell 1,h.cell 2,h.cell 3,h.cell 4,h.cell 5,h.cell 6,h.cell 7,h.cell 8,h.cell 9,h.cell 10,h.cell 11,h.lt⟩
end
end Go.Proofs.YtoflcheopfppoaaGreatDoor
