/- The walk of LedgerAuditClean. -/
import Derived.Test.YtoflcheopfppoaaGreatDoorI13
import Derived.Test.YtoflcheopfppoaaGreatDoorCIMx
import Derived.Test.YtoflcheopfppoaaGreatDoorI14
import Derived.Test.YtoflcheopfppoaaGreatDoorI12
set_option maxRecDepth 100000
set_option maxHeartbeats 4000000
namespace Go.Proofs.YtoflcheopfppoaaGreatDoor
open Go Go.RowKit Go.Shelf
attribute [local go_sem] Zx
attribute [local go_sem high] Qhs
def brg (n m : Int) : Int:=if n.tmod m < 0 then n.tmod m + m else n.tmod m
theorem brg_bd (n : Int) {m : Int} (h : 0 < m) : 0 ≤ brg n m ∧ brg n m < m:=by
 have h1:=Int.tmod_lt_of_pos n h;have h2:=Int.lt_tmod_of_pos n h;unfold brg
 split <;> omega
theorem bringC_any (n m : Int) (w : World) (hm : 1 ≤ m) (hm2 : m ≤ 9223372036854775807) : Calls Tryz.prog 18 #[.int .i64 n,.int .i64 m] w fun e w' => e = .returned (.int .i64 (brg n m)) ∧ Qb w w':=by
 have h1:=Int.tmod_lt_of_pos n (show 0 < m by omega);have h2:=Int.lt_tmod_of_pos n (show 0 < m by omega);have HR : Hid (brg n m = if n.tmod m < 0 then n.tmod m + m else n.tmod m):=Lib.hid rfl;by_cases hn : n.tmod m < 0
 ·go_enter Tryz.func18,Tryz.ntmps18
  go_wp2;go_ret;exact ⟨U9 (by rw [HR.out,if_pos hn]),Qb.refl _⟩
 ·go_enter Tryz.func18,Tryz.ntmps18
  go_wp2;go_ret;exact ⟨U9 (by rw [HR.out,if_neg Qa]),Qb.refl _⟩
theorem flatL_add (f : Nat → List Value) (a : Nat) : ∀ b,Q0 f (a + b) = Q0 f a ++ Q0 (fun i => f (a + i)) b
 | 0 => by simp [Q0]
 | b + 1 => by rw [← Nat.add_assoc,Ud,Ud,flatL_add f a b,List.append_assoc]
theorem flat_oneLt {f : Nat → List Value} {n : Nat} (h : ∀ i,i < n → ∀ u ∈ f i,u.oneCell' = true) : ∀ u ∈ Q0 f n,u.oneCell' = true:=fun u hu => by
 obtain ⟨i,hi,hu⟩:=List.mem_flatMap.1 hu;exact h i (List.mem_range.1 hi) u hu
theorem per_one {w : World} {p : Pd} {vo vd vc : Value} (h : Xo w p vo vd vc) : ∀ u ∈ Qq p vo vd vc,u.oneCell' = true:=by
 obtain ⟨t1,s1,e1,_⟩:=id h.o;subst e1;obtain ⟨t2,s2,_,e2,_⟩:=id h.d;subst e2;obtain ⟨t3,s3,e3,_⟩:=id h.c;subst e3;exact Gq _ _ _ _ _ _ _ _ _ _
theorem addLots_any (v1 v2 : Value) (a b : List Lt) (w : World) (h1 : Zq w v1 a) (h2 : Zq w v2 b) :
  Calls Tryz.prog 19 #[v1,v2] w fun e w' => ∃ F k c,e = .returned (.tuple #[.slice F k c,.int .i64 (Jc 1 a b)]) ∧ Qb w w' ∧ w'.ownsRow w.heap.size 85 2 (.slice F k c) k ((Jj 1 a b).flatMap Jw):=by
 obtain ⟨T,c1,rfl,hT,hc1,hm1,_⟩:=h1;obtain ⟨S,c2,rfl,hS,hc2,hm2,_⟩:=h2;exact Td T a.length c1 (Zb a) S b.length c2 (Zb b) w hT hc1 (Nat.le_trans hc1 (Nat.le_trans hm1 (by decide))) hS hc2 (Nat.le_trans hc2 (Nat.le_trans hm2 (by decide)))
/-- Periods in an own row, what they hold as it was before. -/
def RowP (w0 W : World) (v : Value) (L : List Pd) : Prop:=∃ vo vd vc : Nat → Value,W.ownsRow w0.heap.size 55 12 v L.length (Q0 (fun i => Qq (L.getD i Qh) (vo i) (vd i) (vc i)) L.length) ∧ ∀ i,i < L.length → Xo w0 (L.getD i Qh) (vo i) (vd i) (vc i)
theorem RowP.ext {w0 W W' : World} {v : Value} {L : List Pd} (h : RowP w0 W v L) (x : Qb W W') : RowP w0 W' v L:=by
 obtain ⟨vo,vd,vc,h1,h2⟩:=h;exact ⟨vo,vd,vc,Ja h1 x,h2⟩
theorem RowP.at {w0 W : World} {v : Value} {L : List Pd} (h : RowP w0 W v L) (x : Qb w0 W) : Js W v L:=by
 obtain ⟨vo,vd,vc,h1,h2⟩:=h;obtain ⟨F,c,g1,g2,g3,g4,g5,_⟩:=Ue (f:=fun i => Qq (L.getD i Qh) (vo i) (vd i) (vc i)) (fun _ => rfl) h1;exact ⟨F,c,vo,vd,vc,g1,g2,g3,g4,g5,fun i hi => (h2 i hi).ext x⟩
theorem rowP_app {w0 W : World} {v : Value} {K B : List Pd} {ko kd kc bo bd bc : Nat → Value} (hK : ∀ i,i < K.length → Xo w0 (K.getD i Qh) (ko i) (kd i) (kc i)) (hB : ∀ i,i < B.length → Xo w0 (B.getD i Qh) (bo i) (bd i) (bc i))
  (hown : W.ownsRow w0.heap.size 55 12 v (K.length + B.length) (Q0 (fun i => Qq (K.getD i Qh) (ko i) (kd i) (kc i)) K.length ++ Q0 (fun i => Qq (B.getD i Qh) (bo i) (bd i) (bc i)) B.length)) : RowP w0 W v (K ++ B):=by
 have e1 : ∀ i,i < K.length → (K ++ B).getD i Qh = K.getD i Qh:=fun i hi => by simp [List.getD_eq_getElem?_getD,List.getElem?_append_left hi]
 have e2 : ∀ i,(K ++ B).getD (K.length + i) Qh = B.getD i Qh:=fun i => by simp [List.getD_eq_getElem?_getD,List.getElem?_append_right]
 refine ⟨fun i => if i < K.length then ko i else bo (i - K.length),fun i => if i < K.length then kd i else bd (i - K.length),fun i => if i < K.length then kc i else bc (i - K.length),?_,fun i hi => ?_⟩
 ·rw [List.length_append,flatL_add,Vj (f':=fun i => Qq (K.getD i Qh) (ko i) (kd i) (kc i)) K.length (fun i hi => by rw [e1 i hi];simp [hi]),Vj (f':=fun i => Qq (B.getD i Qh) (bo i) (bd i) (bc i)) B.length (fun i hi => by
   have hn : ¬ K.length + i < K.length:=by omega
   rw [e2 i]
   dsimp only
   rw [if_neg hn,if_neg hn,if_neg hn,Nat.add_sub_cancel_left])]
  exact hown
 ·rw [List.length_append] at hi;by_cases e : i < K.length
  ·rw [e1 i e];simpa [e] using hK i e
  ·have : i = K.length + (i - K.length) := by omega
   have hn : ¬ K.length + (i - K.length) < K.length:=by omega
   rw [this,e2]
   dsimp only
   rw [if_neg hn,if_neg hn,if_neg hn,Nat.add_sub_cancel_left];exact hB (i - K.length) Qa
/-- The first closing stored. -/
theorem row_set {w0 W : World} {g c bS kS : Nat} {vS : Value} {S : List Lt} {L : List Pd} (h : RowP w0 W (.slice (some ⟨g,0,none⟩) L.length c) L) (h0 : 0 < L.length) (hx : Qb w0 W) (hS : W.ownsRow bS 85 2 vS kS (S.flatMap Jw)) :
  Qb w0 (W.setCell ⟨g,11,none⟩ vS) ∧ Js (W.setCell ⟨g,11,none⟩ vS) (.slice (some ⟨g,0,none⟩) L.length c) (L.set 0 { L.getD 0 Qh with c:=S }):=by
 obtain ⟨vo,vd,vc,h1,h2⟩:=h;obtain ⟨k1,k2⟩:=World.ownsRow.stored h1 11 vS;have hx2 : Qb w0 (W.setCell ⟨g,11,none⟩ vS):=hx.grown k2 (fun q hq => by cases hq;exact (h1.lt g rfl).1);have hS2:=World.ownsRow.kept hS k2 (Ly hS h1 (by decide));refine ⟨hx2,?_⟩;have hl : (L.set 0 { L.getD 0 Qh with c:=S }).length = L.length:=by simp
 have e0 : (L.set 0 { L.getD 0 Qh with c:=S }).getD 0 Qh = { L.getD 0 Qh with c:=S }:=by simp [List.getD_eq_getElem?_getD,h0]
 have e1 : ∀ i,i ≠ 0 → (L.set 0 { L.getD 0 Qh with c:=S }).getD i Qh = L.getD i Qh:=fun i hi => by
  simp only [List.getD_eq_getElem?_getD];rw [List.getElem?_set_ne (Ne.symm hi)]
 have hf : (Q0 (fun i => Qq (L.getD i Qh) (vo i) (vd i) (vc i)) L.length).set 11 vS = Q0 (fun i => Qq ((L.set 0 { L.getD 0 Qh with c:=S }).getD i Qh) (vo i) (vd i) (if i = 0 then vS else vc i)) L.length:=by
  obtain ⟨n,hn⟩ : ∃ n,L.length = 1 + n:=⟨L.length - 1,by omega⟩;rw [hn,flatL_add,flatL_add];have hc : Q0 (fun i => Qq ((L.set 0 { L.getD 0 Qh with c:=S }).getD (1 + i) Qh) (vo (1 + i)) (vd (1 + i)) (if 1 + i = 0 then vS else vc (1 + i))) n = Q0 (fun i => Qq (L.getD (1 + i) Qh) (vo (1 + i)) (vd (1 + i)) (vc (1 + i))) n:=Vj n (fun i _ => by rw [e1 (1 + i) Qa,if_neg Qa]);rw [hc];have a1 : ∀ f : Nat → List Value,Q0 f 1 = f 0:=fun f => by simp [Q0]
  rw [a1,a1,List.set_append_left _ _ (by show 11 < 12;decide)];rw [e0,if_pos rfl];rfl
 rw [hf] at k1;obtain ⟨F,c',g1,g2,g3,g4,g5,_⟩:=Ue (f:=fun i => Qq ((L.set 0 { L.getD 0 Qh with c:=S }).getD i Qh) (vo i) (vd i) (if i = 0 then vS else vc i)) (fun _ => rfl) k1;refine ⟨F,c',vo,vd,fun i => if i = 0 then vS else vc i,by rw [hl];exact g1,by rw [hl];exact g2,by rw [hl];exact g3,g4,fun e => by rw [hl];exact g5 e,fun i hi => ?_⟩;rw [hl] at hi;by_cases e : i = 0
 ·subst e;rw [e0];have p:=(h2 0 h0).ext hx2;exact ⟨p.o,p.d,by simpa using Wz hS2⟩
 ·rw [e1 i e]
  simpa [e] using (h2 i hi).ext hx2
theorem ledgerAuditClean_walk (A A' : Option Addr) (ca cb : Nat) (c : Qd) (vl : Value) (l : List Pd) (days : Int) (w : World) (hC : Zg w A ca A' cb c) (hP : Js w vl l) (hZ : Z6 w) :
  Calls Tryz.prog 6 #[.agg #[.slice A c.nk ca,.slice A' c.ny cb],vl,.int .i64 days] w fun e w' => e = .returned (.bool true) ∧ Qb w w':=by
 have N1:=fun v h1 h2 => Cy A A' ca cb c l vl v h1 h2
 have hgood : Hid ((c.carryV l).2 = 0 → c.valid = true ∧ Ns c (c.carryV l).1):=fun h => ⟨(Tu h).1,(Tu h).2.1⟩
 generalize c.carryV l = VK at *;obtain ⟨K,ke⟩:=VK
 simp only at N1 hgood
 replace hgood : Hid (ke = 0 → c.valid = true ∧ Ns c K):=hgood;obtain ⟨iP,hiP,hzP0,hzP1,hzP2⟩:=info_parts S8
 go_enter Tryz.func6,Tryz.ntmps6
 go_upto_region 1 with (fail)
 obtain ⟨v,b1,E,B1,hbr,hv,hb1⟩:=Yi w 25 #[.slice A c.nk ca,.slice A' c.ny cb];rw [← hv,← hb1];clear hv hb1;have Z:=hZ.ext E;have C:=hC.ext E;have P:=hP.ext E;clear hC hP hZ;obtain ⟨k0,k1⟩:=B1.c2;have kl:=B1.lt;go_upto_region 2 with (go_at_call 16;(with_reducible refine zc (N1 _ C P) ?_);rintro e w1 ⟨x1,rfl,hx,PK⟩;replace E:=E.trans hx;replace Z:=Z.ext hx;replace C:=C.ext hx;replace P:=P.ext hx;replace B1:=B1.ext hx;clear hx;clear k0 k1 kl;obtain ⟨k0,k1⟩:=B1.c2;have kl:=B1.lt;obtain ⟨DK,cK,ko,kd,kc,e1,hDK,_,_,_,hatK⟩:=id PK;subst e1)
 clear N1 P;by_cases e0 : ke = 0;rotate_left
 ·have g0 : (ke == 0) = false := beq_eq_false_iff_ne.2 e0;have g0n : (ke != 0) = true := by rw [bne, g0]; rfl
  clear hgood hatK hDK;go_wp2_with (first | (go_at_call 12;(with_reducible refine zc (Nq _ Z) ?_);rintro e wk ⟨rfl,hk⟩;replace E:=E.trans hk));go_ret;exact ⟨rfl,E⟩
 subst e0;obtain ⟨hv,hK⟩:=hgood.out rfl;clear hgood;obtain ⟨m,hm⟩:=Qf (K.length);by_cases hm0 : m = 0
 ·have q0 : (K.length == 0) = true:=beq_iff_eq.2 Qa;have q2 : ((K.length : Int) == 0) = true:=beq_iff_eq.2 Qa;clear hatK hDK hK;go_wp2_with (first | (go_at_call 12;(with_reducible refine zc (Nq _ Z) ?_);rintro e wk ⟨rfl,hk⟩;replace E:=E.trans hk));go_ret;exact ⟨rfl,E⟩
 by_cases hm16 : 16 < m
 ·have q0 : (K.length == 0) = false:=beq_eq_false_iff_ne.2 Qa;have q2 : ((K.length : Int) == 0) = false:=beq_eq_false_iff_ne.2 Qa;have q1 : decide (16 < K.length) = true:=decide_eq_true Qa;have q3 : decide ((16 : Int) < (K.length : Int)) = true:=decide_eq_true Qa;clear hatK hDK hK hm hm0 hm16;go_wp2_with (first | (go_at_call 12;(with_reducible refine zc (Nq _ Z) ?_);rintro e wk ⟨rfl,hk⟩;replace E:=E.trans hk));go_ret;exact ⟨rfl,E⟩
 have q0 : (K.length == 0) = false:=beq_eq_false_iff_ne.2 Qa;have q2 : ((K.length : Int) == 0) = false:=beq_eq_false_iff_ne.2 Qa;have q1 : decide (16 < K.length) = false:=decide_eq_false Qa;have q3 : decide ((16 : Int) < (K.length : Int)) = false:=decide_eq_false Qa;have hK0 : 0 < K.length:=by omega
 have hK16 : K.length ≤ 16:=by omega
 clear hm hm0 hm16 m;obtain ⟨bk,ok,rfl,hbk,hck⟩:=hDK hK0;have a0 : w1.cell? ⟨bk,ok,none⟩ = some (.string (K.getD 0 Qh).h):=by simpa [Qq] using hck 0 0 _ hK0 rfl
 have a10 : w1.cell? ⟨bk,ok + 10,none⟩ = some (kd 0):=by simpa [Qq] using hck 0 10 _ hK0 rfl
 have P0:=hatK 0 hK0;have hok : ∀ i,i < K.length → (K.getD i Qh).d.length ≤ 64:=fun i hi => (hK.a _ (Jg hi)).1.m
 have hbo:=fun h => Qfh hv hK hK0 h
 have NM:=fun h w hP => Qkc h (.slice (some ⟨bk,ok,none⟩) K.length cK) K w hP hok Qa
 have NB:=fun L vl v h1 h2 => Cy A A' ca cb c L vl v h1 h2
 clear hck hK;obtain ⟨K0,hK0e⟩:=Qf (K.getD 0 Qh);rw [← hK0e] at a0 P0 hbo;replace hK0e:=Lib.hid hK0e;replace hok:=Lib.hid hok;replace hbo:=Lib.hid hbo;replace hatK:=Lib.hid hatK;replace hDK:=Lib.hid hDK;obtain ⟨TD,cD,vs,e2,hTD,_⟩:=P0.d;rw [e2] at a10;clear e2 P0
 go_upto_if 40 with (fail)
 go_cut [9] from 16 (fun hv wx => hv = .string (Wo K0) ∧ w1 = wx)
 case first =>
  by_cases hd0 : 0 < K0.d.length
  ·obtain ⟨bd, od, rfl, hbd, hcd⟩ := hTD hd0;have b5 : w1.cell? ⟨bd, od + 5, none⟩ = some (.string (K0.d.getD 0 Qw).w) := by simpa [Zr] using hcd 0 5 _ hd0 rfl
   have hA : Hid (Wo K0 = (K0.d.getD 0 Qw).w):=by unfold Hid Wo;rw [if_pos hd0]
   clear hcd hTD;generalize K0.d.getD 0 Qw = d0 at *;generalize K0.d.length = n0 at *;go_wp2
   go_meet
   exact ⟨by rw [hA.out],rfl⟩
  ·have hA : Hid (Wo K0 = ⟨#[122, 122]⟩) := by unfold Hid Wo; rw [if_neg hd0]
   clear hTD;generalize K0.d.length = n0 at *;go_wp2
   go_meet
   exact ⟨by rw [hA.out],rfl⟩
 case rest =>
 obtain ⟨rfl,rfl⟩:=hcut
 go_upto_if 53 with (fail)
 go_cut [9] from 16 (fun hv wx => hv = .string (Wp K0) ∧ w1 = wx)
 case first =>
  by_cases hh : Wo K0 = K0.h
  ·have hA : Hid (Wp K0 = ⟨#[122, 121]⟩) := by unfold Hid Wp; rw [if_pos hh]
   have t1 : ((Wo K0).toList == K0.h.toList) = true:=by rw [hh];exact beq_self_eq_true _
   clear hh;rw [t1];generalize Wo K0 = h1 at *;generalize K0.h = h2 at *;go_wp2
   go_meet
   exact ⟨by rw [hA.out],rfl⟩
  ·have hA : Hid (Wp K0 = Wo K0) := by unfold Hid Wp; rw [if_neg hh]
   have t1 : ((Wo K0).toList == K0.h.toList) = false:=beq_eq_false_iff_ne.2 fun e => hh (Nj e)
   clear hh;rw [t1];generalize Wo K0 = h1 at *;generalize K0.h = h2 at *;go_wp2
   go_meet
   exact ⟨by rw [hA.out],rfl⟩
 case rest =>
 obtain ⟨rfl,rfl⟩:=hcut;clear a0 a10 hbk hTD;obtain ⟨h,hh⟩:=Qf (Wp K0);rw [← hh] at hbo ⊢;clear hh;replace NM:=NM h;replace NB:=NB (Wr h K);generalize c.carryV (Wr h K) = VB at *;obtain ⟨B,be⟩:=VB
 simp only at NB hbo
 replace hbo : Hid (be = 0 → K9 c K B K0.h h):=hbo;go_upto_region 9 with (fail)
 clear k0 k1 kl;refine Q5 10 [6,7,8,9] (fun x => Qb w1 x) mixed rfl ?_;intro vz hvz;have HC:=hvz;clear hvz;refine Qr (g:=7) [0,1,2] HC ?_
 constructor
 refine ⟨fun u hu => ?_,?_⟩
 ·obtain ⟨k0,k1⟩:=Qc.c2 (Qc.ext B1 hu);have kl:=Qc.lt (Qc.ext B1 hu);exact Qj
 refine Qk 3 ?_;go_wp2_with (go_at_call 17;(with_reducible refine zc (NM _ (PK.ext HC)) ?_);rintro e w2 ⟨v2,rfl,h2,PM⟩;obtain ⟨DM,cM,_,_,_,e3,_⟩:=id PM;subst e3);replace HC:=HC.trans h2;refine Qe HC ?_;refine Qk 4 ?_;go_wp2_with (go_at_call 16;(with_reducible refine zc (NB _ _ (C.ext HC) PM) ?_);rintro e w3 ⟨v3,rfl,h3,PB⟩;obtain ⟨DB,cB,bo,bd,bc,e4,hDB,_,hcB,hnB,hatB⟩:=id PB;subst e4);replace HC:=HC.trans h3;refine Qe HC ?_;refine Qr (g:=4) [5] HC ?_
 constructor
 refine ⟨fun u hu => ?_,?_⟩
 ·obtain ⟨k0,k1⟩:=Qc.c2 (Qc.ext B1 hu);have kl:=Qc.lt (Qc.ext B1 hu);exact Qj
 refine Jv (g:=2) [6,7] ?_
 constructor
 refine ⟨fun u hu => ?_,?_⟩
 ·exact Qj
 refine Qn 8 ?_;go_wp2;refine Qm ?_;refine Qn 9 ?_;go_wp2;refine Qm ?_;refine Qt ?_;clear NM NB PM h2 h3;have hx:=HC;clear HC;replace E:=E.trans hx;replace Z:=Z.ext hx;replace C:=C.ext hx;replace PK:=PK.ext hx;replace B1:=B1.ext hx;clear hx;obtain ⟨k0,k1⟩:=B1.c2;have kl:=B1.lt;by_cases e0 : be = 0;rotate_left
 ·have g0 : (be == 0) = false := beq_eq_false_iff_ne.2 e0;have g0n : (be != 0) = true := by rw [bne, g0]; rfl
  clear hbo hatB hDB;go_wp2_with (first | (go_at_call 12;(with_reducible refine zc (Nq _ Z) ?_);rintro e wk ⟨rfl,hk⟩;replace E:=E.trans hk));go_ret;exact ⟨rfl,E⟩
 subst e0;have BO:=hbo.out rfl;clear hbo;have hn:=brg_bd days (show (0 : Int) < 401 by decide);have NR:=fun w => bringC_any days 401 w (by decide) (by decide)
 generalize brg days 401 = n at *;obtain ⟨hn0,hn1⟩:=hn;have hcl:=Qfc BO hn0 Qa (Cq BO hK16);have hfi:=fun g h => Qff BO hK0 hK16 hn0 Qa (g:=g) h
 have hB16 : B.length ≤ 16:=by have:=BO.len;omega
 have hB0 : 0 < B.length:=by have:=BO.len;omega
 rw [← hK0e.out] at hfi;replace hcl:=Lib.hid hcl;replace hfi:=Lib.hid hfi;replace BO:=Lib.hid BO;replace hDB:=Lib.hid hDB;replace hatB:=Lib.hid hatB;go_upto_region 13 with (go_at_call 18;(with_reducible refine zc (NR _) ?_);rintro e w4 ⟨rfl,hx⟩;replace E:=E.trans hx;replace Z:=Z.ext hx;replace C:=C.ext hx;replace PK:=PK.ext hx;replace PB:=PB.ext hx;replace B1:=B1.ext hx;clear hx;clear k0 k1 kl;obtain ⟨k0,k1⟩:=B1.c2;have kl:=B1.lt)
 clear hDK hatK hDB hatB;obtain ⟨DK,cK2,lo,ld,lc,e5,hDK,_,_,_,hatK⟩:=id PK;obtain ⟨rfl,rfl⟩ : some ⟨bk,ok,none⟩ = DK ∧ cK = cK2:=by simpa using e5
 obtain ⟨DB2,cB2,mo,md,mc,e6,hDB,_,_,_,hatB⟩:=id PB;obtain ⟨rfl,rfl⟩ : DB = DB2 ∧ cB = cB2:=by simpa using e6
 clear e5 e6;obtain ⟨bb,ob,rfl,_⟩:=hDB Qa;have E4:=E;have Z4:=Z;have C4:=C;have B14:=B1;clear NR hnB hcB k0 k1 kl;go_upto_region 14 with (first | (at_builtin;refine wpList_append_own_at _ rfl _ _ 26 rfl w4.heap.size 55 iP (.agg #[.string ⟨#[]⟩,.int .i64 0,.int .i64 0,.bool false,.int .i64 0,.int .i64 0,.int .i64 0,.bool false,.int .i64 0,.slice none 0 0,.slice none 0 0,.slice none 0 0]) 12 152 Tryz.underlying26 hiP hzP0 hzP1 hzP2 rfl (by decide) _ _ _ rfl (World.ownsRow_lit w4 #[] 0 (Nat.le_refl _) (by decide) rfl) ⟨bk,ok,none⟩ K.length cK (Q0 (fun i => Qq (K.getD i Qh) (lo i) (ld i) (lc i)) K.length) rfl (X6 (sz:=12) (fun _ => rfl) _) (Mi (f:=(fun i => Qq (K.getD i Qh) (lo i) (ld i) (lc i))) (sz:=12) (fun _ => rfl) (by decide) (hDK.ext ((Qb.refl _).alloc _)) _ rfl) (flat_oneLt fun i hi => per_one (hatK i hi)) (by unfold maxLen;omega) Qa (by simp) ?_;intro o1 w5 hown1 hg1 _ _;rw [Nat.zero_add,List.nil_append] at hown1;have x5 : Qb w4 w5:=((Qb.refl w4).alloc _).grown hg1 (fun q hq => by cases hq;exact Nat.le_refl _);clear hg1;obtain ⟨F5,m5,e5⟩:=Jt hown1;subst e5) | (at_builtin;refine wpList_append_own_at _ rfl _ _ 26 rfl w4.heap.size 55 iP (.agg #[.string ⟨#[]⟩,.int .i64 0,.int .i64 0,.bool false,.int .i64 0,.int .i64 0,.int .i64 0,.bool false,.int .i64 0,.slice none 0 0,.slice none 0 0,.slice none 0 0]) 12 152 Tryz.underlying26 hiP hzP0 hzP1 hzP2 rfl (by decide) _ _ _ rfl hown1 ⟨bb,ob,none⟩ B.length cB (Q0 (fun i => Qq (B.getD i Qh) (mo i) (md i) (mc i)) B.length) rfl (X6 (sz:=12) (fun _ => rfl) _) (Mi (f:=(fun i => Qq (B.getD i Qh) (mo i) (md i) (mc i))) (sz:=12) (fun _ => rfl) (by decide) (hDB.ext x5) _ rfl) (flat_oneLt fun i hi => per_one (hatB i hi)) (by unfold maxLen;omega) Qa x5.size ?_;intro o2 w6 hown2 hg2 _ _;have x6 : Qb w4 w6:=x5.grown hg2 (fun q hq => (hown1.lt q hq).1);clear hg2;obtain ⟨g,cG,e6,hg0,hgl⟩:=M1 hown2 Qa;subst e6))
 have RO:=rowP_app hatK hatB hown2;clear hown1 hown2 x5 hatK hatB hDK hDB PK PB;obtain ⟨L,hL⟩:=Qf (K ++ B);have hLl : L.length = K.length + B.length:=by rw [hL,List.length_append]
 have hL0 : L.getD 0 Qh = K0:=by rw [hL,hK0e.out];exact Er hK0
 rw [← hL] at RO;have hcl' : Hid (c.auditV L n = ([],0)):=by rw [hL];exact hcl
 have hfi' : Hid (∀ g,Jc 1 K0.c [⟨g,1⟩] = 0 → ∃ x,c.auditV (L.set 0 { K0 with c:=Jj 1 K0.c [⟨g,1⟩] }) n = ((1,0,0) :: x,0)):=by rw [hL];exact hfi
 clear hcl hfi hL BO;rw [← hLl];have hLp : 0 < L.length:=by omega
 have NA:=fun v h1 h2 => audit_all A A' ca cb c L (.slice (some ⟨g,0,none⟩) L.length cG) n v h1 h2
 simp only [hcl'.out,List.length_nil] at NA;have RO : RowP w4 w6 (.slice (some ⟨g,0,none⟩) L.length cG) L:=by rw [hLl];exact RO
 clear hLl;replace hL0:=Lib.hid hL0;have PO:=RO.at x6;replace E:=E.trans x6;replace Z:=Z.ext x6;replace C:=C.ext x6;replace B1:=B1.ext x6;obtain ⟨k0,k1⟩:=B1.c2;have kl:=B1.lt;go_upto_region 15 with (go_at_call 14;(with_reducible refine zc (NA _ C PO) ?_);rintro e w7 ⟨x1,rfl,hx,Q1⟩;obtain ⟨Fi,ci,e7⟩:=Jt Q1;subst e7;clear Q1)
 replace E:=E.trans hx;replace Z:=Z.ext hx;replace C:=C.ext hx;replace B1:=B1.ext hx;replace x6:=x6.trans hx;replace RO:=RO.ext hx;clear hx NA PO hcl' k0 k1 kl;go_upto_region 17 with (fail)
 obtain ⟨vo,vd,vc,hO,hat⟩:=id RO
 have c11 : w7.cell? ⟨g,11,none⟩ = some (vc 0):=by
  rw [World.ownsRow.cellAt hO 11 Qa];have:=Uv (f:=fun i => Qq (L.getD i Qh) (vo i) (vd i) (vc i)) (sz:=12) (fun _ => rfl) (i:=0) (j:=11) hLp (by decide);rw [Nat.zero_mul,Nat.zero_add] at this;exact this
 have LK:=(hat 0 hLp).c.ext x6;rw [hL0.out] at LK;have hgl7 : g < w7.heap.size:=(hO.lt g rfl).2;clear hO hat;generalize vc 0 = vK at *;obtain ⟨TC,cC,eC,_⟩:=id LK;subst eC;have NAD:=fun v2 (b : List Lt) w h1 h2 => addLots_any (.slice TC K0.c.length cC) v2 K0.c b w h1 h2
 refine Q5 11 [7,8,9,10] (fun x => Qb w7 x) mixed rfl ?_;intro vz hvz;have HC:=hvz;clear hvz;refine Qr (g:=7) [0,1,2,3] HC ?_
 constructor
 refine ⟨fun u hu => ?_,?_⟩
 ·have r11:=(hu.cell (p:=⟨g,11,none⟩) hgl7).trans c11;have hgu:=Nat.lt_of_lt_of_le hgl7 hu.size;exact Qj
 refine Qk 4 ?_;go_wp2_with (go_at_call 20;(with_reducible refine zc (Oo _ _ _) ?_);rintro e w8 ⟨bl,rfl,h8,LO⟩);replace HC:=HC.trans h8;refine Qe HC ?_;refine Qk 5 ?_;go_wp2_with (go_at_call 19;(with_reducible refine zc (NAD _ _ _ (LK.ext HC) LO) ?_);rintro e w9 ⟨FS,kS,cS,rfl,h9,SR⟩);replace HC:=HC.trans h9;refine Qe HC ?_;refine Qr (g:=4) [6] HC ?_
 constructor
 refine ⟨fun u hu => ?_,?_⟩
 ·have r11:=(hu.cell (p:=⟨g,11,none⟩) hgl7).trans c11;have hgu:=Nat.lt_of_lt_of_le hgl7 hu.size;exact Qj
 refine Jv (g:=2) [7,8] ?_
 constructor
 refine ⟨fun u hu => ?_,?_⟩
 ·exact Qj
 refine Qn 9 ?_;go_wp2;refine Qm ?_;refine Qn 10 ?_;go_wp2;refine Qm ?_;refine Qt ?_;have hx:=HC;clear HC NAD c11 hgl7 LK;replace E:=E.trans hx;replace Z:=Z.ext hx;replace x6:=x6.trans hx;replace RO:=RO.ext hx;clear hx;obtain ⟨CE,hCE⟩:=Qf (Jc 1 K0.c [⟨⟨#[122,122,122]⟩,1⟩]);rw [← hCE];replace hCE:=Lib.hid hCE;by_cases e1 : CE = 0;rotate_left
 ·have g0 : (CE == 0) = false := beq_eq_false_iff_ne.2 e1;have g0n : (CE != 0) = true := by rw [bne, g0]; rfl
  clear hfi';go_wp2_with (first | (go_at_call 12;(with_reducible refine zc (Nq _ Z) ?_);rintro e wk ⟨rfl,hk⟩;replace E:=E.trans hk));go_ret;exact ⟨rfl,E⟩
 subst e1;obtain ⟨X,hX⟩:=hfi'.out _ hCE.out.symm;clear hfi' hCE;obtain ⟨x10,PO⟩:=row_set RO hLp x6 SR;rw [hL0.out] at PO;obtain ⟨vo,vd,vc,hO,hat⟩:=RO;have hgl9 : g < w9.heap.size:=(hO.lt g rfl).2;have f11:=World.ownsRow.frozenAt hO 11
 have c11 : w9.cell? ⟨g,11,none⟩ = some (vc 0):=by
  rw [World.ownsRow.cellAt hO 11 Qa];have:=Uv (f:=fun i => Qq (L.getD i Qh) (vo i) (vd i) (vc i)) (sz:=12) (fun _ => rfl) (i:=0) (j:=11) hLp (by decide);rw [Nat.zero_mul,Nat.zero_add] at this;exact this
 clear hO hat SR;generalize L.set 0 { K0 with c:=Jj 1 K0.c [⟨⟨#[122,122,122]⟩,1⟩] } = L' at *;have NA:=fun v h1 h2 => audit_all A A' ca cb c L' (.slice (some ⟨g,0,none⟩) L.length cG) n v h1 h2
 simp only [hX] at NA;clear hX B1 E Z C;go_upto_region 21 with (fail)
 generalize World.setCell _ _ _ = w10 at *;clear c11 f11 hgl9;have E:=E4.trans x10;have Z:=Z4.ext x10;have C:=C4.ext x10;have B1:=B14.ext x10;clear E4 Z4 C4 B14;obtain ⟨k0,k1⟩:=B1.c2;have kl:=B1.lt;go_upto_region 22 with (go_at_call 14;(with_reducible refine zc (NA _ C PO) ?_);rintro e w11 ⟨x1,rfl,hx,Q1⟩;obtain ⟨gi,ci,e7,hgi,hgil⟩:=M1 Q1 (by simp);subst e7)
 replace E:=E.trans hx;replace Z:=Z.ext hx
 have i0 : w11.cell? ⟨gi,0,none⟩ = some (.int .i64 1):=by
  rw [World.ownsRow.cellAt Q1 0 (by simp)];rfl
 have i1 : w11.cell? ⟨gi,1,none⟩ = some (.int .i64 0):=by
  rw [World.ownsRow.cellAt Q1 1 (by simp;omega)];rfl
 have i2 : w11.cell? ⟨gi,2,none⟩ = some (.int .i64 0):=by
  rw [World.ownsRow.cellAt Q1 2 (by simp;omega)];rfl
 clear Q1 hx NA PO C B1 k0 k1 kl;have hgil:=hgil;clear hgi;generalize X.length = xl at *;have q5 : decide ((1 : Int) ≤ (xl : Int) + 1) = true:=decide_eq_true Qa;have q6 : decide (1 ≤ xl + 1) = true:=decide_eq_true Qa;go_wp2_with (first | (go_at_call 12;(with_reducible refine zc (Nq _ Z) ?_);rintro e wk ⟨rfl,hk⟩;replace E:=E.trans hk));go_ret;exact ⟨rfl,E⟩
end Go.Proofs.YtoflcheopfppoaaGreatDoor