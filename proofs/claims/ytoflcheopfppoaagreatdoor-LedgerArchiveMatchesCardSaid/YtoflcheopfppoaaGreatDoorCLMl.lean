/- Matching of the reference. -/
import Derived.Test.YtoflcheopfppoaaGreatDoorCLMj
import Derived.Test.YtoflcheopfppoaaGreatDoorCLMk
set_option maxRecDepth 100000
set_option maxHeartbeats 4000000
namespace Go.Proofs.YtoflcheopfppoaaGreatDoor
open Go Go.RowKit Go.Shelf
attribute [local go_sem] Z5
/-- Blocks but one stay. -/
def FB (br : Nat) (W W' : World) : Prop:=∀ b t (cs : Array Value),Qa W b t cs → b ≠ br → Qa W' b t cs
theorem FB.refl (br : Nat) (W : World) : FB br W W:=fun _ _ _ h _ => h
theorem FB.ext {br : Nat} {W W1 W2 : World} (h : FB br W W1) (x : Qb W1 W2) : FB br W W2:=fun b t cs hb ht => (h b t cs hb ht).ext x
theorem FB.set {br : Nat} {W W1 : World} (h : FB br W W1) (j : Nat) (u : Value) : FB br W (W1.setCell ⟨br,j,none⟩ u):=fun b t cs hb ht => X8 (h b t cs hb ht) ht j u
theorem own_fb {br : Nat} {W W' : World} {base n s : Nat} {e : TypeId} {v : Value} {xs : List Value} (h : W.ownsRow base e s v n xs) (f : FB br W W') {t : TypeId} {cs : Array Value} (hr : Qa W br t cs) (ht : t ≠ e) : W'.ownsRow base e s v n xs:=by
 refine ⟨h.1,?_⟩;rcases h.2 with hn | ⟨g,cap,cur,hv,hb,hg,rest⟩
 ·exact .inl hn
 ·exact .inr ⟨g,cap,cur,hv,hb,f g e cur hg (fun e' => by subst e';exact Yq hr hg ht rfl),rest⟩
theorem Qw.fb {br : Nat} {W W' : World} {t : TypeId} {A : Option Addr} {n b : Nat} {g : Nat → Value} (h : Qw W t A n b g) (f : FB br W W') (hne : 0 < n → b ≠ br) : Qw W' t A n b g:=⟨h.a,fun hn => by
 obtain ⟨cs,h1,h2⟩:=h.h hn;exact ⟨cs,f _ _ _ h1 (hne hn),h2⟩⟩
theorem info_bools : (Tryz.prog.info? 171).map (fun i => (i.zero,i.size,i.bytes)) = some (some (.slice none 0 0),1,24):=by kernel_rfl
structure TK (WB W : World) (bt ni : Nat) (fx : Nat → Bool) : Prop where
 e : Qb WB W
 a : Qw W 4 (some ⟨bt,0,none⟩) ni bt fun k => .bool (fx k)
theorem TK.ext {WB W W' : World} {bt ni : Nat} {fx : Nat → Bool} (h : TK WB W bt ni fx) (x : Qb W W') : TK WB W' bt ni fx:=⟨h.e.trans x,h.a.ext x⟩
theorem TK.set {WB W : World} {bt ni : Nat} {fx : Nat → Bool} (h : TK WB W bt ni fx) (hb : WB.heap.size ≤ bt) {k : Nat} (hk : k < ni) (b : Bool) : TK WB (W.setCell ⟨bt,k,none⟩ (.bool b)) bt ni (Qk fx k b):=⟨h.e.setCell (p:=⟨bt,k,none⟩) hb _,Gp h.a hk b⟩
theorem TK.grown {WB W W' : World} {bt ni : Nat} {fx : Nat → Bool} {v : Value} {n : Nat} {xs : List Value} (h : TK WB W bt ni fx) (ho : W.ownsRow WB.heap.size 35 4 v n xs) (hg : W.grownBy W' v.ownBlock) : TK WB W' bt ni fx :=
 ⟨h.e.grown hg (fun q hq => (W4 ho q hq).1),h.a.kept hg (fun hn => by obtain ⟨cs,h1,_⟩:=h.a.h hn;exact h1.not_row (by decide) ho)⟩
def nextR (adj : Nat → List Nat) (ni no n i : Nat) (left : Int) (fx : Bl) : Option Nat → List (Nat × Nat)
 | some k => (i,k) :: Yo adj ni no n (i + 1) (left - 1) (Qk fx k true)
 | none => Yo adj ni no n (i + 1) left fx
theorem refI_next (adj : Nat → List Nat) (ni no n i : Nat) (left : Int) (fx : Bl) : Yo adj ni no (n + 1) i left fx = nextR adj ni no n i left fx (Jw adj ni no i left fx (adj i)):=by
 conv => lhs;unfold Yo
 cases Jw adj ni no i left fx (adj i) with
 | none => rfl
 | some p => rfl
set_option maxHeartbeats 40000000 in
theorem matchingR_any (A A' : Option Addr) (ca cb : Nat) (c : Qf) (l : List Pd) (vl : Value) (ba : Nat) (days : Int) (w : World) (hA : ArcAt w ba A A' ca cb c vl l days) (hv : c.valid = true) (hb1 : l.length ≤ 32) (hb2 : ∀ i,i < l.length → (l.getD i Qx).d.length ≤ 64) :
  Calls Tryz.prog 37 #[.pointer (some ⟨ba,0,none⟩)] w fun e w' => ∃ v,e = .returned v ∧ Qb w w' ∧ w'.ownsRow w.heap.size 35 4 v (Yo (Zp (c.myR l days) (Q9 l true).length) (Q9 l true).length (Q9 l false).length (Q9 l false).length 0 (Zo (Zp (c.myR l days) (Q9 l true).length) (Q9 l true).length (fun _ => false) (Q9 l false).length 0 Z8).2 (fun _ => false)).length ((Yo (Zp (c.myR l days) (Q9 l true).length) (Q9 l true).length (Q9 l false).length (Q9 l false).length 0 (Zo (Zp (c.myR l days) (Q9 l true).length) (Q9 l true).length (fun _ => false) (Q9 l false).length 0 Z8).2 (fun _ => false)).flatMap (X9 (fun o => (Q9 l false).getD o Q7) (fun k => (Q9 l true).getD k Q7))):=by
 obtain ⟨i0,hi0,hz0,hz1,hz2⟩:=info_parts Bn;obtain ⟨j0,hj0,hy3,hy4,hy5⟩:=info_parts info_bools;have hLo:=U0 false hb2 l.length (Nat.le_refl _);have hLi:=U0 true hb2 l.length (Nat.le_refl _);have hb1' : l.length * 64 ≤ 1000000:=by omega
 have hbd1 : Hid (∀ x ∈ Q9 l false,x.1 < l.length ∧ x.2 < (l.getD x.1 Qx).d.length):=Lib.hid fun x hx => ⟨(U3.1 hx).1,(U3.1 hx).2.1⟩
 have hbd2 : Hid (∀ x ∈ Q9 l true,x.1 < l.length ∧ x.2 < (l.getD x.1 Qx).d.length):=Lib.hid fun x hx => ⟨(U3.1 hx).1,(U3.1 hx).2.1⟩
 have NDo:=fun v h => dealsR_any A A' ca cb c l vl ba days false v h (by omega) (fun i hi => Nat.le_trans (hb2 i hi) (by decide))
 have NDi:=fun v h => dealsR_any A A' ca cb c l vl ba days true v h (by omega) (fun i hi => Nat.le_trans (hb2 i hi) (by decide))
 have hno : (Q9 l false).length ≤ 1000000:=Nat.le_trans hLo hb1';have hni : (Q9 l true).length ≤ 1000000:=Nat.le_trans hLi hb1';clear hLo hLi hb1';obtain ⟨RES,hRES⟩:=Qg (Yo (Zp (c.myR l days) (Q9 l true).length) (Q9 l true).length (Q9 l false).length (Q9 l false).length 0 (Zo (Zp (c.myR l days) (Q9 l true).length) (Q9 l true).length (fun _ => false) (Q9 l false).length 0 Z8).2 (fun _ => false));rw [← hRES];have hmy : Hid (c.myR l days = fun i k => c.mayR l days ((Q9 l false).getD i Q7) ((Q9 l true).getD k Q7)):=Lib.hid rfl;obtain ⟨my,hmye⟩:=Qg (c.myR l days);rw [← hmye] at hRES hmy;clear hmye;obtain ⟨Lo,hLoe⟩:=Qg (Q9 l false);obtain ⟨Li,hLie⟩:=Qg (Q9 l true)
 rw [← hLoe] at hRES hno hbd1 hmy ⊢;rw [← hLie] at hRES hni hbd2 hmy ⊢;simp only [← hLoe] at NDo;simp only [← hLie] at NDi;clear hLoe hLie;obtain ⟨no,hnoe⟩:=Qg (Lo.length);obtain ⟨ni,hnie⟩:=Qg (Li.length);rw [← hnoe] at hRES hno;rw [← hnie] at hRES hni;simp only [← hnoe] at NDo;simp only [← hnie] at NDi;replace hnoe:=Lib.hid hnoe;replace hnie:=Lib.hid hnie;replace hRES:=Lib.hid hRES;have hmk:=fun w => Oc ni hni w
 go_enter Tryz.func37,Tryz.ntmps37
 go_upto_region 2 with (first | (go_at_call 83;(with_reducible refine Calls.mono (NDo _ hA) ?_);rintro e w1 ⟨v1,rfl,x1,O1⟩) | (go_at_call 83;(with_reducible refine Calls.mono (NDi _ (hA.ext x1)) ?_);rintro e w2 ⟨v2,rfl,x2,O2⟩))
 have O1':=Jo O1 x2;rw [hnoe.out] at O1';obtain ⟨Vo,co,e1,RO⟩:=Vn O1';subst e1;rw [hnie.out] at O2;obtain ⟨Vi,ci,e1,RI⟩:=Vn O2;subst e1;rw [← hnoe.out] at RO ⊢;rw [← hnie.out] at RI ⊢;have hA2:=(hA.ext x1).ext x2;have X2:=x1.trans x2;clear O1 O2 O1' NDo NDi x1 x2 hA;go_upto_region 4 with (fail)
 go_loopw [5,6] (fun mv iv wr => ∃ (i : Nat) (bx : Nat → Nat),i ≤ no ∧ iv = .int .i64 i ∧ Qb w2 wr ∧ wr.ownsRow w2.heap.size 171 1 mv i ((List.range i).map fun x => .slice (some ⟨bx x,0,none⟩) ni ni) ∧ ∀ x,x < i → Qw wr 4 (some ⟨bx x,0,none⟩) ni (bx x) (fun k => .bool (my x k))) (fun _ iv _ => no - (intOf iv).toNat)
 case atStart => exact ⟨0,fun _ => 0,Nat.zero_le _,rfl,Qb.refl _,⟨rfl,.inl ⟨rfl,rfl⟩⟩,fun x hx => absurd hx (by omega)⟩
 case round =>
  obtain ⟨i,bx,hi,rfl,E,OM,hrow⟩:=hrel;obtain ⟨wo,rfl⟩:=Qg wr;by_cases hlt : i < no;rotate_left
  ·obtain rfl : i = no := by omega
   obtain ⟨FM0,cM0,rfl⟩:=Ya OM;obtain ⟨A9,c9,b9,e9,_,_,AM⟩:=Mw (g:=fun x => .slice (some ⟨bx x,0,none⟩) ni ni) OM (fun k hk => by simp [hk])
   have hMB : MayB wo (.slice FM0 i cM0) i ni my:=by
    injection e9 with q1 _ q3
    subst q1;subst q3;exact ⟨_,_,_,rfl,Mx AM,fun x hx => ⟨_,_,rfl,Mx (hrow x hx)⟩⟩
   clear AM e9 OM hrow;have RO2:=RO.ext E;have RI2:=RI.ext E;have XB:=X2.trans E;clear RO RI E X2 hA2;obtain ⟨wB,hwB⟩:=Qg wo;go_upto_region 13 with (fail)
   obtain ⟨wt,hwt⟩:=Qg (wo.alloc (.cells (Array.replicate ni (.bool false)) 4));rw [← hwt];have AT : Qw wt 4 (some ⟨wo.heap.size,0,none⟩) ni wo.heap.size (fun _ => .bool false):=by rw [hwt];exact Gr wo _ _ _
   have xt : Qb wo wt:=by rw [hwt];exact (Qb.refl wo).alloc _
   obtain ⟨bt,hbt⟩:=Qg (wo.heap.size);rw [← hbt] at AT ⊢;rw [← hwB] at hbt xt hMB RO2 RI2 XB;have hbge : wB.heap.size ≤ bt:=Nat.le_of_eq hbt.symm;clear hbt hwt hwB;have NM0:=most_any wt (.slice FM0 i cM0) i ni ni bt 0 (fun _ => false) (hMB.ext xt) AT hni hno (Nat.zero_le _);rw [Nat.sub_zero] at NM0;have hgl:=Np (adj:=Zp my ni) (ni:=ni) (fx:=fun _ => false) i 0 Z8;obtain ⟨L0,hL0⟩:=Qg ((Zo (Zp my ni) ni (fun _ => false) i 0 Z8).2);have hRES0 : Hid ([] ++ Yo (Zp my ni) ni i (i - 0) 0 (L0 : Int) (fun _ => false) = RES):=Lib.hid (by rw [hL0,hRES.out];rfl);rw [← hL0] at NM0 hgl;clear hL0 hRES;go_upto_region 14 with (go_at_call 85;(with_reducible refine Calls.mono NM0 ?_);rintro e w3 ⟨rfl,x3⟩)
   have TK0 : TK wB w3 bt ni (fun _ => false):=⟨xt.trans x3,AT.ext x3⟩;clear NM0 xt x3 AT;obtain ⟨Y0,cY,vs,e0,hYr,hYi⟩:=id hMB;injection e0 with q1 _ q3
   subst q1;subst q3;go_upto_region 16 with (fail)
   go_loopw [10,11,12] (fun lv ov iv wr => ∃ (i' : Nat) (Qt : List (Nat × Nat)) (fx : Bl) (left : Int),i' ≤ i ∧ Qt.length ≤ i' ∧ -(i' : Int) ≤ left ∧ left ≤ i ∧ lv = .int .i64 left ∧ iv = .int .i64 i' ∧ TK wB wr bt ni fx ∧ wr.ownsRow wB.heap.size 35 4 ov Qt.length (Qt.flatMap (X9 (fun o => Lo.getD o Q7) (fun k => Li.getD k Q7))) ∧ Hid (Qt ++ Yo (Zp my ni) ni i (i - i') i' left fx = RES)) (fun _ _ iv _ => i - (intOf iv).toNat)
   case atStart => exact ⟨0,[],_,L0,Nat.zero_le _,Nat.le_refl _,by omega,by omega,rfl,rfl,TK0,⟨rfl,.inl ⟨rfl,rfl⟩⟩,hRES0⟩
   case round =>
    clear TK0 hRES0 hgl;obtain ⟨i',Qt,fx,left,hi,hpl,hl1,hl2,rfl,rfl,M,hO,hR⟩:=hrel;obtain ⟨no,rfl⟩:=Qg i;obtain ⟨i,rfl⟩:=Qg i';obtain ⟨wo,rfl⟩:=Qg wr;by_cases hlt : i < no;rotate_left
    ·obtain rfl : i = no := by omega
     have e : Qt = RES:=by
      have h:=hR.out;rw [Nat.sub_self] at h;rw [← h];exact (List.append_nil _).symm
     subst e;clear hR;go_wp2;go_ret;exact ⟨_,rfl,XB.trans M.e,Ov hO XB.size⟩
    have hno0 : 0 < no:=by omega
    obtain ⟨F,mcap,rfl⟩:=Ya hO;obtain ⟨D,cD,hv1,hDr⟩:=hYi i hlt;obtain ⟨b,off,hYe,hb,hcc⟩:=hYr hno0;subst hYe
    have c0 : wB.cell? ⟨b,off + i,none⟩ = some (.slice D ni cD):=by
     have:=hcc i 0 (vs i) hlt rfl;rw [hv1] at this
     simpa using this
    clear hcc hv1;obtain ⟨bv,ov,hVe,hbv,hcv⟩:=RO2 hno0;subst hVe;have cv0 : wB.cell? ⟨bv,ov + i * 2,none⟩ = some (.int .i64 ((Lo.getD i Q7).1 : Nat)):=hcv i 0 _ hlt rfl;have cv1 : wB.cell? ⟨bv,ov + i * 2 + 1,none⟩ = some (.int .i64 ((Lo.getD i Q7).2 : Nat)):=hcv i 1 _ hlt rfl;clear hcv;obtain ⟨RK,hRK⟩:=Qg (Jw (Zp my ni) ni no i left fx (Zp my ni i))
    have hR1 : Hid (Qt ++ nextR (Zp my ni) ni no (no - (i + 1)) i left fx RK = RES):=by
     have h:=hR.out;rw [show no - i = (no - (i + 1)) + 1 by omega,refI_next] at h;rw [hRK];exact Lib.hid h
    rw [Sv] at hRK;replace hRK : Hid (Jw (Zp my ni) ni no i left fx (fl (my i) ni 0) = RK):=Lib.hid hRK.symm;clear hR;go_upto_region 19 with (fail)
    go_loopw [10,11,13] (fun lv ov kv wr => ∃ k : Nat,k ≤ ni ∧ lv = .int .i64 left ∧ ov = .slice F Qt.length mcap ∧ kv = .int .i64 k ∧ TK wB wr bt ni fx ∧ wr.ownsRow wB.heap.size 35 4 (.slice F Qt.length mcap) Qt.length (Qt.flatMap (X9 (fun o => Lo.getD o Q7) (fun k => Li.getD k Q7))) ∧ Hid (Jw (Zp my ni) ni no i left fx (fl (my i) ni k) = RK)) (fun _ _ kv _ => ni - (intOf kv).toNat)
    case atStart => exact ⟨0,Nat.zero_le _,rfl,rfl,rfl,M,hO,hRK⟩
    case round =>
     clear M hO hRK;obtain ⟨k,hk,rfl,rfl,rfl,M,hO,hRK⟩:=hrel;obtain ⟨w1,rfl⟩:=Qg wr;by_cases hlk : k < ni;rotate_left
     ·obtain rfl : k = ni := by omega
      have e : RK = none:=by
       have h:=hRK.out;rw [Dq] at h;exact h.symm
      subst e;clear hRK;go_wp2;exact ⟨⟨i + 1,Qt,fx,left,by omega,by omega,by omega,by omega,rfl,by go_num,M,hO,hR1⟩,by simp [intOf];omega⟩
     have hni0 : 0 < ni:=by omega
     have e0:=(M.e.cell (p:=⟨b,off + i,none⟩) hb).trans c0;have el:=Nat.lt_of_lt_of_le hb M.e.size;obtain ⟨bd,od,rfl,hbd,hcd⟩:=hDr hni0;have f0 : w1.cell? ⟨bd,od + k,none⟩ = some (.bool (my i k)):=(M.e.cell (p:=⟨bd,od + k,none⟩) hbd).trans (by simpa using hcd k 0 (.bool (my i k)) hlk rfl);have fl0:=Nat.lt_of_lt_of_le hbd M.e.size;clear hcd;have n0:=M.a.cell hlk;have nl:=M.a.lt hni0;cases hmy1 : my i k
     ·rw [hmy1] at f0
      have hr2 : Hid (Jw (Zp my ni) ni no i left fx (fl (my i) ni (k + 1)) = RK):=by
       have h:=hRK.out;rw [Dr hlk hmy1] at h;exact h
      clear hRK hmy1 hmy;go_wp2;exact ⟨⟨k + 1,by omega,rfl,rfl,by go_num,M,hO,hr2⟩,by simp [intOf];omega⟩
     rw [hmy1] at f0;have hdr:=Lib.hid (Ds hlk hmy1);clear hmy1 hmy;cases hs : fx k
     rotate_left
     ·rw [hs] at n0
      have hr2 : Hid (Jw (Zp my ni) ni no i left fx (fl (my i) ni (k + 1)) = RK):=by
       have h:=hRK.out;rw [hdr.out,Qhv hs] at h;exact h
      clear hRK hs hdr;go_wp2;exact ⟨⟨k + 1,by omega,rfl,rfl,by go_num,M,hO,hr2⟩,by simp [intOf];omega⟩
     rw [hs] at n0;have nz:=M.a.frozen hni0 k;have hOs:=M.a.h hni0;go_upto_region 23 with (fail)
     have M2:=M.set hbge hlk true;obtain ⟨cs2,hcs2,_⟩:=hOs;have hO2:=Z9 hcs2 (by decide) hO k (.bool true);generalize World.setCell _ _ _ = w2' at *;clear M hO n0 nl nz e0 el f0 fl0 hcs2;have NM:=most_any w2' (.slice (some ⟨b,off,none⟩) no cM0) no ni ni bt (i + 1) (Qk fx k true) (hMB.ext M2.e) M2.a hni hno (by omega);obtain ⟨cn,hcn⟩:=Qg ((Zo (Zp my ni) ni (Qk fx k true) (no - (i + 1)) (i + 1) Z8).2);rw [← hcn,show (((i + 1 : Nat)) : Int) = (i : Int) + 1 by omega] at NM;by_cases hq : (cn : Int) = left - 1
     ·have g1 : ((cn : Int) == left - 1) = true:=beq_iff_eq.2 hq
      have hRKe : RK = some k:=by
       have h:=hRK.out;rw [hdr.out,Qhw hs (by rw [← hcn];exact hq)] at h;exact h.symm
      subst hRKe;clear hRK hdr hs hcn hq;obtain ⟨bu,ou,hUe,hbu,hcu⟩:=RI2 hni0;subst hUe;have cu0 : wB.cell? ⟨bu,ou + k * 2,none⟩ = some (.int .i64 ((Li.getD k Q7).1 : Nat)):=hcu k 0 _ hlk rfl;have cu1 : wB.cell? ⟨bu,ou + k * 2 + 1,none⟩ = some (.int .i64 ((Li.getD k Q7).2 : Nat)):=hcu k 1 _ hlk rfl;clear hcu;obtain ⟨X,hX⟩:=Qg (Lo.getD i Q7);obtain ⟨Y,hY⟩:=Qg (Li.getD k Q7);have hmcl : Hid (X9 (fun o => Lo.getD o Q7) (fun k => Li.getD k Q7) (i,k) = [.int .i64 (X.1 : Nat),.int .i64 (X.2 : Nat),.int .i64 (Y.1 : Nat),.int .i64 (Y.2 : Nat)]):=by rw [hX,hY];exact Lib.hid rfl
      rw [← hX] at cv0 cv1;rw [← hY] at cu0 cu1;clear hX hY;go_upto_region 25 with (go_at_call 85;(with_reducible refine Calls.mono NM ?_);rintro e w4 ⟨rfl,x4⟩)
      have HC:=M2.ext x4;have hO:=Jo hO2 x4;clear M2 hO2 x4 NM g1;refine Zb 13 [12] (fun x => TK wB x bt ni (Qk fx k true)) Qo rfl ?_;intro vz hvz;replace HC:=HC.ext hvz;replace hO:=Jo hO hvz;refine Qs (g:=3) [0,1,2,3,4,5,6,7,8,9] [_,_,_,_,_,_,_,_,_,_] ⟨rfl,rfl,rfl,rfl,rfl,rfl,rfl,rfl,rfl,rfl,trivial⟩ (by kernel_rfl) (by kernel_rfl) HC ?_;simp only [Qc,Qd,Qe];apply Exists.intro;refine ⟨fun u hu => ?_,?_⟩
      ·have s0:=(hu.e.cell (p:=⟨bv,ov + i * 2,none⟩) hbv).trans cv0;have s1:=(hu.e.cell (p:=⟨bv,ov + i * 2 + 1,none⟩) hbv).trans cv1;have z0:=(hu.e.cell (p:=⟨bu,ou + k * 2,none⟩) hbu).trans cu0;have z1:=(hu.e.cell (p:=⟨bu,ou + k * 2 + 1,none⟩) hbu).trans cu1;have yl:=Nat.lt_of_lt_of_le hbv hu.e.size;have zl:=Nat.lt_of_lt_of_le hbu hu.e.size;repeat (first | go_big_quiet_skip | (go_big_quiet_want;go_big_quiet_op;go_big_quiet_on))
       refine wpQuiet_nil ?_;rfl
      refine Ql 10 rfl (by kernel_rfl) ?_;simp only [Qc,Qd,Qe];go_wp2;obtain ⟨bq,wb,hbq,hwb,Q6,_,hx,hge⟩:=Qn HC.e 35 #[.int .i64 (X.1 : Nat),.int .i64 (X.2 : Nat),.int .i64 (Y.1 : Nat),.int .i64 (Y.2 : Nat)];rw [← hbq,← hwb];clear hbq hwb;replace HC:=HC.ext hx;replace hO:=Jo hO hx;clear hx;refine Qh HC ?_;refine Ql 11 rfl (by kernel_rfl) ?_;simp only [Qc,Qd,Qe];go_wp2_with (at_builtin;refine wpList_append_own_at _ rfl _ _ 28 rfl wB.heap.size 35 i0 (.agg #[.int .i64 0,.int .i64 0,.int .i64 0,.int .i64 0]) 4 32 Tryz.underlying28 hi0 hz0 hz1 hz2 rfl (by decide) _ _ _ rfl hO ⟨bq,0,none⟩ 1 1 [.int .i64 (X.1 : Nat),.int .i64 (X.2 : Nat),.int .i64 (Y.1 : Nat),.int .i64 (Y.2 : Nat)] rfl rfl (Uc Q6) (G7 _ _ _ _) (by unfold maxLen;omega) (by omega) HC.e.size ?_;intro vn wn hown hgrow _ _)
      replace HC:=HC.grown hO hgrow;clear hgrow Q6;refine Qh HC ?_;refine Qr 12 rfl (by kernel_rfl) ?_;simp only [Qc,Qd,Qe];go_wp2;refine Qq ?_;refine Qv (by kernel_rfl) ?_
      have hR2 : Hid ((Qt ++ [(i,k)]) ++ Yo (Zp my ni) ni no (no - (i + 1)) (i + 1) (left - 1) (Qk fx k true) = RES):=by
       have h:=hR1.out;rw [List.append_assoc];exact h
      have hown2 : wn.ownsRow wB.heap.size 35 4 vn (Qt ++ [(i,k)]).length ((Qt ++ [(i,k)]).flatMap (X9 (fun o => Lo.getD o Q7) (fun k => Li.getD k Q7))):=by
       rw [List.length_append,List.flatMap_append,List.flatMap_singleton,hmcl.out];exact hown
      clear hown hO hR1;go_wp2;exact ⟨⟨i + 1,Qt ++ [(i,k)],_,left - 1,by omega,by rw [List.length_append];show Qt.length + 1 ≤ i + 1;omega,by omega,by omega,by go_num,by go_num,HC,hown2,hR2⟩,by simp [intOf];omega⟩
     ·have g1 : ((cn : Int) == left - 1) = false:=beq_eq_false_iff_ne.2 hq
      have hr2 : Hid (Jw (Zp my ni) ni no i left fx (fl (my i) ni (k + 1)) = RK):=by
       have h:=hRK.out;rw [hdr.out,Qhu hs (by rw [← hcn];exact hq)] at h;exact h
      clear hRK hdr hcn hq;have hub:=Qis hs;clear hs;go_upto_region 26 with (go_at_call 85;(with_reducible refine Calls.mono NM ?_);rintro e w4 ⟨rfl,x4⟩)
      have M3:=M2.ext x4;have hO3:=Jo hO2 x4;clear M2 hO2 x4 NM g1;have fz:=M3.a.frozen hni0 k;have fc:=M3.a.cell hlk;have flt:=M3.a.lt hni0;obtain ⟨cs3,hcs3,_⟩:=M3.a.h hni0;go_wp2;have M4:=M3.set hbge hlk false;rw [hub] at M4;have hO4:=Z9 hcs3 (by decide) hO3 k (.bool false);exact ⟨⟨k + 1,by omega,rfl,rfl,by go_num,M4,hO4,hr2⟩,by simp [intOf];omega⟩
  go_upto_region 7 with (fail)
  obtain ⟨wx,hwx⟩:=Qg (wo.alloc (.cells (Array.replicate ni (.bool false)) 4));rw [← hwx];have HR : Qa wx wo.heap.size 4 (Array.replicate ni (.bool false)):=by rw [hwx];exact Qa.new _ _ _
  have AR : Qw wx 4 (some ⟨wo.heap.size,0,none⟩) ni wo.heap.size (fun _ => .bool false):=by rw [hwx];exact Gr wo _ _ _
  have xx : Qb wo wx:=by rw [hwx];exact (Qb.refl wo).alloc _
  have hbl : Hid (∀ x,x < i → 0 < ni → bx x ≠ wo.heap.size):=Lib.hid fun x hx hn => Nat.ne_of_lt ((hrow x hx).lt hn)
  have hge:=E.size;have hrow2 : Hid (∀ x,x < i → Qw wx 4 (some ⟨bx x,0,none⟩) ni (bx x) (fun k => .bool (my x k))):=Lib.hid fun x hx => (hrow x hx).ext xx
  have OM2:=Jo OM xx;have E2:=E.trans xx;generalize wo.heap.size = br at *;clear hwx xx hrow OM E;obtain ⟨bo,oo,hVe,hbo,hco⟩:=RO (by omega);subst hVe;have x0 : w2.cell? ⟨bo,oo + i * 2,none⟩ = some (.int .i64 ((Lo.getD i Q7).1 : Nat)):=hco i 0 _ hlt rfl;have x1 : w2.cell? ⟨bo,oo + i * 2 + 1,none⟩ = some (.int .i64 ((Lo.getD i Q7).2 : Nat)):=hco i 1 _ hlt rfl;clear hco;obtain ⟨hX1,hX2⟩:=hbd1.out _ (Xy (z:=Q7) (l:=Lo) (i:=i) (by rw [← hnoe.out];exact hlt));obtain ⟨X,hX⟩:=Qg (Lo.getD i Q7);rw [← hX] at x0 x1 hX1 hX2;replace hX:=Lib.hid hX;go_upto_region 8 with (fail)
  go_loopw [8] (fun kv wr => ∃ k : Nat,k ≤ ni ∧ kv = .int .i64 k ∧ Qb w2 wr ∧ FB br wx wr ∧ Qw wr 4 (some ⟨br,0,none⟩) ni br (fun y => .bool (if y < k then my i y else false))) (fun kv _ => ni - (intOf kv).toNat)
  case atStart => exact ⟨0,Nat.zero_le _,rfl,E2,FB.refl _ _,AR.congr fun y _ => by simp⟩
  case round =>
   clear E2 AR;obtain ⟨k,hk,rfl,E,F,AR⟩:=hrel;obtain ⟨wo,rfl⟩:=Qg wr;by_cases hlk : k < ni;rotate_left
   ·obtain rfl : k = ni := by omega
    have OM3:=own_fb OM2 F HR (by decide);have AR2:=AR.congr (g':=fun y => .bool (my i y)) (fun y hy => by simp [hy]);have hrow3 : ∀ x,x < i → Qw wo 4 (some ⟨bx x,0,none⟩) k (bx x) (fun k => .bool (my x k)):=fun x hx => (hrow2.out x hx).fb F (hbl.out x hx)
    replace hrow3:=Lib.hid hrow3;clear OM2 AR F HR hrow2 hbl;go_upto_region 11 with (fail)
    have x5 : Qb wo (wo.alloc (.cells #[.slice (some ⟨br,0,none⟩) k k] 171)):=(Qb.refl wo).alloc _;have O5:=Jo OM3 x5;have E5:=E.trans x5;go_wp2_with (at_builtin;refine wpList_append_own_at _ rfl _ _ 170 rfl w2.heap.size 171 j0 (.slice none 0 0) 1 24 Tryz.underlying170 hj0 hy3 hy4 hy5 rfl (by decide) _ _ _ rfl O5 ⟨wo.heap.size,0,none⟩ 1 1 [.slice (some ⟨br,0,none⟩) k k] rfl rfl (Uc (Qa.new _ _ _)) (by simp [Value.oneCell']) (by unfold maxLen;omega) (by omega) E5.size ?_;intro vn wn hown hgrow _ _);have E6:=E5.grown hgrow (fun q hq => (W4 O5 q hq).1)
    have hO6 : wn.ownsRow w2.heap.size 171 1 vn (i + 1) ((List.range (i + 1)).map fun x => .slice (some ⟨if x = i then br else bx x,0,none⟩) k k):=by
     rw [List.range_succ,List.map_append]
     have e1 : (List.range i).map (fun x => Value.slice (some ⟨if x = i then br else bx x,0,none⟩) k k) = (List.range i).map (fun x => .slice (some ⟨bx x,0,none⟩) k k):=List.map_congr_left fun x hx => by
      have : x ≠ i:=by have:=List.mem_range.1 hx;omega
      rw [if_neg this]
     rw [e1]
     simpa using hown
    have hr6 : ∀ x,x < i + 1 → Qw wn 4 (some ⟨if x = i then br else bx x,0,none⟩) k (if x = i then br else bx x) (fun k => .bool (my x k)):=fun x hx => by
     by_cases e : x = i
     ·subst e;rw [if_pos rfl];exact (AR2.ext x5).kept hgrow (fun hn => by obtain ⟨cs,h1,_⟩:=(AR2.ext x5).h hn;exact h1.not_row (by decide) O5)
     ·rw [if_neg e];have h:=(hrow3.out x (by omega)).ext x5;exact h.kept hgrow (fun hn => by obtain ⟨cs,h1,_⟩:=h.h hn;exact h1.not_row (by decide) O5)
    exact ⟨⟨i + 1,fun x => if x = i then br else bx x,by omega,by go_num,E6,hO6,hr6⟩,by simp [intOf];omega⟩
   obtain ⟨bu,ou,hUe,hbu,hcu⟩:=RI (by omega);subst hUe;have y0 : w2.cell? ⟨bu,ou + k * 2,none⟩ = some (.int .i64 ((Li.getD k Q7).1 : Nat)):=hcu k 0 _ hlk rfl;have y1 : w2.cell? ⟨bu,ou + k * 2 + 1,none⟩ = some (.int .i64 ((Li.getD k Q7).2 : Nat)):=hcu k 1 _ hlk rfl;clear hcu;obtain ⟨hY1,hY2⟩:=hbd2.out _ (Xy (z:=Q7) (l:=Li) (i:=k) (by rw [← hnie.out];exact hlk));obtain ⟨Y,hY⟩:=Qg (Li.getD k Q7);rw [← hY] at y0 y1 hY1 hY2;replace hY:=Lib.hid hY;have NM:=fun v h => mayR_any A A' ca cb c l vl ba days X Y v h hv hX1 hX2 hY1 hY2
   obtain ⟨RB,hRB⟩:=Qg (c.mayR l days X Y);rw [← hRB] at NM
   have hRB2 : Hid (my i k = RB):=by
    rw [hRB,hmy.out,hX.out,hY.out];exact Lib.hid rfl
   clear hRB;have hge2:=hge;go_upto_region 10 with (fail)
   refine Zb 14 [13] (fun x => Qb wo x) Qo rfl ?_;intro vz hvz;have HC:=hvz;refine Qs (g:=3) [0,1,2,3,4,5,6,7,8,9,10] [_,_,_,_,_,_,_,_,_,_,_] ⟨rfl,rfl,rfl,rfl,rfl,rfl,rfl,rfl,rfl,rfl,rfl,trivial⟩ (by kernel_rfl) (by kernel_rfl) HC ?_;simp only [Qc,Qd,Qe];apply Exists.intro;refine ⟨fun u hu => ?_,?_⟩
   ·have r0:=((E.trans hu).cell (p:=⟨bo,oo + i * 2,none⟩) hbo).trans x0;have r1:=((E.trans hu).cell (p:=⟨bo,oo + i * 2 + 1,none⟩) hbo).trans x1;have s0:=((E.trans hu).cell (p:=⟨bu,ou + k * 2,none⟩) hbu).trans y0;have s1:=((E.trans hu).cell (p:=⟨bu,ou + k * 2 + 1,none⟩) hbu).trans y1;have rl:=Nat.lt_of_lt_of_le hbo (E.trans hu).size;have sl:=Nat.lt_of_lt_of_le hbu (E.trans hu).size;repeat (first | go_big_quiet_skip | (go_big_quiet_want;go_big_quiet_op;go_big_quiet_on))
    refine wpQuiet_nil ?_;rfl
   refine Ql 11 rfl (by kernel_rfl) ?_;simp only [Qc,Qd,Qe];go_wp2_with (go_at_call 84;(with_reducible refine Calls.mono (NM _ (hA2.ext (E.trans HC))) ?_);rintro e wc ⟨rfl,hj⟩);replace HC:=HC.trans hj;clear hj;refine Qh HC ?_;refine Qs (g:=1) [12] [_] ⟨rfl,trivial⟩ (by kernel_rfl) (by kernel_rfl) HC ?_;simp only [Qc,Qd,Qe];apply Exists.intro;refine ⟨fun u hu => ?_,?_⟩
   ·have r0:=((E.trans hu).cell (p:=⟨bo,oo + i * 2,none⟩) hbo).trans x0;have r1:=((E.trans hu).cell (p:=⟨bo,oo + i * 2 + 1,none⟩) hbo).trans x1;have s0:=((E.trans hu).cell (p:=⟨bu,ou + k * 2,none⟩) hbu).trans y0;have s1:=((E.trans hu).cell (p:=⟨bu,ou + k * 2 + 1,none⟩) hbu).trans y1;have rl:=Nat.lt_of_lt_of_le hbo (E.trans hu).size;have sl:=Nat.lt_of_lt_of_le hbu (E.trans hu).size;repeat (first | go_big_quiet_skip | (go_big_quiet_want;go_big_quiet_op;go_big_quiet_on))
    refine wpQuiet_nil ?_;rfl
   refine Qr 13 rfl (by kernel_rfl) ?_;simp only [Qc,Qd,Qe];have fz:=(AR.ext HC).frozen (show 0 < ni by omega) k;have fc:=(AR.ext HC).cell hlk;have fl:=(AR.ext HC).lt (show 0 < ni by omega);go_wp2;refine Qq ?_;refine Qv (by kernel_rfl) ?_;have F2:=(F.ext HC).set k (.bool RB)
   have A2:=((AR.ext HC).set hlk (.bool RB)).congr (g':=fun y => .bool (if y < k + 1 then my i y else false)) (fun y hy => by
    by_cases e : y = k
    ·subst e;simp [hRB2.out]
    ·by_cases e2 : y < k
     ·simp [e,e2,show y < k + 1 by omega]
     ·simp [e,e2,show ¬ y < k + 1 by omega])
   have E3:=(E.trans HC).setCell (p:=⟨br,k,none⟩) hge (.bool RB);clear AR F;generalize World.setCell _ _ _ = wq at *;go_wp2;exact ⟨⟨k + 1,by omega,by go_num,E3,F2,A2⟩,by simp [intOf];omega⟩
theorem archiveR_any (A A' : Option Addr) (ca cb : Nat) (c : Qf) (l : List Pd) (vl : Value) (days : Int) (w : World) (hC : Q8 w A ca A' cb c) (hP : Yf w vl l) :
  Calls Tryz.prog 36 #[.agg #[.slice A c.nk ca,.slice A' c.ny cb],vl,.int .i64 days] w fun e w' => e = .returned (.int .i64 (c.audE l days)) ∧ Qb w w':=by
 have NV:=fun w h1 h2 => Qbd A A' ca cb c l vl w h1 h2
 obtain ⟨pe,hpe⟩:=Qg (c.archE l);simp only [← hpe] at NV;replace hpe:=Lib.hid hpe;obtain ⟨RE,hRE⟩:=Qg (c.audE l days);rw [← hRE];replace hRE:=Lib.hid hRE
 go_enter Tryz.func36,Tryz.ntmps36
 go_upto_region 1 with (fail)
 obtain ⟨v,hv⟩:=Qg (w.alloc (.cells #[.slice A c.nk ca,.slice A' c.ny cb] 25));rw [← hv];have E : Qb w v:=by rw [hv];exact (Qb.refl _).alloc _
 have B1 : Qa v w.heap.size 25 #[.slice A c.nk ca,.slice A' c.ny cb]:=by rw [hv];exact (Qa.new _ _ _)
 clear hv;obtain ⟨b1,hb1⟩:=Qg (w.heap.size);rw [← hb1] at B1 ⊢;have hbr : w.heap.size ≤ b1:=by omega
 clear hb1;have C:=hC.ext E;clear hC;obtain ⟨k0,k1⟩:=B1.c2;have kl:=B1.lt;go_upto_region 2 with (go_at_call 82;(with_reducible refine Calls.mono (NV _ C (hP.ext E)) ?_);rintro e w1 ⟨rfl,x1⟩)
 clear NV;replace E:=E.trans x1;by_cases e0 : pe = 0;rotate_left
 ·have g0 : (pe == 0) = false := beq_eq_false_iff_ne.2 e0;have g0n : (pe != 0) = true := by rw [bne, g0]; rfl
  obtain rfl : RE = pe:=by rw [hRE.out];unfold Qf.audE;rw [← hpe.out];exact if_pos e0
  clear hRE hpe e0;go_wp2;go_ret;exact ⟨rfl,E⟩
 subst e0;by_cases hd : days < 0 ∨ 400 < days
 ·obtain rfl : RE = 8 := by rw [hRE.out]; unfold Qf.audE; rw [← hpe.out, if_neg (by simp), if_pos hd]
  clear hRE hpe;by_cases h1 : days < 0
  ·have g1 : decide (days < 0) = true:=decide_eq_true h1;clear hd;go_wp2;go_ret;exact ⟨rfl,E⟩
  ·have g1 : decide (days < 0) = false:=decide_eq_false h1;have g2 : decide (400 < days) = true:=decide_eq_true (by omega);clear hd h1;go_wp2;go_ret;exact ⟨rfl,E⟩
 obtain rfl : RE = 0:=by rw [hRE.out];unfold Qf.audE;rw [← hpe.out,if_neg (by simp),if_neg hd]
 have g1 : decide (days < 0) = false:=decide_eq_false (by omega);have g2 : decide (400 < days) = false:=decide_eq_false (by omega);clear hd hRE hpe;go_wp2;go_ret;exact ⟨rfl,E⟩
theorem matchingRf_any (A A' : Option Addr) (ca cb : Nat) (c : Qf) (l : List Pd) (vl : Value) (days : Int) (w : World) (hC : Q8 w A ca A' cb c) (hP : Yf w vl l) :
  Calls Tryz.prog 10 #[.agg #[.slice A c.nk ca,.slice A' c.ny cb],vl,.int .i64 days] w fun e w' => ∃ v,e = .returned (.tuple #[v,.int .i64 (c.matchV l days).2]) ∧ Qb w w' ∧ w'.ownsRow w.heap.size 35 4 v (c.matchV l days).1.length ((c.matchV l days).1.flatMap Wa):=by
 have NA:=fun w h1 h2 => archiveR_any A A' ca cb c l vl days w h1 h2
 obtain ⟨RE,hRE⟩:=Qg (c.audE l days);simp only [← hRE] at NA;replace hRE:=Lib.hid hRE
 go_enter Tryz.func10,Tryz.ntmps10
 go_upto_region 1 with (fail)
 obtain ⟨v,hv⟩:=Qg (w.alloc (.cells #[.slice A c.nk ca,.slice A' c.ny cb] 25));rw [← hv];have E : Qb w v:=by rw [hv];exact (Qb.refl _).alloc _
 have B1 : Qa v w.heap.size 25 #[.slice A c.nk ca,.slice A' c.ny cb]:=by rw [hv];exact (Qa.new _ _ _)
 clear hv;obtain ⟨b1,hb1⟩:=Qg (w.heap.size);rw [← hb1] at B1 ⊢;have hbr : w.heap.size ≤ b1:=by omega
 clear hb1;have C:=hC.ext E;obtain ⟨k0,k1⟩:=Qa.c2 B1;have kl:=Qa.lt B1;by_cases e0 : RE = 0;rotate_left
 ·have g0 : (RE == 0) = false := beq_eq_false_iff_ne.2 e0;have g0n : (RE != 0) = true := by rw [bne, g0]; rfl
  have hm : c.matchV l days = ([],RE):=by unfold Qf.matchV;rw [← hRE.out,if_pos e0]
  clear hRE;go_wp2_with (go_at_call 36;(with_reducible refine Calls.mono (NA _ C (hP.ext E)) ?_);rintro e w1 ⟨rfl,x1⟩);go_ret2;rw [hm];exact ⟨_,rfl,E.trans x1,rfl,.inl ⟨rfl,rfl⟩⟩
 have hok:=hRE.out;rw [e0] at hok;obtain ⟨⟨hv,hp⟩,_⟩:=Gs hok.symm;have hl32:=Gq (Gu hok.symm);have hl64 : ∀ i,i < l.length → (l.getD i Qx).d.length ≤ 64:=fun i hi => (hp _ (Xy (z:=Qx) hi)).m
 subst e0;have hm : c.matchV l days = (c.matchL l days,0):=by unfold Qf.matchV;rw [← hok,if_neg (by simp)]
 have hmr:=Qfl (days:=days) hp;clear hRE hok;replace hp:=Lib.hid hp;obtain ⟨DL,cL,_,_,_,e1,_⟩:=id hP;subst e1;go_upto_region 4 with (go_at_call 36;(with_reducible refine Calls.mono (NA _ C (hP.ext E)) ?_);rintro e w1 ⟨rfl,x1⟩;obtain ⟨k0,k1⟩:=Qa.c2 (B1.ext x1);have kl:=Qa.lt (B1.ext x1))
 go_upto_region 5 with (fail)
 obtain ⟨w2,hw2⟩:=Qg (w1.alloc (.cells #[.slice A c.nk ca,.slice A' c.ny cb,.slice DL l.length cL,.int .i64 days] 103));rw [← hw2];have x2 : Qb w1 w2:=by rw [hw2];exact (Qb.refl _).alloc _
 have HB : Qa w2 w1.heap.size 103 #[.slice A c.nk ca,.slice A' c.ny cb,.slice DL l.length cL,.int .i64 days]:=by rw [hw2];exact Qa.new _ _ _
 generalize w1.heap.size = ba at *;clear hw2;have X:=E.trans (x1.trans x2);have hA : ArcAt w2 ba A A' ca cb c (.slice DL l.length cL) l days:=⟨HB,hC.ext X,hP.ext X⟩;have NM:=matchingR_any A A' ca cb c l (.slice DL l.length cL) ba days w2 hA hv hl32 hl64;simp only [hmr] at NM;clear hmr hA HB;go_wp2_with (go_at_call 37;(with_reducible refine Calls.mono NM ?_);rintro e w3 ⟨v,rfl,x3,hO⟩);go_ret2;rw [hm];rw [Cu] at hO;exact ⟨_,rfl,X.trans x3,Ov (by rw [show (c.matchL l days).length = (c.matchI l days).length from List.length_map ..];exact hO) X.size⟩
end Go.Proofs.YtoflcheopfppoaaGreatDoor