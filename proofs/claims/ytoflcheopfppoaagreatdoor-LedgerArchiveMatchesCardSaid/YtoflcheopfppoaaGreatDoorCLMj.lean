/- The deals of an archive, and which may match: of the reference. -/
import Derived.Test.YtoflcheopfppoaaGreatDoorL15
import Derived.Test.YtoflcheopfppoaaGreatDoorL16
import Derived.Test.YtoflcheopfppoaaGreatDoorL12
set_option maxRecDepth 100000
set_option maxHeartbeats 4000000
namespace Go.Proofs.YtoflcheopfppoaaGreatDoor
open Go Go.RowKit Go.Shelf
attribute [local go_sem] Z5
structure ArcAt (W : World) (ba : Nat) (A A' : Option Addr) (ca cb : Nat) (c : Qf) (vl : Value) (l : List Pd) (days : Int) : Prop where
 b : Qa W ba 103 #[.slice A c.nk ca,.slice A' c.ny cb,vl,.int .i64 days]
 C : Q8 W A ca A' cb c
 P : Yf W vl l
theorem ArcAt.ext {W W' : World} {ba : Nat} {A A' : Option Addr} {ca cb : Nat} {c : Qf} {vl : Value} {l : List Pd} {days : Int} (h : ArcAt W ba A A' ca cb c vl l days) (x : Qb W W') : ArcAt W' ba A A' ca cb c vl l days:=⟨h.b.ext x,h.C.ext x,h.P.ext x⟩
theorem flatRf_len (L : List Rf) : (L.flatMap Y7).length = L.length * 2:=by
 induction L with
 | nil => rfl
 | cons a r ih => simp only [List.flatMap_cons,List.length_append,ih,List.length_cons];show 2 + r.length * 2 = _;omega
theorem dealsR_any (A A' : Option Addr) (ca cb : Nat) (c : Qf) (l : List Pd) (vl : Value) (ba : Nat) (days : Int) (b : Bool) (w : World) (hA : ArcAt w ba A A' ca cb c vl l days) (hb1 : l.length ≤ 1000) (hb2 : ∀ i,i < l.length → (l.getD i Qx).d.length ≤ 1000) :
  Calls Tryz.prog 83 #[.pointer (some ⟨ba,0,none⟩),.bool b] w fun e w' => ∃ v,e = .returned v ∧ Qb w w' ∧ w'.ownsRow w.heap.size 33 2 v (Q9 l b).length ((Q9 l b).flatMap Y7):=by
 obtain ⟨i0,hi0,hz0,hz1,hz2⟩:=info_parts Bp;obtain ⟨D,cap,vo,vd,vc,rfl,hD,hcap,hmax,_,hat⟩:=id hA.P;have hn : l.length ≤ 9223372036854775807:=by omega
 obtain ⟨g,hg⟩:=Qg (fun i => l.getD i Qx);have hg' : ∀ i,l.getD i Qx = g i:=fun i => by rw [hg]
 simp only [hg'] at hD hat;replace hg':=Lib.hid hg';clear hg hcap hmax;have hB:=hA.b;clear hA
 go_enter Tryz.func83,Tryz.ntmps83
 go_upto_region 3 with (fail)
 go_loopw [5,6] (fun ov iv wr => ∃ i : Nat,i ≤ l.length ∧ iv = .int .i64 i ∧ Qb w wr ∧ wr.ownsRow w.heap.size 33 2 ov (J6 l b i).length ((J6 l b i).flatMap Y7)) (fun _ iv _ => l.length - (intOf iv).toNat)
 case atStart => exact ⟨0,Nat.zero_le _,rfl,Qb.refl _,⟨rfl,.inl ⟨rfl,rfl⟩⟩⟩
 case round =>
  obtain ⟨i,hi,rfl,E,O⟩:=hrel;obtain ⟨wo,rfl⟩:=Qg wr;obtain ⟨a0,a1,a2,a3⟩:=Qa.c4 (hB.ext E);have al:=Qa.lt (hB.ext E);by_cases hlt : i < l.length;rotate_left
  ·obtain rfl : i = l.length := by omega
   go_wp2;go_ret;exact ⟨_,rfl,E,O⟩
  obtain ⟨bp,off,rfl,hbp,hc⟩:=hD (by omega);obtain ⟨T,ct,vs,e1,hT,hct,hmt,_,hatT⟩:=id (hat i hlt).d
  have c10w : w.cell? ⟨bp,off + i * 12 + 10,none⟩ = some (.slice T (g i).d.length ct):=by
   have:=hc i 10 (vd i) hlt rfl;rw [e1] at this;exact this
  clear hc e1 hat hatT hD;have hbi:=hb2 i hlt;have hLo:=U0 b hb2 i hi;rw [hg'.out] at hbi
  have hst : Hid (J6 l b (i + 1) = J6 l b i ++ J7 (g i) b i (g i).d.length):=Lib.hid (by
   conv => lhs;unfold J6
   rw [hg'.out])
  obtain ⟨Lo,hLoe⟩:=Qg (J6 l b i);rw [← hLoe] at O hLo hst;clear hLoe;have c10:=(E.cell (p:=⟨bp,off + i * 12 + 10,none⟩) hbp).trans c10w;have pl:=Nat.lt_of_lt_of_le hbp E.size;go_upto_region 6 with (fail)
  clear a0 a1 a2 a3 al c10 pl
  go_loopw [5,7] (fun ov kv wr => ∃ k : Nat,k ≤ (g i).d.length ∧ kv = .int .i64 k ∧ Qb w wr ∧ wr.ownsRow w.heap.size 33 2 ov (Lo ++ J7 (g i) b i k).length ((Lo ++ J7 (g i) b i k).flatMap Y7)) (fun _ kv _ => (g i).d.length - (intOf kv).toNat)
  case atStart => exact ⟨0,Nat.zero_le _,rfl,E,by simpa [J7] using O⟩
  case round =>
   clear E O;obtain ⟨k,hk,rfl,E,O⟩:=hrel;obtain ⟨w2,rfl⟩:=Qg wr;obtain ⟨a0,a1,a2,a3⟩:=Qa.c4 (hB.ext E);have al:=Qa.lt (hB.ext E);have c10:=(E.cell (p:=⟨bp,off + i * 12 + 10,none⟩) hbp).trans c10w;have pl:=Nat.lt_of_lt_of_le hbp E.size;by_cases hlk : k < (g i).d.length;rotate_left
   ·obtain rfl : k = (g i).d.length := by omega
    rw [← hst.out] at O;go_wp2;exact ⟨⟨i + 1,by omega,by go_num,E,O⟩,by simp [intOf];omega⟩
   obtain ⟨b',off',rfl,hb',hc'⟩:=(hT.ext E) (by omega);obtain ⟨q,hq⟩:=Qg (((g i).d.getD k Zi).i)
   have d4 : w2.cell? ⟨b',off' + k * 7 + 4,none⟩ = some (.bool q):=by
    rw [hq]
    simpa [Qz] using hc' k 4 _ hlk rfl
   clear hc';have hlp:=Ml (g i) b i k;by_cases e : q = b
   ·have y1:=Ti (p:=g i) (b:=b) (i:=i) (n:=k) (by rw [← hq];exact e);have e1 : (q == b) = true:=beq_iff_eq.2 e;replace y1:=Lib.hid y1;clear e hq;have x1 : Qb w2 (w2.alloc (.cells #[.int .i64 i,.int .i64 k] 33)):=(Qb.refl w2).alloc _;have O2:=Jo O x1;have E2:=E.trans x1;go_wp2_with (at_builtin;refine wpList_append_own_at _ rfl _ _ 163 rfl w.heap.size 33 i0 (.agg #[.int .i64 0,.int .i64 0]) 2 16 Tryz.underlying163 hi0 hz0 hz1 hz2 rfl (by decide) _ _ _ rfl O2 ⟨w2.heap.size,0,none⟩ 1 1 [.int .i64 i,.int .i64 k] rfl rfl (Uc (Qa.new _ _ _)) (G8 _ _) (by rw [List.length_append];unfold maxLen;omega) (by rw [List.length_append];omega) E2.size ?_;intro vn wn hown hgrow _ _)
    have E3:=E2.grown hgrow (fun q hq => (W4 O2 q hq).1)
    have O3 : wn.ownsRow w.heap.size 33 2 vn (Lo ++ J7 (g i) b i (k + 1)).length ((Lo ++ J7 (g i) b i (k + 1)).flatMap Y7):=by
     rw [y1.out,← List.append_assoc,List.length_append,List.flatMap_append];exact hown
    exact ⟨⟨k + 1,by omega,by go_num,E3,O3⟩,by simp [intOf];omega⟩
   ·have y1:=Th (p:=g i) (b:=b) (i:=i) (n:=k) (by rw [← hq];exact e);have e1 : (q == b) = false:=beq_eq_false_iff_ne.2 e;rw [← y1] at O;clear e hq y1;go_wp2;exact ⟨⟨k + 1,by omega,by go_num,E,O⟩,by simp [intOf];omega⟩
set_option maxHeartbeats 20000000 in
theorem mayR_any (A A' : Option Addr) (ca cb : Nat) (c : Qf) (l : List Pd) (vl : Value) (ba : Nat) (days : Int) (x y : Rf) (w : World) (hA : ArcAt w ba A A' ca cb c vl l days) (hv : c.valid = true) (hx1 : x.1 < l.length) (hx2 : x.2 < (l.getD x.1 Qx).d.length) (hy1 : y.1 < l.length) (hy2 : y.2 < (l.getD y.1 Qx).d.length) :
  Calls Tryz.prog 84 #[.pointer (some ⟨ba,0,none⟩),.agg #[.int .i64 (x.1 : Nat),.int .i64 (x.2 : Nat)],.agg #[.int .i64 (y.1 : Nat),.int .i64 (y.2 : Nat)]] w fun e w' => e = .returned (.bool (c.mayR l days x y)) ∧ Qb w w':=by
 have ND:=fun d w h => Fl A A' ca cb c d w h hv
 have bX:=Oo hv (Q0 l x).on;have bY:=Oo hv (Q0 l y).on;obtain ⟨D,cap,vo,vd,vc,e0,hD,hcap,hmax,_,hat⟩:=id hA.P;subst e0;obtain ⟨T1,k1,vs1,e1,hT1,_,_,_,hatT1⟩:=id (hat x.1 hx1).d;obtain ⟨T2,k2,vs2,e2,hT2,_,_,_,hatT2⟩:=id (hat y.1 hy1).d;obtain ⟨XO1,xq1,eo1,_⟩:=id (hat x.1 hx1).o;obtain ⟨XC1,xs1,ec1,_⟩:=id (hat x.1 hx1).c;obtain ⟨YO1,yq1,eo2,_⟩:=id (hat y.1 hy1).o;obtain ⟨YC1,ys1,ec2,_⟩:=id (hat y.1 hy1).c;obtain ⟨bp,off,rfl,hbp,hc⟩:=hD (by omega);have c0 : w.cell? ⟨bp,off + x.1 * 12,none⟩ = some (.string (l.getD x.1 Qx).h):=by simpa [Qu] using hc x.1 0 _ hx1 rfl
 have c1 : w.cell? ⟨bp,off + x.1 * 12 + 1,none⟩ = some (.int .i64 (l.getD x.1 Qx).a.y):=by simpa [Qu] using hc x.1 1 _ hx1 rfl
 have c2 : w.cell? ⟨bp,off + x.1 * 12 + 2,none⟩ = some (.int .i64 (l.getD x.1 Qx).a.m):=by simpa [Qu] using hc x.1 2 _ hx1 rfl
 have c3 : w.cell? ⟨bp,off + x.1 * 12 + 3,none⟩ = some (.bool (l.getD x.1 Qx).a.s):=by simpa [Qu] using hc x.1 3 _ hx1 rfl
 have c4 : w.cell? ⟨bp,off + x.1 * 12 + 4,none⟩ = some (.int .i64 (l.getD x.1 Qx).a.d):=by simpa [Qu] using hc x.1 4 _ hx1 rfl
 have c5 : w.cell? ⟨bp,off + x.1 * 12 + 5,none⟩ = some (.int .i64 (l.getD x.1 Qx).b.y):=by simpa [Qu] using hc x.1 5 _ hx1 rfl
 have c6 : w.cell? ⟨bp,off + x.1 * 12 + 6,none⟩ = some (.int .i64 (l.getD x.1 Qx).b.m):=by simpa [Qu] using hc x.1 6 _ hx1 rfl
 have c7 : w.cell? ⟨bp,off + x.1 * 12 + 7,none⟩ = some (.bool (l.getD x.1 Qx).b.s):=by simpa [Qu] using hc x.1 7 _ hx1 rfl
 have c8 : w.cell? ⟨bp,off + x.1 * 12 + 8,none⟩ = some (.int .i64 (l.getD x.1 Qx).b.d):=by simpa [Qu] using hc x.1 8 _ hx1 rfl
 have c9 : w.cell? ⟨bp,off + x.1 * 12 + 9,none⟩ = some (vo x.1):=by simpa [Qu] using hc x.1 9 _ hx1 rfl
 have c10 : w.cell? ⟨bp,off + x.1 * 12 + 10,none⟩ = some (vd x.1):=by simpa [Qu] using hc x.1 10 _ hx1 rfl
 have c11 : w.cell? ⟨bp,off + x.1 * 12 + 11,none⟩ = some (vc x.1):=by simpa [Qu] using hc x.1 11 _ hx1 rfl
 have d0 : w.cell? ⟨bp,off + y.1 * 12,none⟩ = some (.string (l.getD y.1 Qx).h):=by simpa [Qu] using hc y.1 0 _ hy1 rfl
 have d1 : w.cell? ⟨bp,off + y.1 * 12 + 1,none⟩ = some (.int .i64 (l.getD y.1 Qx).a.y):=by simpa [Qu] using hc y.1 1 _ hy1 rfl
 have d2 : w.cell? ⟨bp,off + y.1 * 12 + 2,none⟩ = some (.int .i64 (l.getD y.1 Qx).a.m):=by simpa [Qu] using hc y.1 2 _ hy1 rfl
 have d3 : w.cell? ⟨bp,off + y.1 * 12 + 3,none⟩ = some (.bool (l.getD y.1 Qx).a.s):=by simpa [Qu] using hc y.1 3 _ hy1 rfl
 have d4 : w.cell? ⟨bp,off + y.1 * 12 + 4,none⟩ = some (.int .i64 (l.getD y.1 Qx).a.d):=by simpa [Qu] using hc y.1 4 _ hy1 rfl
 have d5 : w.cell? ⟨bp,off + y.1 * 12 + 5,none⟩ = some (.int .i64 (l.getD y.1 Qx).b.y):=by simpa [Qu] using hc y.1 5 _ hy1 rfl
 have d6 : w.cell? ⟨bp,off + y.1 * 12 + 6,none⟩ = some (.int .i64 (l.getD y.1 Qx).b.m):=by simpa [Qu] using hc y.1 6 _ hy1 rfl
 have d7 : w.cell? ⟨bp,off + y.1 * 12 + 7,none⟩ = some (.bool (l.getD y.1 Qx).b.s):=by simpa [Qu] using hc y.1 7 _ hy1 rfl
 have d8 : w.cell? ⟨bp,off + y.1 * 12 + 8,none⟩ = some (.int .i64 (l.getD y.1 Qx).b.d):=by simpa [Qu] using hc y.1 8 _ hy1 rfl
 have d9 : w.cell? ⟨bp,off + y.1 * 12 + 9,none⟩ = some (vo y.1):=by simpa [Qu] using hc y.1 9 _ hy1 rfl
 have d10 : w.cell? ⟨bp,off + y.1 * 12 + 10,none⟩ = some (vd y.1):=by simpa [Qu] using hc y.1 10 _ hy1 rfl
 have d11 : w.cell? ⟨bp,off + y.1 * 12 + 11,none⟩ = some (vc y.1):=by simpa [Qu] using hc y.1 11 _ hy1 rfl
 rw [e1] at c10;rw [e2] at d10;rw [eo1] at c9;rw [ec1] at c11;rw [eo2] at d9;rw [ec2] at d11;clear hc hD hcap hmax e1 e2 eo1 ec1 eo2 ec2;generalize (l.getD x.1 Qx).o.length = xol at *;generalize (l.getD x.1 Qx).c.length = xcl at *;generalize (l.getD y.1 Qx).o.length = yol at *;generalize (l.getD y.1 Qx).c.length = ycl at *;obtain ⟨bd1,od1,rfl,hb1,hc1⟩:=hT1 (by omega);have f0 : w.cell? ⟨bd1,od1 + x.2 * 7,none⟩ = some (.int .i64 (Q0 l x).on.y):=by simpa [Qz,Q0] using hc1 x.2 0 _ hx2 rfl
 have f1 : w.cell? ⟨bd1,od1 + x.2 * 7 + 1,none⟩ = some (.int .i64 (Q0 l x).on.m):=by simpa [Qz,Q0] using hc1 x.2 1 _ hx2 rfl
 have f2 : w.cell? ⟨bd1,od1 + x.2 * 7 + 2,none⟩ = some (.bool (Q0 l x).on.s):=by simpa [Qz,Q0] using hc1 x.2 2 _ hx2 rfl
 have f3 : w.cell? ⟨bd1,od1 + x.2 * 7 + 3,none⟩ = some (.int .i64 (Q0 l x).on.d):=by simpa [Qz,Q0] using hc1 x.2 3 _ hx2 rfl
 have f4 : w.cell? ⟨bd1,od1 + x.2 * 7 + 4,none⟩ = some (.bool (Q0 l x).i):=by simpa [Qz,Q0] using hc1 x.2 4 _ hx2 rfl
 have f5 : w.cell? ⟨bd1,od1 + x.2 * 7 + 5,none⟩ = some (.string (Q0 l x).w):=by simpa [Qz,Q0] using hc1 x.2 5 _ hx2 rfl
 have f6':=hc1 x.2 6 (vs1 x.2) hx2 rfl;have L1 : Zz w (vs1 x.2) (Q0 l x).l:=hatT1 x.2 hx2;obtain ⟨F1,m1,hv1,_⟩:=id L1;rw [hv1] at L1
 have f6 : w.cell? ⟨bd1,od1 + x.2 * 7 + 6,none⟩ = some (.slice F1 (Q0 l x).l.length m1):=by
  rw [hv1] at f6';exact f6'
 clear f6' hv1 hc1;obtain ⟨bd2,od2,rfl,hb2,hc2⟩:=hT2 (by omega);have g0 : w.cell? ⟨bd2,od2 + y.2 * 7,none⟩ = some (.int .i64 (Q0 l y).on.y):=by simpa [Qz,Q0] using hc2 y.2 0 _ hy2 rfl
 have g1 : w.cell? ⟨bd2,od2 + y.2 * 7 + 1,none⟩ = some (.int .i64 (Q0 l y).on.m):=by simpa [Qz,Q0] using hc2 y.2 1 _ hy2 rfl
 have g2 : w.cell? ⟨bd2,od2 + y.2 * 7 + 2,none⟩ = some (.bool (Q0 l y).on.s):=by simpa [Qz,Q0] using hc2 y.2 2 _ hy2 rfl
 have g3 : w.cell? ⟨bd2,od2 + y.2 * 7 + 3,none⟩ = some (.int .i64 (Q0 l y).on.d):=by simpa [Qz,Q0] using hc2 y.2 3 _ hy2 rfl
 have g4 : w.cell? ⟨bd2,od2 + y.2 * 7 + 4,none⟩ = some (.bool (Q0 l y).i):=by simpa [Qz,Q0] using hc2 y.2 4 _ hy2 rfl
 have g5 : w.cell? ⟨bd2,od2 + y.2 * 7 + 5,none⟩ = some (.string (Q0 l y).w):=by simpa [Qz,Q0] using hc2 y.2 5 _ hy2 rfl
 have g6':=hc2 y.2 6 (vs2 y.2) hy2 rfl;have L2 : Zz w (vs2 y.2) (Q0 l y).l:=hatT2 y.2 hy2;obtain ⟨F2,m2,hv2,_⟩:=id L2;rw [hv2] at L2
 have g6 : w.cell? ⟨bd2,od2 + y.2 * 7 + 6,none⟩ = some (.slice F2 (Q0 l y).l.length m2):=by
  rw [hv2] at g6';exact g6'
 clear g6' hv2 hc2;obtain ⟨RB,hRB⟩:=Qg (c.mayR l days x y);rw [← hRB];unfold Qf.mayR at hRB;have hA1:=hA.b;have hAC:=hA.C;clear hA hat hatT1 hatT2;generalize hX : Q0 l x = GX at *;generalize hY : Q0 l y = GY at *;clear hX hY;obtain ⟨n1,hn1⟩:=Qg ((l.getD x.1 Qx).d.length);obtain ⟨n2,hn2⟩:=Qg ((l.getD y.1 Qx).d.length);rw [← hn1] at c10 hx2 hT1;rw [← hn2] at d10 hy2 hT2;clear hT1 hT2 hn1 hn2;generalize l.getD x.1 Qx = px at *;generalize l.getD y.1 Qx = py at *;generalize l.length = nl at *;obtain ⟨x1,x2⟩:=x;obtain ⟨y1,y2⟩:=y
 simp only at *
 replace hRB:=Lib.hid hRB
 go_enter Tryz.func84,Tryz.ntmps84
 go_upto_region 1 with (fail)
 obtain ⟨v,hv⟩:=Qg ((w.alloc (.cells #[.int .i64 (x1 : Nat),.int .i64 (x2 : Nat)] 33)).alloc (.cells #[.int .i64 (y1 : Nat),.int .i64 (y2 : Nat)] 33));rw [← hv];have E : Qb w v:=by rw [hv];exact ((Qb.refl _).alloc _).alloc _
 have B1 : Qa v w.heap.size 33 #[.int .i64 (x1 : Nat),.int .i64 (x2 : Nat)]:=by rw [hv];exact (Qa.new _ _ _).alloc _
 have B2 : Qa v (w.heap.size + 1) 33 #[.int .i64 (y1 : Nat),.int .i64 (y2 : Nat)]:=by rw [hv];exact Qa.at _ _ _ _ (by simp)
 clear hv;obtain ⟨b2,hb2⟩:=Qg (w.heap.size + 1);rw [← hb2] at B2 ⊢;obtain ⟨b1,hb1⟩:=Qg (w.heap.size);rw [← hb1] at B1 ⊢;have hbr : w.heap.size ≤ b2:=by omega
 have hbr1 : w.heap.size ≤ b1:=by omega
 have hn21 : b2 ≠ b1:=by omega
 clear hb1 hb2;have HA:=hA1.ext E;go_upto_region 1 with (fail)
 try clear k0
 apply W8 (S:=fun w' p1 p2 => Qb v w' ∧ Qa w' p1 55 #[.string px.h,.int .i64 px.a.y,.int .i64 px.a.m,.bool px.a.s,.int .i64 px.a.d,.int .i64 px.b.y,.int .i64 px.b.m,.bool px.b.s,.int .i64 px.b.d,.slice XO1 xol xq1,.slice (some ⟨bd1,od1,none⟩) n1 k1,.slice XC1 xcl xs1] ∧ Qa w' p2 55 #[.string py.h,.int .i64 py.a.y,.int .i64 py.a.m,.bool py.a.s,.int .i64 py.a.d,.int .i64 py.b.y,.int .i64 py.b.m,.bool py.b.s,.int .i64 py.b.d,.slice YO1 yol yq1,.slice (some ⟨bd2,od2,none⟩) n2 k2,.slice YC1 ycl ys1])
 ·refine Zb 20 [19] (fun x => Qb v x) Qo rfl ?_;intro vz hvz;have HC:=hvz;refine Qs (g:=4) [0,1,2,3,4,5,6,7,8,9,10,11,12,13,14,15] [_,_,_,_,_,_,_,_,_,_,_,_,_,_,_,_] ⟨rfl,rfl,rfl,rfl,rfl,rfl,rfl,rfl,rfl,rfl,rfl,rfl,rfl,rfl,rfl,rfl,trivial⟩ (by kernel_rfl) (by kernel_rfl) HC ?_;simp only [Qc,Qd,Qe];apply Exists.intro;refine ⟨fun u hu => ?_,?_⟩
  ·obtain ⟨j0,j1⟩:=Qa.c2 (Qa.ext B1 hu);have jl:=Qa.lt (Qa.ext B1 hu);obtain ⟨l0,l1⟩:=Qa.c2 (Qa.ext B2 hu);have ll:=Qa.lt (Qa.ext B2 hu);obtain ⟨a0,a1,a2,a3⟩:=Qa.c4 (Qa.ext HA hu);have al:=Qa.lt (Qa.ext HA hu);have r0:=((E.trans hu).cell (p:=⟨bp,off + x1 * 12,none⟩) hbp).trans c0;have r1:=((E.trans hu).cell (p:=⟨bp,off + x1 * 12 + 1,none⟩) hbp).trans c1;have r2:=((E.trans hu).cell (p:=⟨bp,off + x1 * 12 + 2,none⟩) hbp).trans c2;have r3:=((E.trans hu).cell (p:=⟨bp,off + x1 * 12 + 3,none⟩) hbp).trans c3;have r4:=((E.trans hu).cell (p:=⟨bp,off + x1 * 12 + 4,none⟩) hbp).trans c4;have r5:=((E.trans hu).cell (p:=⟨bp,off + x1 * 12 + 5,none⟩) hbp).trans c5
   have r6:=((E.trans hu).cell (p:=⟨bp,off + x1 * 12 + 6,none⟩) hbp).trans c6;have r7:=((E.trans hu).cell (p:=⟨bp,off + x1 * 12 + 7,none⟩) hbp).trans c7;have r8:=((E.trans hu).cell (p:=⟨bp,off + x1 * 12 + 8,none⟩) hbp).trans c8;have r9:=((E.trans hu).cell (p:=⟨bp,off + x1 * 12 + 9,none⟩) hbp).trans c9;have r10:=((E.trans hu).cell (p:=⟨bp,off + x1 * 12 + 10,none⟩) hbp).trans c10;have r11:=((E.trans hu).cell (p:=⟨bp,off + x1 * 12 + 11,none⟩) hbp).trans c11;have s0:=((E.trans hu).cell (p:=⟨bp,off + y1 * 12,none⟩) hbp).trans d0;have s1:=((E.trans hu).cell (p:=⟨bp,off + y1 * 12 + 1,none⟩) hbp).trans d1;have s2:=((E.trans hu).cell (p:=⟨bp,off + y1 * 12 + 2,none⟩) hbp).trans d2
   have s3:=((E.trans hu).cell (p:=⟨bp,off + y1 * 12 + 3,none⟩) hbp).trans d3;have s4:=((E.trans hu).cell (p:=⟨bp,off + y1 * 12 + 4,none⟩) hbp).trans d4;have s5:=((E.trans hu).cell (p:=⟨bp,off + y1 * 12 + 5,none⟩) hbp).trans d5;have s6:=((E.trans hu).cell (p:=⟨bp,off + y1 * 12 + 6,none⟩) hbp).trans d6;have s7:=((E.trans hu).cell (p:=⟨bp,off + y1 * 12 + 7,none⟩) hbp).trans d7;have s8:=((E.trans hu).cell (p:=⟨bp,off + y1 * 12 + 8,none⟩) hbp).trans d8;have s9:=((E.trans hu).cell (p:=⟨bp,off + y1 * 12 + 9,none⟩) hbp).trans d9;have s10:=((E.trans hu).cell (p:=⟨bp,off + y1 * 12 + 10,none⟩) hbp).trans d10;have s11:=((E.trans hu).cell (p:=⟨bp,off + y1 * 12 + 11,none⟩) hbp).trans d11
   have hbu:=Nat.lt_of_lt_of_le hbp (E.trans hu).size;repeat (first | go_big_quiet_skip | (go_big_quiet_want;go_big_quiet_op;go_big_quiet_on))
   refine wpQuiet_nil ?_;rfl
  refine Zh 16 17 rfl rfl (by kernel_rfl) ?_ ?_
  ·simp only [Qc, Qd, Qe];go_wp2;obtain ⟨p1, wb, hbq, hwb, H10, HC', hx, gp1⟩ := Qn HC 55 #[.string ⟨#[]⟩, .int .i64 0, .int .i64 0, .bool false, .int .i64 0, .int .i64 0, .int .i64 0, .bool false, .int .i64 0, .slice none 0 0, .slice none 0 0, .slice none 0 0];rw [← hbq, ← hwb];try have ne : p2 < p1 := by have := H11.lt; omega
   replace HC:=HC';try replace H11:=H11.ext hx
   clear hbq hwb hx HC';refine Qh HC ?_;refine Ql 17 rfl (by kernel_rfl) ?_;simp only [Qc,Qd,Qe];go_wp2;obtain ⟨p2,wb,hbq,hwb,H11,HC',hx,gp2⟩:=Qn HC 55 #[.string ⟨#[]⟩,.int .i64 0,.int .i64 0,.bool false,.int .i64 0,.int .i64 0,.int .i64 0,.bool false,.int .i64 0,.slice none 0 0,.slice none 0 0,.slice none 0 0];rw [← hbq,← hwb];try have ne : p1 < p2:=by have:=H10.lt;omega
   replace HC:=HC';try replace H10:=H10.ext hx
   clear hbq hwb hx HC';refine Qh HC ?_;refine Ql 18 rfl (by kernel_rfl) ?_;simp only [Qc,Qd,Qe];obtain ⟨z0,z1,z2,z3,z4,z5,z6,z7,z8,z9,z10,z11⟩:=Qa.f12 H10;obtain ⟨u0,u1,u2,u3,u4,u5,u6,u7,u8,u9,u10,u11⟩:=Qa.c12 H10;have lx:=Qa.lt H10;go_wp2;have Hn:=Ns H10 (.string px.h) (.int .i64 px.a.y) (.int .i64 px.a.m) (.bool px.a.s) (.int .i64 px.a.d) (.int .i64 px.b.y) (.int .i64 px.b.m) (.bool px.b.s) (.int .i64 px.b.d) (.slice XO1 xol xq1) (.slice (some ⟨bd1,od1,none⟩) n1 k1) (.slice XC1 xcl xs1);have On:=Oq H11 (show p2 ≠ p1 by omega) (.string px.h) (.int .i64 px.a.y) (.int .i64 px.a.m) (.bool px.a.s) (.int .i64 px.a.d) (.int .i64 px.b.y) (.int .i64 px.b.m) (.bool px.b.s) (.int .i64 px.b.d) (.slice XO1 xol xq1) (.slice (some ⟨bd1,od1,none⟩) n1 k1) (.slice XC1 xcl xs1)
   replace HC:=Ni HC gp1 (.string px.h) (.int .i64 px.a.y) (.int .i64 px.a.m) (.bool px.a.s) (.int .i64 px.a.d) (.int .i64 px.b.y) (.int .i64 px.b.m) (.bool px.b.s) (.int .i64 px.b.d) (.slice XO1 xol xq1) (.slice (some ⟨bd1,od1,none⟩) n1 k1) (.slice XC1 xcl xs1);clear H10 z0 u0 z1 u1 z2 u2 z3 u3 z4 u4 z5 u5 z6 u6 z7 u7 z8 u8 z9 u9 z10 u10 z11 u11 lx;have H10:=Hn;replace H11:=On;clear Hn On;generalize World.setCell _ _ _ = wq at *;refine Qh HC ?_;refine Qr 19 rfl (by kernel_rfl) ?_;simp only [Qc,Qd,Qe];obtain ⟨z0,z1,z2,z3,z4,z5,z6,z7,z8,z9,z10,z11⟩:=Qa.f12 H11;obtain ⟨u0,u1,u2,u3,u4,u5,u6,u7,u8,u9,u10,u11⟩:=Qa.c12 H11;have lx:=Qa.lt H11
   go_wp2;have Hn:=Ns H11 (.string py.h) (.int .i64 py.a.y) (.int .i64 py.a.m) (.bool py.a.s) (.int .i64 py.a.d) (.int .i64 py.b.y) (.int .i64 py.b.m) (.bool py.b.s) (.int .i64 py.b.d) (.slice YO1 yol yq1) (.slice (some ⟨bd2,od2,none⟩) n2 k2) (.slice YC1 ycl ys1);have On:=Oq H10 (show p1 ≠ p2 by omega) (.string py.h) (.int .i64 py.a.y) (.int .i64 py.a.m) (.bool py.a.s) (.int .i64 py.a.d) (.int .i64 py.b.y) (.int .i64 py.b.m) (.bool py.b.s) (.int .i64 py.b.d) (.slice YO1 yol yq1) (.slice (some ⟨bd2,od2,none⟩) n2 k2) (.slice YC1 ycl ys1);replace HC:=Ni HC gp2 (.string py.h) (.int .i64 py.a.y) (.int .i64 py.a.m) (.bool py.a.s) (.int .i64 py.a.d) (.int .i64 py.b.y) (.int .i64 py.b.m) (.bool py.b.s) (.int .i64 py.b.d) (.slice YO1 yol yq1) (.slice (some ⟨bd2,od2,none⟩) n2 k2) (.slice YC1 ycl ys1)
   clear H11 z0 u0 z1 u1 z2 u2 z3 u3 z4 u4 z5 u5 z6 u6 z7 u7 z8 u8 z9 u9 z10 u10 z11 u11 lx;have H11:=Hn;replace H10:=On;clear Hn On;generalize World.setCell _ _ _ = wq at *;refine Qq ?_;refine Qv (by kernel_rfl) ?_;exact Ja p1 p2 ⟨HC,H10,H11⟩ rfl
  ·simp only [Qc, Qd, Qe];go_wp2;obtain ⟨p2, wb, hbq, hwb, H11, HC', hx, gp2⟩ := Qn HC 55 #[.string ⟨#[]⟩, .int .i64 0, .int .i64 0, .bool false, .int .i64 0, .int .i64 0, .int .i64 0, .bool false, .int .i64 0, .slice none 0 0, .slice none 0 0, .slice none 0 0];rw [← hbq, ← hwb];try have ne : p1 < p2 := by have := H10.lt; omega
   replace HC:=HC';try replace H10:=H10.ext hx
   clear hbq hwb hx HC';refine Qh HC ?_;refine Ql 16 rfl (by kernel_rfl) ?_;simp only [Qc,Qd,Qe];go_wp2;obtain ⟨p1,wb,hbq,hwb,H10,HC',hx,gp1⟩:=Qn HC 55 #[.string ⟨#[]⟩,.int .i64 0,.int .i64 0,.bool false,.int .i64 0,.int .i64 0,.int .i64 0,.bool false,.int .i64 0,.slice none 0 0,.slice none 0 0,.slice none 0 0];rw [← hbq,← hwb];try have ne : p2 < p1:=by have:=H11.lt;omega
   replace HC:=HC';try replace H11:=H11.ext hx
   clear hbq hwb hx HC';refine Qh HC ?_;refine Ql 18 rfl (by kernel_rfl) ?_;simp only [Qc,Qd,Qe];obtain ⟨z0,z1,z2,z3,z4,z5,z6,z7,z8,z9,z10,z11⟩:=Qa.f12 H10;obtain ⟨u0,u1,u2,u3,u4,u5,u6,u7,u8,u9,u10,u11⟩:=Qa.c12 H10;have lx:=Qa.lt H10;go_wp2;have Hn:=Ns H10 (.string px.h) (.int .i64 px.a.y) (.int .i64 px.a.m) (.bool px.a.s) (.int .i64 px.a.d) (.int .i64 px.b.y) (.int .i64 px.b.m) (.bool px.b.s) (.int .i64 px.b.d) (.slice XO1 xol xq1) (.slice (some ⟨bd1,od1,none⟩) n1 k1) (.slice XC1 xcl xs1);have On:=Oq H11 (show p2 ≠ p1 by omega) (.string px.h) (.int .i64 px.a.y) (.int .i64 px.a.m) (.bool px.a.s) (.int .i64 px.a.d) (.int .i64 px.b.y) (.int .i64 px.b.m) (.bool px.b.s) (.int .i64 px.b.d) (.slice XO1 xol xq1) (.slice (some ⟨bd1,od1,none⟩) n1 k1) (.slice XC1 xcl xs1)
   replace HC:=Ni HC gp1 (.string px.h) (.int .i64 px.a.y) (.int .i64 px.a.m) (.bool px.a.s) (.int .i64 px.a.d) (.int .i64 px.b.y) (.int .i64 px.b.m) (.bool px.b.s) (.int .i64 px.b.d) (.slice XO1 xol xq1) (.slice (some ⟨bd1,od1,none⟩) n1 k1) (.slice XC1 xcl xs1);clear H10 z0 u0 z1 u1 z2 u2 z3 u3 z4 u4 z5 u5 z6 u6 z7 u7 z8 u8 z9 u9 z10 u10 z11 u11 lx;have H10:=Hn;replace H11:=On;clear Hn On;generalize World.setCell _ _ _ = wq at *;refine Qh HC ?_;refine Qr 19 rfl (by kernel_rfl) ?_;simp only [Qc,Qd,Qe];obtain ⟨z0,z1,z2,z3,z4,z5,z6,z7,z8,z9,z10,z11⟩:=Qa.f12 H11;obtain ⟨u0,u1,u2,u3,u4,u5,u6,u7,u8,u9,u10,u11⟩:=Qa.c12 H11;have lx:=Qa.lt H11
   go_wp2;have Hn:=Ns H11 (.string py.h) (.int .i64 py.a.y) (.int .i64 py.a.m) (.bool py.a.s) (.int .i64 py.a.d) (.int .i64 py.b.y) (.int .i64 py.b.m) (.bool py.b.s) (.int .i64 py.b.d) (.slice YO1 yol yq1) (.slice (some ⟨bd2,od2,none⟩) n2 k2) (.slice YC1 ycl ys1);have On:=Oq H10 (show p1 ≠ p2 by omega) (.string py.h) (.int .i64 py.a.y) (.int .i64 py.a.m) (.bool py.a.s) (.int .i64 py.a.d) (.int .i64 py.b.y) (.int .i64 py.b.m) (.bool py.b.s) (.int .i64 py.b.d) (.slice YO1 yol yq1) (.slice (some ⟨bd2,od2,none⟩) n2 k2) (.slice YC1 ycl ys1);replace HC:=Ni HC gp2 (.string py.h) (.int .i64 py.a.y) (.int .i64 py.a.m) (.bool py.a.s) (.int .i64 py.a.d) (.int .i64 py.b.y) (.int .i64 py.b.m) (.bool py.b.s) (.int .i64 py.b.d) (.slice YO1 yol yq1) (.slice (some ⟨bd2,od2,none⟩) n2 k2) (.slice YC1 ycl ys1)
   clear H11 z0 u0 z1 u1 z2 u2 z3 u3 z4 u4 z5 u5 z6 u6 z7 u7 z8 u8 z9 u9 z10 u10 z11 u11 lx;have H11:=Hn;replace H10:=On;clear Hn On;generalize World.setCell _ _ _ = wq at *;refine Qq ?_;refine Qv (by kernel_rfl) ?_;exact Ja p1 p2 ⟨HC,H10,H11⟩ rfl
 rintro p1 p2 w1 ⟨h1,PX,PY⟩;clear c0 d0 c1 d1 c2 d2 c3 d3 c4 d4 c5 d5 c6 d6 c7 d7 c8 d8 c9 d9 c10 d10 c11 d11 hbp;replace E:=E.trans h1;replace B1:=B1.ext h1;replace B2:=B2.ext h1;replace HA:=HA.ext h1;clear h1;go_upto_region 2 with (fail)
 apply W8 (S:=fun w' p3 p4 => Qb w1 w' ∧ Qa w' p3 57 #[.int .i64 GX.on.y,.int .i64 GX.on.m,.bool GX.on.s,.int .i64 GX.on.d,.bool GX.i,.string GX.w,.slice F1 GX.l.length m1] ∧ Qa w' p4 57 #[.int .i64 GY.on.y,.int .i64 GY.on.m,.bool GY.on.s,.int .i64 GY.on.d,.bool GY.i,.string GY.w,.slice F2 GY.l.length m2])
 ·refine Zb 16 [15] (fun x => Qb w1 x) Qo rfl ?_;intro vz hvz;have HC:=hvz;refine Qs (g:=4) [0,1,2,3,4,5,6,7,8,9,10,11] [_,_,_,_,_,_,_,_,_,_,_,_] ⟨rfl,rfl,rfl,rfl,rfl,rfl,rfl,rfl,rfl,rfl,rfl,rfl,trivial⟩ (by kernel_rfl) (by kernel_rfl) HC ?_;simp only [Qc,Qd,Qe];apply Exists.intro;refine ⟨fun u hu => ?_,?_⟩
  ·obtain ⟨j0,j1⟩:=Qa.c2 (Qa.ext B1 hu);have jl:=Qa.lt (Qa.ext B1 hu);obtain ⟨l0,l1⟩:=Qa.c2 (Qa.ext B2 hu);have ll:=Qa.lt (Qa.ext B2 hu);obtain ⟨a0,a1,a2,a3⟩:=Qa.c4 (Qa.ext HA hu);have al:=Qa.lt (Qa.ext HA hu);obtain ⟨x0',x1',x2',x3',x4',x5',x6',x7',x8',x9',x10',x11'⟩:=Qa.c12 (Qa.ext PX hu);have xl:=Qa.lt (Qa.ext PX hu);obtain ⟨y0',y1',y2',y3',y4',y5',y6',y7',y8',y9',y10',y11'⟩:=Qa.c12 (Qa.ext PY hu);have yl:=Qa.lt (Qa.ext PY hu);have r0:=((E.trans hu).cell (p:=⟨bd1,od1 + x2 * 7,none⟩) hb1).trans f0;have r1:=((E.trans hu).cell (p:=⟨bd1,od1 + x2 * 7 + 1,none⟩) hb1).trans f1;have r2:=((E.trans hu).cell (p:=⟨bd1,od1 + x2 * 7 + 2,none⟩) hb1).trans f2
   have r3:=((E.trans hu).cell (p:=⟨bd1,od1 + x2 * 7 + 3,none⟩) hb1).trans f3;have r4:=((E.trans hu).cell (p:=⟨bd1,od1 + x2 * 7 + 4,none⟩) hb1).trans f4;have r5:=((E.trans hu).cell (p:=⟨bd1,od1 + x2 * 7 + 5,none⟩) hb1).trans f5;have r6:=((E.trans hu).cell (p:=⟨bd1,od1 + x2 * 7 + 6,none⟩) hb1).trans f6;have s0:=((E.trans hu).cell (p:=⟨bd2,od2 + y2 * 7,none⟩) hb2).trans g0;have s1:=((E.trans hu).cell (p:=⟨bd2,od2 + y2 * 7 + 1,none⟩) hb2).trans g1;have s2:=((E.trans hu).cell (p:=⟨bd2,od2 + y2 * 7 + 2,none⟩) hb2).trans g2;have s3:=((E.trans hu).cell (p:=⟨bd2,od2 + y2 * 7 + 3,none⟩) hb2).trans g3;have s4:=((E.trans hu).cell (p:=⟨bd2,od2 + y2 * 7 + 4,none⟩) hb2).trans g4
   have s5:=((E.trans hu).cell (p:=⟨bd2,od2 + y2 * 7 + 5,none⟩) hb2).trans g5;have s6:=((E.trans hu).cell (p:=⟨bd2,od2 + y2 * 7 + 6,none⟩) hb2).trans g6;have hbu:=Nat.lt_of_lt_of_le hb1 (E.trans hu).size;have hbu':=Nat.lt_of_lt_of_le hb2 (E.trans hu).size;repeat (first | go_big_quiet_skip | (go_big_quiet_want;go_big_quiet_op;go_big_quiet_on))
   refine wpQuiet_nil ?_;rfl
  refine Zh 12 13 rfl rfl (by kernel_rfl) ?_ ?_
  ·simp only [Qc, Qd, Qe];go_wp2;obtain ⟨p3, wb, hbq, hwb, H10, HC', hx, gp3⟩ := Qn HC 57 #[.int .i64 0, .int .i64 0, .bool false, .int .i64 0, .bool false, .string ⟨#[]⟩, .slice none 0 0];rw [← hbq, ← hwb];try have ne : p4 < p3 := by have := H11.lt; omega
   replace HC:=HC';try replace H11:=H11.ext hx
   clear hbq hwb hx HC';refine Qh HC ?_;refine Ql 13 rfl (by kernel_rfl) ?_;simp only [Qc,Qd,Qe];go_wp2;obtain ⟨p4,wb,hbq,hwb,H11,HC',hx,gp4⟩:=Qn HC 57 #[.int .i64 0,.int .i64 0,.bool false,.int .i64 0,.bool false,.string ⟨#[]⟩,.slice none 0 0];rw [← hbq,← hwb];try have ne : p3 < p4:=by have:=H10.lt;omega
   replace HC:=HC';try replace H10:=H10.ext hx
   clear hbq hwb hx HC';refine Qh HC ?_;refine Ql 14 rfl (by kernel_rfl) ?_;simp only [Qc,Qd,Qe];have z0:=Qa.frozen H10 0;have z1:=Qa.frozen H10 1;have z2:=Qa.frozen H10 2;have z3:=Qa.frozen H10 3;have z4:=Qa.frozen H10 4;have z5:=Qa.frozen H10 5;have z6:=Qa.frozen H10 6;obtain ⟨u0,u1,u2,u3,u4,u5,u6⟩:=Q4 H10;have lx:=Qa.lt H10;go_wp2;have Hn:=V9 H10 (.int .i64 GX.on.y) (.int .i64 GX.on.m) (.bool GX.on.s) (.int .i64 GX.on.d) (.bool GX.i) (.string GX.w) (.slice F1 GX.l.length m1);have On:=Ug H11 (show p4 ≠ p3 by omega) (.int .i64 GX.on.y) (.int .i64 GX.on.m) (.bool GX.on.s) (.int .i64 GX.on.d) (.bool GX.i) (.string GX.w) (.slice F1 GX.l.length m1)
   replace HC:=V4 HC gp3 (.int .i64 GX.on.y) (.int .i64 GX.on.m) (.bool GX.on.s) (.int .i64 GX.on.d) (.bool GX.i) (.string GX.w) (.slice F1 GX.l.length m1);clear H10 z0 z1 z2 z3 z4 z5 z6 u0 u1 u2 u3 u4 u5 u6 lx;have H10:=Hn;replace H11:=On;clear Hn On;generalize World.setCell _ _ _ = wq at *;refine Qh HC ?_;refine Qr 15 rfl (by kernel_rfl) ?_;simp only [Qc,Qd,Qe];have z0:=Qa.frozen H11 0;have z1:=Qa.frozen H11 1;have z2:=Qa.frozen H11 2;have z3:=Qa.frozen H11 3;have z4:=Qa.frozen H11 4;have z5:=Qa.frozen H11 5;have z6:=Qa.frozen H11 6;obtain ⟨u0,u1,u2,u3,u4,u5,u6⟩:=Q4 H11;have lx:=Qa.lt H11;go_wp2;have Hn:=V9 H11 (.int .i64 GY.on.y) (.int .i64 GY.on.m) (.bool GY.on.s) (.int .i64 GY.on.d) (.bool GY.i) (.string GY.w) (.slice F2 GY.l.length m2)
   have On:=Ug H10 (show p3 ≠ p4 by omega) (.int .i64 GY.on.y) (.int .i64 GY.on.m) (.bool GY.on.s) (.int .i64 GY.on.d) (.bool GY.i) (.string GY.w) (.slice F2 GY.l.length m2);replace HC:=V4 HC gp4 (.int .i64 GY.on.y) (.int .i64 GY.on.m) (.bool GY.on.s) (.int .i64 GY.on.d) (.bool GY.i) (.string GY.w) (.slice F2 GY.l.length m2);clear H11 z0 z1 z2 z3 z4 z5 z6 u0 u1 u2 u3 u4 u5 u6 lx;have H11:=Hn;replace H10:=On;clear Hn On;generalize World.setCell _ _ _ = wq at *;refine Qq ?_;refine Qv (by kernel_rfl) ?_;exact Ja p3 p4 ⟨HC,H10,H11⟩ rfl
  ·simp only [Qc, Qd, Qe];go_wp2;obtain ⟨p4, wb, hbq, hwb, H11, HC', hx, gp4⟩ := Qn HC 57 #[.int .i64 0, .int .i64 0, .bool false, .int .i64 0, .bool false, .string ⟨#[]⟩, .slice none 0 0];rw [← hbq, ← hwb];try have ne : p3 < p4 := by have := H10.lt; omega
   replace HC:=HC';try replace H10:=H10.ext hx
   clear hbq hwb hx HC';refine Qh HC ?_;refine Ql 12 rfl (by kernel_rfl) ?_;simp only [Qc,Qd,Qe];go_wp2;obtain ⟨p3,wb,hbq,hwb,H10,HC',hx,gp3⟩:=Qn HC 57 #[.int .i64 0,.int .i64 0,.bool false,.int .i64 0,.bool false,.string ⟨#[]⟩,.slice none 0 0];rw [← hbq,← hwb];try have ne : p4 < p3:=by have:=H11.lt;omega
   replace HC:=HC';try replace H11:=H11.ext hx
   clear hbq hwb hx HC';refine Qh HC ?_;refine Ql 14 rfl (by kernel_rfl) ?_;simp only [Qc,Qd,Qe];have z0:=Qa.frozen H10 0;have z1:=Qa.frozen H10 1;have z2:=Qa.frozen H10 2;have z3:=Qa.frozen H10 3;have z4:=Qa.frozen H10 4;have z5:=Qa.frozen H10 5;have z6:=Qa.frozen H10 6;obtain ⟨u0,u1,u2,u3,u4,u5,u6⟩:=Q4 H10;have lx:=Qa.lt H10;go_wp2;have Hn:=V9 H10 (.int .i64 GX.on.y) (.int .i64 GX.on.m) (.bool GX.on.s) (.int .i64 GX.on.d) (.bool GX.i) (.string GX.w) (.slice F1 GX.l.length m1);have On:=Ug H11 (show p4 ≠ p3 by omega) (.int .i64 GX.on.y) (.int .i64 GX.on.m) (.bool GX.on.s) (.int .i64 GX.on.d) (.bool GX.i) (.string GX.w) (.slice F1 GX.l.length m1)
   replace HC:=V4 HC gp3 (.int .i64 GX.on.y) (.int .i64 GX.on.m) (.bool GX.on.s) (.int .i64 GX.on.d) (.bool GX.i) (.string GX.w) (.slice F1 GX.l.length m1);clear H10 z0 z1 z2 z3 z4 z5 z6 u0 u1 u2 u3 u4 u5 u6 lx;have H10:=Hn;replace H11:=On;clear Hn On;generalize World.setCell _ _ _ = wq at *;refine Qh HC ?_;refine Qr 15 rfl (by kernel_rfl) ?_;simp only [Qc,Qd,Qe];have z0:=Qa.frozen H11 0;have z1:=Qa.frozen H11 1;have z2:=Qa.frozen H11 2;have z3:=Qa.frozen H11 3;have z4:=Qa.frozen H11 4;have z5:=Qa.frozen H11 5;have z6:=Qa.frozen H11 6;obtain ⟨u0,u1,u2,u3,u4,u5,u6⟩:=Q4 H11;have lx:=Qa.lt H11;go_wp2;have Hn:=V9 H11 (.int .i64 GY.on.y) (.int .i64 GY.on.m) (.bool GY.on.s) (.int .i64 GY.on.d) (.bool GY.i) (.string GY.w) (.slice F2 GY.l.length m2)
   have On:=Ug H10 (show p3 ≠ p4 by omega) (.int .i64 GY.on.y) (.int .i64 GY.on.m) (.bool GY.on.s) (.int .i64 GY.on.d) (.bool GY.i) (.string GY.w) (.slice F2 GY.l.length m2);replace HC:=V4 HC gp4 (.int .i64 GY.on.y) (.int .i64 GY.on.m) (.bool GY.on.s) (.int .i64 GY.on.d) (.bool GY.i) (.string GY.w) (.slice F2 GY.l.length m2);clear H11 z0 z1 z2 z3 z4 z5 z6 u0 u1 u2 u3 u4 u5 u6 lx;have H11:=Hn;replace H10:=On;clear Hn On;generalize World.setCell _ _ _ = wq at *;refine Qq ?_;refine Qv (by kernel_rfl) ?_;exact Ja p3 p4 ⟨HC,H10,H11⟩ rfl
 rintro p3 p4 w2 ⟨h2,BX,BY⟩;clear f0 g0 f1 g1 f2 g2 f3 g3 f4 g4 f5 g5 f6 g6 hb1 hb2;replace E:=E.trans h2;replace HA:=HA.ext h2;replace PX:=PX.ext h2;replace PY:=PY.ext h2;replace L1:=L1.ext E;replace L2:=L2.ext E;have C:=hAC.ext E;clear h2 B1 B2;obtain ⟨r0,r1,r2,r3,r4,r5,r6⟩:=Q4 BX;have rl:=Qa.lt BX;obtain ⟨s0,s1,s2,s3,s4,s5,s6⟩:=Q4 BY;have sl:=Qa.lt BY;obtain ⟨a0,a1,a2,a3⟩:=Qa.c4 HA;have al:=Qa.lt HA;have NX:=ND GX.on;have NY:=ND GY.on;clear ND;generalize c.numV GX.on = nx at *;generalize c.numV GY.on = ny at *;go_upto_region 3 with (fail)
 refine Zd w2 Qo (by kernel_rfl) (by repeat (first | exact Qb.refl _ | (refine Qb.alloc ?_ _) | (refine Qb.trans ?_ (by assumption)))) ?_;intro hne hrx hry;try simp only []
 try simp only [List.append_eq,List.cons_append,List.nil_append]
 skip
 repeat (first
  | go_big_quiet_skip
  | (go_big_quiet_want;go_big_quiet_op;go_big_quiet_on)
  | (go_big_quiet_want;go_big_quiet_op;apply Exists.intro;refine ⟨fun u => ?_,?_⟩
     ·first
       | (go_at_call 105;(with_reducible refine Calls.mono (NX _ (C.ext u.e)) ?_);rintro e w' ⟨rfl,hb⟩;exact ⟨rfl,u.back hb⟩)
       | (go_at_call 105;(with_reducible refine Calls.mono (NY _ (C.ext u.e)) ?_);rintro e w' ⟨rfl,hb⟩;exact ⟨rfl,u.back hb⟩)
     go_big_quiet_on))
 clear hne hry hrx;refine wpQuiet_nil ?_;intro w3 h3;obtain ⟨hcw3,hfw3,hzw3⟩:=Qb.rules h3;try simp only [World.size_alloc] at hzw3
 obtain ⟨hcbw3,hfbw3,hzbw3⟩:=Qb.rules (show Qb w2 w3 from (by repeat (first | exact Qb.refl _ | (refine Qb.alloc ?_ _) | (refine Qb.trans ?_ (by assumption)))));clear hcw3 hfw3;replace E:=E.trans h3;replace HA:=HA.ext h3;replace PX:=PX.ext h3;replace PY:=PY.ext h3;replace BX:=BX.ext h3;replace BY:=BY.ext h3;replace L1:=L1.ext h3;replace L2:=L2.ext h3;clear NX NY C r0 r1 r2 r3 r4 r5 r6 rl s0 s1 s2 s3 s4 s5 s6 sl a0 a1 a2 a3 al h3;go_upto_region 4 with (fail)
 obtain ⟨r0,r1,r2,r3,r4,r5,r6⟩:=Q4 BX;have rl:=Qa.lt BX;obtain ⟨s0,s1,s2,s3,s4,s5,s6⟩:=Q4 BY;have sl:=Qa.lt BY;obtain ⟨a0,a1,a2,a3⟩:=Qa.c4 HA;have al:=Qa.lt HA;obtain ⟨x0',x1',x2',x3',x4',x5',x6',x7',x8',x9',x10',x11'⟩:=Qa.c12 PX;have xl:=Qa.lt PX;obtain ⟨y0',y1',y2',y3',y4',y5',y6',y7',y8',y9',y10',y11'⟩:=Qa.c12 PY;have yl:=Qa.lt PY;have NE:=fun w h1 h2 => Qh3 (.slice F1 GX.l.length m1) (.slice F2 GY.l.length m2) GX.l GY.l w h1 h2
 by_cases g1 : px.h = py.h
 ·have t1 : (px.h.toList == py.h.toList) = true := by rw [g1]; exact beq_self_eq_true _
  have t1n : (px.h.toList != py.h.toList) = false:=by rw [bne,t1];rfl
  obtain rfl : RB = false:=by
   rw [hRB.out];rw [decide_eq_true g1];rfl
  clear hRB g1;go_wp2;go_ret;exact ⟨rfl,E⟩
 have t1 : (px.h.toList == py.h.toList) = false:=beq_eq_false_iff_ne.2 fun h => g1 (Vr h)
 have t1n : (px.h.toList != py.h.toList) = true:=by rw [bne,t1];rfl
 replace g1:=Lib.hid g1;by_cases g2 : GX.w = py.h;rotate_left
 ·have t : (GX.w.toList == py.h.toList) = false:=beq_eq_false_iff_ne.2 fun h => g2 (Vr h)
  obtain rfl : RB = false:=by
   rw [hRB.out];simp only [decide_eq_false g2,Bool.and_false,Bool.false_and]
  clear hRB g2;go_wp2;go_ret;exact ⟨rfl,E⟩
 have tg2 : (GX.w.toList == py.h.toList) = true:=by rw [g2];exact beq_self_eq_true _
 replace g2:=Lib.hid g2;by_cases g3 : GY.w = px.h;rotate_left
 ·have t : (GY.w.toList == px.h.toList) = false:=beq_eq_false_iff_ne.2 fun h => g3 (Vr h)
  obtain rfl : RB = false:=by
   rw [hRB.out];simp only [decide_eq_false g3,Bool.and_false,Bool.false_and]
  clear hRB g3;go_wp2;go_ret;exact ⟨rfl,E⟩
 have tg3 : (GY.w.toList == px.h.toList) = true:=by rw [g3];exact beq_self_eq_true _
 replace g3:=Lib.hid g3;cases g4 : GX.i
 rotate_left
 ·rw [g4] at r4
  obtain rfl : RB = false:=by
   rw [hRB.out];rw [g4];simp only [Bool.not_true,Bool.and_false,Bool.false_and]
  clear hRB g4;go_wp2;go_ret;exact ⟨rfl,E⟩
 rw [g4] at r4;cases g5 : GY.i
 ·rw [g5] at s4
  obtain rfl : RB = false:=by
   rw [hRB.out];rw [g5];simp only [Bool.and_false,Bool.false_and]
  clear hRB g4 g5;go_wp2;go_ret;exact ⟨rfl,E⟩
 rw [g5] at s4
 have hres : Hid (RB = (decide (GX.l = GY.l) && decide (0 ≤ ny - nx) && decide (ny - nx ≤ days))):=by
  unfold Hid;rw [hRB.out,decide_eq_false g1.out,decide_eq_true g2.out,decide_eq_true g3.out,g4,g5];rfl
 clear hRB g1 g2 g3 g4 g5;by_cases g6 : GX.l = GY.l;rotate_left
 ·rw [decide_eq_false g6] at NE hres;clear g6;obtain rfl : RB = false := by rw [hres.out]; rfl
  clear hres;go_wp2_with (go_at_call 53;(with_reducible refine Calls.mono (NE _ L1 L2) ?_);rintro e w4 ⟨rfl,h4⟩);go_ret;exact ⟨rfl,E.trans h4⟩
 rw [decide_eq_true g6] at NE hres;clear g6;have ha : ∀ w',Qb _ w' → Qa w' ba 103 _:=fun w' h => HA.ext h
 replace ha:=Lib.hid ha;by_cases q1 : 0 ≤ ny - nx;rotate_left
 ·have f1 : decide (0 ≤ ny - nx) = false := decide_eq_false q1;obtain rfl : RB = false := by rw [hres.out, f1]; rfl
  clear hres;go_wp2_with (go_at_call 53;(with_reducible refine Calls.mono (NE _ L1 L2) ?_);rintro e w4 ⟨rfl,h4⟩);go_ret;exact ⟨rfl,E.trans h4⟩
 have f1 : decide (0 ≤ ny - nx) = true:=decide_eq_true q1;have f2 : RB = decide (ny - nx ≤ days):=by rw [hres.out,f1];rfl
 clear hres;obtain ⟨z,hz⟩:=Qg (decide (ny - nx ≤ days));have hz':=hz.symm;rw [← hz] at f2;clear hz;subst f2;cases RB
 ·go_wp2_with (go_at_call 53;(with_reducible refine Calls.mono (NE _ L1 L2) ?_);rintro e w4 ⟨rfl,h4⟩;obtain ⟨a0,a1,a2,a3⟩:=Qa.c4 (ha.out _ h4);have al:=Qa.lt (ha.out _ h4));go_ret;exact ⟨rfl,E.trans h4⟩
 ·go_wp2_with (go_at_call 53;(with_reducible refine Calls.mono (NE _ L1 L2) ?_);rintro e w4 ⟨rfl,h4⟩;obtain ⟨a0,a1,a2,a3⟩:=Qa.c4 (ha.out _ h4);have al:=Qa.lt (ha.out _ h4));go_ret;exact ⟨rfl,E.trans h4⟩
end Go.Proofs.YtoflcheopfppoaaGreatDoor