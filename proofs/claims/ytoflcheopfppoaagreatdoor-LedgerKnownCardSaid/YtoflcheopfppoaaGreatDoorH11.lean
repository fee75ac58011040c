/- Walks and plain facts, packed; no conditions but those that each states. -/
import Derived.Test.YtoflcheopfppoaaGreatDoorH10
import Derived.SizedLaws
import Derived.LaidSub
import Derived.Shelf.Spec.SlicesGrow
import Derived.Laws.AppendOwnNone
set_option maxRecDepth 100000
set_option maxHeartbeats 4000000
namespace Go.Proofs.YtoflcheopfppoaaGreatDoor
section
open Go Go.RowKit Go.Shelf
attribute [local go_sem] Zu
def Nh (x : J2) (v : Value) : List Value:=[.int .i64 x.k,v]
def Ll (w : World) (v : Value) (l : List J2) : Prop:=∃ D cap,∃ vs : Nat → Value,v = .slice D l.length cap ∧ Qo w D l.length 2 (fun i => Nh (l.getD i Xl) (vs i)) ∧ l.length ≤ cap ∧ cap ≤ maxLen ∧ (D = none → l.length = 0 ∧ cap = 0) ∧ ∀ i,i < l.length → Q9 w (vs i) (l.getD i Xl).l
theorem Ll.ext {w w' : World} {v : Value} {l : List J2} (h : Ll w v l) (e : Qc w w') : Ll w' v l:=by
 obtain ⟨D,cap,vs,h1,h2,h3,h4,h5,h6⟩:=h;exact ⟨D,cap,vs,h1,h2.ext e,h3,h4,h5,fun i hi => (h6 i hi).ext e⟩
theorem So {w : World} {F : OA} {n c : Nat} {l : List Lt} (h : Q9 w (.slice F n c) l) : n = l.length:=by
 obtain ⟨_,_,h,_⟩:=h;injection h
theorem Qei (v : Value) (l : List Lt) (w : World) (hL : Q9 w v l) :
  Calls Tryz.prog 68 #[v] w fun e w' => e = .returned (.int .i64 (Yh l)) ∧ Qc w w':=by
 obtain ⟨T,cap,rfl,hT,hcap,hmax,_⟩:=hL;exact Kz T l.length cap (Qz l) w hT hcap (Nat.le_trans hcap (Nat.le_trans hmax zD))
theorem Qa3 (v : Value) (L : List J2) (m : Int) (w : World) (hC : Ll w v L) :
  Calls Tryz.prog 27 #[v,.int .i64 m] w fun e w' => ∃ v',e = .returned (.tuple #[v',.int .i64 (Wu L m).2]) ∧ Qc w w' ∧ Q9 w' v' (Wu L m).1:=by
 obtain ⟨D,cap,vs,rfl,hD,hcap,hmax,_,hat⟩:=hC;have hn : L.length ≤ 9223372036854775807:=Nat.le_trans hcap (Nat.le_trans hmax zD);clear hmax;obtain ⟨R,hR⟩:=Qf (Wu L m);rw [← hR];have hmany : Hid (64 < L.length → R = ([],3)):=fun h => by rw [hR];exact Qkp h
 have herr : Hid (¬ 64 < L.length → ∀ q,Yn L = q → q ≠ 0 → R = ([],q)):=fun h q h1 h2 => by rw [hR];exact Qkn h h1 h2
 have hmon : Hid (¬ 64 < L.length → Yn L = 0 → (m < 0 ∨ 1200 < m) → R = ([],8)):=fun h h1 h2 => by rw [hR];exact Qkq h h1 h2
 have hgo : Hid (¬ 64 < L.length → Yn L = 0 → ¬ (m < 0 ∨ 1200 < m) → R = Wt m [] L):=fun h h1 h2 => by rw [hR];exact Qko h h1 h2
 clear hR;obtain ⟨g,hg⟩:=Qf (fun i => L.getD i Xl);have hg' : ∀ i,L.getD i Xl = g i:=fun i => by rw [hg]
 have hstep : Hid (∀ i,i < L.length → ∀ q,Xc (g i) = q → Yn (L.drop i) = if q ≠ 0 then q else Yn (L.drop (i + 1))):=fun i hi q hq => Qep hi (by rw [hg'];exact hq)
 have hrun : Hid (∀ s i,i < L.length → Wt m s (L.drop i) = if Ye (g i).l ((g i).k * m) ≠ 0 then ([],Ye (g i).l ((g i).k * m)) else if Z4 1 s (Yl (g i).l ((g i).k * m)) ≠ 0 then ([],Z4 1 s (Yl (g i).l ((g i).k * m))) else Wt m (Yg 1 s (Yl (g i).l ((g i).k * m))) (L.drop (i + 1))):=fun s i hi => by simp only [← hg'];exact Qkr hi
 have hok : Hid (Yn L = 0 → ∀ i,i < L.length → Xc (g i) = 0):=fun h i hi => by rw [← hg'];exact cls_ok h i hi
 have hend : Hid (L.drop L.length = []):=List.drop_length;simp only [hg'] at hD hat;clear hg hg';generalize L.length = n at *;replace hat:=zh hat
 go_enter Tryz.func27,Tryz.ntmps27
 by_cases h64 : 64 < n
 ·have g1 : decide ((64 : Int) < (n : Int)) = true:=zt Qb;have hr:=zh (hmany.out h64);clear hmany herr hmon hgo hstep hrun hok hend;go_wp2;go_ret2;exact ⟨_,by rw [hr.out];rfl,Qc.refl _,by rw [hr.out];exact Jn _⟩
 have g1 : decide ((64 : Int) < (n : Int)) = false:=zf Qb;replace herr:=zh (herr.out h64);replace hmon:=zh (hmon.out h64);replace hgo:=zh (hgo.out h64);clear hmany;go_upto_region 4 with fail
 go_loopw [21] (fun iv wr => ∃ i : Nat,i ≤ n ∧ iv = .int .i64 i ∧ Qc w wr ∧ Hid (Yn L = Yn (L.drop i))) (fun iv _ => n - (intOf iv).toNat)
 case atStart => exact ⟨0,Nat.zero_le _,rfl,Qc.refl _,rfl⟩
 case round =>
  obtain ⟨i,hi,rfl,hE,hq⟩:=hrel;obtain ⟨wo,rfl⟩:=Qf wr;by_cases hlt : i < n
  ·obtain ⟨b, off, rfl, hb, hc⟩ := (hD.ext hE) Qb;have c0 : wo.cell? ⟨b, off + i * 2, none⟩ = some (.int .i64 (g i).k) := by simpa [Nh] using hc i 0 _ hlt rfl
   have c1 : wo.cell? ⟨b,off + i * 2 + 1,none⟩ = some (vs i):=by simpa [Nh] using hc i 1 _ hlt rfl
   have hL:=(hat.out i hlt).ext hE;obtain ⟨VL,hvl⟩:=Qf (vs i);rw [← hvl] at c1 hL;clear hc hvl;obtain ⟨TL,cl,hVL,hTR,hcl,hclm,_⟩:=id hL;subst hVL;have hst:=zh (hstep.out i hlt);generalize g i = X at *;obtain ⟨k,l⟩:=X
   simp only at c0 c1 hL hTR hcl
   have hl63 : l.length ≤ 9223372036854775807:=Nat.le_trans hcl (Nat.le_trans hclm zD);have NK:=fun w h => Qei (.slice TL l.length cl) l w h
   obtain ⟨q,hql0⟩:=Qf (Yh l);simp only [← hql0] at NK;have hql:=zh hql0.symm;clear hql0 hD;go_upto_region 6 with fail
   obtain ⟨v3,hv⟩:=Qf (wo.alloc (.cells #[.int .i64 k,.slice TL l.length cl] 83));rw [← hv];have h3 : Qc wo v3:=by rw [hv];exact (Qc.refl _).alloc _
   have H9 : Qa v3 wo.heap.size 83 #[.int .i64 k,.slice TL l.length cl]:=by rw [hv];exact Qa.new _ _ _
   clear hv;generalize wo.heap.size = b9 at *;replace hE:=hE.trans h3;have LX:=hL.ext h3;replace hTR:=hTR.ext h3;clear h3 c0 c1 hb hL;obtain ⟨x0,x1,xl⟩:=Qa.d2 H9;by_cases a1 : k < 0
   ·have g2 : decide (k < 0) = true:=zt a1;have hr:=zh (herr.out 8 (by rw [hq.out,hst.out 8 (Bv (.inl a1)),if_pos (by first | exact e0 | decide)]) (by first | exact e0 | decide));clear hst hq hgo hrun hok hend hmon herr hstep hat;go_wp2;go_ret2;exact ⟨_,by rw [hr.out];rfl,hE,by rw [hr.out];exact Jn _⟩
   have g2 : decide (k < 0) = false:=zf a1;by_cases a2 : 1099511627776 < k
   ·have g3 : decide (1099511627776 < k) = true:=zt a2;have hr:=zh (herr.out 8 (by rw [hq.out,hst.out 8 (Bv (.inr a2)),if_pos (by first | exact e0 | decide)]) (by first | exact e0 | decide));clear hst hq hgo hrun hok hend hmon herr hstep hat;go_wp2;go_ret2;exact ⟨_,by rw [hr.out];rfl,hE,by rw [hr.out];exact Jn _⟩
   have g3 : decide (1099511627776 < k) = false:=zf a2;have nk : ¬ (k < 0 ∨ 1099511627776 < k):=Qb;by_cases e0 : q = 0;rotate_left
   ·have g4 : (q == 0) = false := zb e0;have g4n : (q != 0) = true := by rw [bne, g4]; rfl
    have hr:=zh (herr.out q (by rw [hq.out,hst.out q (Qem nk hql.out e0),if_pos (by first | exact e0 | decide)]) (by first | exact e0 | decide));clear e0 hql;clear hst hq hgo hrun hok hend hmon herr hstep hat;go_wp2_with (go_at_call 68;refine zc (NK _ LX) ?_;rintro e w4 ⟨rfl,h4⟩;clear x0 x1 xl;have H9:=H9.ext h4;obtain ⟨x0,x1⟩:=H9.c2;have xl:=H9.lt);go_ret2;exact ⟨_,by rw [hr.out];rfl,hE.trans h4,by rw [hr.out];exact Jn _⟩
   subst e0;have hcn:=zh (fun j hj hn => hst.out 8 (cl_neg (x:=⟨k,l⟩) (j:=j) nk hql.out hj hn));have hcf:=zh (fun hj => hst.out 0 (Qel (x:=⟨k,l⟩) nk hql.out hj));clear hst nk hql a1 a2;go_upto_region 12 with (go_at_call 68;refine zc (NK _ LX) ?_;rintro e w4 ⟨rfl,h4⟩;clear x0 x1 xl;have H9:=H9.ext h4;obtain ⟨x0,x1⟩:=H9.c2;have xl:=H9.lt)
   replace hE:=hE.trans h4;replace hTR:=hTR.ext h4;clear x0 x1 xl H9 h4 LX NK g2 g3
   go_loopw [42] (fun jv wr => ∃ j : Nat,j ≤ l.length ∧ jv = .int .i64 j ∧ Qc w4 wr ∧ Hid (∀ y,y < j → 0 ≤ (Qz l y).n)) (fun jv _ => l.length - (intOf jv).toNat)
   case atStart => exact ⟨0,Nat.zero_le _,rfl,Qc.refl _,(fun y h => absurd h Qb)⟩
   case round =>
    obtain ⟨j,hj,rfl,hEj,hnn⟩:=hrel;obtain ⟨wi,rfl⟩:=Qf wr;by_cases hlj : j < l.length
    ·obtain ⟨b2, off2, rfl, hb2, hc2⟩ := (hTR.ext hEj) Qb;have y0 : wi.cell? ⟨b2, off2 + j * 2, none⟩ = some (.string (Qz l j).g) := by simpa [Zs] using hc2 j 0 _ hlj rfl
     have y1 : wi.cell? ⟨b2,off2 + j * 2 + 1,none⟩ = some (.int .i64 (Qz l j).n):=by simpa [Zs] using hc2 j 1 _ hlj rfl
     clear hc2;go_upto_region 14 with fail
     obtain ⟨v5,hv⟩:=Qf (wi.alloc (.cells #[.string (Qz l j).g,.int .i64 (Qz l j).n] 85));rw [← hv];have h5 : Qc wi v5:=by rw [hv];exact (Qc.refl _).alloc _
     have H7 : Qa v5 wi.heap.size 85 #[.string (Qz l j).g,.int .i64 (Qz l j).n]:=by rw [hv];exact Qa.new _ _ _
     clear hv;generalize wi.heap.size = b7 at *;replace hEj:=hEj.trans h5;clear h5 y0 y1 hb2;obtain ⟨y0,y1,yl⟩:=Qa.d2 H7;by_cases hneg : (Qz l j).n < 0
     ·have g7 : decide ((Qz l j).n < 0) = true:=zt hneg;have hr:=zh (herr.out 8 (by rw [hq.out,hcn.out j hlj hneg,if_pos zD]) zD);clear hneg hnn hcn hcf;clear hq hgo hrun hok hend hmon herr hstep hat;go_wp2;go_ret2;exact ⟨_,by rw [hr.out];rfl,hE.trans hEj,by rw [hr.out];exact Jn _⟩
     ·have g7 : decide ((Qz l j).n < 0) = false:=zf hneg
      have hnn2 : Hid (∀ y,y < j + 1 → 0 ≤ (Qz l y).n):=fun y hy => by
       by_cases e : y = j
       ·subst e;omega
       ·exact hnn.out y Qb
      clear hneg hnn hcn hcf hq hgo hrun hok hend hmon herr hstep hat;go_wp2;exact ⟨⟨j + 1,Qb,by go_num,hEj,hnn2⟩,zi⟩
    ·obtain rfl : j = l.length := Qb;have hq2 : Hid (Yn L = Yn (L.drop (i + 1))) := by unfold Hid; rw [hq.out, hcf.out hnn.out, if_neg zD]
     clear hnn hcn hcf hq hgo hrun hok hend hmon herr hstep hat;go_wp2;exact ⟨⟨i + 1,Qb,by go_num,hE.trans hEj,hq2⟩,zi⟩
  ·obtain rfl : n = i := Qb;have hc0 : Yn L = 0 := by rw [hq.out, hend.out]; rfl
   replace hmon:=zh (hmon.out hc0);replace hgo:=zh (hgo.out hc0);replace hok:=zh (hok.out hc0);clear hc0 hq herr hstep;by_cases m1 : m < 0
   ·have g2 : decide (m < 0) = true:=zt m1;have hr:=zh (hmon.out (.inl m1));clear hmon hgo hok hrun hend hat;go_wp2;go_ret2;exact ⟨_,by rw [hr.out];rfl,hE,by rw [hr.out];exact Jn _⟩
   have g2 : decide (m < 0) = false:=zf m1;by_cases m2 : 1200 < m
   ·have g3 : decide (1200 < m) = true:=zt m2;have hr:=zh (hmon.out (.inr m2));clear hmon hgo hok hrun hend hat;go_wp2;go_ret2;exact ⟨_,by rw [hr.out];rfl,hE,by rw [hr.out];exact Jn _⟩
   have g3 : decide (1200 < m) = false:=zf m2;have hR0 : Hid (R = Wt m [] (L.drop 0)):=hgo.out Qb;clear hmon hgo;have hE0:=hE;clear hE;go_upto_region 22 with fail
   go_loopw [11,59] (fun sv iv wr => ∃ (i : Nat) (s : List Lt),i ≤ n ∧ iv = .int .i64 i ∧ Q9 wr sv s ∧ Hid (R = Wt m s (L.drop i)) ∧ Qc w wr) (fun _ iv _ => n - (intOf iv).toNat)
   case atStart => exact ⟨0,[],Nat.zero_le _,rfl,Jn _,hR0,hE0⟩
   case round =>
    clear hR0 hE0;obtain ⟨i,s,hi,rfl,hS,hrr,hE⟩:=hrel;obtain ⟨wo,rfl⟩:=Qf wr;obtain ⟨AS,cs,hsv,_⟩:=id hS;subst hsv;by_cases hlt : i < n;rotate_left
    ·obtain rfl : n = i := Qb;have hr : Hid (R = (s, 0)) := by unfold Hid; rw [hrr.out, hend.out]; rfl
     clear hrr hend hrun hok hat;go_wp2;go_ret2;exact ⟨_,by rw [hr.out];rfl,hE,by rw [hr.out];exact hS⟩
    obtain ⟨b,off,rfl,hb,hc⟩:=(hD.ext hE) Qb;have c0 : wo.cell? ⟨b,off + i * 2,none⟩ = some (.int .i64 (g i).k):=by simpa [Nh] using hc i 0 _ hlt rfl
    have c1 : wo.cell? ⟨b,off + i * 2 + 1,none⟩ = some (vs i):=by simpa [Nh] using hc i 1 _ hlt rfl
    have hL:=(hat.out i hlt).ext hE;obtain ⟨VL,hvl⟩:=Qf (vs i);rw [← hvl] at c1 hL;clear hc hvl;obtain ⟨TL,cl,hVL,hTR,hcl,hclm,_⟩:=id hL;subst hVL;have hst:=zh (hrun.out s i hlt);obtain ⟨⟨k0,k1⟩,_⟩:=cl1_ok (hok.out i hlt);clear hrun hok hat;generalize g i = X at *;obtain ⟨k,l⟩:=X
    simp only at c0 c1 hL hst k0 k1
    obtain ⟨t0,t1⟩:=Qeq k0 k1 (show 0 ≤ m by omega) (show m ≤ 1200 by omega);have vt : IntKind.i64.wrap (k * m) = k * m:=Zr Qb Qb;have NS:=fun w h => Qla (.slice TL l.length cl) l (k * m) Qb Qb w h
    have hst2 : Hid (Wt m s (L.drop i) = if Ye l (k * m) ≠ 0 then ([],Ye l (k * m)) else if Z4 1 s (Yl l (k * m)) ≠ 0 then ([],Z4 1 s (Yl l (k * m))) else Wt m (Yg 1 s (Yl l (k * m))) (L.drop (i + 1))):=hst;clear hst hTR hcl hclm;generalize Ye l (k * m) = q1 at *;generalize Yl l (k * m) = S1 at *;have NA:=fun w F c h1 h2 => De (.slice AS s.length cs) (.slice F S1.length c) s S1 w h1 h2
    generalize hq2 : Z4 1 s S1 = q2 at *;clear hq2;generalize hL2 : Yg 1 s S1 = L2 at *;clear hL2;go_upto_region 24 with fail
    obtain ⟨v3,hv⟩:=Qf (wo.alloc (.cells #[.int .i64 k,.slice TL l.length cl] 83));rw [← hv];have h3 : Qc wo v3:=by rw [hv];exact (Qc.refl _).alloc _
    have H9 : Qa v3 wo.heap.size 83 #[.int .i64 k,.slice TL l.length cl]:=by rw [hv];exact Qa.new _ _ _
    clear hv;generalize wo.heap.size = b9 at *;replace hE:=hE.trans h3;have LX:=hL.ext h3;replace hS:=hS.ext h3;clear h3 c0 c1 hb hL;obtain ⟨x0,x1,xl⟩:=Qa.d2 H9;go_upto_region 25 with (go_at_call 69;refine zc (NS _ LX) ?_;rintro e w4 ⟨F,y,c,rfl,h4,L4⟩;obtain rfl:=So L4)
    replace hE:=hE.trans h4;have S4:=hS.ext h4;clear h4 hS LX NS x0 x1 xl H9;by_cases e1 : q1 = 0;rotate_left
    ·have e1f : (q1 == 0) = false := zb e1;have e1n : (q1 != 0) = true := by rw [bne, e1f]; rfl
     have hr : Hid (R = ([],q1)):=by unfold Hid;rw [hrr.out,hst2.out,if_pos e1]
     clear hrr hst2 e1 hend;go_wp2;go_ret2;exact ⟨_,by rw [hr.out];rfl,hE,by rw [hr.out];exact Jn _⟩
    subst e1;by_cases e2 : q2 = 0;rotate_left
    ·have e2f : (q2 == 0) = false := zb e2;have e2n : (q2 != 0) = true := by rw [bne, e2f]; rfl
     have hr : Hid (R = ([],q2)):=by unfold Hid;rw [hrr.out,hst2.out,if_neg zD,if_pos e2]
     clear hrr hst2 e2 hend;go_wp2_with (go_at_call 19;refine zc (NA _ F c S4 L4) ?_;rintro e w5 ⟨F2,y2,c2,rfl,h5,L5⟩;obtain rfl:=So L5);go_ret2;exact ⟨_,by rw [hr.out];rfl,hE.trans h5,by rw [hr.out];exact Jn _⟩
    subst e2;have hr : Hid (R = Wt m L2 (L.drop (i + 1))):=by unfold Hid;rw [hrr.out,hst2.out,if_neg zD,if_neg zD]
    clear hrr hst2 hend;go_wp2_with (go_at_call 19;refine zc (NA _ F c S4 L4) ?_;rintro e w5 ⟨F2,y2,c2,rfl,h5,L5⟩;obtain rfl:=So L5);exact ⟨⟨i + 1,L2,Qb,by go_num,L5,hr,hE.trans h5⟩,zi⟩
theorem K2 {f f' : Nat → List Value} : ∀ k,(∀ i,i < k → f i = f' i) → Q7 f k = Q7 f' k
 | 0,_ => rfl
 | k + 1,h => by rw [U0,U0,K2 k (fun i hi => h i Qb),h k Qb]
theorem N8 {W : World} {b b' s1 s2 k1 k2 : Nat} {e1 e2 : TypeId} {v1 v2 : Value} {x1 x2 : List Value} (h1 : W.ownsRow b e1 s1 v1 k1 x1) (h2 : W.ownsRow b' e2 s2 v2 k2 x2) (hne : e1 ≠ e2) : v1.ownBlock = none ∨ v1.ownBlock ≠ v2.ownBlock:=by
 cases hb : v1.ownBlock with
 | none => exact .inl rfl
 | some r =>
  refine .inr fun e => ?_
  obtain ⟨_,c1,g1⟩:=Ut h1 r hb;obtain ⟨_,c2,g2⟩:=Ut h2 r e.symm;rw [g1] at g2;simp at g2;exact hne g2.2
def Xo (W : World) (b : Nat) (v : Value) (l : List Lt) : Prop:=W.ownsRow b 85 2 v l.length (l.flatMap Jj)
def Jr (W : World) (b : Nat) (v : Value) (n : Nat) (g : Nat → Dl) : Prop:=∃ vs : Nat → Value,W.ownsRow b 57 7 v n (Q7 (fun i => Zh (g i) (vs i)) n) ∧ ∀ i,i < n → Xo W b (vs i) (g i).l
theorem Qfi (W : World) (b : Nat) (g : Nat → Dl) : Jr W b (.slice none 0 0) 0 g:=⟨fun _ => .slice none 0 0,World.ownsRow_nil _ _ _ _,fun i h => absurd h Qb⟩
theorem Jr.ext {W W' : World} {b n : Nat} {v : Value} {g : Nat → Dl} (h : Jr W b v n g) (x : Qc W W') : Jr W' b v n g:=by
 obtain ⟨vs,h1,h2⟩:=h;exact ⟨vs,Q1 h1 x,fun i hi => Q1 (h2 i hi) x⟩
theorem Jr.le {W : World} {b b' n : Nat} {v : Value} {g : Nat → Dl} (h : Jr W b v n g) (hb : b' ≤ b) : Jr W b' v n g:=by
 obtain ⟨vs,h1,h2⟩:=h;exact ⟨vs,h1.mono hb,fun i hi => World.ownsRow.mono (h2 i hi) hb⟩
theorem Qfg {W : World} {b : Nat} {v : Value} {l : List Dl} (h : Jr W b v l.length (fun i => l.getD i Qv)) : Ja W v l:=by
 obtain ⟨vs,h1,h2⟩:=h;obtain ⟨F,c,g1,g2,g3,g4,g5,_⟩:=Vl (f:=fun i => Zh (l.getD i Qv) (vs i)) (fun _ => rfl) h1;exact ⟨F,c,vs,g1,g2,g3,g4,g5,fun i hi => Wi (h2 i hi)⟩
theorem Sa : (Tryz.prog.info? 57).map (fun i => (i.zero,i.size,i.bytes)) = some (some (.agg #[.int .i64 0,.int .i64 0,.bool false,.int .i64 0,.bool false,.string ⟨#[]⟩,.slice none 0 0]),7,80):=by kernel_rfl
theorem Qd7 (d : Dl) (F : OA) (n m : Nat) : ∀ u ∈ Zh d (.slice F n m),u.oneCell' = true:=by simp [Zh,Value.oneCell']
theorem W4 {W : World} {b : Nat} {t : TypeId} {cs : Array Value} (h : Qa W b t cs) (i : Nat) (u : Value) : Qa (W.setCell ⟨b,i,none⟩ u) b t (cs.setIfInBounds i u):=by unfold Qa at h ⊢;simp [World.setCell,Array.getElem?_modify,h]
theorem Nl {W : World} {b n : Nat} {v : Value} {g : Nat → Dl} (h : Jr W b v n g) : ∃ F m,v = .slice F n m:=by
 obtain ⟨_,h1,_⟩:=h;exact Z9 h1
structure Jm (W : World) (b : Nat) (p : Pd) (vo vd vc : Value) : Prop where
 o : Xo W b vo p.o
 d : Jr W b vd p.d.length (fun i => p.d.getD i Qv)
 c : Xo W b vc p.c
theorem Gz {W : World} {b : Nat} {p : Pd} {vo vd vc : Value} (h : Jm W b p vo vd vc) : J9 W p vo vd vc:=⟨Wi h.o,Qfg h.d,Wi h.c⟩
theorem Jm.ext {W W' : World} {b : Nat} {p : Pd} {vo vd vc : Value} (h : Jm W b p vo vd vc) (x : Qc W W') : Jm W' b p vo vd vc:=⟨Q1 h.o x,h.d.ext x,Q1 h.c x⟩
theorem Jm.le {W : World} {b b' : Nat} {p : Pd} {vo vd vc : Value} (h : Jm W b p vo vd vc) (hb : b' ≤ b) : Jm W b' p vo vd vc:=⟨Xe h.o hb,h.d.le hb,Xe h.c hb⟩
theorem Jr.set {W : World} {bb : Nat} {t : TypeId} {cs : Array Value} (hB : Qa W bb t cs) (h1 : t ≠ 85) (h2 : t ≠ 57) {b n : Nat} {v : Value} {g : Nat → Dl} (h : Jr W b v n g) (j : Nat) (u : Value) : Jr (W.setCell ⟨bb,j,none⟩ u) b v n g:=by
 obtain ⟨vs,g1,g2⟩:=h;exact ⟨vs,Xf hB h2 g1 j u,fun i hi => Xf hB h1 (g2 i hi) j u⟩
end
section
open Go Go.RowKit Go.Shelf
attribute [local go_sem] Zu
attribute [local go_sem high] Qjc
theorem Qaj {W : World} {b b' : Nat} {t : TypeId} {cs : Array Value} (h : Qa W b' t cs) (hne : b' ≠ b) (u0 u1 u2 u3 u4 u5 u6 : Value) : Qa (((((((W.setCell ⟨b,0,none⟩ u0).setCell ⟨b,1,none⟩ u1).setCell ⟨b,2,none⟩ u2).setCell ⟨b,3,none⟩ u3).setCell ⟨b,4,none⟩ u4).setCell ⟨b,5,none⟩ u5).setCell ⟨b,6,none⟩ u6) b' t cs:=(Qg (Qg (Qg (Qg (Qg (Qg (Qg h hne 0 u0) hne 1 u1) hne 2 u2) hne 3 u3) hne 4 u4) hne 5 u5) hne 6 u6)
end
section
open Go Go.ChangeShapes Go.WideShapes Go.ChangeAt Go.RowKit Go.Deep
section
variable {H : Type} {enc : TypeId × Value → H} {w : World} {base : Nat} {spare : Nat → Bool} {held : Bool} {r : Reach} {b0 : Nat} {v : Value} {d : DataW H} {p : List MemPlace}
end
section
variable {H : Type} {enc : TypeId × Value → H} {w : World} {base : Nat} {spare : Nat → Bool} {held : Bool} {r : Reach} {b0 : Nat} {v : Value} {d : DataW H} {p : List MemPlace}
theorem Qbw {P : Program} {m : Nat} {t : TypeId} {cs : List Value} {o : Nat} {xs : List (DataW H × List MemPlace)} {n i : Nat} (hi : i < xs.length) (h : DataW.trod enc P w base spare held m t ((cs.drop o).take (P.cellsOf t)) = xs[i]?) (hn : P.cellsOf t = n) :
  DataW.trod enc P w base spare held m t ((cs.drop o).take n) = some xs[i]:=by
 rw [hn] at h;rw [h,List.getElem?_eq_getElem hi]
end
theorem Qea : Tryz.prog.cellsOf 65 = 2:=by kernel_rfl
theorem Qmr : Tryz.prog.globalNamed "bulla/metro.zero" = some 0:=by kernel_rfl
theorem Qmu : (Tryz.prog.globals[0]?).map (·.type) = some 65:=by kernel_rfl
theorem Qmw {W : World} (h : laidMet Tryz.prog [("bulla/metro.zero",.agg [.lit (.int .i64 0),.lit (.int .i64 1)])] W) : Zw W:=by
 obtain ⟨ps,⟨g,t,cs,fuel,p,q,hg,ht,hvar,hd,_,_⟩,_⟩:=h;obtain rfl:=Option.some.inj (Qmr.symm.trans hg);obtain rfl:=Option.some.inj (Qmu.symm.trans ht);obtain ⟨xs,m,_,hx,hlen,hxl,hf⟩:=DataW.trod_struct Tryz.underlying65 hd;have hxl2 : xs.length = 2:=hxl;simp only [Prod.mk.injEq,DataW.agg.injEq] at hx;have hx1:=hx.1;obtain ⟨cs⟩:=cs;rw [Qea] at hlen
 match cs,hlen,xs,hxl2 with
 | [a,b],_,[y0,y1],_ =>
  have e0:=Qbw (i:=0) (by simp) (hf 0 _ rfl) Bn;have e1:=Qbw (i:=1) (by simp) (hf 1 _ rfl) Bn;obtain ⟨s0,h01,h02,_⟩:=DataW.trod_int Tryz.underlying3 e0;obtain ⟨s1,h11,h12,_⟩:=DataW.trod_int Tryz.underlying3 e1;simp only [List.map_cons,List.map_nil,List.cons.injEq] at hx1;have f0 : y0.1 = .lit (.int .i64 0):=hx1.1.symm;have f1 : y1.1 = .lit (.int .i64 1):=hx1.2.1.symm;have g0 : y0.1 = .lit (.int .i64 s0):=by have:=congrArg Prod.fst h02;simpa using this
  have g1 : y1.1 = .lit (.int .i64 s1):=by have:=congrArg Prod.fst h12;simpa using this
  obtain rfl : s0 = 0:=by rw [f0] at g0;simpa using g0.symm
  obtain rfl : s1 = 1:=by rw [f1] at g1;simpa using g1.symm
  have ha : a = .int .i64 0:=by simpa using h01
  have hb : b = .int .i64 1:=by simpa using h11
  subst ha;subst hb;have c0:=World.var?_cell hg hvar 0;have c1:=World.var?_cell hg hvar 1;refine ⟨by simpa using c0,by simpa using c1,?_⟩;rcases Nat.lt_or_ge 0 W.heap.size with h1 | h1
  ·exact h1
  ·have h2 : W.heap.size = 0 := Qb;have : W.cell? ⟨0, 0, none⟩ = some (.int .i64 0) := by simpa using c0
   simp [World.cell?,Array.getElem?_eq_none (show W.heap.size ≤ 0 by omega)] at this
section
variable {H : Type} {enc : TypeId × Value → H} {w : World} {base : Nat} {spare : Nat → Bool} {held : Bool} {r : Reach} {b0 : Nat} {v : Value} {d : DataW H} {p : List MemPlace}
end
structure Pd.Light (p : Pd) : Prop where
 o : p.o.length * 24 ≤ 140737488351232
 c : p.c.length * 24 ≤ 140737488351232
 l : ∀ i,i < p.d.length → (p.d.getD i Qv).l.length * 24 ≤ 140737488351232
 d : p.d.length * 80 ≤ 140737488351232
section
variable {H : Type} {enc : TypeId × Value → H} {w : World} {base : Nat} {spare : Nat → Bool} {held : Bool} {r : Reach} {b0 : Nat} {v : Value} {d : DataW H} {p : List MemPlace}
end
end
section
open Go Go.RowKit Go.Shelf
attribute [local go_sem] Zu
theorem Qec (A A' : OA) (ca cb : Nat) (c : Qd) (p : Pd) (vo vd vc : Value) (w : World) (hC : Q3 w A ca A' cb c) (hP : J9 w p vo vd vc) :
  Calls Tryz.prog 32 #[.agg #[.slice A c.nk ca,.slice A' c.ny cb],.agg #[.string p.h,.int .i64 p.a.y,.int .i64 p.a.m,.bool p.a.s,.int .i64 p.a.d,.int .i64 p.b.y,.int .i64 p.b.m,.bool p.b.s,.int .i64 p.b.d,vo,vd,vc]] w fun e w' => e = .returned (.int .i64 (c.perE p)) ∧ Qc w w':=by
 obtain ⟨t1,s1,e1,_⟩:=id hP.o;subst e1;obtain ⟨t2,s2,_,e2,_⟩:=id hP.d;subst e2;obtain ⟨t3,s3,e3,_⟩:=id hP.c;subst e3;have NV:=fun w h1 v h2 => Fm A A' ca cb c v [p] w h1 h2
 simp only [P4] at NV;generalize c.perE p = pe at *
 go_enter Tryz.func32,Tryz.ntmps32
 go_upto_region 1 with fail
 obtain ⟨v,b1,b2,E,B1,B2,hbr1,hbr,hn21,hv,hb1,hb2⟩:=J1 w 25 #[.slice A c.nk ca,.slice A' c.ny cb] 55 #[.string p.h,.int .i64 p.a.y,.int .i64 p.a.m,.bool p.a.s,.int .i64 p.a.d,.int .i64 p.b.y,.int .i64 p.b.m,.bool p.b.s,.int .i64 p.b.d,.slice t1 p.o.length s1,.slice t2 p.d.length s2,.slice t3 p.c.length s3];rw [← hv,← hb2,← hb1];clear hv hb1 hb2;have C:=hC.ext E;have P:=hP.ext E;clear hC hP;obtain ⟨k0,k1,kl⟩:=Qa.d2 B1;obtain ⟨p0,p1,p2,p3,p4,p5,p6,p7,p8,p9,p10,p11,pl⟩:=Qa.d12 B2;have AL:=(Qc.refl v).alloc (.cells #[.string p.h,.int .i64 p.a.y,.int .i64 p.a.m,.bool p.a.s,.int .i64 p.a.d,.int .i64 p.b.y,.int .i64 p.b.m,.bool p.b.s,.int .i64 p.b.d,.slice t1 p.o.length s1,.slice t2 p.d.length s2,.slice t3 p.c.length s3] 55)
 have NV1:=NV _ (C.ext AL) (.slice (some ⟨v.heap.size,0,none⟩) 1 1) (Pc (t:=55) (Qa.new v 55 #[.string p.h,.int .i64 p.a.y,.int .i64 p.a.m,.bool p.a.s,.int .i64 p.a.d,.int .i64 p.b.y,.int .i64 p.b.m,.bool p.b.s,.int .i64 p.b.d,.slice t1 p.o.length s1,.slice t2 p.d.length s2,.slice t3 p.c.length s3]) (P.ext AL));clear NV;go_wp2_with (go_at_call 73;refine zc (NV1) ?_;rintro e w1 ⟨rfl,h1⟩);go_ret;exact ⟨rfl,((E.trans AL).trans h1).alloc _⟩
end
section
open Go Go.RowKit Go.Shelf
attribute [local go_sem] Zu
attribute [local go_sem high] Sx
theorem Qic {l1 l2 : List Lt} {k : Nat} (h : Qz l1 k ≠ Qz l2 k) : l1 ≠ l2:=fun e => h (by rw [e])
theorem Qia {l1 l2 : List Lt} (hl : l1.length = l2.length) (h : ∀ k,k < l1.length → Qz l1 k = Qz l2 k) : l1 = l2:=by
 refine List.ext_getElem hl fun i h1 h2 => ?_
 have:=h i h1
 rwa [U7 h1,U7 h2] at this
theorem lt_ext {x y : Lt} (h1 : x.g = y.g) (h2 : x.n = y.n) : x = y:=by cases x;cases y;simp_all
theorem S0 {c : Qd} (hv : c.valid = true) (d : Dt) : 0 ≤ c.numV d ∧ c.numV d ≤ 1000000000:=by
 refine ⟨Qjl hv,?_⟩;by_cases h : c.numV d = 0
 ·omega
 ·obtain ⟨h1,h2,_⟩:=Gp hv h;have h3:=(Sz h1).2;have h4:=(Lw c c.ny).2;have h5:=Qaf hv;omega
theorem Hm (v1 v2 : Value) (l1 l2 : List Lt) (w : World) (h1 : Q9 w v1 l1) (h2 : Q9 w v2 l2) :
  Calls Tryz.prog 74 #[v1,v2] w fun e w' => e = .returned (.bool (decide (l1 = l2))) ∧ Qc w w':=by
 obtain ⟨A,ca,rfl,hA,hca,hca',_⟩:=h1;obtain ⟨B,cb,rfl,hB,hcb,hcb',_⟩:=h2;have hn1 : l1.length ≤ 9223372036854775807:=Nat.le_trans hca (Nat.le_trans hca' zD);have hn2 : l2.length ≤ 9223372036854775807:=Nat.le_trans hcb (Nat.le_trans hcb' zD);clear hca hca' hcb hcb';by_cases hl : l1.length = l2.length;rotate_left
 ·have hr : decide (l1 = l2) = false:=zf fun e => hl (by rw [e])
  rw [hr];have g1 : ((l1.length : Int) == (l2.length : Int)) = false:=zb Qb;have g2 : (l1.length == l2.length) = false:=zb hl;clear hr hA hB;generalize l1.length = n1 at *;generalize l2.length = n2 at *
  go_enter Tryz.func74,Tryz.ntmps74
  go_wp2;go_ret;exact ⟨rfl,Qc.refl _⟩
 obtain ⟨R,hR⟩:=Qf (decide (l1 = l2));have hno : Hid (∀ k,k < l1.length → Qz l1 k ≠ Qz l2 k → R = false):=fun _ _ h => by rw [hR];exact zf (Qic h)
 have hyes : Hid ((∀ k,k < l1.length → Qz l1 k = Qz l2 k) → R = true):=fun h => by rw [hR];exact zt (Qia hl h)
 rw [← hR];clear hR;rw [← hl] at hB ⊢;clear hl hn2;generalize l1.length = n at *;generalize Qz l1 = f at *;generalize Qz l2 = g at *
 go_enter Tryz.func74,Tryz.ntmps74
 go_upto_region 4 with fail
 go_loopw [13] (fun i wr => ∃ k : Nat,k ≤ n ∧ i = .int .i64 k ∧ Hid (∀ j,j < k → f j = g j) ∧ Qc w wr) (fun i _ => n - (intOf i).toNat)
 case atStart => exact ⟨0,Nat.zero_le _,rfl,fun j h => absurd h Qb,Qc.refl _⟩
 case round =>
  obtain ⟨k,hk,rfl,heq,hE⟩:=hrel;obtain ⟨wo,rfl⟩:=Qf wr;by_cases hlt : k < n
  ·obtain ⟨b, off, rfl, hb, hc⟩ := (hA.ext hE) Qb;have c0 : wo.cell? ⟨b, off + k * 2, none⟩ = some (.string (f k).g) := by simpa [Zs] using hc k 0 _ hlt rfl
   have c1 : wo.cell? ⟨b,off + k * 2 + 1,none⟩ = some (.int .i64 (f k).n):=by simpa [Zs] using hc k 1 _ hlt rfl
   clear hc;obtain ⟨b2,off2,rfl,hb2,hc⟩:=(hB.ext hE) Qb;have d0 : wo.cell? ⟨b2,off2 + k * 2,none⟩ = some (.string (g k).g):=by simpa [Zs] using hc k 0 _ hlt rfl
   have d1 : wo.cell? ⟨b2,off2 + k * 2 + 1,none⟩ = some (.int .i64 (g k).n):=by simpa [Zs] using hc k 1 _ hlt rfl
   clear hc hA hB;by_cases e : f k = g k
   ·have hall : Hid (∀ j,j < k + 1 → f j = g j):=fun j hj => by
     by_cases e2 : j = k
     ·subst e2;exact e
     ·exact heq.out j Qb
    rw [← e] at d0 d1;clear heq hno hyes e;generalize (f k).g = s at *;generalize (f k).n = z at *;go_upto_region 6 with fail
    refine Zj wo ?_;intro w2 h2;obtain ⟨hcbw2,hfbw2,hzbw2,hzw2⟩:=Zi wo h2;go_wp2;exact ⟨⟨k + 1,Qb,by go_num,hall,hE.trans h2⟩,zi⟩
   ·obtain rfl:=hno.out k hlt e
    have hq : (((f k).g.toList == (g k).g.toList) && ((f k).n == (g k).n)) = false:=by
     rw [Bool.and_eq_false_iff];by_cases e1 : (f k).g = (g k).g
     ·exact .inr (zb fun e2 => e (lt_ext e1 e2))
     ·exact .inl (zb fun e2 => e1 (Fj e2))
    clear heq hno hyes e;generalize (f k).g = s at *;generalize (f k).n = z at *;generalize (g k).g = s' at *;generalize (g k).n = z' at *;generalize hq1 : (s.toList == s'.toList) = q1 at *;generalize hq2 : (z == z') = q2 at *;have hq' : (q1 = true → q2 = false):=by cases q1 <;> simp_all
    go_upto_region 6 with fail
    refine Zj wo ?_;intro w2 h2;obtain ⟨hcbw2,hfbw2,hzbw2,hzw2⟩:=Zi wo h2;cases q1 <;> cases q2 <;> first | (exact absurd (hq' rfl) zD) | (go_wp2;go_ret;exact ⟨rfl,hE.trans h2⟩)
  ·obtain rfl : k = n:=Qb;obtain rfl:=hyes.out heq.out;go_wp2;go_ret;exact ⟨rfl,hE⟩
theorem Bf (A A' : OA) (ca cb : Nat) (c : Qd) (x y : Pd) (xo xd xc yo yd yc : Value) (w : World) (hC : Q3 w A ca A' cb c) (hv : c.valid = true) (hX : J9 w x xo xd xc) (hY : J9 w y yo yd yc) :
  Calls Tryz.prog 60 #[.agg #[.slice A c.nk ca,.slice A' c.ny cb],.agg #[.string x.h,.int .i64 x.a.y,.int .i64 x.a.m,.bool x.a.s,.int .i64 x.a.d,.int .i64 x.b.y,.int .i64 x.b.m,.bool x.b.s,.int .i64 x.b.d,xo,xd,xc],.agg #[.string y.h,.int .i64 y.a.y,.int .i64 y.a.m,.bool y.a.s,.int .i64 y.a.d,.int .i64 y.b.y,.int .i64 y.b.m,.bool y.b.s,.int .i64 y.b.d,yo,yd,yc]] w fun e w' => e = .returned (.bool (c.behV x y)) ∧ Qc w w':=by
 obtain ⟨o1,p1,e1,_⟩:=id hX.o;subst e1;obtain ⟨d1,q1,_,e2,_⟩:=id hX.d;subst e2;obtain ⟨c1,r1,e3,_⟩:=id hX.c;subst e3;obtain ⟨o2,p2,e1,_⟩:=id hY.o;subst e1;obtain ⟨d2,q2,_,e2,_⟩:=id hY.d;subst e2;obtain ⟨c2,r2,e3,_⟩:=id hY.c;subst e3;obtain ⟨R,hR⟩:=Qf (c.behV x y);rw [← hR];unfold Qd.behV at hR;replace hR:=zh hR;have NX:=fun w h => Yw A A' ca cb c x.b w h
 have NY:=fun w h => Yw A A' ca cb c y.a w h
 have bx:=S0 hv x.b;clear hv hX hY
 go_enter Tryz.func60,Tryz.ntmps60
 go_upto_region 1 with fail
 obtain ⟨v,b1,b2,b3,E,B1,B2,B3,hbr1,hbr2,hbr,hn21,hn31,hn32,hv,hb1,hb2,hb3⟩:=Uh w 130 #[.slice A c.nk ca,.slice A' c.ny cb] 55 #[.string x.h,.int .i64 x.a.y,.int .i64 x.a.m,.bool x.a.s,.int .i64 x.a.d,.int .i64 x.b.y,.int .i64 x.b.m,.bool x.b.s,.int .i64 x.b.d,.slice o1 x.o.length p1,.slice d1 x.d.length q1,.slice c1 x.c.length r1] 55 #[.string y.h,.int .i64 y.a.y,.int .i64 y.a.m,.bool y.a.s,.int .i64 y.a.d,.int .i64 y.b.y,.int .i64 y.b.m,.bool y.b.s,.int .i64 y.b.d,.slice o2 y.o.length p2,.slice d2 y.d.length q2,.slice c2 y.c.length r2];rw [← hv,← hb3,← hb2,← hb1];clear hv hb1 hb2 hb3;have C:=hC.ext E;clear hC;obtain ⟨k0,k1,kl⟩:=Qa.d2 B1
 obtain ⟨x0,x1,x2,x3,x4,x5,x6,x7,x8,x9,x10,x11,xl⟩:=Qa.d12 B2;obtain ⟨y0,y1,y2,y3,y4,y5,y6,y7,y8,y9,y10,y11,yl⟩:=Qa.d12 B3;generalize c.numV x.b = nx at *;generalize c.numV y.a = ny at *;have hd : Hid (decide (ny = nx + 1) = (ny == nx + 1)):=(by unfold Hid;cases h : (ny == nx + 1) <;> simp_all);by_cases hh : x.h = y.h
 ·have gh : (x.h.toList == y.h.toList) = true := by rw [hh]; exact beq_self_eq_true _
  have hr : Hid (R = (ny == nx + 1)):=by unfold Hid;rw [hR.out,zt hh,Bool.true_and];exact hd.out
  clear hh hd hR;have n1:=fun u : XW _ => NX _ (C.ext u.e)
  have n2:=fun u : XW _ => NY _ (C.ext u.e)
  refine Zj v ?_;intro w2 h2;clear n1 n2;obtain ⟨hcbw2,hfbw2,hzbw2,hzw2⟩:=Zi v h2;go_wp2;go_ret;exact ⟨by rw [hr.out];rfl,E.trans h2⟩
 ·have gh : (x.h.toList == y.h.toList) = false:=zb fun h => hh (Fj h)
  have hr : Hid (R = false):=by unfold Hid;rw [hR.out,zf hh];rfl
  clear hh hd hR;have n1:=fun u : XW _ => NX _ (C.ext u.e)
  have n2:=fun u : XW _ => NY _ (C.ext u.e)
  refine Zj v ?_;intro w2 h2;clear n1 n2;obtain ⟨hcbw2,hfbw2,hzbw2,hzw2⟩:=Zi v h2;go_wp2;go_ret;exact ⟨by rw [hr.out];rfl,E.trans h2⟩
end
section
open Go Go.RowKit Go.Shelf
attribute [local go_sem] Zu
def C6 : Ren:=⟨fun | 4 => 123 | n => n,fun | 0 => 0 | 3 => 3 | 4 => 4 | 9 => 9 | 20 => 20 | 22 => 53 | 25 => 57 | n => n,fun n => n⟩
theorem C5 : Lays8.n4 Tryz.prog C6 where
 mixed:=by kernel_rfl
 f4:=⟨Tryz.f123.name,by kernel_rfl,Tryz.func123.trans (congrArg some zK)⟩
 t0:=Tryz.underlying0
 a0:=Tryz.isAgg0
 z0:=Tryz.sizeOf0
 v0:=Tryz.zeroValue0
 t3:=Tryz.underlying3
 a3:=Tryz.isAgg3
 z3:=Tryz.sizeOf3
 v3:=Tryz.zeroValue3
 t4:=Tryz.underlying4
 a4:=Tryz.isAgg4
 z4:=Tryz.sizeOf4
 v4:=Tryz.zeroValue4
 t9:=Tryz.underlying9
 a9:=Tryz.isAgg9
 z9:=Tryz.sizeOf9
 v9:=Tryz.zeroValue9
 t20:=Tryz.underlying20
 a20:=Tryz.isAgg20
 z20:=Tryz.sizeOf20
 v20:=Tryz.zeroValue20
 t22:=Tryz.underlying53
 a22:=Tryz.isAgg53
 z22:=Tryz.sizeOf53
 v22:=Tryz.zeroValue53
theorem Qgk (n : Nat) (w : World) (hn : n ≤ 1000000) :
  Calls Tryz.prog 123 #[.slice none 0 0,.int .i64 n] w fun e w' => ∃ F m,e = .returned (.slice F 0 m) ∧ Qc w w' ∧ w'.ownsRow w.heap.size 57 7 (.slice F 0 m) 0 []:=by
 by_cases h0 : n = 0
 ·subst h0;refine zc (Any8.slices_Grow_room C5 none 0 0 0 w (Nat.le_refl _) zD zD (Nat.le_refl _)) ?_;rintro e w' ⟨rfl,rfl⟩;exact ⟨none,0,rfl,Qc.refl _,World.ownsRow_nil _ _ _ _⟩
 ·obtain ⟨i0,hi,hz0,hz1,hz2⟩:=info_parts Sa;refine zc (Any8.slices_Grow_grow C5 i0 _ hi hz0 (by rw [hz1];decide) none 0 0 n [] w (Nat.le_refl _) Qb (by rw [hz2];omega) Qb (by simp) (fun _ => rfl) (fun a h => by cases h)) ?_;rintro e w' ⟨rfl,rfl⟩;have hw : Qc w w.drew:=⟨rfl,rfl,rfl,Nat.le_refl _,fun _ _ => rfl⟩;refine ⟨_,_,rfl,hw.alloc _,?_⟩;have hs : w.drew.heap.size = w.heap.size:=rfl;rw [← hs];refine World.ownsRow_made w.drew _ _ (Nat.le_refl _) (grownCap_le_maxLen _ _ _ _ (by unfold maxLen;omega)) ?_;have hg:=grownCap_ge w (0 + n) 0 (C6.t 25);simp only [Nat.zero_add] at hg;simp [Builtin.zeroCells,Value.cells];omega
theorem Cz {f : Nat → List Value} {sz : Nat} (hf : ∀ i,(f i).length = sz) {i j : Nat} (hj : j < sz) (u : Value) : ∀ {n},i < n → (Q7 f n).set (i * sz + j) u = Q7 (fun y => if y = i then (f i).set j u else f y) n
 | n + 1,hi => by
  have hl:=Xz (f:=f) (sz:=sz) hf n;rw [U0,U0];by_cases e : i = n
  ·subst e;rw [List.set_append_right _ _ Qb,hl,if_pos rfl,show i * sz + j - i * sz = j by omega];rw [K2 (f':=fun y => if y = i then (f i).set j u else f y) i (fun y hy => by simp [show y ≠ i by omega])]
  ·have hin : i < n:=Qb
   have hb : i * sz + j < n * sz:=by
    have h1 : (i + 1) * sz ≤ n * sz:=Nat.mul_le_mul_right _ hin;rw [Nat.succ_mul] at h1;omega
   rw [List.set_append_left _ _ Qb,Cz hf hj u hin,if_neg Qb]
theorem Qfc (g : Nat → Dl) (vs : Nat → Value) {n k : Nat} (hk : k < n) (u : Value) : (Q7 (fun i => Zh (g i) (vs i)) n).set (k * 7 + 6) u = Q7 (fun i => Zh (g i) (if i = k then u else vs i)) n:=by
 rw [Cz (f:=fun i => Zh (g i) (vs i)) (sz:=7) (fun _ => rfl) zD u hk];refine K2 n (fun i _ => ?_);by_cases e : i = k
 ·subst e;simp [Zh]
 ·simp [e]
theorem Qfd {w : World} {base q n cap k : Nat} {g : Nat → Dl} {vs : Nat → Value} (h : w.ownsRow base 57 7 (.slice (some ⟨q,0,none⟩) n cap) n (Q7 (fun i => Zh (g i) (vs i)) n)) (hk : k < n) : w.cell? ⟨q,k * 7 + 6,none⟩ = some (vs k):=by
 rw [World.ownsRow.cellAt h (k * 7 + 6) Qb,Vk (f:=fun i => Zh (g i) (vs i)) (sz:=7) (fun _ => rfl) hk zD];rfl
theorem Tg {w : World} {g : Nat → Dl} {vs : Nat → Value} {n : Nat} (h : ∀ i,i < n → Q9 w (vs i) (g i).l) : ∀ u ∈ Q7 (fun i => Zh (g i) (vs i)) n,u.oneCell' = true:=fun u hu => by
 obtain ⟨i,hi,hm⟩:=List.mem_flatMap.1 hu;obtain ⟨A,c,hv,_⟩:=h i (List.mem_range.1 hi);rw [hv] at hm;exact Qd7 _ _ _ _ u hm
theorem Ez {W : World} {base : Nat} {e : TypeId} {sz : Nat} {g n cap : Nat} {xs : List Value} {v : Value} {l : List Lt} (h : Xo W base v l) (hO : W.ownsRow base e sz (.slice (some ⟨g,0,none⟩) n cap) n xs) (hne : 85 ≠ e) (j : Nat) (u : Value) : Xo (W.setCell ⟨g,j,none⟩ u) base v l :=
 World.ownsRow.kept h (World.ownsRow.stored hO j u).2 (N8 h hO hne)
theorem Qen (v : Value) (l : List Dl) (w : World) (hD : Ja w v l) (hn : l.length ≤ 1000000) :
  Calls Tryz.prog 109 #[v] w fun e w' => ∃ v',e = .returned v' ∧ Qc w w' ∧ ∃ vs : Nat → Value,w'.ownsRow w.heap.size 57 7 v' l.length (Q7 (fun i => Zh (l.getD i Qv) (vs i)) l.length) ∧ ∀ i,i < l.length → Q9 w (vs i) (l.getD i Qv).l:=by
 obtain ⟨T,cap,vs,rfl,hT,hcap,hmax,hnil,hat⟩:=hD;have hone:=Tg (g:=fun i => l.getD i Qv) hat;obtain ⟨g,hg⟩:=Qf (fun i => l.getD i Qv);have hg' : ∀ i,l.getD i Qv = g i:=fun i => by rw [hg]
 simp only [hg'] at hT hat hone ⊢;clear hg hg';generalize l.length = n at *;replace hat:=zh hat;have q23 : ∀ (w : World) (a : OA) (n c n' c' : Nat),(binOp .eql 53 (.slice a n c) (.slice none n' c')).run Tryz.prog w = .ok (.bool a.isNone) w:=fun w a n c n' c' => Lib.run_eql_slice_nil w _ _ a n c n' c' Tryz.underlying53
 cases T with
 | none =>
  obtain ⟨rfl,rfl⟩:=hnil rfl
  go_enter Tryz.func109,Tryz.ntmps109
  go_wp2;go_ret
  first | exact ⟨_,rfl,Qc.refl _,vs,World.ownsRow_nil _ _ _ _,hat.out⟩ | exact ⟨_,rfl,Qc.refl _,vs,World.ownsRow_nil _ _ _ _⟩
 | some a =>
  obtain ⟨i0,hi,hz0,hz1,hz2⟩:=info_parts Sa;have hlen:=Xz (f:=fun i => Zh (g i) (vs i)) (sz:=7) (fun _ => rfl) n;have HN:=fun v (h : Qo v (some a) n 7 (fun i => Zh (g i) (vs i))) => Ly (f:=fun i => Zh (g i) (vs i)) (sz:=7) (fun _ => rfl) zD h
  go_enter Tryz.func109,Tryz.ntmps109
  go_wp2_with (at_builtin;refine wpList_append_own _ rfl _ _ 53 rfl w.heap.size 57 i0 (.agg #[.int .i64 0,.int .i64 0,.bool false,.int .i64 0,.bool false,.string ⟨#[]⟩,.slice none 0 0]) 7 80 Tryz.underlying53 hi hz0 hz1 hz2 rfl zD _ _ _ rfl (World.ownsRow_made w #[] 0 (Nat.le_refl _) (Nat.zero_le _) rfl) a n cap (Q7 (fun i => Zh (g i) (vs i)) n) rfl hlen (HN _ (hT.ext ((Qc.refl _).alloc _)) a rfl) hone (by unfold maxLen;omega) Qb (by simp) ?_;intro v' w1 hown hgrow hnil2);go_ret;refine ⟨v',rfl,((Qc.refl w).alloc _).grown hgrow (fun q hq => by have h : some w.heap.size = some q:=hq;cases h;exact Nat.le_refl _),vs,by simpa using hown,hat.out⟩
theorem Hj (v : Value) (l : List Dl) (w : World) (hD : Ja w v l) (hn : l.length ≤ 1000000) (hl : ∀ i,i < l.length → (l.getD i Qv).l.length ≤ 1000000) :
  Calls Tryz.prog 62 #[v] w fun e w' => ∃ v',e = .returned v' ∧ Qc w w' ∧ Jr w' w.heap.size v' l.length (fun i => l.getD i Qv):=by
 have NC:=fun w h => Qen v l w h hn
 obtain ⟨D,cap,vs,rfl,hT,hcap,hmax,_,hat⟩:=id hD;obtain ⟨g,hg⟩:=Qf (fun i => l.getD i Qv);have hg' : ∀ i,l.getD i Qv = g i:=fun i => by rw [hg]
 simp only [hg'] at hT hat hl NC ⊢;clear hg hg' hmax;generalize l.length = n at *;replace hat:=zh hat;replace hl:=zh hl
 go_enter Tryz.func62,Tryz.ntmps62
 go_upto_region 2 with (go_at_call 109;refine zc (NC _ hD) ?_;rintro e w1 ⟨v',rfl,h1,vs1,hO1,_⟩;obtain ⟨FO,mO,rfl⟩:=Z9 hO1)
 clear NC hD;go_upto_region 3 with fail
 go_loopw [9] (fun iv wr => ∃ (k : Nat) (vs' : Nat → Value),k ≤ n ∧ iv = .int .i64 k ∧ Qc w wr ∧ wr.ownsRow w.heap.size 57 7 (.slice FO n mO) n (Q7 (fun i => Zh (g i) (vs' i)) n) ∧ Hid (∀ i,i < k → Xo wr w.heap.size (vs' i) (g i).l)) (fun iv _ => n - (intOf iv).toNat)
 case atStart => exact ⟨0,vs1,Nat.zero_le _,rfl,h1,hO1,fun i h => absurd h Qb⟩
 case round =>
  clear hO1 h1;obtain ⟨k,vs',hk,rfl,hE,hO,hLo⟩:=hrel;obtain ⟨wo,rfl⟩:=Qf wr;by_cases hlt : k < n;rotate_left
  ·obtain rfl : n = k:=Qb;go_wp2;go_ret;exact ⟨_,rfl,hE,vs',hO,hLo.out⟩
  obtain ⟨q,cq,hv,hbq,_⟩:=Vu hO Qb;injection hv with hv1 _ hv2
  subst hv1;subst hv2;obtain ⟨b,off,rfl,hb,hc⟩:=(hT.ext hE) Qb;have c6 : wo.cell? ⟨b,off + k * 7 + 6,none⟩ = some (vs k):=by simpa [Zh] using hc k 6 _ hlt rfl
  have HL:=(hat.out k hlt).ext hE;have hs:=hl.out k hlt;obtain ⟨VL,hvl⟩:=Qf (vs k);rw [← hvl] at c6 HL;clear hc hvl hat hl;obtain ⟨TL,cl,hVL,_⟩:=id HL;subst hVL;have NL:=fun w h => Uy (.slice TL (g k).l.length cl) (g k).l w h hs
  go_upto_region 6 with (go_at_call 59;refine zc (NL _ HL) ?_;rintro e w2 ⟨vl,rfl,h2,hS⟩;obtain ⟨F0,m0,rfl⟩:=Z9 hS;have hO2:=Q1 hO h2;have fz:=World.ownsRow.frozenAt hO2 (k * 7 + 6);have xz:=Qfd hO2 hlt;have xl:=N9 hO2)
  have hS2 : Xo w2 w.heap.size (.slice F0 (g k).l.length m0) (g k).l:=Xe hS hE.size;have hO3:=(World.ownsRow.stored hO2 (k * 7 + 6) (.slice F0 (g k).l.length m0)).1;rw [Qfc g vs' hlt] at hO3;have hE3:=(hE.trans h2).setCell (p:=⟨q,k * 7 + 6,none⟩) hbq (.slice F0 (g k).l.length m0)
  have hL3 : Hid (∀ i,i < k + 1 → Xo (w2.setCell ⟨q,k * 7 + 6,none⟩ (.slice F0 (g k).l.length m0)) w.heap.size (if i = k then .slice F0 (g k).l.length m0 else vs' i) (g i).l):=fun i hi => by
   by_cases e : i = k
   ·subst e;rw [if_pos rfl];exact Ez hS2 hO2 zD _ _
   ·rw [if_neg e];exact Ez (Q1 (hLo.out i Qb) h2) hO2 zD _ _
  generalize w2.setCell ⟨q,k * 7 + 6,none⟩ (.slice F0 (g k).l.length m0) = w3 at *;clear fz xz xl hO2 hS hS2 h2 hLo hO NL HL c6 hE hb;go_wp2;exact ⟨⟨k + 1,_,Qb,by go_num,hE3,hO3,hL3⟩,zi⟩
theorem Cy (f g : Nat → List Value) (n : Nat) : ∀ m,Q7 f n ++ Q7 g m = Q7 (fun i => if i < n then f i else g (i - n)) (n + m)
 | 0 => by
  rw [show Q7 g 0 = [] from rfl,List.append_nil]
  exact K2 n (fun i hi => by rw [if_pos hi])
 | m + 1 => by
  rw [U0,← List.append_assoc,Cy f g n m,show n + (m + 1) = (n + m) + 1 by omega,U0,if_neg Qb,show n + m - n = m by omega]
theorem Qfh {w : World} {base : Nat} {v : Value} {x y : List Dl} {vs1 vs2 : Nat → Value} (h : w.ownsRow base 57 7 v (x.length + y.length) (Q7 (fun i => Zh (x.getD i Qv) (vs1 i)) x.length ++ Q7 (fun i => Zh (y.getD i Qv) (vs2 i)) y.length)) (h1 : ∀ i,i < x.length → Q9 w (vs1 i) (x.getD i Qv).l) (h2 : ∀ i,i < y.length → Q9 w (vs2 i) (y.getD i Qv).l) : Ja w v (x ++ y):=by
 rw [Cy] at h;have hl : (x ++ y).length = x.length + y.length:=by simp
 have hx : ∀ i,i < x.length → (x ++ y).getD i Qv = x.getD i Qv:=fun i hi => by simp [List.getD_eq_getElem?_getD,List.getElem?_append_left hi]
 have hy : ∀ i,¬ i < x.length → (x ++ y).getD i Qv = y.getD (i - x.length) Qv:=fun i hi => by simp [List.getD_eq_getElem?_getD,List.getElem?_append_right (show x.length ≤ i by omega)]
 have e : Q7 (fun i => if i < x.length then Zh (x.getD i Qv) (vs1 i) else Zh (y.getD (i - x.length) Qv) (vs2 (i - x.length))) (x.length + y.length) = Q7 (fun i => Zh ((x ++ y).getD i Qv) (if i < x.length then vs1 i else vs2 (i - x.length))) (x.length + y.length):=K2 _ (fun i _ => by
  by_cases c : i < x.length
  ·rw [if_pos c,if_pos c,hx i c]
  ·rw [if_neg c,if_neg c,hy i c])
 rw [e] at h;obtain ⟨F,c,g1,g2,g3,g4,g5,_⟩:=Vl (f:=fun i => Zh ((x ++ y).getD i Qv) (if i < x.length then vs1 i else vs2 (i - x.length))) (fun _ => rfl) h;refine ⟨F,c,_,by rw [hl];exact g1,by rw [hl];exact g2,by rw [hl];exact g3,g4,fun h => by rw [hl];exact g5 h,fun i hi => ?_⟩;by_cases c : i < x.length
 ·simp only [if_pos c];rw [hx i c];exact h1 i c
 ·simp only [if_neg c];rw [hy i c];exact h2 _ (by rw [hl] at hi;omega)
theorem Qex (bs : Nat) (D1 D2 : OA) (c1 c2 : Nat) (x y : List Dl) (w : World) (hB : Qa w bs 53 #[.slice D1 x.length c1,.slice D2 y.length c2]) (h1 : Ja w (.slice D1 x.length c1) x) (h2 : Ja w (.slice D2 y.length c2) y) (hx : x.length ≤ 64) (hy : y.length ≤ 64) :
  Calls Tryz.prog 75 #[.slice (some ⟨bs,0,none⟩) 2 2] w fun e w' => ∃ v',e = .returned v' ∧ Qc w w' ∧ Ja w' v' (x ++ y):=by
 obtain ⟨i0,hi,hz0,hz1,hz2⟩:=info_parts Sa;have NG:=fun n w h => Qgk n w h
 obtain ⟨D1',c1',vs1,e1,hD1,hcap1,hmax1,hnil1,hat1⟩:=h1;obtain ⟨rfl,rfl⟩ : D1 = D1' ∧ c1 = c1':=by simpa using e1
 obtain ⟨D2',c2',vs2,e2,hD2,hcap2,hmax2,hnil2,hat2⟩:=h2;obtain ⟨rfl,rfl⟩ : D2 = D2' ∧ c2 = c2':=by simpa using e2
 clear e1 e2;obtain ⟨a0,a1,al⟩:=Qa.d2 hB
 go_enter Tryz.func75,Tryz.ntmps75
 go_upto_region 3 with fail
 go_loopw [3,11] (fun sv iv wr => ∃ k : Nat,k ≤ 2 ∧ iv = .int .i64 k ∧ sv = .int .i64 ((if k = 0 then 0 else if k = 1 then x.length else x.length + y.length : Nat) : Int) ∧ wr = w) (fun _ iv _ => 2 - (intOf iv).toNat)
 case atStart => exact ⟨0,by decide,rfl,rfl,rfl⟩
 case round =>
  obtain ⟨k,hk,rfl,rfl,hw⟩:=hrel;obtain rfl : w = wr:=hw.symm;clear hw;have hk3 : k = 0 ∨ k = 1 ∨ k = 2:=Qb;rcases hk3 with rfl | rfl | rfl
  ·go_wp2;exact ⟨⟨1,by decide,by go_num,by simp,by simp⟩,by simp [intOf]⟩
  ·go_wp2;exact ⟨⟨2,by decide,by go_num,by simp,by simp⟩,by simp [intOf]⟩
  ·have NG2 : Calls Tryz.prog 123 #[.slice none 0 0, .int .i64 ((x.length : Int) + (y.length : Int))] w fun e w' => ∃ F m, e = .returned (.slice F 0 m) ∧ Qc w w' ∧ w'.ownsRow w.heap.size 57 7 (.slice F 0 m) 0 [] := by simpa using NG (x.length + y.length) w Qb
   clear NG;go_upto_region 11 with (go_at_call 123;refine zc (NG2) ?_;rintro e w2 ⟨FG,mG,rfl,hx2,hO0⟩)
   clear NG2;clear a0 a1 al;have L1:=Xz (f:=fun i => Zh (x.getD i Qv) (vs1 i)) (sz:=7) (fun _ => rfl) x.length;have L2:=Xz (f:=fun i => Zh (y.getD i Qv) (vs2 i)) (sz:=7) (fun _ => rfl) y.length;have O1:=Tg (g:=fun i => x.getD i Qv) hat1;have O2:=Tg (g:=fun i => y.getD i Qv) hat2;have W1:=fun v (h : Qo v D1 x.length 7 (fun i => Zh (x.getD i Qv) (vs1 i))) => Ly (f:=fun i => Zh (x.getD i Qv) (vs1 i)) (sz:=7) (fun _ => rfl) zD h
   have W2:=fun v (h : Qo v D2 y.length 7 (fun i => Zh (y.getD i Qv) (vs2 i))) => Ly (f:=fun i => Zh (y.getD i Qv) (vs2 i)) (sz:=7) (fun _ => rfl) zD h
   obtain ⟨XX,hXX⟩:=Qf (Q7 (fun i => Zh (x.getD i Qv) (vs1 i)) x.length);obtain ⟨YY,hYY⟩:=Qf (Q7 (fun i => Zh (y.getD i Qv) (vs2 i)) y.length);simp only [← hXX] at L1 O1 W1;simp only [← hYY] at L2 O2 W2;replace hXX:=zh hXX;replace hYY:=zh hYY
   go_loopw [6,27] (fun ov iv wr => ∃ k : Nat,k ≤ 2 ∧ iv = .int .i64 k ∧ wr.ownsRow w.heap.size 57 7 ov (if k = 0 then 0 else if k = 1 then x.length else x.length + y.length) (if k = 0 then [] else if k = 1 then XX else XX ++ YY) ∧ Qc w wr) (fun _ iv _ => 2 - (intOf iv).toNat)
   case atStart => exact ⟨0,by decide,rfl,by simpa using hO0,hx2⟩
   case round =>
    clear hO0 hx2;obtain ⟨k,hk,rfl,hO,hE⟩:=hrel;obtain ⟨wo,rfl⟩:=Qf wr;have hk3 : k = 0 ∨ k = 1 ∨ k = 2:=Qb;rcases hk3 with rfl | rfl | rfl
    ·simp only [if_true] at hO;obtain ⟨FO,mO,rfl⟩:=Z9 hO;obtain ⟨a0,a1,al⟩:=Qa.d2 (hB.ext hE)
     cases D1 with
     | none =>
      obtain ⟨hxz,hcz⟩:=hnil1 rfl;have hXz : XX = []:=List.length_eq_zero_iff.1 (by rw [L1,hxz]);replace hXz:=zh hXz;replace hxz:=zh hxz;replace hcz:=zh hcz;clear hnil1 hnil2;go_wp2_with (at_builtin;refine wpList_append_own_none rfl _ _ 53 rfl w.heap.size 57 i0 7 Tryz.underlying53 hi _ _ _ rfl hO (by show Value.slice none x.length c1 = _;rw [hxz.out,hcz.out]) ?_)
      exact ⟨⟨1,by decide,by go_num,by simpa [hXz.out,hxz.out] using hO,hE⟩,by simp [intOf]⟩
     | some ad =>
      go_wp2_with (at_builtin;refine wpList_append_own_at _ rfl _ _ 53 rfl w.heap.size 57 i0 (.agg #[.int .i64 0,.int .i64 0,.bool false,.int .i64 0,.bool false,.string ⟨#[]⟩,.slice none 0 0]) 7 80 Tryz.underlying53 hi hz0 hz1 hz2 rfl zD _ _ _ rfl hO ad x.length c1 XX rfl L1 (W1 _ (hD1.ext hE) ad rfl) O1 (by unfold maxLen;omega) Qb hE.size ?_;intro v' w1 hown hgrow _ _);exact ⟨⟨1,by decide,by go_num,by simpa using hown,hE.grown hgrow (fun q hq => (hO.lt q hq).1)⟩,by simp [intOf]⟩
    ·simp only [show ¬ (1 = 0) by decide, if_false, if_true] at hO;obtain ⟨FO, mO, rfl⟩ := Z9 hO;obtain ⟨a0, a1, al⟩ := Qa.d2 (hB.ext hE)
     cases D2 with
     | none =>
      obtain ⟨hxz,hcz⟩:=hnil2 rfl;have hXz : YY = []:=List.length_eq_zero_iff.1 (by rw [L2,hxz]);replace hXz:=zh hXz;replace hxz:=zh hxz;replace hcz:=zh hcz;clear hnil1 hnil2;go_wp2_with (at_builtin;refine wpList_append_own_none rfl _ _ 53 rfl w.heap.size 57 i0 7 Tryz.underlying53 hi _ _ _ rfl hO (by show Value.slice none y.length c2 = _;rw [hxz.out,hcz.out]) ?_)
      exact ⟨⟨2,by decide,by go_num,by simpa [hXz.out,hxz.out] using hO,hE⟩,by simp [intOf]⟩
     | some ad =>
      go_wp2_with (at_builtin;refine wpList_append_own_at _ rfl _ _ 53 rfl w.heap.size 57 i0 (.agg #[.int .i64 0,.int .i64 0,.bool false,.int .i64 0,.bool false,.string ⟨#[]⟩,.slice none 0 0]) 7 80 Tryz.underlying53 hi hz0 hz1 hz2 rfl zD _ _ _ rfl hO ad y.length c2 YY rfl L2 (W2 _ (hD2.ext hE) ad rfl) O2 (by unfold maxLen;omega) Qb hE.size ?_;intro v' w1 hown hgrow _ _);exact ⟨⟨2,by decide,by go_num,by simpa using hown,hE.grown hgrow (fun q hq => (hO.lt q hq).1)⟩,by simp [intOf]⟩
    ·simp only [show ¬ (2 = 0) by decide,show ¬ (2 = 1) by decide,if_false] at hO;rw [hXX.out,hYY.out] at hO;go_wp2;go_ret;exact ⟨_,rfl,hE,Qfh hO (fun i hi => (hat1 i hi).ext hE) (fun i hi => (hat2 i hi).ext hE)⟩
theorem Ey {w : World} {base k : Nat} {v : Value} {l : List Lt} (h : w.ownsRow base 85 2 v k (l.flatMap Jj)) : Xo w base v l:=by
 have hk:=h.1;rw [Gf] at hk;obtain rfl : k = l.length:=Qb;exact h
theorem Ew (w : World) (b : Nat) : Xo w b (.slice none 0 0) []:=World.ownsRow_nil _ _ _ _
theorem Qcy (v1 v2 : Value) (a b : List Lt) (w : World) (h1 : Q9 w v1 a) (h2 : Q9 w v2 b) :
  Calls Tryz.prog 19 #[v1,v2] w fun e w' => ∃ F k m,e = .returned (.tuple #[.slice F k m,.int .i64 (Z4 1 a b)]) ∧ Qc w w' ∧ Xo w' w.heap.size (.slice F k m) (Yg 1 a b):=by
 obtain ⟨T,cap,rfl,hT,hcap,hmax,_⟩:=h1;obtain ⟨S,cm,rfl,hS,hcm,hmm,_⟩:=h2;refine zc (Df T a.length cap (Qz a) S b.length cm (Qz b) w hT hcap (Nat.le_trans hcap (Nat.le_trans hmax zD)) hS hcm (Nat.le_trans hcm (Nat.le_trans hmm zD))) ?_;rintro e w' ⟨F,k,c,rfl,hx,ho⟩;exact ⟨F,k,c,rfl,hx,Ey ho⟩
theorem Qlo (v1 v2 : Value) (a b : List Lt) (w : World) (h1 : Q9 w v1 a) (h2 : Q9 w v2 b) :
  Calls Tryz.prog 108 #[v1,v2] w fun e w' => ∃ F k m,e = .returned (.tuple #[.slice F k m,.int .i64 (Z4 (-1) a b)]) ∧ Qc w w' ∧ Xo w' w.heap.size (.slice F k m) (Yg (-1) a b):=by
 obtain ⟨T,cap,rfl,hT,hcap,hmax,_⟩:=h1;obtain ⟨S,cm,rfl,hS,hcm,hmm,_⟩:=h2;refine zc (Qbu T a.length cap (Qz a) S b.length cm (Qz b) w hT hcap (Nat.le_trans hcap (Nat.le_trans hmax zD)) hS hcm (Nat.le_trans hcm (Nat.le_trans hmm zD))) ?_;rintro e w' ⟨F,k,c,rfl,hx,ho⟩;exact ⟨F,k,c,rfl,hx,Ey ho⟩
theorem O8 (vo vd : Value) (o : List Lt) (d : List Dl) (w : World) (hO : Q9 w vo o) (hD : Ja w vd d) (ho : o.length ≤ 1000000) :
  Calls Tryz.prog 61 #[vo,vd] w fun e w' => ∃ v',e = .returned (.tuple #[v',.int .i64 (Q4 o d).2]) ∧ Qc w w' ∧ Xo w' w.heap.size v' (Q4 o d).1:=by
 obtain ⟨D,cap,vs,rfl,hD,hcap,hmax,_,hat⟩:=hD;have hn : d.length ≤ 9223372036854775807:=Nat.le_trans hcap (Nat.le_trans hmax zD);have NC:=Uy vo o w hO ho;obtain ⟨A0,cc0,rfl,_⟩:=id hO;obtain ⟨R,hR⟩:=Qf (Q4 o d);rw [← hR];replace hR:=zh hR
 go_enter Tryz.func61,Tryz.ntmps61
 go_upto_region 2 with (go_at_call 59;refine zc (NC) ?_;rintro e w1 ⟨v0,rfl,h1,hown⟩)
 have hS0 : Xo w1 w.heap.size v0 o:=hown;obtain ⟨F0,m0,rfl⟩:=Z9 hown;clear NC hown hO;go_upto_region 3 with fail
 obtain ⟨n,hnl⟩:=Qf (d.length);rw [← hnl] at hn hD hat hcap ⊢;replace hnl:=zh hnl;obtain ⟨g,hg⟩:=Qf (fun i => d.getD i Qv);have hg' : ∀ i,d.getD i Qv = g i:=fun i => by rw [hg]
 have hdr : Hid (∀ s k,k < n → Q4 s (d.drop k) = if Z4 (X0 (g k).i) s (g k).l ≠ 0 then ([],Z4 (X0 (g k).i) s (g k).l) else Q4 (Yg (X0 (g k).i) s (g k).l) (d.drop (k + 1))):=fun s k hk => by
  rw [Qbx s (by rw [← hnl.out];exact hk),hg']
 simp only [hg'] at hD hat;clear hg hg';replace hat:=zh hat;have hD1:=hD.ext h1
 go_loopw [6,16] (fun sv iv wr => ∃ (k : Nat) (s : List Lt),k ≤ n ∧ iv = .int .i64 k ∧ Xo wr w.heap.size sv s ∧ Hid (R = Q4 s (d.drop k)) ∧ Qc w wr) (fun _ i _ => n - (intOf i).toNat)
 case atStart => exact ⟨0,o,Nat.zero_le _,rfl,hS0,by unfold Hid;rw [hR.out];rfl,h1⟩
 case round =>
  clear hS0;obtain ⟨k,s,hk,rfl,hS,hrun,hE⟩:=hrel;obtain ⟨wo,rfl⟩:=Qf wr;by_cases hlt : k < n
  ·obtain ⟨b,off,rfl,hb,hc⟩:=(hD.ext hE) Qb;have hL:=(hat.out k hlt).ext hE;obtain ⟨c0,c1,c2,c3,c4,c5,c6⟩:=zp7 hc hlt;have HS:=zh (hdr.out s k hlt);obtain ⟨VL,hvl⟩:=Qf (vs k);rw [← hvl] at c6 hL;clear hvl hc hdr hat hR hD hD1;obtain ⟨TL,cl,hVL,_⟩:=id hL;subst hVL;obtain ⟨AS,cs,hsv⟩:=Z9 hS;subst hsv;obtain ⟨SD,hSD⟩:=Qf (Q4 s (d.drop k));rw [← hSD] at HS hrun;clear hSD;go_upto_region 5 with fail
   obtain ⟨v3,hv⟩:=Qf (wo.alloc (.cells #[.int .i64 (g k).on.y,.int .i64 (g k).on.m,.bool (g k).on.s,.int .i64 (g k).on.d,.bool (g k).i,.string (g k).w,.slice TL (g k).l.length cl] 57));rw [← hv];have E3 : Qc wo v3:=by rw [hv];exact (Qc.refl _).alloc _
   have H3 : Qa v3 wo.heap.size 57 #[.int .i64 (g k).on.y,.int .i64 (g k).on.m,.bool (g k).on.s,.int .i64 (g k).on.d,.bool (g k).i,.string (g k).w,.slice TL (g k).l.length cl]:=by rw [hv];exact Qa.new _ _ _
   clear hv;generalize wo.heap.size = b3 at *;clear c0 c1 c2 c3 c4 c5 c6;replace hL:=hL.ext E3;replace hS : Xo v3 w.heap.size _ s:=Q1 hS E3;replace hE:=hE.trans E3;clear E3;have NA:=fun h1 h2 => Qcy (.slice AS s.length cs) (.slice TL (g k).l.length cl) s (g k).l v3 h1 h2
   have NB:=fun h1 h2 => Qlo (.slice AS s.length cs) (.slice TL (g k).l.length cl) s (g k).l v3 h1 h2
   obtain ⟨q0,q1,q2,q3,q4,q5,q6,lq⟩:=Qa.d7 H3;cases hi : (g k).i
   ·have NX:=NB (Wi hS) hL;rw [hi] at HS;have HS2 : Hid (SD = if Z4 (-1) s (g k).l ≠ 0 then ([],Z4 (-1) s (g k).l) else Q4 (Yg (-1) s (g k).l) (d.drop (k + 1))):=HS;rw [hi] at q4;clear HS hi;generalize hce : Z4 (-1) s (g k).l = E1 at *;generalize Yg (-1) s (g k).l = L1 at *;by_cases e0 : E1 = 0
    ·subst e0;have HS3:=zh (HS2.out.trans (if_neg (by simp)));clear HS2 hce;go_wp2_with (first | (go_at_call 108;(with_reducible refine zc (NX) ?_);rintro e w6 ⟨F6,k6,m6,rfl,h6,L6⟩) | (go_at_fn 108;(with_reducible refine zc (NX) ?_);rintro e w6 ⟨F6,k6,m6,rfl,h6,L6⟩));exact ⟨⟨k + 1,L1,Qb,by go_num,Xe L6 hE.size,zh (hrun.out.trans HS3.out),hE.trans h6⟩,zi⟩
    ·have g0 : (E1 == 0) = false := zb e0;have g0n : (E1 != 0) = true := by rw [bne, g0]; rfl
     have HS3:=zh (hrun.out.trans (HS2.out.trans (if_pos e0)));clear HS2 hrun hce e0;go_wp2_with (first | (go_at_call 108;(with_reducible refine zc (NX) ?_);rintro e w6 ⟨F6,k6,m6,rfl,h6,L6⟩) | (go_at_fn 108;(with_reducible refine zc (NX) ?_);rintro e w6 ⟨F6,k6,m6,rfl,h6,L6⟩));go_ret2;exact ⟨_,by rw [HS3.out];rfl,hE.trans h6,by rw [HS3.out];exact Ew _ _⟩
   ·have NX:=NA (Wi hS) hL;rw [hi] at HS;have HS2 : Hid (SD = if Z4 1 s (g k).l ≠ 0 then ([],Z4 1 s (g k).l) else Q4 (Yg 1 s (g k).l) (d.drop (k + 1))):=HS;rw [hi] at q4;clear HS hi;generalize hce : Z4 1 s (g k).l = E1 at *;generalize Yg 1 s (g k).l = L1 at *;by_cases e0 : E1 = 0
    ·subst e0;have HS3:=zh (HS2.out.trans (if_neg (by simp)));clear HS2 hce;go_wp2_with (first | (go_at_call 19;(with_reducible refine zc (NX) ?_);rintro e w6 ⟨F6,k6,m6,rfl,h6,L6⟩) | (go_at_fn 19;(with_reducible refine zc (NX) ?_);rintro e w6 ⟨F6,k6,m6,rfl,h6,L6⟩));exact ⟨⟨k + 1,L1,Qb,by go_num,Xe L6 hE.size,zh (hrun.out.trans HS3.out),hE.trans h6⟩,zi⟩
    ·have g0 : (E1 == 0) = false := zb e0;have g0n : (E1 != 0) = true := by rw [bne, g0]; rfl
     have HS3:=zh (hrun.out.trans (HS2.out.trans (if_pos e0)));clear HS2 hrun hce e0;go_wp2_with (first | (go_at_call 19;(with_reducible refine zc (NX) ?_);rintro e w6 ⟨F6,k6,m6,rfl,h6,L6⟩) | (go_at_fn 19;(with_reducible refine zc (NX) ?_);rintro e w6 ⟨F6,k6,m6,rfl,h6,L6⟩));go_ret2;exact ⟨_,by rw [HS3.out];rfl,hE.trans h6,by rw [HS3.out];exact Ew _ _⟩
  ·obtain rfl : k = n:=Qb
   have hr : Hid (R = (s,0)):=by
    unfold Hid;rw [hrun.out,hnl.out,List.drop_length];rfl
   clear hrun hdr hat hR;go_wp2;go_ret2;exact ⟨_,by rw [hr.out];rfl,hE,by rw [hr.out];exact hS⟩
theorem Ue {W : World} {b i : Nat} {t : TypeId} {cs : Array Value} {u : Value} (h : Qa W b t cs) (hi : cs[i]? = some u) : W.setCell ⟨b,i,none⟩ u = W:=by
 unfold Qa at h;obtain ⟨hi1,hi2⟩:=Array.getElem?_eq_some_iff.1 hi
 cases W with
 | mk heap tape drawn os output =>
  unfold World.setCell
  simp only at h ⊢
  congr 1
  apply Array.ext_getElem?;intro j;rw [Array.getElem?_modify]
  split
  ·rename_i hj
   subst hj;rw [h];simp [Array.setIfInBounds,hi1,← hi2]
  ·rfl
theorem Xu {W : World} {b : Nat} {t : TypeId} {u0 u1 u2 u3 u4 u5 u6 u7 u8 u9 u10 u11 : Value} (h : Qa W b t #[u0,u1,u2,u3,u4,u5,u6,u7,u8,u9,u10,u11]) : ((((((((((((W.setCell ⟨b,0,none⟩ u0).setCell ⟨b,1,none⟩ u1).setCell ⟨b,2,none⟩ u2).setCell ⟨b,3,none⟩ u3).setCell ⟨b,4,none⟩ u4).setCell ⟨b,5,none⟩ u5).setCell ⟨b,6,none⟩ u6).setCell ⟨b,7,none⟩ u7).setCell ⟨b,8,none⟩ u8).setCell ⟨b,9,none⟩ u9).setCell ⟨b,10,none⟩ u10).setCell ⟨b,11,none⟩ u11) = W:=by
 rw [Ue (i:=0) (u:=u0) h rfl,Ue (i:=1) (u:=u1) h rfl,Ue (i:=2) (u:=u2) h rfl,Ue (i:=3) (u:=u3) h rfl,Ue (i:=4) (u:=u4) h rfl,Ue (i:=5) (u:=u5) h rfl,Ue (i:=6) (u:=u6) h rfl,Ue (i:=7) (u:=u7) h rfl,Ue (i:=8) (u:=u8) h rfl,Ue (i:=9) (u:=u9) h rfl,Ue (i:=10) (u:=u10) h rfl,Ue (i:=11) (u:=u11) h rfl]
theorem Ac {W : World} {b : Nat} {t : TypeId} {v0 v1 v2 v3 v4 v5 v6 v7 v8 v9 v10 v11 : Value} (h : Qa W b t #[v0,v1,v2,v3,v4,v5,v6,v7,v8,v9,v10,v11]) (u0 u1 u2 u3 u4 u5 u6 u7 u8 u9 u10 u11 : Value) : Qa ((((((((((((W.setCell ⟨b,0,none⟩ u0).setCell ⟨b,1,none⟩ u1).setCell ⟨b,2,none⟩ u2).setCell ⟨b,3,none⟩ u3).setCell ⟨b,4,none⟩ u4).setCell ⟨b,5,none⟩ u5).setCell ⟨b,6,none⟩ u6).setCell ⟨b,7,none⟩ u7).setCell ⟨b,8,none⟩ u8).setCell ⟨b,9,none⟩ u9).setCell ⟨b,10,none⟩ u10).setCell ⟨b,11,none⟩ u11) b t #[u0,u1,u2,u3,u4,u5,u6,u7,u8,u9,u10,u11]:=by unfold Qa at h ⊢;simp [World.setCell,Array.getElem?_modify,h]
theorem Ct {w W : World} {b : Nat} (h : Qc w W) (hb : w.heap.size ≤ b) (u0 u1 u2 u3 u4 u5 u6 u7 u8 u9 u10 u11 : Value) : Qc w ((((((((((((W.setCell ⟨b,0,none⟩ u0).setCell ⟨b,1,none⟩ u1).setCell ⟨b,2,none⟩ u2).setCell ⟨b,3,none⟩ u3).setCell ⟨b,4,none⟩ u4).setCell ⟨b,5,none⟩ u5).setCell ⟨b,6,none⟩ u6).setCell ⟨b,7,none⟩ u7).setCell ⟨b,8,none⟩ u8).setCell ⟨b,9,none⟩ u9).setCell ⟨b,10,none⟩ u10).setCell ⟨b,11,none⟩ u11):=((((((((((((h.setCell (p:=⟨b,0,none⟩) hb u0).setCell (p:=⟨b,1,none⟩) hb u1).setCell (p:=⟨b,2,none⟩) hb u2).setCell (p:=⟨b,3,none⟩) hb u3).setCell (p:=⟨b,4,none⟩) hb u4).setCell (p:=⟨b,5,none⟩) hb u5).setCell (p:=⟨b,6,none⟩) hb u6).setCell (p:=⟨b,7,none⟩) hb u7).setCell (p:=⟨b,8,none⟩) hb u8).setCell (p:=⟨b,9,none⟩) hb u9).setCell (p:=⟨b,10,none⟩) hb u10).setCell (p:=⟨b,11,none⟩) hb u11)
theorem oth12Q {W : World} {b b' : Nat} {t : TypeId} {cs : Array Value} (h : Qa W b' t cs) (hne : b' ≠ b) (u0 u1 u2 u3 u4 u5 u6 u7 u8 u9 u10 u11 : Value) : Qa ((((((((((((W.setCell ⟨b,0,none⟩ u0).setCell ⟨b,1,none⟩ u1).setCell ⟨b,2,none⟩ u2).setCell ⟨b,3,none⟩ u3).setCell ⟨b,4,none⟩ u4).setCell ⟨b,5,none⟩ u5).setCell ⟨b,6,none⟩ u6).setCell ⟨b,7,none⟩ u7).setCell ⟨b,8,none⟩ u8).setCell ⟨b,9,none⟩ u9).setCell ⟨b,10,none⟩ u10).setCell ⟨b,11,none⟩ u11) b' t cs:=(Qg (Qg (Qg (Qg (Qg (Qg (Qg (Qg (Qg (Qg (Qg (Qg h hne 0 u0) hne 1 u1) hne 2 u2) hne 3 u3) hne 4 u4) hne 5 u5) hne 6 u6) hne 7 u7) hne 8 u8) hne 9 u9) hne 10 u10) hne 11 u11)
theorem S8 {W : World} {b : Nat} {t e : TypeId} {v0 v1 v2 v3 v4 v5 v6 v7 v8 v9 v10 v11 : Value} (h : Qa W b t #[v0,v1,v2,v3,v4,v5,v6,v7,v8,v9,v10,v11]) (hte : t ≠ e) {base size k : Nat} {v : Value} {xs : List Value} (hr : W.ownsRow base e size v k xs) (u0 u1 u2 u3 u4 u5 u6 u7 u8 u9 u10 u11 : Value) : (((((((((((((W.setCell ⟨b,0,none⟩ u0).setCell ⟨b,1,none⟩ u1).setCell ⟨b,2,none⟩ u2).setCell ⟨b,3,none⟩ u3).setCell ⟨b,4,none⟩ u4).setCell ⟨b,5,none⟩ u5).setCell ⟨b,6,none⟩ u6).setCell ⟨b,7,none⟩ u7).setCell ⟨b,8,none⟩ u8).setCell ⟨b,9,none⟩ u9).setCell ⟨b,10,none⟩ u10).setCell ⟨b,11,none⟩ u11)).ownsRow base e size v k xs:=by
 have T0:=h;have T1 : Qa _ _ _ #[u0,v1,v2,v3,v4,v5,v6,v7,v8,v9,v10,v11]:=W4 T0 0 u0;have R1:=Xf T0 hte hr 0 u0;have T2 : Qa _ _ _ #[u0,u1,v2,v3,v4,v5,v6,v7,v8,v9,v10,v11]:=W4 T1 1 u1;have R2:=Xf T1 hte R1 1 u1;have T3 : Qa _ _ _ #[u0,u1,u2,v3,v4,v5,v6,v7,v8,v9,v10,v11]:=W4 T2 2 u2;have R3:=Xf T2 hte R2 2 u2;have T4 : Qa _ _ _ #[u0,u1,u2,u3,v4,v5,v6,v7,v8,v9,v10,v11]:=W4 T3 3 u3;have R4:=Xf T3 hte R3 3 u3;have T5 : Qa _ _ _ #[u0,u1,u2,u3,u4,v5,v6,v7,v8,v9,v10,v11]:=W4 T4 4 u4;have R5:=Xf T4 hte R4 4 u4;have T6 : Qa _ _ _ #[u0,u1,u2,u3,u4,u5,v6,v7,v8,v9,v10,v11]:=W4 T5 5 u5
 have R6:=Xf T5 hte R5 5 u5;have T7 : Qa _ _ _ #[u0,u1,u2,u3,u4,u5,u6,v7,v8,v9,v10,v11]:=W4 T6 6 u6;have R7:=Xf T6 hte R6 6 u6;have T8 : Qa _ _ _ #[u0,u1,u2,u3,u4,u5,u6,u7,v8,v9,v10,v11]:=W4 T7 7 u7;have R8:=Xf T7 hte R7 7 u7;have T9 : Qa _ _ _ #[u0,u1,u2,u3,u4,u5,u6,u7,u8,v9,v10,v11]:=W4 T8 8 u8;have R9:=Xf T8 hte R8 8 u8;have T10 : Qa _ _ _ #[u0,u1,u2,u3,u4,u5,u6,u7,u8,u9,v10,v11]:=W4 T9 9 u9;have R10:=Xf T9 hte R9 9 u9;have T11 : Qa _ _ _ #[u0,u1,u2,u3,u4,u5,u6,u7,u8,u9,u10,v11]:=W4 T10 10 u10;have R11:=Xf T10 hte R10 10 u10;have T12 : Qa _ _ _ #[u0,u1,u2,u3,u4,u5,u6,u7,u8,u9,u10,u11]:=W4 T11 11 u11
 have R12:=Xf T11 hte R11 11 u11;exact R12
theorem Qfe {W : World} {b : Nat} {t : TypeId} {v0 v1 v2 v3 v4 v5 v6 v7 v8 v9 v10 v11 : Value} (h : Qa W b t #[v0,v1,v2,v3,v4,v5,v6,v7,v8,v9,v10,v11]) (h1 : t ≠ 85) (h2 : t ≠ 57) {base n : Nat} {v : Value} {g : Nat → Dl} (hr : Jr W base v n g) (u0 u1 u2 u3 u4 u5 u6 u7 u8 u9 u10 u11 : Value) : Jr ((((((((((((W.setCell ⟨b,0,none⟩ u0).setCell ⟨b,1,none⟩ u1).setCell ⟨b,2,none⟩ u2).setCell ⟨b,3,none⟩ u3).setCell ⟨b,4,none⟩ u4).setCell ⟨b,5,none⟩ u5).setCell ⟨b,6,none⟩ u6).setCell ⟨b,7,none⟩ u7).setCell ⟨b,8,none⟩ u8).setCell ⟨b,9,none⟩ u9).setCell ⟨b,10,none⟩ u10).setCell ⟨b,11,none⟩ u11) base v n g:=by
 obtain ⟨vs,g1,g2⟩:=hr;exact ⟨vs,S8 h h2 g1 u0 u1 u2 u3 u4 u5 u6 u7 u8 u9 u10 u11,fun i hi => S8 h h1 (g2 i hi) u0 u1 u2 u3 u4 u5 u6 u7 u8 u9 u10 u11⟩
theorem Sj {W : World} {b : Nat} {t : TypeId} {v0 v1 v2 v3 v4 v5 v6 v7 v8 v9 v10 v11 : Value} (h : Qa W b t #[v0,v1,v2,v3,v4,v5,v6,v7,v8,v9,v10,v11]) (h1 : t ≠ 85) (h2 : t ≠ 57) (u0 u1 u2 u3 u4 u5 u6 u7 u8 u9 u10 u11 : Value) : ∃ wq : World,wq = ((((((((((((W.setCell ⟨b,0,none⟩ u0).setCell ⟨b,1,none⟩ u1).setCell ⟨b,2,none⟩ u2).setCell ⟨b,3,none⟩ u3).setCell ⟨b,4,none⟩ u4).setCell ⟨b,5,none⟩ u5).setCell ⟨b,6,none⟩ u6).setCell ⟨b,7,none⟩ u7).setCell ⟨b,8,none⟩ u8).setCell ⟨b,9,none⟩ u9).setCell ⟨b,10,none⟩ u10).setCell ⟨b,11,none⟩ u11) ∧ Qa wq b t #[u0,u1,u2,u3,u4,u5,u6,u7,u8,u9,u10,u11] ∧ (∀ {base size k : Nat} {v : Value} {xs : List Value},W.ownsRow base 85 size v k xs → wq.ownsRow base 85 size v k xs) ∧ (∀ {base n : Nat} {v : Value} {g : Nat → Dl},Jr W base v n g → Jr wq base v n g) ∧ (∀ {b' : Nat} {t' : TypeId} {cs : Array Value},Qa W b' t' cs → b' ≠ b → Qa wq b' t' cs) ∧ (∀ {w : World},Qc w W → w.heap.size ≤ b → Qc w wq) :=
 ⟨_,rfl,Ac h u0 u1 u2 u3 u4 u5 u6 u7 u8 u9 u10 u11,fun hr => S8 h h1 hr u0 u1 u2 u3 u4 u5 u6 u7 u8 u9 u10 u11,fun hr => Qfe h h1 h2 hr u0 u1 u2 u3 u4 u5 u6 u7 u8 u9 u10 u11,fun h' hne => oth12Q h' hne u0 u1 u2 u3 u4 u5 u6 u7 u8 u9 u10 u11,fun e hb => Ct e hb u0 u1 u2 u3 u4 u5 u6 u7 u8 u9 u10 u11⟩
def Pq (a : OA) (l h m s : Nat) : Value:=sliced a l h m s
theorem Qle {P : Program} (w : World) (t : TypeId) (a : OA) (len cap : Nat) (ht : P.underlying t = some (.slice (P.elem t))) (kl : IntKind) (l : Int) (h0 : 0 ≤ l) (h1 : l ≤ len) :
  (Instr.slice t (.slice a len cap) (some (.int kl l)) none none).run P w = ((sizeOf (P.elem t)).run P w).andThen fun s w => .ok (Pq a l.toNat len cap s) w:=run_slice_l (P:=P) w t a len cap ht kl l h0 h1
theorem Qfj {w : World} {D : OA} {n cap k m : Nat} {l : List Dl} (h : Ja w (.slice D n cap) l) (hkm : k ≤ m) (hm : m ≤ l.length) : Ja w (Pq D k m cap 7) ((l.take m).drop k):=by
 obtain ⟨D',cap',vs,e,hT,hcap,hmax,hnil,hat⟩:=h;obtain ⟨rfl,rfl,rfl⟩ : D = D' ∧ n = l.length ∧ cap = cap':=by simpa using e
 have hl : ((l.take m).drop k).length = m - k:=by simp;omega
 have hg : ∀ i,i < m - k → ((l.take m).drop k).getD i Qv = l.getD (k + i) Qv:=fun i hi => by rw [Cr,Fi _ _ Qb]
 unfold Pq sliced;by_cases hc : cap = k
 ·rw [if_pos hc];have h0 : m - k = 0 := Qb;refine ⟨D, 0, vs, ?_, ?_, Qb, by decide, fun _ => ⟨Qb, rfl⟩, fun i hi => absurd hi Qb⟩
  ·rw [hl,h0,show cap - k = 0 by omega]
  ·rw [hl,h0];exact fun h => absurd h Qb
 ·rw [if_neg hc]
  cases D with
  | none => obtain ⟨_,h0⟩:=hnil rfl;omega
  | some a =>
   refine ⟨some (a.add (k * 7)),cap - k,fun i => vs (k + i),?_,?_,Qb,Qb,fun h => (by cases h),fun i hi => ?_⟩
   ·rw [hl];rfl
   ·rw [hl];intro h0;obtain ⟨b,off,ha,hb,hc⟩:=hT Qb;cases ha
    refine ⟨b,off + k * 7,congrArg some (by unfold Addr.add;split <;> simp_all),hb,fun i j v hi hv => ?_⟩;have hv2 : (Zh (l.getD (k + i) Qv) (vs (k + i)))[j]? = some v:=by rw [← hg i hi];exact hv
    have:=hc (k + i) j v Qb hv2;rw [show off + k * 7 + i * 7 + j = off + (k + i) * 7 + j by omega];exact this
   ·rw [hl] at hi;rw [hg i hi];exact hat (k + i) Qb
theorem Qfk {w : World} {D : OA} {n cap m : Nat} {l : List Dl} (h : Ja w (.slice D n cap) l) (hm : m ≤ l.length) : Ja w (.slice D m cap) (l.take m):=by
 obtain ⟨D',cap',vs,e,hT,hcap,hmax,hnil,hat⟩:=h;obtain ⟨rfl,rfl,rfl⟩ : D = D' ∧ n = l.length ∧ cap = cap':=by simpa using e
 have hl : (l.take m).length = m:=by simp;omega
 refine ⟨D,cap,vs,by rw [hl],?_,Qb,hmax,fun h => ⟨by have:=hnil h;omega,(hnil h).2⟩,fun i hi => ?_⟩
 ·rw [hl];exact (hT.take hm).congr (fun i hi => by show Zh _ _ = Zh _ _;rw [Fi _ _ hi])
 ·rw [hl] at hi;rw [Fi _ _ hi];exact hat i Qb
theorem Qff (w : World) : Ja w (.slice none 0 0) []:=⟨none,0,fun _ => .slice none 0 0,rfl,Qo.nil,Nat.le_refl _,Nat.zero_le _,fun _ => ⟨rfl,rfl⟩,fun i hi => absurd hi (by simp)⟩
theorem Wl (w : World) (b : Nat) : Jm w b Jq (.slice none 0 0) (.slice none 0 0) (.slice none 0 0):=⟨World.ownsRow_nil _ _ _ _,Qfi _ _ _,World.ownsRow_nil _ _ _ _⟩
theorem Qj9 {w : World} {b : Nat} {t : TypeId} {p q : Pd} {vo vd vc uo ud uc : Value} (h : Qa w b t (Qu p vo vd vc ++ Qu q uo ud uc).toArray) (hP : J9 w p vo vd vc) (hQ : J9 w q uo ud uc) : Jw w (.slice (some ⟨b,0,none⟩) 2 2) [p,q] :=
 ⟨some ⟨b,0,none⟩,2,fun i => if i = 0 then vo else uo,fun i => if i = 0 then vd else ud,fun i => if i = 0 then vc else uc,rfl,
  (Km (f:=fun i => Qu (if i = 0 then p else q) (if i = 0 then vo else uo) (if i = 0 then vd else ud) (if i = 0 then vc else uc)) (n:=2) (fun _ => rfl) (by simpa [Q7,List.range_succ] using h)).congr (fun i hi => by
   have hi : i = 0 ∨ i = 1:=by have h2 : i < 2:=hi;omega
   rcases hi with rfl | rfl <;> rfl),Nat.le_refl _,by decide,fun h => (by cases h),fun i hi => by
   have hi : i = 0 ∨ i = 1:=by have h2 : i < 2:=hi;omega
   rcases hi with rfl | rfl
   ·exact hP
   ·exact hQ⟩
theorem Qhu (A A' : OA) (ca cb : Nat) (c : Qd) (x y : Pd) (xo xd xc yo yd yc : Value) (w : World) (hC : Q3 w A ca A' cb c) (hX : J9 w x xo xd xc) (hY : J9 w y yo yd yc) :
  Calls Tryz.prog 30 #[.agg #[.slice A c.nk ca,.slice A' c.ny cb],.agg #[.string x.h,.int .i64 x.a.y,.int .i64 x.a.m,.bool x.a.s,.int .i64 x.a.d,.int .i64 x.b.y,.int .i64 x.b.m,.bool x.b.s,.int .i64 x.b.d,xo,xd,xc],.agg #[.string y.h,.int .i64 y.a.y,.int .i64 y.a.m,.bool y.a.s,.int .i64 y.a.d,.int .i64 y.b.y,.int .i64 y.b.m,.bool y.b.s,.int .i64 y.b.d,yo,yd,yc]] w fun e w' => ∃ vo vd vc,e = .returned (.tuple #[.agg #[.string (c.joinP x y).h,.int .i64 (c.joinP x y).a.y,.int .i64 (c.joinP x y).a.m,.bool (c.joinP x y).a.s,.int .i64 (c.joinP x y).a.d,.int .i64 (c.joinP x y).b.y,.int .i64 (c.joinP x y).b.m,.bool (c.joinP x y).b.s,.int .i64 (c.joinP x y).b.d,vo,vd,vc],.int .i64 (c.joinE x y)]) ∧ Qc w w' ∧ Jm w' w.heap.size (c.joinP x y) vo vd vc:=by
 obtain ⟨t1,s1,e1,_⟩:=id hX.o;subst e1;obtain ⟨t2,s2,_,e2,_⟩:=id hX.d;subst e2;obtain ⟨t3,s3,e3,_⟩:=id hX.c;subst e3;obtain ⟨t4,s4,e4,_⟩:=id hY.o;subst e4;obtain ⟨t5,s5,_,e5,_⟩:=id hY.d;subst e5;obtain ⟨t6,s6,e6,_⟩:=id hY.c;subst e6;have NV:=fun w h1 v h2 => Fm A A' ca cb c v [x,y] w h1 h2
 obtain ⟨pe,hpe⟩:=Qf (c.validE [x,y]);simp only [← hpe] at NV;replace hpe:=zh hpe;obtain ⟨RE,hRE⟩:=Qf (c.joinE x y);obtain ⟨RX,hRX⟩:=Qf (c.joinP x y);rw [← hRE,← hRX];have HR:=zh (And.intro hRE hRX);clear hRE hRX
 go_enter Tryz.func30,Tryz.ntmps30
 go_upto_region 1 with fail
 obtain ⟨v,b1,b2,b3,b4,E,B1,B2,B3,B4,hbr1,hbr2,hbr3,hbr,hn21,hn31,hn32,hn41,hn42,hn43,hv,hb1,hb2,hb3,hb4⟩:=Mz w 25 #[.slice A c.nk ca,.slice A' c.ny cb] 55 #[.string x.h,.int .i64 x.a.y,.int .i64 x.a.m,.bool x.a.s,.int .i64 x.a.d,.int .i64 x.b.y,.int .i64 x.b.m,.bool x.b.s,.int .i64 x.b.d,.slice t1 x.o.length s1,.slice t2 x.d.length s2,.slice t3 x.c.length s3] 55 #[.string y.h,.int .i64 y.a.y,.int .i64 y.a.m,.bool y.a.s,.int .i64 y.a.d,.int .i64 y.b.y,.int .i64 y.b.m,.bool y.b.s,.int .i64 y.b.d,.slice t4 y.o.length s4,.slice t5 y.d.length s5,.slice t6 y.c.length s6] 55 #[.string ⟨#[]⟩,.int .i64 0,.int .i64 0,.bool false,.int .i64 0,.int .i64 0,.int .i64 0,.bool false,.int .i64 0,.slice none 0 0,.slice none 0 0,.slice none 0 0]
 rw [← hv,← hb4,← hb3,← hb2,← hb1];clear hv hb1 hb2 hb3 hb4;have C:=hC.ext E;clear hC;obtain ⟨k0,k1,kl⟩:=Qa.d2 B1;obtain ⟨p0,p1,p2,p3,p4,p5,p6,p7,p8,p9,p10,p11,pl⟩:=Qa.d12 B2;obtain ⟨q0,q1,q2,q3,q4,q5,q6,q7,q8,q9,q10,q11,ql⟩:=Qa.d12 B3;have AL:=(Qc.refl v).alloc (.cells #[.string x.h,.int .i64 x.a.y,.int .i64 x.a.m,.bool x.a.s,.int .i64 x.a.d,.int .i64 x.b.y,.int .i64 x.b.m,.bool x.b.s,.int .i64 x.b.d,.slice t1 x.o.length s1,.slice t2 x.d.length s2,.slice t3 x.c.length s3,.string y.h,.int .i64 y.a.y,.int .i64 y.a.m,.bool y.a.s,.int .i64 y.a.d,.int .i64 y.b.y,.int .i64 y.b.m,.bool y.b.s,.int .i64 y.b.d,.slice t4 y.o.length s4,.slice t5 y.d.length s5,.slice t6 y.c.length s6] 55)
 have NV1:=NV _ (C.ext AL) (.slice (some ⟨v.heap.size,0,none⟩) 2 2) (Qj9 (t:=55) (Qa.new v 55 #[.string x.h,.int .i64 x.a.y,.int .i64 x.a.m,.bool x.a.s,.int .i64 x.a.d,.int .i64 x.b.y,.int .i64 x.b.m,.bool x.b.s,.int .i64 x.b.d,.slice t1 x.o.length s1,.slice t2 x.d.length s2,.slice t3 x.c.length s3,.string y.h,.int .i64 y.a.y,.int .i64 y.a.m,.bool y.a.s,.int .i64 y.a.d,.int .i64 y.b.y,.int .i64 y.b.m,.bool y.b.s,.int .i64 y.b.d,.slice t4 y.o.length s4,.slice t5 y.d.length s5,.slice t6 y.c.length s6]) ((hX.ext E).ext AL) ((hY.ext E).ext AL));clear NV;go_upto_region 2 with (go_at_call 73;refine zc (NV1) ?_;rintro e w1 ⟨rfl,h1⟩;replace h1:=AL.trans h1;clear NV1 AL;replace E:=E.trans h1;replace C:=C.ext h1;replace B4:=B4.ext h1;replace B1:=B1.ext h1;replace B2:=B2.ext h1;replace B3:=B3.ext h1;clear h1;clear k0 k1 kl p0 p1 p2 p3 p4 p5 p6 p7 p8 p9 p10 p11 pl q0 q1 q2 q3 q4 q5 q6 q7 q8 q9 q10 q11 ql;obtain ⟨k0,k1⟩:=B1.c2;have kl:=B1.lt;obtain ⟨p0,p1,p2,p3,p4,p5,p6,p7,p8,p9,p10,p11⟩:=B2.c12;have pl:=B2.lt;obtain ⟨q0,q1,q2,q3,q4,q5,q6,q7,q8,q9,q10,q11⟩:=B3.c12;have ql:=B3.lt)
 obtain ⟨v6,hv⟩:=Qf (w1.alloc (.cells #[.slice A c.nk ca,.slice A' c.ny cb] 130));rw [← hv];have hx : Qc w1 v6:=by rw [hv];exact (Qc.refl _).alloc _
 have B6 : Qa v6 w1.heap.size 130 #[.slice A c.nk ca,.slice A' c.ny cb]:=by rw [hv];exact Qa.new _ _ _
 clear hv;generalize w1.heap.size = bb1 at *;clear k0 k1 kl p0 p1 p2 p3 p4 p5 p6 p7 p8 p9 p10 p11 pl q0 q1 q2 q3 q4 q5 q6 q7 q8 q9 q10 q11 ql;replace E:=E.trans hx;replace C:=C.ext hx;replace B4:=B4.ext hx;replace B1:=B1.ext hx;replace B2:=B2.ext hx;replace B3:=B3.ext hx;clear hx;obtain ⟨k0,k1,kl⟩:=Qa.d2 B1;obtain ⟨p0,p1,p2,p3,p4,p5,p6,p7,p8,p9,p10,p11,pl⟩:=Qa.d12 B2;obtain ⟨q0,q1,q2,q3,q4,q5,q6,q7,q8,q9,q10,q11,ql⟩:=Qa.d12 B3;obtain ⟨g0,g1,gl⟩:=Qa.d2 B6;by_cases e0 : pe = 0;rotate_left
 ·have g0 : (pe == 0) = false := zb e0;have g0n : (pe != 0) = true := by rw [bne, g0]; rfl
  have hr:=Qhr hpe.out.symm e0;obtain rfl : RE = pe:=HR.out.1.trans hr.1;obtain rfl : RX = Jq:=HR.out.2.trans hr.2;clear HR hr hpe;clear k0 k1 kl p0 p1 p2 p3 p4 p5 p6 p7 p8 p9 p10 p11 pl q0 q1 q2 q3 q4 q5 q6 q7 q8 q9 q10 q11 ql g0 g1 gl;obtain ⟨z0,z1,z2,z3,z4,z5,z6,z7,z8,z9,z10,z11,x0,x1,x2,x3,x4,x5,x6,x7,x8,x9,x10,x11,xl⟩:=Qa.e12 B4;go_wp2;rw [Xu B4];refine bodyPost_ret (v:=.tuple #[.agg #[.string ⟨#[]⟩,.int .i64 0,.int .i64 0,.bool false,.int .i64 0,.int .i64 0,.int .i64 0,.bool false,.int .i64 0,.slice none 0 0,.slice none 0 0,.slice none 0 0],.int .i64 RE]) (by simp [results,Tryz.results30,go_sem,x0,x1,x2,x3,x4,x5,x6,x7,x8,x9,x10,x11]) rfl ⟨_,_,_,rfl,E,Wl _ _⟩
 subst e0;have h0:=hpe.out.symm;obtain ⟨hv,hxo,hyo⟩:=Ql5 h0;have hxok:=Oc hxo;have hyok:=Oc hyo;have NBH:=fun w h1 h2 h3 => Bf A A' ca cb c x y (.slice t1 x.o.length s1) (.slice t2 x.d.length s2) (.slice t3 x.c.length s3) (.slice t4 y.o.length s4) (.slice t5 y.d.length s5) (.slice t6 y.c.length s6) w h1 hv h2 h3
 have NEQ:=fun w h1 h2 => Hm (.slice t3 x.c.length s3) (.slice t4 y.o.length s4) x.c y.o w h1 h2
 replace h0:=zh h0;have hxd:=hxok.d;have hyd:=hyok.d;clear hpe;obtain ⟨bh,hbh⟩:=Qf (c.behV x y);obtain ⟨eq,heq⟩:=Qf (decide (x.c = y.o));simp only [← hbh] at NBH;simp only [← heq] at NEQ;replace hbh:=zh hbh;replace heq:=zh heq;cases bh
 ·have hr:=Ei h0.out (by rw [← hbh.out,← heq.out];rfl);obtain rfl : RE = 84:=HR.out.1.trans hr.1;obtain rfl : RX = Jq:=HR.out.2.trans hr.2;clear HR hr h0 hbh heq hxok hyok;go_upto_region 5 with (first | (go_at_call 60;refine zc (NBH _ C (hX.ext E) (hY.ext E)) ?_;rintro e w2 ⟨rfl,hx⟩;replace E:=E.trans hx;replace C:=C.ext hx;replace B4:=B4.ext hx;replace B1:=B1.ext hx;replace B2:=B2.ext hx;replace B3:=B3.ext hx;replace B6:=B6.ext hx;clear hx;clear k0 k1 kl p0 p1 p2 p3 p4 p5 p6 p7 p8 p9 p10 p11 pl q0 q1 q2 q3 q4 q5 q6 q7 q8 q9 q10 q11 ql g0 g1 gl;obtain ⟨k0,k1⟩:=B1.c2;have kl:=B1.lt;obtain ⟨p0,p1,p2,p3,p4,p5,p6,p7,p8,p9,p10,p11⟩:=B2.c12;have pl:=B2.lt;obtain ⟨q0,q1,q2,q3,q4,q5,q6,q7,q8,q9,q10,q11⟩:=B3.c12;have ql:=B3.lt;obtain ⟨g0,g1⟩:=B6.c2;have gl:=B6.lt) | (go_at_call 74;refine zc (NEQ _ (hX.ext E).c (hY.ext E).o) ?_;rintro e w3 ⟨rfl,hx⟩;replace E:=E.trans hx;replace C:=C.ext hx;replace B4:=B4.ext hx;replace B1:=B1.ext hx;replace B2:=B2.ext hx;replace B3:=B3.ext hx;replace B6:=B6.ext hx;clear hx;clear k0 k1 kl p0 p1 p2 p3 p4 p5 p6 p7 p8 p9 p10 p11 pl q0 q1 q2 q3 q4 q5 q6 q7 q8 q9 q10 q11 ql g0 g1 gl;obtain ⟨k0,k1⟩:=B1.c2;have kl:=B1.lt;obtain ⟨p0,p1,p2,p3,p4,p5,p6,p7,p8,p9,p10,p11⟩:=B2.c12;have pl:=B2.lt;obtain ⟨q0,q1,q2,q3,q4,q5,q6,q7,q8,q9,q10,q11⟩:=B3.c12;have ql:=B3.lt;obtain ⟨g0,g1⟩:=B6.c2;have gl:=B6.lt))
  clear k0 k1 kl p0 p1 p2 p3 p4 p5 p6 p7 p8 p9 p10 p11 pl q0 q1 q2 q3 q4 q5 q6 q7 q8 q9 q10 q11 ql g0 g1 gl;obtain ⟨z0,z1,z2,z3,z4,z5,z6,z7,z8,z9,z10,z11,x0,x1,x2,x3,x4,x5,x6,x7,x8,x9,x10,x11,xl⟩:=Qa.e12 B4;go_wp2;rw [Xu B4];refine bodyPost_ret (v:=.tuple #[.agg #[.string ⟨#[]⟩,.int .i64 0,.int .i64 0,.bool false,.int .i64 0,.int .i64 0,.int .i64 0,.bool false,.int .i64 0,.slice none 0 0,.slice none 0 0,.slice none 0 0],.int .i64 84]) (by simp [results,Tryz.results30,go_sem,x0,x1,x2,x3,x4,x5,x6,x7,x8,x9,x10,x11]) rfl ⟨_,_,_,rfl,E,Wl _ _⟩
 cases eq
 ·have hr:=Ei h0.out (by rw [← hbh.out,← heq.out];rfl);obtain rfl : RE = 84:=HR.out.1.trans hr.1;obtain rfl : RX = Jq:=HR.out.2.trans hr.2;clear HR hr h0 hbh heq hxok hyok;go_upto_region 5 with (first | (go_at_call 60;refine zc (NBH _ C (hX.ext E) (hY.ext E)) ?_;rintro e w2 ⟨rfl,hx⟩;replace E:=E.trans hx;replace C:=C.ext hx;replace B4:=B4.ext hx;replace B1:=B1.ext hx;replace B2:=B2.ext hx;replace B3:=B3.ext hx;replace B6:=B6.ext hx;clear hx;clear k0 k1 kl p0 p1 p2 p3 p4 p5 p6 p7 p8 p9 p10 p11 pl q0 q1 q2 q3 q4 q5 q6 q7 q8 q9 q10 q11 ql g0 g1 gl;obtain ⟨k0,k1⟩:=B1.c2;have kl:=B1.lt;obtain ⟨p0,p1,p2,p3,p4,p5,p6,p7,p8,p9,p10,p11⟩:=B2.c12;have pl:=B2.lt;obtain ⟨q0,q1,q2,q3,q4,q5,q6,q7,q8,q9,q10,q11⟩:=B3.c12;have ql:=B3.lt;obtain ⟨g0,g1⟩:=B6.c2;have gl:=B6.lt) | (go_at_call 74;refine zc (NEQ _ (hX.ext E).c (hY.ext E).o) ?_;rintro e w3 ⟨rfl,hx⟩;replace E:=E.trans hx;replace C:=C.ext hx;replace B4:=B4.ext hx;replace B1:=B1.ext hx;replace B2:=B2.ext hx;replace B3:=B3.ext hx;replace B6:=B6.ext hx;clear hx;clear k0 k1 kl p0 p1 p2 p3 p4 p5 p6 p7 p8 p9 p10 p11 pl q0 q1 q2 q3 q4 q5 q6 q7 q8 q9 q10 q11 ql g0 g1 gl;obtain ⟨k0,k1⟩:=B1.c2;have kl:=B1.lt;obtain ⟨p0,p1,p2,p3,p4,p5,p6,p7,p8,p9,p10,p11⟩:=B2.c12;have pl:=B2.lt;obtain ⟨q0,q1,q2,q3,q4,q5,q6,q7,q8,q9,q10,q11⟩:=B3.c12;have ql:=B3.lt;obtain ⟨g0,g1⟩:=B6.c2;have gl:=B6.lt))
  clear k0 k1 kl p0 p1 p2 p3 p4 p5 p6 p7 p8 p9 p10 p11 pl q0 q1 q2 q3 q4 q5 q6 q7 q8 q9 q10 q11 ql g0 g1 gl;obtain ⟨z0,z1,z2,z3,z4,z5,z6,z7,z8,z9,z10,z11,x0,x1,x2,x3,x4,x5,x6,x7,x8,x9,x10,x11,xl⟩:=Qa.e12 B4;go_wp2;rw [Xu B4];refine bodyPost_ret (v:=.tuple #[.agg #[.string ⟨#[]⟩,.int .i64 0,.int .i64 0,.bool false,.int .i64 0,.int .i64 0,.int .i64 0,.bool false,.int .i64 0,.slice none 0 0,.slice none 0 0,.slice none 0 0],.int .i64 84]) (by simp [results,Tryz.results30,go_sem,x0,x1,x2,x3,x4,x5,x6,x7,x8,x9,x10,x11]) rfl ⟨_,_,_,rfl,E,Wl _ _⟩
 go_upto_region 6 with (first | (go_at_call 60;refine zc (NBH _ C (hX.ext E) (hY.ext E)) ?_;rintro e w2 ⟨rfl,hx⟩;replace E:=E.trans hx;replace C:=C.ext hx;replace B4:=B4.ext hx;replace B1:=B1.ext hx;replace B2:=B2.ext hx;replace B3:=B3.ext hx;replace B6:=B6.ext hx;clear hx;clear k0 k1 kl p0 p1 p2 p3 p4 p5 p6 p7 p8 p9 p10 p11 pl q0 q1 q2 q3 q4 q5 q6 q7 q8 q9 q10 q11 ql g0 g1 gl;obtain ⟨k0,k1⟩:=B1.c2;have kl:=B1.lt;obtain ⟨p0,p1,p2,p3,p4,p5,p6,p7,p8,p9,p10,p11⟩:=B2.c12;have pl:=B2.lt;obtain ⟨q0,q1,q2,q3,q4,q5,q6,q7,q8,q9,q10,q11⟩:=B3.c12;have ql:=B3.lt;obtain ⟨g0,g1⟩:=B6.c2;have gl:=B6.lt) | (go_at_call 74;refine zc (NEQ _ (hX.ext E).c (hY.ext E).o) ?_;rintro e w3 ⟨rfl,hx⟩;replace E:=E.trans hx;replace C:=C.ext hx;replace B4:=B4.ext hx;replace B1:=B1.ext hx;replace B2:=B2.ext hx;replace B3:=B3.ext hx;replace B6:=B6.ext hx;clear hx;clear k0 k1 kl p0 p1 p2 p3 p4 p5 p6 p7 p8 p9 p10 p11 pl q0 q1 q2 q3 q4 q5 q6 q7 q8 q9 q10 q11 ql g0 g1 gl;obtain ⟨k0,k1⟩:=B1.c2;have kl:=B1.lt;obtain ⟨p0,p1,p2,p3,p4,p5,p6,p7,p8,p9,p10,p11⟩:=B2.c12;have pl:=B2.lt;obtain ⟨q0,q1,q2,q3,q4,q5,q6,q7,q8,q9,q10,q11⟩:=B3.c12;have ql:=B3.lt;obtain ⟨g0,g1⟩:=B6.c2;have gl:=B6.lt))
 have hb2 : (c.behV x y && decide (x.c = y.o)) = true:=by rw [← hbh.out,← heq.out];rfl
 clear NBH NEQ hbh heq;by_cases h64 : 64 < x.d.length + y.d.length
 ·have hr:=Qhs h0.out hb2 h64;obtain rfl : RE = 3:=HR.out.1.trans hr.1;obtain rfl : RX = Jq:=HR.out.2.trans hr.2;clear HR hr h0 hb2 hxok hyok;have hI : (64 : Int) < (x.d.length : Int) + (y.d.length : Int):=Qb;go_upto_region 7 with fail
  clear k0 k1 kl p0 p1 p2 p3 p4 p5 p6 p7 p8 p9 p10 p11 pl q0 q1 q2 q3 q4 q5 q6 q7 q8 q9 q10 q11 ql g0 g1 gl;obtain ⟨z0,z1,z2,z3,z4,z5,z6,z7,z8,z9,z10,z11,x0,x1,x2,x3,x4,x5,x6,x7,x8,x9,x10,x11,xl⟩:=Qa.e12 B4;go_wp2;rw [Xu B4];refine bodyPost_ret (v:=.tuple #[.agg #[.string ⟨#[]⟩,.int .i64 0,.int .i64 0,.bool false,.int .i64 0,.int .i64 0,.int .i64 0,.bool false,.int .i64 0,.slice none 0 0,.slice none 0 0,.slice none 0 0],.int .i64 3]) (by simp [results,Tryz.results30,go_sem,x0,x1,x2,x3,x4,x5,x6,x7,x8,x9,x10,x11]) rfl ⟨_,_,_,rfl,E,Wl _ _⟩
 have hr:=Qht h0.out hb2 h64;obtain rfl : RE = 0:=HR.out.1.trans hr.1;have hRX : Hid (RX = ⟨x.h,x.a,y.b,x.o,x.d ++ y.d,y.c⟩):=HR.out.2.trans hr.2;have hrx:=hRX.out;subst hrx;clear HR hr h0 hb2 hRX;have hI : decide ((64 : Int) < (x.d.length : Int) + (y.d.length : Int)) = false:=zf Qb;have hxo64:=hxok.o;have hyc64:=hyok.k
 have hxyl : Hid (∀ i,i < (x.d ++ y.d).length → ((x.d ++ y.d).getD i Qv).l.length ≤ 1000000):=fun i hi => by
  rw [List.length_append] at hi;by_cases e : i < x.d.length
  ·rw [show (x.d ++ y.d).getD i Qv = x.d.getD i Qv by simp [List.getD_eq_getElem?_getD,List.getElem?_append_left e]];exact Nat.le_trans (hxok.l i e) zD
  ·rw [show (x.d ++ y.d).getD i Qv = y.d.getD (i - x.d.length) Qv by simp [List.getD_eq_getElem?_getD,List.getElem?_append_right (show x.d.length ≤ i by omega)]];exact Nat.le_trans (hyok.l _ Qb) zD
 have hxyn : (x.d ++ y.d).length ≤ 1000000:=by rw [List.length_append];omega
 clear hxok hyok;go_upto_region 8 with fail
 obtain ⟨XY,hXY⟩:=Qf (x.d ++ y.d);rw [← hXY] at hxyl hxyn;have AL2:=(Qc.refl w3).alloc (.cells #[.slice t2 x.d.length s2,.slice t5 y.d.length s5] 53);have NCN:=Qex w3.heap.size t2 t5 s2 s5 x.d y.d _ (Qa.new w3 53 #[.slice t2 x.d.length s2,.slice t5 y.d.length s5]) ((hX.ext E).d.ext AL2) ((hY.ext E).d.ext AL2) hxd hyd;rw [← hXY] at NCN;replace hXY:=zh hXY;have NCP:=fun v w h => Hj v XY w h hxyn hxyl.out
 clear hxyl hI;go_upto_region 9 with (first | (go_at_call 75;(with_reducible refine Calls.mono NCN ?_);rintro e w4 ⟨vcn,rfl,hx,DC⟩;replace hx:=AL2.trans hx;clear NCN AL2;replace E:=E.trans hx;replace C:=C.ext hx;replace B4:=B4.ext hx;replace B1:=B1.ext hx;replace B2:=B2.ext hx;replace B3:=B3.ext hx;replace B6:=B6.ext hx;clear hx;clear k0 k1 kl p0 p1 p2 p3 p4 p5 p6 p7 p8 p9 p10 p11 pl q0 q1 q2 q3 q4 q5 q6 q7 q8 q9 q10 q11 ql g0 g1 gl;obtain ⟨k0,k1⟩:=B1.c2;have kl:=B1.lt;obtain ⟨p0,p1,p2,p3,p4,p5,p6,p7,p8,p9,p10,p11⟩:=B2.c12;have pl:=B2.lt;obtain ⟨q0,q1,q2,q3,q4,q5,q6,q7,q8,q9,q10,q11⟩:=B3.c12;have ql:=B3.lt;obtain ⟨g0,g1⟩:=B6.c2;have gl:=B6.lt;obtain ⟨tc,sc,_,ec,_⟩:=id DC;subst ec) | (go_at_call 62;refine zc (NCP _ _ DC) ?_;rintro e w5 ⟨vcp,rfl,hx,D1⟩;replace D1:=Jr.le D1 E.size;obtain ⟨F2,m2,rfl⟩:=Nl D1;clear NCP DC;replace E:=E.trans hx;replace C:=C.ext hx;replace B4:=B4.ext hx;replace B1:=B1.ext hx;replace B2:=B2.ext hx;replace B3:=B3.ext hx;replace B6:=B6.ext hx;clear hx;clear k0 k1 kl p0 p1 p2 p3 p4 p5 p6 p7 p8 p9 p10 p11 pl q0 q1 q2 q3 q4 q5 q6 q7 q8 q9 q10 q11 ql g0 g1 gl;obtain ⟨k0,k1⟩:=B1.c2;have kl:=B1.lt;obtain ⟨p0,p1,p2,p3,p4,p5,p6,p7,p8,p9,p10,p11⟩:=B2.c12;have pl:=B2.lt;obtain ⟨q0,q1,q2,q3,q4,q5,q6,q7,q8,q9,q10,q11⟩:=B3.c12;have ql:=B3.lt;obtain ⟨g0,g1⟩:=B6.c2;have gl:=B6.lt))
 clear k0 k1 kl p0 p1 p2 p3 p4 p5 p6 p7 p8 p9 p10 p11 pl q0 q1 q2 q3 q4 q5 q6 q7 q8 q9 q10 q11 ql g0 g1 gl;have NCO:=fun w h => Uy (.slice t1 x.o.length s1) x.o w h Qb
 have NCC:=fun w h => Uy (.slice t6 y.c.length s6) y.c w h Qb
 refine Qy 16 [14,15] (fun x => Qc w5 x) mixed rfl ?_;intro vz hvz;have HC:=hvz;refine Qj (g:=5) [0,1,2,3,4,5,6,7,9,10,11] HC ?_
 constructor
 refine ⟨fun u hu => ?_,?_⟩
 ·obtain ⟨p0,p1,p2,p3,p4,p5,p6,p7,p8,p9,p10,p11,pl⟩:=Qa.d12 (Qa.ext B2 hu);obtain ⟨q0,q1,q2,q3,q4,q5,q6,q7,q8,q9,q10,q11,ql⟩:=Qa.d12 (Qa.ext B3 hu);exact Qi
 refine Qh 8 ?_;have hz:=Nat.le_trans E.size HC.size;go_wp2_with (go_at_call 59;refine zc (NCO _ (hX.ext (E.trans HC)).o) ?_;rintro e wc ⟨v1,rfl,hb,S1⟩;obtain ⟨F1,m1,rfl⟩:=Z9 S1);replace S1:=Xe S1 hz;replace HC:=HC.trans hb;clear hb hz;refine Qe HC ?_;refine Qh 12 ?_;have hz:=Nat.le_trans E.size HC.size;go_wp2_with (go_at_call 59;refine zc (NCC _ (hY.ext (E.trans HC)).c) ?_;rintro e wd ⟨v2,rfl,hb,S5⟩;obtain ⟨F5,m5,rfl⟩:=Z9 S5);replace S5:=Xe S5 hz;clear hz;replace S1:=Q1 S1 hb;replace HC:=HC.trans hb;replace D1:=Jr.ext D1 HC;clear hb;refine Qe HC ?_;refine Qj (g:=2) [13] HC ?_
 constructor
 refine ⟨fun u hu => ?_,?_⟩
 ·obtain ⟨p0,p1,p2,p3,p4,p5,p6,p7,p8,p9,p10,p11,pl⟩:=Qa.d12 (Qa.ext B2 hu);obtain ⟨q0,q1,q2,q3,q4,q5,q6,q7,q8,q9,q10,q11,ql⟩:=Qa.d12 (Qa.ext B3 hu);exact Qi
 refine Ql 14 ?_;have Hs:=Qa.ext B4 HC;obtain ⟨z0,z1,z2,z3,z4,z5,z6,z7,z8,z9,z10,z11,x0,x1,x2,x3,x4,x5,x6,x7,x8,x9,x10,x11,xl⟩:=Qa.e12 Hs;go_wp2;obtain ⟨wq,hq,HX,ko,kd,kh,ke⟩:=Sj Hs zD zD (.string x.h) (.int .i64 x.a.y) (.int .i64 x.a.m) (.bool x.a.s) (.int .i64 x.a.d) (.int .i64 y.b.y) (.int .i64 y.b.m) (.bool y.b.s) (.int .i64 y.b.d) (.slice F1 x.o.length m1) (.slice F2 XY.length m2) (.slice F5 y.c.length m5);rw [← hq];have S1x:=ko S1;have S5x:=ko S5;have D1x:=kd D1;have EX:=ke (E.trans HC) hbr;clear hq ko kd kh ke Hs z0 x0 z1 x1 z2 x2 z3 x3 z4 x4 z5 x5 z6 x6 z7 x7 z8 x8 z9 x9 z10 x10 z11 x11 xl;refine Qk ?_;refine Ql 15 ?_;go_wp2
 refine Qk ?_;refine Qr ?_;obtain ⟨x0,x1,x2,x3,x4,x5,x6,x7,x8,x9,x10,x11,xl⟩:=Qa.d12 HX;have D1y : Jr wq w.heap.size (.slice F2 XY.length m2) (x.d ++ y.d).length (fun i => (x.d ++ y.d).getD i Qv):=by rw [← hXY.out];exact D1x
 go_wp2;refine bodyPost_ret (v:=.tuple #[.agg #[.string x.h,.int .i64 x.a.y,.int .i64 x.a.m,.bool x.a.s,.int .i64 x.a.d,.int .i64 y.b.y,.int .i64 y.b.m,.bool y.b.s,.int .i64 y.b.d,.slice F1 x.o.length m1,.slice F2 XY.length m2,.slice F5 y.c.length m5],.int .i64 0]) (by simp [results,Tryz.results30,go_sem,x0,x1,x2,x3,x4,x5,x6,x7,x8,x9,x10,x11]) rfl ⟨_,_,_,rfl,EX,⟨S1x,D1y,S5x⟩⟩
theorem Qhv (A A' : OA) (ca cb : Nat) (c : Qd) (x y : Pd) (xo xd xc yo yd yc : Value) (w : World) (hC : Q3 w A ca A' cb c) (hX : J9 w x xo xd xc) (hY : J9 w y yo yd yc) :
  Calls Tryz.prog 30 #[.agg #[.slice A c.nk ca,.slice A' c.ny cb],.agg #[.string x.h,.int .i64 x.a.y,.int .i64 x.a.m,.bool x.a.s,.int .i64 x.a.d,.int .i64 x.b.y,.int .i64 x.b.m,.bool x.b.s,.int .i64 x.b.d,xo,xd,xc],.agg #[.string y.h,.int .i64 y.a.y,.int .i64 y.a.m,.bool y.a.s,.int .i64 y.a.d,.int .i64 y.b.y,.int .i64 y.b.m,.bool y.b.s,.int .i64 y.b.d,yo,yd,yc]] w fun e w' => ∃ vo vd vc,e = .returned (.tuple #[.agg #[.string (c.joinP x y).h,.int .i64 (c.joinP x y).a.y,.int .i64 (c.joinP x y).a.m,.bool (c.joinP x y).a.s,.int .i64 (c.joinP x y).a.d,.int .i64 (c.joinP x y).b.y,.int .i64 (c.joinP x y).b.m,.bool (c.joinP x y).b.s,.int .i64 (c.joinP x y).b.d,vo,vd,vc],.int .i64 (c.joinE x y)]) ∧ Qc w w' ∧ J9 w' (c.joinP x y) vo vd vc :=
 (Qhu A A' ca cb c x y xo xd xc yo yd yc w hC hX hY).mono fun _ _ ⟨vo,vd,vc,h1,h2,h3⟩ => ⟨vo,vd,vc,h1,h2,Gz h3⟩
end
end Go.Proofs.YtoflcheopfppoaaGreatDoor
