/- Walks and plain facts, packed; no conditions but those that each states. -/
import Derived.Test.YtoflcheopfppoaaGreatDoorK8
import Derived.Lib.Strings
set_option maxRecDepth 100000
set_option maxHeartbeats 4000000
namespace Go.Proofs.YtoflcheopfppoaaGreatDoor
section
open Go Go.RowKit Go.Shelf
attribute [local go_sem] Z8
theorem Pe (l : List Lt) : l.flatMap Jq = Z2 (Q5 (Q8 l)) l.length:=by
 conv => lhs;rw [← Qba l]
 unfold Q0 Z2;rw [List.flatMap_map];rfl
theorem Uy {w : World} {base k : Nat} {v : Value} {l : List Lt} (h : w.ownsRow base 85 2 v k (l.flatMap Jq)) : Zl w v l:=by
 have hk:=h.1;rw [Fk] at hk;obtain rfl : k = l.length:=Qa;rw [Pe] at h;obtain ⟨F,c,h1,h2,h3,h4,h5,_⟩:=Vz (f:=Q5 (Q8 l)) (fun _ => rfl) h;exact ⟨F,c,h1,h2,h3,h4,h5⟩
theorem Fp (w : World) : Zl w (.slice none 0 0) []:=⟨none,0,rfl,Qm.nil,Nat.le_refl _,Nat.zero_le _,fun _ => ⟨rfl,rfl⟩⟩
def Qp : Pd:=⟨⟨#[]⟩,⟨0,0,false,0⟩,⟨0,0,false,0⟩,[],[],[]⟩
def Qi (p : Pd) (vo vd vc : Value) : List Value:=[.string p.h,.int .i64 p.a.y,.int .i64 p.a.m,.bool p.a.s,.int .i64 p.a.d,.int .i64 p.b.y,.int .i64 p.b.m,.bool p.b.s,.int .i64 p.b.d,vo,vd,vc]
def J9 (w : World) (v : Value) (l : List Pd) : Prop:=∃ D cap,∃ vo vd vc : Nat → Value,v = .slice D l.length cap ∧ Qm w D l.length 12 (fun i => Qi (l.getD i Qp) (vo i) (vd i) (vc i)) ∧ l.length ≤ cap ∧ cap ≤ maxLen ∧ (D = none → l.length = 0 ∧ cap = 0) ∧ ∀ i,i < l.length → Wb w (l.getD i Qp) (vo i) (vd i) (vc i)
theorem J9.ext {w w' : World} {v : Value} {l : List Pd} (h : J9 w v l) (e : Qc w w') : J9 w' v l:=by
 obtain ⟨D,cap,vo,vd,vc,h1,h2,h3,h4,h5,h6⟩:=h;exact ⟨D,cap,vo,vd,vc,h1,h2.ext e,h3,h4,h5,fun i hi => (h6 i hi).ext e⟩
theorem Qmh {c : Qd} {p : Pd} (h : c.perE p = 0) : p.o.length ≤ 64:=by
 unfold Qd.perE at h;cases hv : c.valid
 ·rw [hv,if_neg (by simp)] at h;exact absurd h zD
 ·rw [hv,if_pos rfl] at h;cases ho : c.perOk p
  ·rw [ho,if_neg (by simp)] at h;exact absurd h zD
  ·unfold Qd.perOk Qd.perHead at ho;simp only [Bool.and_eq_true,decide_eq_true_eq] at ho;exact (O0 ho.1.1.1.2).1
def Qd.persE (c : Qd) (l : List Pd) : Int:=if l.all c.perOk then 0 else 83
def Qd.validE (c : Qd) (l : List Pd) : Int:=if c.chk ≠ 0 then c.chk else c.persE l
theorem Qof (c : Qd) (p : Pd) : c.validE [p] = c.perE p:=by
 unfold Qd.validE Qd.perE Qd.chk Qd.persE;cases c.valid <;> simp
theorem Co {l : List Pd} {P : Pd → Bool} {k : Nat} (hk : k < l.length) (h : P (l.getD k Qp) = false) : l.all P = false :=
 List.all_eq_false.2 ⟨l[k],List.getElem_mem hk,by simpa [List.getD_eq_getElem?_getD,hk] using h⟩
theorem Cp {l : List Pd} {P : Pd → Bool} (h : ∀ k,k < l.length → P (l.getD k Qp) = true) : l.all P = true :=
 List.all_eq_true.2 fun x hx => by
  obtain ⟨k,hk,rfl⟩:=List.mem_iff_getElem.1 hx
  simpa [List.getD_eq_getElem?_getD,hk] using h k hk
theorem Qmk {w : World} {b : Nat} {t : TypeId} {p : Pd} {vo vd vc : Value} (h : Qb w b t (Qi p vo vd vc).toArray) (hP : Wb w p vo vd vc) : J9 w (.slice (some ⟨b,0,none⟩) 1 1) [p] :=
 ⟨some ⟨b,0,none⟩,1,fun _ => vo,fun _ => vd,fun _ => vc,rfl,Lu (f:=fun _ => Qi p vo vd vc) (n:=1) (fun _ => rfl) (by simpa [Z2] using h) |>.congr (fun i hi => by obtain rfl : i = 0:=(by simp at hi;omega);rfl),Nat.le_refl _,by decide,fun h => (by cases h),fun i hi => by obtain rfl : i = 0:=(by simp at hi;omega);exact hP⟩
theorem El (v : Value) (l : List Lt) (w : World) (hL : Zl w v l) (hn : l.length ≤ 1000000) :
  Calls Tryz.prog 59 #[v] w fun e w' => ∃ v',e = .returned v' ∧ Qc w w' ∧ w'.ownsRow w.heap.size 85 2 v' l.length (l.flatMap Jq):=by
 rw [Pe];obtain ⟨T,cap,rfl,hT,hcap,hmax,hnil⟩:=hL;generalize l.length = n at *;generalize Q8 l = f at *;have q23 : ∀ (w : World) (a : OA) (n c n' c' : Nat),(binOp .eql 52 (.slice a n c) (.slice none n' c')).run Tryz.prog w = .ok (.bool a.isNone) w:=fun w a n c n' c' => Lib.run_eql_slice_nil w _ _ a n c n' c' Tryz.underlying52
 cases T with
 | none =>
  obtain ⟨rfl,rfl⟩:=hnil rfl
  go_enter Tryz.func59,Tryz.ntmps59
  go_wp2;go_ret
  exact ⟨_,rfl,Qc.refl _,World.ownsRow_nil _ _ _ _⟩
 | some a =>
  obtain ⟨i0,hi,hz0,hz1,hz2⟩:=info_parts Qaj;have hlen:=Wm (f:=Q5 f) (sz:=2) (fun _ => rfl) n;have hone : ∀ u ∈ Z2 (Q5 f) n,u.oneCell' = true:=Pf (f:=Q5 f) (n:=n) (fun i u hu => by simp [Q5] at hu;rcases hu with rfl | rfl <;> simp [Value.oneCell']);have HN:=fun v (h : Qm v (some a) n 2 (Q5 f)) => Fa (f:=Q5 f) (sz:=2) (fun _ => rfl) zD h
  go_enter Tryz.func59,Tryz.ntmps59
  go_wp2_with (at_builtin;refine wpList_append_own _ rfl _ _ 52 rfl w.heap.size 85 i0 (.agg #[.string ⟨#[]⟩,.int .i64 0]) 2 24 Tryz.underlying52 hi hz0 hz1 hz2 rfl zD _ _ _ rfl (World.ownsRow_made w #[] 0 (Nat.le_refl _) (Nat.zero_le _) rfl) a n cap (Z2 (Q5 f) n) rfl hlen (HN _ (hT.ext ((Qc.refl _).alloc _)) a rfl) hone (by unfold maxLen;omega) Qa (by simp) ?_;intro v' w1 hown hgrow hnil2);go_ret;refine ⟨v',rfl,((Qc.refl w).alloc _).grown hgrow (fun q hq => by have h : some w.heap.size = some q:=hq;cases h;exact Nat.le_refl _),by simpa using hown⟩
theorem Qc1 (A A' : OA) (ca cb : Nat) (c : Qd) (v : Value) (l : List Pd) (w : World) (hC : Za w A ca A' cb c) (hP : J9 w v l) :
  Calls Tryz.prog 107 #[.agg #[.slice A c.nk ca,.slice A' c.ny cb],v] w fun e w' => e = .returned (.int .i64 (c.persE l)) ∧ Qc w w':=by
 obtain ⟨D,cap,vo,vd,vc,rfl,hD,hcap,hmax,_,hat⟩:=hP;have hn : l.length ≤ 9223372036854775807:=Nat.le_trans hcap (Nat.le_trans hmax zD);obtain ⟨R,hR0⟩:=Qe (c.persE l);rw [← hR0];have HR:=zh hR0;clear hR0;obtain ⟨n,hnl⟩:=Qe (l.length);rw [← hnl] at hn hD hat hcap ⊢;replace hnl:=zh hnl;obtain ⟨g,hg⟩:=Qe (fun i => l.getD i Qp);have hg' : ∀ i,l.getD i Qp = g i:=fun i => by rw [hg]
 simp only [hg'] at hD hat;replace hg:=zh hg;clear hg';replace hat:=zh hat
 go_enter Tryz.func107,Tryz.ntmps107
 go_upto_region 1 with fail
 obtain ⟨v,b1,E,B1,hbr,hv,hb1⟩:=J4 w 130 #[.slice A c.nk ca,.slice A' c.ny cb];rw [← hv,← hb1];clear hv hb1;have C:=hC.ext E;replace hD:=hD.ext E;replace hat:=zh fun i hi => (hat.out i hi).ext E
 clear hC;go_upto_region 2 with fail
 go_loopw [9] (fun i wr => ∃ k : Nat,k ≤ n ∧ i = .int .i64 k ∧ Hid (∀ j,j < k → c.perOk (g j) = true) ∧ Qc v wr) (fun i _ => n - (intOf i).toNat)
 case atStart => exact ⟨0,Nat.zero_le _,rfl,(fun j h => absurd h Qa),Qc.refl _⟩
 case round =>
  obtain ⟨k,hk,rfl,hall,hE⟩:=hrel;obtain ⟨wo,rfl⟩:=Qe wr;by_cases hlt : k < n
  ·obtain ⟨b, off, rfl, hb, hc⟩ := (hD.ext hE) Qa;have hP := hat.out k hlt;have c0 : wo.cell? ⟨b, off + k * 12, none⟩ = some (.string (g k).h) := by simpa [Qi] using hc k 0 _ hlt rfl
   have c1 : wo.cell? ⟨b,off + k * 12 + 1,none⟩ = some (.int .i64 (g k).a.y):=by simpa [Qi] using hc k 1 _ hlt rfl
   have c2 : wo.cell? ⟨b,off + k * 12 + 2,none⟩ = some (.int .i64 (g k).a.m):=by simpa [Qi] using hc k 2 _ hlt rfl
   have c3 : wo.cell? ⟨b,off + k * 12 + 3,none⟩ = some (.bool (g k).a.s):=by simpa [Qi] using hc k 3 _ hlt rfl
   have c4 : wo.cell? ⟨b,off + k * 12 + 4,none⟩ = some (.int .i64 (g k).a.d):=by simpa [Qi] using hc k 4 _ hlt rfl
   have c5 : wo.cell? ⟨b,off + k * 12 + 5,none⟩ = some (.int .i64 (g k).b.y):=by simpa [Qi] using hc k 5 _ hlt rfl
   have c6 : wo.cell? ⟨b,off + k * 12 + 6,none⟩ = some (.int .i64 (g k).b.m):=by simpa [Qi] using hc k 6 _ hlt rfl
   have c7 : wo.cell? ⟨b,off + k * 12 + 7,none⟩ = some (.bool (g k).b.s):=by simpa [Qi] using hc k 7 _ hlt rfl
   have c8 : wo.cell? ⟨b,off + k * 12 + 8,none⟩ = some (.int .i64 (g k).b.d):=by simpa [Qi] using hc k 8 _ hlt rfl
   have c9 : wo.cell? ⟨b,off + k * 12 + 9,none⟩ = some (vo k):=by simpa [Qi] using hc k 9 _ hlt rfl
   have c10 : wo.cell? ⟨b,off + k * 12 + 10,none⟩ = some (vd k):=by simpa [Qi] using hc k 10 _ hlt rfl
   have c11 : wo.cell? ⟨b,off + k * 12 + 11,none⟩ = some (vc k):=by simpa [Qi] using hc k 11 _ hlt rfl
   have NP:=fun w h1 h2 => Qmi A A' ca cb c (g k) (vo k) (vd k) (vc k) w h1 h2
   have hno : Hid (c.perOk (g k) = false → R = 83):=fun h => by
    rw [HR.out];unfold Qd.persE;rw [if_neg (by rw [Bool.not_eq_true];exact Co (k:=k) (by rw [← hnl.out];exact hlt) (by rw [hg.out] at h;exact h))]
   have hyes : Hid (c.perOk (g k) = true → ∀ j,j < k + 1 → c.perOk (g j) = true):=fun h j hj => by
    by_cases e : j = k
    ·subst e;exact h
    ·exact hall.out j Qa
   obtain ⟨VO,VD,VC,hvo,hvd,hvc⟩ : ∃ x y z,x = vo k ∧ y = vd k ∧ z = vc k:=⟨_,_,_,rfl,rfl,rfl⟩;rw [← hvo] at c9 NP hP;rw [← hvd] at c10 NP hP;rw [← hvc] at c11 NP hP;clear hvo hvd hvc hc hall HR hat hg;obtain ⟨t1,s1,e1,_⟩:=hP.o;subst e1;obtain ⟨t2,s2,_,e2,_⟩:=hP.d;subst e2;obtain ⟨t3,s3,e3,_⟩:=hP.c;subst e3;go_upto_region 4 with fail
   obtain ⟨v3,hv⟩:=Qe (wo.alloc (.cells #[.string (g k).h,.int .i64 (g k).a.y,.int .i64 (g k).a.m,.bool (g k).a.s,.int .i64 (g k).a.d,.int .i64 (g k).b.y,.int .i64 (g k).b.m,.bool (g k).b.s,.int .i64 (g k).b.d,.slice t1 (g k).o.length s1,.slice t2 (g k).d.length s2,.slice t3 (g k).c.length s3] 55));rw [← hv];have E3 : Qc wo v3:=by rw [hv];exact (Qc.refl _).alloc _
   have H3 : Qb v3 wo.heap.size 55 #[.string (g k).h,.int .i64 (g k).a.y,.int .i64 (g k).a.m,.bool (g k).a.s,.int .i64 (g k).a.d,.int .i64 (g k).b.y,.int .i64 (g k).b.m,.bool (g k).b.s,.int .i64 (g k).b.d,.slice t1 (g k).o.length s1,.slice t2 (g k).d.length s2,.slice t3 (g k).c.length s3]:=by rw [hv];exact Qb.new _ _ _
   clear hv;generalize wo.heap.size = b3 at *;clear c0 c1 c2 c3 c4 c5 c6 c7 c8 c9 c10 c11;replace NP:=NP v3 (C.ext (hE.trans E3)) (hP.ext (hE.trans E3));replace hE:=hE.trans E3;have B1e:=B1.ext hE;obtain ⟨k0,k1,lk⟩:=Qb.d2 B1e;obtain ⟨p0,p1,p2,p3,p4,p5,p6,p7,p8,p9,p10,p11,lp⟩:=Qb.d12 H3;clear E3 hP;cases hq : c.perOk (g k)
   ·have hr:=hno.out hq;rw [hq] at NP;clear hno hyes hq;go_wp2_with (go_at_call 159;refine zc (NP) ?_;rintro e w2 ⟨rfl,h⟩);go_ret;exact ⟨by rw [hr];rfl,(E.trans hE).trans h⟩
   ·have hx:=zh (hyes.out hq);rw [hq] at NP;clear hno hyes hq;go_wp2_with (go_at_call 159;refine zc (NP) ?_;rintro e w2 ⟨rfl,h⟩);exact ⟨⟨k + 1,Qa,by go_num,hx,hE.trans h⟩,zi⟩
  ·obtain rfl : k = n:=Qa
   have hr : R = 0:=by
    rw [HR.out];unfold Qd.persE;rw [if_pos (Cp fun j hj => by have:=hall.out j (by rw [hnl.out];exact hj);rw [hg.out] at this;exact this)]
   clear HR hall hat hg;go_wp2;go_ret;exact ⟨by rw [hr];rfl,E.trans hE⟩
theorem Qe3 (v1 v2 : Value) (a b : List Lt) (w : World) (h1 : Zl w v1 a) (h2 : Zl w v2 b) :
  Calls Tryz.prog 19 #[v1,v2] w fun e w' => ∃ F k m,e = .returned (.tuple #[.slice F k m,.int .i64 (Jh 1 a b)]) ∧ Qc w w' ∧ Zl w' (.slice F k m) (Yj 1 a b):=by
 obtain ⟨T,cap,rfl,hT,hcap,hmax,_⟩:=h1;obtain ⟨S,cm,rfl,hS,hcm,hmm,_⟩:=h2;refine zc (Ck T a.length cap (Q8 a) S b.length cm (Q8 b) w hT hcap (Nat.le_trans hcap (Nat.le_trans hmax zD)) hS hcm (Nat.le_trans hcm (Nat.le_trans hmm zD))) ?_;rintro e w' ⟨F,k,c,rfl,hx,ho⟩;exact ⟨F,k,c,rfl,hx,Uy ho⟩
theorem Qnu (v1 v2 : Value) (a b : List Lt) (w : World) (h1 : Zl w v1 a) (h2 : Zl w v2 b) :
  Calls Tryz.prog 108 #[v1,v2] w fun e w' => ∃ F k m,e = .returned (.tuple #[.slice F k m,.int .i64 (Jh (-1) a b)]) ∧ Qc w w' ∧ Zl w' (.slice F k m) (Yj (-1) a b):=by
 obtain ⟨T,cap,rfl,hT,hcap,hmax,_⟩:=h1;obtain ⟨S,cm,rfl,hS,hcm,hmm,_⟩:=h2;refine zc (Qd0 T a.length cap (Q8 a) S b.length cm (Q8 b) w hT hcap (Nat.le_trans hcap (Nat.le_trans hmax zD)) hS hcm (Nat.le_trans hcm (Nat.le_trans hmm zD))) ?_;rintro e w' ⟨F,k,c,rfl,hx,ho⟩;exact ⟨F,k,c,rfl,hx,Uy ho⟩
theorem Bj (s : List Lt) {d : List Dl} {k : Nat} (hk : k < d.length) : Zw s (d.drop k) = if Jh (Xg (d.getD k Zd).i) s (d.getD k Zd).l ≠ 0 then ([],Jh (Xg (d.getD k Zd).i) s (d.getD k Zd).l) else Zw (Yj (Xg (d.getD k Zd).i) s (d.getD k Zd).l) (d.drop (k + 1)):=by
 have e : d.getD k Zd = d[k]:=by simp [List.getD_eq_getElem?_getD,hk]
 rw [e];exact Qny s d hk
theorem Qfw (vo vd : Value) (o : List Lt) (d : List Dl) (w : World) (hO : Zl w vo o) (hD : Va w vd d) (ho : o.length ≤ 1000000) :
  Calls Tryz.prog 61 #[vo,vd] w fun e w' => ∃ v',e = .returned (.tuple #[v',.int .i64 (Zw o d).2]) ∧ Qc w w' ∧ Zl w' v' (Zw o d).1:=by
 obtain ⟨D,cap,vs,rfl,hD,hcap,hmax,_,hat⟩:=hD;have hn : d.length ≤ 9223372036854775807:=Nat.le_trans hcap (Nat.le_trans hmax zD);have NC:=El vo o w hO ho;obtain ⟨A0,cc0,rfl,_⟩:=id hO;obtain ⟨R,hR⟩:=Qe (Zw o d);rw [← hR];replace hR:=zh hR
 go_enter Tryz.func61,Tryz.ntmps61
 go_upto_region 2 with (go_at_call 59;refine zc (NC) ?_;rintro e w1 ⟨v0,rfl,h1,hown⟩)
 have hS0:=Uy hown;obtain ⟨F0,m0,rfl⟩:=Jn hown;clear NC hown hO;go_upto_region 3 with fail
 obtain ⟨n,hnl⟩:=Qe (d.length);rw [← hnl] at hn hD hat hcap ⊢;replace hnl:=zh hnl;obtain ⟨g,hg⟩:=Qe (fun i => d.getD i Zd);have hg' : ∀ i,d.getD i Zd = g i:=fun i => by rw [hg]
 have hdr : Hid (∀ s k,k < n → Zw s (d.drop k) = if Jh (Xg (g k).i) s (g k).l ≠ 0 then ([],Jh (Xg (g k).i) s (g k).l) else Zw (Yj (Xg (g k).i) s (g k).l) (d.drop (k + 1))):=fun s k hk => by
  rw [Bj s (by rw [← hnl.out];exact hk),hg']
 simp only [hg'] at hD hat;clear hg hg';replace hat:=zh hat;have hD1:=hD.ext h1
 go_loopw [6,16] (fun sv iv wr => ∃ (k : Nat) (s : List Lt),k ≤ n ∧ iv = .int .i64 k ∧ Zl wr sv s ∧ Hid (R = Zw s (d.drop k)) ∧ Qc w wr) (fun _ i _ => n - (intOf i).toNat)
 case atStart => exact ⟨0,o,Nat.zero_le _,rfl,hS0,by unfold Hid;rw [hR.out];rfl,h1⟩
 case round =>
  clear hS0;obtain ⟨k,s,hk,rfl,hS,hrun,hE⟩:=hrel;obtain ⟨wo,rfl⟩:=Qe wr;by_cases hlt : k < n
  ·obtain ⟨b,off,rfl,hb,hc⟩:=(hD.ext hE) Qa;have hL:=(hat.out k hlt).ext hE;obtain ⟨c0,c1,c2,c3,c4,c5,c6⟩:=zp7 hc hlt;have HS:=zh (hdr.out s k hlt);obtain ⟨VL,hvl⟩:=Qe (vs k);rw [← hvl] at c6 hL;clear hvl hc hdr hat hR hD hD1;obtain ⟨TL,cl,hVL,_⟩:=id hL;subst hVL;obtain ⟨AS,cs,hsv,_⟩:=id hS;subst hsv;obtain ⟨SD,hSD⟩:=Qe (Zw s (d.drop k));rw [← hSD] at HS hrun;clear hSD;go_upto_region 5 with fail
   obtain ⟨v3,hv⟩:=Qe (wo.alloc (.cells #[.int .i64 (g k).on.y,.int .i64 (g k).on.m,.bool (g k).on.s,.int .i64 (g k).on.d,.bool (g k).i,.string (g k).w,.slice TL (g k).l.length cl] 57));rw [← hv];have E3 : Qc wo v3:=by rw [hv];exact (Qc.refl _).alloc _
   have H3 : Qb v3 wo.heap.size 57 #[.int .i64 (g k).on.y,.int .i64 (g k).on.m,.bool (g k).on.s,.int .i64 (g k).on.d,.bool (g k).i,.string (g k).w,.slice TL (g k).l.length cl]:=by rw [hv];exact Qb.new _ _ _
   clear hv;generalize wo.heap.size = b3 at *;clear c0 c1 c2 c3 c4 c5 c6;replace hL:=hL.ext E3;replace hS:=hS.ext E3;replace hE:=hE.trans E3;clear E3;have NA:=fun h1 h2 => Qe3 (.slice AS s.length cs) (.slice TL (g k).l.length cl) s (g k).l v3 h1 h2
   have NB:=fun h1 h2 => Qnu (.slice AS s.length cs) (.slice TL (g k).l.length cl) s (g k).l v3 h1 h2
   obtain ⟨q0,q1,q2,q3,q4,q5,q6,lq⟩:=Qb.d7 H3;cases hi : (g k).i
   ·have NX:=NB hS hL;rw [hi] at HS;have HS2 : Hid (SD = if Jh (-1) s (g k).l ≠ 0 then ([],Jh (-1) s (g k).l) else Zw (Yj (-1) s (g k).l) (d.drop (k + 1))):=HS;rw [hi] at q4;clear HS hi;generalize hce : Jh (-1) s (g k).l = E1 at *;generalize Yj (-1) s (g k).l = L1 at *;by_cases e0 : E1 = 0
    ·subst e0;have HS3:=zh (HS2.out.trans (if_neg (by simp)));clear HS2 hce;go_wp2_with (first | (go_at_call 108;(with_reducible refine zc (NX) ?_);rintro e w6 ⟨F6,k6,m6,rfl,h6,L6⟩) | (go_at_fn 108;(with_reducible refine zc (NX) ?_);rintro e w6 ⟨F6,k6,m6,rfl,h6,L6⟩));exact ⟨⟨k + 1,L1,Qa,by go_num,L6,zh (hrun.out.trans HS3.out),hE.trans h6⟩,zi⟩
    ·have g0 : (E1 == 0) = false := zb e0;have g0n : (E1 != 0) = true := by rw [bne, g0]; rfl
     have HS3:=zh (hrun.out.trans (HS2.out.trans (if_pos e0)));clear HS2 hrun hce e0;go_wp2_with (first | (go_at_call 108;(with_reducible refine zc (NX) ?_);rintro e w6 ⟨F6,k6,m6,rfl,h6,L6⟩) | (go_at_fn 108;(with_reducible refine zc (NX) ?_);rintro e w6 ⟨F6,k6,m6,rfl,h6,L6⟩));go_ret2;exact ⟨_,by rw [HS3.out];rfl,hE.trans h6,by rw [HS3.out];exact Fp _⟩
   ·have NX:=NA hS hL;rw [hi] at HS;have HS2 : Hid (SD = if Jh 1 s (g k).l ≠ 0 then ([],Jh 1 s (g k).l) else Zw (Yj 1 s (g k).l) (d.drop (k + 1))):=HS;rw [hi] at q4;clear HS hi;generalize hce : Jh 1 s (g k).l = E1 at *;generalize Yj 1 s (g k).l = L1 at *;by_cases e0 : E1 = 0
    ·subst e0;have HS3:=zh (HS2.out.trans (if_neg (by simp)));clear HS2 hce;go_wp2_with (first | (go_at_call 19;(with_reducible refine zc (NX) ?_);rintro e w6 ⟨F6,k6,m6,rfl,h6,L6⟩) | (go_at_fn 19;(with_reducible refine zc (NX) ?_);rintro e w6 ⟨F6,k6,m6,rfl,h6,L6⟩));exact ⟨⟨k + 1,L1,Qa,by go_num,L6,zh (hrun.out.trans HS3.out),hE.trans h6⟩,zi⟩
    ·have g0 : (E1 == 0) = false := zb e0;have g0n : (E1 != 0) = true := by rw [bne, g0]; rfl
     have HS3:=zh (hrun.out.trans (HS2.out.trans (if_pos e0)));clear HS2 hrun hce e0;go_wp2_with (first | (go_at_call 19;(with_reducible refine zc (NX) ?_);rintro e w6 ⟨F6,k6,m6,rfl,h6,L6⟩) | (go_at_fn 19;(with_reducible refine zc (NX) ?_);rintro e w6 ⟨F6,k6,m6,rfl,h6,L6⟩));go_ret2;exact ⟨_,by rw [HS3.out];rfl,hE.trans h6,by rw [HS3.out];exact Fp _⟩
  ·obtain rfl : k = n:=Qa
   have hr : Hid (R = (s,0)):=by
    unfold Hid;rw [hrun.out,hnl.out,List.drop_length];rfl
   clear hrun hdr hat hR;go_wp2;go_ret2;exact ⟨_,by rw [hr.out];rfl,hE,by rw [hr.out];exact hS⟩
theorem Qoh (A A' : OA) (ca cb : Nat) (c : Qd) (v : Value) (l : List Pd) (w : World) (hC : Za w A ca A' cb c) (hP : J9 w v l) :
  Calls Tryz.prog 73 #[.agg #[.slice A c.nk ca,.slice A' c.ny cb],v] w fun e w' => e = .returned (.tuple #[.agg #[.slice A c.nk ca,.slice A' c.ny cb],.int .i64 (c.validE l)]) ∧ Qc w w':=by
 have NO:=fun w h => Hm A A' ca cb c w h
 obtain ⟨D,cap,_,_,_,hv9,_⟩:=id hP;subst hv9;have NP:=fun w h1 h2 => Qc1 A A' ca cb c (.slice D l.length cap) l w h1 h2
 obtain ⟨R,hR0⟩:=Qe (c.validE l);rw [← hR0];have HR:=zh hR0;clear hR0
 go_enter Tryz.func73,Tryz.ntmps73
 go_upto_region 1 with fail
 obtain ⟨v,b1,b2,E,B1,B2,hbr1,hbr,hn21,hv,hb1,hb2⟩:=Jy w 25 #[.slice A c.nk ca,.slice A' c.ny cb] 130 #[.slice none 0 0,.slice none 0 0];rw [← hv,← hb2,← hb1];clear hv hb1 hb2;obtain ⟨k0,k1,lk⟩:=Qb.d2 B1;obtain ⟨ck,hck⟩:=Qe (c.chk);simp only [← hck] at NO;replace hck:=zh hck;go_upto_region 2 with (go_at_call 64;refine zc (NO _ (hC.ext E)) ?_;rintro e w1 ⟨rfl,h1⟩)
 obtain ⟨v3,hv⟩:=Qe (w1.alloc (.cells #[.slice A c.nk ca,.slice A' c.ny cb] 130));rw [← hv];have h3 : Qc w1 v3:=by rw [hv];exact (Qc.refl _).alloc _
 have H3 : Qb v3 w1.heap.size 130 #[.slice A c.nk ca,.slice A' c.ny cb]:=by rw [hv];exact Qb.new _ _ _
 clear hv;generalize w1.heap.size = b9 at *;replace E:=(E.trans h1).trans h3;replace B2:=(B2.ext h1).ext h3;have C:=hC.ext E;have P:=hP.ext E;clear hC hP k0 k1 lk B1 NO h1 h3;by_cases e0 : ck = 0;rotate_left
 ·have g0 : (ck == 0) = false := zb e0;have g0n : (ck != 0) = true := by rw [bne, g0]; rfl
  have hr : R = ck:=by rw [HR.out,hck.out];unfold Qd.validE;rw [if_pos (by rw [← hck.out];exact e0)]
  clear HR e0 hck NP;obtain ⟨k0,k1,lk⟩:=Qb.d2 H3;obtain ⟨f0,f1,x0,x1,lx⟩:=Qb.e2 B2;have H4:=Qo B2 (.slice A c.nk ca) (.slice A' c.ny cb);have EF:=(E.setCell (p:=⟨b2,0,none⟩) hbr (.slice A c.nk ca)).setCell (p:=⟨b2,1,none⟩) hbr (.slice A' c.ny cb);obtain ⟨y0,y1⟩:=H4.c2;go_wp2;refine bodyPost_ret (v:=.tuple #[.agg #[.slice A c.nk ca,.slice A' c.ny cb],.int .i64 ck]) Zf rfl ⟨by rw [hr],EF⟩
 ·subst e0;have hr : Hid (R = c.persE l) := by unfold Hid; rw [HR.out]; unfold Qd.validE; rw [if_neg (by rw [← hck.out]; simp)]
  clear HR hck;go_upto_region 4 with fail
  refine Zc 6 [4,5] (fun x => Qc v3 x) mixed rfl ?_;intro vz hvz;have HC:=hvz;refine Qs (g:=3) [0,1,2] HC ?_
  constructor
  refine ⟨fun u hu => ?_,?_⟩
  ·obtain ⟨k0,k1,lk⟩:=Qb.d2 (H3.ext hu);exact Qk
  refine Qj 3 ?_;go_wp2_with (go_at_call 107;refine zc (NP _ (C.ext HC) (P.ext HC)) ?_;rintro e va ⟨rfl,h4⟩);replace HC:=HC.trans h4;clear h4;refine Qf HC ?_;refine Qr 4 ?_;replace B2:=B2.ext HC;replace E:=E.trans HC;obtain ⟨f0,f1,x0,x1,lx⟩:=Qb.e2 B2;have H4:=Qo B2 (.slice A c.nk ca) (.slice A' c.ny cb);have EF:=(E.setCell (p:=⟨b2,0,none⟩) hbr (.slice A c.nk ca)).setCell (p:=⟨b2,1,none⟩) hbr (.slice A' c.ny cb);obtain ⟨y0,y1⟩:=H4.c2;go_wp2;refine Qq ?_;refine Qr 5 ?_;go_wp2;refine Qq ?_;refine Qx ?_;go_wp2;refine bodyPost_ret (v:=.tuple #[.agg #[.slice A c.nk ca,.slice A' c.ny cb],.int .i64 (c.persE l)]) Zf rfl ⟨by rw [hr.out],EF⟩
theorem Qgu (A A' : OA) (ca cb : Nat) (c : Qd) (p : Pd) (vo vd vc : Value) (w : World) (hC : Za w A ca A' cb c) (hP : Wb w p vo vd vc) :
  Calls Tryz.prog 43 #[.agg #[.slice A c.nk ca,.slice A' c.ny cb],.agg #[.string p.h,.int .i64 p.a.y,.int .i64 p.a.m,.bool p.a.s,.int .i64 p.a.d,.int .i64 p.b.y,.int .i64 p.b.m,.bool p.b.s,.int .i64 p.b.d,vo,vd,vc]] w fun e w' => ∃ v',e = .returned (.tuple #[v',.int .i64 (c.closeV p).2]) ∧ Qc w w' ∧ Zl w' v' (c.closeV p).1:=by
 obtain ⟨t1,s1,e1,_⟩:=id hP.o;subst e1;obtain ⟨t2,s2,_,e2,_⟩:=id hP.d;subst e2;obtain ⟨t3,s3,e3,_⟩:=id hP.c;subst e3;have NV:=fun w h1 v h2 => Qoh A A' ca cb c v [p] w h1 h2
 simp only [Qof] at NV;obtain ⟨R,hR0⟩:=Qe (c.closeV p);rw [← hR0];have HR:=zh hR0;clear hR0
 go_enter Tryz.func43,Tryz.ntmps43
 go_upto_region 1 with fail
 obtain ⟨v,b1,b2,E,B1,B2,hbr1,hbr,hn21,hv,hb1,hb2⟩:=Jy w 25 #[.slice A c.nk ca,.slice A' c.ny cb] 55 #[.string p.h,.int .i64 p.a.y,.int .i64 p.a.m,.bool p.a.s,.int .i64 p.a.d,.int .i64 p.b.y,.int .i64 p.b.m,.bool p.b.s,.int .i64 p.b.d,.slice t1 p.o.length s1,.slice t2 p.d.length s2,.slice t3 p.c.length s3];rw [← hv,← hb2,← hb1];clear hv hb1 hb2;have C:=hC.ext E;have P:=hP.ext E;clear hC hP;obtain ⟨k0,k1,lk⟩:=Qb.d2 B1;obtain ⟨p0,p1,p2,p3,p4,p5,p6,p7,p8,p9,p10,p11,lp⟩:=Qb.d12 B2;obtain ⟨pe,hpe⟩:=Qe (c.perE p);simp only [← hpe] at NV;replace hpe:=zh hpe;have AL:=(Qc.refl v).alloc (.cells #[.string p.h,.int .i64 p.a.y,.int .i64 p.a.m,.bool p.a.s,.int .i64 p.a.d,.int .i64 p.b.y,.int .i64 p.b.m,.bool p.b.s,.int .i64 p.b.d,.slice t1 p.o.length s1,.slice t2 p.d.length s2,.slice t3 p.c.length s3] 55)
 have NV1:=NV _ (C.ext AL) (.slice (some ⟨v.heap.size,0,none⟩) 1 1) (Qmk (t:=55) (Qb.new v 55 #[.string p.h,.int .i64 p.a.y,.int .i64 p.a.m,.bool p.a.s,.int .i64 p.a.d,.int .i64 p.b.y,.int .i64 p.b.m,.bool p.b.s,.int .i64 p.b.d,.slice t1 p.o.length s1,.slice t2 p.d.length s2,.slice t3 p.c.length s3]) (P.ext AL));go_upto_region 2 with (go_at_call 73;refine zc (NV1) ?_;rintro e w1 ⟨rfl,h1⟩)
 replace h1:=AL.trans h1;clear NV NV1 AL;obtain ⟨v3,hv⟩:=Qe (w1.alloc (.cells #[.slice A c.nk ca,.slice A' c.ny cb] 130));rw [← hv];have h3 : Qc w1 v3:=by rw [hv];exact (Qc.refl _).alloc _
 have H3 : Qb v3 w1.heap.size 130 #[.slice A c.nk ca,.slice A' c.ny cb]:=by rw [hv];exact Qb.new _ _ _
 clear hv;generalize w1.heap.size = b9 at *;replace h1:=h1.trans h3;replace E:=E.trans h1;replace C:=C.ext h1;replace P:=P.ext h1;replace B2:=B2.ext h1;clear h1 h3 H3 B1 k0 k1 lk p0 p1 p2 p3 p4 p5 p6 p7 p8 p9 p10 p11 lp;by_cases e0 : pe = 0;rotate_left
 ·have g0 : (pe == 0) = false := zb e0;have g0n : (pe != 0) = true := by rw [bne, g0]; rfl
  have hr : Hid (R = ([],pe)):=by unfold Hid;rw [HR.out,hpe.out];unfold Qd.closeV;rw [if_pos (by rw [← hpe.out];exact e0)]
  clear HR e0 hpe;go_wp2;go_ret2;exact ⟨_,by rw [hr.out];rfl,E,by rw [hr.out];exact Fp _⟩
 ·subst e0;have hr : Hid (R = Zw p.o p.d) := by unfold Hid; rw [HR.out]; unfold Qd.closeV; rw [if_neg (by rw [← hpe.out]; simp)]
  have NB:=Qfw _ _ p.o p.d v3 P.o P.d (by have:=Qmh hpe.out.symm;omega);clear HR hpe;rw [← hr.out] at NB;clear hr;obtain ⟨p0,p1,p2,p3,p4,p5,p6,p7,p8,p9,p10,p11,lp⟩:=Qb.d12 B2;go_wp2_with (go_at_call 61;refine zc (NB) ?_;rintro e w5 ⟨v5,rfl,h5,L5⟩);go_ret2;exact ⟨v5,rfl,E.trans h5,L5⟩
end
section
open Go Go.RowKit
theorem L4 {w : World} {b off n k : Nat} {g : Nat → Pd} {vo vd vc : Nat → Value} (hc : ∀ i j v,i < n → (Qi (g i) (vo i) (vd i) (vc i))[j]? = some v → w.cell? ⟨b,off + i * 12 + j,none⟩ = some v) (hk : k < n) :
  w.cell? ⟨b,off + k * 12,none⟩ = some (.string (g k).h) ∧ w.cell? ⟨b,off + k * 12 + 1,none⟩ = some (.int .i64 (g k).a.y) ∧ w.cell? ⟨b,off + k * 12 + 2,none⟩ = some (.int .i64 (g k).a.m) ∧ w.cell? ⟨b,off + k * 12 + 3,none⟩ = some (.bool (g k).a.s) ∧ w.cell? ⟨b,off + k * 12 + 4,none⟩ = some (.int .i64 (g k).a.d) ∧ w.cell? ⟨b,off + k * 12 + 5,none⟩ = some (.int .i64 (g k).b.y) ∧ w.cell? ⟨b,off + k * 12 + 6,none⟩ = some (.int .i64 (g k).b.m) ∧ w.cell? ⟨b,off + k * 12 + 7,none⟩ = some (.bool (g k).b.s) ∧ w.cell? ⟨b,off + k * 12 + 8,none⟩ = some (.int .i64 (g k).b.d) ∧ w.cell? ⟨b,off + k * 12 + 9,none⟩ = some (vo k) ∧ w.cell? ⟨b,off + k * 12 + 10,none⟩ = some (vd k) ∧ w.cell? ⟨b,off + k * 12 + 11,none⟩ = some (vc k) :=
 ⟨hc k 0 _ hk rfl,hc k 1 _ hk rfl,hc k 2 _ hk rfl,hc k 3 _ hk rfl,hc k 4 _ hk rfl,hc k 5 _ hk rfl,hc k 6 _ hk rfl,hc k 7 _ hk rfl,hc k 8 _ hk rfl,hc k 9 _ hk rfl,hc k 10 _ hk rfl,hc k 11 _ hk rfl⟩
end
section
instance : DecidableEq Lt:=fun a b => if h : a.g = b.g ∧ a.n = b.n then .isTrue (by cases a;cases b;simp_all) else .isFalse (fun e => h ⟨by rw [e],by rw [e]⟩)
def Qd.behV (c : Qd) (x y : Pd) : Bool:=decide (x.h = y.h) && decide (c.numV y.a = c.numV x.b + 1)
def Qaz (x y : Pd) : Pd:=⟨x.h,x.a,y.b,x.o,x.d ++ y.d,y.c⟩
def Qd.archE (c : Qd) (l : List Pd) : Int:=if c.chk ≠ 0 then c.chk else if 32 < l.length then 3 else c.persE l
def Ji : Nat → List Lt → List Lt → List ByteArray
 | 0,_,_ => []
 | _ + 1,[],[] => []
 | m + 1,x :: a,[] => x.g :: Ji m a []
 | m + 1,[],y :: b => y.g :: Ji m [] b
 | m + 1,x :: a,y :: b => if Z5 x.g y.g then x.g :: Ji m a (y :: b) else if x.g = y.g then y.g :: Ji m a b else y.g :: Ji m (x :: a) b
def Jk : List Lt → ByteArray → Int
 | [],_ => 0
 | x :: l,s => if x.g = s then x.n else Jk l s
def sorted (l : List Lt) : Prop:=l.Pairwise fun x y => Z5 x.g y.g = true
theorem Qnd (x : ByteArray) : Z5 x x = false:=by
 unfold Z5;exact decide_eq_false (List.lt_irrefl _)
theorem Bb {x y z : ByteArray} (h1 : Z5 x y = true) (h2 : Z5 y z = true) : Z5 x z = true:=by
 unfold Z5 at *;exact decide_eq_true (List.lt_trans (of_decide_eq_true h1) (of_decide_eq_true h2))
theorem Kx {x y : ByteArray} (h : Z5 x y = true) : x ≠ y:=fun e => by rw [e,Qnd] at h;cases h
theorem Wu {x y : ByteArray} (h : x.toList = y.toList) : x = y:=by
 have hx:=Go.Lib.toList_data x;have hy:=Go.Lib.toList_data y;rw [hx,hy] at h;cases x;cases y
 simp only [ByteArray.mk.injEq];exact Array.ext' h
theorem Qdq {x y : ByteArray} (h1 : Z5 x y = false) (h2 : Z5 y x = false) : x = y:=by
 unfold Z5 at *;have a:=of_decide_eq_false h1;have b:=of_decide_eq_false h2;refine Wu ?_;exact List.le_antisymm (List.not_lt.1 b) (List.not_lt.1 a)
theorem Qb1 (y : Lt) : Yd Y2 y = y.g:=by unfold Yd;exact if_pos (show Y2.g.size = 0 from rfl)
theorem Mi : ∀ m a b,(∀ x ∈ a,x.g.size ≠ 0) → Ji m a b = (J1 m a b).map fun p => Yd p.1 p.2
 | 0,_,_,_ => rfl
 | m + 1,[],[],_ => rfl
 | m + 1,x :: a,[],h => by
  have h0:=h x (by simp);rw [Ji,J1,List.map_cons,Mi m a [] (fun z hz => h z (by simp [hz]))]
  simp [Yd,h0]
 | m + 1,[],y :: b,_ => by
  rw [Ji,J1,List.map_cons,Mi m [] b (fun z hz => by simp at hz),Qb1]
 | m + 1,x :: a,y :: b,h => by
  have h0:=h x (by simp);rw [Ji,J1];by_cases h1 : Z5 x.g y.g = true
  ·rw [if_pos h1,if_pos h1,List.map_cons,Mi m a (y :: b) (fun z hz => h z (by simp [hz]))];simp [Yd,h0]
  ·rw [if_neg h1,if_neg h1];rw [Bool.not_eq_true] at h1;by_cases h2 : Z5 y.g x.g = true
   ·rw [if_neg (Ne.symm (Kx h2)),if_pos h2,List.map_cons,Mi m (x :: a) b h,Qb1]
   ·rw [Bool.not_eq_true] at h2;have e:=Qdq h1 h2;rw [if_pos e,if_neg (by rw [h2];decide),List.map_cons,Mi m a b (fun z hz => h z (by simp [hz]))];simp [Yd,e]
theorem Cs {l : List Lt} {s : ByteArray} (h : ∀ x ∈ l,x.g ≠ s) : Jk l s = 0:=by
 induction l with
 | nil => rfl
 | cons x l ih => rw [Jk,if_neg (h x (by simp)),ih fun z hz => h z (by simp [hz])]
theorem Gl {l : List Lt} (hs : sorted l) {x : Lt} (hx : x ∈ l) : Jk l x.g = x.n:=by
 induction l with
 | nil => cases hx
 | cons y l ih =>
  unfold sorted at hs;rw [List.pairwise_cons] at hs;rw [Jk];rcases List.mem_cons.1 hx with rfl | h
  ·rw [if_pos rfl]
  ·rw [if_neg (Kx (hs.1 x h)),ih hs.2 h]
def Dj (a b : List Lt) (p : Lt × Lt) : Prop :=
 (p.1 ∈ a ∧ p.2 = Y2 ∧ ∀ y ∈ b,y.g ≠ p.1.g) ∨ (p.1 = Y2 ∧ p.2 ∈ b ∧ ∀ x ∈ a,x.g ≠ p.2.g) ∨ (p.1 ∈ a ∧ p.2 ∈ b ∧ p.1.g = p.2.g)
theorem Ng : ∀ m a b,sorted a → sorted b → ∀ p ∈ J1 m a b,Dj a b p
 | 0,_,_,_,_,p,hp => by simp [J1] at hp
 | m + 1,[],[],_,_,p,hp => by simp [J1] at hp
 | m + 1,x :: a,[],ha,hb,p,hp => by
  rw [J1] at hp;unfold sorted at ha;rw [List.pairwise_cons] at ha;rcases List.mem_cons.1 hp with rfl | hp
  ·exact .inl ⟨by simp,rfl,fun y hy => by simp at hy⟩
  ·rcases Ng m a [] ha.2 hb p hp with ⟨h1,h2,h3⟩ | ⟨_,h2,_⟩ | ⟨_,h2,_⟩
   ·exact .inl ⟨by simp [h1],h2,h3⟩
   ·simp at h2
   ·simp at h2
 | m + 1,[],y :: b,ha,hb,p,hp => by
  rw [J1] at hp;unfold sorted at hb;rw [List.pairwise_cons] at hb;rcases List.mem_cons.1 hp with rfl | hp
  ·exact .inr (.inl ⟨rfl,by simp,fun x hx => by simp at hx⟩)
  ·rcases Ng m [] b ha hb.2 p hp with ⟨h1,_,_⟩ | ⟨h1,h2,h3⟩ | ⟨h1,_,_⟩
   ·simp at h1
   ·exact .inr (.inl ⟨h1,by simp [h2],h3⟩)
   ·simp at h1
 | m + 1,x :: a,y :: b,ha,hb,p,hp => by
  rw [J1] at hp;have ha':=ha;have hb':=hb;unfold sorted at ha' hb';rw [List.pairwise_cons] at ha' hb';by_cases h1 : Z5 x.g y.g = true
  ·rw [if_pos h1] at hp
   have hlt : ∀ z ∈ y :: b,Z5 x.g z.g = true:=fun z hz => by
    rcases List.mem_cons.1 hz with rfl | hz
    ·exact h1
    ·exact Bb h1 (hb'.1 z hz)
   rcases List.mem_cons.1 hp with rfl | hp
   ·exact .inl ⟨by simp,rfl,fun z hz => Ne.symm (Kx (hlt z hz))⟩
   ·rcases Ng m a (y :: b) ha'.2 hb p hp with ⟨q1,q2,q3⟩ | ⟨q1,q2,q3⟩ | ⟨q1,q2,q3⟩
    ·exact .inl ⟨by simp [q1],q2,q3⟩
    ·refine .inr (.inl ⟨q1,q2,fun z hz => ?_⟩);rcases List.mem_cons.1 hz with rfl | hz
     ·exact Kx (hlt _ q2)
     ·exact q3 z hz
    ·exact .inr (.inr ⟨by simp [q1],q2,q3⟩)
  ·rw [if_neg h1] at hp;rw [Bool.not_eq_true] at h1;by_cases h2 : Z5 y.g x.g = true
   ·rw [if_pos h2] at hp
    have hlt : ∀ z ∈ x :: a,Z5 y.g z.g = true:=fun z hz => by
     rcases List.mem_cons.1 hz with rfl | hz
     ·exact h2
     ·exact Bb h2 (ha'.1 z hz)
    rcases List.mem_cons.1 hp with rfl | hp
    ·exact .inr (.inl ⟨rfl,by simp,fun z hz => Ne.symm (Kx (hlt z hz))⟩)
    ·rcases Ng m (x :: a) b ha hb'.2 p hp with ⟨q1,q2,q3⟩ | ⟨q1,q2,q3⟩ | ⟨q1,q2,q3⟩
     ·refine .inl ⟨q1,q2,fun z hz => ?_⟩;rcases List.mem_cons.1 hz with rfl | hz
      ·exact Kx (hlt _ q1)
      ·exact q3 z hz
     ·exact .inr (.inl ⟨q1,by simp [q2],q3⟩)
     ·exact .inr (.inr ⟨q1,by simp [q2],q3⟩)
   ·rw [if_neg h2] at hp;rw [Bool.not_eq_true] at h2;have e:=Qdq h1 h2;rcases List.mem_cons.1 hp with rfl | hp
    ·exact .inr (.inr ⟨by simp,by simp,e⟩)
    ·rcases Ng m a b ha'.2 hb'.2 p hp with ⟨q1,q2,q3⟩ | ⟨q1,q2,q3⟩ | ⟨q1,q2,q3⟩
     ·refine .inl ⟨by simp [q1],q2,fun z hz => ?_⟩;rcases List.mem_cons.1 hz with rfl | hz
      ·rw [← e];exact Kx (ha'.1 _ q1)
      ·exact q3 z hz
     ·refine .inr (.inl ⟨q1, by simp [q2], fun z hz => ?_⟩);rcases List.mem_cons.1 hz with rfl | hz
      ·rw [e];exact Kx (hb'.1 _ q2)
      ·exact q3 z hz
     ·exact .inr (.inr ⟨by simp [q1],by simp [q2],q3⟩)
theorem Ql5 {a b : List Lt} (ha : sorted a) (hb : sorted b) (na : ∀ x ∈ a,x.g.size ≠ 0) {p : Lt × Lt} (hp : Dj a b p) : Jk a (Yd p.1 p.2) = p.1.n ∧ Jk b (Yd p.1 p.2) = p.2.n:=by
 rcases hp with ⟨h1,h2,h3⟩ | ⟨h1,h2,h3⟩ | ⟨h1,h2,h3⟩
 ·have e : Yd p.1 p.2 = p.1.g := by unfold Yd; rw [if_neg (na _ h1)]
  rw [e,Gl ha h1,Cs h3,h2];exact ⟨rfl,rfl⟩
 ·have e : Yd p.1 p.2 = p.2.g := by unfold Yd; rw [h1]; rfl
  rw [e,Gl hb h2,Cs h3,h1];exact ⟨rfl,rfl⟩
 ·have e : Yd p.1 p.2 = p.1.g := by unfold Yd; rw [if_neg (na _ h1)]
  rw [e,Gl ha h1,h3,Gl hb h2];exact ⟨rfl,rfl⟩
def Vn (sg : Int) (a b : List Lt) : List ByteArray → List Lt → List Lt × Bool
 | [],o => (o,true)
 | s :: l,o => if 1099511627776 < Jk a s + sg * Jk b s ∨ Jk a s + sg * Jk b s < -1099511627776 then ([],false)
  else Vn sg a b l (if Jk a s + sg * Jk b s = 0 then o else o ++ [⟨s,Jk a s + sg * Jk b s⟩])
theorem Qd2 {sg : Int} {a b : List Lt} (ha : sorted a) (hb : sorted b) (na : ∀ x ∈ a,x.g.size ≠ 0) : ∀ (L : List (Lt × Lt)) (o : List Lt),(∀ p ∈ L,Dj a b p) →
  Vn sg a b (L.map fun p => Yd p.1 p.2) o = if J5 sg L then (o ++ Yq sg L,true) else ([],false)
 | [],o,_ => by simp [Vn,J5,Yq]
 | p :: L,o,h => by
  obtain ⟨e1,e2⟩:=Ql5 ha hb na (h p (by simp));have ih:=fun o => Qd2 (sg:=sg) ha hb na L o (fun q hq => h q (by simp [hq]))
  rw [List.map_cons,Vn,e1,e2];have hc : J5 sg (p :: L) = (Xq sg p.1 p.2 && J5 sg L):=rfl;have ho : Yq sg (p :: L) = Vg sg p ++ Yq sg L:=by unfold Yq;rw [List.flatMap_cons]
  have hk : Xq sg p.1 p.2 = !(decide (1099511627776 < p.1.n + sg * p.2.n) || decide (p.1.n + sg * p.2.n < -1099511627776)):=rfl;rw [hc,ho];by_cases hbad : 1099511627776 < p.1.n + sg * p.2.n ∨ p.1.n + sg * p.2.n < -1099511627776
  ·have : Xq sg p.1 p.2 = false:=by
    rw [hk];rcases hbad with q | q <;> simp [q]
   rw [if_pos hbad,this,Bool.false_and,if_neg (by decide)]
  ·have : Xq sg p.1 p.2 = true:=by
    rw [hk,decide_eq_false Qa,decide_eq_false Qa];rfl
   rw [if_neg hbad,this,Bool.true_and,ih];unfold Vg Lb;by_cases h0 : p.1.n + sg * p.2.n = 0
   ·rw [if_pos h0,if_pos h0,List.nil_append]
   ·rw [if_neg h0,if_neg h0,List.append_assoc]
end
section
open Go Go.RowKit Go.Shelf
attribute [local go_sem] Z8
theorem Qkb (f : Nat → Lt) (k : Nat) : Wp f k = !(!Zu (f k).g || ((f k).n == 0) || decide (1099511627776 < (f k).n) || decide ((f k).n < -1099511627776) || (decide (0 < k) && !Z5 (f (k - 1)).g (f k).g)):=by
 rw [Qa9];cases Zu (f k).g <;> cases Z5 (f (k - 1)).g (f k).g <;> cases ((f k).n == 0) <;> cases decide (1099511627776 < (f k).n) <;> cases decide ((f k).n < -1099511627776) <;> cases decide (0 < k) <;> rfl
theorem Sm (T : OA) (n cap : Nat) (f : Nat → Lt) (w : World) (hT : Qm w T n 2 (Q5 f)) (hcap : n ≤ cap) (hn : n ≤ 9223372036854775807) :
  Calls Tryz.prog 170 #[.slice T n cap] w fun e w' => e = .returned (.int .i64 (Jw f n)) ∧ Qc w w':=by
 have hge:=Iv
 go_enter Tryz.func170,Tryz.ntmps170
 by_cases h64 : 64 < n
 ·have g1 : decide (64 < n) = true:=zt h64;rw [Qbe h64];go_wp2;go_ret;exact ⟨rfl,Qc.refl _⟩
 ·have g1 : decide (64 < n) = false:=zf h64;go_upto_region 4 with fail
  go_loopw [3] (fun i wr => ∃ k : Nat,k ≤ n ∧ i = .int .i64 k ∧ Hid (∀ j,j < k → Wp f j = true) ∧ Qc w wr) (fun i _ => n - (intOf i).toNat)
  case atStart => exact ⟨0,Nat.zero_le _,rfl,(fun j h => absurd h Qa),Qc.refl _⟩
  case round =>
   obtain ⟨k,hk,rfl,hall,hE⟩:=hrel;obtain ⟨wo,rfl⟩:=Qe wr;obtain ⟨hcwo,hfwo,hzwo⟩:=Qc.rules hE;try simp only [World.size_alloc] at hzwo
   obtain ⟨hcbwo,hfbwo,hzbwo⟩:=Qc.rules (show Qc w wo from Qu);clear hcwo hfwo;by_cases hlt : k < n
   ·obtain ⟨b, off, rfl, hb, hc⟩ := hT Qa;have hbo : b < wo.heap.size := Nat.lt_of_lt_of_le hb hE.size;have c0 : w.cell? ⟨b, off + k * 2, none⟩ = some (.string (f k).g) := by simpa using hc k 0 _ hlt rfl
    have c1 : w.cell? ⟨b,off + k * 2 + 1,none⟩ = some (.int .i64 (f k).n):=hc k 1 _ hlt rfl
    have hd0 : 0 < k → w.cell? ⟨b,off + (IntKind.i64.wrap ((k : Int) - 1)).toNat * 2,none⟩ = some (.string (f (k - 1)).g):=fun h => by
     rw [show (IntKind.i64.wrap ((k : Int) - 1)).toNat = k - 1 from by rw [IntKind.wrap_i64];omega]
     simpa using hc (k - 1) 0 _ Qa rfl
    have hin : 0 < k → (0 ≤ IntKind.i64.wrap ((k : Int) - 1) ∧ IntKind.i64.wrap ((k : Int) - 1) < (n : Int)):=fun h => by rw [IntKind.wrap_i64];omega
    have HK : Hid (Wp f k = _):=Qkb f k;clear hc;go_upto_region 6 with fail
    have m1:=fun x1 x2 => Oq x1 x2
    refine zuY wo ?_;intro wn hwn;clear m1;obtain ⟨_,_,_,_⟩:=Qv wo hwn;generalize hg : (!Zu (f k).g || ((f k).n == 0) || decide (1099511627776 < (f k).n) || decide ((f k).n < -1099511627776) || (decide (0 < k) && !Z5 (f (k - 1)).g (f k).g)) = g at *;have E2 : Qc w wn:=hE.trans hwn;cases g
    ·go_wp2
     exact ⟨⟨k + 1,Qa,by go_num,fun j hj => by
      by_cases e : j = k
      ·subst e;exact HK.out
      ·exact hall.out j Qa,E2⟩,zi⟩
    ·go_wp2;go_ret;exact ⟨Wt (Qbc hlt HK.out h64).symm,E2⟩
   ·obtain rfl : k = n:=Qa;go_wp2;go_ret;exact ⟨Wt (Qbb hall.out h64).symm,hE⟩
theorem Qgl (T : OA) (n cap : Nat) (f : Nat → Lt) (S : OA) (m cm : Nat) (g : Nat → Lt) (w : World) (hT : Qm w T n 2 (Q5 f)) (hcap : n ≤ cap) (hn : n ≤ 9223372036854775807) (hS : Qm w S m 2 (Q5 g)) (hcm : m ≤ cm) (hm : m ≤ 9223372036854775807) :
  Calls Tryz.prog 180 #[.slice T n cap,.slice S m cm] w fun e w' => e = .returned (.int .i64 (Vp f n g m)) ∧ Qc w w':=by
 have N1:=Sm T n cap f w hT hcap hn;have N2:=fun w h => Sm S m cm g w h hcm hm
 unfold Vp;generalize Jw f n = a at *;generalize Jw g m = b at *;by_cases e0 : a = 0
 ·subst e0;rw [if_neg (by simp)]
  go_enter Tryz.func180,Tryz.ntmps180
  go_wp2_with (first | (go_at_call 170;(with_reducible refine zc (N1) ?_);rintro e w1 ⟨rfl,h1⟩) | (go_at_call 170;(with_reducible refine zc (N2 _ (hS.ext h1)) ?_);rintro e w2 ⟨rfl,h2⟩));go_ret;exact ⟨rfl,h1.trans h2⟩
 ·have g0 : (a == 0) = false := zb e0;have g0n : (a != 0) = true := by rw [bne, g0]; rfl
  rw [if_pos e0]
  go_enter Tryz.func180,Tryz.ntmps180
  go_wp2_with (go_at_call 170;refine zc (N1) ?_;rintro e w1 ⟨rfl,h1⟩);go_ret;exact ⟨rfl,h1⟩
theorem Cq (T : OA) (n cap : Nat) (f : Nat → Lt) (s : ByteArray) (w : World) (hT : Qm w T n 2 (Q5 f)) (hn : n ≤ 9223372036854775807) :
  Calls Tryz.prog 182 #[.slice T n cap,.string s] w fun e w' => e = .returned (.int .i64 (Jk (Q0 f n) s)) ∧ Qc w w':=by
 obtain ⟨R,hR0⟩:=Qe (Jk (Q0 f n) s);rw [← hR0];have HR : Hid (R = Jk ((Q0 f n).drop 0) s):=hR0;clear hR0
 go_enter Tryz.func182,Tryz.ntmps182
 go_upto_region 2 with fail
 go_loopw [5] (fun i wr => ∃ k : Nat,k ≤ n ∧ i = .int .i64 k ∧ Hid (R = Jk ((Q0 f n).drop k) s) ∧ Qc w wr) (fun i _ => n - (intOf i).toNat)
 case atStart => exact ⟨0,Nat.zero_le _,rfl,HR,Qc.refl _⟩
 case round =>
  clear HR;obtain ⟨k,hk,rfl,hR,hE⟩:=hrel;obtain ⟨wo,rfl⟩:=Qe wr;by_cases hlt : k < n
  ·obtain ⟨b, off, rfl, hb, hc⟩ := (hT.ext hE) Qa;have c0 : wo.cell? ⟨b, off + k * 2, none⟩ = some (.string (f k).g) := by simpa [Q5] using hc k 0 _ hlt rfl
   have c1 : wo.cell? ⟨b,off + k * 2 + 1,none⟩ = some (.int .i64 (f k).n):=by simpa [Q5] using hc k 1 _ hlt rfl
   have hs : (Q0 f n).drop k = f k :: (Q0 f n).drop (k + 1):=by
    rw [List.drop_eq_getElem_cons (by simp [Q0];omega)];simp [Q0]
   have hR2 : Hid (R = if (f k).g = s then (f k).n else Jk ((Q0 f n).drop (k + 1)) s):=by
    unfold Hid;rw [hR.out,hs];rfl
   clear hc hs hR hT;by_cases he : (f k).g = s
   ·have hr:=hR2.out;rw [if_pos he] at hr;subst hr;rw [he] at c0;clear hR2 he;go_wp2;go_ret;exact ⟨rfl,hE⟩
   ·have hr:=hR2.out;rw [if_neg he] at hr;have hRn:=zh hr;have g0 : ((f k).g.toList == s.toList) = false:=zb fun h => he (Wu h)
    clear hR2 hr he;go_wp2;exact ⟨⟨k + 1,Qa,by go_num,hRn,hE⟩,zi⟩
  ·obtain rfl : k = n:=Qa
   have hr : R = 0:=by
    rw [hR.out,List.drop_eq_nil_of_le (by simp [Q0])];rfl
   subst hr;go_wp2;go_ret;exact ⟨rfl,hE⟩
def V8 (l : List ByteArray) : List Value:=l.map fun s => Value.string s
def Ly (l : List ByteArray) (i : Nat) : List Value:=[.string (l.getD i ⟨#[]⟩)]
theorem Gf (l : List ByteArray) (s : ByteArray) : V8 l ++ [.string s] = V8 (l ++ [s]):=by simp [V8]
theorem Qjl : (Tryz.prog.info? 9).map (fun i => (i.zero,i.size,i.bytes)) = some (some (.string ⟨#[]⟩),1,16):=by kernel_rfl
theorem Qak : (Tryz.prog.info? 85).map (fun i => (i.zero,i.size,i.bytes)) = some (some (.agg #[.string ⟨#[]⟩,.int .i64 0]),2,24):=by kernel_rfl
theorem Qns {w : World} {base k : Nat} {v : Value} {l : List ByteArray} (hk : k = l.length) (h : w.ownsRow base 9 1 v k (V8 l)) : ∃ F c,v = .slice F k c ∧ Qm w F k 1 (Ly l):=by
 have e : V8 l = Z2 (Ly l) k:=by
  subst hk;apply List.ext_getElem?;intro j;by_cases hj : j < l.length
  ·have:=Kl (f:=Ly l) (sz:=1) (fun _ => rfl) (i:=j) (j:=0) hj zD;rw [Nat.mul_one,Nat.add_zero] at this;rw [this];simp [V8,Ly,List.getD_eq_getElem?_getD,List.getElem?_eq_getElem hj]
  ·rw [List.getElem?_eq_none (by simp [V8];omega),List.getElem?_eq_none (by rw [Wm (f:=Ly l) (sz:=1) (fun _ => rfl)];omega)]
 rw [e] at h;obtain ⟨F,c,h1,h2,_⟩:=Vz (f:=Ly l) (fun _ => rfl) h;exact ⟨F,c,h1,h2⟩
theorem Mv {f : Nat → Lt} {n k : Nat} (h : k < n) : (Q0 f n).drop k = f k :: (Q0 f n).drop (k + 1):=by
 rw [List.drop_eq_getElem_cons (by simp [Q0];omega)];simp [Q0]
theorem Fq {f : Nat → Lt} {n k : Nat} (h : n ≤ k) : (Q0 f n).drop k = []:=List.drop_eq_nil_of_le (by simp [Q0];omega)
theorem Mh : ∀ m a b,(Ji m a b).length ≤ m
 | 0,_,_ => by simp [Ji]
 | m + 1,[],[] => by simp [Ji]
 | m + 1,x :: a,[] => by have:=Mh m a [];simp [Ji];omega
 | m + 1,[],y :: b => by have:=Mh m [] b;simp [Ji];omega
 | m + 1,x :: a,y :: b => by
  have h1:=Mh m a (y :: b);have h2:=Mh m (x :: a) b;have h3:=Mh m a b;rw [Ji]
  split
  ·simp;omega
  ·split
   ·simp;omega
   ·simp;omega
theorem Qig (T : OA) (n cap : Nat) (f : Nat → Lt) (S : OA) (m cm : Nat) (g : Nat → Lt) (w : World) (hT : Qm w T n 2 (Q5 f)) (hn : n ≤ 64) (hS : Qm w S m 2 (Q5 g)) (hm : m ≤ 64) :
  Calls Tryz.prog 181 #[.slice T n cap,.slice S m cm] w fun e w' => ∃ F c,e = .returned (.slice F (Ji (n + m) (Q0 f n) (Q0 g m)).length c) ∧ Qc w w' ∧ w'.ownsRow w.heap.size 9 1 (.slice F (Ji (n + m) (Q0 f n) (Q0 g m)).length c) (Ji (n + m) (Q0 f n) (Q0 g m)).length (V8 (Ji (n + m) (Q0 f n) (Q0 g m))):=by
 obtain ⟨i0,hi,hz0,hz1,hz2⟩:=info_parts Qjl;have hls:=lss_s;obtain ⟨G,hG0⟩:=Qe (Ji (n + m) (Q0 f n) (Q0 g m));rw [← hG0];have HG0 : Hid (G = [] ++ Ji (n + m) ((Q0 f n).drop 0) ((Q0 g m).drop 0)):=by unfold Hid;rw [hG0];simp
 clear hG0
 go_enter Tryz.func181,Tryz.ntmps181
 go_upto_region 3 with fail
 go_loopw [5,6,7] (fun ov iv kv wr => ∃ i k : Nat,i ≤ n ∧ k ≤ m ∧ iv = .int .i64 i ∧ kv = .int .i64 k ∧ ∃ gs : List ByteArray,Qc w wr ∧ wr.ownsRow w.heap.size 9 1 ov gs.length (V8 gs) ∧ ∃ M : Nat,(n - i) + (m - k) ≤ M ∧ M ≤ n + m ∧ gs.length + M ≤ n + m ∧ Hid (G = gs ++ Ji M ((Q0 f n).drop i) ((Q0 g m).drop k))) (fun _ iv kv _ => (n - (intOf iv).toNat) + (m - (intOf kv).toNat))
 case atStart => exact ⟨0,0,Nat.zero_le _,Nat.zero_le _,rfl,rfl,[],Qc.refl _,World.ownsRow_nil _ _ _ _,n + m,Qa,Qa,by simp,HG0⟩
 case round =>
  clear HG0;obtain ⟨i,k,hi1,hk1,rfl,rfl,gs,hE,hO,M,hM,hM2,hM3,hG⟩:=hrel;obtain ⟨wo,rfl⟩:=Qe wr;obtain ⟨F5,m5,rfl⟩:=Jn hO;by_cases hin : i < n
  ·have gi : decide (i < n) = true := zt hin;obtain ⟨M', rfl⟩ : ∃ M', M = M' + 1 := ⟨M - 1, Qa⟩;obtain ⟨b, off, rfl, hb, hc⟩ := (hT.ext hE) Qa;have c0 : wo.cell? ⟨b, off + i * 2, none⟩ = some (.string (f i).g) := by simpa [Q5] using hc i 0 _ hin rfl
   clear hc;by_cases hkm : k < m
   ·have gk : decide (k < m) = true := zt hkm;have gkm : ((k : Int) == (m : Int)) = false := zb Qa;obtain ⟨b2, off2, rfl, hb2, hc⟩ := (hS.ext hE) Qa;have d0 : wo.cell? ⟨b2, off2 + k * 2, none⟩ = some (.string (g k).g) := by simpa [Q5] using hc k 0 _ hkm rfl
    clear hc;rw [Mv hin,Mv hkm] at hG;go_upto_region 4 with fail
    by_cases hs : Z5 (f i).g (g k).g = true
    ·have HG : Hid (G = (gs ++ [(f i).g]) ++ Ji M' ((Q0 f n).drop (i + 1)) ((Q0 g m).drop k)):=by
      unfold Hid;rw [hG.out,Ji,if_pos hs,Mv hkm];simp
     have hsb : Op.bytesLess (f i).g.toList (g k).g.toList = true:=by rw [bytesLess_eq];exact hs
     clear hG hs;refine Qy wo ?_;intro w2 h2;obtain ⟨hcbw2,hfbw2,hzbw2,hzw2⟩:=Qv wo h2;replace hE:=hE.trans h2;replace hO:=Jf hO h2;go_upto_region 6 with (at_builtin;refine wpList_append_own_at _ rfl _ _ 22 rfl w.heap.size 9 i0 (.string ⟨#[]⟩) 1 16 Tryz.underlying22 hi hz0 hz1 hz2 rfl zD _ _ _ rfl (hO.alloc _) ⟨w2.heap.size,0,none⟩ 1 1 [.string (f i).g] rfl rfl (W4 _ _ _) (by simp [Value.oneCell']) (by unfold maxLen;omega) Qa (by have:=hE.size;simp;omega) ?_;intro o' w5 hown hgrow _ _)
     have E5 : Qc w w5:=(hE.alloc _).grown hgrow (fun q hq => (hO.lt q hq).1);rw [Gf] at hown;clear hgrow hO hE;go_wp2;exact ⟨⟨i + 1,k,Qa,Qa,by go_num,by go_num,gs ++ [(f i).g],E5,by simpa using hown,M',Qa,Qa,by simp;omega,HG⟩,zi⟩
    ·rw [Bool.not_eq_true] at hs;have hsb : Op.bytesLess (f i).g.toList (g k).g.toList = false := by rw [bytesLess_eq]; exact hs
     by_cases he : (f i).g = (g k).g
     ·have HG : Hid (G = (gs ++ [(g k).g]) ++ Ji M' ((Q0 f n).drop (i + 1)) ((Q0 g m).drop (k + 1))):=by
       unfold Hid;rw [hG.out,Ji,if_neg (by rw [hs];decide),if_pos he];simp
      have ge : ((f i).g.toList == (g k).g.toList) = true:=by rw [he];exact beq_self_eq_true _
      clear hG he;refine Qy wo ?_;intro w2 h2;obtain ⟨hcbw2,hfbw2,hzbw2,hzw2⟩:=Qv wo h2;have b0:=(h2.cell (p:=⟨b2,off2 + k * 2,none⟩) hb2).trans d0;have lb:=Nat.lt_of_lt_of_le hb2 h2.size;have a0:=(h2.cell (p:=⟨b,off + i * 2,none⟩) hb).trans c0;have la:=Nat.lt_of_lt_of_le hb h2.size;clear c0 hb;clear d0 hb2;replace hE:=hE.trans h2;replace hO:=Jf hO h2;clear h2;go_upto_region 7 with fail
      refine Qy w2 ?_;intro w3 h3;obtain ⟨hcbw3,hfbw3,hzbw3,hzw3⟩:=Qv w2 h3;have d1:=(h3.cell (p:=⟨b2,off2 + k * 2,none⟩) lb).trans b0;have lc:=Nat.lt_of_lt_of_le lb h3.size;clear b0 lb a0 la;replace hE:=hE.trans h3;replace hO:=Jf hO h3;clear h3;go_upto_region 10 with (at_builtin;refine wpList_append_own_at _ rfl _ _ 22 rfl w.heap.size 9 i0 (.string ⟨#[]⟩) 1 16 Tryz.underlying22 hi hz0 hz1 hz2 rfl zD _ _ _ rfl (hO.alloc _) ⟨w3.heap.size,0,none⟩ 1 1 [.string (g k).g] rfl rfl (W4 _ _ _) (by simp [Value.oneCell']) (by unfold maxLen;omega) Qa (by have:=hE.size;simp;omega) ?_;intro o' w5 hown hgrow _ _)
      have E5 : Qc w w5:=(hE.alloc _).grown hgrow (fun q hq => (hO.lt q hq).1);rw [Gf] at hown;clear hgrow hO hE;go_wp2;exact ⟨⟨i + 1,k + 1,Qa,Qa,by go_num,by go_num,gs ++ [(g k).g],E5,by simpa using hown,M',Qa,Qa,by simp;omega,HG⟩,zi⟩
     ·have HG : Hid (G = (gs ++ [(g k).g]) ++ Ji M' ((Q0 f n).drop i) ((Q0 g m).drop (k + 1))):=by
       unfold Hid;rw [hG.out,Ji,if_neg (by rw [hs];decide),if_neg he,Mv hin];simp
      have ge : ((f i).g.toList == (g k).g.toList) = false:=zb fun h => he (Wu h)
      clear hG he;refine Qy wo ?_;intro w2 h2;obtain ⟨hcbw2,hfbw2,hzbw2,hzw2⟩:=Qv wo h2;have b0:=(h2.cell (p:=⟨b2,off2 + k * 2,none⟩) hb2).trans d0;have lb:=Nat.lt_of_lt_of_le hb2 h2.size;have a0:=(h2.cell (p:=⟨b,off + i * 2,none⟩) hb).trans c0;have la:=Nat.lt_of_lt_of_le hb h2.size;clear c0 hb;clear d0 hb2;replace hE:=hE.trans h2;replace hO:=Jf hO h2;clear h2;go_upto_region 7 with fail
      refine Qy w2 ?_;intro w3 h3;obtain ⟨hcbw3,hfbw3,hzbw3,hzw3⟩:=Qv w2 h3;have d1:=(h3.cell (p:=⟨b2,off2 + k * 2,none⟩) lb).trans b0;have lc:=Nat.lt_of_lt_of_le lb h3.size;clear b0 lb a0 la;replace hE:=hE.trans h3;replace hO:=Jf hO h3;clear h3;go_upto_region 10 with (at_builtin;refine wpList_append_own_at _ rfl _ _ 22 rfl w.heap.size 9 i0 (.string ⟨#[]⟩) 1 16 Tryz.underlying22 hi hz0 hz1 hz2 rfl zD _ _ _ rfl (hO.alloc _) ⟨w3.heap.size,0,none⟩ 1 1 [.string (g k).g] rfl rfl (W4 _ _ _) (by simp [Value.oneCell']) (by unfold maxLen;omega) Qa (by have:=hE.size;simp;omega) ?_;intro o' w5 hown hgrow _ _)
      have E5 : Qc w w5:=(hE.alloc _).grown hgrow (fun q hq => (hO.lt q hq).1);rw [Gf] at hown;clear hgrow hO hE;go_wp2;exact ⟨⟨i,k + 1,Qa,Qa,by go_num,by go_num,gs ++ [(g k).g],E5,by simpa using hown,M',Qa,Qa,by simp;omega,HG⟩,zi⟩
   ·obtain rfl : k = m:=Qa;have gk : decide (k < k) = false:=zf Qa
    have HG : Hid (G = (gs ++ [(f i).g]) ++ Ji M' ((Q0 f n).drop (i + 1)) ((Q0 g k).drop k)):=by
     unfold Hid;rw [hG.out,Mv hin,Fq (Nat.le_refl k),Ji];simp
    clear hG;go_upto_region 4 with fail
    refine Qy wo ?_;intro w2 h2;obtain ⟨hcbw2,hfbw2,hzbw2,hzw2⟩:=Qv wo h2;replace hE:=hE.trans h2;replace hO:=Jf hO h2;go_upto_region 6 with (at_builtin;refine wpList_append_own_at _ rfl _ _ 22 rfl w.heap.size 9 i0 (.string ⟨#[]⟩) 1 16 Tryz.underlying22 hi hz0 hz1 hz2 rfl zD _ _ _ rfl (hO.alloc _) ⟨w2.heap.size,0,none⟩ 1 1 [.string (f i).g] rfl rfl (W4 _ _ _) (by simp [Value.oneCell']) (by unfold maxLen;omega) Qa (by have:=hE.size;simp;omega) ?_;intro o' w5 hown hgrow _ _)
    have E5 : Qc w w5:=(hE.alloc _).grown hgrow (fun q hq => (hO.lt q hq).1);rw [Gf] at hown;clear hgrow hO hE;go_wp2;exact ⟨⟨i + 1,k,Qa,Qa,by go_num,by go_num,gs ++ [(f i).g],E5,by simpa using hown,M',Qa,Qa,by simp;omega,HG⟩,zi⟩
  ·obtain rfl : i = n:=Qa;have gi : decide (i < i) = false:=zf Qa;by_cases hkm : k < m
   ·have gk : decide (k < m) = true := zt hkm;have gkm : ((k : Int) == (m : Int)) = false := zb Qa;obtain ⟨M', rfl⟩ : ∃ M', M = M' + 1 := ⟨M - 1, Qa⟩;obtain ⟨b2, off2, rfl, hb2, hc⟩ := (hS.ext hE) Qa;have d0 : wo.cell? ⟨b2, off2 + k * 2, none⟩ = some (.string (g k).g) := by simpa [Q5] using hc k 0 _ hkm rfl
    clear hc
    have HG : Hid (G = (gs ++ [(g k).g]) ++ Ji M' ((Q0 f i).drop i) ((Q0 g m).drop (k + 1))):=by
     unfold Hid;rw [hG.out,Mv hkm,Fq (Nat.le_refl i),Ji];simp
    clear hG;go_upto_region 4 with fail
    refine Qy wo ?_;intro w2 h2;obtain ⟨hcbw2,hfbw2,hzbw2,hzw2⟩:=Qv wo h2;have b0:=(h2.cell (p:=⟨b2,off2 + k * 2,none⟩) hb2).trans d0;have lb:=Nat.lt_of_lt_of_le hb2 h2.size;clear d0 hb2;replace hE:=hE.trans h2;replace hO:=Jf hO h2;clear h2;go_upto_region 7 with fail
    refine Qy w2 ?_;intro w3 h3;obtain ⟨hcbw3,hfbw3,hzbw3,hzw3⟩:=Qv w2 h3;have d1:=(h3.cell (p:=⟨b2,off2 + k * 2,none⟩) lb).trans b0;have lc:=Nat.lt_of_lt_of_le lb h3.size;clear b0 lb;replace hE:=hE.trans h3;replace hO:=Jf hO h3;clear h3;go_upto_region 10 with (at_builtin;refine wpList_append_own_at _ rfl _ _ 22 rfl w.heap.size 9 i0 (.string ⟨#[]⟩) 1 16 Tryz.underlying22 hi hz0 hz1 hz2 rfl zD _ _ _ rfl (hO.alloc _) ⟨w3.heap.size,0,none⟩ 1 1 [.string (g k).g] rfl rfl (W4 _ _ _) (by simp [Value.oneCell']) (by unfold maxLen;omega) Qa (by have:=hE.size;simp;omega) ?_;intro o' w5 hown hgrow _ _)
    have E5 : Qc w w5:=(hE.alloc _).grown hgrow (fun q hq => (hO.lt q hq).1);rw [Gf] at hown;clear hgrow hO hE;go_wp2;exact ⟨⟨i,k + 1,Qa,Qa,by go_num,by go_num,gs ++ [(g k).g],E5,by simpa using hown,M',Qa,Qa,by simp;omega,HG⟩,zi⟩
   ·obtain rfl : k = m:=Qa;have gk : decide (k < k) = false:=zf Qa
    have hr : G = gs:=by
     rw [hG.out,Fq (Nat.le_refl i),Fq (Nat.le_refl k)];cases M <;> simp [Ji]
    subst hr;clear hG;go_wp2;go_ret;exact ⟨_,_,rfl,hE,hO⟩
theorem Qk5 {s : ByteArray} (h : Zu s = true) : s.size ≠ 0:=by
 unfold Zu at h;simp only [Bool.and_eq_true,decide_eq_true_eq] at h;omega
theorem Qbh {f : Nat → Lt} {n : Nat} (h : Jw f n = 0) : sorted (Q0 f n) ∧ ∀ x ∈ Q0 f n,x.g.size ≠ 0:=by
 have hok : ∀ i,i < n → Wp f i = true:=fun i hi => by
  unfold Jw at h;by_cases h64 : 64 < n
  ·rw [if_pos h64] at h;exact absurd h zD
  ·rw [if_neg h64] at h;by_cases ho : Oz f n = true
   ·exact List.all_eq_true.1 ho i (by simpa using hi)
   ·rw [if_neg ho] at h;exact absurd h zD
 have hst : ∀ i,i + 1 < n → Z5 (f i).g (f (i + 1)).g = true:=fun i hi => by
  have:=hok (i + 1) hi;unfold Wp at this;simp only [Bool.and_eq_true,Bool.or_eq_true,decide_eq_true_eq] at this;rcases this.1.2 with h0 | h0
  ·omega
  ·exact h0
 have hlt : ∀ j i,i < j → j < n → Z5 (f i).g (f j).g = true:=by
  intro j
  induction j with
  | zero => intro i hi _;omega
  | succ j ih =>
   intro i hi hj;by_cases e : i = j
   ·rw [e];exact hst j hj
   ·exact Bb (ih i Qa Qa) (hst j hj)
 refine ⟨List.pairwise_iff_getElem.2 fun i j hi hj hij => ?_,fun x hx => ?_⟩
 ·simp only [Q0,List.length_map,List.length_range] at hi hj;simp only [Q0,List.getElem_map,List.getElem_range];exact hlt j i hij hj
 ·simp only [Q0,List.mem_map,List.mem_range] at hx;obtain ⟨i,hi,rfl⟩:=hx;have:=hok i hi;unfold Wp at this;simp only [Bool.and_eq_true] at this;exact Qk5 this.1.1
theorem Cr {l : List Lt} (h : ∀ x ∈ l,Ub x) (s : ByteArray) : -1099511627776 ≤ Jk l s ∧ Jk l s ≤ 1099511627776:=by
 induction l with
 | nil => show -1099511627776 ≤ (0 : Int) ∧ (0 : Int) ≤ 1099511627776;decide
 | cons x l ih =>
  rw [Jk]
  split
  ·exact h x (by simp)
  ·exact ih fun z hz => h z (by simp [hz])
theorem Qbf {f : Nat → Lt} {n : Nat} (h : ∀ i,i < n → Ub (f i)) : ∀ x ∈ Q0 f n,Ub x:=fun x hx => by
 simp only [Q0,List.mem_map,List.mem_range] at hx;obtain ⟨i,hi,rfl⟩:=hx;exact h i hi
theorem Qj5 (l : List Lt) (s : ByteArray) (z : Int) : l.flatMap Jq ++ [.string s,.int .i64 z] = (l ++ [Lt.mk s z]).flatMap Jq:=by rw [List.flatMap_append];rfl
theorem Qge (s : ByteArray) (z : Int) : ∀ u ∈ [Value.string s,.int .i64 z],u.oneCell' = true:=by simp [Value.oneCell']
theorem Eo (T : OA) (n cap : Nat) (f : Nat → Lt) (S : OA) (m cm : Nat) (g : Nat → Lt) (sg : Int) (hsg : sg = 1 ∨ sg = -1) (w : World) (hT : Qm w T n 2 (Q5 f)) (hcap : n ≤ cap) (hn : n ≤ 9223372036854775807) (hS : Qm w S m 2 (Q5 g)) (hcm : m ≤ cm) (hm : m ≤ 9223372036854775807) :
  Calls Tryz.prog 156 #[.slice T n cap,.slice S m cm,.int .i64 sg] w fun e w' => ∃ F k c,e = .returned (.tuple #[.slice F k c,.int .i64 (Jp sg f n g m)]) ∧ Qc w w' ∧ w'.ownsRow w.heap.size 85 2 (.slice F k c) k ((Xc sg f n g m).flatMap Jq):=by
 obtain ⟨i0,hi,hz0,hz1,hz2⟩:=info_parts Qak;have N2:=Qgl T n cap f S m cm g w hT hcap hn hS hcm hm;obtain ⟨q,hq⟩:=Qe (Vp f n g m);rw [← hq] at N2;replace hq:=zh hq
 go_enter Tryz.func156,Tryz.ntmps156
 by_cases e0 : q = 0;rotate_left
 ·have g0 : (q == 0) = false := zb e0;have g0n : (q != 0) = true := by rw [bne, g0]; rfl
  have hE2 : Hid (Jp sg f n g m = q):=by unfold Hid Jp;rw [if_pos (by rw [← hq.out];exact e0),hq.out]
  have hL2:=zh (Lf hE2.out e0);clear e0 hq;go_wp2_with (go_at_call 180;refine zc (N2) ?_;rintro e w1 ⟨rfl,h1⟩);go_ret2;exact ⟨none,0,0,by rw [hE2.out];rfl,h1,by rw [hL2.out];exact World.ownsRow_nil _ _ _ _⟩
 subst e0;obtain ⟨o1,o2⟩:=Qed hq.out.symm;obtain ⟨n64,bf⟩:=O0 o1;obtain ⟨m64,bg⟩:=O0 o2;obtain ⟨s1,z1⟩:=Qbh o1;obtain ⟨s2,_⟩:=Qbh o2;have hE2 : Hid (Jp sg f n g m = if J5 sg (Xu f n g m) then (if 64 < (Yq sg (Xu f n g m)).length then 3 else 0) else 6):=by unfold Hid Jp;rw [if_neg (by rw [← hq.out];simp)]
 have hL3 : Hid (Jp sg f n g m = 0 → Xc sg f n g m = Yq sg (Xu f n g m)):=fun h => by unfold Xc;rw [if_pos h]
 have hV : Hid (Vn sg (Q0 f n) (Q0 g m) (Ji (n + m) (Q0 f n) (Q0 g m)) [] = if J5 sg (Xu f n g m) then (Yq sg (Xu f n g m),true) else ([],false)):=by
  unfold Hid;rw [Mi _ _ _ z1,Qd2 s1 s2 z1 _ _ (Ng _ _ _ s1 s2)];rfl
 have A1:=fun s => Cr (Qbf bf) s
 have A2:=fun s => Cr (Qbf bg) s
 have NG:=fun w hT hS => Qig T n cap f S m cm g w hT n64 hS m64
 have NA:=fun s w h => Cq T n cap f s w h hn
 have NB:=fun s w h => Cq S m cm g s w h hm
 have hGl:=Mh (n + m) (Q0 f n) (Q0 g m);clear o1 o2 hq bf bg s1 s2 z1;generalize Ji (n + m) (Q0 f n) (Q0 g m) = G at *;generalize Xu f n g m = M at *;generalize Q0 f n = la at *;generalize Q0 g m = lb at *;obtain ⟨V,hV0⟩:=Qe (Vn sg la lb G []);rw [← hV0] at hV;have hV1 : Hid (V = Vn sg la lb (G.drop 0) []):=hV0;clear hV0;go_upto_region 6 with (first | (go_at_call 180;refine zc (N2) ?_;rintro e w1 ⟨rfl,h1⟩) | (go_at_call 181;refine zc (NG _ (hT.ext h1) (hS.ext h1)) ?_;rintro e w2 ⟨FG,cg,rfl,h2,hown⟩))
 obtain ⟨F',c',hf,RG⟩:=Qns rfl hown;obtain ⟨rfl,rfl⟩ : FG = F' ∧ cg = c':=by simpa using hf
 have E2:=h1.trans h2;have hb0:=E2.size;have T2:=hT.ext E2;have S2:=hS.ext E2;clear hf hown NG N2 h1 h2 hT hS;go_upto_region 7 with fail
 go_loopw [9,11] (fun ov iv wr => ∃ k : Nat,k ≤ G.length ∧ iv = .int .i64 k ∧ ∃ o : List Lt,Qc w2 wr ∧ wr.ownsRow w2.heap.size 85 2 ov o.length (o.flatMap Jq) ∧ o.length ≤ k ∧ Hid (V = Vn sg la lb (G.drop k) o)) (fun _ iv _ => G.length - (intOf iv).toNat)
 case atStart => exact ⟨0,Nat.zero_le _,rfl,[],Qc.refl _,World.ownsRow_nil _ _ _ _,Nat.le_refl _,hV1⟩
 case round =>
  clear hV1;obtain ⟨k,hk,rfl,o,hE,hO,hol,hV2⟩:=hrel;obtain ⟨wo,rfl⟩:=Qe wr;by_cases hlt : k < G.length
  ·obtain ⟨b, off, rfl, hb, hc⟩ := (RG.ext hE) Qa;have c0 : wo.cell? ⟨b, off + k, none⟩ = some (.string (G.getD k ⟨#[]⟩)) := by simpa [Ly] using hc k 0 _ hlt rfl
   have hd : G.drop k = G.getD k ⟨#[]⟩ :: G.drop (k + 1):=by
    rw [List.drop_eq_getElem_cons hlt];simp [List.getD_eq_getElem?_getD,hlt]
   have hV3 : Hid (V = Vn sg la lb (G.getD k ⟨#[]⟩ :: G.drop (k + 1)) o):=by unfold Hid;rw [← hd];exact hV2.out
   clear hc hd hV2 RG;generalize G.getD k ⟨#[]⟩ = s at *;have a1:=A1 s;have a2:=A2 s;have NAs:=fun w h => NA s w h
   have NBs:=fun w h => NB s w h
   have hV4 : Hid (V = if 1099511627776 < Jk la s + sg * Jk lb s ∨ Jk la s + sg * Jk lb s < -1099511627776 then ([],false) else Vn sg la lb (G.drop (k + 1)) (if Jk la s + sg * Jk lb s = 0 then o else o ++ [⟨s,Jk la s + sg * Jk lb s⟩])):=hV3;clear hV3 A1 A2 NA NB;generalize Jk la s = x at *;generalize Jk lb s = y at *;have v1 : IntKind.i64.wrap (sg * y) = sg * y:=by rcases hsg with rfl | rfl <;> exact Z6 Qa Qa
   have v2 : IntKind.i64.wrap (x + sg * y) = x + sg * y:=by rcases hsg with rfl | rfl <;> exact Z6 Qa Qa
   clear a1 a2;generalize hy : sg * y = y' at *;have T3:=T2.ext hE;have S3:=S2.ext hE;clear T2 S2;go_upto_region 9 with fail
   have n1:=fun u : XW _ => NAs _ (T3.ext u.e)
   have n2:=fun u : XW _ => NBs _ (S3.ext u.e)
   refine Qy wo ?_;intro w3 h3;clear n1 n2;obtain ⟨_,_,_,_⟩:=Qv wo h3;clear NAs NBs T3 S3 hy v1 v2;generalize x + y' = z at *;by_cases z1 : 1099511627776 < z
   ·have g1 : decide (1099511627776 < z) = true:=zt z1;have hv:=hV4.out;rw [if_pos (.inl z1)] at hv
    have hbad : Hid (J5 sg M = false):=by
     unfold Hid;cases ha : J5 sg M
     ·rfl
     ·have:=hV.out;rw [ha,hv] at this;simp at this
    have hE6 : Hid (Jp sg f n g m = 6):=by unfold Hid;rw [hE2.out,hbad.out];rfl
    have hL6:=zh (Lf hE6.out zD);clear hV4 hV hv hbad hE2 hL3 z1;go_wp2;go_ret2;exact ⟨none,0,0,by rw [hE6.out];rfl,(E2.trans hE).trans h3,by rw [hL6.out];exact World.ownsRow_nil _ _ _ _⟩
   have g1 : decide (1099511627776 < z) = false:=zf z1;by_cases z2 : z < -1099511627776
   ·have g2 : decide (z < -1099511627776) = true:=zt z2;have hv:=hV4.out;rw [if_pos (.inr z2)] at hv
    have hbad : Hid (J5 sg M = false):=by
     unfold Hid;cases ha : J5 sg M
     ·rfl
     ·have:=hV.out;rw [ha,hv] at this;simp at this
    have hE6 : Hid (Jp sg f n g m = 6):=by unfold Hid;rw [hE2.out,hbad.out];rfl
    have hL6:=zh (Lf hE6.out zD);clear hV4 hV hv hbad hE2 hL3 z1 z2;go_wp2;go_ret2;exact ⟨none,0,0,by rw [hE6.out];rfl,(E2.trans hE).trans h3,by rw [hL6.out];exact World.ownsRow_nil _ _ _ _⟩
   have g2 : decide (z < -1099511627776) = false:=zf z2;have hv:=hV4.out;rw [if_neg Qa] at hv;have hV5:=zh hv;clear hV4 hv z1 z2;by_cases z0 : z = 0
   ·subst z0;have hv:=hV5.out;rw [if_pos rfl] at hv;have hV6:=zh hv;clear hv hV5 hV hE2 hL3;replace hO:=Jf hO h3;go_wp2;exact ⟨⟨k + 1,Qa,by go_num,o,hE.trans h3,hO,Qa,hV6⟩,zi⟩
   ·have gz : (z == 0) = false:=zb z0;have hv:=hV5.out;rw [if_neg z0] at hv;have hV6:=zh hv;clear hv hV5 hV hE2 hL3;replace hO:=Jf hO h3;obtain ⟨F5,m5,rfl⟩:=Jn hO;replace hE:=hE.trans h3;go_upto_region 8 with (at_builtin;refine wpList_append_own_at _ rfl _ _ 52 rfl w2.heap.size 85 i0 (.agg #[.string ⟨#[]⟩,.int .i64 0]) 2 24 Tryz.underlying52 hi hz0 hz1 hz2 rfl zD _ _ _ rfl (hO.alloc _) ⟨w3.heap.size,0,none⟩ 1 1 [.string s,.int .i64 z] rfl rfl (W4 _ _ _) (Qge _ _) (by unfold maxLen;omega) Qa (by have:=hE.size;simp;omega) ?_;intro o' w5 hown hgrow _ _)
    have E5 : Qc w2 w5:=(hE.alloc _).grown hgrow (fun q hq => (hO.lt q hq).1);rw [Qj5] at hown;clear hgrow hO hE;go_wp2;exact ⟨⟨k + 1,Qa,by go_num,o ++ [⟨s,z⟩],E5,by simpa using hown,by simp;omega,hV6⟩,zi⟩
  ·obtain rfl : k = G.length := Qa;have hv : V = (o, true) := by rw [hV2.out, List.drop_length]; rfl
   have hall : J5 sg M = true:=by
    cases ha : J5 sg M
    ·have:=hV.out;rw [ha,hv] at this;simp at this
    ·rfl
   have ho : Yq sg M = o:=by
    have:=hV.out;rw [hall,hv] at this
    simpa using this.symm
   rw [hall,if_pos rfl,ho] at hE2;rw [ho] at hL3;clear hV hV2 hall hv ho RG T2 S2 NA NB A1 A2;obtain ⟨F5,m5,rfl⟩:=Jn hO;by_cases h64 : 64 < o.length
   ·have d1 : decide (64 < o.length) = true := zt h64;have d1' : decide ((64 : Int) < (o.length : Int)) = true := zt Qa;have hE3 : Hid (Jp sg f n g m = 3) := by unfold Hid; rw [hE2.out, if_pos h64]
    have hL6:=zh (Lf hE3.out zD);clear hE2 hL3 h64;go_wp2;go_ret2;exact ⟨none,0,0,by rw [hE3.out];rfl,E2.trans hE,by rw [hL6.out];exact World.ownsRow_nil _ _ _ _⟩
   ·have d1 : decide (64 < o.length) = false := zf h64;have d1' : decide ((64 : Int) < (o.length : Int)) = false := zf Qa;have hE3 : Hid (Jp sg f n g m = 0) := by unfold Hid; rw [hE2.out, if_neg h64]
    have hL6:=zh (hL3.out hE3.out);clear hE2 hL3 h64;go_wp2;go_ret2;exact ⟨F5,_,m5,by rw [hE3.out];rfl,E2.trans hE,by rw [hL6.out];exact World.ownsRow.mono hO hb0⟩
theorem Qe6 (T : OA) (n cap : Nat) (f : Nat → Lt) (S : OA) (m cm : Nat) (g : Nat → Lt) (w : World) (hT : Qm w T n 2 (Q5 f)) (hcap : n ≤ cap) (hn : n ≤ 9223372036854775807) (hS : Qm w S m 2 (Q5 g)) (hcm : m ≤ cm) (hm : m ≤ 9223372036854775807) :
  Calls Tryz.prog 103 #[.slice T n cap,.slice S m cm] w fun e w' => ∃ F k c,e = .returned (.tuple #[.slice F k c,.int .i64 (Jp 1 f n g m)]) ∧ Qc w w' ∧ w'.ownsRow w.heap.size 85 2 (.slice F k c) k ((Xc 1 f n g m).flatMap Jq):=by
 have NC:=Eo T n cap f S m cm g 1 zD w hT hcap hn hS hcm hm;generalize Jp 1 f n g m = E at *;generalize Xc 1 f n g m = L at *
 go_enter Tryz.func103,Tryz.ntmps103
 go_wp2_with (go_at_call 156;refine zc (NC) ?_;rintro e w1 ⟨F,k,c,rfl,h1,ho⟩);go_ret2;exact ⟨F,k,c,rfl,h1,ho⟩
theorem Qnx (T : OA) (n cap : Nat) (f : Nat → Lt) (S : OA) (m cm : Nat) (g : Nat → Lt) (w : World) (hT : Qm w T n 2 (Q5 f)) (hcap : n ≤ cap) (hn : n ≤ 9223372036854775807) (hS : Qm w S m 2 (Q5 g)) (hcm : m ≤ cm) (hm : m ≤ 9223372036854775807) :
  Calls Tryz.prog 104 #[.slice T n cap,.slice S m cm] w fun e w' => ∃ F k c,e = .returned (.tuple #[.slice F k c,.int .i64 (Jp (-1) f n g m)]) ∧ Qc w w' ∧ w'.ownsRow w.heap.size 85 2 (.slice F k c) k ((Xc (-1) f n g m).flatMap Jq):=by
 have NC:=Eo T n cap f S m cm g (-1) zD w hT hcap hn hS hcm hm;generalize Jp (-1) f n g m = E at *;generalize Xc (-1) f n g m = L at *
 go_enter Tryz.func104,Tryz.ntmps104
 go_wp2_with (go_at_call 156;refine zc (NC) ?_;rintro e w1 ⟨F,k,c,rfl,h1,ho⟩);go_ret2;exact ⟨F,k,c,rfl,h1,ho⟩
def Rt.neg (r : Rt) : Rt:=⟨-r.n,r.d⟩
section
variable {W : World} {b : Nat} {t : TypeId} {v0 v1 v2 : Value}
end
end
section
open Go Go.RowKit
attribute [local go_sem] Z8
def Wq (y : Yr) (k : Nat) : Int:=(y.mos.getD k (0,false)).1
def Wr (y : Yr) (k : Nat) : Bool:=(y.mos.getD k (0,false)).2
def moL (y : Yr) (k : Nat) : Int:=y.len (Wq y k) (Wr y k)
def Qt (y : Yr) (k : Nat) : Int:=y.lens (y.mos.take k)
theorem Qms {y : Yr} {k : Nat} (h : k < y.mos.length) : Qt y (k + 1) = Qt y k + moL y k:=by
 unfold Qt moL Wq Wr;rw [List.take_add_one,List.getElem?_eq_getElem h,Fl,List.getD_eq_getElem?_getD,List.getElem?_eq_getElem h];simp [Yr.lens]
theorem Qmr (y : Yr) : Qt y y.mos.length = y.days:=by unfold Qt;rw [List.take_length];rfl
theorem pre_bd {y : Yr} {k : Nat} (h : k ≤ y.mos.length) : 29 * (k : Int) ≤ Qt y k ∧ Qt y k ≤ 30 * (k : Int):=by
 have:=Oy y (y.mos.take k);rw [List.length_take,Nat.min_eq_left h] at this;exact this
theorem moL_bd (y : Yr) (k : Nat) : 29 ≤ moL y k ∧ moL y k ≤ 30:=Ux _ _ _
theorem Qdl (i : Nat) (y : Yr) : ∀ (l : List (Int × Bool)) (d : Int) (k : Nat),k < l.length → (Js i y d l)[k]? = some ⟨i,(l.getD k (0,false)).1,(l.getD k (0,false)).2,d + y.lens (l.take k)⟩
 | [],_,_,h => by simp at h
 | p :: l,d,0,_ => by simp [Js,Yr.lens]
 | p :: l,d,k + 1,h => by
  have:=Qdl i y l (d + y.len p.1 p.2) k (by simpa using h);simp only [Js,List.getElem?_cons_succ,this,List.getD_cons_succ,List.take_succ_cons,Yr.lens]
  congr 2
  omega
theorem Qjw {c : Qd} {y k : Nat} (hy : y < c.ny) (hk : k < (c.yr y).mos.length) : c.items[(c.itemsTo y).length + k]? = some ⟨y,Wq (c.yr y) k,Wr (c.yr y) k,c.dayAt y + Qt (c.yr y) k⟩:=by
 obtain ⟨t,ht⟩:=Qav c (show y + 1 ≤ c.ny from hy);unfold Qd.items;rw [← ht]
 show ((c.itemsTo y ++ Js y (c.yr y) (c.dayAt y) (c.yr y).mos) ++ t)[_]? = _
 have hl : ((c.itemsTo y).length + k) < (c.itemsTo y ++ Js y (c.yr y) (c.dayAt y) (c.yr y).mos).length:=by rw [List.length_append,R8];omega
 rw [List.getElem?_append_left hl,List.getElem?_append_right Qa,Nat.add_sub_cancel_left];exact Qdl _ _ _ _ _ hk
theorem Qjt (c : Qd) (y : Nat) : (c.itemsTo (y + 1)).length = (c.itemsTo y).length + (c.yr y).mos.length:=by
 show (c.itemsTo y ++ Js y (c.yr y) (c.dayAt y) (c.yr y).mos).length = _
 rw [List.length_append,R8]
theorem Qlu {c : Qd} {d : Dt} {y k : Nat} (hd : c.has d = true) (hy : y < c.ny) (hk : k < (c.yr y).mos.length) (h1 : (y : Int) = d.y) (h2 : Wq (c.yr y) k = d.m) (h3 : Wr (c.yr y) k = d.s) :
  c.num d = (c.dayAt y + Qt (c.yr y) k + d.d - 1,(((c.itemsTo y).length + k : Nat) : Int) + 1):=by
 obtain ⟨i,x,hx,⟨g1,g2,g3⟩,hn,_,_⟩:=Hk hd;have hp:=Qjw hy hk;have e : i = (c.itemsTo y).length + k:=Qju hx hp (by simp only;omega) (by simp only;rw [g2,h2]) (by simp only;rw [g3,h3]);subst e;rw [hx] at hp;obtain rfl:=Option.some.inj hp;rw [hn]
theorem Qlv {c : Qd} {n k M j : Nat} {m d X : Int} {s : Bool} {NV : Int × Int} (_hk : k < c.ny) (hj : j < (c.yr k).mos.length) (HN : Hid (∀ k,k < (c.yr n).mos.length → Wq (c.yr n) k = m → Wr (c.yr n) k = s → NV = (c.dayAt n + Qt (c.yr n) k + d - 1,(((c.itemsTo n).length + k : Nat) : Int) + 1)))
  (HX : Hid (X = c.dayAt k + d - 1)) (HM : Hid (M = (c.itemsTo k).length)) (e : k = n) (h1 : Wq (c.yr k) j = m) (h2 : Wr (c.yr k) j = s) : NV = (X + Qt (c.yr k) j,((M + j : Nat) : Int) + 1):=by
 subst e;have:=HN.out j hj h1 h2;rw [this,HX.out,HM.out]
 congr 1
 omega
theorem Qiq {c : Qd} {n : Nat} {m d : Int} {s : Bool} (h : c.has ⟨n,m,s,d⟩ = true) : n < c.ny ∧ (∃ k,k < (c.yr n).mos.length ∧ Wq (c.yr n) k = m ∧ Wr (c.yr n) k = s) ∧ 1 ≤ d ∧ d ≤ 30:=by
 have g:=Mm.1 h;have e : c.yrI (n : Int) = c.yr n:=by unfold Qd.yrI;rw [Int.toNat_natCast]
 simp only [e] at g;obtain ⟨i,hi,he⟩:=Qbv (y:=c.yr n) g.2.1.1 g.2.1.2 g.2.2.1;have:=(Ux (c.yr n) m s).2;exact ⟨Qa,⟨i,hi,by unfold Wq;rw [he],by unfold Wr;rw [he]⟩,g.2.2.2.1,Qa⟩
theorem mon_at {w : World} {A : OA} {y : Yr} {i : Nat} (h : Qm w A y.mos.length 3 (Fz y)) (hi : i < y.mos.length) :
  ∃ b off,A = some ⟨b,off,none⟩ ∧ b < w.heap.size ∧ w.cell? ⟨b,off + i * 3,none⟩ = some (.int .i64 (Wq y i)) ∧ w.cell? ⟨b,off + i * 3 + 1,none⟩ = some (.bool (Wr y i)) ∧ w.cell? ⟨b,off + i * 3 + 2,none⟩ = some (.int .i64 (moL y i)):=Qbt h hi
theorem Qg7 (A A' : OA) (ca cb : Nat) (c : Qd) (D : Dt) (w : World) (hC : Za w A ca A' cb c) (hv : c.valid = true) (hd : c.has D = true) :
  Calls Tryz.prog 158 #[.agg #[.slice A c.nk ca,.slice A' c.ny cb],.agg #[.int .i64 D.y,.int .i64 D.m,.bool D.s,.int .i64 D.d]] w fun e w' => e = .returned (.tuple #[.int .i64 (c.num D).1,.int .i64 (c.num D).2]) ∧ Qc w w':=by
 have hny:=Th hv;have hlg:=Ns hv;clear hv;obtain ⟨y,m,s,d⟩:=D
 simp only
 have hy0 : 0 ≤ y:=(Mm.1 hd).1.1;obtain ⟨n,rfl⟩:=Int.eq_ofNat_of_zero_le hy0;clear hy0;obtain ⟨hn,hfind,d0,d1⟩:=Qiq hd;have HF:=zh hfind;have HNUM:=zh (fun k hk h2 h3 => Qlu hd hn (k:=k) hk rfl h2 h3);clear hfind hd;generalize c.num ⟨n,m,s,d⟩ = NV at *
 go_enter Tryz.func158,Tryz.ntmps158
 go_upto_region 1 with fail
 obtain ⟨v,hv⟩:=Qe ((w.alloc (.cells #[.slice A c.nk ca,.slice A' c.ny cb] 25)).alloc (.cells #[.int .i64 (n : Int),.int .i64 m,.bool s,.int .i64 d] 51));rw [← hv];have E : Qc w v:=by rw [hv];exact ((Qc.refl _).alloc _).alloc _
 have B1 : Qb v w.heap.size 25 #[.slice A c.nk ca,.slice A' c.ny cb]:=by rw [hv];exact (Qb.new _ _ _).alloc _
 have B2 : Qb v (w.heap.size + 1) 51 #[.int .i64 (n : Int),.int .i64 m,.bool s,.int .i64 d]:=by rw [hv];exact Qb.at _ _ _ _ (by simp)
 clear hv;have C:=hC.ext E;clear hC;generalize w.heap.size = b1 at *;obtain ⟨k0,k1⟩:=B1.c2;have lk:=B1.lt;obtain ⟨p0,p1,p2,p3⟩:=B2.c4;have lp:=B2.lt;go_upto_region 3 with fail
 go_loopw [6,7,8,9,10] (fun dv mv yv _ _ wr => ∃ (k : Nat) (X : Int) (M : Nat),k ≤ n ∧ yv = .int .i64 k ∧ dv = .int .i64 X ∧ mv = .int .i64 (M : Int) ∧ 0 ≤ X ∧ X ≤ 156030 ∧ M ≤ 5200 ∧ Hid (X = c.dayAt k + d - 1) ∧ Hid (M = (c.itemsTo k).length) ∧ Qc v wr) (fun _ _ yv _ _ _ => n + 1 - (intOf yv).toNat)
 case atStart => exact ⟨0,d,0,Nat.zero_le _,rfl,rfl,rfl,Qa,Qa,Qa,(by show d = 1 + d - 1;omega),rfl,Qc.refl _⟩
 case round =>
  obtain ⟨k,X,M,hk,rfl,rfl,rfl,x0,x1,m1,HX,HM,hE⟩:=hrel;obtain ⟨wo,rfl⟩:=Qe wr;clear k0 k1 lk p0 p1 p2 p3 lp;replace B1:=B1.ext hE;replace B2:=B2.ext hE;replace C:=C.ext hE;obtain ⟨k0,k1,lk⟩:=Qb.d2 B1;obtain ⟨p0,p1,p2,p3,lp⟩:=Qb.d4 B2;have hkn : k < c.ny:=Qa;have hkb : decide ((k : Int) ≤ (n : Int)) = true:=zt Qa;obtain ⟨yb,yo,hA',hyb,y0,y1,y2,y3⟩:=C.year hkn;subst hA';have hmo:=fun w => Qbu (c.yr k) w (hlg k hkn).1 (hlg k hkn).2
  have HP:=zh (fun j hj => Qlv (c:=c) (d:=d) hkn (j:=j) hj HNUM HX HM);have HD : Hid (c.dayAt (k + 1) = c.dayAt k + (c.yr k).days):=rfl;have HB:=zh (Oe c (k + 1));have HI:=zh (Qjt c k);have HIL:=zh (Ou c (k + 1));have HA:=zh (Qmr (c.yr k));have HF' : Hid (k = n → ∃ j,j < (c.yr k).mos.length ∧ Wq (c.yr k) j = m ∧ Wr (c.yr k) j = s):=fun e => by subst e;exact HF.out
  have hml:=(Fy (c.yr k)).2;generalize (c.yr k).days = dys at *;generalize c.yr k = Y at *;go_upto_region 6 with (go_at_call 183;refine zc (hmo _) ?_;rintro e v2 ⟨mv,rfl,h,MA⟩)
  obtain ⟨MA,mcap,rfl,MM⟩:=MA;clear y0 y1 y2 y3 hyb hmo k0 k1 lk p0 p1 p2 p3 lp;replace B2:=B2.ext h;obtain ⟨p0,p1,p2,p3,lp⟩:=Qb.d4 B2;go_upto_region 7 with fail
  go_loopw [6,7,10] (fun dv mv iv wr => ∃ (j : Nat) (X' : Int),j ≤ Y.mos.length ∧ iv = .int .i64 j ∧ dv = .int .i64 X' ∧ mv = .int .i64 ((M + j : Nat) : Int) ∧ 0 ≤ X' ∧ X' ≤ 156500 ∧ Hid (X' = X + Qt Y j) ∧ Hid (k = n → ∀ i,i < j → ¬ (Wq Y i = m ∧ Wr Y i = s)) ∧ Qc v2 wr) (fun _ _ iv _ => Y.mos.length - (intOf iv).toNat)
  case atStart => exact ⟨0,X,Nat.zero_le _,rfl,rfl,rfl,x0,Qa,(by show X = X + 0;omega),(fun _ i hi => absurd hi Qa),Qc.refl _⟩
  case round =>
   obtain ⟨j,X',hj,rfl,rfl,rfl,z0,z1,HX',HN,hE2⟩:=hrel;obtain ⟨wi,rfl⟩:=Qe wr;clear p0 p1 p2 p3 lp;obtain ⟨p0,p1,p2,p3,lp⟩:=Qb.d4 (B2.ext hE2);by_cases hlt : j < Y.mos.length
   ·obtain ⟨mb,mo,rfl,hmb,c0,c1,c2⟩:=mon_at (MM.ext hE2) hlt;have HPj:=HP.out j hlt;have hq:=moL_bd Y j;have HS:=zh (Qms hlt);have HPB:=zh (pre_bd (y:=Y) (k:=j + 1) hlt)
    have HN' : Hid ((k = n → ¬ (Wq Y j = m ∧ Wr Y j = s)) → k = n → ∀ i,i < j + 1 → ¬ (Wq Y i = m ∧ Wr Y i = s)):=fun h0 e i hi => by
     by_cases e2 : i = j
     ·subst e2;exact h0 e
     ·exact HN.out e i Qa
    generalize Y.mos.length = L at *;generalize Wq Y j = x at *;generalize Wr Y j = z at *;generalize moL Y j = q at *;obtain ⟨q0,q1⟩:=hq;by_cases hkn : k = n
    ·have hknb : ((k : Int) == (n : Int)) = true := by rw [hkn]; exact beq_self_eq_true _
     by_cases hx : x = m
     ·have hxb : (x == m) = true := by rw [hx]; exact beq_self_eq_true _
      by_cases hz : z = s
      ·have hzb : (z == s) = true := by rw [hz]; exact beq_self_eq_true _
       have HR : Hid (NV = (X',((M + j : Nat) : Int) + 1)):=by rw [HX'.out];exact HPj hkn hx hz
       clear HPj hkn hx hz HN';go_upto_region 10 with fail
       refine Qy wi ?_;intro wn hwn;obtain ⟨hcbwn,hfbwn,hzbwn,hzwn⟩:=Qv wi hwn;go_wp2;go_ret2;exact ⟨by rw [HR.out];rfl,Qu⟩
      ·have hzb : (z == s) = false:=zb hz;have HQ:=zh (HN'.out (fun _ g => hz g.2));clear HPj hkn hx hz HN';go_upto_region 10 with fail
       refine Qy wi ?_;intro wn hwn;obtain ⟨hcbwn,hfbwn,hzbwn,hzwn⟩:=Qv wi hwn;go_wp2;have g1:=HX'.out;have g2:=HS.out;have g3:=HPB.out;exact ⟨⟨j + 1,X' + q,Qa,by go_num,by go_num,by go_num,Qa,Qa,by unfold Hid;rw [g2,g1];omega,HQ.out,Qu⟩,zi⟩
     ·have hxb : (x == m) = false:=zb hx;have HQ:=zh (HN'.out (fun _ g => hx g.1));clear HPj hkn hx HN';go_upto_region 10 with fail
      refine Qy wi ?_;intro wn hwn;obtain ⟨hcbwn,hfbwn,hzbwn,hzwn⟩:=Qv wi hwn;go_wp2;have g1:=HX'.out;have g2:=HS.out;have g3:=HPB.out;exact ⟨⟨j + 1,X' + q,Qa,by go_num,by go_num,by go_num,Qa,Qa,by unfold Hid;rw [g2,g1];omega,HQ.out,Qu⟩,zi⟩
    ·have hknb : ((k : Int) == (n : Int)) = false:=zb Qa;have HQ:=zh (HN'.out (fun g _ => hkn g));clear HPj hkn HN';go_upto_region 10 with fail
     refine Qy wi ?_;intro wn hwn;obtain ⟨hcbwn,hfbwn,hzbwn,hzwn⟩:=Qv wi hwn;go_wp2;have g1:=HX'.out;have g2:=HS.out;have g3:=HPB.out;exact ⟨⟨j + 1,X' + q,Qa,by go_num,by go_num,by go_num,Qa,Qa,by unfold Hid;rw [g2,g1];omega,HQ.out,Qu⟩,zi⟩
   ·obtain rfl : j = Y.mos.length:=Qa
    have hkn : k < n:=by
     rcases Nat.lt_or_ge k n with h | h
     ·exact h
     ·obtain ⟨i,hi,h1,h2⟩:=HF'.out Qa;exact absurd ⟨h1,h2⟩ (HN.out Qa i hi)
    have f1:=HX'.out;have f2:=HX.out;have f3:=HD.out;have f4:=HA.out;have f5:=HM.out;have f6:=HI.out;have f7:=HB.out;have f8:=HIL.out;have G1 : Hid (X' = c.dayAt (k + 1) + d - 1 ∧ M + Y.mos.length = (c.itemsTo (k + 1)).length ∧ X' ≤ 156030 ∧ M + Y.mos.length ≤ 5200):=⟨Qa,Qa,Qa,Qa⟩;clear f1 f2 f3 f4 f5 f6 f7 f8;generalize Y.mos.length = L at *;go_wp2;obtain ⟨e1,e2,e3,e4⟩:=G1.out;exact ⟨⟨k + 1,X',M + L,Qa,by go_num,rfl,by go_num,z0,Qa,Qa,e1,e2,Qu⟩,zi⟩
end
section
open Go Go.RowKit Go.Shelf
attribute [local go_sem] Z8 Dt.val
end
section
open Go Go.RowKit
attribute [local go_sem] Z8
end
section
open Go Go.RowKit Go.Shelf
attribute [local go_sem] Z8
theorem Bn (g : Nat → Rt × Int) : ∀ m k s,s.In → (W8 g k m s).1.In
 | 0,_,_,h => h
 | m + 1,k,s,h => by
  rw [W8]
  split
  ·exact Xw
  ·split
   ·exact Xw
   ·exact Bn g m (k + 1) _ (K8 _ _)
theorem Qle (t : Nat → Tk) (n : Nat) : (Jr t n).1.In:=by
 unfold Jr
 split
 ·exact Xw
 ·split
  ·exact Bn _ _ _ _ Vk
  ·exact Xw
theorem Qfs (c : Qd) (f : Nat → Cw) (n : Nat) : (c.availV f n).1.In:=by
 unfold Qd.availV
 split
 ·exact Xw
 ·split
  ·exact Bn _ _ _ _ Vk
  ·exact Xw
theorem Qhp {a b : Rt} (ha : a.nn = true) (hb : b.pos = true) (h : (Yn a b).2 = 0) : (Yn a b).1.nn = true:=by
 obtain ⟨a1,a2⟩:=Kr ha;obtain ⟨b1,b2⟩ : b.ok = true ∧ 0 < b.n:=by simpa [Rt.pos] using hb
 unfold Yn at h ⊢;rw [a1,b1] at h ⊢;simp only [Bool.and_self,if_true] at h ⊢;rw [if_neg Qa] at h ⊢;have hQ : 1 ≤ a.d.natAbs * b.n.natAbs:=Nat.mul_pos (by have:=Yl a1;omega) Qa;rw [zf (show ¬ a.n < 0 by omega),zf (show ¬ b.n < 0 by omega)] at h ⊢;obtain ⟨o1,o2⟩:=Dp hQ h;unfold Rt.nn;rw [show (false != false) = false from rfl] at o1 o2 ⊢;rw [o1,Bool.true_and,decide_eq_true_eq];rw [if_neg zD] at o2;have hd:=(Yl o1).1;rcases Int.lt_or_le (J2 false (a.n.natAbs * b.d.natAbs) (a.d.natAbs * b.n.natAbs)).1.n 0 with h0 | h0
 ·have h3:=Int.mul_neg_of_neg_of_pos h0 (show (0 : Int) < ((a.d.natAbs * b.n.natAbs : Nat) : Int) by omega);have h4:=Int.mul_nonneg (show (0 : Int) ≤ ((a.n.natAbs * b.d.natAbs : Nat) : Int) from Int.natCast_nonneg _) (show 0 ≤ (J2 false (a.n.natAbs * b.d.natAbs) (a.d.natAbs * b.n.natAbs)).1.d by omega);omega
 ·exact h0
theorem Qd9 (g : Nat → Rt × Int) (n : Nat) (hg : ∀ i,i < n → (g i).2 = 0 → (g i).1.nn = true) : ∀ m k s,k + m = n → s.nn = true → (W8 g k m s).2 = 0 → (W8 g k m s).1.nn = true
 | 0,_,_,_,h,_ => h
 | m + 1,k,s,hk,h,h0 => by
  rw [W8] at h0 ⊢;by_cases e1 : (g k).2 ≠ 0
  ·rw [if_pos e1] at h0;exact absurd h0 e1
  ·rw [if_neg e1] at h0 ⊢;by_cases e2 : (Zs s (g k).1).2 ≠ 0
   ·rw [if_pos e2] at h0;exact absurd h0 e2
   ·rw [if_neg e2] at h0 ⊢;exact Qd9 g n hg m (k + 1) _ Qa (Qe7 (Decidable.not_not.1 e2) h (hg k Qa (Decidable.not_not.1 e1))) h0
theorem Qh6 (t : Nat → Tk) (n : Nat) : (Jr t n).2 = 0 → (Jr t n).1.nn = true:=fun h => by
 unfold Jr at h ⊢;by_cases h64 : 64 < n
 ·rw [if_pos h64] at h;exact absurd h zD
 ·rw [if_neg h64] at h ⊢;by_cases ha : (List.range n).all (fun i => Kz (t i)) = true
  ·rw [if_pos ha] at h ⊢;refine Qd9 _ n (fun i hi h0 => ?_) n 0 (J8 0) Qa (Qb9 Qpc (by rw [Qpe];exact Rat.le_refl)) h;have hok:=List.all_eq_true.1 ha i (by simpa using hi);unfold Kz at hok;obtain ⟨o1,o2⟩:=Bool.and_eq_true_iff.1 hok;exact Qhp o1 o2 h0
  ·rw [if_neg ha] at h;exact absurd h zD
theorem few_bd {c : Qd} {a b : Dt} {s : Rt} {Nn Nd : Int} (hv : c.valid = true) (hsp : (decide (0 < c.numV a) && decide (c.numV a ≤ c.numV b)) = true) (hs : s.shr = true) (h0 : s.n ≠ 0) (hN : (Rt.mk Nn Nd).nn = true) :
  (0 ≤ c.schV a b ∧ c.schV a b ≤ 1000000) ∧ (1 ≤ s.n * (c.schV a b + 1) ∧ s.n * (c.schV a b + 1) ≤ 1048577048576) ∧ 1 ≤ s.n * (c.schV a b + 1) * Nd ∧ s.n * (c.schV a b + 1) * Nd ≤ 1099512727287627776 ∧ 0 ≤ Nn * s.d ∧ Nn * s.d ≤ 1152921504606846976 ∧ True ∧ True:=by
 obtain ⟨h1,h2⟩:=Bool.and_eq_true_iff.1 hsp;have h1:=of_decide_eq_true h1;have h2:=of_decide_eq_true h2;have z1:=sch_bd hv Qa Qa h2;have z2:=Qdt c a b;obtain ⟨N1,N2⟩:=Kr hN;obtain ⟨n1,n2,n3,n4,_⟩:=Yl N1
 simp only at N2 n1 n2 n3 n4
 simp only [Rt.shr,Bool.and_eq_true,decide_eq_true_eq] at hs;obtain ⟨s1,s2,s3,s4,_⟩:=Yl hs.1.1;generalize c.schV a b = z at *;have m1:=My (a:=s.n) (b:=z + 1) (A:=1048576) (B:=1000001) Qa Qa Qa Qa;have m2:=Int.mul_pos (show 0 < s.n by omega) (show 0 < z + 1 by omega);have m3:=My (a:=s.n * (z + 1)) (b:=Nd) (A:=1048577048576) (B:=1048576) Qa Qa Qa Qa;have m4:=Int.mul_pos m2 (show 0 < Nd by omega);have m5:=My (a:=Nn) (b:=s.d) (A:=1099511627776) (B:=1048576) Qa Qa Qa Qa;have m6:=Int.mul_nonneg N2 (show 0 ≤ s.d by omega);exact ⟨⟨z1.1,z2.2⟩,⟨Qa,m1.2⟩,Qa,m3.2,m6,m5.2,trivial,trivial⟩
theorem Qfy (A A' : OA) (ca cb : Nat) (c : Qd) (T : OA) (nt capt : Nat) (t : Nat → Tk) (S : OA) (n cap : Nat) (f : Nat → Cw) (w : World) (hC : Za w A ca A' cb c) (hint : ∀ i,i < nt → (t i).a.In ∧ (t i).r.In) (hT : Qm w T nt 4 (Xa t)) (hnt : nt ≤ 9223372036854775807) (hin : ∀ i,i < n → (f i).s.In ∧ -9223372036854775808 ≤ (f i).w ∧ (f i).w ≤ 9223372036854775807) (hS : Qm w S n 11 (Zz f)) (hn : n ≤ 9223372036854775807) (hZ : Jc w) :
  Calls Tryz.prog 40 #[.agg #[.slice A c.nk ca,.slice A' c.ny cb],.slice T nt capt,.slice S n cap] w fun e w' => e = .returned (.tuple #[.agg #[.int .i64 (c.balV t nt f n).1.n,.int .i64 (c.balV t nt f n).1.d],.int .i64 (c.balV t nt f n).2]) ∧ Qc w w':=by
 have NO:=fun w h => Hm A A' ca cb c w h
 have NN:=fun w h z => Qb5 T nt capt t w hint h hnt z
 have NA:=fun w h1 h2 z => Qft A A' ca cb c S n cap f w h1 hin h2 hn z
 obtain ⟨R,hR0⟩:=Qe (c.balV t nt f n);rw [← hR0];have HR:=zh hR0;clear hR0
 go_enter Tryz.func40,Tryz.ntmps40
 go_upto_region 1 with fail
 obtain ⟨v,b1,b2,E,B1,B2,hbr1,hbr,hn21,hv,hb1,hb2⟩:=Jy w 25 #[.slice A c.nk ca,.slice A' c.ny cb] 65 #[.int .i64 0,.int .i64 0];rw [← hv,← hb2,← hb1];clear hv hb1 hb2;have RT:=hT.ext E;have RS:=hS.ext E;have Z0:=hZ.ext E;have C:=hC.ext E;clear hT hS hZ;obtain ⟨k0,k1,lk⟩:=Qb.d2 B1;cases hv : c.valid
 ·have hr : R = (Zr, 70) := by rw [HR.out]; unfold Qd.balV; rw [hv]; rfl
  have hc : c.chk = 70:=by unfold Qd.chk;rw [hv];rfl
  simp only [hc] at NO;subst hr;clear HR hc hv NN NA;go_upto_region 2 with (go_at_call 64;refine zc (NO _ (hC.ext E)) ?_;rintro e w1 ⟨rfl,h1⟩)
  obtain ⟨v3,hv⟩:=Qe (w1.alloc (.cells #[.slice A c.nk ca,.slice A' c.ny cb] 130));rw [← hv];have h3 : Qc w1 v3:=by rw [hv];exact (Qc.refl _).alloc _
  have H3 : Qb v3 w1.heap.size 130 #[.slice A c.nk ca,.slice A' c.ny cb]:=by rw [hv];exact Qb.new _ _ _
  clear hv;generalize w1.heap.size = b3 at *;replace E:=(E.trans h1).trans h3;replace B2:=(B2.ext h1).ext h3;obtain ⟨f0,f1,x0,x1,lx⟩:=Qb.e2 B2;have H4:=Qo B2 (.int .i64 0) (.int .i64 0);have EF:=(E.setCell (p:=⟨b2,0,none⟩) hbr (.int .i64 0)).setCell (p:=⟨b2,1,none⟩) hbr (.int .i64 0);obtain ⟨y0,y1⟩:=H4.c2;go_wp2;refine bodyPost_ret (v:=.tuple #[.agg #[.int .i64 0,.int .i64 0],.int .i64 70]) Zf rfl ⟨rfl,EF⟩
 ·have hc : c.chk = 0 := by unfold Qd.chk; rw [hv]; rfl
  simp only [hc] at NO;have HR2 : Hid (R = if (Jr t nt).2 ≠ 0 then (Zr,(Jr t nt).2) else if (c.availV f n).2 ≠ 0 then (Zr,(c.availV f n).2) else Jt (c.availV f n).1 (Jr t nt).1):=by unfold Hid;rw [HR.out];unfold Qd.balV;rw [hv];rfl
  have hni:=Qle t nt;have hai:=Qfs c f n;clear HR hc hv;go_upto_region 4 with (go_at_call 64;refine zc (NO _ (hC.ext E)) ?_;rintro e w1 ⟨rfl,h1⟩)
  obtain ⟨v3,hv⟩:=Qe (w1.alloc (.cells #[.slice A c.nk ca,.slice A' c.ny cb] 130));rw [← hv];have h3 : Qc w1 v3:=by rw [hv];exact (Qc.refl _).alloc _
  have H3 : Qb v3 w1.heap.size 130 #[.slice A c.nk ca,.slice A' c.ny cb]:=by rw [hv];exact Qb.new _ _ _
  clear hv;generalize w1.heap.size = b3 at *;replace E:=(E.trans h1).trans h3;replace B2:=(B2.ext h1).ext h3;replace RT:=(RT.ext h1).ext h3;replace RS:=(RS.ext h1).ext h3;replace Z0:=(Z0.ext h1).ext h3;replace C:=(C.ext h1).ext h3;clear h1 h3 k0 k1 lk B1 NO;generalize Jr t nt = N at *;obtain ⟨⟨Nn,Nd⟩,Ne⟩:=N;simp only [] at HR2 NN hni;go_upto_region 5 with (go_at_call 87;refine zc (NN _ RT Z0) ?_;rintro e w4 ⟨rfl,h4⟩)
  obtain ⟨v4,hv⟩:=Qe (w4.alloc (.cells #[.int .i64 Nn,.int .i64 Nd] 65));rw [← hv];have h5 : Qc w4 v4:=by rw [hv];exact (Qc.refl _).alloc _
  have H4 : Qb v4 w4.heap.size 65 #[.int .i64 Nn,.int .i64 Nd]:=by rw [hv];exact Qb.new _ _ _
  clear hv;generalize w4.heap.size = b4 at *;replace E:=(E.trans h4).trans h5;replace B2:=(B2.ext h4).ext h5;replace H3:=(H3.ext h4).ext h5;replace RS:=(RS.ext h4).ext h5;replace Z0:=(Z0.ext h4).ext h5;replace C:=(C.ext h4).ext h5;clear h4 h5 NN RT;by_cases e0 : Ne = 0;rotate_left
  ·have g0 : (Ne == 0) = false := zb e0;have g0n : (Ne != 0) = true := by rw [bne, g0]; rfl
   have hr:=HR2.out;rw [if_pos e0] at hr;subst hr;clear HR2 e0 NA;obtain ⟨f0,f1,x0,x1,lx⟩:=Qb.e2 B2;have H9:=Qo B2 (.int .i64 0) (.int .i64 0);have EF:=(E.setCell (p:=⟨b2,0,none⟩) hbr (.int .i64 0)).setCell (p:=⟨b2,1,none⟩) hbr (.int .i64 0);obtain ⟨y0,y1⟩:=H9.c2;go_wp2;refine bodyPost_ret (v:=.tuple #[.agg #[.int .i64 0,.int .i64 0],.int .i64 Ne]) Zf rfl ⟨rfl,EF⟩
  subst e0;obtain ⟨k0,k1,lk⟩:=Qb.d2 H3;generalize c.availV f n = M at *;obtain ⟨⟨Mn,Md⟩,Me⟩:=M;simp only [] at HR2 NA hai;go_upto_region 8 with (go_at_call 88;refine zc (NA _ C RS Z0) ?_;rintro e w6 ⟨rfl,h6⟩)
  obtain ⟨v6,hv⟩:=Qe (w6.alloc (.cells #[.int .i64 Mn,.int .i64 Md] 65));rw [← hv];have h7 : Qc w6 v6:=by rw [hv];exact (Qc.refl _).alloc _
  have H6 : Qb v6 w6.heap.size 65 #[.int .i64 Mn,.int .i64 Md]:=by rw [hv];exact Qb.new _ _ _
  clear hv;generalize w6.heap.size = b6 at *;replace E:=(E.trans h6).trans h7;replace B2:=(B2.ext h6).ext h7;replace H4:=(H4.ext h6).ext h7;replace Z0:=(Z0.ext h6).ext h7;clear h6 h7 NA RS C k0 k1 lk H3;by_cases e0 : Me = 0;rotate_left
  ·have g0 : (Me == 0) = false := zb e0;have g0n : (Me != 0) = true := by rw [bne, g0]; rfl
   have hr:=HR2.out;rw [if_neg (by simp),if_pos e0] at hr;subst hr;clear HR2 e0;obtain ⟨f0,f1,x0,x1,lx⟩:=Qb.e2 B2;have H9:=Qo B2 (.int .i64 0) (.int .i64 0);have EF:=(E.setCell (p:=⟨b2,0,none⟩) hbr (.int .i64 0)).setCell (p:=⟨b2,1,none⟩) hbr (.int .i64 0);obtain ⟨y0,y1⟩:=H9.c2;go_wp2;refine bodyPost_ret (v:=.tuple #[.agg #[.int .i64 0,.int .i64 0],.int .i64 Me]) Zf rfl ⟨rfl,EF⟩
  subst e0;have NS:=fun w z => Gg ⟨Mn,Md⟩ ⟨Nn,Nd⟩ hai hni w z
  have hr:=HR2.out;rw [if_neg (by simp),if_neg (by simp)] at hr;rw [← hr] at NS;clear HR2 hr;obtain ⟨⟨Rn,Rd⟩,Re⟩:=R;obtain ⟨k0,k1,lk⟩:=Qb.d2 H4;obtain ⟨p0,p1,lp⟩:=Qb.d2 H6;go_wp2_with (first | (go_at_call 89;refine zc (NS _ Z0) ?_;rintro e wt ⟨rfl,ht⟩;replace E:=E.trans ht;replace B2:=B2.ext ht;have f0:=B2.frozen 0;have f1:=B2.frozen 1;obtain ⟨x0,x1⟩:=B2.c2;have lx:=B2.lt));have H9:=Qo B2 (.int .i64 Rn) (.int .i64 Rd);have EF:=(E.setCell (p:=⟨b2,0,none⟩) hbr (.int .i64 Rn)).setCell (p:=⟨b2,1,none⟩) hbr (.int .i64 Rd);obtain ⟨y0,y1⟩:=H9.c2;go_wp2;refine bodyPost_ret (v:=.tuple #[.agg #[.int .i64 Rn,.int .i64 Rd],.int .i64 Re]) Zf rfl ⟨rfl,EF⟩
theorem Qh7 (A A' : OA) (ca cb : Nat) (c : Qd) (T : OA) (nt capt : Nat) (t : Nat → Tk) (s : Rt) (hs : s.In) (d d2 : Dt) (w : World) (hC : Za w A ca A' cb c) (hint : ∀ i,i < nt → (t i).a.In ∧ (t i).r.In) (hT : Qm w T nt 4 (Xa t)) (hnt : nt ≤ 9223372036854775807) (hZ : Jc w) :
  Calls Tryz.prog 41 #[.agg #[.slice A c.nk ca,.slice A' c.ny cb],.slice T nt capt,.agg #[.int .i64 s.n,.int .i64 s.d],.agg #[.int .i64 d.y,.int .i64 d.m,.bool d.s,.int .i64 d.d],.agg #[.int .i64 d2.y,.int .i64 d2.m,.bool d2.s,.int .i64 d2.d]] w fun e w' => e = .returned (.tuple #[.int .i64 (c.fewV t nt s d d2).1,.int .i64 (c.fewV t nt s d d2).2]) ∧ Qc w w':=by
 have NO:=fun w h => Hm A A' ca cb c w h
 have NN:=fun w h z => Qb5 T nt capt t w hint h hnt z
 have NS:=fun w => Gc s hs w
 have NSP:=fun w h => Bh A A' ca cb c d d2 w h
 have NB:=fun w h => Gw A A' ca cb c d d2 w h
 obtain ⟨R,hR0⟩:=Qe (c.fewV t nt s d d2);rw [← hR0];have HR:=zh hR0;clear hR0
 go_enter Tryz.func41,Tryz.ntmps41
 go_upto_region 1 with fail
 obtain ⟨v,b1,b2,b3,b4,E,B1,B2,B3,B4,hbr1,hbr2,hbr3,hbr,hn21,hn31,hn32,hn41,hn42,hn43,hv,hb1,hb2,hb3,hb4⟩:=Gi w 25 #[.slice A c.nk ca,.slice A' c.ny cb] 65 #[.int .i64 s.n,.int .i64 s.d] 51 #[.int .i64 d.y,.int .i64 d.m,.bool d.s,.int .i64 d.d] 51 #[.int .i64 d2.y,.int .i64 d2.m,.bool d2.s,.int .i64 d2.d];rw [← hv,← hb4,← hb3,← hb2,← hb1];clear hv hb1 hb2 hb3 hb4;have RT:=hT.ext E;have Z0:=hZ.ext E;have C:=hC.ext E;clear hT hZ;obtain ⟨k0,k1,lk⟩:=Qb.d2 B1;cases hv : c.valid
 ·have hr : R = (0, 70) := by rw [HR.out]; unfold Qd.fewV; rw [hv]; rfl
  have hc : c.chk = 70:=by unfold Qd.chk;rw [hv];rfl
  simp only [hc] at NO;subst hr;clear HR hc hv NN;go_wp2_with (go_at_call 64;refine zc (NO _ (hC.ext E)) ?_;rintro e w1 ⟨rfl,h1⟩);go_ret2;exact ⟨rfl,(E.trans h1).alloc _⟩
 ·have hc : c.chk = 0 := by unfold Qd.chk; rw [hv]; rfl
  simp only [hc] at NO;have HR2 : Hid (R = if (Jr t nt).2 ≠ 0 then (0,(Jr t nt).2) else if s.shr && decide (s.n ≠ 0) && (decide (0 < c.numV d) && decide (c.numV d ≤ c.numV d2)) then (if 4096 < c.fewN t nt s d d2 then (0,8) else (c.fewN t nt s d d2,0)) else (0,81)):=by unfold Hid;rw [HR.out];unfold Qd.fewV;rw [hv];rfl
  have hni:=Qh6 t nt;clear HR hc;go_upto_region 4 with (go_at_call 64;refine zc (NO _ (hC.ext E)) ?_;rintro e w1 ⟨rfl,h1⟩)
  obtain ⟨v3,hv⟩:=Qe (w1.alloc (.cells #[.slice A c.nk ca,.slice A' c.ny cb] 130));rw [← hv];have h3 : Qc w1 v3:=by rw [hv];exact (Qc.refl _).alloc _
  have H3 : Qb v3 w1.heap.size 130 #[.slice A c.nk ca,.slice A' c.ny cb]:=by rw [hv];exact Qb.new _ _ _
  clear hv;generalize w1.heap.size = b3' at *;replace E:=(E.trans h1).trans h3;replace B2:=(B2.ext h1).ext h3;replace B3:=(B3.ext h1).ext h3;replace B4:=(B4.ext h1).ext h3;replace RT:=(RT.ext h1).ext h3;replace Z0:=(Z0.ext h1).ext h3;replace C:=(C.ext h1).ext h3;clear h1 h3 k0 k1 lk B1 NO;have hfn : Hid (c.fewN t nt s d d2 = ((Jr t nt).1.n * s.d + s.n * (c.schV d d2 + 1) * (Jr t nt).1.d - 1) / (s.n * (c.schV d d2 + 1) * (Jr t nt).1.d)):=rfl;generalize c.fewN t nt s d d2 = q at *;generalize Jr t nt = N at *;obtain ⟨⟨Nn,Nd⟩,Ne⟩:=N;simp only [] at HR2 NN hni hfn;go_upto_region 5 with (go_at_call 87;refine zc (NN _ RT Z0) ?_;rintro e w4 ⟨rfl,h4⟩)
  obtain ⟨v4,hv⟩:=Qe (w4.alloc (.cells #[.int .i64 Nn,.int .i64 Nd] 65));rw [← hv];have h5 : Qc w4 v4:=by rw [hv];exact (Qc.refl _).alloc _
  have H4 : Qb v4 w4.heap.size 65 #[.int .i64 Nn,.int .i64 Nd]:=by rw [hv];exact Qb.new _ _ _
  clear hv;generalize w4.heap.size = b4' at *;replace E:=(E.trans h4).trans h5;replace B2:=(B2.ext h4).ext h5;replace B3:=(B3.ext h4).ext h5;replace B4:=(B4.ext h4).ext h5;replace H3:=(H3.ext h4).ext h5;replace C:=(C.ext h4).ext h5;clear h4 h5 NN RT Z0;by_cases e0 : Ne = 0;rotate_left
  ·have g0 : (Ne == 0) = false := zb e0;have g0n : (Ne != 0) = true := by rw [bne, g0]; rfl
   have hr:=HR2.out;rw [if_pos e0] at hr;subst hr;clear HR2 e0;go_wp2;go_ret2;exact ⟨rfl,E⟩
  subst e0;have HR3 : Hid (R = if s.shr && decide (s.n ≠ 0) && (decide (0 < c.numV d) && decide (c.numV d ≤ c.numV d2)) then (if 4096 < q then (0,8) else (q,0)) else (0,81)):=by unfold Hid;rw [HR2.out,if_neg (by simp)]
  clear HR2;obtain ⟨k0,k1,lk⟩:=Qb.d2 H3;obtain ⟨s0,s1,ls⟩:=Qb.d2 B2;obtain ⟨d0,d1,d2',d3,ld⟩:=Qb.d4 B3;obtain ⟨u0,u1,u2,u3,lu⟩:=Qb.d4 B4;cases g1 : s.shr
  ·have hr:=HR3.out;rw [g1,Bool.false_and,Bool.false_and,if_neg zD] at hr;simp only [g1] at NS;subst hr;clear HR3 g1;go_wp2_with (go_at_call 90;refine zc (NS _) ?_;rintro e w5 ⟨rfl,h5⟩;clear k0 k1 lk d0 d1 d2' d3 ld u0 u1 u2 u3 lu s0 s1 ls;obtain ⟨k0,k1⟩:=(H3.ext h5).c2;have lk:=(H3.ext h5).lt;obtain ⟨s0,s1⟩:=(B2.ext h5).c2;have ls:=(B2.ext h5).lt;obtain ⟨d0,d1,d2',d3⟩:=(B3.ext h5).c4;have ld:=(B3.ext h5).lt;obtain ⟨u0,u1,u2,u3⟩:=(B4.ext h5).c4;have lu:=(B4.ext h5).lt);go_ret2;exact ⟨rfl,E.trans h5⟩
  ·simp only [g1] at NS;by_cases g2 : s.n = 0
   ·have hr := HR3.out;rw [g1, zf (fun h => h g2), Bool.and_false, Bool.false_and, if_neg zD] at hr;subst hr;have g2b : (s.n == 0) = true := by rw [g2]; rfl
    clear HR3 g1 g2;go_wp2_with (go_at_call 90;refine zc (NS _) ?_;rintro e w5 ⟨rfl,h5⟩;clear k0 k1 lk d0 d1 d2' d3 ld u0 u1 u2 u3 lu s0 s1 ls;obtain ⟨k0,k1⟩:=(H3.ext h5).c2;have lk:=(H3.ext h5).lt;obtain ⟨s0,s1⟩:=(B2.ext h5).c2;have ls:=(B2.ext h5).lt;obtain ⟨d0,d1,d2',d3⟩:=(B3.ext h5).c4;have ld:=(B3.ext h5).lt;obtain ⟨u0,u1,u2,u3⟩:=(B4.ext h5).c4;have lu:=(B4.ext h5).lt);go_ret2;exact ⟨rfl,E.trans h5⟩
   ·have g2b : (s.n == 0) = false:=zb g2;cases hsp : (decide (0 < c.numV d) && decide (c.numV d ≤ c.numV d2))
    ·have hr:=HR3.out;rw [hsp,Bool.and_false,if_neg zD] at hr;simp only [hsp] at NSP;subst hr;clear HR3 g1 g2 hsp;go_wp2_with (first | (go_at_call 90;refine zc (NS _) ?_;rintro e w5 ⟨rfl,h5⟩;clear k0 k1 lk d0 d1 d2' d3 ld u0 u1 u2 u3 lu s0 s1 ls;obtain ⟨k0,k1⟩:=(H3.ext h5).c2;have lk:=(H3.ext h5).lt;obtain ⟨s0,s1⟩:=(B2.ext h5).c2;have ls:=(B2.ext h5).lt;obtain ⟨d0,d1,d2',d3⟩:=(B3.ext h5).c4;have ld:=(B3.ext h5).lt;obtain ⟨u0,u1,u2,u3⟩:=(B4.ext h5).c4;have lu:=(B4.ext h5).lt) | (go_at_call 91;refine zc (NSP _ (C.ext h5)) ?_;rintro e w6 ⟨rfl,h6⟩));go_ret2;exact ⟨rfl,(E.trans h5).trans h6⟩
    ·have hr:=HR3.out;rw [hsp,g1,zt g2,Bool.and_true,Bool.and_true,if_pos rfl] at hr;have hbd:=few_bd hv hsp g1 g2 (hni rfl);simp only [hsp] at NSP;clear HR3 hsp g1 hv;replace hr:=zh hr;generalize c.schV d d2 = z at *;obtain ⟨x1,x2,x3,x4,x5,x6,x7,x8⟩:=hbd;have v1 : IntKind.i64.wrap (z + 1) = z + 1:=Z6 Qa Qa;have v2 : IntKind.i64.wrap (s.n * (z + 1)) = s.n * (z + 1):=Z6 Qa Qa;have v3' : IntKind.i64.wrap (s.n * (z + 1) * Nd) = s.n * (z + 1) * Nd:=Z6 Qa Qa;have v4' : IntKind.i64.wrap (Nn * s.d) = Nn * s.d:=Z6 Qa Qa;have v5 : IntKind.i64.wrap (Nn * s.d + s.n * (z + 1) * Nd) = Nn * s.d + s.n * (z + 1) * Nd:=Z6 Qa Qa;have v6 : IntKind.i64.wrap (Nn * s.d + s.n * (z + 1) * Nd - 1) = Nn * s.d + s.n * (z + 1) * Nd - 1:=Z6 Qa Qa
     have v7 : IntKind.i64.wrap ((Nn * s.d + s.n * (z + 1) * Nd - 1).tdiv (s.n * (z + 1) * Nd)) = q:=by
      rw [Int.tdiv_eq_ediv_of_nonneg Qa,← hfn.out];have h1 : 0 ≤ q:=by rw [hfn.out];exact Int.ediv_nonneg Qa Qa
      have h2 : q ≤ Nn * s.d + s.n * (z + 1) * Nd - 1:=by rw [hfn.out];exact Int.ediv_le_self _ Qa
      exact Z6 Qa Qa
     have v8 : (s.n * (z + 1) * Nd == 0) = false:=zb Qa;have v9 : s.n * (z + 1) * Nd ≠ 0:=Qa;clear x1 x2 x3 x4 x5 x6 x7 x8 hfn hni g2;go_upto_region 9 with (first | (go_at_call 90;refine zc (NS _) ?_;rintro e w5 ⟨rfl,h5⟩;clear k0 k1 lk d0 d1 d2' d3 ld u0 u1 u2 u3 lu s0 s1 ls;obtain ⟨k0,k1⟩:=(H3.ext h5).c2;have lk:=(H3.ext h5).lt;obtain ⟨s0,s1⟩:=(B2.ext h5).c2;have ls:=(B2.ext h5).lt;obtain ⟨d0,d1,d2',d3⟩:=(B3.ext h5).c4;have ld:=(B3.ext h5).lt;obtain ⟨u0,u1,u2,u3⟩:=(B4.ext h5).c4;have lu:=(B4.ext h5).lt) | (go_at_call 91;refine zc (NSP _ (C.ext h5)) ?_;rintro e w6 ⟨rfl,h6⟩))
     replace E:=(E.trans h5).trans h6;replace C:=(C.ext h5).ext h6;replace B2:=(B2.ext h5).ext h6;replace B3:=(B3.ext h5).ext h6;replace B4:=(B4.ext h5).ext h6;replace H3:=(H3.ext h5).ext h6;replace H4:=(H4.ext h5).ext h6;clear h5 h6 k0 k1 lk s0 s1 ls d0 d1 d2' d3 ld u0 u1 u2 u3 lu NS NSP;obtain ⟨k0,k1,lk⟩:=Qb.d2 H3;obtain ⟨s0,s1,ls⟩:=Qb.d2 B2;obtain ⟨d0,d1,d2',d3,ld⟩:=Qb.d4 B3;obtain ⟨u0,u1,u2,u3,lu⟩:=Qb.d4 B4;obtain ⟨t0,t1,lt⟩:=Qb.d2 H4;have n1:=fun u : XW _ => NB _ (C.ext u.e)
     refine Qy w6 ?_;intro w7 h7;clear n1;obtain ⟨_,_,_,_⟩:=Qv w6 h7;by_cases c1 : 4096 < q
     ·have gg : decide (4096 < q) = true:=zt c1;have hr':=hr.out;rw [if_pos c1] at hr';subst hr';clear hr c1;go_wp2;go_ret2;exact ⟨rfl,E.trans h7⟩
     ·have gg : decide (4096 < q) = false:=zf c1;have hr':=hr.out;rw [if_neg c1] at hr';subst hr';clear hr c1;go_wp2;go_ret2;exact ⟨rfl,E.trans h7⟩
theorem G7 (A A' : OA) (ca cb : Nat) (c : Qd) (d : Dt) (w : World) (hC : Za w A ca A' cb c) (hv : c.valid = true) :
  Calls Tryz.prog 105 #[.agg #[.slice A c.nk ca,.slice A' c.ny cb],.agg #[.int .i64 d.y,.int .i64 d.m,.bool d.s,.int .i64 d.d]] w fun e w' => e = .returned (.int .i64 (c.numV d)) ∧ Qc w w':=by
 have NH:=fun v (h : Za v A ca A' cb c) => Qip A A' ca cb c d v h hv
 unfold Qd.numV;cases hh : c.has d
 ·have hE : c.inE d ≠ 0 := by rcases Pr c d with ⟨h, _⟩ | ⟨_, _, h⟩ | ⟨_, h, _⟩ <;> first | (rw [hv] at h; cases h) | (rw [h]; decide) | (rw [hh] at h; cases h)
  simp only [hh] at NH;rw [if_neg hE];clear hE hh hv
  go_enter Tryz.func105,Tryz.ntmps105
  go_upto_region 1 with fail
  obtain ⟨v,b1,b2,E,B1,B2,hbr1,hbr,hn21,hv,hb1,hb2⟩:=Jy w 25 #[.slice A c.nk ca,.slice A' c.ny cb] 51 #[.int .i64 d.y,.int .i64 d.m,.bool d.s,.int .i64 d.d];rw [← hv,← hb2,← hb1];clear hv hb1 hb2;have C:=hC.ext E;clear hC;obtain ⟨k0,k1,kl⟩:=Qb.d2 B1;obtain ⟨p0,p1,p2,p3,pl⟩:=Qb.d4 B2;go_wp2_with (go_at_call 157;refine zc (NH _ C) ?_;rintro e w1 ⟨rfl,h1⟩;replace E:=E.trans h1;replace C:=C.ext h1;replace B1:=B1.ext h1;replace B2:=B2.ext h1;clear k0 k1 kl;obtain ⟨k0,k1⟩:=B1.c2;have kl:=B1.lt;clear p0 p1 p2 p3 pl;obtain ⟨p0,p1,p2,p3⟩:=B2.c4;have pl:=B2.lt;clear h1);go_ret;exact ⟨rfl,E⟩
 ·have hE : c.inE d = 0 := by rcases Pr c d with ⟨h, _⟩ | ⟨_, h, _⟩ | ⟨_, _, h⟩ <;> first | (rw [hv] at h; cases h) | exact h | (rw [hh] at h; cases h)
  have NK:=fun v (h : Za v A ca A' cb c) => Qg7 A A' ca cb c d v h hv hh
  simp only [hh] at NH;rw [if_pos hE];generalize c.num d = V at *;clear hE hh hv
  go_enter Tryz.func105,Tryz.ntmps105
  go_upto_region 1 with fail
  obtain ⟨v,b1,b2,E,B1,B2,hbr1,hbr,hn21,hv,hb1,hb2⟩:=Jy w 25 #[.slice A c.nk ca,.slice A' c.ny cb] 51 #[.int .i64 d.y,.int .i64 d.m,.bool d.s,.int .i64 d.d];rw [← hv,← hb2,← hb1];clear hv hb1 hb2;have C:=hC.ext E;clear hC;obtain ⟨k0,k1,kl⟩:=Qb.d2 B1;obtain ⟨p0,p1,p2,p3,pl⟩:=Qb.d4 B2;go_wp2_with (first | (go_at_call 157;refine zc (NH _ C) ?_;rintro e w1 ⟨rfl,h1⟩;replace E:=E.trans h1;replace C:=C.ext h1;replace B1:=B1.ext h1;replace B2:=B2.ext h1;clear k0 k1 kl;obtain ⟨k0,k1⟩:=B1.c2;have kl:=B1.lt;clear p0 p1 p2 p3 pl;obtain ⟨p0,p1,p2,p3⟩:=B2.c4;have pl:=B2.lt;clear h1) | (go_at_call 158;refine zc (NK _ C) ?_;rintro e w2 ⟨rfl,h1⟩;replace E:=E.trans h1;replace C:=C.ext h1;replace B1:=B1.ext h1;replace B2:=B2.ext h1;clear k0 k1 kl;obtain ⟨k0,k1⟩:=B1.c2;have kl:=B1.lt;clear p0 p1 p2 p3 pl;obtain ⟨p0,p1,p2,p3⟩:=B2.c4;have pl:=B2.lt;clear h1))
  go_ret;exact ⟨rfl,E⟩
theorem Om (A A' : OA) (ca cb : Nat) (c : Qd) (a b : Dt) (w : World) (hC : Za w A ca A' cb c) (hv : c.valid = true) :
  Calls Tryz.prog 106 #[.agg #[.slice A c.nk ca,.slice A' c.ny cb],.agg #[.int .i64 a.y,.int .i64 a.m,.bool a.s,.int .i64 a.d],.agg #[.int .i64 b.y,.int .i64 b.m,.bool b.s,.int .i64 b.d]] w fun e w' => e = .returned (.bool (decide (0 < c.numV a) && decide (c.numV a ≤ c.numV b))) ∧ Qc w w':=by
 have NA:=fun v (h : Za v A ca A' cb c) => G7 A A' ca cb c a v h hv
 have NB:=fun v (h : Za v A ca A' cb c) => G7 A A' ca cb c b v h hv
 generalize c.numV a = x at *;generalize c.numV b = y at *;clear hv
 go_enter Tryz.func106,Tryz.ntmps106
 go_upto_region 1 with fail
 obtain ⟨v,b1,b2,b3,E,B1,B2,B3,hbr1,hbr2,hbr,hn21,hn31,hn32,hv,hb1,hb2,hb3⟩:=Up w 25 #[.slice A c.nk ca,.slice A' c.ny cb] 51 #[.int .i64 a.y,.int .i64 a.m,.bool a.s,.int .i64 a.d] 51 #[.int .i64 b.y,.int .i64 b.m,.bool b.s,.int .i64 b.d];rw [← hv,← hb3,← hb2,← hb1];clear hv hb1 hb2 hb3;have C:=hC.ext E;clear hC;obtain ⟨k0,k1,kl⟩:=Qb.d2 B1;obtain ⟨p0,p1,p2,p3,pl⟩:=Qb.d4 B2;obtain ⟨q0,q1,q2,q3,ql⟩:=Qb.d4 B3;have n1:=fun u : XW _ => NA _ (C.ext u.e)
 have n2:=fun u : XW _ => NB _ (C.ext u.e)
 refine Qy v ?_;intro v1 h1;clear n1 n2;obtain ⟨_,_,_,_⟩:=Qv v h1;clear NA NB C k0 k1 kl p0 p1 p2 p3 pl q0 q1 q2 q3 ql;replace E:=E.trans h1;clear h1;by_cases c1 : 0 < x
 ·have g1 : decide (0 < x) = true:=zt c1;by_cases c2 : 0 < y
  ·have g2 : decide (0 < y) = true:=zt c2;clear c1 c2;cases g3 : decide (x ≤ y)
   ·go_wp2;go_ret;exact ⟨by rw [g1];first | rfl | (rw [g3];rfl),E⟩
   ·go_wp2;go_ret;exact ⟨by rw [g1];first | rfl | (rw [g3];rfl),E⟩
  ·have g2 : decide (0 < y) = false:=zf c2;have g3 : decide (x ≤ y) = false:=zf Qa;clear c1 c2;go_wp2;go_ret;exact ⟨by rw [g3,Bool.and_false];rfl,E⟩
 ·have g1 : decide (0 < x) = false:=zf c1;clear c1;go_wp2;go_ret;exact ⟨by rw [g1];rfl,E⟩
end
end Go.Proofs.YtoflcheopfppoaaGreatDoor
