/- Walks and plain facts, packed; no conditions but those that each states. -/
import Derived.Test.YtoflcheopfppoaaGreatDoorH8
set_option maxRecDepth 100000
set_option maxHeartbeats 4000000
namespace Go.Proofs.YtoflcheopfppoaaGreatDoor
section
open Go Go.RowKit Go.Shelf
attribute [local go_sem] Zu
theorem C1 (l : List Lt) : l.flatMap Jj = Q7 (Zs (Qz l)) l.length:=by
 conv => lhs;rw [← Ev l]
 unfold Jp Q7;rw [List.flatMap_map];rfl
theorem Wi {w : World} {base k : Nat} {v : Value} {l : List Lt} (h : w.ownsRow base 85 2 v k (l.flatMap Jj)) : Q9 w v l:=by
 have hk:=h.1;rw [Gf] at hk;obtain rfl : k = l.length:=Qb;rw [C1] at h;obtain ⟨F,c,h1,h2,h3,h4,h5,_⟩:=Vl (f:=Zs (Qz l)) (fun _ => rfl) h;exact ⟨F,c,h1,h2,h3,h4,h5⟩
theorem Jn (w : World) : Q9 w (.slice none 0 0) []:=⟨none,0,rfl,Qo.nil,Nat.le_refl _,Nat.zero_le _,fun _ => ⟨rfl,rfl⟩⟩
def Qs : Pd:=⟨⟨#[]⟩,⟨0,0,false,0⟩,⟨0,0,false,0⟩,[],[],[]⟩
def Qu (p : Pd) (vo vd vc : Value) : List Value:=[.string p.h,.int .i64 p.a.y,.int .i64 p.a.m,.bool p.a.s,.int .i64 p.a.d,.int .i64 p.b.y,.int .i64 p.b.m,.bool p.b.s,.int .i64 p.b.d,vo,vd,vc]
def Jw (w : World) (v : Value) (l : List Pd) : Prop:=∃ D cap,∃ vo vd vc : Nat → Value,v = .slice D l.length cap ∧ Qo w D l.length 12 (fun i => Qu (l.getD i Qs) (vo i) (vd i) (vc i)) ∧ l.length ≤ cap ∧ cap ≤ maxLen ∧ (D = none → l.length = 0 ∧ cap = 0) ∧ ∀ i,i < l.length → J9 w (l.getD i Qs) (vo i) (vd i) (vc i)
theorem Jw.ext {w w' : World} {v : Value} {l : List Pd} (h : Jw w v l) (e : Qc w w') : Jw w' v l:=by
 obtain ⟨D,cap,vo,vd,vc,h1,h2,h3,h4,h5,h6⟩:=h;exact ⟨D,cap,vo,vd,vc,h1,h2.ext e,h3,h4,h5,fun i hi => (h6 i hi).ext e⟩
theorem Qj3 {c : Qd} {p : Pd} (h : c.perE p = 0) : p.o.length ≤ 64:=by
 unfold Qd.perE at h;cases hv : c.valid
 ·rw [hv,if_neg (by simp)] at h;exact absurd h zD
 ·rw [hv,if_pos rfl] at h;cases ho : c.perOk p
  ·rw [ho,if_neg (by simp)] at h;exact absurd h zD
  ·unfold Qd.perOk Qd.perHead at ho;simp only [Bool.and_eq_true,decide_eq_true_eq] at ho;exact (Gi ho.1.1.1.2).1
def Qd.persE (c : Qd) (l : List Pd) : Int:=if l.all c.perOk then 0 else 83
def Qd.validE (c : Qd) (l : List Pd) : Int:=if c.chk ≠ 0 then c.chk else c.persE l
theorem P4 (c : Qd) (p : Pd) : c.validE [p] = c.perE p:=by
 unfold Qd.validE Qd.perE Qd.chk Qd.persE;cases c.valid <;> simp
theorem Qc4 {l : List Pd} {P : Pd → Bool} {k : Nat} (hk : k < l.length) (h : P (l.getD k Qs) = false) : l.all P = false :=
 List.all_eq_false.2 ⟨l[k],List.getElem_mem hk,by simpa [List.getD_eq_getElem?_getD,hk] using h⟩
theorem Qc5 {l : List Pd} {P : Pd → Bool} (h : ∀ k,k < l.length → P (l.getD k Qs) = true) : l.all P = true :=
 List.all_eq_true.2 fun x hx => by
  obtain ⟨k,hk,rfl⟩:=List.mem_iff_getElem.1 hx
  simpa [List.getD_eq_getElem?_getD,hk] using h k hk
theorem Pc {w : World} {b : Nat} {t : TypeId} {p : Pd} {vo vd vc : Value} (h : Qa w b t (Qu p vo vd vc).toArray) (hP : J9 w p vo vd vc) : Jw w (.slice (some ⟨b,0,none⟩) 1 1) [p] :=
 ⟨some ⟨b,0,none⟩,1,fun _ => vo,fun _ => vd,fun _ => vc,rfl,Km (f:=fun _ => Qu p vo vd vc) (n:=1) (fun _ => rfl) (by simpa [Q7] using h) |>.congr (fun i hi => by obtain rfl : i = 0:=(by simp at hi;omega);rfl),Nat.le_refl _,by decide,fun h => (by cases h),fun i hi => by obtain rfl : i = 0:=(by simp at hi;omega);exact hP⟩
theorem Uy (v : Value) (l : List Lt) (w : World) (hL : Q9 w v l) (hn : l.length ≤ 1000000) :
  Calls Tryz.prog 59 #[v] w fun e w' => ∃ v',e = .returned v' ∧ Qc w w' ∧ w'.ownsRow w.heap.size 85 2 v' l.length (l.flatMap Jj):=by
 rw [C1];obtain ⟨T,cap,rfl,hT,hcap,hmax,hnil⟩:=hL;generalize l.length = n at *;generalize Qz l = f at *;have q23 : ∀ (w : World) (a : OA) (n c n' c' : Nat),(binOp .eql 52 (.slice a n c) (.slice none n' c')).run Tryz.prog w = .ok (.bool a.isNone) w:=fun w a n c n' c' => Lib.run_eql_slice_nil w _ _ a n c n' c' Tryz.underlying52
 cases T with
 | none =>
  obtain ⟨rfl,rfl⟩:=hnil rfl
  go_enter Tryz.func59,Tryz.ntmps59
  go_wp2;go_ret
  exact ⟨_,rfl,Qc.refl _,World.ownsRow_nil _ _ _ _⟩
 | some a =>
  obtain ⟨i0,hi,hz0,hz1,hz2⟩:=info_parts Au;have hlen:=Xz (f:=Zs f) (sz:=2) (fun _ => rfl) n;have hone : ∀ u ∈ Q7 (Zs f) n,u.oneCell' = true:=C3 (f:=Zs f) (n:=n) (fun i u hu => by simp [Zs] at hu;rcases hu with rfl | rfl <;> simp [Value.oneCell']);have HN:=fun v (h : Qo v (some a) n 2 (Zs f)) => Ly (f:=Zs f) (sz:=2) (fun _ => rfl) zD h
  go_enter Tryz.func59,Tryz.ntmps59
  go_wp2_with (at_builtin;refine wpList_append_own _ rfl _ _ 52 rfl w.heap.size 85 i0 (.agg #[.string ⟨#[]⟩,.int .i64 0]) 2 24 Tryz.underlying52 hi hz0 hz1 hz2 rfl zD _ _ _ rfl (World.ownsRow_made w #[] 0 (Nat.le_refl _) (Nat.zero_le _) rfl) a n cap (Q7 (Zs f) n) rfl hlen (HN _ (hT.ext ((Qc.refl _).alloc _)) a rfl) hone (by unfold maxLen;omega) Qb (by simp) ?_;intro v' w1 hown hgrow hnil2);go_ret;refine ⟨v',rfl,((Qc.refl w).alloc _).grown hgrow (fun q hq => by have h : some w.heap.size = some q:=hq;cases h;exact Nat.le_refl _),by simpa using hown⟩
theorem Qau (A A' : OA) (ca cb : Nat) (c : Qd) (v : Value) (l : List Pd) (w : World) (hC : Q3 w A ca A' cb c) (hP : Jw w v l) :
  Calls Tryz.prog 107 #[.agg #[.slice A c.nk ca,.slice A' c.ny cb],v] w fun e w' => e = .returned (.int .i64 (c.persE l)) ∧ Qc w w':=by
 obtain ⟨D,cap,vo,vd,vc,rfl,hD,hcap,hmax,_,hat⟩:=hP;have hn : l.length ≤ 9223372036854775807:=Nat.le_trans hcap (Nat.le_trans hmax zD);obtain ⟨R,hR0⟩:=Qf (c.persE l);rw [← hR0];have HR:=zh hR0;clear hR0;obtain ⟨n,hnl⟩:=Qf (l.length);rw [← hnl] at hn hD hat hcap ⊢;replace hnl:=zh hnl;obtain ⟨g,hg⟩:=Qf (fun i => l.getD i Qs);have hg' : ∀ i,l.getD i Qs = g i:=fun i => by rw [hg]
 simp only [hg'] at hD hat;replace hg:=zh hg;clear hg';replace hat:=zh hat
 go_enter Tryz.func107,Tryz.ntmps107
 go_upto_region 1 with fail
 obtain ⟨v,b1,E,B1,hbr,hv,hb1⟩:=Ym w 130 #[.slice A c.nk ca,.slice A' c.ny cb];rw [← hv,← hb1];clear hv hb1;have C:=hC.ext E;replace hD:=hD.ext E;replace hat:=zh fun i hi => (hat.out i hi).ext E
 clear hC;go_upto_region 2 with fail
 go_loopw [9] (fun i wr => ∃ k : Nat,k ≤ n ∧ i = .int .i64 k ∧ Hid (∀ j,j < k → c.perOk (g j) = true) ∧ Qc v wr) (fun i _ => n - (intOf i).toNat)
 case atStart => exact ⟨0,Nat.zero_le _,rfl,(fun j h => absurd h Qb),Qc.refl _⟩
 case round =>
  obtain ⟨k,hk,rfl,hall,hE⟩:=hrel;obtain ⟨wo,rfl⟩:=Qf wr;by_cases hlt : k < n
  ·obtain ⟨b, off, rfl, hb, hc⟩ := (hD.ext hE) Qb;have hP := hat.out k hlt;have c0 : wo.cell? ⟨b, off + k * 12, none⟩ = some (.string (g k).h) := by simpa [Qu] using hc k 0 _ hlt rfl
   have c1 : wo.cell? ⟨b,off + k * 12 + 1,none⟩ = some (.int .i64 (g k).a.y):=by simpa [Qu] using hc k 1 _ hlt rfl
   have c2 : wo.cell? ⟨b,off + k * 12 + 2,none⟩ = some (.int .i64 (g k).a.m):=by simpa [Qu] using hc k 2 _ hlt rfl
   have c3 : wo.cell? ⟨b,off + k * 12 + 3,none⟩ = some (.bool (g k).a.s):=by simpa [Qu] using hc k 3 _ hlt rfl
   have c4 : wo.cell? ⟨b,off + k * 12 + 4,none⟩ = some (.int .i64 (g k).a.d):=by simpa [Qu] using hc k 4 _ hlt rfl
   have c5 : wo.cell? ⟨b,off + k * 12 + 5,none⟩ = some (.int .i64 (g k).b.y):=by simpa [Qu] using hc k 5 _ hlt rfl
   have c6 : wo.cell? ⟨b,off + k * 12 + 6,none⟩ = some (.int .i64 (g k).b.m):=by simpa [Qu] using hc k 6 _ hlt rfl
   have c7 : wo.cell? ⟨b,off + k * 12 + 7,none⟩ = some (.bool (g k).b.s):=by simpa [Qu] using hc k 7 _ hlt rfl
   have c8 : wo.cell? ⟨b,off + k * 12 + 8,none⟩ = some (.int .i64 (g k).b.d):=by simpa [Qu] using hc k 8 _ hlt rfl
   have c9 : wo.cell? ⟨b,off + k * 12 + 9,none⟩ = some (vo k):=by simpa [Qu] using hc k 9 _ hlt rfl
   have c10 : wo.cell? ⟨b,off + k * 12 + 10,none⟩ = some (vd k):=by simpa [Qu] using hc k 10 _ hlt rfl
   have c11 : wo.cell? ⟨b,off + k * 12 + 11,none⟩ = some (vc k):=by simpa [Qu] using hc k 11 _ hlt rfl
   have NP:=fun w h1 h2 => Qj4 A A' ca cb c (g k) (vo k) (vd k) (vc k) w h1 h2
   have hno : Hid (c.perOk (g k) = false → R = 83):=fun h => by
    rw [HR.out];unfold Qd.persE;rw [if_neg (by rw [Bool.not_eq_true];exact Qc4 (k:=k) (by rw [← hnl.out];exact hlt) (by rw [hg.out] at h;exact h))]
   have hyes : Hid (c.perOk (g k) = true → ∀ j,j < k + 1 → c.perOk (g j) = true):=fun h j hj => by
    by_cases e : j = k
    ·subst e;exact h
    ·exact hall.out j Qb
   obtain ⟨VO,VD,VC,hvo,hvd,hvc⟩ : ∃ x y z,x = vo k ∧ y = vd k ∧ z = vc k:=⟨_,_,_,rfl,rfl,rfl⟩;rw [← hvo] at c9 NP hP;rw [← hvd] at c10 NP hP;rw [← hvc] at c11 NP hP;clear hvo hvd hvc hc hall HR hat hg;obtain ⟨t1,s1,e1,_⟩:=hP.o;subst e1;obtain ⟨t2,s2,_,e2,_⟩:=hP.d;subst e2;obtain ⟨t3,s3,e3,_⟩:=hP.c;subst e3;go_upto_region 4 with fail
   obtain ⟨v3,hv⟩:=Qf (wo.alloc (.cells #[.string (g k).h,.int .i64 (g k).a.y,.int .i64 (g k).a.m,.bool (g k).a.s,.int .i64 (g k).a.d,.int .i64 (g k).b.y,.int .i64 (g k).b.m,.bool (g k).b.s,.int .i64 (g k).b.d,.slice t1 (g k).o.length s1,.slice t2 (g k).d.length s2,.slice t3 (g k).c.length s3] 55));rw [← hv];have E3 : Qc wo v3:=by rw [hv];exact (Qc.refl _).alloc _
   have H3 : Qa v3 wo.heap.size 55 #[.string (g k).h,.int .i64 (g k).a.y,.int .i64 (g k).a.m,.bool (g k).a.s,.int .i64 (g k).a.d,.int .i64 (g k).b.y,.int .i64 (g k).b.m,.bool (g k).b.s,.int .i64 (g k).b.d,.slice t1 (g k).o.length s1,.slice t2 (g k).d.length s2,.slice t3 (g k).c.length s3]:=by rw [hv];exact Qa.new _ _ _
   clear hv;generalize wo.heap.size = b3 at *;clear c0 c1 c2 c3 c4 c5 c6 c7 c8 c9 c10 c11;replace NP:=NP v3 (C.ext (hE.trans E3)) (hP.ext (hE.trans E3));replace hE:=hE.trans E3;have B1e:=B1.ext hE;obtain ⟨k0,k1,lk⟩:=Qa.d2 B1e;obtain ⟨p0,p1,p2,p3,p4,p5,p6,p7,p8,p9,p10,p11,lp⟩:=Qa.d12 H3;clear E3 hP;cases hq : c.perOk (g k)
   ·have hr:=hno.out hq;rw [hq] at NP;clear hno hyes hq;go_wp2_with (go_at_call 159;refine zc (NP) ?_;rintro e w2 ⟨rfl,h⟩);go_ret;exact ⟨by rw [hr];rfl,(E.trans hE).trans h⟩
   ·have hx:=zh (hyes.out hq);rw [hq] at NP;clear hno hyes hq;go_wp2_with (go_at_call 159;refine zc (NP) ?_;rintro e w2 ⟨rfl,h⟩);exact ⟨⟨k + 1,Qb,by go_num,hx,hE.trans h⟩,zi⟩
  ·obtain rfl : k = n:=Qb
   have hr : R = 0:=by
    rw [HR.out];unfold Qd.persE;rw [if_pos (Qc5 fun j hj => by have:=hall.out j (by rw [hnl.out];exact hj);rw [hg.out] at this;exact this)]
   clear HR hall hat hg;go_wp2;go_ret;exact ⟨by rw [hr];rfl,E.trans hE⟩
theorem De (v1 v2 : Value) (a b : List Lt) (w : World) (h1 : Q9 w v1 a) (h2 : Q9 w v2 b) :
  Calls Tryz.prog 19 #[v1,v2] w fun e w' => ∃ F k m,e = .returned (.tuple #[.slice F k m,.int .i64 (Z4 1 a b)]) ∧ Qc w w' ∧ Q9 w' (.slice F k m) (Yg 1 a b):=by
 obtain ⟨T,cap,rfl,hT,hcap,hmax,_⟩:=h1;obtain ⟨S,cm,rfl,hS,hcm,hmm,_⟩:=h2;refine zc (Df T a.length cap (Qz a) S b.length cm (Qz b) w hT hcap (Nat.le_trans hcap (Nat.le_trans hmax zD)) hS hcm (Nat.le_trans hcm (Nat.le_trans hmm zD))) ?_;rintro e w' ⟨F,k,c,rfl,hx,ho⟩;exact ⟨F,k,c,rfl,hx,Wi ho⟩
theorem Qln (v1 v2 : Value) (a b : List Lt) (w : World) (h1 : Q9 w v1 a) (h2 : Q9 w v2 b) :
  Calls Tryz.prog 108 #[v1,v2] w fun e w' => ∃ F k m,e = .returned (.tuple #[.slice F k m,.int .i64 (Z4 (-1) a b)]) ∧ Qc w w' ∧ Q9 w' (.slice F k m) (Yg (-1) a b):=by
 obtain ⟨T,cap,rfl,hT,hcap,hmax,_⟩:=h1;obtain ⟨S,cm,rfl,hS,hcm,hmm,_⟩:=h2;refine zc (Qbu T a.length cap (Qz a) S b.length cm (Qz b) w hT hcap (Nat.le_trans hcap (Nat.le_trans hmax zD)) hS hcm (Nat.le_trans hcm (Nat.le_trans hmm zD))) ?_;rintro e w' ⟨F,k,c,rfl,hx,ho⟩;exact ⟨F,k,c,rfl,hx,Wi ho⟩
theorem Qbx (s : List Lt) {d : List Dl} {k : Nat} (hk : k < d.length) : Q4 s (d.drop k) = if Z4 (X0 (d.getD k Qv).i) s (d.getD k Qv).l ≠ 0 then ([],Z4 (X0 (d.getD k Qv).i) s (d.getD k Qv).l) else Q4 (Yg (X0 (d.getD k Qv).i) s (d.getD k Qv).l) (d.drop (k + 1)):=by
 have e : d.getD k Qv = d[k]:=by simp [List.getD_eq_getElem?_getD,hk]
 rw [e];exact Qlp s d hk
theorem Qdr (vo vd : Value) (o : List Lt) (d : List Dl) (w : World) (hO : Q9 w vo o) (hD : Ja w vd d) (ho : o.length ≤ 1000000) :
  Calls Tryz.prog 61 #[vo,vd] w fun e w' => ∃ v',e = .returned (.tuple #[v',.int .i64 (Q4 o d).2]) ∧ Qc w w' ∧ Q9 w' v' (Q4 o d).1:=by
 obtain ⟨D,cap,vs,rfl,hD,hcap,hmax,_,hat⟩:=hD;have hn : d.length ≤ 9223372036854775807:=Nat.le_trans hcap (Nat.le_trans hmax zD);have NC:=Uy vo o w hO ho;obtain ⟨A0,cc0,rfl,_⟩:=id hO;obtain ⟨R,hR⟩:=Qf (Q4 o d);rw [← hR];replace hR:=zh hR
 go_enter Tryz.func61,Tryz.ntmps61
 go_upto_region 2 with (go_at_call 59;refine zc (NC) ?_;rintro e w1 ⟨v0,rfl,h1,hown⟩)
 have hS0:=Wi hown;obtain ⟨F0,m0,rfl⟩:=Z9 hown;clear NC hown hO;go_upto_region 3 with fail
 obtain ⟨n,hnl⟩:=Qf (d.length);rw [← hnl] at hn hD hat hcap ⊢;replace hnl:=zh hnl;obtain ⟨g,hg⟩:=Qf (fun i => d.getD i Qv);have hg' : ∀ i,d.getD i Qv = g i:=fun i => by rw [hg]
 have hdr : Hid (∀ s k,k < n → Q4 s (d.drop k) = if Z4 (X0 (g k).i) s (g k).l ≠ 0 then ([],Z4 (X0 (g k).i) s (g k).l) else Q4 (Yg (X0 (g k).i) s (g k).l) (d.drop (k + 1))):=fun s k hk => by
  rw [Qbx s (by rw [← hnl.out];exact hk),hg']
 simp only [hg'] at hD hat;clear hg hg';replace hat:=zh hat;have hD1:=hD.ext h1
 go_loopw [6,16] (fun sv iv wr => ∃ (k : Nat) (s : List Lt),k ≤ n ∧ iv = .int .i64 k ∧ Q9 wr sv s ∧ Hid (R = Q4 s (d.drop k)) ∧ Qc w wr) (fun _ i _ => n - (intOf i).toNat)
 case atStart => exact ⟨0,o,Nat.zero_le _,rfl,hS0,by unfold Hid;rw [hR.out];rfl,h1⟩
 case round =>
  clear hS0;obtain ⟨k,s,hk,rfl,hS,hrun,hE⟩:=hrel;obtain ⟨wo,rfl⟩:=Qf wr;by_cases hlt : k < n
  ·obtain ⟨b,off,rfl,hb,hc⟩:=(hD.ext hE) Qb;have hL:=(hat.out k hlt).ext hE;obtain ⟨c0,c1,c2,c3,c4,c5,c6⟩:=zp7 hc hlt;have HS:=zh (hdr.out s k hlt);obtain ⟨VL,hvl⟩:=Qf (vs k);rw [← hvl] at c6 hL;clear hvl hc hdr hat hR hD hD1;obtain ⟨TL,cl,hVL,_⟩:=id hL;subst hVL;obtain ⟨AS,cs,hsv,_⟩:=id hS;subst hsv;obtain ⟨SD,hSD⟩:=Qf (Q4 s (d.drop k));rw [← hSD] at HS hrun;clear hSD;go_upto_region 5 with fail
   obtain ⟨v3,hv⟩:=Qf (wo.alloc (.cells #[.int .i64 (g k).on.y,.int .i64 (g k).on.m,.bool (g k).on.s,.int .i64 (g k).on.d,.bool (g k).i,.string (g k).w,.slice TL (g k).l.length cl] 57));rw [← hv];have E3 : Qc wo v3:=by rw [hv];exact (Qc.refl _).alloc _
   have H3 : Qa v3 wo.heap.size 57 #[.int .i64 (g k).on.y,.int .i64 (g k).on.m,.bool (g k).on.s,.int .i64 (g k).on.d,.bool (g k).i,.string (g k).w,.slice TL (g k).l.length cl]:=by rw [hv];exact Qa.new _ _ _
   clear hv;generalize wo.heap.size = b3 at *;clear c0 c1 c2 c3 c4 c5 c6;replace hL:=hL.ext E3;replace hS:=hS.ext E3;replace hE:=hE.trans E3;clear E3;have NA:=fun h1 h2 => De (.slice AS s.length cs) (.slice TL (g k).l.length cl) s (g k).l v3 h1 h2
   have NB:=fun h1 h2 => Qln (.slice AS s.length cs) (.slice TL (g k).l.length cl) s (g k).l v3 h1 h2
   obtain ⟨q0,q1,q2,q3,q4,q5,q6,lq⟩:=Qa.d7 H3;cases hi : (g k).i
   ·have NX:=NB hS hL;rw [hi] at HS;have HS2 : Hid (SD = if Z4 (-1) s (g k).l ≠ 0 then ([],Z4 (-1) s (g k).l) else Q4 (Yg (-1) s (g k).l) (d.drop (k + 1))):=HS;rw [hi] at q4;clear HS hi;generalize hce : Z4 (-1) s (g k).l = E1 at *;generalize Yg (-1) s (g k).l = L1 at *;by_cases e0 : E1 = 0
    ·subst e0;have HS3:=zh (HS2.out.trans (if_neg (by simp)));clear HS2 hce;go_wp2_with (first | (go_at_call 108;(with_reducible refine zc (NX) ?_);rintro e w6 ⟨F6,k6,m6,rfl,h6,L6⟩) | (go_at_fn 108;(with_reducible refine zc (NX) ?_);rintro e w6 ⟨F6,k6,m6,rfl,h6,L6⟩));exact ⟨⟨k + 1,L1,Qb,by go_num,L6,zh (hrun.out.trans HS3.out),hE.trans h6⟩,zi⟩
    ·have g0 : (E1 == 0) = false := zb e0;have g0n : (E1 != 0) = true := by rw [bne, g0]; rfl
     have HS3:=zh (hrun.out.trans (HS2.out.trans (if_pos e0)));clear HS2 hrun hce e0;go_wp2_with (first | (go_at_call 108;(with_reducible refine zc (NX) ?_);rintro e w6 ⟨F6,k6,m6,rfl,h6,L6⟩) | (go_at_fn 108;(with_reducible refine zc (NX) ?_);rintro e w6 ⟨F6,k6,m6,rfl,h6,L6⟩));go_ret2;exact ⟨_,by rw [HS3.out];rfl,hE.trans h6,by rw [HS3.out];exact Jn _⟩
   ·have NX:=NA hS hL;rw [hi] at HS;have HS2 : Hid (SD = if Z4 1 s (g k).l ≠ 0 then ([],Z4 1 s (g k).l) else Q4 (Yg 1 s (g k).l) (d.drop (k + 1))):=HS;rw [hi] at q4;clear HS hi;generalize hce : Z4 1 s (g k).l = E1 at *;generalize Yg 1 s (g k).l = L1 at *;by_cases e0 : E1 = 0
    ·subst e0;have HS3:=zh (HS2.out.trans (if_neg (by simp)));clear HS2 hce;go_wp2_with (first | (go_at_call 19;(with_reducible refine zc (NX) ?_);rintro e w6 ⟨F6,k6,m6,rfl,h6,L6⟩) | (go_at_fn 19;(with_reducible refine zc (NX) ?_);rintro e w6 ⟨F6,k6,m6,rfl,h6,L6⟩));exact ⟨⟨k + 1,L1,Qb,by go_num,L6,zh (hrun.out.trans HS3.out),hE.trans h6⟩,zi⟩
    ·have g0 : (E1 == 0) = false := zb e0;have g0n : (E1 != 0) = true := by rw [bne, g0]; rfl
     have HS3:=zh (hrun.out.trans (HS2.out.trans (if_pos e0)));clear HS2 hrun hce e0;go_wp2_with (first | (go_at_call 19;(with_reducible refine zc (NX) ?_);rintro e w6 ⟨F6,k6,m6,rfl,h6,L6⟩) | (go_at_fn 19;(with_reducible refine zc (NX) ?_);rintro e w6 ⟨F6,k6,m6,rfl,h6,L6⟩));go_ret2;exact ⟨_,by rw [HS3.out];rfl,hE.trans h6,by rw [HS3.out];exact Jn _⟩
  ·obtain rfl : k = n:=Qb
   have hr : Hid (R = (s,0)):=by
    unfold Hid;rw [hrun.out,hnl.out,List.drop_length];rfl
   clear hrun hdr hat hR;go_wp2;go_ret2;exact ⟨_,by rw [hr.out];rfl,hE,by rw [hr.out];exact hS⟩
theorem Fm (A A' : OA) (ca cb : Nat) (c : Qd) (v : Value) (l : List Pd) (w : World) (hC : Q3 w A ca A' cb c) (hP : Jw w v l) :
  Calls Tryz.prog 73 #[.agg #[.slice A c.nk ca,.slice A' c.ny cb],v] w fun e w' => e = .returned (.tuple #[.agg #[.slice A c.nk ca,.slice A' c.ny cb],.int .i64 (c.validE l)]) ∧ Qc w w':=by
 have NO:=fun w h => Ny A A' ca cb c w h
 obtain ⟨D,cap,_,_,_,hv9,_⟩:=id hP;subst hv9;have NP:=fun w h1 h2 => Qau A A' ca cb c (.slice D l.length cap) l w h1 h2
 obtain ⟨R,hR0⟩:=Qf (c.validE l);rw [← hR0];have HR:=zh hR0;clear hR0
 go_enter Tryz.func73,Tryz.ntmps73
 go_upto_region 1 with fail
 obtain ⟨v,b1,b2,E,B1,B2,hbr1,hbr,hn21,hv,hb1,hb2⟩:=J1 w 25 #[.slice A c.nk ca,.slice A' c.ny cb] 130 #[.slice none 0 0,.slice none 0 0];rw [← hv,← hb2,← hb1];clear hv hb1 hb2;obtain ⟨k0,k1,lk⟩:=Qa.d2 B1;obtain ⟨ck,hck⟩:=Qf (c.chk);simp only [← hck] at NO;replace hck:=zh hck;go_upto_region 2 with (go_at_call 64;refine zc (NO _ (hC.ext E)) ?_;rintro e w1 ⟨rfl,h1⟩)
 obtain ⟨v3,hv⟩:=Qf (w1.alloc (.cells #[.slice A c.nk ca,.slice A' c.ny cb] 130));rw [← hv];have h3 : Qc w1 v3:=by rw [hv];exact (Qc.refl _).alloc _
 have H3 : Qa v3 w1.heap.size 130 #[.slice A c.nk ca,.slice A' c.ny cb]:=by rw [hv];exact Qa.new _ _ _
 clear hv;generalize w1.heap.size = b9 at *;replace E:=(E.trans h1).trans h3;replace B2:=(B2.ext h1).ext h3;have C:=hC.ext E;have P:=hP.ext E;clear hC hP k0 k1 lk B1 NO h1 h3;by_cases e0 : ck = 0;rotate_left
 ·have g0 : (ck == 0) = false := zb e0;have g0n : (ck != 0) = true := by rw [bne, g0]; rfl
  have hr : R = ck:=by rw [HR.out,hck.out];unfold Qd.validE;rw [if_pos (by rw [← hck.out];exact e0)]
  clear HR e0 hck NP;obtain ⟨k0,k1,lk⟩:=Qa.d2 H3;obtain ⟨f0,f1,x0,x1,lx⟩:=Qa.e2 B2;have H4:=Qp B2 (.slice A c.nk ca) (.slice A' c.ny cb);have EF:=(E.setCell (p:=⟨b2,0,none⟩) hbr (.slice A c.nk ca)).setCell (p:=⟨b2,1,none⟩) hbr (.slice A' c.ny cb);obtain ⟨y0,y1⟩:=H4.c2;go_wp2;refine bodyPost_ret (v:=.tuple #[.agg #[.slice A c.nk ca,.slice A' c.ny cb],.int .i64 ck]) Q8 rfl ⟨by rw [hr],EF⟩
 ·subst e0;have hr : Hid (R = c.persE l) := by unfold Hid; rw [HR.out]; unfold Qd.validE; rw [if_neg (by rw [← hck.out]; simp)]
  clear HR hck;go_upto_region 4 with fail
  refine Qy 6 [4,5] (fun x => Qc v3 x) mixed rfl ?_;intro vz hvz;have HC:=hvz;refine Qj (g:=3) [0,1,2] HC ?_
  constructor
  refine ⟨fun u hu => ?_,?_⟩
  ·obtain ⟨k0,k1,lk⟩:=Qa.d2 (H3.ext hu);exact Qi
  refine Qh 3 ?_;go_wp2_with (go_at_call 107;refine zc (NP _ (C.ext HC) (P.ext HC)) ?_;rintro e va ⟨rfl,h4⟩);replace HC:=HC.trans h4;clear h4;refine Qe HC ?_;refine Ql 4 ?_;replace B2:=B2.ext HC;replace E:=E.trans HC;obtain ⟨f0,f1,x0,x1,lx⟩:=Qa.e2 B2;have H4:=Qp B2 (.slice A c.nk ca) (.slice A' c.ny cb);have EF:=(E.setCell (p:=⟨b2,0,none⟩) hbr (.slice A c.nk ca)).setCell (p:=⟨b2,1,none⟩) hbr (.slice A' c.ny cb);obtain ⟨y0,y1⟩:=H4.c2;go_wp2;refine Qk ?_;refine Ql 5 ?_;go_wp2;refine Qk ?_;refine Qr ?_;go_wp2;refine bodyPost_ret (v:=.tuple #[.agg #[.slice A c.nk ca,.slice A' c.ny cb],.int .i64 (c.persE l)]) Q8 rfl ⟨by rw [hr.out],EF⟩
theorem Qeo (A A' : OA) (ca cb : Nat) (c : Qd) (p : Pd) (vo vd vc : Value) (w : World) (hC : Q3 w A ca A' cb c) (hP : J9 w p vo vd vc) :
  Calls Tryz.prog 43 #[.agg #[.slice A c.nk ca,.slice A' c.ny cb],.agg #[.string p.h,.int .i64 p.a.y,.int .i64 p.a.m,.bool p.a.s,.int .i64 p.a.d,.int .i64 p.b.y,.int .i64 p.b.m,.bool p.b.s,.int .i64 p.b.d,vo,vd,vc]] w fun e w' => ∃ v',e = .returned (.tuple #[v',.int .i64 (c.closeV p).2]) ∧ Qc w w' ∧ Q9 w' v' (c.closeV p).1:=by
 obtain ⟨t1,s1,e1,_⟩:=id hP.o;subst e1;obtain ⟨t2,s2,_,e2,_⟩:=id hP.d;subst e2;obtain ⟨t3,s3,e3,_⟩:=id hP.c;subst e3;have NV:=fun w h1 v h2 => Fm A A' ca cb c v [p] w h1 h2
 simp only [P4] at NV;obtain ⟨R,hR0⟩:=Qf (c.closeV p);rw [← hR0];have HR:=zh hR0;clear hR0
 go_enter Tryz.func43,Tryz.ntmps43
 go_upto_region 1 with fail
 obtain ⟨v,b1,b2,E,B1,B2,hbr1,hbr,hn21,hv,hb1,hb2⟩:=J1 w 25 #[.slice A c.nk ca,.slice A' c.ny cb] 55 #[.string p.h,.int .i64 p.a.y,.int .i64 p.a.m,.bool p.a.s,.int .i64 p.a.d,.int .i64 p.b.y,.int .i64 p.b.m,.bool p.b.s,.int .i64 p.b.d,.slice t1 p.o.length s1,.slice t2 p.d.length s2,.slice t3 p.c.length s3];rw [← hv,← hb2,← hb1];clear hv hb1 hb2;have C:=hC.ext E;have P:=hP.ext E;clear hC hP;obtain ⟨k0,k1,lk⟩:=Qa.d2 B1;obtain ⟨p0,p1,p2,p3,p4,p5,p6,p7,p8,p9,p10,p11,lp⟩:=Qa.d12 B2;obtain ⟨pe,hpe⟩:=Qf (c.perE p);simp only [← hpe] at NV;replace hpe:=zh hpe;have AL:=(Qc.refl v).alloc (.cells #[.string p.h,.int .i64 p.a.y,.int .i64 p.a.m,.bool p.a.s,.int .i64 p.a.d,.int .i64 p.b.y,.int .i64 p.b.m,.bool p.b.s,.int .i64 p.b.d,.slice t1 p.o.length s1,.slice t2 p.d.length s2,.slice t3 p.c.length s3] 55)
 have NV1:=NV _ (C.ext AL) (.slice (some ⟨v.heap.size,0,none⟩) 1 1) (Pc (t:=55) (Qa.new v 55 #[.string p.h,.int .i64 p.a.y,.int .i64 p.a.m,.bool p.a.s,.int .i64 p.a.d,.int .i64 p.b.y,.int .i64 p.b.m,.bool p.b.s,.int .i64 p.b.d,.slice t1 p.o.length s1,.slice t2 p.d.length s2,.slice t3 p.c.length s3]) (P.ext AL));go_upto_region 2 with (go_at_call 73;refine zc (NV1) ?_;rintro e w1 ⟨rfl,h1⟩)
 replace h1:=AL.trans h1;clear NV NV1 AL;obtain ⟨v3,hv⟩:=Qf (w1.alloc (.cells #[.slice A c.nk ca,.slice A' c.ny cb] 130));rw [← hv];have h3 : Qc w1 v3:=by rw [hv];exact (Qc.refl _).alloc _
 have H3 : Qa v3 w1.heap.size 130 #[.slice A c.nk ca,.slice A' c.ny cb]:=by rw [hv];exact Qa.new _ _ _
 clear hv;generalize w1.heap.size = b9 at *;replace h1:=h1.trans h3;replace E:=E.trans h1;replace C:=C.ext h1;replace P:=P.ext h1;replace B2:=B2.ext h1;clear h1 h3 H3 B1 k0 k1 lk p0 p1 p2 p3 p4 p5 p6 p7 p8 p9 p10 p11 lp;by_cases e0 : pe = 0;rotate_left
 ·have g0 : (pe == 0) = false := zb e0;have g0n : (pe != 0) = true := by rw [bne, g0]; rfl
  have hr : Hid (R = ([],pe)):=by unfold Hid;rw [HR.out,hpe.out];unfold Qd.closeV;rw [if_pos (by rw [← hpe.out];exact e0)]
  clear HR e0 hpe;go_wp2;go_ret2;exact ⟨_,by rw [hr.out];rfl,E,by rw [hr.out];exact Jn _⟩
 ·subst e0;have hr : Hid (R = Q4 p.o p.d) := by unfold Hid; rw [HR.out]; unfold Qd.closeV; rw [if_neg (by rw [← hpe.out]; simp)]
  have NB:=Qdr _ _ p.o p.d v3 P.o P.d (by have:=Qj3 hpe.out.symm;omega);clear HR hpe;rw [← hr.out] at NB;clear hr;obtain ⟨p0,p1,p2,p3,p4,p5,p6,p7,p8,p9,p10,p11,lp⟩:=Qa.d12 B2;go_wp2_with (go_at_call 61;refine zc (NB) ?_;rintro e w5 ⟨v5,rfl,h5,L5⟩);go_ret2;exact ⟨v5,rfl,E.trans h5,L5⟩
end
section
open Go Go.RowKit
theorem Fw {w : World} {b off n k : Nat} {g : Nat → Pd} {vo vd vc : Nat → Value} (hc : ∀ i j v,i < n → (Qu (g i) (vo i) (vd i) (vc i))[j]? = some v → w.cell? ⟨b,off + i * 12 + j,none⟩ = some v) (hk : k < n) :
  w.cell? ⟨b,off + k * 12,none⟩ = some (.string (g k).h) ∧ w.cell? ⟨b,off + k * 12 + 1,none⟩ = some (.int .i64 (g k).a.y) ∧ w.cell? ⟨b,off + k * 12 + 2,none⟩ = some (.int .i64 (g k).a.m) ∧ w.cell? ⟨b,off + k * 12 + 3,none⟩ = some (.bool (g k).a.s) ∧ w.cell? ⟨b,off + k * 12 + 4,none⟩ = some (.int .i64 (g k).a.d) ∧ w.cell? ⟨b,off + k * 12 + 5,none⟩ = some (.int .i64 (g k).b.y) ∧ w.cell? ⟨b,off + k * 12 + 6,none⟩ = some (.int .i64 (g k).b.m) ∧ w.cell? ⟨b,off + k * 12 + 7,none⟩ = some (.bool (g k).b.s) ∧ w.cell? ⟨b,off + k * 12 + 8,none⟩ = some (.int .i64 (g k).b.d) ∧ w.cell? ⟨b,off + k * 12 + 9,none⟩ = some (vo k) ∧ w.cell? ⟨b,off + k * 12 + 10,none⟩ = some (vd k) ∧ w.cell? ⟨b,off + k * 12 + 11,none⟩ = some (vc k) :=
 ⟨hc k 0 _ hk rfl,hc k 1 _ hk rfl,hc k 2 _ hk rfl,hc k 3 _ hk rfl,hc k 4 _ hk rfl,hc k 5 _ hk rfl,hc k 6 _ hk rfl,hc k 7 _ hk rfl,hc k 8 _ hk rfl,hc k 9 _ hk rfl,hc k 10 _ hk rfl,hc k 11 _ hk rfl⟩
end
section
instance : DecidableEq Lt:=fun a b => if h : a.g = b.g ∧ a.n = b.n then .isTrue (by cases a;cases b;simp_all) else .isFalse (fun e => h ⟨by rw [e],by rw [e]⟩)
def Qd.behV (c : Qd) (x y : Pd) : Bool:=decide (x.h = y.h) && decide (c.numV y.a = c.numV x.b + 1)
def Gb (x y : Pd) : Pd:=⟨x.h,x.a,y.b,x.o,x.d ++ y.d,y.c⟩
def Qd.joinE (c : Qd) (x y : Pd) : Int :=
 if c.validE [x,y] ≠ 0 then c.validE [x,y] else if (c.behV x y && decide (x.c = y.o)) = true then (if 64 < x.d.length + y.d.length then 3 else 0) else 84
def Qd.joinP (c : Qd) (x y : Pd) : Pd:=if c.joinE x y ≠ 0 then Jq else Gb x y
theorem Qhr {c : Qd} {x y : Pd} {e : Int} (h : c.validE [x,y] = e) (h0 : e ≠ 0) : c.joinE x y = e ∧ c.joinP x y = Jq:=by
 have h1 : c.joinE x y = e:=by unfold Qd.joinE;rw [h,if_pos h0]
 exact ⟨h1,by unfold Qd.joinP;rw [h1,if_pos h0]⟩
theorem Ei {c : Qd} {x y : Pd} (h : c.validE [x,y] = 0) (h0 : (c.behV x y && decide (x.c = y.o)) = false) : c.joinE x y = 84 ∧ c.joinP x y = Jq:=by
 have h1 : c.joinE x y = 84:=by unfold Qd.joinE;rw [if_neg (by simpa using h),if_neg (by rw [h0];decide)]
 exact ⟨h1,by unfold Qd.joinP;rw [h1,if_pos zD]⟩
theorem Qhs {c : Qd} {x y : Pd} (h : c.validE [x,y] = 0) (h0 : (c.behV x y && decide (x.c = y.o)) = true) (h2 : 64 < x.d.length + y.d.length) : c.joinE x y = 3 ∧ c.joinP x y = Jq:=by
 have h1 : c.joinE x y = 3:=by unfold Qd.joinE;rw [if_neg (by simpa using h),if_pos h0,if_pos h2]
 exact ⟨h1,by unfold Qd.joinP;rw [h1,if_pos zD]⟩
theorem Qht {c : Qd} {x y : Pd} (h : c.validE [x,y] = 0) (h0 : (c.behV x y && decide (x.c = y.o)) = true) (h2 : ¬ 64 < x.d.length + y.d.length) : c.joinE x y = 0 ∧ c.joinP x y = Gb x y:=by
 have h1 : c.joinE x y = 0:=by unfold Qd.joinE;rw [if_neg (by simpa using h),if_pos h0,if_neg h2]
 exact ⟨h1,by unfold Qd.joinP;rw [h1,if_neg zD]⟩
theorem Ql5 {c : Qd} {x y : Pd} (h : c.validE [x,y] = 0) : c.valid = true ∧ c.perOk x = true ∧ c.perOk y = true:=by
 unfold Qd.validE at h;cases hv : c.valid
 ·unfold Qd.chk at h;rw [hv] at h;simp at h
 ·have h0 : c.chk = 0 := by unfold Qd.chk; rw [hv]; rfl
  rw [if_neg (by simpa using h0)] at h;unfold Qd.persE at h;cases hx : c.perOk x <;> cases hy : c.perOk y <;> simp [hx,hy] at h ⊢
def Qd.carR (c : Qd) : Option Pd → List Pd → List Pd × Int
 | _,[] => ([],0)
 | q,p :: r =>
  if (q.any fun q => !c.behV q p) = true then ([],84)
  else if (Q4 (q.elim p.o (·.c)) p.d).2 ≠ 0 then ([],(Q4 (q.elim p.o (·.c)) p.d).2)
  else if (c.carR (some ⟨p.h,p.a,p.b,q.elim p.o (·.c),p.d,(Q4 (q.elim p.o (·.c)) p.d).1⟩) r).2 ≠ 0 then ([],(c.carR (some ⟨p.h,p.a,p.b,q.elim p.o (·.c),p.d,(Q4 (q.elim p.o (·.c)) p.d).1⟩) r).2)
  else (⟨p.h,p.a,p.b,q.elim p.o (·.c),p.d,(Q4 (q.elim p.o (·.c)) p.d).1⟩ :: (c.carR (some ⟨p.h,p.a,p.b,q.elim p.o (·.c),p.d,(Q4 (q.elim p.o (·.c)) p.d).1⟩) r).1,0)
def Qd.archE (c : Qd) (l : List Pd) : Int:=if c.chk ≠ 0 then c.chk else if 32 < l.length then 3 else c.persE l
def Qd.carryV (c : Qd) (l : List Pd) : List Pd × Int:=if c.archE l ≠ 0 then ([],c.archE l) else c.carR none l
def Wf (L : List Pd) (R : List Pd × Int) : List Pd × Int:=if R.2 ≠ 0 then ([],R.2) else (L ++ R.1,0)
def Xs (q : Option Pd) (p : Pd) : Pd:=⟨p.h,p.a,p.b,q.elim p.o (·.c),p.d,(Q4 (q.elim p.o (·.c)) p.d).1⟩
theorem Bj {c : Qd} {q : Option Pd} {p : Pd} {r : List Pd} (h : (q.any fun q => !c.behV q p) = true) : c.carR q (p :: r) = ([],84):=by
 unfold Qd.carR;rw [if_pos h]
theorem Bm {c : Qd} {q : Option Pd} {p : Pd} {r : List Pd} (h : (q.any fun q => !c.behV q p) = false) (h0 : (Q4 (q.elim p.o (·.c)) p.d).2 ≠ 0) : c.carR q (p :: r) = ([],(Q4 (q.elim p.o (·.c)) p.d).2):=by
 unfold Qd.carR;rw [if_neg (by rw [h];decide),if_pos h0]
theorem Bk {c : Qd} {q : Option Pd} {p : Pd} {r : List Pd} (h : (q.any fun q => !c.behV q p) = false) (h0 : (Q4 (q.elim p.o (·.c)) p.d).2 = 0) : c.carR q (p :: r) = if (c.carR (some (Xs q p)) r).2 ≠ 0 then ([],(c.carR (some (Xs q p)) r).2) else (Xs q p :: (c.carR (some (Xs q p)) r).1,0):=by
 conv => lhs;unfold Qd.carR
 rw [if_neg (by rw [h];decide),if_neg (fun g => g h0)];rfl
theorem Bi {L : List Pd} {R : List Pd × Int} {e : Int} (h : R = ([],e)) (h0 : e ≠ 0) : Wf L R = ([],e):=by
 unfold Wf;rw [h,if_pos h0]
theorem Qd1 {c : Qd} {q : Option Pd} {p : Pd} {r L : List Pd} (h : (q.any fun q => !c.behV q p) = true) : Wf L (c.carR q (p :: r)) = ([],84):=Bi (Bj h) zD
theorem Qd5 {c : Qd} {q : Option Pd} {p : Pd} {r L : List Pd} (h : (q.any fun q => !c.behV q p) = false) (h0 : (Q4 (q.elim p.o (·.c)) p.d).2 ≠ 0) : Wf L (c.carR q (p :: r)) = ([],(Q4 (q.elim p.o (·.c)) p.d).2):=Bi (Bm h h0) h0
theorem Qd4 {c : Qd} {q : Option Pd} {p : Pd} {r L : List Pd} (h : (q.any fun q => !c.behV q p) = false) (h0 : (Q4 (q.elim p.o (·.c)) p.d).2 = 0) : Wf L (c.carR q (p :: r)) = Wf (L ++ [Xs q p]) (c.carR (some (Xs q p)) r):=by
 rw [Bk h h0];generalize c.carR (some (Xs q p)) r = R;obtain ⟨R1,e⟩:=R;by_cases g : e = 0
 ·subst g;simp [Wf]
 ·simp [Wf,g]
theorem Qd2 {c : Qd} {q : Option Pd} {L : List Pd} : Wf L (c.carR q []) = (L,0):=by
 unfold Qd.carR Wf;rw [if_neg (by simp)];simp
theorem Qd0 (c : Qd) (q : Option Pd) : ∀ l : List Pd,(c.carR q l).2 ≠ 0 → (c.carR q l).1 = []
 | [],h => absurd rfl h
 | p :: r,h => by
  cases h1 : (q.any fun q => !c.behV q p)
  ·by_cases h2 : (Q4 (q.elim p.o (·.c)) p.d).2 = 0
   ·rw [Bk h1 h2] at h ⊢
    split at h
    ·rename_i h3;rw [if_pos h3]
    ·exact absurd rfl h
   ·rw [Bm h1 h2]
  ·rw [Bj h1]
theorem Qd3 {c : Qd} {l : List Pd} : Wf [] (c.carR none l) = c.carR none l:=by
 have:=Qd0 c none l;generalize c.carR none l = R at *;obtain ⟨R1,e⟩:=R;by_cases g : e = 0
 ·subst g;simp [Wf]
 ·have h:=this g
  simp only at h
  simp [Wf,g,h]
structure LtOk (x : Lt) : Prop where
 g : Z5 x.g = true
 n0 : x.n ≠ 0
 hi : x.n ≤ 1099511627776
 lo : -1099511627776 ≤ x.n
structure LsOk (l : List Lt) : Prop where
 a : ∀ x ∈ l,LtOk x
 s : l.Pairwise fun x y => Yv x.g y.g = true
theorem LsOk.up {x : Lt} {l : List Lt} (h : LsOk (x :: l)) : ∀ y ∈ l,Yv x.g y.g = true:=(List.pairwise_cons.1 h.s).1
theorem Qi3 {s : ByteArray} (h : Z5 s = true) : s.size ≠ 0:=by
 unfold Z5 at h;simp only [Bool.and_eq_true,decide_eq_true_eq] at h;omega
theorem Iu {x y : Lt} (h : LtOk x) : U6 x y = x.g:=by unfold U6;rw [if_neg (Qi3 h.g)]
theorem Qi2 {y : Lt} : U6 Wo y = y.g:=rfl
def V7 (a b : List Lt) (p : Lt × Lt) : Prop:=(p.1 ∈ a ∧ p.2 = Wo) ∨ (p.1 = Wo ∧ p.2 ∈ b) ∨ (p.1 ∈ a ∧ p.2 ∈ b)
theorem V7.l {a b : List Lt} {x : Lt} {p : Lt × Lt} (h : V7 a b p) : V7 (x :: a) b p:=by
 rcases h with ⟨h1,h2⟩ | ⟨h1,h2⟩ | ⟨h1,h2⟩
 ·exact .inl ⟨List.mem_cons_of_mem _ h1,h2⟩
 ·exact .inr (.inl ⟨h1,h2⟩)
 ·exact .inr (.inr ⟨List.mem_cons_of_mem _ h1,h2⟩)
theorem V7.r {a b : List Lt} {y : Lt} {p : Lt × Lt} (h : V7 a b p) : V7 a (y :: b) p:=by
 rcases h with ⟨h1,h2⟩ | ⟨h1,h2⟩ | ⟨h1,h2⟩
 ·exact .inl ⟨h1,h2⟩
 ·exact .inr (.inl ⟨h1,List.mem_cons_of_mem _ h2⟩)
 ·exact .inr (.inr ⟨h1,List.mem_cons_of_mem _ h2⟩)
theorem V7.up {a b : List Lt} {p : Lt × Lt} {u : ByteArray} (h : V7 a b p) (ha : LsOk a) (h1 : ∀ x ∈ a,Yv u x.g = true) (h2 : ∀ y ∈ b,Yv u y.g = true) : Yv u (U6 p.1 p.2) = true:=by
 rcases h with ⟨h3,h4⟩ | ⟨h3,h4⟩ | ⟨h3,h4⟩
 ·rw [Iu (ha.a _ h3)];exact h1 _ h3
 ·rw [h3,Qi2];exact h2 _ h4
 ·rw [Iu (ha.a _ h3)];exact h1 _ h3
structure Vh (c : Qd) (p : Pd) : Prop where
 n : Z5 p.h = true
 a0 : 0 < c.numV p.a
 ab : c.numV p.a ≤ c.numV p.b
 o : Yh p.o = 0
 k : Yh p.c = 0
 m : p.d.length ≤ 64
 l : ∀ x ∈ p.d,Z5 x.w = true ∧ x.w ≠ p.h ∧ Um x.l = true ∧ c.numV p.a ≤ c.numV x.on ∧ c.numV x.on ≤ c.numV p.b
 s : p.d.Pairwise fun x y => c.numV x.on ≤ c.numV y.on
theorem Qj1 {c : Qd} {p : Pd} (h : c.perOk p = true) : Vh c p:=by
 have k:=Oc h;unfold Qd.perOk at h;rw [Bool.and_eq_true] at h;obtain ⟨h1,h2⟩:=h;unfold Qd.perHead Qd.spanV at h1;simp only [Bool.and_eq_true,decide_eq_true_eq] at h1;have h3 : ∀ i,i < p.d.length → c.dealOk p i = true:=fun i hi => List.all_eq_true.1 h2 i (by simpa using hi)
 refine ⟨h1.1.1.1.1,h1.1.1.1.2.1,h1.1.1.1.2.2,h1.1.1.2,h1.1.2,h1.2,fun x hx => ?_,k.sorted⟩;obtain ⟨i,hi,rfl⟩:=List.mem_iff_getElem.1 hx;have h4:=h3 i hi;unfold Qd.dealOk at h4;simp only [Bool.not_eq_true',Bool.or_eq_false_iff,decide_eq_false_iff_not,Bool.not_eq_false'] at h4;rw [Pd.dl_get hi] at h4;have h5:=k.lo 0 Qb;have h6:=k.mono (i:=0) (j:=i) Qb hi;have h7 : p.d.getD i Qv = p.d[i]:=by simp [List.getD_eq_getElem?_getD,hi]
 rw [h7] at h6;have h8 : c.numV p.a ≤ c.numV (p.d.getD 0 Qv).on:=h5;exact ⟨h4.1.1.2,h4.1.2,h4.2,Qb,Qb⟩
structure DivOk (c : Qd) (p x y : Pd) : Prop where
 b : c.behV x y = true
 xy : x.c = y.o
 j : Gb x y = p
 s : Q4 x.o x.d = (x.c,0)
 t : Q4 y.o y.d = Q4 p.o p.d
 m : x.d.length + y.d.length = p.d.length
 px : Vh c x
 py : Vh c y
structure JnOk (c : Qd) (w q : Pd) : Prop where
 h : w.h = q.h
 b : w.b = q.b
 k : w.c = q.c
 ok : Vh c w
def Qd.links (c : Qd) : List Pd → Prop
 | x :: y :: r => (c.behV x y = true ∧ x.c = y.o) ∧ c.links (y :: r)
 | _ => True
def joinsV (l : List Pd) : Pd:=match l with | [] => Jq | x :: r => r.foldl Gb x
structure CarOk (c : Qd) (k : List Pd) : Prop where
 a : ∀ x ∈ k,Vh c x ∧ Q4 x.o x.d = (x.c,0)
 l : c.links k
theorem Qde {c : Qd} {l : List Pd} (h : c.archE l = 0) : c.valid = true ∧ ∀ p ∈ l,Vh c p:=by
 unfold Qd.archE at h
 split at h
 ·rename_i h1;exact absurd h h1
 rename_i h1
 have hv : c.valid = true:=by
  have h2 : c.chk = 0:=Decidable.not_not.1 h1;unfold Qd.chk at h2
  split at h2
  ·assumption
  ·exact absurd h2 zD
 refine ⟨hv,fun p hp => ?_⟩
 split at h
 ·exact absurd h zD
 unfold Qd.persE at h
 split at h
 ·rename_i h3;exact Qj1 (List.all_eq_true.1 h3 p hp)
 ·exact absurd h zD
structure CjOk (c : Qd) (k : List Pd) (i : Nat) (w : Pd) : Prop where
 hi : i < k.length
 j : JnOk c w (k.getD i Qs)
 s : Q4 w.o w.d = (w.c,0)
 o : w.o = (k.getD 0 Qs).o
structure TopS (c : Qd) (p : Pd) (W : List Lt) (P : List Pd) (r : Pd) : Prop where
 a : ∀ x ∈ P,Vh c x ∧ Q4 x.o x.d = (x.c,0)
 s : Q4 r.o r.d = (W,0)
 l : c.links (P ++ [r])
 j : joinsV (P ++ [r]) = p
 ok : Vh c r
abbrev Rf:=Nat × Nat
def Q5 : Rf:=(0,0)
def Xi (p : Pd) (b : Bool) (i : Nat) : Nat → List Rf
 | 0 => []
 | k + 1 => Xi p b i k ++ (if (p.d.getD k Qv).i = b then [(i,k)] else [])
def Xh (l : List Pd) (b : Bool) : Nat → List Rf
 | 0 => []
 | i + 1 => Xh l b i ++ Xi (l.getD i Qs) b i (l.getD i Qs).d.length
def Yj (l : List Pd) (b : Bool) : List Rf:=Xh l b l.length
def Zz (l : List Pd) (r : Rf) : Dl:=(l.getD r.1 Qs).d.getD r.2 Qv
theorem Qa9 {p : Pd} {b : Bool} {i : Nat} {x : Rf} : ∀ {n : Nat},x ∈ Xi p b i n ↔ x.1 = i ∧ x.2 < n ∧ (p.d.getD x.2 Qv).i = b
 | 0 => by simp [Xi]
 | n + 1 => by
  unfold Xi;rw [List.mem_append,Qa9]
  constructor
  ·rintro (⟨h1,h2,h3⟩ | h)
   ·exact ⟨h1,Qb,h3⟩
   ·split at h
    ·rename_i e
     rw [List.mem_singleton] at h;subst h;exact ⟨rfl,by simp,e⟩
    ·exact absurd h (by simp)
  ·rintro ⟨h1,h2,h3⟩;by_cases e : x.2 = n
   ·right
    rw [← e,if_pos h3,List.mem_singleton];exact Prod.ext h1 rfl
   ·exact .inl ⟨h1,Qb,h3⟩
theorem Qa8 {l : List Pd} {b : Bool} {x : Rf} : ∀ {n : Nat},x ∈ Xh l b n ↔ x.1 < n ∧ x.2 < (l.getD x.1 Qs).d.length ∧ (Zz l x).i = b
 | 0 => by simp [Xh]
 | n + 1 => by
  unfold Xh;rw [List.mem_append,Qa8,Qa9]
  constructor
  ·rintro (⟨h1,h2⟩ | ⟨h1,h2,h3⟩)
   ·exact ⟨Qb,h2⟩
   ·subst h1;exact ⟨Qb,h2,h3⟩
  ·rintro ⟨h1,h2,h3⟩;by_cases e : x.1 = n
   ·right;subst e;exact ⟨rfl,h2,h3⟩
   ·exact .inl ⟨Qb,h2,h3⟩
theorem Pl {l : List Pd} {b : Bool} {x : Rf} : x ∈ Yj l b ↔ x.1 < l.length ∧ x.2 < (l.getD x.1 Qs).d.length ∧ (Zz l x).i = b:=Qa8
def Qd.mayB (c : Qd) (l : List Pd) (days : Int) (x y : Rf) : Bool :=
 decide ((Zz l x).w = (l.getD y.1 Qs).h) && decide ((Zz l y).w = (l.getD x.1 Qs).h) && decide ((Zz l x).l = (Zz l y).l) && decide (0 ≤ c.numV (Zz l y).on - c.numV (Zz l x).on) && decide (c.numV (Zz l y).on - c.numV (Zz l x).on ≤ days)
def Qd.adjA (c : Qd) (l : List Pd) (days : Int) (o : Nat) : List Nat:=(List.range (Yj l true).length).filter fun k => c.mayB l days ((Yj l false).getD o Q5) ((Yj l true).getD k Q5)
def Qd.matchI (c : Qd) (l : List Pd) (days : Int) : List (Nat × Nat):=Bu (c.adjA l days) (Yj l true).length (Yj l false).length
def Qd.matchL (c : Qd) (l : List Pd) (days : Int) : List (Rf × Rf):=(c.matchI l days).map fun p => ((Yj l false).getD p.1 Q5,(Yj l true).getD p.2 Q5)
def Qd.audE (c : Qd) (l : List Pd) (days : Int) : Int:=if c.archE l ≠ 0 then c.archE l else if days < 0 ∨ 400 < days then 8 else 0
def Qd.matchV (c : Qd) (l : List Pd) (days : Int) : List (Rf × Rf) × Int:=if c.audE l days ≠ 0 then ([],c.audE l days) else (c.matchL l days,0)
theorem Qc3 (c : Qd) (l : List Pd) (days : Int) : ∀ o,∀ k ∈ c.adjA l days o,k < (Yj l true).length:=fun _ _ hk => List.mem_range.1 (List.mem_filter.1 hk).1
theorem Rk {α : Type} {z : α} {l : List α} {x : α} (h : x ∈ l) : ∃ i,i < l.length ∧ l.getD i z = x:=by
 obtain ⟨i,hi,rfl⟩:=List.mem_iff_getElem.1 h;exact ⟨i,hi,by simp [List.getD_eq_getElem?_getD,hi]⟩
theorem Y9 {α : Type} {z : α} {l : List α} {i : Nat} (h : i < l.length) : l.getD i z ∈ l:=by
 simp [List.getD_eq_getElem?_getD,h]
theorem Rl {c : Qd} {l : List Pd} {days : Int} (h : c.audE l days = 0) : (c.valid = true ∧ ∀ p ∈ l,Vh c p) ∧ 0 ≤ days ∧ days ≤ 400:=by
 unfold Qd.audE at h
 split at h
 ·rename_i h1;exact absurd h h1
 rename_i h1
 split at h
 ·exact absurd h zD
 ·exact ⟨Qde (Decidable.not_not.1 h1),Qb,Qb⟩
abbrev Zy:=Nat × Nat × Nat
def Qx (l : List Pd) (i : Nat) : Pd:=l.getD i Qs
def Fg (p : Pd) : Bool:=!(decide ((Q4 p.o p.d).2 = 0) && decide ((Q4 p.o p.d).1 = p.c))
def Qd.befS (c : Qd) (l : List Pd) (i : Nat) (b : Int) (k : Nat) : Int:=if c.numV (Qx l k).b < c.numV (Qx l i).a ∧ (b < 0 ∨ c.numV (Qx l b.toNat).b < c.numV (Qx l k).b) then (k : Int) else b
def Y0 (l : List Pd) (h : ByteArray) : List Nat:=(List.range l.length).filter fun k => decide ((Qx l k).h = h)
def Qd.befV (c : Qd) (l : List Pd) (i : Nat) : Int:=(Y0 l (Qx l i).h).foldl (c.befS l i) (-1)
def Qd.befK (c : Qd) (l : List Pd) (i : Nat) : Nat → Int
 | 0 => -1
 | k + 1 => if (Qx l k).h = (Qx l i).h then c.befS l i (c.befK l i k) k else c.befK l i k
theorem Qdt (c : Qd) (l : List Pd) (i : Nat) : c.befK l i l.length = c.befV l i:=by
 have h : ∀ n,((List.range n).filter fun k => decide ((Qx l k).h = (Qx l i).h)).foldl (c.befS l i) (-1) = c.befK l i n:=fun n => by
  induction n with
  | zero => rfl
  | succ n ih =>
   rw [List.range_succ,List.filter_append,List.foldl_append,ih]
   show _ = (if (Qx l n).h = (Qx l i).h then c.befS l i (c.befK l i n) n else c.befK l i n)
   by_cases e : (Qx l n).h = (Qx l i).h
   ·rw [if_pos e];simp [e]
   ·rw [if_neg e];simp [e]
 exact (h l.length).symm
theorem Bd (c : Qd) (l : List Pd) (i : Nat) : ∀ n,-1 ≤ c.befK l i n ∧ c.befK l i n < n
 | 0 => by unfold Qd.befK;omega
 | n + 1 => by
  have h:=Bd c l i n;unfold Qd.befK Qd.befS
  split
  ·split <;> omega
  ·omega
def Qd.ovB (c : Qd) (l : List Pd) (i : Nat) : Bool:=(Y0 l (Qx l i).h).any fun k => decide (k < i) && decide (c.numV (Qx l k).a ≤ c.numV (Qx l i).b) && decide (c.numV (Qx l i).a ≤ c.numV (Qx l k).b)
def Qd.keptB (c : Qd) (l : List Pd) (w : ByteArray) (on : Dt) : Bool:=(Y0 l w).any fun k => decide (c.numV (Qx l k).a ≤ c.numV on) && decide (c.numV on ≤ c.numV (Qx l k).b)
def Lb (m : List (Rf × Rf)) (r : Rf) : Bool:=m.any fun p => decide (p.1 = r) || decide (p.2 = r)
def Qd.dealB (c : Qd) (l : List Pd) (m : List (Rf × Rf)) (i k : Nat) : Bool:=c.keptB l ((Qx l i).d.getD k Qv).w ((Qx l i).d.getD k Qv).on && !Lb m (i,k)
def Qd.opB (c : Qd) (l : List Pd) (i : Nat) : Bool:=decide (0 ≤ c.befV l i) && !decide ((Qx l (c.befV l i).toNat).c = (Qx l i).o)
def Qd.isA (c : Qd) (l : List Pd) (i : Nat) : List Zy:=(if Fg (Qx l i) = true then [(1,i,0)] else []) ++ (if c.opB l i = true then [(2,i,0)] else []) ++ (if c.ovB l i = true then [(3,i,0)] else [])
def Qd.isD (c : Qd) (l : List Pd) (m : List (Rf × Rf)) (i : Nat) : Nat → List Zy
 | 0 => []
 | k + 1 => c.isD l m i k ++ (if c.dealB l m i k = true then [(4,i,k)] else [])
def Qd.isP (c : Qd) (l : List Pd) (m : List (Rf × Rf)) (i : Nat) : List Zy:=c.isA l i ++ c.isD l m i (Qx l i).d.length
def Qd.audN (c : Qd) (l : List Pd) (m : List (Rf × Rf)) : Nat → List Zy
 | 0 => []
 | n + 1 => c.audN l m n ++ c.isP l m n
def Qd.audL (c : Qd) (l : List Pd) (m : List (Rf × Rf)) : List Zy:=c.audN l m l.length
def Qd.auditV (c : Qd) (l : List Pd) (days : Int) : List Zy × Int:=if c.audE l days ≠ 0 then ([],c.audE l days) else (c.audL l (c.matchL l days),0)
def Wh (x y : Zy) : Prop:=x.2.1 < y.2.1 ∨ (x.2.1 = y.2.1 ∧ (x.1 < y.1 ∨ (x.1 = y.1 ∧ x.2.2 < y.2.2)))
theorem Av {c : Qd} {l : List Pd} {i : Nat} {x : Zy} (h : x ∈ c.isA l i) : x.2.1 = i ∧ x.2.2 = 0 ∧ 1 ≤ x.1 ∧ x.1 ≤ 3:=by
 unfold Qd.isA at h;simp only [List.mem_append] at h;rcases h with (h | h) | h <;> split at h <;> simp at h <;> subst h <;> simp
theorem Hy {c : Qd} {l : List Pd} {m : List (Rf × Rf)} {i : Nat} {x : Zy} : ∀ {n : Nat},x ∈ c.isD l m i n → x.2.1 = i ∧ x.2.2 < n ∧ x.1 = 4
 | 0,h => absurd h (by simp [Qd.isD])
 | n + 1,h => by
  unfold Qd.isD at h;rw [List.mem_append] at h;rcases h with h | h
  ·have:=Hy h;exact ⟨this.1,Qb,this.2.2⟩
  ·split at h
   ·simp at h;subst h;simp
   ·simp at h
theorem Sf {c : Qd} {l : List Pd} {m : List (Rf × Rf)} {i : Nat} {x : Zy} (h : x ∈ c.isP l m i) : x.2.1 = i ∧ x.1 ≤ 4 ∧ (x.2.2 = 0 ∨ x.2.2 < (Qx l i).d.length):=by
 unfold Qd.isP at h;rw [List.mem_append] at h;rcases h with h | h
 ·obtain ⟨h1,h2,h3,h4⟩:=Av h;exact ⟨h1,Qb,.inl h2⟩
 ·obtain ⟨h1,h2,h3⟩:=Hy h;exact ⟨h1,Qb,.inr h2⟩
theorem Qhk (c : Qd) (l : List Pd) (i : Nat) : (c.isA l i).Pairwise Wh:=by
 unfold Qd.isA
 split <;> split <;> split <;> simp [Wh]
theorem Aw (c : Qd) (l : List Pd) (m : List (Rf × Rf)) (i : Nat) : ∀ n,(c.isD l m i n).Pairwise Wh
 | 0 => List.Pairwise.nil
 | n + 1 => by
  unfold Qd.isD;refine List.pairwise_append.2 ⟨Aw c l m i n,by split <;> simp,fun x hx y hy => ?_⟩;obtain ⟨h1,h2,h3⟩:=Hy hx
  split at hy
  ·rw [List.mem_singleton] at hy;subst hy;exact .inr ⟨h1,.inr ⟨h3,h2⟩⟩
  ·exact absurd hy (by simp)
theorem Qhm (c : Qd) (l : List Pd) (m : List (Rf × Rf)) (i : Nat) : (c.isP l m i).Pairwise Wh:=by
 refine List.pairwise_append.2 ⟨Qhk c l i,Aw c l m i _,fun x hx y hy => ?_⟩;obtain ⟨h1,_,_,h4⟩:=Av hx;obtain ⟨k1,_,k3⟩:=Hy hy;exact .inr ⟨Qb,.inl Qb⟩
theorem Rm {c : Qd} {l : List Pd} {m : List (Rf × Rf)} {x : Zy} : ∀ {n : Nat},x ∈ c.audN l m n → x.2.1 < n ∧ x ∈ c.isP l m x.2.1
 | 0,h => absurd h (by simp [Qd.audN])
 | n + 1,h => by
  unfold Qd.audN at h;rw [List.mem_append] at h;rcases h with h | h
  ·have:=Rm h;exact ⟨Qb,this.2⟩
  ·have:=(Sf h).1;rw [this];exact ⟨Qb,h⟩
theorem D0 (c : Qd) (l : List Pd) (m : List (Rf × Rf)) : ∀ n,(c.audN l m n).Pairwise Wh
 | 0 => List.Pairwise.nil
 | n + 1 => by
  refine List.pairwise_append.2 ⟨D0 c l m n,Qhm c l m n,fun x hx y hy => ?_⟩;have h1:=(Rm hx).1;have h2:=(Sf hy).1;exact .inl Qb
theorem Dy (c : Qd) (l : List Pd) (m : List (Rf × Rf)) : ∀ n,c.audN l m n = (List.range n).flatMap (c.isP l m)
 | 0 => rfl
 | n + 1 => by
  rw [List.range_succ,List.flatMap_append,← Dy c l m n];simp [Qd.audN]
theorem Qlk (l : List Pd) (P : ByteArray → Bool) (f : Nat → List Zy) (h : ByteArray) (hP : P h = false) :
  ((List.range l.length).filter fun i => P (Qx l i).h || decide ((Qx l i).h = h)).flatMap f |>.Perm (((List.range l.length).filter fun i => P (Qx l i).h).flatMap f ++ (Y0 l h).flatMap f):=by
 unfold Y0;generalize List.range l.length = r
 induction r with
 | nil => exact List.Perm.refl _
 | cons i r ih =>
  by_cases e : (Qx l i).h = h
  ·have e1 : P (Qx l i).h = false := by rw [e]; exact hP
   simp only [List.filter_cons,e1,Bool.false_or,zt e,if_true,List.flatMap_cons];simp only [Bool.false_eq_true,if_false];refine (List.Perm.append_left (f i) ih).trans ?_;rw [← List.append_assoc,← List.append_assoc];exact List.perm_append_comm.append_right _
  ·by_cases e1 : P (Qx l i).h = true
   ·simp only [List.filter_cons,e1,Bool.true_or,if_true,List.flatMap_cons,zf e,Bool.false_eq_true,if_false,List.append_assoc];exact List.Perm.append_left (f i) ih
   ·have e1 : P (Qx l i).h = false := by simpa using e1
    simp only [List.filter_cons,e1,Bool.false_or,zf e,Bool.false_eq_true,if_false];exact ih
theorem Qg6 {x : Zy} : ¬ Wh x x:=fun h => by unfold Wh at h;omega
theorem Qbr : ∀ {a b : List Zy},a.Perm b → a.Pairwise Wh → b.Pairwise (fun x y => ¬ Wh y x) → a = b
 | [],b,h,_,_ => (List.Perm.nil_eq h)
 | x :: a,[],h,_,_ => absurd h.symm (by simp)
 | x :: a,y :: b,h,h1,h2 => by
  have hx : x ∈ y :: b:=h.subset List.mem_cons_self;have hy : y ∈ x :: a:=h.symm.subset List.mem_cons_self
  have e : x = y:=by
   rcases List.mem_cons.1 hx with e | hx
   ·exact e
   ·rcases List.mem_cons.1 hy with e | hy
    ·exact e.symm
    ·exact absurd (List.rel_of_pairwise_cons h1 hy) (List.rel_of_pairwise_cons h2 hx)
  subst e;rw [Qbr (List.Perm.cons_inv h) (List.Pairwise.of_cons h1) (List.Pairwise.of_cons h2)]
structure J2 where
 k : Int
 l : List Lt
def J3 (x : Int) : Int:=max x (-x)
def Ud (k : Int) (x : Lt) : Bool:=decide (1099511627776 / J3 x.n < J3 k)
def Ko (k : Int) (x : Lt) : Lt:=⟨x.g,x.n * k⟩
def Ye (l : List Lt) (k : Int) : Int:=if Yh l ≠ 0 then Yh l else if k = 0 then 0 else if l.any (Ud k) then 6 else 0
def Yl (l : List Lt) (k : Int) : List Lt:=if Ye l k ≠ 0 then [] else if k = 0 then [] else l.map (Ko k)
theorem Qid {f : Nat → Lt} {n : Nat} (h : Jo f n = 0) : ∀ i,i < n → (f i).n ≠ 0 ∧ (f i).n ≤ 1099511627776 ∧ -1099511627776 ≤ (f i).n:=by
 unfold Jo at h;by_cases h64 : 64 < n
 ·rw [if_pos h64] at h;exact absurd h (by decide)
 ·rw [if_neg h64] at h;by_cases ho : Nu f n = true
  ·intro i hi;have h1:=List.all_eq_true.1 ho i (by simpa using hi);unfold Vq at h1;simp only [Bool.and_eq_true,decide_eq_true_eq] at h1;exact h1.2
  ·rw [if_neg ho] at h;exact absurd h (by decide)
theorem Dd {x : Int} (h : x ≠ 0) : 0 < J3 x:=by unfold J3;omega
theorem abs_le {x m : Int} (h1 : x ≤ m) (h2 : -m ≤ x) : J3 x ≤ m:=by unfold J3;omega
theorem Qk8 {l : List Lt} {k q : Int} (h : Yh l = q) (hq : q ≠ 0) : Ye l k = q ∧ Yl l k = []:=by
 have h1 : Ye l k = q:=by unfold Ye;rw [h,if_pos hq]
 exact ⟨h1,by unfold Yl;rw [h1,if_pos hq]⟩
theorem Qk9 {l : List Lt} (h : Yh l = 0) : Ye l 0 = 0 ∧ Yl l 0 = []:=by
 have h1 : Ye l 0 = 0:=by unfold Ye;simp [h]
 exact ⟨h1,by unfold Yl;simp [h1]⟩
theorem Qk6 {l : List Lt} {k : Int} {i : Nat} (h : Yh l = 0) (hk : k ≠ 0) (hi : i < l.length) (hb : Ud k (Qz l i) = true) : Ye l k = 6 ∧ Yl l k = []:=by
 have h0 : l.any (Ud k) = true:=List.any_eq_true.2 ⟨Qz l i,by rw [U7 hi];exact List.getElem_mem _,hb⟩;have h1 : Ye l k = 6:=by unfold Ye;rw [if_neg (by simpa using h),if_neg hk,if_pos h0]
 exact ⟨h1,by unfold Yl;simp [h1]⟩
theorem Qk7 {l : List Lt} {k : Int} (h : Yh l = 0) (hk : k ≠ 0) (hb : ∀ i,i < l.length → Ud k (Qz l i) = false) : Ye l k = 0 ∧ Yl l k = l.map (Ko k):=by
 have h0 : l.any (Ud k) = false:=List.any_eq_false.2 fun x hx => by
  obtain ⟨i,hi,rfl⟩:=List.getElem_of_mem hx;have:=hb i hi;rw [U7 hi] at this;simp [this]
 have h1 : Ye l k = 0:=by unfold Ye;rw [if_neg (by simpa using h),if_neg hk,h0];rfl
 exact ⟨h1,by unfold Yl;rw [if_neg (by simpa using h1),if_neg hk]⟩
theorem Qls (l : List Lt) (k : Int) {i : Nat} (hi : i < l.length) : (l.take (i + 1)).map (Ko k) = (l.take i).map (Ko k) ++ [⟨(Qz l i).g,(Qz l i).n * k⟩]:=by
 rw [List.take_add_one,List.map_append,List.getElem?_eq_getElem hi,U7 hi];rfl
theorem scl_bd {k : Int} {x : Lt} (h0 : x.n ≠ 0) (h : Ud k x = false) : J3 k ≤ 1099511627776 / J3 x.n ∧ -1099511627776 ≤ x.n * k ∧ x.n * k ≤ 1099511627776:=by
 have h1 : J3 k ≤ 1099511627776 / J3 x.n:=by unfold Ud at h;simpa using h
 refine ⟨h1,?_⟩;have ha:=Dd h0;have h2 : J3 k * J3 x.n ≤ 1099511627776:=Int.le_trans (Int.mul_le_mul_of_nonneg_right h1 (Int.le_of_lt ha)) (Int.ediv_mul_le _ Qb)
 have h3 : J3 k * J3 x.n = J3 (x.n * k):=by
  unfold J3;rcases Int.le_total 0 k with hk | hk <;> rcases Int.le_total 0 x.n with hx | hx
  ·have:=Int.mul_nonneg hx hk;rw [Int.max_eq_left Qb,Int.max_eq_left Qb,Int.max_eq_left Qb,Int.mul_comm]
  ·have:=Int.mul_nonneg (show 0 ≤ -x.n by omega) hk;rw [Int.neg_mul] at this;rw [Int.max_eq_left Qb,Int.max_eq_right Qb,Int.max_eq_right Qb,Int.mul_neg,Int.mul_comm]
  ·have:=Int.mul_nonneg hx (show 0 ≤ -k by omega);rw [Int.mul_neg] at this;rw [Int.max_eq_right Qb,Int.max_eq_left Qb,Int.max_eq_right Qb,Int.neg_mul,Int.mul_comm]
  ·have:=Int.mul_nonneg (show 0 ≤ -x.n by omega) (show 0 ≤ -k by omega);rw [Int.neg_mul_neg] at this;rw [Int.max_eq_right Qb,Int.max_eq_right Qb,Int.max_eq_left Qb,Int.neg_mul_neg,Int.mul_comm]
 rw [h3] at h2;unfold J3 at h2;omega
def Xc (x : J2) : Int:=if x.k < 0 ∨ 1099511627776 < x.k then 8 else if Yh x.l ≠ 0 then Yh x.l else if x.l.any (fun y => decide (y.n < 0)) then 8 else 0
def Yn : List J2 → Int
 | [] => 0
 | x :: r => if Xc x ≠ 0 then Xc x else Yn r
def Wt (m : Int) : List Lt → List J2 → List Lt × Int
 | s,[] => (s,0)
 | s,x :: r => if Ye x.l (x.k * m) ≠ 0 then ([],Ye x.l (x.k * m)) else if Z4 1 s (Yl x.l (x.k * m)) ≠ 0 then ([],Z4 1 s (Yl x.l (x.k * m))) else Wt m (Yg 1 s (Yl x.l (x.k * m))) r
def Wu (l : List J2) (m : Int) : List Lt × Int:=if 64 < l.length then ([],3) else if Yn l ≠ 0 then ([],Yn l) else if m < 0 ∨ 1200 < m then ([],8) else Wt m [] l
def Xl : J2:=⟨0,[]⟩
theorem Cq (l : List J2) {i : Nat} (hi : i < l.length) : l.drop i = l.getD i Xl :: l.drop (i + 1):=by
 rw [List.drop_eq_getElem_cons hi];simp [List.getD_eq_getElem?_getD,hi]
theorem cls_ok {l : List J2} (h : Yn l = 0) : ∀ i,i < l.length → Xc (l.getD i Xl) = 0:=by
 induction l with
 | nil => intro i hi;simp at hi
 | cons x r ih =>
  intro i hi;unfold Yn at h;by_cases h1 : Xc x ≠ 0
  ·rw [if_pos h1] at h;exact absurd h h1
  ·rw [if_neg h1] at h
   cases i with
   | zero => simpa using h1
   | succ i => simpa using ih h i (by simpa using hi)
theorem cl1_ok {x : J2} (h : Xc x = 0) : (0 ≤ x.k ∧ x.k ≤ 1099511627776) ∧ Yh x.l = 0:=by
 unfold Xc at h
 split at h
 ·exact absurd h (by decide)
 ·split at h
  ·rename_i h2;exact absurd h h2
  ·rename_i h1 h2;exact ⟨by omega,Decidable.not_not.1 h2⟩
theorem Qeq {k m : Int} (h0 : 0 ≤ k) (h1 : k ≤ 1099511627776) (h2 : 0 ≤ m) (h3 : m ≤ 1200) : 0 ≤ k * m ∧ k * m ≤ 1319413953331200:=by
 refine ⟨Int.mul_nonneg h0 h2,?_⟩;have:=Int.mul_le_mul h1 h3 h2 (by decide);omega
theorem Bv {x : J2} (h : x.k < 0 ∨ 1099511627776 < x.k) : Xc x = 8:=by unfold Xc;rw [if_pos h]
theorem Qem {x : J2} {q : Int} (h : ¬ (x.k < 0 ∨ 1099511627776 < x.k)) (hq : Yh x.l = q) (h0 : q ≠ 0) : Xc x = q:=by unfold Xc;rw [if_neg h,hq,if_pos h0]
theorem cl_neg {x : J2} {j : Nat} (h : ¬ (x.k < 0 ∨ 1099511627776 < x.k)) (hq : Yh x.l = 0) (hj : j < x.l.length) (hn : (Qz x.l j).n < 0) : Xc x = 8:=by
 unfold Xc;rw [if_neg h,if_neg (by simpa using hq),if_pos];exact List.any_eq_true.2 ⟨Qz x.l j,by rw [U7 hj];exact List.getElem_mem _,by simpa using hn⟩
theorem Qel {x : J2} (h : ¬ (x.k < 0 ∨ 1099511627776 < x.k)) (hq : Yh x.l = 0) (hj : ∀ j,j < x.l.length → 0 ≤ (Qz x.l j).n) : Xc x = 0:=by
 unfold Xc;rw [if_neg h,if_neg (by simpa using hq),if_neg];intro ha;obtain ⟨y,hy,hn⟩:=List.any_eq_true.1 ha;obtain ⟨i,hi,rfl⟩:=List.getElem_of_mem hy;have:=hj i hi;rw [U7 hi] at this;have hn' : x.l[i].n < 0:=by simpa using hn
 omega
theorem Qep {l : List J2} {i : Nat} (hi : i < l.length) {q : Int} (h : Xc (l.getD i Xl) = q) : Yn (l.drop i) = if q ≠ 0 then q else Yn (l.drop (i + 1)):=by
 rw [Cq l hi]
 show (if _ then _ else _) = _
 rw [h]
theorem Qkp {l : List J2} {m : Int} (h : 64 < l.length) : Wu l m = ([],3):=by unfold Wu;rw [if_pos h]
theorem Qkn {l : List J2} {m q : Int} (h : ¬ 64 < l.length) (hq : Yn l = q) (h0 : q ≠ 0) : Wu l m = ([],q):=by unfold Wu;rw [if_neg h,hq,if_pos h0]
theorem Qkq {l : List J2} {m : Int} (h : ¬ 64 < l.length) (hq : Yn l = 0) (h0 : m < 0 ∨ 1200 < m) : Wu l m = ([],8):=by unfold Wu;rw [if_neg h,if_neg (by simpa using hq),if_pos h0]
theorem Qko {l : List J2} {m : Int} (h : ¬ 64 < l.length) (hq : Yn l = 0) (h0 : ¬ (m < 0 ∨ 1200 < m)) : Wu l m = Wt m [] l:=by unfold Wu;rw [if_neg h,if_neg (by simpa using hq),if_neg h0]
theorem Qkr {l : List J2} {m : Int} {s : List Lt} {i : Nat} (hi : i < l.length) : Wt m s (l.drop i) = if Ye (l.getD i Xl).l ((l.getD i Xl).k * m) ≠ 0 then ([],Ye (l.getD i Xl).l ((l.getD i Xl).k * m)) else if Z4 1 s (Yl (l.getD i Xl).l ((l.getD i Xl).k * m)) ≠ 0 then ([],Z4 1 s (Yl (l.getD i Xl).l ((l.getD i Xl).k * m))) else Wt m (Yg 1 s (Yl (l.getD i Xl).l ((l.getD i Xl).k * m))) (l.drop (i + 1)):=by
 rw [Cq l hi];rfl
end
section
open Go Go.RowKit Go.Shelf
attribute [local go_sem] Zu
theorem Pu (g : Nat → Rt × Int) : ∀ m k s,s.In → (Wx g k m s).1.In
 | 0,_,_,h => h
 | m + 1,k,s,h => by
  rw [Wx]
  split
  ·exact Xg
  ·split
   ·exact Xg
   ·exact Pu g m (k + 1) _ (Kw _ _)
theorem Qjb (t : Nat → Tk) (n : Nat) : (Jb t n).1.In:=by
 unfold Jb
 split
 ·exact Xg
 ·split
  ·exact Pu _ _ _ _ Va
  ·exact Xg
theorem Qdp (c : Qd) (f : Nat → Cw) (n : Nat) : (c.availV f n).1.In:=by
 unfold Qd.availV
 split
 ·exact Xg
 ·split
  ·exact Pu _ _ _ _ Va
  ·exact Xg
theorem Qfr {a b : Rt} (ha : a.nn = true) (hb : b.pos = true) (h : (Ya a b).2 = 0) : (Ya a b).1.nn = true:=by
 obtain ⟨a1,a2⟩:=Kj ha;obtain ⟨b1,b2⟩ : b.ok = true ∧ 0 < b.n:=by simpa [Rt.pos] using hb
 unfold Ya at h ⊢;rw [a1,b1] at h ⊢;simp only [Bool.and_self,if_true] at h ⊢;rw [if_neg Qb] at h ⊢;have hQ : 1 ≤ a.d.natAbs * b.n.natAbs:=Nat.mul_pos (by have:=J7 a1;omega) Qb;rw [zf (show ¬ a.n < 0 by omega),zf (show ¬ b.n < 0 by omega)] at h ⊢;obtain ⟨o1,o2⟩:=Pg hQ h;unfold Rt.nn;rw [show (false != false) = false from rfl] at o1 o2 ⊢;rw [o1,Bool.true_and,decide_eq_true_eq];rw [if_neg zD] at o2;have hd:=(J7 o1).1;rcases Int.lt_or_le (Jk false (a.n.natAbs * b.d.natAbs) (a.d.natAbs * b.n.natAbs)).1.n 0 with h0 | h0
 ·have h3:=Int.mul_neg_of_neg_of_pos h0 (show (0 : Int) < ((a.d.natAbs * b.n.natAbs : Nat) : Int) by omega);have h4:=Int.mul_nonneg (show (0 : Int) ≤ ((a.n.natAbs * b.d.natAbs : Nat) : Int) from Int.natCast_nonneg _) (show 0 ≤ (Jk false (a.n.natAbs * b.d.natAbs) (a.d.natAbs * b.n.natAbs)).1.d by omega);omega
 ·exact h0
theorem Qb3 (g : Nat → Rt × Int) (n : Nat) (hg : ∀ i,i < n → (g i).2 = 0 → (g i).1.nn = true) : ∀ m k s,k + m = n → s.nn = true → (Wx g k m s).2 = 0 → (Wx g k m s).1.nn = true
 | 0,_,_,_,h,_ => h
 | m + 1,k,s,hk,h,h0 => by
  rw [Wx] at h0 ⊢;by_cases e1 : (g k).2 ≠ 0
  ·rw [if_pos e1] at h0;exact absurd h0 e1
  ·rw [if_neg e1] at h0 ⊢;by_cases e2 : (Zo s (g k).1).2 ≠ 0
   ·rw [if_pos e2] at h0;exact absurd h0 e2
   ·rw [if_neg e2] at h0 ⊢;exact Qb3 g n hg m (k + 1) _ Qb (Qcz (Decidable.not_not.1 e2) h (hg k Qb (Decidable.not_not.1 e1))) h0
theorem Qgb (t : Nat → Tk) (n : Nat) : (Jb t n).2 = 0 → (Jb t n).1.nn = true:=fun h => by
 unfold Jb at h ⊢;by_cases h64 : 64 < n
 ·rw [if_pos h64] at h;exact absurd h zD
 ·rw [if_neg h64] at h ⊢;by_cases ha : (List.range n).all (fun i => Kp (t i)) = true
  ·rw [if_pos ha] at h ⊢;refine Qb3 _ n (fun i hi h0 => ?_) n 0 (Jt 0) Qb (I4 Qmt (by rw [Qmv];exact Rat.le_refl)) h;have hok:=List.all_eq_true.1 ha i (by simpa using hi);unfold Kp at hok;obtain ⟨o1,o2⟩:=Bool.and_eq_true_iff.1 hok;exact Qfr o1 o2 h0
  ·rw [if_neg ha] at h;exact absurd h zD
theorem few_bd {c : Qd} {a b : Dt} {s : Rt} {Nn Nd : Int} (hv : c.valid = true) (hsp : (decide (0 < c.numV a) && decide (c.numV a ≤ c.numV b)) = true) (hs : s.shr = true) (h0 : s.n ≠ 0) (hN : (Rt.mk Nn Nd).nn = true) :
  (0 ≤ c.schV a b ∧ c.schV a b ≤ 1000000) ∧ (1 ≤ s.n * (c.schV a b + 1) ∧ s.n * (c.schV a b + 1) ≤ 1048577048576) ∧ 1 ≤ s.n * (c.schV a b + 1) * Nd ∧ s.n * (c.schV a b + 1) * Nd ≤ 1099512727287627776 ∧ 0 ≤ Nn * s.d ∧ Nn * s.d ≤ 1152921504606846976 ∧ True ∧ True:=by
 obtain ⟨h1,h2⟩:=Bool.and_eq_true_iff.1 hsp;have h1:=of_decide_eq_true h1;have h2:=of_decide_eq_true h2;have z1:=sch_bd hv Qb Qb h2;have z2:=Qbn c a b;obtain ⟨N1,N2⟩:=Kj hN;obtain ⟨n1,n2,n3,n4,_⟩:=J7 N1
 simp only at N2 n1 n2 n3 n4
 simp only [Rt.shr,Bool.and_eq_true,decide_eq_true_eq] at hs;obtain ⟨s1,s2,s3,s4,_⟩:=J7 hs.1.1;generalize c.schV a b = z at *;have m1:=Mk (a:=s.n) (b:=z + 1) (A:=1048576) (B:=1000001) Qb Qb Qb Qb;have m2:=Int.mul_pos (show 0 < s.n by omega) (show 0 < z + 1 by omega);have m3:=Mk (a:=s.n * (z + 1)) (b:=Nd) (A:=1048577048576) (B:=1048576) Qb Qb Qb Qb;have m4:=Int.mul_pos m2 (show 0 < Nd by omega);have m5:=Mk (a:=Nn) (b:=s.d) (A:=1099511627776) (B:=1048576) Qb Qb Qb Qb;have m6:=Int.mul_nonneg N2 (show 0 ≤ s.d by omega);exact ⟨⟨z1.1,z2.2⟩,⟨Qb,m1.2⟩,Qb,m3.2,m6,m5.2,trivial,trivial⟩
theorem Qds (A A' : OA) (ca cb : Nat) (c : Qd) (T : OA) (nt capt : Nat) (t : Nat → Tk) (S : OA) (n cap : Nat) (f : Nat → Cw) (w : World) (hC : Q3 w A ca A' cb c) (hint : ∀ i,i < nt → (t i).a.In ∧ (t i).r.In) (hT : Qo w T nt 4 (Y4 t)) (hnt : nt ≤ 9223372036854775807) (hin : ∀ i,i < n → (f i).s.In ∧ -9223372036854775808 ≤ (f i).w ∧ (f i).w ≤ 9223372036854775807) (hS : Qo w S n 11 (Zq f)) (hn : n ≤ 9223372036854775807) (hZ : Zw w) :
  Calls Tryz.prog 40 #[.agg #[.slice A c.nk ca,.slice A' c.ny cb],.slice T nt capt,.slice S n cap] w fun e w' => e = .returned (.tuple #[.agg #[.int .i64 (c.balV t nt f n).1.n,.int .i64 (c.balV t nt f n).1.d],.int .i64 (c.balV t nt f n).2]) ∧ Qc w w':=by
 have NO:=fun w h => Ny A A' ca cb c w h
 have NN:=fun w h z => Iz T nt capt t w hint h hnt z
 have NA:=fun w h1 h2 z => Qdq A A' ca cb c S n cap f w h1 hin h2 hn z
 obtain ⟨R,hR0⟩:=Qf (c.balV t nt f n);rw [← hR0];have HR:=zh hR0;clear hR0
 go_enter Tryz.func40,Tryz.ntmps40
 go_upto_region 1 with fail
 obtain ⟨v,b1,b2,E,B1,B2,hbr1,hbr,hn21,hv,hb1,hb2⟩:=J1 w 25 #[.slice A c.nk ca,.slice A' c.ny cb] 65 #[.int .i64 0,.int .i64 0];rw [← hv,← hb2,← hb1];clear hv hb1 hb2;have RT:=hT.ext E;have RS:=hS.ext E;have Z0:=hZ.ext E;have C:=hC.ext E;clear hT hS hZ;obtain ⟨k0,k1,lk⟩:=Qa.d2 B1;cases hv : c.valid
 ·have hr : R = (Zk, 70) := by rw [HR.out]; unfold Qd.balV; rw [hv]; rfl
  have hc : c.chk = 70:=by unfold Qd.chk;rw [hv];rfl
  simp only [hc] at NO;subst hr;clear HR hc hv NN NA;go_upto_region 2 with (go_at_call 64;refine zc (NO _ (hC.ext E)) ?_;rintro e w1 ⟨rfl,h1⟩)
  obtain ⟨v3,hv⟩:=Qf (w1.alloc (.cells #[.slice A c.nk ca,.slice A' c.ny cb] 130));rw [← hv];have h3 : Qc w1 v3:=by rw [hv];exact (Qc.refl _).alloc _
  have H3 : Qa v3 w1.heap.size 130 #[.slice A c.nk ca,.slice A' c.ny cb]:=by rw [hv];exact Qa.new _ _ _
  clear hv;generalize w1.heap.size = b3 at *;replace E:=(E.trans h1).trans h3;replace B2:=(B2.ext h1).ext h3;obtain ⟨f0,f1,x0,x1,lx⟩:=Qa.e2 B2;have H4:=Qp B2 (.int .i64 0) (.int .i64 0);have EF:=(E.setCell (p:=⟨b2,0,none⟩) hbr (.int .i64 0)).setCell (p:=⟨b2,1,none⟩) hbr (.int .i64 0);obtain ⟨y0,y1⟩:=H4.c2;go_wp2;refine bodyPost_ret (v:=.tuple #[.agg #[.int .i64 0,.int .i64 0],.int .i64 70]) Q8 rfl ⟨rfl,EF⟩
 ·have hc : c.chk = 0 := by unfold Qd.chk; rw [hv]; rfl
  simp only [hc] at NO;have HR2 : Hid (R = if (Jb t nt).2 ≠ 0 then (Zk,(Jb t nt).2) else if (c.availV f n).2 ≠ 0 then (Zk,(c.availV f n).2) else Jd (c.availV f n).1 (Jb t nt).1):=by unfold Hid;rw [HR.out];unfold Qd.balV;rw [hv];rfl
  have hni:=Qjb t nt;have hai:=Qdp c f n;clear HR hc hv;go_upto_region 4 with (go_at_call 64;refine zc (NO _ (hC.ext E)) ?_;rintro e w1 ⟨rfl,h1⟩)
  obtain ⟨v3,hv⟩:=Qf (w1.alloc (.cells #[.slice A c.nk ca,.slice A' c.ny cb] 130));rw [← hv];have h3 : Qc w1 v3:=by rw [hv];exact (Qc.refl _).alloc _
  have H3 : Qa v3 w1.heap.size 130 #[.slice A c.nk ca,.slice A' c.ny cb]:=by rw [hv];exact Qa.new _ _ _
  clear hv;generalize w1.heap.size = b3 at *;replace E:=(E.trans h1).trans h3;replace B2:=(B2.ext h1).ext h3;replace RT:=(RT.ext h1).ext h3;replace RS:=(RS.ext h1).ext h3;replace Z0:=(Z0.ext h1).ext h3;replace C:=(C.ext h1).ext h3;clear h1 h3 k0 k1 lk B1 NO;generalize Jb t nt = N at *;obtain ⟨⟨Nn,Nd⟩,Ne⟩:=N;simp only [] at HR2 NN hni;go_upto_region 5 with (go_at_call 87;refine zc (NN _ RT Z0) ?_;rintro e w4 ⟨rfl,h4⟩)
  obtain ⟨v4,hv⟩:=Qf (w4.alloc (.cells #[.int .i64 Nn,.int .i64 Nd] 65));rw [← hv];have h5 : Qc w4 v4:=by rw [hv];exact (Qc.refl _).alloc _
  have H4 : Qa v4 w4.heap.size 65 #[.int .i64 Nn,.int .i64 Nd]:=by rw [hv];exact Qa.new _ _ _
  clear hv;generalize w4.heap.size = b4 at *;replace E:=(E.trans h4).trans h5;replace B2:=(B2.ext h4).ext h5;replace H3:=(H3.ext h4).ext h5;replace RS:=(RS.ext h4).ext h5;replace Z0:=(Z0.ext h4).ext h5;replace C:=(C.ext h4).ext h5;clear h4 h5 NN RT;by_cases e0 : Ne = 0;rotate_left
  ·have g0 : (Ne == 0) = false := zb e0;have g0n : (Ne != 0) = true := by rw [bne, g0]; rfl
   have hr:=HR2.out;rw [if_pos e0] at hr;subst hr;clear HR2 e0 NA;obtain ⟨f0,f1,x0,x1,lx⟩:=Qa.e2 B2;have H9:=Qp B2 (.int .i64 0) (.int .i64 0);have EF:=(E.setCell (p:=⟨b2,0,none⟩) hbr (.int .i64 0)).setCell (p:=⟨b2,1,none⟩) hbr (.int .i64 0);obtain ⟨y0,y1⟩:=H9.c2;go_wp2;refine bodyPost_ret (v:=.tuple #[.agg #[.int .i64 0,.int .i64 0],.int .i64 Ne]) Q8 rfl ⟨rfl,EF⟩
  subst e0;obtain ⟨k0,k1,lk⟩:=Qa.d2 H3;generalize c.availV f n = M at *;obtain ⟨⟨Mn,Md⟩,Me⟩:=M;simp only [] at HR2 NA hai;go_upto_region 8 with (go_at_call 88;refine zc (NA _ C RS Z0) ?_;rintro e w6 ⟨rfl,h6⟩)
  obtain ⟨v6,hv⟩:=Qf (w6.alloc (.cells #[.int .i64 Mn,.int .i64 Md] 65));rw [← hv];have h7 : Qc w6 v6:=by rw [hv];exact (Qc.refl _).alloc _
  have H6 : Qa v6 w6.heap.size 65 #[.int .i64 Mn,.int .i64 Md]:=by rw [hv];exact Qa.new _ _ _
  clear hv;generalize w6.heap.size = b6 at *;replace E:=(E.trans h6).trans h7;replace B2:=(B2.ext h6).ext h7;replace H4:=(H4.ext h6).ext h7;replace Z0:=(Z0.ext h6).ext h7;clear h6 h7 NA RS C k0 k1 lk H3;by_cases e0 : Me = 0;rotate_left
  ·have g0 : (Me == 0) = false := zb e0;have g0n : (Me != 0) = true := by rw [bne, g0]; rfl
   have hr:=HR2.out;rw [if_neg (by simp),if_pos e0] at hr;subst hr;clear HR2 e0;obtain ⟨f0,f1,x0,x1,lx⟩:=Qa.e2 B2;have H9:=Qp B2 (.int .i64 0) (.int .i64 0);have EF:=(E.setCell (p:=⟨b2,0,none⟩) hbr (.int .i64 0)).setCell (p:=⟨b2,1,none⟩) hbr (.int .i64 0);obtain ⟨y0,y1⟩:=H9.c2;go_wp2;refine bodyPost_ret (v:=.tuple #[.agg #[.int .i64 0,.int .i64 0],.int .i64 Me]) Q8 rfl ⟨rfl,EF⟩
  subst e0;have NS:=fun w z => Ov ⟨Mn,Md⟩ ⟨Nn,Nd⟩ hai hni w z
  have hr:=HR2.out;rw [if_neg (by simp),if_neg (by simp)] at hr;rw [← hr] at NS;clear HR2 hr;obtain ⟨⟨Rn,Rd⟩,Re⟩:=R;obtain ⟨k0,k1,lk⟩:=Qa.d2 H4;obtain ⟨p0,p1,lp⟩:=Qa.d2 H6;go_wp2_with (first | (go_at_call 89;refine zc (NS _ Z0) ?_;rintro e wt ⟨rfl,ht⟩;replace E:=E.trans ht;replace B2:=B2.ext ht;have f0:=B2.frozen 0;have f1:=B2.frozen 1;obtain ⟨x0,x1⟩:=B2.c2;have lx:=B2.lt));have H9:=Qp B2 (.int .i64 Rn) (.int .i64 Rd);have EF:=(E.setCell (p:=⟨b2,0,none⟩) hbr (.int .i64 Rn)).setCell (p:=⟨b2,1,none⟩) hbr (.int .i64 Rd);obtain ⟨y0,y1⟩:=H9.c2;go_wp2;refine bodyPost_ret (v:=.tuple #[.agg #[.int .i64 Rn,.int .i64 Rd],.int .i64 Re]) Q8 rfl ⟨rfl,EF⟩
theorem Qgc (A A' : OA) (ca cb : Nat) (c : Qd) (T : OA) (nt capt : Nat) (t : Nat → Tk) (s : Rt) (hs : s.In) (d d2 : Dt) (w : World) (hC : Q3 w A ca A' cb c) (hint : ∀ i,i < nt → (t i).a.In ∧ (t i).r.In) (hT : Qo w T nt 4 (Y4 t)) (hnt : nt ≤ 9223372036854775807) (hZ : Zw w) :
  Calls Tryz.prog 41 #[.agg #[.slice A c.nk ca,.slice A' c.ny cb],.slice T nt capt,.agg #[.int .i64 s.n,.int .i64 s.d],.agg #[.int .i64 d.y,.int .i64 d.m,.bool d.s,.int .i64 d.d],.agg #[.int .i64 d2.y,.int .i64 d2.m,.bool d2.s,.int .i64 d2.d]] w fun e w' => e = .returned (.tuple #[.int .i64 (c.fewV t nt s d d2).1,.int .i64 (c.fewV t nt s d d2).2]) ∧ Qc w w':=by
 have NO:=fun w h => Ny A A' ca cb c w h
 have NN:=fun w h z => Iz T nt capt t w hint h hnt z
 have NS:=fun w => Ou s hs w
 have NSP:=fun w h => Pr A A' ca cb c d d2 w h
 have NB:=fun w h => O9 A A' ca cb c d d2 w h
 obtain ⟨R,hR0⟩:=Qf (c.fewV t nt s d d2);rw [← hR0];have HR:=zh hR0;clear hR0
 go_enter Tryz.func41,Tryz.ntmps41
 go_upto_region 1 with fail
 obtain ⟨v,b1,b2,b3,b4,E,B1,B2,B3,B4,hbr1,hbr2,hbr3,hbr,hn21,hn31,hn32,hn41,hn42,hn43,hv,hb1,hb2,hb3,hb4⟩:=Mz w 25 #[.slice A c.nk ca,.slice A' c.ny cb] 65 #[.int .i64 s.n,.int .i64 s.d] 51 #[.int .i64 d.y,.int .i64 d.m,.bool d.s,.int .i64 d.d] 51 #[.int .i64 d2.y,.int .i64 d2.m,.bool d2.s,.int .i64 d2.d];rw [← hv,← hb4,← hb3,← hb2,← hb1];clear hv hb1 hb2 hb3 hb4;have RT:=hT.ext E;have Z0:=hZ.ext E;have C:=hC.ext E;clear hT hZ;obtain ⟨k0,k1,lk⟩:=Qa.d2 B1;cases hv : c.valid
 ·have hr : R = (0, 70) := by rw [HR.out]; unfold Qd.fewV; rw [hv]; rfl
  have hc : c.chk = 70:=by unfold Qd.chk;rw [hv];rfl
  simp only [hc] at NO;subst hr;clear HR hc hv NN;go_wp2_with (go_at_call 64;refine zc (NO _ (hC.ext E)) ?_;rintro e w1 ⟨rfl,h1⟩);go_ret2;exact ⟨rfl,(E.trans h1).alloc _⟩
 ·have hc : c.chk = 0 := by unfold Qd.chk; rw [hv]; rfl
  simp only [hc] at NO;have HR2 : Hid (R = if (Jb t nt).2 ≠ 0 then (0,(Jb t nt).2) else if s.shr && decide (s.n ≠ 0) && (decide (0 < c.numV d) && decide (c.numV d ≤ c.numV d2)) then (if 4096 < c.fewN t nt s d d2 then (0,8) else (c.fewN t nt s d d2,0)) else (0,81)):=by unfold Hid;rw [HR.out];unfold Qd.fewV;rw [hv];rfl
  have hni:=Qgb t nt;clear HR hc;go_upto_region 4 with (go_at_call 64;refine zc (NO _ (hC.ext E)) ?_;rintro e w1 ⟨rfl,h1⟩)
  obtain ⟨v3,hv⟩:=Qf (w1.alloc (.cells #[.slice A c.nk ca,.slice A' c.ny cb] 130));rw [← hv];have h3 : Qc w1 v3:=by rw [hv];exact (Qc.refl _).alloc _
  have H3 : Qa v3 w1.heap.size 130 #[.slice A c.nk ca,.slice A' c.ny cb]:=by rw [hv];exact Qa.new _ _ _
  clear hv;generalize w1.heap.size = b3' at *;replace E:=(E.trans h1).trans h3;replace B2:=(B2.ext h1).ext h3;replace B3:=(B3.ext h1).ext h3;replace B4:=(B4.ext h1).ext h3;replace RT:=(RT.ext h1).ext h3;replace Z0:=(Z0.ext h1).ext h3;replace C:=(C.ext h1).ext h3;clear h1 h3 k0 k1 lk B1 NO;have hfn : Hid (c.fewN t nt s d d2 = ((Jb t nt).1.n * s.d + s.n * (c.schV d d2 + 1) * (Jb t nt).1.d - 1) / (s.n * (c.schV d d2 + 1) * (Jb t nt).1.d)):=rfl;generalize c.fewN t nt s d d2 = q at *;generalize Jb t nt = N at *;obtain ⟨⟨Nn,Nd⟩,Ne⟩:=N;simp only [] at HR2 NN hni hfn;go_upto_region 5 with (go_at_call 87;refine zc (NN _ RT Z0) ?_;rintro e w4 ⟨rfl,h4⟩)
  obtain ⟨v4,hv⟩:=Qf (w4.alloc (.cells #[.int .i64 Nn,.int .i64 Nd] 65));rw [← hv];have h5 : Qc w4 v4:=by rw [hv];exact (Qc.refl _).alloc _
  have H4 : Qa v4 w4.heap.size 65 #[.int .i64 Nn,.int .i64 Nd]:=by rw [hv];exact Qa.new _ _ _
  clear hv;generalize w4.heap.size = b4' at *;replace E:=(E.trans h4).trans h5;replace B2:=(B2.ext h4).ext h5;replace B3:=(B3.ext h4).ext h5;replace B4:=(B4.ext h4).ext h5;replace H3:=(H3.ext h4).ext h5;replace C:=(C.ext h4).ext h5;clear h4 h5 NN RT Z0;by_cases e0 : Ne = 0;rotate_left
  ·have g0 : (Ne == 0) = false := zb e0;have g0n : (Ne != 0) = true := by rw [bne, g0]; rfl
   have hr:=HR2.out;rw [if_pos e0] at hr;subst hr;clear HR2 e0;go_wp2;go_ret2;exact ⟨rfl,E⟩
  subst e0;have HR3 : Hid (R = if s.shr && decide (s.n ≠ 0) && (decide (0 < c.numV d) && decide (c.numV d ≤ c.numV d2)) then (if 4096 < q then (0,8) else (q,0)) else (0,81)):=by unfold Hid;rw [HR2.out,if_neg (by simp)]
  clear HR2;obtain ⟨k0,k1,lk⟩:=Qa.d2 H3;obtain ⟨s0,s1,ls⟩:=Qa.d2 B2;obtain ⟨d0,d1,d2',d3,ld⟩:=Qa.d4 B3;obtain ⟨u0,u1,u2,u3,lu⟩:=Qa.d4 B4;cases g1 : s.shr
  ·have hr:=HR3.out;rw [g1,Bool.false_and,Bool.false_and,if_neg zD] at hr;simp only [g1] at NS;subst hr;clear HR3 g1;go_wp2_with (go_at_call 90;refine zc (NS _) ?_;rintro e w5 ⟨rfl,h5⟩;clear k0 k1 lk d0 d1 d2' d3 ld u0 u1 u2 u3 lu s0 s1 ls;obtain ⟨k0,k1⟩:=(H3.ext h5).c2;have lk:=(H3.ext h5).lt;obtain ⟨s0,s1⟩:=(B2.ext h5).c2;have ls:=(B2.ext h5).lt;obtain ⟨d0,d1,d2',d3⟩:=(B3.ext h5).c4;have ld:=(B3.ext h5).lt;obtain ⟨u0,u1,u2,u3⟩:=(B4.ext h5).c4;have lu:=(B4.ext h5).lt);go_ret2;exact ⟨rfl,E.trans h5⟩
  ·simp only [g1] at NS;by_cases g2 : s.n = 0
   ·have hr := HR3.out;rw [g1, zf (fun h => h g2), Bool.and_false, Bool.false_and, if_neg zD] at hr;subst hr;have g2b : (s.n == 0) = true := by rw [g2]; rfl
    clear HR3 g1 g2;go_wp2_with (go_at_call 90;refine zc (NS _) ?_;rintro e w5 ⟨rfl,h5⟩;clear k0 k1 lk d0 d1 d2' d3 ld u0 u1 u2 u3 lu s0 s1 ls;obtain ⟨k0,k1⟩:=(H3.ext h5).c2;have lk:=(H3.ext h5).lt;obtain ⟨s0,s1⟩:=(B2.ext h5).c2;have ls:=(B2.ext h5).lt;obtain ⟨d0,d1,d2',d3⟩:=(B3.ext h5).c4;have ld:=(B3.ext h5).lt;obtain ⟨u0,u1,u2,u3⟩:=(B4.ext h5).c4;have lu:=(B4.ext h5).lt);go_ret2;exact ⟨rfl,E.trans h5⟩
   ·have g2b : (s.n == 0) = false:=zb g2;cases hsp : (decide (0 < c.numV d) && decide (c.numV d ≤ c.numV d2))
    ·have hr:=HR3.out;rw [hsp,Bool.and_false,if_neg zD] at hr;simp only [hsp] at NSP;subst hr;clear HR3 g1 g2 hsp;go_wp2_with (first | (go_at_call 90;refine zc (NS _) ?_;rintro e w5 ⟨rfl,h5⟩;clear k0 k1 lk d0 d1 d2' d3 ld u0 u1 u2 u3 lu s0 s1 ls;obtain ⟨k0,k1⟩:=(H3.ext h5).c2;have lk:=(H3.ext h5).lt;obtain ⟨s0,s1⟩:=(B2.ext h5).c2;have ls:=(B2.ext h5).lt;obtain ⟨d0,d1,d2',d3⟩:=(B3.ext h5).c4;have ld:=(B3.ext h5).lt;obtain ⟨u0,u1,u2,u3⟩:=(B4.ext h5).c4;have lu:=(B4.ext h5).lt) | (go_at_call 91;refine zc (NSP _ (C.ext h5)) ?_;rintro e w6 ⟨rfl,h6⟩));go_ret2;exact ⟨rfl,(E.trans h5).trans h6⟩
    ·have hr:=HR3.out;rw [hsp,g1,zt g2,Bool.and_true,Bool.and_true,if_pos rfl] at hr;have hbd:=few_bd hv hsp g1 g2 (hni rfl);simp only [hsp] at NSP;clear HR3 hsp g1 hv;replace hr:=zh hr;generalize c.schV d d2 = z at *;obtain ⟨x1,x2,x3,x4,x5,x6,x7,x8⟩:=hbd;have v1 : IntKind.i64.wrap (z + 1) = z + 1:=Zr Qb Qb;have v2 : IntKind.i64.wrap (s.n * (z + 1)) = s.n * (z + 1):=Zr Qb Qb;have v3' : IntKind.i64.wrap (s.n * (z + 1) * Nd) = s.n * (z + 1) * Nd:=Zr Qb Qb;have v4' : IntKind.i64.wrap (Nn * s.d) = Nn * s.d:=Zr Qb Qb;have v5 : IntKind.i64.wrap (Nn * s.d + s.n * (z + 1) * Nd) = Nn * s.d + s.n * (z + 1) * Nd:=Zr Qb Qb;have v6 : IntKind.i64.wrap (Nn * s.d + s.n * (z + 1) * Nd - 1) = Nn * s.d + s.n * (z + 1) * Nd - 1:=Zr Qb Qb
     have v7 : IntKind.i64.wrap ((Nn * s.d + s.n * (z + 1) * Nd - 1).tdiv (s.n * (z + 1) * Nd)) = q:=by
      rw [Int.tdiv_eq_ediv_of_nonneg Qb,← hfn.out];have h1 : 0 ≤ q:=by rw [hfn.out];exact Int.ediv_nonneg Qb Qb
      have h2 : q ≤ Nn * s.d + s.n * (z + 1) * Nd - 1:=by rw [hfn.out];exact Int.ediv_le_self _ Qb
      exact Zr Qb Qb
     have v8 : (s.n * (z + 1) * Nd == 0) = false:=zb Qb;have v9 : s.n * (z + 1) * Nd ≠ 0:=Qb;clear x1 x2 x3 x4 x5 x6 x7 x8 hfn hni g2;go_upto_region 9 with (first | (go_at_call 90;refine zc (NS _) ?_;rintro e w5 ⟨rfl,h5⟩;clear k0 k1 lk d0 d1 d2' d3 ld u0 u1 u2 u3 lu s0 s1 ls;obtain ⟨k0,k1⟩:=(H3.ext h5).c2;have lk:=(H3.ext h5).lt;obtain ⟨s0,s1⟩:=(B2.ext h5).c2;have ls:=(B2.ext h5).lt;obtain ⟨d0,d1,d2',d3⟩:=(B3.ext h5).c4;have ld:=(B3.ext h5).lt;obtain ⟨u0,u1,u2,u3⟩:=(B4.ext h5).c4;have lu:=(B4.ext h5).lt) | (go_at_call 91;refine zc (NSP _ (C.ext h5)) ?_;rintro e w6 ⟨rfl,h6⟩))
     replace E:=(E.trans h5).trans h6;replace C:=(C.ext h5).ext h6;replace B2:=(B2.ext h5).ext h6;replace B3:=(B3.ext h5).ext h6;replace B4:=(B4.ext h5).ext h6;replace H3:=(H3.ext h5).ext h6;replace H4:=(H4.ext h5).ext h6;clear h5 h6 k0 k1 lk s0 s1 ls d0 d1 d2' d3 ld u0 u1 u2 u3 lu NS NSP;obtain ⟨k0,k1,lk⟩:=Qa.d2 H3;obtain ⟨s0,s1,ls⟩:=Qa.d2 B2;obtain ⟨d0,d1,d2',d3,ld⟩:=Qa.d4 B3;obtain ⟨u0,u1,u2,u3,lu⟩:=Qa.d4 B4;obtain ⟨t0,t1,lt⟩:=Qa.d2 H4;have n1:=fun u : XW _ => NB _ (C.ext u.e)
     refine Zj w6 ?_;intro w7 h7;clear n1;obtain ⟨_,_,_,_⟩:=Zi w6 h7;by_cases c1 : 4096 < q
     ·have gg : decide (4096 < q) = true:=zt c1;have hr':=hr.out;rw [if_pos c1] at hr';subst hr';clear hr c1;go_wp2;go_ret2;exact ⟨rfl,E.trans h7⟩
     ·have gg : decide (4096 < q) = false:=zf c1;have hr':=hr.out;rw [if_neg c1] at hr';subst hr';clear hr c1;go_wp2;go_ret2;exact ⟨rfl,E.trans h7⟩
end
section
structure Yz where
 e : Int
 r : Int
 l : Int
 deriving DecidableEq
def Mc : Yz:=⟨0,0,0⟩
def nOk (n : Int) : Bool:=decide (0 ≤ n) && decide (n ≤ 1048576)
def Yz.ok (h : Yz) : Bool:=nOk h.e && nOk h.r && nOk h.l
def Zm (n : Int) (d : Rt) : Int:=n - d.n * n / d.d
def L3 (b d : Rt) (h : Yz) : Yz:=⟨Zm h.e d + (Zm h.l d + 1) / 2,Zm h.r d + Zm h.l d / 2,b.n * Zm h.e d / b.d⟩
def Lz (b d : Rt) : Nat → Yz → Yz × Int
 | 0,h => (h,0)
 | m + 1,h => if (L3 b d h).ok then Lz b d m (L3 b d h) else (Mc,6)
def U3 (h : Yz) (b d : Rt) (y : Int) : Yz × Int:=if h.ok then (if b.shr && d.shr then (if y < 0 ∨ 40 < y then (Mc,8) else Lz b d y.toNat h) else (Mc,2)) else (Mc,82)
theorem St {n : Int} : nOk n = true ↔ 0 ≤ n ∧ n ≤ 1048576:=by simp [nOk]
theorem Pp {r : Rt} (h : r.shr = true) : 0 ≤ r.n ∧ r.n ≤ r.d ∧ 1 ≤ r.d ∧ r.d ≤ 1048576:=by
 simp only [Rt.shr,Bool.and_eq_true,decide_eq_true_eq] at h;have:=J7 h.1.1;omega
theorem Oa {n : Int} {r : Rt} (h : r.shr = true) (h1 : 0 ≤ n) (h2 : n ≤ 1048576) : 0 ≤ r.n * n ∧ r.n * n ≤ 1099511627776 ∧ 0 ≤ r.n * n / r.d ∧ r.n * n / r.d ≤ n:=by
 obtain ⟨r1,r2,r3,r4⟩:=Pp h;have m0:=Int.mul_nonneg r1 h1;have m1:=Mk (a:=r.n) (b:=n) (A:=1048576) (B:=1048576) Qb Qb h1 h2;refine ⟨m0,by omega,Int.ediv_nonneg m0 Qb,Int.ediv_le_of_le_mul Qb ?_⟩;rw [Int.mul_comm n];exact Int.mul_le_mul_of_nonneg_right r2 h1
theorem Th {n : Int} {d : Rt} (h : d.shr = true) (h1 : 0 ≤ n) (h2 : n ≤ 1048576) : 0 ≤ Zm n d ∧ Zm n d ≤ 1048576:=by
 have:=Oa h h1 h2;unfold Zm;omega
def sA : ByteArray:=⟨#[97]⟩
def sB : ByteArray:=⟨#[98]⟩
def sC : ByteArray:=⟨#[99]⟩
def sU8 : ByteArray:=⟨#[117,114]⟩
def Yd : ByteArray:=⟨#[98,97,114,108,101,121]⟩
def yr8 : Nat → Yr
 | 0 => ⟨0,sA,4095,0⟩
 | 1 => ⟨0,sB,4095,0⟩
 | _ => ⟨0,sC,4095,0⟩
def Zv : Qd:=⟨1,fun _ => sU8,3,yr8⟩
def l8 : Ln:=⟨⟨60,1⟩,⟨1,5⟩,⟨0,1,false,1⟩⟩
def p8 : Nat → Jv:=fun _ => ⟨⟨0,7,false,1⟩,⟨10,1⟩⟩
def d8 : Dt:=⟨1,7,false,1⟩
def t8 : Nat → Tk
 | 0 => ⟨⟨10,1⟩,⟨1,3⟩⟩
 | _ => ⟨⟨5,1⟩,⟨1,1⟩⟩
def f8 : Dt:=⟨0,1,false,1⟩
def u8' : Dt:=⟨0,1,false,30⟩
def w8 : Nat → Cw:=fun _ => ⟨2,⟨1,2⟩,f8,u8'⟩
def h8 : Yz:=⟨10,2,5⟩
def pd8 : Pd:=⟨sA,f8,u8',[⟨Yd,10⟩],[⟨⟨0,1,false,2⟩,true,sB,[⟨Yd,5⟩]⟩,⟨⟨0,1,false,2⟩,false,sB,[⟨Yd,20⟩]⟩],[]⟩
theorem e8_int : Js ⟨60,1⟩ ⟨1,5⟩ 180 = (⟨6,1⟩,0):=by kernel_rfl
theorem e8_dbl : Ws ⟨1,3⟩ = (1080,0):=by kernel_rfl
theorem Qfw : Zv.owedV l8 p8 1 d8 = (⟨⟨56,1⟩,⟨56,5⟩,⟨0,1⟩⟩,0):=by kernel_rfl
theorem Qfx : Zv.settleV l8 p8 1 d8 = (⟨336,5⟩,0):=by kernel_rfl
theorem e8_bal : Zv.balV t8 2 w8 1 = (⟨-5,1⟩,0):=by kernel_rfl
theorem e8_few : Zv.fewV t8 2 ⟨1,2⟩ f8 u8' = (3,0):=by kernel_rfl
theorem Qfv : U3 h8 ⟨4,5⟩ ⟨1,10⟩ 1 = (⟨12,4,7⟩,0):=by kernel_rfl
theorem Qfu : Zv.closeV pd8 = ([⟨Yd,-5⟩],0):=by kernel_rfl
def Mv : ByteArray:=⟨#[111,105,108]⟩
def Yp (m d : Int) : Dt:=⟨0,m,false,d⟩
def pp8 : Nat → Jv
 | 0 => ⟨⟨0,7,false,1⟩,⟨10,1⟩⟩
 | _ => ⟨⟨1,7,false,1⟩,⟨100,1⟩⟩
def Lx : Pd:=⟨sA,Yp 1 1,Yp 1 30,[],[],[]⟩
def Ho : Pd:=⟨sA,Yp 2 2,Yp 2 30,[],[],[]⟩
def bad8 : Pd:=⟨sA,Yp 1 2,Yp 1 1,[],[],[]⟩
def Ul : Pd:=⟨sA,Yp 1 1,Yp 1 30,[],[⟨Yp 1 1,false,sB,[⟨Yd,1⟩]⟩,⟨Yp 1 2,false,sB,[⟨Yd,1⟩]⟩],[]⟩
def Ow : Pd:=⟨sB,Yp 1 1,Yp 1 30,[],[⟨Yp 1 3,true,sA,[⟨Yd,1⟩]⟩,⟨Yp 1 4,true,sA,[⟨Yd,1⟩]⟩],[]⟩
def La : Pd:=⟨sB,Yp 1 1,Yp 1 30,[],[⟨Yp 1 3,true,sA,[⟨Yd,1⟩]⟩],[]⟩
def cls8 : List J2:=[⟨5,[⟨Yd,60⟩]⟩,⟨3,[⟨Yd,30⟩,⟨Mv,1⟩]⟩]
def clb8 : List J2:=[⟨1099511627776,[⟨Mv,1⟩]⟩]
theorem k8_o1 : Zv.owedV l8 p8 1 (Yp 7 1) = (⟨⟨56,1⟩,⟨0,1⟩,⟨0,1⟩⟩,0):=by kernel_rfl
theorem k8_o2 : Zv.owedV l8 pp8 2 d8 = (⟨⟨0,1⟩,⟨0,1⟩,⟨164,5⟩⟩,0):=by kernel_rfl
theorem k8_d : Ws ⟨7,1⟩ = (52,0):=by kernel_rfl
theorem k8_r1 : Wu cls8 2 = ([⟨Yd,780⟩,⟨Mv,6⟩],0):=by kernel_rfl
theorem k8_r2 : Wu clb8 2 = ([],6):=by kernel_rfl
theorem k8_i1 : Js ⟨1,1⟩ ⟨-1,2⟩ 1 = (Zk,2):=by kernel_rfl
theorem k8_i2 : Js ⟨1,1⟩ ⟨1,2⟩ (-1) = (Zk,8):=by kernel_rfl
theorem k8_j : Zv.joinE Lx Ho = 84:=by kernel_rfl
theorem k8_c : Zv.carryV [Lx,Ho] = ([],84):=by kernel_rfl
theorem k8_v : Zv.divE Lx (Yp 1 30) = 8:=by kernel_rfl
theorem k8_p : Zv.perE bad8 = 83:=by kernel_rfl
theorem k8_m1 : Zv.matchV [Ul,La] 2 = ([((0,0),(1,0))],0):=by kernel_rfl
theorem k8_m2 : Zv.matchV [Ul,Ow] 2 = ([((0,0),(1,0)),((0,1),(1,1))],0):=by kernel_rfl
theorem k8_a : Zv.auditV [Ul,La] 2 = ([(1,0,0),(4,0,1),(1,1,0)],0):=by kernel_rfl
end
end Go.Proofs.YtoflcheopfppoaaGreatDoor
