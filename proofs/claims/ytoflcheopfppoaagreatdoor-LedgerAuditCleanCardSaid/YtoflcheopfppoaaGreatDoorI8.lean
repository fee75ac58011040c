/- Walks of the program's functions and plain facts, packed; proved: the lemmas below; no conditions but those that each states. -/
import Derived.Test.YtoflcheopfppoaaGreatDoorI7
import Derived.Test.YtoflcheopfppoaaGreatDoorI1
import Derived.Lib.Strings
import Derived.Test.YtoflcheopfppoaaGreatDoorI5
import Derived.Test.YtoflcheopfppoaaGreatDoorI4
import Derived.Test.YtoflcheopfppoaaGreatDoorI3
import Derived.Test.YtoflcheopfppoaaGreatDoorI2
import Derived.Test.YtoflcheopfppoaaGreatDoorI6
import Derived.Laws.StructEq
import Derived.SizedLaws
set_option maxRecDepth 100000
set_option maxHeartbeats 4000000
namespace Go.Proofs.YtoflcheopfppoaaGreatDoor
section
open Go Go.RowKit Go.Shelf
attribute [local go_sem] Zx
theorem En (l : List Lt) : l.flatMap Jw = Q0 (Zw (Zb l)) l.length:=by
 conv => lhs;rw [← Mv l]
 unfold Jr Q0;rw [List.flatMap_map];rfl
theorem Wz {w : World} {base k : Nat} {v : Value} {l : List Lt} (h : w.ownsRow base 85 2 v k (l.flatMap Jw)) : Zq w v l:=by
 have hk:=h.1;rw [G9] at hk;obtain rfl : k = l.length:=by omega
 rw [En] at h;obtain ⟨F,c,h1,h2,h3,h4,h5,_⟩:=Ue (f:=Zw (Zb l)) (fun _ => rfl) h;exact ⟨F,c,h1,h2,h3,h4,h5⟩
theorem Mu (w : World) : Zq w (.slice none 0 0) []:=⟨none,0,rfl,Qs.nil,Nat.le_refl _,Nat.zero_le _,fun _ => ⟨rfl,rfl⟩⟩
def Qh : Pd:=⟨⟨#[]⟩,⟨0,0,false,0⟩,⟨0,0,false,0⟩,[],[],[]⟩
def Qq (p : Pd) (vo vd vc : Value) : List Value:=[.string p.h,.int .i64 p.a.y,.int .i64 p.a.m,.bool p.a.s,.int .i64 p.a.d,.int .i64 p.b.y,.int .i64 p.b.m,.bool p.b.s,.int .i64 p.b.d,vo,vd,vc]
/-- A slice value that reads as a list of periods. -/
def Js (w : World) (v : Value) (l : List Pd) : Prop:=∃ D cap,∃ vo vd vc : Nat → Value,v = .slice D l.length cap ∧ Qs w D l.length 12 (fun i => Qq (l.getD i Qh) (vo i) (vd i) (vc i)) ∧ l.length ≤ cap ∧ cap ≤ maxLen ∧ (D = none → l.length = 0 ∧ cap = 0) ∧ ∀ i,i < l.length → Xo w (l.getD i Qh) (vo i) (vd i) (vc i)
theorem Js.ext {w w' : World} {v : Value} {l : List Pd} (h : Js w v l) (e : Qb w w') : Js w' v l:=by
 obtain ⟨D,cap,vo,vd,vc,h1,h2,h3,h4,h5,h6⟩:=h;exact ⟨D,cap,vo,vd,vc,h1,h2.ext e,h3,h4,h5,fun i hi => (h6 i hi).ext e⟩
theorem Qlw {c : Qd} {p : Pd} (h : c.perE p = 0) : p.o.length ≤ 64:=by
 unfold Qd.perE at h;cases hv : c.valid
 ·rw [hv,if_neg (by simp)] at h;exact absurd h (by decide)
 ·rw [hv,if_pos rfl] at h;cases ho : c.perOk p
  ·rw [ho,if_neg (by simp)] at h;exact absurd h (by decide)
  ·unfold Qd.perOk Qd.perHead at ho;simp only [Bool.and_eq_true,decide_eq_true_eq] at ho;exact (Pk ho.1.1.1.2).1
def Qd.persE (c : Qd) (l : List Pd) : Int:=if l.all c.perOk then 0 else 83
def Qd.validE (c : Qd) (l : List Pd) : Int:=if c.chk ≠ 0 then c.chk else c.persE l
theorem Qnn (c : Qd) (p : Pd) : c.validE [p] = c.perE p:=by
 unfold Qd.validE Qd.perE Qd.chk Qd.persE;cases c.valid <;> simp
theorem Qek {l : List Pd} {P : Pd → Bool} {k : Nat} (hk : k < l.length) (h : P (l.getD k Qh) = false) : l.all P = false :=
 List.all_eq_false.2 ⟨l[k],List.getElem_mem hk,by simpa [List.getD_eq_getElem?_getD,hk] using h⟩
theorem Qel {l : List Pd} {P : Pd → Bool} (h : ∀ k,k < l.length → P (l.getD k Qh) = true) : l.all P = true :=
 List.all_eq_true.2 fun x hx => by
  obtain ⟨k,hk,rfl⟩:=List.mem_iff_getElem.1 hx
  simpa [List.getD_eq_getElem?_getD,hk] using h k hk
theorem Qlz {w : World} {b : Nat} {t : TypeId} {p : Pd} {vo vd vc : Value} (h : Qc w b t (Qq p vo vd vc).toArray) (hP : Xo w p vo vd vc) : Js w (.slice (some ⟨b,0,none⟩) 1 1) [p] :=
 ⟨some ⟨b,0,none⟩,1,fun _ => vo,fun _ => vd,fun _ => vc,rfl,L3 (f:=fun _ => Qq p vo vd vc) (n:=1) (fun _ => rfl) (by simpa [Q0] using h) |>.congr (fun i hi => by obtain rfl : i = 0:=(by simp at hi;omega);rfl),Nat.le_refl _,by decide,fun h => (by cases h),fun i hi => by obtain rfl : i = 0:=(by simp at hi;omega);exact hP⟩
theorem Ob (v : Value) (l : List Lt) (w : World) (hL : Zq w v l) (hn : l.length ≤ 1000000) :
  Calls Tryz.prog 59 #[v] w fun e w' => ∃ v',e = .returned v' ∧ Qb w w' ∧ w'.ownsRow w.heap.size 85 2 v' l.length (l.flatMap Jw):=by
 rw [En];obtain ⟨T,cap,rfl,hT,hcap,hmax,hnil⟩:=hL;generalize l.length = n at *;generalize Zb l = f at *;have q23 : ∀ (w : World) (a : Option Addr) (n c n' c' : Nat),(binOp .eql 52 (.slice a n c) (.slice none n' c')).run Tryz.prog w = .ok (.bool a.isNone) w:=fun w a n c n' c' => Lib.run_eql_slice_nil w _ _ a n c n' c' Tryz.underlying52
 cases T with
 | none =>
  obtain ⟨rfl,rfl⟩:=hnil rfl
  go_enter Tryz.func59,Tryz.ntmps59
  go_wp2;go_ret
  exact ⟨_,rfl,Qb.refl _,World.ownsRow_nil _ _ _ _⟩
 | some a =>
  obtain ⟨i0,hi,hz0,hz1,hz2⟩:=info_parts Iq;have hlen:=X6 (f:=Zw f) (sz:=2) (fun _ => rfl) n;have hone : ∀ u ∈ Q0 (Zw f) n,u.oneCell' = true:=Eo (f:=Zw f) (n:=n) (fun i u hu => by simp [Zw] at hu;rcases hu with rfl | rfl <;> simp [Value.oneCell']);have HN:=fun v (h : Qs v (some a) n 2 (Zw f)) => Mi (f:=Zw f) (sz:=2) (fun _ => rfl) (by decide) h
  go_enter Tryz.func59,Tryz.ntmps59
  go_wp2_with (at_builtin;refine wpList_append_own _ rfl _ _ 52 rfl w.heap.size 85 i0 (.agg #[.string ⟨#[]⟩,.int .i64 0]) 2 24 Tryz.underlying52 hi hz0 hz1 hz2 rfl (by decide) _ _ _ rfl (World.ownsRow_made w #[] 0 (Nat.le_refl _) (Nat.zero_le _) rfl) a n cap (Q0 (Zw f) n) rfl hlen (HN _ (hT.ext ((Qb.refl _).alloc _)) a rfl) hone (by unfold maxLen;omega) Qa (by simp) ?_;intro v' w1 hown hgrow hnil2);go_ret;refine ⟨v',rfl,((Qb.refl w).alloc _).grown hgrow (fun q hq => by have h : some w.heap.size = some q:=hq;cases h;exact Nat.le_refl _),by simpa using hown⟩
theorem Qb2 (A A' : Option Addr) (ca cb : Nat) (c : Qd) (v : Value) (l : List Pd) (w : World) (hC : Zg w A ca A' cb c) (hP : Js w v l) :
  Calls Tryz.prog 107 #[.agg #[.slice A c.nk ca,.slice A' c.ny cb],v] w fun e w' => e = .returned (.int .i64 (c.persE l)) ∧ Qb w w':=by
 obtain ⟨D,cap,vo,vd,vc,rfl,hD,hcap,hmax,_,hat⟩:=hP;have hn : l.length ≤ 9223372036854775807:=Nat.le_trans hcap (Nat.le_trans hmax (by decide));obtain ⟨R,hR0⟩:=Qf (c.persE l);rw [← hR0];have HR:=Lib.hid hR0;clear hR0;obtain ⟨n,hnl⟩:=Qf (l.length);rw [← hnl] at hn hD hat hcap ⊢;replace hnl:=Lib.hid hnl;obtain ⟨g,hg⟩:=Qf (fun i => l.getD i Qh);have hg' : ∀ i,l.getD i Qh = g i:=fun i => by rw [hg]
 simp only [hg'] at hD hat;replace hg:=Lib.hid hg;clear hg';replace hat:=Lib.hid hat
 go_enter Tryz.func107,Tryz.ntmps107
 go_upto_region 1 with (fail)
 obtain ⟨v,b1,E,B1,hbr,hv,hb1⟩:=Yi w 130 #[.slice A c.nk ca,.slice A' c.ny cb];rw [← hv,← hb1];clear hv hb1;have C:=hC.ext E;replace hD:=hD.ext E;replace hat:=Lib.hid fun i hi => (hat.out i hi).ext E
 clear hC;go_upto_region 2 with (fail)
 go_loopw [9] (fun i wr => ∃ k : Nat,k ≤ n ∧ i = .int .i64 k ∧ Hid (∀ j,j < k → c.perOk (g j) = true) ∧ Qb v wr) (fun i _ => n - (intOf i).toNat)
 case atStart => exact ⟨0,Nat.zero_le _,rfl,(fun j h => absurd h Qa),Qb.refl _⟩
 case round =>
  obtain ⟨k,hk,rfl,hall,hE⟩:=hrel;obtain ⟨wo,rfl⟩:=Qf wr;by_cases hlt : k < n
  ·obtain ⟨b, off, rfl, hb, hc⟩ := (hD.ext hE) Qa;have hP := hat.out k hlt;have c0 : wo.cell? ⟨b, off + k * 12, none⟩ = some (.string (g k).h) := by simpa [Qq] using hc k 0 _ hlt rfl
   have c1 : wo.cell? ⟨b,off + k * 12 + 1,none⟩ = some (.int .i64 (g k).a.y):=by simpa [Qq] using hc k 1 _ hlt rfl
   have c2 : wo.cell? ⟨b,off + k * 12 + 2,none⟩ = some (.int .i64 (g k).a.m):=by simpa [Qq] using hc k 2 _ hlt rfl
   have c3 : wo.cell? ⟨b,off + k * 12 + 3,none⟩ = some (.bool (g k).a.s):=by simpa [Qq] using hc k 3 _ hlt rfl
   have c4 : wo.cell? ⟨b,off + k * 12 + 4,none⟩ = some (.int .i64 (g k).a.d):=by simpa [Qq] using hc k 4 _ hlt rfl
   have c5 : wo.cell? ⟨b,off + k * 12 + 5,none⟩ = some (.int .i64 (g k).b.y):=by simpa [Qq] using hc k 5 _ hlt rfl
   have c6 : wo.cell? ⟨b,off + k * 12 + 6,none⟩ = some (.int .i64 (g k).b.m):=by simpa [Qq] using hc k 6 _ hlt rfl
   have c7 : wo.cell? ⟨b,off + k * 12 + 7,none⟩ = some (.bool (g k).b.s):=by simpa [Qq] using hc k 7 _ hlt rfl
   have c8 : wo.cell? ⟨b,off + k * 12 + 8,none⟩ = some (.int .i64 (g k).b.d):=by simpa [Qq] using hc k 8 _ hlt rfl
   have c9 : wo.cell? ⟨b,off + k * 12 + 9,none⟩ = some (vo k):=by simpa [Qq] using hc k 9 _ hlt rfl
   have c10 : wo.cell? ⟨b,off + k * 12 + 10,none⟩ = some (vd k):=by simpa [Qq] using hc k 10 _ hlt rfl
   have c11 : wo.cell? ⟨b,off + k * 12 + 11,none⟩ = some (vc k):=by simpa [Qq] using hc k 11 _ hlt rfl
   have NP:=fun w h1 h2 => Qlx A A' ca cb c (g k) (vo k) (vd k) (vc k) w h1 h2
   have hno : Hid (c.perOk (g k) = false → R = 83):=fun h => by
    rw [HR.out];unfold Qd.persE;rw [if_neg (by rw [Bool.not_eq_true];exact Qek (k:=k) (by rw [← hnl.out];exact hlt) (by rw [hg.out] at h;exact h))]
   have hyes : Hid (c.perOk (g k) = true → ∀ j,j < k + 1 → c.perOk (g j) = true):=fun h j hj => by
    by_cases e : j = k
    ·subst e;exact h
    ·exact hall.out j Qa
   obtain ⟨VO,VD,VC,hvo,hvd,hvc⟩ : ∃ x y z,x = vo k ∧ y = vd k ∧ z = vc k:=⟨_,_,_,rfl,rfl,rfl⟩;rw [← hvo] at c9 NP hP;rw [← hvd] at c10 NP hP;rw [← hvc] at c11 NP hP;clear hvo hvd hvc hc hall HR hat hg;obtain ⟨t1,s1,e1,_⟩:=hP.o;subst e1;obtain ⟨t2,s2,_,e2,_⟩:=hP.d;subst e2;obtain ⟨t3,s3,e3,_⟩:=hP.c;subst e3;go_upto_region 4 with (fail)
   obtain ⟨v3,hv⟩:=Qf (wo.alloc (.cells #[.string (g k).h,.int .i64 (g k).a.y,.int .i64 (g k).a.m,.bool (g k).a.s,.int .i64 (g k).a.d,.int .i64 (g k).b.y,.int .i64 (g k).b.m,.bool (g k).b.s,.int .i64 (g k).b.d,.slice t1 (g k).o.length s1,.slice t2 (g k).d.length s2,.slice t3 (g k).c.length s3] 55));rw [← hv];have E3 : Qb wo v3:=by rw [hv];exact (Qb.refl _).alloc _
   have H3 : Qc v3 wo.heap.size 55 #[.string (g k).h,.int .i64 (g k).a.y,.int .i64 (g k).a.m,.bool (g k).a.s,.int .i64 (g k).a.d,.int .i64 (g k).b.y,.int .i64 (g k).b.m,.bool (g k).b.s,.int .i64 (g k).b.d,.slice t1 (g k).o.length s1,.slice t2 (g k).d.length s2,.slice t3 (g k).c.length s3]:=by rw [hv];exact Qc.new _ _ _
   clear hv;generalize wo.heap.size = b3 at *;clear c0 c1 c2 c3 c4 c5 c6 c7 c8 c9 c10 c11;replace NP:=NP v3 (C.ext (hE.trans E3)) (hP.ext (hE.trans E3));replace hE:=hE.trans E3;have B1e:=B1.ext hE;obtain ⟨k0,k1⟩:=B1e.c2;have lk:=B1e.lt;obtain ⟨p0,p1,p2,p3,p4,p5,p6,p7,p8,p9,p10,p11⟩:=H3.c12;have lp:=H3.lt;clear E3 hP;cases hq : c.perOk (g k)
   ·have hr:=hno.out hq;rw [hq] at NP;clear hno hyes hq;go_wp2_with (go_at_call 159;(with_reducible refine zc (NP) ?_);rintro e w2 ⟨rfl,h⟩);go_ret;exact ⟨by rw [hr];rfl,(E.trans hE).trans h⟩
   ·have hx:=Lib.hid (hyes.out hq);rw [hq] at NP;clear hno hyes hq;go_wp2_with (go_at_call 159;(with_reducible refine zc (NP) ?_);rintro e w2 ⟨rfl,h⟩);exact ⟨⟨k + 1,by omega,by go_num,hx,hE.trans h⟩,by simp [intOf];omega⟩
  ·obtain rfl : k = n := by omega
   have hr : R = 0:=by
    rw [HR.out];unfold Qd.persE;rw [if_pos (Qel fun j hj => by have:=hall.out j (by rw [hnl.out];exact hj);rw [hg.out] at this;exact this)]
   clear HR hall hat hg;go_wp2;go_ret;exact ⟨by rw [hr];rfl,E.trans hE⟩
theorem Qeg (v1 v2 : Value) (a b : List Lt) (w : World) (h1 : Zq w v1 a) (h2 : Zq w v2 b) :
  Calls Tryz.prog 19 #[v1,v2] w fun e w' => ∃ F k m,e = .returned (.tuple #[.slice F k m,.int .i64 (Jc 1 a b)]) ∧ Qb w w' ∧ Zq w' (.slice F k m) (Jj 1 a b):=by
 obtain ⟨T,cap,rfl,hT,hcap,hmax,_⟩:=h1;obtain ⟨S,cm,rfl,hS,hcm,hmm,_⟩:=h2;refine zc (Td T a.length cap (Zb a) S b.length cm (Zb b) w hT hcap (Nat.le_trans hcap (Nat.le_trans hmax (by decide))) hS hcm (Nat.le_trans hcm (Nat.le_trans hmm (by decide)))) ?_;rintro e w' ⟨F,k,c,rfl,hx,ho⟩;exact ⟨F,k,c,rfl,hx,Wz ho⟩
theorem Qm5 (v1 v2 : Value) (a b : List Lt) (w : World) (h1 : Zq w v1 a) (h2 : Zq w v2 b) :
  Calls Tryz.prog 108 #[v1,v2] w fun e w' => ∃ F k m,e = .returned (.tuple #[.slice F k m,.int .i64 (Jc (-1) a b)]) ∧ Qb w w' ∧ Zq w' (.slice F k m) (Jj (-1) a b):=by
 obtain ⟨T,cap,rfl,hT,hcap,hmax,_⟩:=h1;obtain ⟨S,cm,rfl,hS,hcm,hmm,_⟩:=h2;refine zc (Qc7 T a.length cap (Zb a) S b.length cm (Zb b) w hT hcap (Nat.le_trans hcap (Nat.le_trans hmax (by decide))) hS hcm (Nat.le_trans hcm (Nat.le_trans hmm (by decide)))) ?_;rintro e w' ⟨F,k,c,rfl,hx,ho⟩;exact ⟨F,k,c,rfl,hx,Wz ho⟩
theorem Qc9 (s : List Lt) {d : List Dl} {k : Nat} (hk : k < d.length) : Qz s (d.drop k) = if Jc (Wb (d.getD k Qw).i) s (d.getD k Qw).l ≠ 0 then ([],Jc (Wb (d.getD k Qw).i) s (d.getD k Qw).l) else Qz (Jj (Wb (d.getD k Qw).i) s (d.getD k Qw).l) (d.drop (k + 1)):=by
 have e : d.getD k Qw = d[k]:=by simp [List.getD_eq_getElem?_getD,hk]
 rw [e];exact Qm7 s d hk
theorem Qe5 (vo vd : Value) (o : List Lt) (d : List Dl) (w : World) (hO : Zq w vo o) (hD : W9 w vd d) (ho : o.length ≤ 1000000) :
  Calls Tryz.prog 61 #[vo,vd] w fun e w' => ∃ v',e = .returned (.tuple #[v',.int .i64 (Qz o d).2]) ∧ Qb w w' ∧ Zq w' v' (Qz o d).1:=by
 obtain ⟨D,cap,vs,rfl,hD,hcap,hmax,_,hat⟩:=hD;have hn : d.length ≤ 9223372036854775807:=Nat.le_trans hcap (Nat.le_trans hmax (by decide));have NC:=Ob vo o w hO ho;obtain ⟨A0,cc0,rfl,_⟩:=id hO;obtain ⟨R,hR⟩:=Qf (Qz o d);rw [← hR];replace hR:=Lib.hid hR
 go_enter Tryz.func61,Tryz.ntmps61
 go_upto_region 2 with (go_at_call 59;(with_reducible refine zc (NC) ?_);rintro e w1 ⟨v0,rfl,h1,hown⟩)
 have hS0:=Wz hown;obtain ⟨F0,m0,rfl⟩:=Jt hown;clear NC hown hO;go_upto_region 3 with (fail)
 obtain ⟨n,hnl⟩:=Qf (d.length);rw [← hnl] at hn hD hat hcap ⊢;replace hnl:=Lib.hid hnl;obtain ⟨g,hg⟩:=Qf (fun i => d.getD i Qw);have hg' : ∀ i,d.getD i Qw = g i:=fun i => by rw [hg]
 have hdr : Hid (∀ s k,k < n → Qz s (d.drop k) = if Jc (Wb (g k).i) s (g k).l ≠ 0 then ([],Jc (Wb (g k).i) s (g k).l) else Qz (Jj (Wb (g k).i) s (g k).l) (d.drop (k + 1))):=fun s k hk => by
  rw [Qc9 s (by rw [← hnl.out];exact hk),hg']
 simp only [hg'] at hD hat;clear hg hg';replace hat:=Lib.hid hat;have hD1:=hD.ext h1
 go_loopw [6,16] (fun sv iv wr => ∃ (k : Nat) (s : List Lt),k ≤ n ∧ iv = .int .i64 k ∧ Zq wr sv s ∧ Hid (R = Qz s (d.drop k)) ∧ Qb w wr) (fun _ i _ => n - (intOf i).toNat)
 case atStart => exact ⟨0,o,Nat.zero_le _,rfl,hS0,by unfold Hid;rw [hR.out];rfl,h1⟩
 case round =>
  clear hS0;obtain ⟨k,s,hk,rfl,hS,hrun,hE⟩:=hrel;obtain ⟨wo,rfl⟩:=Qf wr;by_cases hlt : k < n
  ·obtain ⟨b,off,rfl,hb,hc⟩:=(hD.ext hE) Qa;have hL:=(hat.out k hlt).ext hE;obtain ⟨c0,c1,c2,c3,c4,c5,c6⟩:=zp7 hc hlt;have HS:=Lib.hid (hdr.out s k hlt);obtain ⟨VL,hvl⟩:=Qf (vs k);rw [← hvl] at c6 hL;clear hvl hc hdr hat hR hD hD1;obtain ⟨TL,cl,hVL,_⟩:=id hL;subst hVL;obtain ⟨AS,cs,hsv,_⟩:=id hS;subst hsv;obtain ⟨SD,hSD⟩:=Qf (Qz s (d.drop k));rw [← hSD] at HS hrun;clear hSD;go_upto_region 5 with (fail)
   obtain ⟨v3,hv⟩:=Qf (wo.alloc (.cells #[.int .i64 (g k).on.y,.int .i64 (g k).on.m,.bool (g k).on.s,.int .i64 (g k).on.d,.bool (g k).i,.string (g k).w,.slice TL (g k).l.length cl] 57));rw [← hv];have E3 : Qb wo v3:=by rw [hv];exact (Qb.refl _).alloc _
   have H3 : Qc v3 wo.heap.size 57 #[.int .i64 (g k).on.y,.int .i64 (g k).on.m,.bool (g k).on.s,.int .i64 (g k).on.d,.bool (g k).i,.string (g k).w,.slice TL (g k).l.length cl]:=by rw [hv];exact Qc.new _ _ _
   clear hv;generalize wo.heap.size = b3 at *;clear c0 c1 c2 c3 c4 c5 c6;replace hL:=hL.ext E3;replace hS:=hS.ext E3;replace hE:=hE.trans E3;clear E3;have NA:=fun h1 h2 => Qeg (.slice AS s.length cs) (.slice TL (g k).l.length cl) s (g k).l v3 h1 h2
   have NB:=fun h1 h2 => Qm5 (.slice AS s.length cs) (.slice TL (g k).l.length cl) s (g k).l v3 h1 h2
   obtain ⟨q0,q1,q2,q3,q4,q5,q6⟩:=Gz H3;have lq:=H3.lt;cases hi : (g k).i
   ·have NX:=NB hS hL;rw [hi] at HS;have HS2 : Hid (SD = if Jc (-1) s (g k).l ≠ 0 then ([],Jc (-1) s (g k).l) else Qz (Jj (-1) s (g k).l) (d.drop (k + 1))):=HS;rw [hi] at q4;clear HS hi;generalize hce : Jc (-1) s (g k).l = E1 at *;generalize Jj (-1) s (g k).l = L1 at *;by_cases e0 : E1 = 0
    ·subst e0;have HS3:=Lib.hid (HS2.out.trans (if_neg (by simp)));clear HS2 hce;go_wp2_with (first | (go_at_call 108;(with_reducible refine zc (NX) ?_);rintro e w6 ⟨F6,k6,m6,rfl,h6,L6⟩) | (go_at_fn 108;(with_reducible refine zc (NX) ?_);rintro e w6 ⟨F6,k6,m6,rfl,h6,L6⟩));exact ⟨⟨k + 1,L1,by omega,by go_num,L6,Lib.hid (hrun.out.trans HS3.out),hE.trans h6⟩,by simp [intOf];omega⟩
    ·have g0 : (E1 == 0) = false := beq_eq_false_iff_ne.2 e0;have g0n : (E1 != 0) = true := by rw [bne, g0]; rfl
     have HS3:=Lib.hid (hrun.out.trans (HS2.out.trans (if_pos e0)));clear HS2 hrun hce e0;go_wp2_with (first | (go_at_call 108;(with_reducible refine zc (NX) ?_);rintro e w6 ⟨F6,k6,m6,rfl,h6,L6⟩) | (go_at_fn 108;(with_reducible refine zc (NX) ?_);rintro e w6 ⟨F6,k6,m6,rfl,h6,L6⟩));go_ret2;exact ⟨_,by rw [HS3.out];rfl,hE.trans h6,by rw [HS3.out];exact Mu _⟩
   ·have NX:=NA hS hL;rw [hi] at HS;have HS2 : Hid (SD = if Jc 1 s (g k).l ≠ 0 then ([],Jc 1 s (g k).l) else Qz (Jj 1 s (g k).l) (d.drop (k + 1))):=HS;rw [hi] at q4;clear HS hi;generalize hce : Jc 1 s (g k).l = E1 at *;generalize Jj 1 s (g k).l = L1 at *;by_cases e0 : E1 = 0
    ·subst e0;have HS3:=Lib.hid (HS2.out.trans (if_neg (by simp)));clear HS2 hce;go_wp2_with (first | (go_at_call 19;(with_reducible refine zc (NX) ?_);rintro e w6 ⟨F6,k6,m6,rfl,h6,L6⟩) | (go_at_fn 19;(with_reducible refine zc (NX) ?_);rintro e w6 ⟨F6,k6,m6,rfl,h6,L6⟩));exact ⟨⟨k + 1,L1,by omega,by go_num,L6,Lib.hid (hrun.out.trans HS3.out),hE.trans h6⟩,by simp [intOf];omega⟩
    ·have g0 : (E1 == 0) = false := beq_eq_false_iff_ne.2 e0;have g0n : (E1 != 0) = true := by rw [bne, g0]; rfl
     have HS3:=Lib.hid (hrun.out.trans (HS2.out.trans (if_pos e0)));clear HS2 hrun hce e0;go_wp2_with (first | (go_at_call 19;(with_reducible refine zc (NX) ?_);rintro e w6 ⟨F6,k6,m6,rfl,h6,L6⟩) | (go_at_fn 19;(with_reducible refine zc (NX) ?_);rintro e w6 ⟨F6,k6,m6,rfl,h6,L6⟩));go_ret2;exact ⟨_,by rw [HS3.out];rfl,hE.trans h6,by rw [HS3.out];exact Mu _⟩
  ·obtain rfl : k = n := by omega
   have hr : Hid (R = (s,0)):=by
    unfold Hid;rw [hrun.out,hnl.out,List.drop_length];rfl
   clear hrun hdr hat hR;go_wp2;go_ret2;exact ⟨_,by rw [hr.out];rfl,hE,by rw [hr.out];exact hS⟩
theorem Qnp (A A' : Option Addr) (ca cb : Nat) (c : Qd) (v : Value) (l : List Pd) (w : World) (hC : Zg w A ca A' cb c) (hP : Js w v l) :
  Calls Tryz.prog 73 #[.agg #[.slice A c.nk ca,.slice A' c.ny cb],v] w fun e w' => e = .returned (.tuple #[.agg #[.slice A c.nk ca,.slice A' c.ny cb],.int .i64 (c.validE l)]) ∧ Qb w w':=by
 have NO:=fun w h => Ov A A' ca cb c w h
 obtain ⟨D,cap,_,_,_,hv9,_⟩:=id hP;subst hv9;have NP:=fun w h1 h2 => Qb2 A A' ca cb c (.slice D l.length cap) l w h1 h2
 obtain ⟨R,hR0⟩:=Qf (c.validE l);rw [← hR0];have HR:=Lib.hid hR0;clear hR0
 go_enter Tryz.func73,Tryz.ntmps73
 go_upto_region 1 with (fail)
 obtain ⟨v,b1,b2,E,B1,B2,hbr1,hbr,hn21,hv,hb1,hb2⟩:=Yb w 25 #[.slice A c.nk ca,.slice A' c.ny cb] 130 #[.slice none 0 0,.slice none 0 0];rw [← hv,← hb2,← hb1];clear hv hb1 hb2;obtain ⟨k0,k1⟩:=B1.c2;have lk:=B1.lt;obtain ⟨ck,hck⟩:=Qf (c.chk);simp only [← hck] at NO;replace hck:=Lib.hid hck;go_upto_region 2 with (go_at_call 64;(with_reducible refine zc (NO _ (hC.ext E)) ?_);rintro e w1 ⟨rfl,h1⟩)
 obtain ⟨v3,hv⟩:=Qf (w1.alloc (.cells #[.slice A c.nk ca,.slice A' c.ny cb] 130));rw [← hv];have h3 : Qb w1 v3:=by rw [hv];exact (Qb.refl _).alloc _
 have H3 : Qc v3 w1.heap.size 130 #[.slice A c.nk ca,.slice A' c.ny cb]:=by rw [hv];exact Qc.new _ _ _
 clear hv;generalize w1.heap.size = b9 at *;replace E:=(E.trans h1).trans h3;replace B2:=(B2.ext h1).ext h3;have C:=hC.ext E;have P:=hP.ext E;clear hC hP k0 k1 lk B1 NO h1 h3;by_cases e0 : ck = 0;rotate_left
 ·have g0 : (ck == 0) = false := beq_eq_false_iff_ne.2 e0;have g0n : (ck != 0) = true := by rw [bne, g0]; rfl
  have hr : R = ck:=by rw [HR.out,hck.out];unfold Qd.validE;rw [if_pos (by rw [← hck.out];exact e0)]
  clear HR e0 hck NP;obtain ⟨k0,k1⟩:=H3.c2;have lk:=H3.lt;have f0:=B2.frozen 0;have f1:=B2.frozen 1;obtain ⟨x0,x1⟩:=B2.c2;have lx:=B2.lt;have H4:=Qo B2 (.slice A c.nk ca) (.slice A' c.ny cb);have EF:=(E.setCell (p:=⟨b2,0,none⟩) hbr (.slice A c.nk ca)).setCell (p:=⟨b2,1,none⟩) hbr (.slice A' c.ny cb);obtain ⟨y0,y1⟩:=H4.c2;go_wp2;refine bodyPost_ret (v:=.tuple #[.agg #[.slice A c.nk ca,.slice A' c.ny cb],.int .i64 ck]) (by simp [results,Tryz.results73,go_sem,y0,y1]) rfl ⟨by rw [hr],EF⟩
 ·subst e0;have hr : Hid (R = c.persE l) := by unfold Hid; rw [HR.out]; unfold Qd.validE; rw [if_neg (by rw [← hck.out]; simp)]
  clear HR hck;go_upto_region 4 with (fail)
  refine Q5 6 [4,5] (fun x => Qb v3 x) mixed rfl ?_;intro vz hvz;have HC:=hvz;refine Qr (g:=3) [0,1,2] HC ?_
  constructor
  refine ⟨fun u hu => ?_,?_⟩
  ·obtain ⟨k0,k1⟩:=(H3.ext hu).c2;have lk:=(H3.ext hu).lt;exact Qj
  refine Qk 3 ?_;go_wp2_with (go_at_call 107;(with_reducible refine zc (NP _ (C.ext HC) (P.ext HC)) ?_);rintro e va ⟨rfl,h4⟩);replace HC:=HC.trans h4;clear h4;refine Qe HC ?_;refine Qn 4 ?_;replace B2:=B2.ext HC;replace E:=E.trans HC;have f0:=B2.frozen 0;have f1:=B2.frozen 1;obtain ⟨x0,x1⟩:=B2.c2;have lx:=B2.lt;have H4:=Qo B2 (.slice A c.nk ca) (.slice A' c.ny cb);have EF:=(E.setCell (p:=⟨b2,0,none⟩) hbr (.slice A c.nk ca)).setCell (p:=⟨b2,1,none⟩) hbr (.slice A' c.ny cb);obtain ⟨y0,y1⟩:=H4.c2;go_wp2;refine Qm ?_;refine Qn 5 ?_;go_wp2;refine Qm ?_;refine Qt ?_;go_wp2;refine bodyPost_ret (v:=.tuple #[.agg #[.slice A c.nk ca,.slice A' c.ny cb],.int .i64 (c.persE l)]) (by simp [results,Tryz.results73,go_sem,y0,y1]) rfl ⟨by rw [hr.out],EF⟩
theorem Qgi (A A' : Option Addr) (ca cb : Nat) (c : Qd) (p : Pd) (vo vd vc : Value) (w : World) (hC : Zg w A ca A' cb c) (hP : Xo w p vo vd vc) :
  Calls Tryz.prog 43 #[.agg #[.slice A c.nk ca,.slice A' c.ny cb],.agg #[.string p.h,.int .i64 p.a.y,.int .i64 p.a.m,.bool p.a.s,.int .i64 p.a.d,.int .i64 p.b.y,.int .i64 p.b.m,.bool p.b.s,.int .i64 p.b.d,vo,vd,vc]] w fun e w' => ∃ v',e = .returned (.tuple #[v',.int .i64 (c.closeV p).2]) ∧ Qb w w' ∧ Zq w' v' (c.closeV p).1:=by
 obtain ⟨t1,s1,e1,_⟩:=id hP.o;subst e1;obtain ⟨t2,s2,_,e2,_⟩:=id hP.d;subst e2;obtain ⟨t3,s3,e3,_⟩:=id hP.c;subst e3;have NV:=fun w h1 v h2 => Qnp A A' ca cb c v [p] w h1 h2
 simp only [Qnn] at NV;obtain ⟨R,hR0⟩:=Qf (c.closeV p);rw [← hR0];have HR:=Lib.hid hR0;clear hR0
 go_enter Tryz.func43,Tryz.ntmps43
 go_upto_region 1 with (fail)
 obtain ⟨v,b1,b2,E,B1,B2,hbr1,hbr,hn21,hv,hb1,hb2⟩:=Yb w 25 #[.slice A c.nk ca,.slice A' c.ny cb] 55 #[.string p.h,.int .i64 p.a.y,.int .i64 p.a.m,.bool p.a.s,.int .i64 p.a.d,.int .i64 p.b.y,.int .i64 p.b.m,.bool p.b.s,.int .i64 p.b.d,.slice t1 p.o.length s1,.slice t2 p.d.length s2,.slice t3 p.c.length s3];rw [← hv,← hb2,← hb1];clear hv hb1 hb2;have C:=hC.ext E;have P:=hP.ext E;clear hC hP;obtain ⟨k0,k1⟩:=B1.c2;have lk:=B1.lt;obtain ⟨p0,p1,p2,p3,p4,p5,p6,p7,p8,p9,p10,p11⟩:=B2.c12;have lp:=B2.lt;obtain ⟨pe,hpe⟩:=Qf (c.perE p);simp only [← hpe] at NV;replace hpe:=Lib.hid hpe;have AL:=(Qb.refl v).alloc (.cells #[.string p.h,.int .i64 p.a.y,.int .i64 p.a.m,.bool p.a.s,.int .i64 p.a.d,.int .i64 p.b.y,.int .i64 p.b.m,.bool p.b.s,.int .i64 p.b.d,.slice t1 p.o.length s1,.slice t2 p.d.length s2,.slice t3 p.c.length s3] 55)
 have NV1:=NV _ (C.ext AL) (.slice (some ⟨v.heap.size,0,none⟩) 1 1) (Qlz (t:=55) (Qc.new v 55 #[.string p.h,.int .i64 p.a.y,.int .i64 p.a.m,.bool p.a.s,.int .i64 p.a.d,.int .i64 p.b.y,.int .i64 p.b.m,.bool p.b.s,.int .i64 p.b.d,.slice t1 p.o.length s1,.slice t2 p.d.length s2,.slice t3 p.c.length s3]) (P.ext AL));go_upto_region 2 with (go_at_call 73;(with_reducible refine zc (NV1) ?_);rintro e w1 ⟨rfl,h1⟩)
 replace h1:=AL.trans h1;clear NV NV1 AL;obtain ⟨v3,hv⟩:=Qf (w1.alloc (.cells #[.slice A c.nk ca,.slice A' c.ny cb] 130));rw [← hv];have h3 : Qb w1 v3:=by rw [hv];exact (Qb.refl _).alloc _
 have H3 : Qc v3 w1.heap.size 130 #[.slice A c.nk ca,.slice A' c.ny cb]:=by rw [hv];exact Qc.new _ _ _
 clear hv;generalize w1.heap.size = b9 at *;replace h1:=h1.trans h3;replace E:=E.trans h1;replace C:=C.ext h1;replace P:=P.ext h1;replace B2:=B2.ext h1;clear h1 h3 H3 B1 k0 k1 lk p0 p1 p2 p3 p4 p5 p6 p7 p8 p9 p10 p11 lp;by_cases e0 : pe = 0;rotate_left
 ·have g0 : (pe == 0) = false := beq_eq_false_iff_ne.2 e0;have g0n : (pe != 0) = true := by rw [bne, g0]; rfl
  have hr : Hid (R = ([],pe)):=by unfold Hid;rw [HR.out,hpe.out];unfold Qd.closeV;rw [if_pos (by rw [← hpe.out];exact e0)]
  clear HR e0 hpe;go_wp2;go_ret2;exact ⟨_,by rw [hr.out];rfl,E,by rw [hr.out];exact Mu _⟩
 ·subst e0;have hr : Hid (R = Qz p.o p.d) := by unfold Hid; rw [HR.out]; unfold Qd.closeV; rw [if_neg (by rw [← hpe.out]; simp)]
  have NB:=Qe5 _ _ p.o p.d v3 P.o P.d (by have:=Qlw hpe.out.symm;omega);clear HR hpe;rw [← hr.out] at NB;clear hr;obtain ⟨p0,p1,p2,p3,p4,p5,p6,p7,p8,p9,p10,p11⟩:=B2.c12;have lp:=B2.lt;go_wp2_with (go_at_call 61;(with_reducible refine zc (NB) ?_);rintro e w5 ⟨v5,rfl,h5,L5⟩);go_ret2;exact ⟨v5,rfl,E.trans h5,L5⟩
end
section
open Go Go.RowKit
theorem Hy {w : World} {b off n k : Nat} {g : Nat → Pd} {vo vd vc : Nat → Value} (hc : ∀ i j v,i < n → (Qq (g i) (vo i) (vd i) (vc i))[j]? = some v → w.cell? ⟨b,off + i * 12 + j,none⟩ = some v) (hk : k < n) :
  w.cell? ⟨b,off + k * 12,none⟩ = some (.string (g k).h) ∧ w.cell? ⟨b,off + k * 12 + 1,none⟩ = some (.int .i64 (g k).a.y) ∧ w.cell? ⟨b,off + k * 12 + 2,none⟩ = some (.int .i64 (g k).a.m) ∧ w.cell? ⟨b,off + k * 12 + 3,none⟩ = some (.bool (g k).a.s) ∧ w.cell? ⟨b,off + k * 12 + 4,none⟩ = some (.int .i64 (g k).a.d) ∧ w.cell? ⟨b,off + k * 12 + 5,none⟩ = some (.int .i64 (g k).b.y) ∧ w.cell? ⟨b,off + k * 12 + 6,none⟩ = some (.int .i64 (g k).b.m) ∧ w.cell? ⟨b,off + k * 12 + 7,none⟩ = some (.bool (g k).b.s) ∧ w.cell? ⟨b,off + k * 12 + 8,none⟩ = some (.int .i64 (g k).b.d) ∧ w.cell? ⟨b,off + k * 12 + 9,none⟩ = some (vo k) ∧ w.cell? ⟨b,off + k * 12 + 10,none⟩ = some (vd k) ∧ w.cell? ⟨b,off + k * 12 + 11,none⟩ = some (vc k) :=
 ⟨hc k 0 _ hk rfl,hc k 1 _ hk rfl,hc k 2 _ hk rfl,hc k 3 _ hk rfl,hc k 4 _ hk rfl,hc k 5 _ hk rfl,hc k 6 _ hk rfl,hc k 7 _ hk rfl,hc k 8 _ hk rfl,hc k 9 _ hk rfl,hc k 10 _ hk rfl,hc k 11 _ hk rfl⟩
end
section
instance : DecidableEq Lt:=fun a b => if h : a.g = b.g ∧ a.n = b.n then .isTrue (by cases a;cases b;simp_all) else .isFalse (fun e => h ⟨by rw [e],by rw [e]⟩)
def Qd.behV (c : Qd) (x y : Pd) : Bool:=decide (x.h = y.h) && decide (c.numV y.a = c.numV x.b + 1)
def I6 (x y : Pd) : Pd:=⟨x.h,x.a,y.b,x.o,x.d ++ y.d,y.c⟩
/-- Balances carried forward: what is left to do behind a period. -/
def Qd.carR (c : Qd) : Option Pd → List Pd → List Pd × Int
 | _,[] => ([],0)
 | q,p :: r =>
  if (q.any fun q => !c.behV q p) = true then ([],84)
  else if (Qz (q.elim p.o (·.c)) p.d).2 ≠ 0 then ([],(Qz (q.elim p.o (·.c)) p.d).2)
  else if (c.carR (some ⟨p.h,p.a,p.b,q.elim p.o (·.c),p.d,(Qz (q.elim p.o (·.c)) p.d).1⟩) r).2 ≠ 0 then ([],(c.carR (some ⟨p.h,p.a,p.b,q.elim p.o (·.c),p.d,(Qz (q.elim p.o (·.c)) p.d).1⟩) r).2)
  else (⟨p.h,p.a,p.b,q.elim p.o (·.c),p.d,(Qz (q.elim p.o (·.c)) p.d).1⟩ :: (c.carR (some ⟨p.h,p.a,p.b,q.elim p.o (·.c),p.d,(Qz (q.elim p.o (·.c)) p.d).1⟩) r).1,0)
def Qd.archE (c : Qd) (l : List Pd) : Int:=if c.chk ≠ 0 then c.chk else if 32 < l.length then 3 else c.persE l
def Qd.carryV (c : Qd) (l : List Pd) : List Pd × Int:=if c.archE l ≠ 0 then ([],c.archE l) else c.carR none l
/-- What is made so far, and what is left. -/
def Wm (L : List Pd) (R : List Pd × Int) : List Pd × Int:=if R.2 ≠ 0 then ([],R.2) else (L ++ R.1,0)
def Yg (q : Option Pd) (p : Pd) : Pd:=⟨p.h,p.a,p.b,q.elim p.o (·.c),p.d,(Qz (q.elim p.o (·.c)) p.d).1⟩
theorem Gk {c : Qd} {q : Option Pd} {p : Pd} {r : List Pd} (h : (q.any fun q => !c.behV q p) = true) : c.carR q (p :: r) = ([],84):=by
 unfold Qd.carR;rw [if_pos h]
theorem Gm {c : Qd} {q : Option Pd} {p : Pd} {r : List Pd} (h : (q.any fun q => !c.behV q p) = false) (h0 : (Qz (q.elim p.o (·.c)) p.d).2 ≠ 0) : c.carR q (p :: r) = ([],(Qz (q.elim p.o (·.c)) p.d).2):=by
 unfold Qd.carR;rw [if_neg (by rw [h];decide),if_pos h0]
theorem Gl {c : Qd} {q : Option Pd} {p : Pd} {r : List Pd} (h : (q.any fun q => !c.behV q p) = false) (h0 : (Qz (q.elim p.o (·.c)) p.d).2 = 0) : c.carR q (p :: r) = if (c.carR (some (Yg q p)) r).2 ≠ 0 then ([],(c.carR (some (Yg q p)) r).2) else (Yg q p :: (c.carR (some (Yg q p)) r).1,0):=by
 conv => lhs;unfold Qd.carR
 rw [if_neg (by rw [h];decide),if_neg (fun g => g h0)];rfl
theorem Cu {L : List Pd} {R : List Pd × Int} {e : Int} (h : R = ([],e)) (h0 : e ≠ 0) : Wm L R = ([],e):=by
 unfold Wm;rw [h,if_pos h0]
theorem Qfw {c : Qd} {q : Option Pd} {p : Pd} {r L : List Pd} (h : (q.any fun q => !c.behV q p) = true) : Wm L (c.carR q (p :: r)) = ([],84):=Cu (Gk h) (by decide)
theorem Qf0 {c : Qd} {q : Option Pd} {p : Pd} {r L : List Pd} (h : (q.any fun q => !c.behV q p) = false) (h0 : (Qz (q.elim p.o (·.c)) p.d).2 ≠ 0) : Wm L (c.carR q (p :: r)) = ([],(Qz (q.elim p.o (·.c)) p.d).2):=Cu (Gm h h0) h0
theorem Qfz {c : Qd} {q : Option Pd} {p : Pd} {r L : List Pd} (h : (q.any fun q => !c.behV q p) = false) (h0 : (Qz (q.elim p.o (·.c)) p.d).2 = 0) : Wm L (c.carR q (p :: r)) = Wm (L ++ [Yg q p]) (c.carR (some (Yg q p)) r):=by
 rw [Gl h h0];generalize c.carR (some (Yg q p)) r = R;obtain ⟨R1,e⟩:=R;by_cases g : e = 0
 ·subst g;simp [Wm]
 ·simp [Wm,g]
theorem Qfx {c : Qd} {q : Option Pd} {L : List Pd} : Wm L (c.carR q []) = (L,0):=by
 unfold Qd.carR Wm;rw [if_neg (by simp)];simp
theorem Qfv (c : Qd) (q : Option Pd) : ∀ l : List Pd,(c.carR q l).2 ≠ 0 → (c.carR q l).1 = []
 | [],h => absurd rfl h
 | p :: r,h => by
  cases h1 : (q.any fun q => !c.behV q p)
  ·by_cases h2 : (Qz (q.elim p.o (·.c)) p.d).2 = 0
   ·rw [Gl h1 h2] at h ⊢
    split at h
    ·rename_i h3;rw [if_pos h3]
    ·exact absurd rfl h
   ·rw [Gm h1 h2]
  ·rw [Gk h1]
theorem Qfy {c : Qd} {l : List Pd} : Wm [] (c.carR none l) = c.carR none l:=by
 have:=Qfv c none l;generalize c.carR none l = R at *;obtain ⟨R1,e⟩:=R;by_cases g : e = 0
 ·subst g;simp [Wm]
 ·have h:=this g
  simp only at h
  simp [Wm,g,h]
def sorted (l : List Lt) : Prop:=l.Pairwise fun x y => Jf x.g y.g = true
theorem Nj {x y : ByteArray} (h : x.toList = y.toList) : x = y:=by
 have hx:=Go.Lib.toList_data x;have hy:=Go.Lib.toList_data y;rw [hx,hy] at h;cases x;cases y
 simp only [ByteArray.mk.injEq];exact Array.ext' h
end
section
open Go Go.RowKit Go.Shelf
attribute [local go_sem] Zx
def Rt.neg (r : Rt) : Rt:=⟨-r.n,r.d⟩
section
variable {W : World} {b : Nat} {t : TypeId} {v0 v1 v2 : Value}
end
end
section
open Go Go.RowKit
attribute [local go_sem] Zx
def Qv (y : Yr) (k : Nat) : Int:=y.lens (y.mos.take k)
end
section
open Go Go.RowKit Go.Shelf
attribute [local go_sem] Zx Dt.val
end
section
open Go Go.RowKit
attribute [local go_sem] Zx
end
section
open Go Go.RowKit Go.Shelf
attribute [local go_sem] Zx
theorem Dx (g : Nat → Rt × Int) : ∀ m k s,s.In → (W8 g k m s).1.In
 | 0,_,_,h => h
 | m + 1,k,s,h => by
  rw [W8]
  split
  ·exact Xh
  ·split
   ·exact Xh
   ·exact Dx g m (k + 1) _ (Lf _ _)
theorem Qkz (t : Nat → Tk) (n : Nat) : (Jh t n).1.In:=by
 unfold Jh
 split
 ·exact Xh
 ·split
  ·exact Dx _ _ _ _ Vp
  ·exact Xh
theorem Qe2 (c : Qd) (f : Nat → Cw) (n : Nat) : (c.availV f n).1.In:=by
 unfold Qd.availV
 split
 ·exact Xh
 ·split
  ·exact Dx _ _ _ _ Vp
  ·exact Xh
theorem Qhe {a b : Rt} (ha : a.nn = true) (hb : b.pos = true) (h : (Yc a b).2 = 0) : (Yc a b).1.nn = true:=by
 obtain ⟨a1,a2⟩:=Kw ha;obtain ⟨b1,b2⟩ : b.ok = true ∧ 0 < b.n:=by simpa [Rt.pos] using hb
 unfold Yc at h ⊢;rw [a1,b1] at h ⊢;simp only [Bool.and_self,if_true] at h ⊢;rw [if_neg Qa] at h ⊢;have hQ : 1 ≤ a.d.natAbs * b.n.natAbs:=Nat.mul_pos (by have:=J9 a1;omega) Qa;rw [decide_eq_false (show ¬ a.n < 0 by omega),decide_eq_false (show ¬ b.n < 0 by omega)] at h ⊢;obtain ⟨o1,o2⟩:=Dc hQ h;unfold Rt.nn;rw [show (false != false) = false from rfl] at o1 o2 ⊢;rw [o1,Bool.true_and,decide_eq_true_eq];rw [if_neg (by decide)] at o2;have hd:=(J9 o1).1;rcases Int.lt_or_le (Jn false (a.n.natAbs * b.d.natAbs) (a.d.natAbs * b.n.natAbs)).1.n 0 with h0 | h0
 ·have h3:=Int.mul_neg_of_neg_of_pos h0 (show (0 : Int) < ((a.d.natAbs * b.n.natAbs : Nat) : Int) by omega);have h4:=Int.mul_nonneg (show (0 : Int) ≤ ((a.n.natAbs * b.d.natAbs : Nat) : Int) from Int.natCast_nonneg _) (show 0 ≤ (Jn false (a.n.natAbs * b.d.natAbs) (a.d.natAbs * b.n.natAbs)).1.d by omega);omega
 ·exact h0
theorem Qdi (g : Nat → Rt × Int) (n : Nat) (hg : ∀ i,i < n → (g i).2 = 0 → (g i).1.nn = true) : ∀ m k s,k + m = n → s.nn = true → (W8 g k m s).2 = 0 → (W8 g k m s).1.nn = true
 | 0,_,_,_,h,_ => h
 | m + 1,k,s,hk,h,h0 => by
  rw [W8] at h0 ⊢;by_cases e1 : (g k).2 ≠ 0
  ·rw [if_pos e1] at h0;exact absurd h0 e1
  ·rw [if_neg e1] at h0 ⊢;by_cases e2 : (Zm s (g k).1).2 ≠ 0
   ·rw [if_pos e2] at h0;exact absurd h0 e2
   ·rw [if_neg e2] at h0 ⊢;exact Qdi g n hg m (k + 1) _ Qa (Qei (Decidable.not_not.1 e2) h (hg k Qa (Decidable.not_not.1 e1))) h0
theorem Qhw (t : Nat → Tk) (n : Nat) : (Jh t n).2 = 0 → (Jh t n).1.nn = true:=fun h => by
 unfold Jh at h ⊢;by_cases h64 : 64 < n
 ·rw [if_pos h64] at h;exact absurd h (by decide)
 ·rw [if_neg h64] at h ⊢;by_cases ha : (List.range n).all (fun i => K4 (t i)) = true
  ·rw [if_pos ha] at h ⊢;refine Qdi _ n (fun i hi h0 => ?_) n 0 (Ju 0) Qa (Qa7 Qof (by rw [Qoh];exact Rat.le_refl)) h;have hok:=List.all_eq_true.1 ha i (by simpa using hi);unfold K4 at hok;obtain ⟨o1,o2⟩:=Bool.and_eq_true_iff.1 hok;exact Qhe o1 o2 h0
  ·rw [if_neg ha] at h;exact absurd h (by decide)
theorem few_bd {c : Qd} {a b : Dt} {s : Rt} {Nn Nd : Int} (hv : c.valid = true) (hsp : (decide (0 < c.numV a) && decide (c.numV a ≤ c.numV b)) = true) (hs : s.shr = true) (h0 : s.n ≠ 0) (hN : (Rt.mk Nn Nd).nn = true) :
  (0 ≤ c.schV a b ∧ c.schV a b ≤ 1000000) ∧ (1 ≤ s.n * (c.schV a b + 1) ∧ s.n * (c.schV a b + 1) ≤ 1048577048576) ∧ 1 ≤ s.n * (c.schV a b + 1) * Nd ∧ s.n * (c.schV a b + 1) * Nd ≤ 1099512727287627776 ∧ 0 ≤ Nn * s.d ∧ Nn * s.d ≤ 1152921504606846976 ∧ True ∧ True:=by
 obtain ⟨h1,h2⟩:=Bool.and_eq_true_iff.1 hsp;have h1:=of_decide_eq_true h1;have h2:=of_decide_eq_true h2;have z1:=sch_bd hv Qa Qa h2;have z2:=Qcy c a b;obtain ⟨N1,N2⟩:=Kw hN;obtain ⟨n1,n2,n3,n4,_⟩:=J9 N1
 simp only at N2 n1 n2 n3 n4
 simp only [Rt.shr,Bool.and_eq_true,decide_eq_true_eq] at hs;obtain ⟨s1,s2,s3,s4,_⟩:=J9 hs.1.1;generalize c.schV a b = z at *;have m1:=My (a:=s.n) (b:=z + 1) (A:=1048576) (B:=1000001) Qa Qa Qa Qa;have m2:=Int.mul_pos (show 0 < s.n by omega) (show 0 < z + 1 by omega);have m3:=My (a:=s.n * (z + 1)) (b:=Nd) (A:=1048577048576) (B:=1048576) Qa Qa Qa Qa;have m4:=Int.mul_pos m2 (show 0 < Nd by omega);have m5:=My (a:=Nn) (b:=s.d) (A:=1099511627776) (B:=1048576) Qa Qa Qa Qa;have m6:=Int.mul_nonneg N2 (show 0 ≤ s.d by omega);exact ⟨⟨z1.1,z2.2⟩,⟨by omega,m1.2⟩,by omega,m3.2,m6,m5.2,trivial,trivial⟩
theorem Qe6 (A A' : Option Addr) (ca cb : Nat) (c : Qd) (T : Option Addr) (nt capt : Nat) (t : Nat → Tk) (S : Option Addr) (n cap : Nat) (f : Nat → Cw) (w : World) (hC : Zg w A ca A' cb c) (hint : ∀ i,i < nt → (t i).a.In ∧ (t i).r.In) (hT : Qs w T nt 4 (Y3 t)) (hnt : nt ≤ 9223372036854775807) (hin : ∀ i,i < n → (f i).s.In ∧ -9223372036854775808 ≤ (f i).w ∧ (f i).w ≤ 9223372036854775807) (hS : Qs w S n 11 (Zu f)) (hn : n ≤ 9223372036854775807) (hZ : Z6 w) :
  Calls Tryz.prog 40 #[.agg #[.slice A c.nk ca,.slice A' c.ny cb],.slice T nt capt,.slice S n cap] w fun e w' => e = .returned (.tuple #[.agg #[.int .i64 (c.balV t nt f n).1.n,.int .i64 (c.balV t nt f n).1.d],.int .i64 (c.balV t nt f n).2]) ∧ Qb w w':=by
 have NO:=fun w h => Ov A A' ca cb c w h
 have NN:=fun w h z => Qa4 T nt capt t w hint h hnt z
 have NA:=fun w h1 h2 z => Qe3 A A' ca cb c S n cap f w h1 hin h2 hn z
 obtain ⟨R,hR0⟩:=Qf (c.balV t nt f n);rw [← hR0];have HR:=Lib.hid hR0;clear hR0
 go_enter Tryz.func40,Tryz.ntmps40
 go_upto_region 1 with (fail)
 obtain ⟨v,b1,b2,E,B1,B2,hbr1,hbr,hn21,hv,hb1,hb2⟩:=Yb w 25 #[.slice A c.nk ca,.slice A' c.ny cb] 65 #[.int .i64 0,.int .i64 0];rw [← hv,← hb2,← hb1];clear hv hb1 hb2;have RT:=hT.ext E;have RS:=hS.ext E;have Z0:=hZ.ext E;have C:=hC.ext E;clear hT hS hZ;obtain ⟨k0,k1⟩:=B1.c2;have lk:=B1.lt;cases hv : c.valid
 ·have hr : R = (Zk, 70) := by rw [HR.out]; unfold Qd.balV; rw [hv]; rfl
  have hc : c.chk = 70:=by unfold Qd.chk;rw [hv];rfl
  simp only [hc] at NO;subst hr;clear HR hc hv NN NA;go_upto_region 2 with (go_at_call 64;(with_reducible refine zc (NO _ (hC.ext E)) ?_);rintro e w1 ⟨rfl,h1⟩)
  obtain ⟨v3,hv⟩:=Qf (w1.alloc (.cells #[.slice A c.nk ca,.slice A' c.ny cb] 130));rw [← hv];have h3 : Qb w1 v3:=by rw [hv];exact (Qb.refl _).alloc _
  have H3 : Qc v3 w1.heap.size 130 #[.slice A c.nk ca,.slice A' c.ny cb]:=by rw [hv];exact Qc.new _ _ _
  clear hv;generalize w1.heap.size = b3 at *;replace E:=(E.trans h1).trans h3;replace B2:=(B2.ext h1).ext h3;have f0:=B2.frozen 0;have f1:=B2.frozen 1;obtain ⟨x0,x1⟩:=B2.c2;have lx:=B2.lt;have H4:=Qo B2 (.int .i64 0) (.int .i64 0);have EF:=(E.setCell (p:=⟨b2,0,none⟩) hbr (.int .i64 0)).setCell (p:=⟨b2,1,none⟩) hbr (.int .i64 0);obtain ⟨y0,y1⟩:=H4.c2;go_wp2;refine bodyPost_ret (v:=.tuple #[.agg #[.int .i64 0,.int .i64 0],.int .i64 70]) (by simp [results,Tryz.results40,go_sem,y0,y1]) rfl ⟨rfl,EF⟩
 ·have hc : c.chk = 0 := by unfold Qd.chk; rw [hv]; rfl
  simp only [hc] at NO;have HR2 : Hid (R = if (Jh t nt).2 ≠ 0 then (Zk,(Jh t nt).2) else if (c.availV f n).2 ≠ 0 then (Zk,(c.availV f n).2) else Ji (c.availV f n).1 (Jh t nt).1):=by unfold Hid;rw [HR.out];unfold Qd.balV;rw [hv];rfl
  have hni:=Qkz t nt;have hai:=Qe2 c f n;clear HR hc hv;go_upto_region 4 with (go_at_call 64;(with_reducible refine zc (NO _ (hC.ext E)) ?_);rintro e w1 ⟨rfl,h1⟩)
  obtain ⟨v3,hv⟩:=Qf (w1.alloc (.cells #[.slice A c.nk ca,.slice A' c.ny cb] 130));rw [← hv];have h3 : Qb w1 v3:=by rw [hv];exact (Qb.refl _).alloc _
  have H3 : Qc v3 w1.heap.size 130 #[.slice A c.nk ca,.slice A' c.ny cb]:=by rw [hv];exact Qc.new _ _ _
  clear hv;generalize w1.heap.size = b3 at *;replace E:=(E.trans h1).trans h3;replace B2:=(B2.ext h1).ext h3;replace RT:=(RT.ext h1).ext h3;replace RS:=(RS.ext h1).ext h3;replace Z0:=(Z0.ext h1).ext h3;replace C:=(C.ext h1).ext h3;clear h1 h3 k0 k1 lk B1 NO;generalize Jh t nt = N at *;obtain ⟨⟨Nn,Nd⟩,Ne⟩:=N;simp only [] at HR2 NN hni;go_upto_region 5 with (go_at_call 87;(with_reducible refine zc (NN _ RT Z0) ?_);rintro e w4 ⟨rfl,h4⟩)
  obtain ⟨v4,hv⟩:=Qf (w4.alloc (.cells #[.int .i64 Nn,.int .i64 Nd] 65));rw [← hv];have h5 : Qb w4 v4:=by rw [hv];exact (Qb.refl _).alloc _
  have H4 : Qc v4 w4.heap.size 65 #[.int .i64 Nn,.int .i64 Nd]:=by rw [hv];exact Qc.new _ _ _
  clear hv;generalize w4.heap.size = b4 at *;replace E:=(E.trans h4).trans h5;replace B2:=(B2.ext h4).ext h5;replace H3:=(H3.ext h4).ext h5;replace RS:=(RS.ext h4).ext h5;replace Z0:=(Z0.ext h4).ext h5;replace C:=(C.ext h4).ext h5;clear h4 h5 NN RT;by_cases e0 : Ne = 0;rotate_left
  ·have g0 : (Ne == 0) = false := beq_eq_false_iff_ne.2 e0;have g0n : (Ne != 0) = true := by rw [bne, g0]; rfl
   have hr:=HR2.out;rw [if_pos e0] at hr;subst hr;clear HR2 e0 NA;have f0:=B2.frozen 0;have f1:=B2.frozen 1;obtain ⟨x0,x1⟩:=B2.c2;have lx:=B2.lt;have H9:=Qo B2 (.int .i64 0) (.int .i64 0);have EF:=(E.setCell (p:=⟨b2,0,none⟩) hbr (.int .i64 0)).setCell (p:=⟨b2,1,none⟩) hbr (.int .i64 0);obtain ⟨y0,y1⟩:=H9.c2;go_wp2;refine bodyPost_ret (v:=.tuple #[.agg #[.int .i64 0,.int .i64 0],.int .i64 Ne]) (by simp [results,Tryz.results40,go_sem,y0,y1]) rfl ⟨rfl,EF⟩
  subst e0;obtain ⟨k0,k1⟩:=H3.c2;have lk:=H3.lt;generalize c.availV f n = M at *;obtain ⟨⟨Mn,Md⟩,Me⟩:=M;simp only [] at HR2 NA hai;go_upto_region 8 with (go_at_call 88;(with_reducible refine zc (NA _ C RS Z0) ?_);rintro e w6 ⟨rfl,h6⟩)
  obtain ⟨v6,hv⟩:=Qf (w6.alloc (.cells #[.int .i64 Mn,.int .i64 Md] 65));rw [← hv];have h7 : Qb w6 v6:=by rw [hv];exact (Qb.refl _).alloc _
  have H6 : Qc v6 w6.heap.size 65 #[.int .i64 Mn,.int .i64 Md]:=by rw [hv];exact Qc.new _ _ _
  clear hv;generalize w6.heap.size = b6 at *;replace E:=(E.trans h6).trans h7;replace B2:=(B2.ext h6).ext h7;replace H4:=(H4.ext h6).ext h7;replace Z0:=(Z0.ext h6).ext h7;clear h6 h7 NA RS C k0 k1 lk H3;by_cases e0 : Me = 0;rotate_left
  ·have g0 : (Me == 0) = false := beq_eq_false_iff_ne.2 e0;have g0n : (Me != 0) = true := by rw [bne, g0]; rfl
   have hr:=HR2.out;rw [if_neg (by simp),if_pos e0] at hr;subst hr;clear HR2 e0;have f0:=B2.frozen 0;have f1:=B2.frozen 1;obtain ⟨x0,x1⟩:=B2.c2;have lx:=B2.lt;have H9:=Qo B2 (.int .i64 0) (.int .i64 0);have EF:=(E.setCell (p:=⟨b2,0,none⟩) hbr (.int .i64 0)).setCell (p:=⟨b2,1,none⟩) hbr (.int .i64 0);obtain ⟨y0,y1⟩:=H9.c2;go_wp2;refine bodyPost_ret (v:=.tuple #[.agg #[.int .i64 0,.int .i64 0],.int .i64 Me]) (by simp [results,Tryz.results40,go_sem,y0,y1]) rfl ⟨rfl,EF⟩
  subst e0;have NS:=fun w z => Hv ⟨Mn,Md⟩ ⟨Nn,Nd⟩ hai hni w z
  have hr:=HR2.out;rw [if_neg (by simp),if_neg (by simp)] at hr;rw [← hr] at NS;clear HR2 hr;obtain ⟨⟨Rn,Rd⟩,Re⟩:=R;obtain ⟨k0,k1⟩:=H4.c2;have lk:=H4.lt;obtain ⟨p0,p1⟩:=H6.c2;have lp:=H6.lt;go_wp2_with (first | (go_at_call 89;(with_reducible refine zc (NS _ Z0) ?_);rintro e wt ⟨rfl,ht⟩;replace E:=E.trans ht;replace B2:=B2.ext ht;have f0:=B2.frozen 0;have f1:=B2.frozen 1;obtain ⟨x0,x1⟩:=B2.c2;have lx:=B2.lt));have H9:=Qo B2 (.int .i64 Rn) (.int .i64 Rd);have EF:=(E.setCell (p:=⟨b2,0,none⟩) hbr (.int .i64 Rn)).setCell (p:=⟨b2,1,none⟩) hbr (.int .i64 Rd);obtain ⟨y0,y1⟩:=H9.c2;go_wp2;refine bodyPost_ret (v:=.tuple #[.agg #[.int .i64 Rn,.int .i64 Rd],.int .i64 Re]) (by simp [results,Tryz.results40,go_sem,y0,y1]) rfl ⟨rfl,EF⟩
theorem Qhx (A A' : Option Addr) (ca cb : Nat) (c : Qd) (T : Option Addr) (nt capt : Nat) (t : Nat → Tk) (s : Rt) (hs : s.In) (d d2 : Dt) (w : World) (hC : Zg w A ca A' cb c) (hint : ∀ i,i < nt → (t i).a.In ∧ (t i).r.In) (hT : Qs w T nt 4 (Y3 t)) (hnt : nt ≤ 9223372036854775807) (hZ : Z6 w) :
  Calls Tryz.prog 41 #[.agg #[.slice A c.nk ca,.slice A' c.ny cb],.slice T nt capt,.agg #[.int .i64 s.n,.int .i64 s.d],.agg #[.int .i64 d.y,.int .i64 d.m,.bool d.s,.int .i64 d.d],.agg #[.int .i64 d2.y,.int .i64 d2.m,.bool d2.s,.int .i64 d2.d]] w fun e w' => e = .returned (.tuple #[.int .i64 (c.fewV t nt s d d2).1,.int .i64 (c.fewV t nt s d d2).2]) ∧ Qb w w':=by
 have NO:=fun w h => Ov A A' ca cb c w h
 have NN:=fun w h z => Qa4 T nt capt t w hint h hnt z
 have NS:=fun w => Hu s hs w
 have NSP:=fun w h => Dr A A' ca cb c d d2 w h
 have NB:=fun w h => Gg A A' ca cb c d d2 w h
 obtain ⟨R,hR0⟩:=Qf (c.fewV t nt s d d2);rw [← hR0];have HR:=Lib.hid hR0;clear hR0
 go_enter Tryz.func41,Tryz.ntmps41
 go_upto_region 1 with (fail)
 obtain ⟨v,b1,b2,b3,b4,E,B1,B2,B3,B4,hbr1,hbr2,hbr3,hbr,hn21,hn31,hn32,hn41,hn42,hn43,hv,hb1,hb2,hb3,hb4⟩:=Hz w 25 #[.slice A c.nk ca,.slice A' c.ny cb] 65 #[.int .i64 s.n,.int .i64 s.d] 51 #[.int .i64 d.y,.int .i64 d.m,.bool d.s,.int .i64 d.d] 51 #[.int .i64 d2.y,.int .i64 d2.m,.bool d2.s,.int .i64 d2.d];rw [← hv,← hb4,← hb3,← hb2,← hb1];clear hv hb1 hb2 hb3 hb4;have RT:=hT.ext E;have Z0:=hZ.ext E;have C:=hC.ext E;clear hT hZ;obtain ⟨k0,k1⟩:=B1.c2;have lk:=B1.lt;cases hv : c.valid
 ·have hr : R = (0, 70) := by rw [HR.out]; unfold Qd.fewV; rw [hv]; rfl
  have hc : c.chk = 70:=by unfold Qd.chk;rw [hv];rfl
  simp only [hc] at NO;subst hr;clear HR hc hv NN;go_wp2_with (go_at_call 64;(with_reducible refine zc (NO _ (hC.ext E)) ?_);rintro e w1 ⟨rfl,h1⟩);go_ret2;exact ⟨rfl,(E.trans h1).alloc _⟩
 ·have hc : c.chk = 0 := by unfold Qd.chk; rw [hv]; rfl
  simp only [hc] at NO;have HR2 : Hid (R = if (Jh t nt).2 ≠ 0 then (0,(Jh t nt).2) else if s.shr && decide (s.n ≠ 0) && (decide (0 < c.numV d) && decide (c.numV d ≤ c.numV d2)) then (if 4096 < c.fewN t nt s d d2 then (0,8) else (c.fewN t nt s d d2,0)) else (0,81)):=by unfold Hid;rw [HR.out];unfold Qd.fewV;rw [hv];rfl
  have hni:=Qhw t nt;clear HR hc;go_upto_region 4 with (go_at_call 64;(with_reducible refine zc (NO _ (hC.ext E)) ?_);rintro e w1 ⟨rfl,h1⟩)
  obtain ⟨v3,hv⟩:=Qf (w1.alloc (.cells #[.slice A c.nk ca,.slice A' c.ny cb] 130));rw [← hv];have h3 : Qb w1 v3:=by rw [hv];exact (Qb.refl _).alloc _
  have H3 : Qc v3 w1.heap.size 130 #[.slice A c.nk ca,.slice A' c.ny cb]:=by rw [hv];exact Qc.new _ _ _
  clear hv;generalize w1.heap.size = b3' at *;replace E:=(E.trans h1).trans h3;replace B2:=(B2.ext h1).ext h3;replace B3:=(B3.ext h1).ext h3;replace B4:=(B4.ext h1).ext h3;replace RT:=(RT.ext h1).ext h3;replace Z0:=(Z0.ext h1).ext h3;replace C:=(C.ext h1).ext h3;clear h1 h3 k0 k1 lk B1 NO;have hfn : Hid (c.fewN t nt s d d2 = ((Jh t nt).1.n * s.d + s.n * (c.schV d d2 + 1) * (Jh t nt).1.d - 1) / (s.n * (c.schV d d2 + 1) * (Jh t nt).1.d)):=rfl;generalize c.fewN t nt s d d2 = q at *;generalize Jh t nt = N at *;obtain ⟨⟨Nn,Nd⟩,Ne⟩:=N;simp only [] at HR2 NN hni hfn;go_upto_region 5 with (go_at_call 87;(with_reducible refine zc (NN _ RT Z0) ?_);rintro e w4 ⟨rfl,h4⟩)
  obtain ⟨v4,hv⟩:=Qf (w4.alloc (.cells #[.int .i64 Nn,.int .i64 Nd] 65));rw [← hv];have h5 : Qb w4 v4:=by rw [hv];exact (Qb.refl _).alloc _
  have H4 : Qc v4 w4.heap.size 65 #[.int .i64 Nn,.int .i64 Nd]:=by rw [hv];exact Qc.new _ _ _
  clear hv;generalize w4.heap.size = b4' at *;replace E:=(E.trans h4).trans h5;replace B2:=(B2.ext h4).ext h5;replace B3:=(B3.ext h4).ext h5;replace B4:=(B4.ext h4).ext h5;replace H3:=(H3.ext h4).ext h5;replace C:=(C.ext h4).ext h5;clear h4 h5 NN RT Z0;by_cases e0 : Ne = 0;rotate_left
  ·have g0 : (Ne == 0) = false := beq_eq_false_iff_ne.2 e0;have g0n : (Ne != 0) = true := by rw [bne, g0]; rfl
   have hr:=HR2.out;rw [if_pos e0] at hr;subst hr;clear HR2 e0;go_wp2;go_ret2;exact ⟨rfl,E⟩
  subst e0;have HR3 : Hid (R = if s.shr && decide (s.n ≠ 0) && (decide (0 < c.numV d) && decide (c.numV d ≤ c.numV d2)) then (if 4096 < q then (0,8) else (q,0)) else (0,81)):=by unfold Hid;rw [HR2.out,if_neg (by simp)]
  clear HR2;obtain ⟨k0,k1⟩:=H3.c2;have lk:=H3.lt;obtain ⟨s0,s1⟩:=B2.c2;have ls:=B2.lt;obtain ⟨d0,d1,d2',d3⟩:=B3.c4;have ld:=B3.lt;obtain ⟨u0,u1,u2,u3⟩:=B4.c4;have lu:=B4.lt;cases g1 : s.shr
  ·have hr:=HR3.out;rw [g1,Bool.false_and,Bool.false_and,if_neg (by decide)] at hr;simp only [g1] at NS;subst hr;clear HR3 g1;go_wp2_with (go_at_call 90;(with_reducible refine zc (NS _) ?_);rintro e w5 ⟨rfl,h5⟩;clear k0 k1 lk d0 d1 d2' d3 ld u0 u1 u2 u3 lu s0 s1 ls;obtain ⟨k0,k1⟩:=(H3.ext h5).c2;have lk:=(H3.ext h5).lt;obtain ⟨s0,s1⟩:=(B2.ext h5).c2;have ls:=(B2.ext h5).lt;obtain ⟨d0,d1,d2',d3⟩:=(B3.ext h5).c4;have ld:=(B3.ext h5).lt;obtain ⟨u0,u1,u2,u3⟩:=(B4.ext h5).c4;have lu:=(B4.ext h5).lt);go_ret2;exact ⟨rfl,E.trans h5⟩
  ·simp only [g1] at NS;by_cases g2 : s.n = 0
   ·have hr := HR3.out;rw [g1, decide_eq_false (fun h => h g2), Bool.and_false, Bool.false_and, if_neg (by decide)] at hr;subst hr;have g2b : (s.n == 0) = true := by rw [g2]; rfl
    clear HR3 g1 g2;go_wp2_with (go_at_call 90;(with_reducible refine zc (NS _) ?_);rintro e w5 ⟨rfl,h5⟩;clear k0 k1 lk d0 d1 d2' d3 ld u0 u1 u2 u3 lu s0 s1 ls;obtain ⟨k0,k1⟩:=(H3.ext h5).c2;have lk:=(H3.ext h5).lt;obtain ⟨s0,s1⟩:=(B2.ext h5).c2;have ls:=(B2.ext h5).lt;obtain ⟨d0,d1,d2',d3⟩:=(B3.ext h5).c4;have ld:=(B3.ext h5).lt;obtain ⟨u0,u1,u2,u3⟩:=(B4.ext h5).c4;have lu:=(B4.ext h5).lt);go_ret2;exact ⟨rfl,E.trans h5⟩
   ·have g2b : (s.n == 0) = false:=beq_eq_false_iff_ne.2 g2;cases hsp : (decide (0 < c.numV d) && decide (c.numV d ≤ c.numV d2))
    ·have hr:=HR3.out;rw [hsp,Bool.and_false,if_neg (by decide)] at hr;simp only [hsp] at NSP;subst hr;clear HR3 g1 g2 hsp;go_wp2_with (first | (go_at_call 90;(with_reducible refine zc (NS _) ?_);rintro e w5 ⟨rfl,h5⟩;clear k0 k1 lk d0 d1 d2' d3 ld u0 u1 u2 u3 lu s0 s1 ls;obtain ⟨k0,k1⟩:=(H3.ext h5).c2;have lk:=(H3.ext h5).lt;obtain ⟨s0,s1⟩:=(B2.ext h5).c2;have ls:=(B2.ext h5).lt;obtain ⟨d0,d1,d2',d3⟩:=(B3.ext h5).c4;have ld:=(B3.ext h5).lt;obtain ⟨u0,u1,u2,u3⟩:=(B4.ext h5).c4;have lu:=(B4.ext h5).lt) | (go_at_call 91;(with_reducible refine zc (NSP _ (C.ext h5)) ?_);rintro e w6 ⟨rfl,h6⟩));go_ret2;exact ⟨rfl,(E.trans h5).trans h6⟩
    ·have hr:=HR3.out;rw [hsp,g1,decide_eq_true g2,Bool.and_true,Bool.and_true,if_pos rfl] at hr;have hbd:=few_bd hv hsp g1 g2 (hni rfl);simp only [hsp] at NSP;clear HR3 hsp g1 hv;replace hr:=Lib.hid hr;generalize c.schV d d2 = z at *;obtain ⟨x1,x2,x3,x4,x5,x6,x7,x8⟩:=hbd;have v1 : IntKind.i64.wrap (z + 1) = z + 1:=Zy Qa Qa;have v2 : IntKind.i64.wrap (s.n * (z + 1)) = s.n * (z + 1):=Zy Qa Qa;have v3' : IntKind.i64.wrap (s.n * (z + 1) * Nd) = s.n * (z + 1) * Nd:=Zy Qa Qa;have v4' : IntKind.i64.wrap (Nn * s.d) = Nn * s.d:=Zy Qa Qa;have v5 : IntKind.i64.wrap (Nn * s.d + s.n * (z + 1) * Nd) = Nn * s.d + s.n * (z + 1) * Nd:=Zy Qa Qa;have v6 : IntKind.i64.wrap (Nn * s.d + s.n * (z + 1) * Nd - 1) = Nn * s.d + s.n * (z + 1) * Nd - 1:=Zy Qa Qa
     have v7 : IntKind.i64.wrap ((Nn * s.d + s.n * (z + 1) * Nd - 1).tdiv (s.n * (z + 1) * Nd)) = q:=by
      rw [Int.tdiv_eq_ediv_of_nonneg Qa,← hfn.out];have h1 : 0 ≤ q:=by rw [hfn.out];exact Int.ediv_nonneg Qa Qa
      have h2 : q ≤ Nn * s.d + s.n * (z + 1) * Nd - 1:=by rw [hfn.out];exact Int.ediv_le_self _ Qa
      exact Zy Qa Qa
     have v8 : (s.n * (z + 1) * Nd == 0) = false:=beq_eq_false_iff_ne.2 Qa;have v9 : s.n * (z + 1) * Nd ≠ 0:=by omega
     clear x1 x2 x3 x4 x5 x6 x7 x8 hfn hni g2;go_upto_region 9 with (first | (go_at_call 90;(with_reducible refine zc (NS _) ?_);rintro e w5 ⟨rfl,h5⟩;clear k0 k1 lk d0 d1 d2' d3 ld u0 u1 u2 u3 lu s0 s1 ls;obtain ⟨k0,k1⟩:=(H3.ext h5).c2;have lk:=(H3.ext h5).lt;obtain ⟨s0,s1⟩:=(B2.ext h5).c2;have ls:=(B2.ext h5).lt;obtain ⟨d0,d1,d2',d3⟩:=(B3.ext h5).c4;have ld:=(B3.ext h5).lt;obtain ⟨u0,u1,u2,u3⟩:=(B4.ext h5).c4;have lu:=(B4.ext h5).lt) | (go_at_call 91;(with_reducible refine zc (NSP _ (C.ext h5)) ?_);rintro e w6 ⟨rfl,h6⟩))
     replace E:=(E.trans h5).trans h6;replace C:=(C.ext h5).ext h6;replace B2:=(B2.ext h5).ext h6;replace B3:=(B3.ext h5).ext h6;replace B4:=(B4.ext h5).ext h6;replace H3:=(H3.ext h5).ext h6;replace H4:=(H4.ext h5).ext h6;clear h5 h6 k0 k1 lk s0 s1 ls d0 d1 d2' d3 ld u0 u1 u2 u3 lu NS NSP;obtain ⟨k0,k1⟩:=H3.c2;have lk:=H3.lt;obtain ⟨s0,s1⟩:=B2.c2;have ls:=B2.lt;obtain ⟨d0,d1,d2',d3⟩:=B3.c4;have ld:=B3.lt;obtain ⟨u0,u1,u2,u3⟩:=B4.c4;have lu:=B4.lt;obtain ⟨t0,t1⟩:=H4.c2;have lt:=H4.lt;have n1:=fun u : XW _ => NB _ (C.ext u.e)
     refine Zo w6 ?_;intro w7 h7;clear n1;obtain ⟨hcbw7,hfbw7,hzbw7,hzw7⟩:=Zn w6 h7;by_cases c1 : 4096 < q
     ·have gg : decide (4096 < q) = true:=decide_eq_true c1;have hr':=hr.out;rw [if_pos c1] at hr';subst hr';clear hr c1;go_wp2;go_ret2;exact ⟨rfl,E.trans h7⟩
     ·have gg : decide (4096 < q) = false:=decide_eq_false c1;have hr':=hr.out;rw [if_neg c1] at hr';subst hr';clear hr c1;go_wp2;go_ret2;exact ⟨rfl,E.trans h7⟩
end
section
open Go Go.RowKit
theorem Qho (w : World) (x0 y0 : ByteArray) (x1 y1 : Int) : (Op.equalIn 10000 85 (.agg #[.string x0,.int .i64 x1]) (.agg #[.string y0,.int .i64 y1])).run Tryz.prog w = .ok ((x0.toList == y0.toList) && (x1 == y1)) w:=by
 go_simp
 by_cases h0 : x0.toList = y0.toList;rotate_left
 ·simp [h0]
 by_cases h1 : x1 = y1;rotate_left
 ·simp [h1]
 simp [h0,h1]
theorem Pw (w : World) (x0 y0 : ByteArray) (x1 y1 : Int) : (binOp .neq 85 (.agg #[.string x0,.int .i64 x1]) (.agg #[.string y0,.int .i64 y1])).run Tryz.prog w = .ok (.bool (!((x0.toList == y0.toList) && (x1 == y1)))) w:=by rw [run_neq_struct,Qho];rfl
theorem Qhq (w : World) (x0 y0 : Int) (x1 y1 : Int) : (Op.equalIn 10000 65 (.agg #[.int .i64 x0,.int .i64 x1]) (.agg #[.int .i64 y0,.int .i64 y1])).run Tryz.prog w = .ok ((x0 == y0) && (x1 == y1)) w:=by
 go_simp
 by_cases h0 : x0 = y0;rotate_left
 ·simp [h0]
 by_cases h1 : x1 = y1;rotate_left
 ·simp [h1]
 simp [h0,h1]
theorem Qk3 (w : World) (x0 y0 : Int) (x1 y1 : Int) : (binOp .neq 65 (.agg #[.int .i64 x0,.int .i64 x1]) (.agg #[.int .i64 y0,.int .i64 y1])).run Tryz.prog w = .ok (.bool (!((x0 == y0) && (x1 == y1)))) w:=by rw [run_neq_struct,Qhq];rfl
theorem Qhl (w : World) (x0 y0 : Int) (x1 y1 : Int) (x2 y2 : Int) (x3 y3 : Int) (x4 y4 : Int) (x5 y5 : Int) : (Op.equalIn 10000 72 (.agg #[.int .i64 x0,.int .i64 x1,.int .i64 x2,.int .i64 x3,.int .i64 x4,.int .i64 x5]) (.agg #[.int .i64 y0,.int .i64 y1,.int .i64 y2,.int .i64 y3,.int .i64 y4,.int .i64 y5])).run Tryz.prog w = .ok ((x0 == y0) && ((x1 == y1) && ((x2 == y2) && ((x3 == y3) && ((x4 == y4) && (x5 == y5)))))) w:=by
 go_simp
 by_cases h0 : x0 = y0;rotate_left
 ·simp [h0]
 by_cases h1 : x1 = y1;rotate_left
 ·simp [h1]
 by_cases h2 : x2 = y2;rotate_left
 ·simp [h2]
 by_cases h3 : x3 = y3;rotate_left
 ·simp [h3]
 by_cases h4 : x4 = y4;rotate_left
 ·simp [h4]
 by_cases h5 : x5 = y5;rotate_left
 ·simp [h5]
 simp [h0,h1,h2,h3,h4,h5]
theorem Qk1 (w : World) (x0 y0 : Int) (x1 y1 : Int) (x2 y2 : Int) (x3 y3 : Int) (x4 y4 : Int) (x5 y5 : Int) : (binOp .neq 72 (.agg #[.int .i64 x0,.int .i64 x1,.int .i64 x2,.int .i64 x3,.int .i64 x4,.int .i64 x5]) (.agg #[.int .i64 y0,.int .i64 y1,.int .i64 y2,.int .i64 y3,.int .i64 y4,.int .i64 y5])).run Tryz.prog w = .ok (.bool (!((x0 == y0) && ((x1 == y1) && ((x2 == y2) && ((x3 == y3) && ((x4 == y4) && (x5 == y5)))))))) w:=by rw [run_neq_struct,Qhl];rfl
theorem Qhm (w : World) (x0 y0 : Int) (x1 y1 : Int) (x2 y2 : Int) : (Op.equalIn 10000 116 (.agg #[.int .i64 x0,.int .i64 x1,.int .i64 x2]) (.agg #[.int .i64 y0,.int .i64 y1,.int .i64 y2])).run Tryz.prog w = .ok ((x0 == y0) && ((x1 == y1) && (x2 == y2))) w:=by
 go_simp
 by_cases h0 : x0 = y0;rotate_left
 ·simp [h0]
 by_cases h1 : x1 = y1;rotate_left
 ·simp [h1]
 by_cases h2 : x2 = y2;rotate_left
 ·simp [h2]
 simp [h0,h1,h2]
theorem Qk2 (w : World) (x0 y0 : Int) (x1 y1 : Int) (x2 y2 : Int) : (binOp .neq 116 (.agg #[.int .i64 x0,.int .i64 x1,.int .i64 x2]) (.agg #[.int .i64 y0,.int .i64 y1,.int .i64 y2])).run Tryz.prog w = .ok (.bool (!((x0 == y0) && ((x1 == y1) && (x2 == y2))))) w:=by rw [run_neq_struct,Qhm];rfl
end
section
open Go Go.RowKit Go.Shelf
attribute [local go_sem] Zx
attribute [local go_sem high] Pw
end
section
open Go Go.RowKit Go.Shelf
attribute [local go_sem] Zx
theorem Q7 {W : World} {b : Nat} {t : TypeId} {v0 v1 v2 v3 v4 v5 v6 : Value} (h : Qc W b t #[v0,v1,v2,v3,v4,v5,v6]) : W.cell? ⟨b,0,none⟩ = some v0 ∧ W.cell? ⟨b,1,none⟩ = some v1 ∧ W.cell? ⟨b,2,none⟩ = some v2 ∧ W.cell? ⟨b,3,none⟩ = some v3 ∧ W.cell? ⟨b,4,none⟩ = some v4 ∧ W.cell? ⟨b,5,none⟩ = some v5 ∧ W.cell? ⟨b,6,none⟩ = some v6:=⟨h.cell 0,h.cell 1,h.cell 2,h.cell 3,h.cell 4,h.cell 5,h.cell 6⟩
theorem Vj {f f' : Nat → List Value} : ∀ k,(∀ i,i < k → f i = f' i) → Q0 f k = Q0 f' k
 | 0,_ => rfl
 | k + 1,h => by rw [Ud,Ud,Vj k (fun i hi => h i Qa),h k Qa]
theorem Ly {W : World} {b b' s1 s2 k1 k2 : Nat} {e1 e2 : TypeId} {v1 v2 : Value} {x1 x2 : List Value} (h1 : W.ownsRow b e1 s1 v1 k1 x1) (h2 : W.ownsRow b' e2 s2 v2 k2 x2) (hne : e1 ≠ e2) : v1.ownBlock = none ∨ v1.ownBlock ≠ v2.ownBlock:=by
 cases hb : v1.ownBlock with
 | none => exact .inl rfl
 | some r =>
  refine .inr fun e => ?_
  obtain ⟨_,c1,g1⟩:=Va h1 r hb;obtain ⟨_,c2,g2⟩:=Va h2 r e.symm;rw [g1] at g2;simp at g2;exact hne g2.2
def Xn (W : World) (b : Nat) (v : Value) (l : List Lt) : Prop:=W.ownsRow b 85 2 v l.length (l.flatMap Jw)
/-- Deals in an own row, each with lots in an own row. -/
def Yu (W : World) (b : Nat) (v : Value) (n : Nat) (g : Nat → Dl) : Prop:=∃ vs : Nat → Value,W.ownsRow b 57 7 v n (Q0 (fun i => Zr (g i) (vs i)) n) ∧ ∀ i,i < n → Xn W b (vs i) (g i).l
theorem Yu.ext {W W' : World} {b n : Nat} {v : Value} {g : Nat → Dl} (h : Yu W b v n g) (x : Qb W W') : Yu W' b v n g:=by
 obtain ⟨vs,h1,h2⟩:=h;exact ⟨vs,Ja h1 x,fun i hi => Ja (h2 i hi) x⟩
theorem Yu.le {W : World} {b b' n : Nat} {v : Value} {g : Nat → Dl} (h : Yu W b v n g) (hb : b' ≤ b) : Yu W b' v n g:=by
 obtain ⟨vs,h1,h2⟩:=h;exact ⟨vs,h1.mono hb,fun i hi => World.ownsRow.mono (h2 i hi) hb⟩
theorem Qg8 {W : World} {b : Nat} {v : Value} {l : List Dl} (h : Yu W b v l.length (fun i => l.getD i Qw)) : W9 W v l:=by
 obtain ⟨vs,h1,h2⟩:=h;obtain ⟨F,c,g1,g2,g3,g4,g5,_⟩:=Ue (f:=fun i => Zr (l.getD i Qw) (vs i)) (fun _ => rfl) h1;exact ⟨F,c,vs,g1,g2,g3,g4,g5,fun i hi => Wz (h2 i hi)⟩
theorem Ip : (Tryz.prog.info? 57).map (fun i => (i.zero,i.size,i.bytes)) = some (some (.agg #[.int .i64 0,.int .i64 0,.bool false,.int .i64 0,.bool false,.string ⟨#[]⟩,.slice none 0 0]),7,80):=by kernel_rfl
theorem C0 (d : Dl) (F : Option Addr) (n m : Nat) : ∀ u ∈ Zr d (.slice F n m),u.oneCell' = true:=by simp [Zr,Value.oneCell']
theorem Wy {W : World} {b : Nat} {t : TypeId} {cs : Array Value} (h : Qc W b t cs) (i : Nat) (u : Value) : Qc (W.setCell ⟨b,i,none⟩ u) b t (cs.setIfInBounds i u):=by unfold Qc at h ⊢;simp [World.setCell,Array.getElem?_modify,h]
theorem A9 {W : World} {b n : Nat} {v : Value} {g : Nat → Dl} (h : Yu W b v n g) : ∃ F m,v = .slice F n m:=by
 obtain ⟨_,h1,_⟩:=h;exact Jt h1
structure Yf (W : World) (b : Nat) (p : Pd) (vo vd vc : Value) : Prop where
 o : Xn W b vo p.o
 d : Yu W b vd p.d.length (fun i => p.d.getD i Qw)
 c : Xn W b vc p.c
theorem Qlr {W : World} {b : Nat} {p : Pd} {vo vd vc : Value} (h : Yf W b p vo vd vc) : Xo W p vo vd vc:=⟨Wz h.o,Qg8 h.d,Wz h.c⟩
theorem Yf.ext {W W' : World} {b : Nat} {p : Pd} {vo vd vc : Value} (h : Yf W b p vo vd vc) (x : Qb W W') : Yf W' b p vo vd vc:=⟨Ja h.o x,h.d.ext x,Ja h.c x⟩
theorem Yf.le {W : World} {b b' : Nat} {p : Pd} {vo vd vc : Value} (h : Yf W b p vo vd vc) (hb : b' ≤ b) : Yf W b' p vo vd vc:=⟨U5 h.o hb,h.d.le hb,U5 h.c hb⟩
theorem Yu.set {W : World} {bb : Nat} {t : TypeId} {cs : Array Value} (hB : Qc W bb t cs) (h1 : t ≠ 85) (h2 : t ≠ 57) {b n : Nat} {v : Value} {g : Nat → Dl} (h : Yu W b v n g) (j : Nat) (u : Value) : Yu (W.setCell ⟨bb,j,none⟩ u) b v n g:=by
 obtain ⟨vs,g1,g2⟩:=h;exact ⟨vs,Y8 hB h2 g1 j u,fun i hi => Y8 hB h1 (g2 i hi) j u⟩
end
section
open Go Go.RowKit Go.Shelf
attribute [local go_sem] Zx
attribute [local go_sem high] Pw
theorem Qjr {l1 l2 : List Lt} {k : Nat} (h : Zb l1 k ≠ Zb l2 k) : l1 ≠ l2:=fun e => h (by rw [e])
theorem Qjp {l1 l2 : List Lt} (hl : l1.length = l2.length) (h : ∀ k,k < l1.length → Zb l1 k = Zb l2 k) : l1 = l2:=by
 refine List.ext_getElem hl fun i h1 h2 => ?_
 have:=h i h1
 rwa [U3 h1,U3 h2] at this
theorem lt_ext {x y : Lt} (h1 : x.g = y.g) (h2 : x.n = y.n) : x = y:=by cases x;cases y;simp_all
theorem Py {c : Qd} (hv : c.valid = true) (d : Dt) : 0 ≤ c.numV d ∧ c.numV d ≤ 1000000000:=by
 refine ⟨Qk9 hv,?_⟩;by_cases h : c.numV d = 0
 ·omega
 ·obtain ⟨h1,h2,_⟩:=Fk hv h;have h3:=(num_le h1).2;have h4:=(Gv c c.ny).2;have h5:=Qbl hv;omega
theorem St (v1 v2 : Value) (l1 l2 : List Lt) (w : World) (h1 : Zq w v1 l1) (h2 : Zq w v2 l2) :
  Calls Tryz.prog 74 #[v1,v2] w fun e w' => e = .returned (.bool (decide (l1 = l2))) ∧ Qb w w':=by
 obtain ⟨A,ca,rfl,hA,hca,hca',_⟩:=h1;obtain ⟨B,cb,rfl,hB,hcb,hcb',_⟩:=h2;have hn1 : l1.length ≤ 9223372036854775807:=Nat.le_trans hca (Nat.le_trans hca' (by decide));have hn2 : l2.length ≤ 9223372036854775807:=Nat.le_trans hcb (Nat.le_trans hcb' (by decide));clear hca hca' hcb hcb';by_cases hl : l1.length = l2.length;rotate_left
 ·have hr : decide (l1 = l2) = false:=decide_eq_false fun e => hl (by rw [e])
  rw [hr];have g1 : ((l1.length : Int) == (l2.length : Int)) = false:=beq_eq_false_iff_ne.2 Qa;have g2 : (l1.length == l2.length) = false:=beq_eq_false_iff_ne.2 hl;clear hr hA hB;generalize l1.length = n1 at *;generalize l2.length = n2 at *
  go_enter Tryz.func74,Tryz.ntmps74
  go_wp2;go_ret;exact ⟨rfl,Qb.refl _⟩
 obtain ⟨R,hR⟩:=Qf (decide (l1 = l2));have hno : Hid (∀ k,k < l1.length → Zb l1 k ≠ Zb l2 k → R = false):=fun _ _ h => by rw [hR];exact decide_eq_false (Qjr h)
 have hyes : Hid ((∀ k,k < l1.length → Zb l1 k = Zb l2 k) → R = true):=fun h => by rw [hR];exact decide_eq_true (Qjp hl h)
 rw [← hR];clear hR;rw [← hl] at hB ⊢;clear hl hn2;generalize l1.length = n at *;generalize Zb l1 = f at *;generalize Zb l2 = g at *
 go_enter Tryz.func74,Tryz.ntmps74
 go_upto_region 4 with (fail)
 go_loopw [13] (fun i wr => ∃ k : Nat,k ≤ n ∧ i = .int .i64 k ∧ Hid (∀ j,j < k → f j = g j) ∧ Qb w wr) (fun i _ => n - (intOf i).toNat)
 case atStart => exact ⟨0,Nat.zero_le _,rfl,fun j h => absurd h Qa,Qb.refl _⟩
 case round =>
  obtain ⟨k,hk,rfl,heq,hE⟩:=hrel;obtain ⟨wo,rfl⟩:=Qf wr;by_cases hlt : k < n
  ·obtain ⟨b, off, rfl, hb, hc⟩ := (hA.ext hE) Qa;have c0 : wo.cell? ⟨b, off + k * 2, none⟩ = some (.string (f k).g) := by simpa [Zw] using hc k 0 _ hlt rfl
   have c1 : wo.cell? ⟨b,off + k * 2 + 1,none⟩ = some (.int .i64 (f k).n):=by simpa [Zw] using hc k 1 _ hlt rfl
   clear hc;obtain ⟨b2,off2,rfl,hb2,hc⟩:=(hB.ext hE) Qa;have d0 : wo.cell? ⟨b2,off2 + k * 2,none⟩ = some (.string (g k).g):=by simpa [Zw] using hc k 0 _ hlt rfl
   have d1 : wo.cell? ⟨b2,off2 + k * 2 + 1,none⟩ = some (.int .i64 (g k).n):=by simpa [Zw] using hc k 1 _ hlt rfl
   clear hc hA hB;by_cases e : f k = g k
   ·have hall : Hid (∀ j,j < k + 1 → f j = g j):=fun j hj => by
     by_cases e2 : j = k
     ·subst e2;exact e
     ·exact heq.out j Qa
    rw [← e] at d0 d1;clear heq hno hyes e;generalize (f k).g = s at *;generalize (f k).n = z at *;go_upto_region 6 with (fail)
    refine Zo wo ?_;intro w2 h2;obtain ⟨hcbw2,hfbw2,hzbw2,hzw2⟩:=Zn wo h2;go_wp2;exact ⟨⟨k + 1,by omega,by go_num,hall,hE.trans h2⟩,by simp [intOf];omega⟩
   ·obtain rfl:=hno.out k hlt e
    have hq : (((f k).g.toList == (g k).g.toList) && ((f k).n == (g k).n)) = false:=by
     rw [Bool.and_eq_false_iff];by_cases e1 : (f k).g = (g k).g
     ·exact .inr (beq_eq_false_iff_ne.2 fun e2 => e (lt_ext e1 e2))
     ·exact .inl (beq_eq_false_iff_ne.2 fun e2 => e1 (Nj e2))
    clear heq hno hyes e;generalize (f k).g = s at *;generalize (f k).n = z at *;generalize (g k).g = s' at *;generalize (g k).n = z' at *;generalize hq1 : (s.toList == s'.toList) = q1 at *;generalize hq2 : (z == z') = q2 at *;have hq' : (q1 = true → q2 = false):=by cases q1 <;> simp_all
    go_upto_region 6 with (fail)
    refine Zo wo ?_;intro w2 h2;obtain ⟨hcbw2,hfbw2,hzbw2,hzw2⟩:=Zn wo h2;cases q1 <;> cases q2 <;> first | (exact absurd (hq' rfl) (by decide)) | (go_wp2;go_ret;exact ⟨rfl,hE.trans h2⟩)
  ·obtain rfl : k = n := by omega
   obtain rfl:=hyes.out heq.out;go_wp2;go_ret;exact ⟨rfl,hE⟩
theorem Qe8 (A A' : Option Addr) (ca cb : Nat) (c : Qd) (x y : Pd) (xo xd xc yo yd yc : Value) (w : World) (hC : Zg w A ca A' cb c) (hv : c.valid = true) (hX : Xo w x xo xd xc) (hY : Xo w y yo yd yc) :
  Calls Tryz.prog 60 #[.agg #[.slice A c.nk ca,.slice A' c.ny cb],.agg #[.string x.h,.int .i64 x.a.y,.int .i64 x.a.m,.bool x.a.s,.int .i64 x.a.d,.int .i64 x.b.y,.int .i64 x.b.m,.bool x.b.s,.int .i64 x.b.d,xo,xd,xc],.agg #[.string y.h,.int .i64 y.a.y,.int .i64 y.a.m,.bool y.a.s,.int .i64 y.a.d,.int .i64 y.b.y,.int .i64 y.b.m,.bool y.b.s,.int .i64 y.b.d,yo,yd,yc]] w fun e w' => e = .returned (.bool (c.behV x y)) ∧ Qb w w':=by
 obtain ⟨o1,p1,e1,_⟩:=id hX.o;subst e1;obtain ⟨d1,q1,_,e2,_⟩:=id hX.d;subst e2;obtain ⟨c1,r1,e3,_⟩:=id hX.c;subst e3;obtain ⟨o2,p2,e1,_⟩:=id hY.o;subst e1;obtain ⟨d2,q2,_,e2,_⟩:=id hY.d;subst e2;obtain ⟨c2,r2,e3,_⟩:=id hY.c;subst e3;obtain ⟨R,hR⟩:=Qf (c.behV x y);rw [← hR];unfold Qd.behV at hR;replace hR:=Lib.hid hR;have NX:=fun w h => Yy A A' ca cb c x.b w h
 have NY:=fun w h => Yy A A' ca cb c y.a w h
 have bx:=Py hv x.b;clear hv hX hY
 go_enter Tryz.func60,Tryz.ntmps60
 go_upto_region 1 with (fail)
 obtain ⟨v,b1,b2,b3,E,B1,B2,B3,hbr1,hbr2,hbr,hn21,hn31,hn32,hv,hb1,hb2,hb3⟩:=Uq w 130 #[.slice A c.nk ca,.slice A' c.ny cb] 55 #[.string x.h,.int .i64 x.a.y,.int .i64 x.a.m,.bool x.a.s,.int .i64 x.a.d,.int .i64 x.b.y,.int .i64 x.b.m,.bool x.b.s,.int .i64 x.b.d,.slice o1 x.o.length p1,.slice d1 x.d.length q1,.slice c1 x.c.length r1] 55 #[.string y.h,.int .i64 y.a.y,.int .i64 y.a.m,.bool y.a.s,.int .i64 y.a.d,.int .i64 y.b.y,.int .i64 y.b.m,.bool y.b.s,.int .i64 y.b.d,.slice o2 y.o.length p2,.slice d2 y.d.length q2,.slice c2 y.c.length r2];rw [← hv,← hb3,← hb2,← hb1];clear hv hb1 hb2 hb3;have C:=hC.ext E;clear hC;obtain ⟨k0,k1⟩:=B1.c2;have kl:=B1.lt
 obtain ⟨x0,x1,x2,x3,x4,x5,x6,x7,x8,x9,x10,x11⟩:=B2.c12;have xl:=B2.lt;obtain ⟨y0,y1,y2,y3,y4,y5,y6,y7,y8,y9,y10,y11⟩:=B3.c12;have yl:=B3.lt;generalize c.numV x.b = nx at *;generalize c.numV y.a = ny at *;have hd : Hid (decide (ny = nx + 1) = (ny == nx + 1)):=(by unfold Hid;cases h : (ny == nx + 1) <;> simp_all);by_cases hh : x.h = y.h
 ·have gh : (x.h.toList == y.h.toList) = true := by rw [hh]; exact beq_self_eq_true _
  have hr : Hid (R = (ny == nx + 1)):=by unfold Hid;rw [hR.out,decide_eq_true hh,Bool.true_and];exact hd.out
  clear hh hd hR;have n1:=fun u : XW _ => NX _ (C.ext u.e)
  have n2:=fun u : XW _ => NY _ (C.ext u.e)
  refine Zo v ?_;intro w2 h2;clear n1 n2;obtain ⟨hcbw2,hfbw2,hzbw2,hzw2⟩:=Zn v h2;go_wp2;go_ret;exact ⟨by rw [hr.out];rfl,E.trans h2⟩
 ·have gh : (x.h.toList == y.h.toList) = false:=beq_eq_false_iff_ne.2 fun h => hh (Nj h)
  have hr : Hid (R = false):=by unfold Hid;rw [hR.out,decide_eq_false hh];rfl
  clear hh hd hR;have n1:=fun u : XW _ => NX _ (C.ext u.e)
  have n2:=fun u : XW _ => NY _ (C.ext u.e)
  refine Zo v ?_;intro w2 h2;clear n1 n2;obtain ⟨hcbw2,hfbw2,hzbw2,hzw2⟩:=Zn v h2;go_wp2;go_ret;exact ⟨by rw [hr.out];rfl,E.trans h2⟩
end
section
open Go Go.RowKit Go.Shelf
attribute [local go_sem] Zx
attribute [local go_sem high] Qk0
theorem Qbp {W : World} {b b' : Nat} {t : TypeId} {cs : Array Value} (h : Qc W b' t cs) (hne : b' ≠ b) (u0 u1 u2 u3 u4 u5 u6 : Value) : Qc (((((((W.setCell ⟨b,0,none⟩ u0).setCell ⟨b,1,none⟩ u1).setCell ⟨b,2,none⟩ u2).setCell ⟨b,3,none⟩ u3).setCell ⟨b,4,none⟩ u4).setCell ⟨b,5,none⟩ u5).setCell ⟨b,6,none⟩ u6) b' t cs:=(Qg (Qg (Qg (Qg (Qg (Qg (Qg h hne 0 u0) hne 1 u1) hne 2 u2) hne 3 u3) hne 4 u4) hne 5 u5) hne 6 u6)
end
section
open Go Go.ChangeShapes Go.WideShapes Go.ChangeAt Go.RowKit Go.Deep
section
variable {H : Type} {enc : TypeId × Value → H} {w : World} {base : Nat} {spare : Nat → Bool} {held : Bool} {r : Reach} {b0 : Nat} {v : Value} {d : DataW H} {p : List MemPlace}
theorem Qi4 (hv : Value.okWide Tryz.prog w r b0 3 v) (h : DataW.Trod enc Tryz.prog w base spare held 3 v d p) : ∃ z : Int,v = .int .i64 z ∧ -9223372036854775808 ≤ z ∧ z ≤ 9223372036854775807:=by
 obtain ⟨z,rfl⟩:=okWide_int Tryz.underlying3 hv;obtain ⟨n,h⟩:=h;obtain ⟨z',e,h1⟩:=Ks (v:=.int .i64 z) ⟨_,h⟩;cases e
 exact ⟨z,rfl,h1⟩
end
section
variable {H : Type} {enc : TypeId × Value → H} {w : World} {base : Nat} {spare : Nat → Bool} {held : Bool} {r : Reach} {b0 : Nat} {v : Value} {d : DataW H} {p : List MemPlace}
theorem Qmv {P : Program} {ts : List TypeId} {ds : List (DataW H)} {j : Nat} {t : TypeId} (h : (DataW.weightsEach P ts ds).all (· ≤ reachBytes) = true) (ht : ts[j]? = some t) (hd : ds[j]? = some d) : ∀ n ∈ d.weights P t,n ≤ reachBytes:=fun n hn => by
 have:=List.all_eq_true.1 h _ (DataW.weights_mem_each ht hd n hn)
 simpa using this
theorem Ni {P : Program} {m : Nat} {t : TypeId} {cs : List Value} {o : Nat} {xs : List (DataW H × List MemPlace)} {n i : Nat} (hi : i < xs.length) (h : DataW.trod enc P w base spare held m t ((cs.drop o).take (P.cellsOf t)) = xs[i]?) (hn : P.cellsOf t = n) :
  DataW.trod enc P w base spare held m t ((cs.drop o).take n) = some xs[i]:=by
 rw [hn] at h;rw [h,List.getElem?_eq_getElem hi]
theorem Df : reachBytes = 140737488351232:=rfl
end
end
section
structure Yv where
 e : Int
 r : Int
 l : Int
 deriving DecidableEq
def Mq : Yv:=⟨0,0,0⟩
def nOk (n : Int) : Bool:=decide (0 ≤ n) && decide (n ≤ 1048576)
def Yv.ok (h : Yv) : Bool:=nOk h.e && nOk h.r && nOk h.l
def Zi (n : Int) (d : Rt) : Int:=n - d.n * n / d.d
def Mk (b d : Rt) (h : Yv) : Yv:=⟨Zi h.e d + (Zi h.l d + 1) / 2,Zi h.r d + Zi h.l d / 2,b.n * Zi h.e d / b.d⟩
def Mj (b d : Rt) : Nat → Yv → Yv × Int
 | 0,h => (h,0)
 | m + 1,h => if (Mk b d h).ok then Mj b d m (Mk b d h) else (Mq,6)
def Vk (h : Yv) (b d : Rt) (y : Int) : Yv × Int:=if h.ok then (if b.shr && d.shr then (if y < 0 ∨ 40 < y then (Mq,8) else Mj b d y.toNat h) else (Mq,2)) else (Mq,82)
theorem Ps {n : Int} : nOk n = true ↔ 0 ≤ n ∧ n ≤ 1048576:=by simp [nOk]
theorem Dn {r : Rt} (h : r.shr = true) : 0 ≤ r.n ∧ r.n ≤ r.d ∧ 1 ≤ r.d ∧ r.d ≤ 1048576:=by
 simp only [Rt.shr,Bool.and_eq_true,decide_eq_true_eq] at h;have:=J9 h.1.1;omega
theorem Oy {n : Int} {r : Rt} (h : r.shr = true) (h1 : 0 ≤ n) (h2 : n ≤ 1048576) : 0 ≤ r.n * n ∧ r.n * n ≤ 1099511627776 ∧ 0 ≤ r.n * n / r.d ∧ r.n * n / r.d ≤ n:=by
 obtain ⟨r1,r2,r3,r4⟩:=Dn h;have m0:=Int.mul_nonneg r1 h1;have m1:=My (a:=r.n) (b:=n) (A:=1048576) (B:=1048576) Qa Qa h1 h2;refine ⟨m0,by omega,Int.ediv_nonneg m0 Qa,Int.ediv_le_of_le_mul Qa ?_⟩;rw [Int.mul_comm n];exact Int.mul_le_mul_of_nonneg_right r2 h1
theorem Sm {n : Int} {d : Rt} (h : d.shr = true) (h1 : 0 ≤ n) (h2 : n ≤ 1048576) : 0 ≤ Zi n d ∧ Zi n d ≤ 1048576:=by
 have:=Oy h h1 h2;unfold Zi;omega
end
section
open Go Go.RowKit Go.Shelf
attribute [local go_sem] Zx
def Uj (h : Yv) : Nat → Bool
 | 0 => true
 | 1 => true && (decide (0 ≤ h.e) && decide (h.e ≤ 1048576))
 | 2 => (true && (decide (0 ≤ h.e) && decide (h.e ≤ 1048576))) && (decide (0 ≤ h.r) && decide (h.r ≤ 1048576))
 | _ => ((true && (decide (0 ≤ h.e) && decide (h.e ≤ 1048576))) && (decide (0 ≤ h.r) && decide (h.r ≤ 1048576))) && (decide (0 ≤ h.l) && decide (h.l ≤ 1048576))
section
variable {W w : World} {b : Nat} {t : TypeId} {v0 v1 v2 : Value}
theorem Ic (h : Qc W b t #[v0,v1,v2]) (u : Value) : Qc (W.setCell ⟨b,0,none⟩ u) b t #[u,v1,v2]:=by unfold Qc at h ⊢;simp [World.setCell,Array.getElem?_modify,h]
theorem Ie (h : Qc W b t #[v0,v1,v2]) (u : Value) : Qc (W.setCell ⟨b,1,none⟩ u) b t #[v0,u,v2]:=by unfold Qc at h ⊢;simp [World.setCell,Array.getElem?_modify,h]
theorem Ig (h : Qc W b t #[v0,v1,v2]) (u : Value) : Qc (W.setCell ⟨b,2,none⟩ u) b t #[v0,v1,u]:=by unfold Qc at h ⊢;simp [World.setCell,Array.getElem?_modify,h]
theorem Lp (h : Qc W b t #[v0,v1,v2]) (u0 u1 u2 : Value) : Qc (((W.setCell ⟨b,0,none⟩ u0).setCell ⟨b,1,none⟩ u1).setCell ⟨b,2,none⟩ u2) b t #[u0,u1,u2]:=by unfold Qc at h ⊢;simp [World.setCell,Array.getElem?_modify,h]
theorem Ll (h : Qb w W) (hb : w.heap.size ≤ b) (u0 u1 u2 : Value) : Qb w (((W.setCell ⟨b,0,none⟩ u0).setCell ⟨b,1,none⟩ u1).setCell ⟨b,2,none⟩ u2):=((h.setCell (p:=⟨b,0,none⟩) hb u0).setCell (p:=⟨b,1,none⟩) hb u1).setCell (p:=⟨b,2,none⟩) hb u2
end
def stJ (d : Rt) (g : Yv) : Nat → Yv
 | 0 => g
 | 1 => ⟨Zi g.e d,g.r,g.l⟩
 | 2 => ⟨Zi g.e d,Zi g.r d,g.l⟩
 | _ => ⟨Zi g.e d,Zi g.r d,Zi g.l d⟩
theorem Qle (h : Yv) : Uj h 3 = h.ok:=rfl
theorem Qim (h : Yv) (w : World) :
  Calls Tryz.prog 93 #[.agg #[.int .i64 h.e,.int .i64 h.r,.int .i64 h.l]] w fun e w' => e = .returned (.bool h.ok) ∧ Qb w w':=by
 rw [show h.ok = Uj h 3 from (Qle h).symm];have hix0 : ∀ w,(Instr.index 225 (.agg #[.int .i64 h.e,.int .i64 h.r,.int .i64 h.l]) (.int .i64 0)).run Tryz.prog w = .ok (.int .i64 h.e) w:=fun w => by kernel_rfl
 have hix1 : ∀ w,(Instr.index 225 (.agg #[.int .i64 h.e,.int .i64 h.r,.int .i64 h.l]) (.int .i64 1)).run Tryz.prog w = .ok (.int .i64 h.r) w:=fun w => by kernel_rfl
 have hix2 : ∀ w,(Instr.index 225 (.agg #[.int .i64 h.e,.int .i64 h.r,.int .i64 h.l]) (.int .i64 2)).run Tryz.prog w = .ok (.int .i64 h.l) w:=fun w => by kernel_rfl
 go_enter Tryz.func93,Tryz.ntmps93
 go_upto_region 1 with (fail)
 obtain ⟨v,b1,E,B1,hbr,hv,hb1⟩:=Yi w 116 #[.int .i64 h.e,.int .i64 h.r,.int .i64 h.l];rw [← hv,← hb1];clear hv hb1;obtain ⟨k0,k1,k2⟩:=B1.c3;have lk:=B1.lt;go_upto_region 3 with (fail)
 go_loopw [3,13] (fun ov iv wr => ∃ k : Nat,k ≤ 3 ∧ iv = .int .i64 (k : Int) ∧ ov = .bool (Uj h k) ∧ Qb w wr) (fun _ iv _ => 3 - (intOf iv).toNat)
 case atStart => exact ⟨0,by decide,rfl,rfl,E⟩
 case round =>
  clear E k0 k1 k2 lk B1;obtain ⟨k,hk,rfl,rfl,hE⟩:=hrel;obtain ⟨wo,rfl⟩:=Qf wr;by_cases hlt : k < 3
  ·have h3 : k = 0 ∨ k = 1 ∨ k = 2 := by omega
   rcases h3 with rfl | rfl | rfl
   ·skip
    have hh : Hid (Uj h 1 = (Uj h 0 && (decide (0 ≤ h.e) && decide (h.e ≤ 1048576)))):=rfl;cases hq : Uj h 0
    ·rw [hq] at hh;go_wp2;exact ⟨⟨1,by decide,rfl,by rw [hh.out];rfl,hE⟩,by simp [intOf]⟩
    ·rw [hq] at hh;by_cases h1 : 0 ≤ h.e
     ·have g1 : decide (0 ≤ h.e) = true:=decide_eq_true h1;by_cases h2 : h.e ≤ 1048576
      ·have g2 : decide (h.e ≤ 1048576) = true:=decide_eq_true h2;go_wp2;exact ⟨⟨1,by decide,rfl,by rw [hh.out,g1,g2];rfl,hE⟩,by simp [intOf]⟩
      ·have g2 : decide (h.e ≤ 1048576) = false:=decide_eq_false h2;go_wp2;exact ⟨⟨1,by decide,rfl,by rw [hh.out,g1,g2];rfl,hE⟩,by simp [intOf]⟩
     ·have g1 : decide (0 ≤ h.e) = false:=decide_eq_false h1;go_wp2;exact ⟨⟨1,by decide,rfl,by rw [hh.out,g1];rfl,hE⟩,by simp [intOf]⟩
   ·skip
    have hh : Hid (Uj h 2 = (Uj h 1 && (decide (0 ≤ h.r) && decide (h.r ≤ 1048576)))):=rfl;cases hq : Uj h 1
    ·rw [hq] at hh;go_wp2;exact ⟨⟨2,by decide,rfl,by rw [hh.out];rfl,hE⟩,by simp [intOf]⟩
    ·rw [hq] at hh;by_cases h1 : 0 ≤ h.r
     ·have g1 : decide (0 ≤ h.r) = true:=decide_eq_true h1;by_cases h2 : h.r ≤ 1048576
      ·have g2 : decide (h.r ≤ 1048576) = true:=decide_eq_true h2;go_wp2;exact ⟨⟨2,by decide,rfl,by rw [hh.out,g1,g2];rfl,hE⟩,by simp [intOf]⟩
      ·have g2 : decide (h.r ≤ 1048576) = false:=decide_eq_false h2;go_wp2;exact ⟨⟨2,by decide,rfl,by rw [hh.out,g1,g2];rfl,hE⟩,by simp [intOf]⟩
     ·have g1 : decide (0 ≤ h.r) = false:=decide_eq_false h1;go_wp2;exact ⟨⟨2,by decide,rfl,by rw [hh.out,g1];rfl,hE⟩,by simp [intOf]⟩
   ·skip
    have hh : Hid (Uj h 3 = (Uj h 2 && (decide (0 ≤ h.l) && decide (h.l ≤ 1048576)))):=rfl;cases hq : Uj h 2
    ·rw [hq] at hh;go_wp2;exact ⟨⟨3,by decide,rfl,by rw [hh.out];rfl,hE⟩,by simp [intOf]⟩
    ·rw [hq] at hh;by_cases h1 : 0 ≤ h.l
     ·have g1 : decide (0 ≤ h.l) = true:=decide_eq_true h1;by_cases h2 : h.l ≤ 1048576
      ·have g2 : decide (h.l ≤ 1048576) = true:=decide_eq_true h2;go_wp2;exact ⟨⟨3,by decide,rfl,by rw [hh.out,g1,g2];rfl,hE⟩,by simp [intOf]⟩
      ·have g2 : decide (h.l ≤ 1048576) = false:=decide_eq_false h2;go_wp2;exact ⟨⟨3,by decide,rfl,by rw [hh.out,g1,g2];rfl,hE⟩,by simp [intOf]⟩
     ·have g1 : decide (0 ≤ h.l) = false:=decide_eq_false h1;go_wp2;exact ⟨⟨3,by decide,rfl,by rw [hh.out,g1];rfl,hE⟩,by simp [intOf]⟩
  ·obtain rfl : k = 3 := by omega
   go_wp2;go_ret;exact ⟨rfl,hE⟩
theorem Qh4 (h : Yv) (b d : Rt) (y : Int) (hb : b.In) (hd : d.In) (hy1 : -9223372036854775808 ≤ y) (hy2 : y ≤ 9223372036854775807) (w : World) :
  Calls Tryz.prog 42 #[.agg #[.int .i64 h.e,.int .i64 h.r,.int .i64 h.l],.agg #[.int .i64 b.n,.int .i64 b.d],.agg #[.int .i64 d.n,.int .i64 d.d],.int .i64 y] w fun e w' => e = .returned (.tuple #[.agg #[.int .i64 (Vk h b d y).1.e,.int .i64 (Vk h b d y).1.r,.int .i64 (Vk h b d y).1.l],.int .i64 (Vk h b d y).2]) ∧ Qb w w':=by
 obtain ⟨V,hV0⟩:=Qf (Vk h b d y);rw [← hV0];replace hV0:=Lib.hid hV0;have NH:=fun h w => Qim h w
 have NB:=fun w => Hu b hb w
 have ND:=fun w => Hu d hd w
 go_enter Tryz.func42,Tryz.ntmps42
 go_upto_region 1 with (fail)
 obtain ⟨v,b1,b2,b3,b4,E,Hh,Hb,Hd,Hr,hbr1,hbr2,hbr3,hbr,hn21,hn31,hn32,hn41,hn42,hn43,hv,hb1,hb2,hb3,hb4⟩:=Hz w 116 #[.int .i64 h.e,.int .i64 h.r,.int .i64 h.l] 65 #[.int .i64 b.n,.int .i64 b.d] 65 #[.int .i64 d.n,.int .i64 d.d] 116 #[.int .i64 0,.int .i64 0,.int .i64 0];rw [← hv,← hb4,← hb3,← hb2,← hb1];clear hv hb1 hb2 hb3 hb4;have HE:=E;clear E;obtain ⟨k0,k1,k2⟩:=Hh.c3;have lk:=Hh.lt;obtain ⟨p0,p1⟩:=Hb.c2;have lp:=Hb.lt;obtain ⟨q0,q1⟩:=Hd.c2;have lq:=Hd.lt;have K1:=fun u (hu : Qb v u) => (Hb.ext hu).c2
 cases ho : h.ok
 ·have NH1:=fun w => NH h w
  simp only [ho] at NH1;have hr:=hV0.out;unfold Vk at hr;rw [ho,if_neg (by decide)] at hr;subst hr;clear hV0 ho NH K1;go_upto_region 2 with (go_at_call 93;(with_reducible refine zc (NH1 _) ?_);rintro e w1 ⟨rfl,h1⟩)
  replace HE:=HE.trans h1;replace Hr:=Hr.ext h1;have y0:=Hr.frozen 0;have y1:=Hr.frozen 1;have y2:=Hr.frozen 2;obtain ⟨x0,x1,x2⟩:=Hr.c3;have lx:=Hr.lt;have R3:=Lp Hr (.int .i64 0) (.int .i64 0) (.int .i64 0);have EF:=Ll HE hbr (.int .i64 0) (.int .i64 0) (.int .i64 0);obtain ⟨r0,r1,r2⟩:=R3.c3;go_wp2;refine bodyPost_ret (v:=.tuple #[.agg #[.int .i64 0,.int .i64 0,.int .i64 0],.int .i64 82]) (by simp [results,Tryz.results42,go_sem,r0,r1,r2]) rfl ⟨rfl,EF⟩
 ·have NH1:=fun w => NH h w
  simp only [ho] at NH1;clear K1;have A1 : ∀ u,Qb v u → True:=fun _ _ => trivial
  go_upto_region 3 with (go_at_call 93;(with_reducible refine zc (NH1 _) ?_);rintro e w1 ⟨rfl,h1⟩)
  replace HE:=HE.trans h1;replace Hr:=Hr.ext h1;replace Hh:=Hh.ext h1;replace Hb:=Hb.ext h1;replace Hd:=Hd.ext h1;clear h1 k0 k1 k2 lk p0 p1 lp q0 q1 lq A1 NH1;obtain ⟨p0,p1⟩:=Hb.c2;have lp:=Hb.lt;obtain ⟨q0,q1⟩:=Hd.c2;have lq:=Hd.lt;cases hbs : b.shr
  ·simp only [hbs] at NB;have hr:=hV0.out;unfold Vk at hr;rw [ho,hbs,if_pos rfl,Bool.false_and,if_neg (by decide)] at hr;subst hr;clear hV0 ho hbs;go_upto_region 4 with (go_at_call 90;(with_reducible refine zc (NB _) ?_);rintro e w2 ⟨rfl,h2⟩)
   replace HE:=HE.trans h2;replace Hr:=Hr.ext h2;have y0:=Hr.frozen 0;have y1:=Hr.frozen 1;have y2:=Hr.frozen 2;obtain ⟨x0,x1,x2⟩:=Hr.c3;have lx:=Hr.lt;have R3:=Lp Hr (.int .i64 0) (.int .i64 0) (.int .i64 0);have EF:=Ll HE hbr (.int .i64 0) (.int .i64 0) (.int .i64 0);obtain ⟨r0,r1,r2⟩:=R3.c3;go_wp2;refine bodyPost_ret (v:=.tuple #[.agg #[.int .i64 0,.int .i64 0,.int .i64 0],.int .i64 2]) (by simp [results,Tryz.results42,go_sem,r0,r1,r2]) rfl ⟨rfl,EF⟩
  ·simp only [hbs] at NB;cases hds : d.shr
   ·simp only [hds] at ND;have hr:=hV0.out;unfold Vk at hr;rw [ho,hbs,hds,if_pos rfl,Bool.and_false,if_neg (by decide)] at hr;subst hr;clear hV0 ho hbs hds;go_upto_region 4 with (first | (go_at_call 90;(with_reducible refine zc (NB _) ?_);rintro e w2 ⟨rfl,h2⟩;clear q0 q1 lq;obtain ⟨q0,q1⟩:=(Hd.ext h2).c2;have lq:=(Hd.ext h2).lt) | (go_at_call 90;(with_reducible refine zc (ND _) ?_);rintro e w3 ⟨rfl,h3⟩))
    replace HE:=(HE.trans h2).trans h3;replace Hr:=(Hr.ext h2).ext h3;have y0:=Hr.frozen 0;have y1:=Hr.frozen 1;have y2:=Hr.frozen 2;obtain ⟨x0,x1,x2⟩:=Hr.c3;have lx:=Hr.lt;have R3:=Lp Hr (.int .i64 0) (.int .i64 0) (.int .i64 0);have EF:=Ll HE hbr (.int .i64 0) (.int .i64 0) (.int .i64 0);obtain ⟨r0,r1,r2⟩:=R3.c3;go_wp2;refine bodyPost_ret (v:=.tuple #[.agg #[.int .i64 0,.int .i64 0,.int .i64 0],.int .i64 2]) (by simp [results,Tryz.results42,go_sem,r0,r1,r2]) rfl ⟨rfl,EF⟩
   ·simp only [hds] at ND
    have hV1 : Hid (V = if y < 0 ∨ 40 < y then (Mq,8) else Mj b d y.toNat h):=by
     unfold Hid;rw [hV0.out];unfold Vk;rw [ho,hbs,hds,if_pos rfl,Bool.and_self,if_pos rfl]
    clear hV0;go_upto_region 5 with (first | (go_at_call 90;(with_reducible refine zc (NB _) ?_);rintro e w2 ⟨rfl,h2⟩;clear q0 q1 lq;obtain ⟨q0,q1⟩:=(Hd.ext h2).c2;have lq:=(Hd.ext h2).lt) | (go_at_call 90;(with_reducible refine zc (ND _) ?_);rintro e w3 ⟨rfl,h3⟩))
    replace HE:=(HE.trans h2).trans h3;replace Hr:=(Hr.ext h2).ext h3;replace Hh:=(Hh.ext h2).ext h3;replace Hb:=(Hb.ext h2).ext h3;replace Hd:=(Hd.ext h2).ext h3;clear h2 h3 p0 p1 lp q0 q1 lq NB ND;by_cases y0 : y < 0
    ·have gy : decide (y < 0) = true:=decide_eq_true y0;have hr:=hV1.out;rw [if_pos (.inl y0)] at hr;subst hr;clear hV1 y0;have y0:=Hr.frozen 0;have y1:=Hr.frozen 1;have y2:=Hr.frozen 2;obtain ⟨x0,x1,x2⟩:=Hr.c3;have lx:=Hr.lt;have R3:=Lp Hr (.int .i64 0) (.int .i64 0) (.int .i64 0);have EF:=Ll HE hbr (.int .i64 0) (.int .i64 0) (.int .i64 0);obtain ⟨r0,r1,r2⟩:=R3.c3;go_wp2;refine bodyPost_ret (v:=.tuple #[.agg #[.int .i64 0,.int .i64 0,.int .i64 0],.int .i64 8]) (by simp [results,Tryz.results42,go_sem,r0,r1,r2]) rfl ⟨rfl,EF⟩
    ·have gy : decide (y < 0) = false:=decide_eq_false y0;by_cases y1 : 40 < y
     ·have gy1 : decide (40 < y) = true:=decide_eq_true y1;have hr:=hV1.out;rw [if_pos (.inr y1)] at hr;subst hr;clear hV1 y0 y1;have y0:=Hr.frozen 0;have y1:=Hr.frozen 1;have y2:=Hr.frozen 2;obtain ⟨x0,x1,x2⟩:=Hr.c3;have lx:=Hr.lt;have R3:=Lp Hr (.int .i64 0) (.int .i64 0) (.int .i64 0);have EF:=Ll HE hbr (.int .i64 0) (.int .i64 0) (.int .i64 0);obtain ⟨r0,r1,r2⟩:=R3.c3;go_wp2;refine bodyPost_ret (v:=.tuple #[.agg #[.int .i64 0,.int .i64 0,.int .i64 0],.int .i64 8]) (by simp [results,Tryz.results42,go_sem,r0,r1,r2]) rfl ⟨rfl,EF⟩
     ·have gy1 : decide (40 < y) = false := decide_eq_false y1;obtain ⟨n, rfl⟩ : ∃ n : Nat, y = (n : Int) := ⟨y.toNat, by omega⟩
      have hV2 : Hid (V = Mj b d n h):=by
       have:=hV1.out;rw [if_neg Qa,Int.toNat_natCast] at this;exact this
      clear hV1 hb hd;replace ho:=Lib.hid ho;replace hbs:=Lib.hid hbs;replace hds:=Lib.hid hds;go_upto_region 8 with (fail)
      go_loopw [34] (fun iv wr => ∃ k : Nat,k ≤ n ∧ iv = .int .i64 (k : Int) ∧ ∃ g : Yv,Hid (g.ok = true) ∧ Qb w wr ∧ Qc wr b1 116 #[.int .i64 g.e,.int .i64 g.r,.int .i64 g.l] ∧ Qc wr b2 65 #[.int .i64 b.n,.int .i64 b.d] ∧ Qc wr b3 65 #[.int .i64 d.n,.int .i64 d.d] ∧ Qc wr b4 116 #[.int .i64 0,.int .i64 0,.int .i64 0] ∧ Hid (V = Mj b d (n - k) g)) (fun iv _ => n - (intOf iv).toNat)
      case atStart => exact ⟨0,Nat.zero_le _,rfl,h,ho,HE,Hh,Hb,Hd,Hr,hV2.out⟩
      case round =>
       clear HE Hh Hb Hd Hr hV2 ho;obtain ⟨k,hk,rfl,g,hg,HE,Hh,Hb,Hd,Hr,hV⟩:=hrel;obtain ⟨wo,rfl⟩:=Qf wr;by_cases hlt : k < n
       ·obtain ⟨m, hm⟩ : ∃ m, n - k = m + 1 := ⟨n - k - 1, by omega⟩;have hm2 : n - (k + 1) = m := by omega
        have hV' : Hid (V = if (Mk b d g).ok then Mj b d m (Mk b d g) else (Mq,6)):=by unfold Hid;rw [hV.out,hm];rfl
        clear hV hm;have hgo:=hg.out;simp only [Yv.ok,Bool.and_eq_true] at hgo;obtain ⟨g01,g02⟩:=Ps.1 hgo.1.1;obtain ⟨g11,g12⟩:=Ps.1 hgo.1.2;obtain ⟨g21,g22⟩:=Ps.1 hgo.2;clear hgo;have hds:=hds.out;have hdd:=(Dn hds);go_upto_region 10 with (fail)
        obtain ⟨v4,hv⟩:=Qf (wo.alloc (.cells #[.pointer (some ⟨b1,0,none⟩),.pointer (some ⟨b1,1,none⟩),.pointer (some ⟨b1,2,none⟩)] 180));rw [← hv];have E4 : Qb wo v4:=by rw [hv];exact (Qb.refl _).alloc _
        have Hp : Qc v4 wo.heap.size 180 #[.pointer (some ⟨b1,0,none⟩),.pointer (some ⟨b1,1,none⟩),.pointer (some ⟨b1,2,none⟩)]:=by rw [hv];exact Qc.new _ _ _
        clear hv;have hlh:=Hh.lt;obtain ⟨bp,hbp⟩:=Qf (wo.heap.size);rw [← hbp] at Hp ⊢;have hp1 : bp ≠ b1:=by omega
        clear hbp hlh;replace HE:=HE.trans E4;replace Hh:=Hh.ext E4;replace Hb:=Hb.ext E4;replace Hd:=Hd.ext E4;replace Hr:=Hr.ext E4;clear E4
        go_loopw [41] (fun jv wr => ∃ j : Nat,j ≤ 3 ∧ jv = .int .i64 (j : Int) ∧ Qb w wr ∧ Qc wr b1 116 #[.int .i64 (stJ d g j).e,.int .i64 (stJ d g j).r,.int .i64 (stJ d g j).l] ∧ Qc wr b2 65 #[.int .i64 b.n,.int .i64 b.d] ∧ Qc wr b3 65 #[.int .i64 d.n,.int .i64 d.d] ∧ Qc wr bp 180 #[.pointer (some ⟨b1,0,none⟩),.pointer (some ⟨b1,1,none⟩),.pointer (some ⟨b1,2,none⟩)] ∧ Qc wr b4 116 #[.int .i64 0,.int .i64 0,.int .i64 0]) (fun jv _ => 3 - (intOf jv).toNat)
        case atStart => exact ⟨0,by decide,rfl,HE,Hh,Hb,Hd,Hp,Hr⟩
        case round =>
         clear HE Hh Hb Hd Hp Hr;obtain ⟨j,hj,rfl,HE,Hh,Hb,Hd,Hp,Hr⟩:=hrel;obtain ⟨wi,rfl⟩:=Qf wr;by_cases hlt3 : j < 3
         ·have h3 : j = 0 ∨ j = 1 ∨ j = 2 := by omega
          rcases h3 with rfl | rfl | rfl
          ·have Hh : Qc wi b1 116 #[.int .i64 (g.e),.int .i64 (g.r),.int .i64 (g.l)]:=Hh;have pb:=Oy hds g01 g02;have v1 : IntKind.i64.wrap (d.n * g.e) = d.n * g.e:=Zy Qa Qa
           have v2 : IntKind.i64.wrap ((d.n * g.e).tdiv d.d) = d.n * g.e / d.d:=by
            rw [Int.tdiv_eq_ediv_of_nonneg pb.1];exact Zy Qa Qa
           have v3 : IntKind.i64.wrap (g.e - d.n * g.e / d.d) = Zi g.e d:=by
            unfold Zi;exact Zy Qa Qa
           clear pb;obtain ⟨s0,s1,s2⟩:=Hp.c3;have ls:=Hp.lt;go_upto_region 12 with (fail)
           clear s0 s1 s2 ls;refine Q5 15 [14] (fun x => Qc x b1 116 #[.int .i64 (g.e),.int .i64 (g.r),.int .i64 (g.l)] ∧ Qc x b3 65 #[.int .i64 d.n,.int .i64 d.d]) mixed rfl ?_;intro vz hvz;replace HE:=HE.trans hvz;replace Hh:=Hh.ext hvz;replace Hd:=Hd.ext hvz;replace Hb:=Hb.ext hvz;replace Hp:=Hp.ext hvz;replace Hr:=Hr.ext hvz;clear hvz;refine Qr (g:=1) [0,1,2,3,4,5,6,7,8,9,10,11,12,13] ⟨Hh,Hd⟩ ?_
           constructor
           refine ⟨fun u hu => ?_,?_⟩
           ·obtain ⟨x0,x1,x2⟩:=hu.1.c3;have lx:=hu.1.lt;obtain ⟨d0,d1⟩:=hu.2.c2;have ld:=hu.2.lt;exact Qj
           refine Qn 14 ?_;have z0:=Hh.frozen 0;obtain ⟨x0,x1,x2⟩:=Hh.c3;have lx:=Hh.lt;have Hh2:=Ic Hh (.int .i64 (Zi g.e d));have Hd:=Qg Hd hn31 0 (.int .i64 (Zi g.e d));have Hb:=Qg Hb hn21 0 (.int .i64 (Zi g.e d));have Hp:=Qg Hp hp1 0 (.int .i64 (Zi g.e d));have Hr:=Qg Hr hn41 0 (.int .i64 (Zi g.e d));have HE:=HE.setCell (p:=⟨b1,0,none⟩) hbr1 (.int .i64 (Zi g.e d));have Hh:=Hh2;go_wp2;refine Qm ?_;refine Qt ?_;generalize World.setCell _ _ _ = wq at *;clear z0 x0 x1 x2 lx Hh2;go_wp2;exact ⟨⟨1,by decide,rfl,HE,Hh,Hb,Hd,Hp,Hr⟩,by simp [intOf]⟩
          ·have Hh : Qc wi b1 116 #[.int .i64 (Zi g.e d),.int .i64 (g.r),.int .i64 (g.l)]:=Hh;have pb:=Oy hds g11 g12;have v1 : IntKind.i64.wrap (d.n * g.r) = d.n * g.r:=Zy Qa Qa
           have v2 : IntKind.i64.wrap ((d.n * g.r).tdiv d.d) = d.n * g.r / d.d:=by
            rw [Int.tdiv_eq_ediv_of_nonneg pb.1];exact Zy Qa Qa
           have v3 : IntKind.i64.wrap (g.r - d.n * g.r / d.d) = Zi g.r d:=by
            unfold Zi;exact Zy Qa Qa
           clear pb;obtain ⟨s0,s1,s2⟩:=Hp.c3;have ls:=Hp.lt;go_upto_region 12 with (fail)
           clear s0 s1 s2 ls;refine Q5 15 [14] (fun x => Qc x b1 116 #[.int .i64 (Zi g.e d),.int .i64 (g.r),.int .i64 (g.l)] ∧ Qc x b3 65 #[.int .i64 d.n,.int .i64 d.d]) mixed rfl ?_;intro vz hvz;replace HE:=HE.trans hvz;replace Hh:=Hh.ext hvz;replace Hd:=Hd.ext hvz;replace Hb:=Hb.ext hvz;replace Hp:=Hp.ext hvz;replace Hr:=Hr.ext hvz;clear hvz;refine Qr (g:=1) [0,1,2,3,4,5,6,7,8,9,10,11,12,13] ⟨Hh,Hd⟩ ?_
           constructor
           refine ⟨fun u hu => ?_,?_⟩
           ·obtain ⟨x0,x1,x2⟩:=hu.1.c3;have lx:=hu.1.lt;obtain ⟨d0,d1⟩:=hu.2.c2;have ld:=hu.2.lt;exact Qj
           refine Qn 14 ?_;have z0:=Hh.frozen 1;obtain ⟨x0,x1,x2⟩:=Hh.c3;have lx:=Hh.lt;have Hh2:=Ie Hh (.int .i64 (Zi g.r d));have Hd:=Qg Hd hn31 1 (.int .i64 (Zi g.r d));have Hb:=Qg Hb hn21 1 (.int .i64 (Zi g.r d));have Hp:=Qg Hp hp1 1 (.int .i64 (Zi g.r d));have Hr:=Qg Hr hn41 1 (.int .i64 (Zi g.r d));have HE:=HE.setCell (p:=⟨b1,1,none⟩) hbr1 (.int .i64 (Zi g.r d));have Hh:=Hh2;go_wp2;refine Qm ?_;refine Qt ?_;generalize World.setCell _ _ _ = wq at *;clear z0 x0 x1 x2 lx Hh2;go_wp2;exact ⟨⟨2,by decide,rfl,HE,Hh,Hb,Hd,Hp,Hr⟩,by simp [intOf]⟩
          ·have Hh : Qc wi b1 116 #[.int .i64 (Zi g.e d),.int .i64 (Zi g.r d),.int .i64 (g.l)]:=Hh;have pb:=Oy hds g21 g22;have v1 : IntKind.i64.wrap (d.n * g.l) = d.n * g.l:=Zy Qa Qa
           have v2 : IntKind.i64.wrap ((d.n * g.l).tdiv d.d) = d.n * g.l / d.d:=by
            rw [Int.tdiv_eq_ediv_of_nonneg pb.1];exact Zy Qa Qa
           have v3 : IntKind.i64.wrap (g.l - d.n * g.l / d.d) = Zi g.l d:=by
            unfold Zi;exact Zy Qa Qa
           clear pb;obtain ⟨s0,s1,s2⟩:=Hp.c3;have ls:=Hp.lt;go_upto_region 12 with (fail)
           clear s0 s1 s2 ls;refine Q5 15 [14] (fun x => Qc x b1 116 #[.int .i64 (Zi g.e d),.int .i64 (Zi g.r d),.int .i64 (g.l)] ∧ Qc x b3 65 #[.int .i64 d.n,.int .i64 d.d]) mixed rfl ?_;intro vz hvz;replace HE:=HE.trans hvz;replace Hh:=Hh.ext hvz;replace Hd:=Hd.ext hvz;replace Hb:=Hb.ext hvz;replace Hp:=Hp.ext hvz;replace Hr:=Hr.ext hvz;clear hvz;refine Qr (g:=1) [0,1,2,3,4,5,6,7,8,9,10,11,12,13] ⟨Hh,Hd⟩ ?_
           constructor
           refine ⟨fun u hu => ?_,?_⟩
           ·obtain ⟨x0,x1,x2⟩:=hu.1.c3;have lx:=hu.1.lt;obtain ⟨d0,d1⟩:=hu.2.c2;have ld:=hu.2.lt;exact Qj
           refine Qn 14 ?_;have z0:=Hh.frozen 2;obtain ⟨x0,x1,x2⟩:=Hh.c3;have lx:=Hh.lt;have Hh2:=Ig Hh (.int .i64 (Zi g.l d));have Hd:=Qg Hd hn31 2 (.int .i64 (Zi g.l d));have Hb:=Qg Hb hn21 2 (.int .i64 (Zi g.l d));have Hp:=Qg Hp hp1 2 (.int .i64 (Zi g.l d));have Hr:=Qg Hr hn41 2 (.int .i64 (Zi g.l d));have HE:=HE.setCell (p:=⟨b1,2,none⟩) hbr1 (.int .i64 (Zi g.l d));have Hh:=Hh2;go_wp2;refine Qm ?_;refine Qt ?_;generalize World.setCell _ _ _ = wq at *;clear z0 x0 x1 x2 lx Hh2;go_wp2;exact ⟨⟨3,by decide,rfl,HE,Hh,Hb,Hd,Hp,Hr⟩,by simp [intOf]⟩
         ·obtain rfl : j = 3 := by omega
          have Hh : Qc wi b1 116 #[.int .i64 (Zi g.e d),.int .i64 (Zi g.r d),.int .i64 (Zi g.l d)]:=Hh;have hbs:=hbs.out;have hbb:=Dn hbs;have de:=Sm hds g01 g02;have dr:=Sm hds g11 g12;have dl:=Sm hds g21 g22;have pb:=Oy hbs de.1 de.2;have hst : Hid (Mk b d g = ⟨Zi g.e d + (Zi g.l d + 1) / 2,Zi g.r d + Zi g.l d / 2,b.n * Zi g.e d / b.d⟩):=rfl;generalize Zi g.e d = xe at *;generalize Zi g.r d = xr at *;generalize Zi g.l d = xl at *;have v1 : IntKind.i64.wrap (b.n * xe) = b.n * xe:=Zy Qa Qa
          have v2 : IntKind.i64.wrap ((b.n * xe).tdiv b.d) = b.n * xe / b.d:=by
           rw [Int.tdiv_eq_ediv_of_nonneg pb.1];exact Zy Qa Qa
          have v3 : IntKind.i64.wrap (xl + 1) = xl + 1:=Zy Qa Qa
          have v4' : IntKind.i64.wrap ((xl + 1).tdiv 2) = (xl + 1) / 2:=by
           rw [Int.tdiv_eq_ediv_of_nonneg Qa];exact Zy Qa Qa
          have v5 : IntKind.i64.wrap (xe + (xl + 1) / 2) = xe + (xl + 1) / 2:=Zy Qa Qa
          have v6 : IntKind.i64.wrap (xl.tdiv 2) = xl / 2:=by
           rw [Int.tdiv_eq_ediv_of_nonneg Qa];exact Zy Qa Qa
          have v7 : IntKind.i64.wrap (xr + xl / 2) = xr + xl / 2:=Zy Qa Qa;have hb0 : (b.d == 0) = false:=beq_eq_false_iff_ne.2 Qa;have hb1 : b.d ≠ 0:=by omega
          clear pb de dr dl hbb;generalize b.n * xe / b.d = zl at *;generalize hz1 : (xl + 1) / 2 = z1 at *;generalize hz2 : xl / 2 = z2 at *;clear hz1 hz2;obtain ⟨k0,k1,k2⟩:=Hh.c3;have lk:=Hh.lt;have f0:=Hh.frozen 0;obtain ⟨p0,p1⟩:=Hb.c2;have lp:=Hb.lt;have Ha:=Ic Hh (.int .i64 (xe + z1));have Hba:=Qg Hb hn21 0 (.int .i64 (xe + z1));have Hda:=Qg Hd hn31 0 (.int .i64 (xe + z1));have Hra:=Qg Hr hn41 0 (.int .i64 (xe + z1));have Ea:=HE.setCell (p:=⟨b1,0,none⟩) hbr1 (.int .i64 (xe + z1));go_upto_region 16 with (fail)
          generalize World.setCell _ _ _ = wa at *;clear k0 k1 k2 lk f0 p0 p1 lp Hh HE Hb Hd Hr Hp;obtain ⟨k0,k1,k2⟩:=Ha.c3;have lk:=Ha.lt;have f0:=Ha.frozen 1;have Hb':=Ie Ha (.int .i64 (xr + z2));have Hbb:=Qg Hba hn21 1 (.int .i64 (xr + z2));have Hdb:=Qg Hda hn31 1 (.int .i64 (xr + z2));have Hrb:=Qg Hra hn41 1 (.int .i64 (xr + z2));have Eb:=Ea.setCell (p:=⟨b1,1,none⟩) hbr1 (.int .i64 (xr + z2));go_upto_region 17 with (fail)
          generalize World.setCell _ _ _ = wb at *;clear k0 k1 k2 lk f0 Ha Hba Hda Hra Ea;obtain ⟨k0,k1,k2⟩:=Hb'.c3;have lk:=Hb'.lt;have f0:=Hb'.frozen 2;have Hc':=Ig Hb' (.int .i64 zl);have Hbc:=Qg Hbb hn21 2 (.int .i64 zl);have Hdc:=Qg Hdb hn31 2 (.int .i64 zl);have Hrc:=Qg Hrb hn41 2 (.int .i64 zl);have Ec:=Eb.setCell (p:=⟨b1,2,none⟩) hbr1 (.int .i64 zl);go_upto_region 18 with (fail)
          generalize World.setCell _ _ _ = wc at *;clear k0 k1 k2 lk f0 Hb' Hbb Hdb Hrb Eb v1 v2 v3 v4' v5 v6 v7 hb0 hb1;have NG:=fun w => NH ⟨xe + z1,xr + z2,zl⟩ w
          have hst2 : Hid (Mk b d g = ⟨xe + z1,xr + z2,zl⟩):=hst;obtain ⟨k0,k1,k2⟩:=Hc'.c3;have lk:=Hc'.lt;cases hgk : Yv.ok ⟨xe + z1,xr + z2,zl⟩
          ·simp only [hgk] at NG;have hr:=hV'.out;rw [hst2.out,hgk,if_neg (by decide)] at hr;subst hr;clear hV' hst hst2 hgk NH;go_upto_region 19 with (go_at_call 93;(with_reducible refine zc (NG _) ?_);rintro e w6 ⟨rfl,h6⟩)
           have HE:=Ec.trans h6;have Hr:=Hrc.ext h6;have y0:=Hr.frozen 0;have y1:=Hr.frozen 1;have y2:=Hr.frozen 2;obtain ⟨x0,x1,x2⟩:=Hr.c3;have lx:=Hr.lt;have R3:=Lp Hr (.int .i64 0) (.int .i64 0) (.int .i64 0);have EF:=Ll HE hbr (.int .i64 0) (.int .i64 0) (.int .i64 0);obtain ⟨r0,r1,r2⟩:=R3.c3;go_wp2;refine bodyPost_ret (v:=.tuple #[.agg #[.int .i64 0,.int .i64 0,.int .i64 0],.int .i64 6]) (by simp [results,Tryz.results42,go_sem,r0,r1,r2]) rfl ⟨rfl,EF⟩
          ·simp only [hgk] at NG;have hr:=hV'.out;rw [hst2.out,hgk,if_pos rfl,← hm2] at hr;replace hr:=Lib.hid hr;replace hgk:=Lib.hid hgk;clear hV' hst hst2 NH hm2;go_wp2_with (go_at_call 93;(with_reducible refine zc (NG _) ?_);rintro e w6 ⟨rfl,h6⟩);exact ⟨⟨k + 1,by omega,by go_num,⟨xe + z1,xr + z2,zl⟩,hgk,Ec.trans h6,Hc'.ext h6,Hbc.ext h6,Hdc.ext h6,Hrc.ext h6,hr⟩,by simp [intOf];omega⟩
       ·obtain rfl : k = n := by omega
        have hr:=hV.out;rw [Nat.sub_self] at hr;have hr2 : V = (g,0):=hr;subst hr2;clear hV hr;obtain ⟨k0,k1,k2⟩:=Hh.c3;have lk:=Hh.lt;have y0:=Hr.frozen 0;have y1:=Hr.frozen 1;have y2:=Hr.frozen 2;obtain ⟨x0,x1,x2⟩:=Hr.c3;have lx:=Hr.lt;have R3:=Lp Hr (.int .i64 g.e) (.int .i64 g.r) (.int .i64 g.l);have EF:=Ll HE hbr (.int .i64 g.e) (.int .i64 g.r) (.int .i64 g.l);obtain ⟨r0,r1,r2⟩:=R3.c3;go_wp2;refine bodyPost_ret (v:=.tuple #[.agg #[.int .i64 g.e,.int .i64 g.r,.int .i64 g.l],.int .i64 0]) (by simp [results,Tryz.results42,go_sem,r0,r1,r2]) rfl ⟨rfl,EF⟩
end
end Go.Proofs.YtoflcheopfppoaaGreatDoor
