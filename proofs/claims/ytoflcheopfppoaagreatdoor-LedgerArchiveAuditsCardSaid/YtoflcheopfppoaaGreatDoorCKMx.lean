/- Audit of the program. -/
import Derived.Test.YtoflcheopfppoaaGreatDoorK16
import Derived.Test.YtoflcheopfppoaaGreatDoorK14
import Derived.Maps.OwnRows
import Derived.Maps.GroupsBeside
import Derived.Maps.Views
import Derived.Maps.RangeWalk
set_option maxRecDepth 100000
set_option maxHeartbeats 4000000
namespace Go.Proofs.YtoflcheopfppoaaGreatDoor
open Go Go.RowKit Go.Shelf Go.Maps
attribute [local go_sem] Z8
theorem row_other {w w' : World} {base size n b : Nat} {e : TypeId} {v : Value} {xs : List Value} (h : w.ownsRow base e size v n xs) (hg : w.grownBy w' (some b)) (hb : b < base) : w'.ownsRow base e size v n xs:=h.kept hg (by
 rcases h.2 with ⟨rfl,_⟩ | ⟨g,cap,cur,rfl,hbg,_⟩
 ·exact .inl rfl
 ·exact .inr (by simp [Value.ownBlock];omega))
theorem ownsMap_ext' {H : Type} {P : Program} {k : TypeId} {R : Value → Option (DataW H × List MemPlace)} {w w' : World} {b n : Nat} {D : DataW H} (h : w.ownsMap P k R b n D) (e : Qc w w') : w'.ownsMap P k R b n D:=h.kept (Ml e) (by simp)
theorem grpS_law : Keyed Tryz.prog 9:=string_keyed Tryz.underlying9
theorem grpS_zero (w : World) : (zeroValue 125).run Tryz.prog w = .ok (.slice none 0 0) w:=by kernel_rfl
theorem grp_mono {w : World} {P : Program} {k e : TypeId} {base b n n' : Nat} {q : IntKind} {D : DataW Unit} (h : w.ownsGroups P k base e q b n D) (hn : n ≤ n') : w.ownsGroups P k base e q b n' D:=by
 obtain ⟨es,clock,hb,F,hs,hD,hbb,hlen,hap⟩:=h;exact ⟨es,clock,hb,F,Qa,hD,hbb,fun x hx zs h => by have:=hlen x hx zs h;omega,hap⟩
theorem grp_ext {w w' : World} {P : Program} {k e : TypeId} {base b n : Nat} {q : IntKind} {D : DataW Unit} (h : w.ownsGroups P k base e q b n D) (x : Qc w w') : w'.ownsGroups P k base e q b n D :=
 h.kept (Ml x) (by simp) (fun es clock _ x _ => by cases hx : x.val.ownBlock <;> simp)
theorem grp_owns {w : World} {P : Program} {k e : TypeId} {base b n : Nat} {q : IntKind} {D : DataW Unit} (h : w.ownsGroups P k base e q b n D) : w.ownsMap P k (rowElem (H:=Unit) w base e q) b n D:=by
 obtain ⟨es,clock,hb,F,hs,hD,_⟩:=h;exact ⟨es,clock,hb,F,hs,hD⟩
theorem ranges_fi {ba : Nat} {P : Program} {k : TypeId} {R : Value → Option (DataW Unit × List MemPlace)} {W W' : World} {b r n : Nat} {D : DataW Unit} {left : Lit → Bool} {cnt : Nat} (h : W.ranges P k R b r n D left cnt) (f : FI ba W W') (hb : b ≠ ba) (hr : r ≠ ba) : W'.ranges P k R b r n D left cnt:=by
 have h1:=h.owns.lt;have h2:=h.lt;obtain ⟨es,clock,since,seen,c0,hb0,F,hs,hD,hr0,rest⟩:=h;exact ⟨es,clock,since,seen,c0,(f.2 b h1 hb (by rw [hb0];simp)).trans hb0,F,hs,hD,(f.2 r h2 hr (by rw [hr0];simp)).trans hr0,rest⟩
theorem ownsMap_fi {ba : Nat} {P : Program} {k : TypeId} {R : Value → Option (DataW Unit × List MemPlace)} {W W' : World} {b n : Nat} {D : DataW Unit} (h : W.ownsMap P k R b n D) (f : FI ba W W') (hb : b ≠ ba) : W'.ownsMap P k R b n D:=by
 have h1:=h.lt;obtain ⟨es,clock,hb0,F,hs,hD⟩:=h;exact ⟨es,clock,(f.2 b h1 hb (by rw [hb0];simp)).trans hb0,F,hs,hD⟩
theorem Xb.next {W0 W W' : World} {ba r : Nat} {A A' : OA} {ca cb : Nat} {c : Qd} {vl : Value} {L : List Z7} (h : Xb W0 W ba A A' ca cb c vl L) (hg : W.grownBy W' (some r)) (hr : W0.heap.size ≤ r) (hra : ba ≠ r) (hrg : ∃ a s e d,W.heap[r]? = some (.mapIter a s e d)) : Xb W0 W' ba A A' ca cb c vl L:=by
 obtain ⟨I,k,h1,h2⟩:=h.b;refine ⟨h.e.grown hg (fun q hq => by cases hq;exact hr),I,k,h1.kept hg (by simpa using hra),World.ownsRow.kept h2 hg ?_⟩;rcases h2.2 with ⟨e,_⟩ | ⟨g,cap,cur,e,hbg,hgc,_⟩
 ·rw [e];exact .inl rfl
 ·rw [e];refine .inr (fun e' => ?_);have e2 : g = r := by simpa [Value.ownBlock] using e'
  subst e2;obtain ⟨_,_,_,_,e3⟩:=hrg;rw [hgc] at e3;cases e3
theorem FI.next {ba r : Nat} {W W1 W2 : World} (h : FI ba W W1) (hg : W1.grownBy W2 (some r)) (hr : W.heap.size ≤ r) : FI ba W W2:=⟨Nat.le_trans h.1 hg.size,fun b hb hn ht => (hg.block b (Nat.lt_of_lt_of_le hb h.1) (fun e => by cases e;omega)).trans (h.2 b hb hn ht)⟩
theorem ranges_iter {P : Program} {k : TypeId} {R : Value → Option (DataW Unit × List MemPlace)} {W : World} {b r n : Nat} {D : DataW Unit} {left : Lit → Bool} {cnt : Nat} (h : W.ranges P k R b r n D left cnt) : ∃ a s e d,W.heap[r]? = some (.mapIter a s e d):=by
 obtain ⟨es,clock,since,seen,c0,hb0,F,hs,hD,hr0,rest⟩:=h;exact ⟨_,_,_,_,hr0⟩
theorem sameKey_keyS (a x : ByteArray) : (Jv a).sameKey (Jv x) = decide (a = x):=by
 by_cases e : a = x
 ·subst e;simp [Jv,Lit.sameKey]
 ·rw [zf e];exact Maps.sameKey_ne (fun h => e (Px h))
theorem perm_step {l : List Pd} {left : Lit → Bool} {x : ByteArray} {L : List Z7} {f : Nat → List Z7} (h : L.Perm (((List.range l.length).filter fun i => !left (Jv (Qz l i).h)).flatMap f)) (hx : left (Jv x) = true) : (L ++ (Y6 l x).flatMap f).Perm (((List.range l.length).filter fun i => !(left (Jv (Qz l i).h) && !(Jv (Qz l i).h).sameKey (Jv x))).flatMap f):=by
 have s:=Qnq l (fun h => !left (Jv h)) f x (by simp [hx])
 have e : (fun i => !(left (Jv (Qz l i).h) && !(Jv (Qz l i).h).sameKey (Jv x))) = fun i => (!left (Jv (Qz l i).h)) || decide ((Qz l i).h = x):=by
  funext i
  rw [sameKey_keyS];cases left (Jv (Qz l i).h) <;> simp
 rw [e];exact (h.append_right _).trans s.symm
theorem perm_start (l : List Pd) (f : Nat → List Z7) : ([] : List Z7).Perm (((List.range l.length).filter fun i => !Maps.has (X6 l l.length) (Jv (Qz l i).h)).flatMap f):=by
 rw [List.filter_eq_nil_iff.2 (fun i hi => by rw [Qae l l.length i (List.mem_range.1 hi)];simp)];exact List.Perm.refl _
theorem perm_end {c : Qd} {l : List Pd} {m : List (Rf × Rf)} {left : Lit → Bool} {L : List Z7} (h : L.Perm (((List.range l.length).filter fun i => !left (Jv (Qz l i).h)).flatMap (c.isP l m))) (h0 : ∀ kl,left kl = false) : L.Perm (c.audL l m):=by
 rw [List.filter_eq_self.2 (fun i _ => by rw [h0];rfl)] at h;unfold Qd.audL;rw [Ad];exact h
theorem isP_len {c : Qd} {l : List Pd} {m : List (Rf × Rf)} {i : Nat} (h : (Qz l i).d.length ≤ 64) : (c.isP l m i).length ≤ 67:=by
 have h1:=Pt c l i;have h2:=Oo c l m i (Qz l i).d.length;unfold Qd.isP;rw [List.length_append];omega
theorem flat_len {f : Nat → List Z7} {n : Nat} : ∀ {xs : List Nat},(∀ i ∈ xs,(f i).length ≤ n) → (xs.flatMap f).length ≤ n * xs.length
 | [],_ => by simp
 | x :: xs,h => by
  have h1:=h x (by simp);have h2:=flat_len (f:=f) (n:=n) (xs:=xs) (fun i hi => h i (by simp [hi]));rw [List.flatMap_cons,List.length_append,List.length_cons,Nat.mul_add];omega
theorem look_same {P : Program} {k e t : TypeId} {R : Value → Option (DataW Unit × List MemPlace)} {w w' : World} {b n : Nat} {D : DataW Unit} {z key v : Value} {kl : Lit} (h : w.ownsMap P k R b n D) (K : Keyed P k) (ht : P.underlying t = some (.map k e)) (hz : ∀ w,(zeroValue e).run P w = .ok z w) (x : Qc w w') (hkey : keyOf P k key = some kl) (hv : (Instr.lookup t (.map (some b)) key false).run P w = .ok v w) : (Instr.lookup t (.map (some b)) key false).run P w' = .ok v w':=by
 have hlt:=h.lt;obtain ⟨es,clock,hb,F,_,_⟩:=h;have hb':=(x.block hlt).trans hb;have ap:=List.pairwise_map.1 (Maps.fit_apart K F)
 have one : ∀ e0 ∈ es.toList,∀ e1 ∈ es.toList,e0.key = key → e1.key = key → e0 = e1:=fun e0 m0 e1 m1 k0 k1 => by
  have kk : ∀ e ∈ es.toList,e.key = key → (WideElems.rg P k R e).1 = kl:=fun e m he => by
   obtain ⟨y,hy⟩:=F.reads e m;have h1:=WideElems.rd_key hy;rw [he,hkey] at h1;rw [WideElems.rg_of hy];exact (Option.some.inj h1).symm
  obtain ⟨i,hi,rfl⟩:=List.mem_iff_getElem.1 m0;obtain ⟨j,hj,rfl⟩:=List.mem_iff_getElem.1 m1;have a0:=kk _ m0 k0;have a1:=kk _ m1 k1;rcases Nat.lt_trichotomy i j with g | g | g
  ·exact absurd (a0.trans a1.symm) (List.pairwise_iff_getElem.1 ap i j hi hj g)
  ·subst g;rfl
  ·exact absurd (a1.trans a0.symm) (List.pairwise_iff_getElem.1 ap j i hj hi g)
 rcases Maps.fit_look false K ht (hz w) hb F hkey with ⟨r1,n1,_⟩ | ⟨e0,y0,m0,k0,r1,_⟩ <;> rcases Maps.fit_look false K ht (hz w') hb' F hkey with ⟨r2,n2,_⟩ | ⟨e1,y1,m1,k1,r2,_⟩
 ·rw [r1] at hv;simp only [Result.ok.injEq] at hv;rw [r2,← hv.1]
 ·exact absurd k1 (n1 e1 m1)
 ·exact absurd k0 (n2 e0 m0)
 ·obtain rfl:=one e0 m0 e1 m1 k0 k1;rw [r1] at hv;simp only [Result.ok.injEq] at hv;rw [r2,← hv.1]
theorem ref_ok {l : List Pd} {b : Bool} (hl : l.length ≤ 1000) (hd : ∀ i,i < l.length → (l.getD i Qp).d.length ≤ 1000) (o : Nat) : Kf ((Zb l b).getD o Qn):=by
 by_cases h : o < (Zb l b).length
 ·obtain ⟨h1,h2,_⟩:=Vl.1 (J6 (z:=Qn) h);have:=hd _ h1;exact ⟨Qa,Qa⟩
 ·have e : (Zb l b).getD o Qn = Qn := by simp [List.getD_eq_getElem?_getD, List.getElem?_eq_none (Nat.le_of_not_lt h)]
  rw [e];exact ⟨by simp [Qn],by simp [Qn]⟩
theorem mok_match {c : Qd} {l : List Pd} {days : Int} (hl : l.length ≤ 1000) (hd : ∀ i,i < l.length → (l.getD i Qp).d.length ≤ 1000) : MOk (c.matchL l days):=fun j hj => by
 unfold Qd.matchL at hj ⊢;obtain ⟨p,_,e⟩:=List.mem_map.1 (J6 (z:=(Qn,Qn)) hj);rw [← e];exact ⟨ref_ok hl hd _,ref_ok hl hd _⟩
theorem audit_all (A A' : OA) (ca cb : Nat) (c : Qd) (l : List Pd) (vl : Value) (days : Int) (w : World) (hC : Za w A ca A' cb c) (hP : J9 w vl l) :
  Calls Tryz.prog 14 #[.agg #[.slice A c.nk ca,.slice A' c.ny cb],vl,.int .i64 days] w fun e w' => ∃ v,e = .returned (.tuple #[v,.int .i64 (c.auditV l days).2]) ∧ Qc w w' ∧ w'.ownsRow w.heap.size 47 3 v (c.auditV l days).1.length ((c.auditV l days).1.flatMap Xd):=by
 obtain ⟨DL,cL,vo,vd,vc,e1,hD,_,_,_,hat⟩:=id hP;subst e1;have NA:=fun w h1 h2 => Qfq A A' ca cb c l (.slice DL l.length cL) days w h1 h2
 obtain ⟨RE,hRE⟩:=Qe (c.audE l days);simp only [← hRE] at NA;replace hRE:=zh hRE;have hmm:=@run_makeMap Tryz.prog
 go_enter Tryz.func14,Tryz.ntmps14
 go_upto_region 1 with fail
 obtain ⟨v,b1,E,B1,hbr,hv,hb1⟩:=J4 w 25 #[.slice A c.nk ca,.slice A' c.ny cb];rw [← hv,← hb1];clear hv hb1;have C:=hC.ext E;obtain ⟨k0,k1,kl⟩:=Qb.d2 B1;by_cases e0 : RE = 0;rotate_left
 ·have g0 : (RE == 0) = false := zb e0;have g0n : (RE != 0) = true := by rw [bne, g0]; rfl
  have hm : c.auditV l days = ([],RE):=by unfold Qd.auditV;rw [← hRE.out,if_pos e0]
  clear hRE hmm;go_wp2_with (go_at_call 34;refine zc (NA _ C (hP.ext E)) ?_;rintro e w1 ⟨pv,rfl,x1,hau⟩);go_ret2;rw [hm];exact ⟨_,rfl,E.trans x1,rfl,.inl ⟨rfl,rfl⟩⟩
 have hok:=hRE.out;rw [e0] at hok;obtain ⟨⟨hv,hp⟩,_⟩:=Gr hok.symm;have hl32:=Gp (Gu hok.symm);have hl64 : ∀ i,i < l.length → (l.getD i Qp).d.length ≤ 64:=fun i hi => (hp _ (J6 (z:=Qp) hi)).m
 have hlo : ∀ i,i < l.length → (l.getD i Qp).o.length ≤ 1000000:=fun i hi => by have:=Hc (hp _ (J6 (z:=Qp) hi)).o;omega
 subst e0;have hm : c.auditV l days = (c.audL l (c.matchL l days),0):=by unfold Qd.auditV;rw [← hok,if_neg (by simp)]
 have hml:=Qbn hok.symm;have hMO : MOk (c.matchL l days):=mok_match Qa (fun i hi => Nat.le_trans (hl64 i hi) Qa);clear hRE hok;replace hp:=zh hp;replace hl64:=zh hl64;replace hlo:=zh hlo;go_upto_region 4 with (go_at_call 34;refine zc (NA _ C (hP.ext E)) ?_;rintro e w1 ⟨pv,rfl,x1,hau⟩;obtain ⟨ba,rfl,hge,HB⟩:=hau rfl)
 clear NA;have hba : w.heap.size ≤ ba:=Nat.le_trans E.size hge;have hbal:=HB.lt;go_upto_region 5 with fail
 obtain ⟨w2,hw2⟩:=Qe (w1.alloc (.map #[] 0));rw [← hw2];have x2 : Qc w1 w2:=by rw [hw2];exact (Qc.refl _).alloc _
 have hM2 : w2.ownsMap Tryz.prog 33 (plainElem (H:=Unit) Tryz.prog 4) w1.heap.size 0 (.map []):=by rw [hw2];exact World.ownsMap_made _ _ _ _
 have hz2 : w1.heap.size < w2.heap.size:=by rw [hw2];simp
 clear hw2 k0 k1 kl;obtain ⟨bM,hbM⟩:=Qe (w1.heap.size);rw [← hbM] at hM2 hz2 ⊢;have hbMa : ba < bM:=Qa;have hbMw : w1.heap.size ≤ bM:=Qa;clear hbM;have X1:=E.trans x1;have X2:=X1.trans x2;have hA : K3 w2 ba A A' ca cb c (.slice DL l.length cL) l:=⟨HB.ext x2,hC.ext X2,hP.ext X2⟩;have NM:=Qkl A A' ca cb c l (.slice DL l.length cL) ba days w2 hA hv Qa (fun i hi => Nat.le_trans (hl64.out i hi) Qa);clear hA;go_upto_region 6 with (go_at_call 35;(with_reducible refine Calls.mono NM ?_);rintro e w3 ⟨v3,rfl,x3,hO⟩;rw [Qbo,show (c.matchI l days).length = (c.matchL l days).length from (List.length_map ..).symm] at hO;obtain ⟨FM,cM,e3,RM⟩:=Dx hO;subst e3)
 clear NM;obtain ⟨m,hme⟩:=Qe (c.matchL l days);rw [← hme] at hm hml hO hMO ⊢;replace hm:=zh hm;have hmeq:=zh hme;replace hMO:=zh hMO;clear hme RM;have hM3:=ownsMap_ext' hM2 x3;have hx13:=x2.trans x3;have hz3:=x3.size;clear hM2;obtain ⟨bR,hbR⟩:=Qe (w2.heap.size);rw [← hbR] at hO hz2 hz3;clear hmm
 go_loopw [37] (fun iv wr => ∃ k : Nat,k ≤ m.length ∧ iv = .int .i64 (k : Int) ∧ Qc w1 wr ∧ wr.ownsMap Tryz.prog 33 (plainElem (H:=Unit) Tryz.prog 4) bM (2 * k) (Kp m k) ∧ wr.ownsRow bR 35 4 (.slice FM m.length cM) m.length (m.flatMap Ug)) (fun iv _ => m.length - (intOf iv).toNat)
 case atStart => exact ⟨0,Nat.zero_le _,rfl,hx13,hM3,hO⟩
 case round =>
  clear hM3 hO hx13;obtain ⟨k,hk,rfl,Ek,hMk,hO⟩:=hrel;obtain ⟨wo,rfl⟩:=Qe wr;by_cases hlt : k < m.length;rotate_left
  ·obtain rfl : k = m.length:=Qa;have hmm:=@run_makeMap Tryz.prog;have hmm:=@run_makeMap Tryz.prog;obtain ⟨i0,hi,hy0,hy1,hy2⟩:=info_parts Ms;go_upto_region 11 with fail
   obtain ⟨v3,hv3⟩:=Qe (wo.alloc (.map #[] 0));rw [← hv3];have hE3 : Qc wo v3:=by rw [hv3];exact (Qc.refl _).alloc _
   have hG0 : v3.ownsGroups (H:=Unit) Tryz.prog 9 (wo.heap.size + 1) 3 .i64 wo.heap.size 0 (.map []):=by rw [hv3];exact World.ownsGroups_made _ _ _ _ _
   have hs3 : wo.heap.size + 1 ≤ v3.heap.size:=by rw [hv3];simp
   clear hv3 hmm;have hMlt : bM < wo.heap.size:=hMk.lt;obtain ⟨bH,hbH⟩:=Qe (wo.heap.size);rw [← hbH] at hG0 hs3 hMlt ⊢;have hbHw : wo.heap.size ≤ bH:=Qa;clear hbH hO hlt;have X4:=X1.trans Ek;have HBo:=HB.ext Ek;clear Ek x3 x2 hz2 hz3 hk;go_upto_region 12 with fail
   go_loopw [51] (fun iv wr => ∃ k : Nat,k ≤ l.length ∧ iv = .int .i64 (k : Int) ∧ wr.ownsGroups (H:=Unit) Tryz.prog 9 (bH + 1) 3 .i64 bH k (X6 l k) ∧ Qc wo wr ∧ bH + 1 ≤ wr.heap.size) (fun iv _ => l.length - (intOf iv).toNat)
   case atStart => exact ⟨0,Nat.zero_le _,rfl,hG0,hE3,hs3⟩
   case round =>
    clear hG0 hE3 hs3;obtain ⟨k,hk,rfl,hG,hE,hz⟩:=hrel;obtain ⟨wp,rfl⟩:=Qe wr;by_cases hlt : k < l.length;rotate_left
    ·obtain rfl : k = l.length:=Qa;have hOw:=grp_owns hG;have Xp:=X4.trans hE;have hMp:=ownsMap_ext' hMk hE;have HBp:=HBo.ext hE;have HI0 : Xb w wp ba A A' ca cb c (.slice DL l.length cL) []:=⟨Xp,none,0,HBp,⟨rfl,.inl ⟨rfl,rfl⟩⟩⟩;clear hG hE hMk HBo hi hy0 hy1 hy2;obtain ⟨R,hR⟩:=Qe (rowElem (H:=Unit) wp (bH + 1) 3 .i64);rw [← hR] at hOw;replace hR:=zh hR;have hbal2 : ba < wp.heap.size:=HBp.lt;go_upto_region 17 with (at_range;refine wpList_range_own _ rfl _ 124 rfl 9 125 grpS_law Tryz.underlying124 _ bH l.length _ rfl hOw ?_;intro w0 hrg0 hg0 hs0)
     go_frame
     have hX0 : Qc wp w0:=(Qc.refl _).grown hg0 (fun q hq => by cases hq);have hF0 : FI ba wp w0:=FI.exts hX0;replace HI0:=HI0.ext hX0;obtain ⟨r,hr⟩:=Qe (wp.heap.size);rw [← hr] at hrg0 ⊢;have hrw : wp.heap.size ≤ r:=Qa;have hra : ba ≠ r:=Qa;have hrw0 : w.heap.size ≤ r:=by have:=Xp.size;omega
     have hbHa : bH ≠ ba:=by have:=hbHw;omega
     have hPs:=perm_start l (c.isP l m);clear hr hs0 hg0 hX0 hOw
     go_loopw [16] (fun _ wr => ∃ (left : Lit → Bool) (cnt : Nat) (L : List Z7),wr.ranges Tryz.prog 9 R bH r l.length (X6 l l.length) left cnt ∧ Xb w wr ba A A' ca cb c (.slice DL l.length cL) L ∧ FI ba wp wr ∧ L.Perm (((List.range l.length).filter fun i => !left (Jv (Qz l i).h)).flatMap (c.isP l m))) (fun _ wr => wr.rangeLeft bH r)
     case atStart => exact ⟨_,_,[],hrg0,HI0,hF0,hPs⟩
     case round =>
      clear hrg0 HI0 hF0 hPs;obtain ⟨left,cnt,L,hrg,HI,hF,hPm⟩:=hrel;obtain ⟨wq,rfl⟩:=Qe wr
      go_wp2_with (first
       | (at_next;refine wpList_next_ranges _ rfl _ rfl 9 grpS_law R Value.string (fun v => v) (fun key kl hkey => by obtain ⟨s,e,_⟩:=WideMaps.string_of_keyOf Tryz.underlying9 hkey;exact ⟨s,e⟩) (fun v y _ => ⟨v,rfl⟩) bH r l.length _ _ _ rfl hrg ?_ ?_)
       | go_in)
      ·intro hc0 hl0;have hPe:=perm_end hPm hl0;obtain ⟨I,kI,HBf,HO⟩:=HI.b;have hIB : ∀ x ∈ L,IsB x:=fun x hx => Qjr hl32 hl64.out (hPe.subset hx)
       have hLl : L.length ≤ 67 * l.length:=by
        rw [hPe.length_eq];exact Gs (c:=c) (m:=m) hl64.out l.length (Nat.le_refl _)
       have NS:=Qnl HO hIB Qa;have Ef:=HI.e;obtain ⟨a0,a1,a2,a3,al⟩:=Qb.d4 HBf;have hnr:=HBf.not_row zD HO;have hlo2 : ∀ q,(Value.slice I L.length kI).ownBlock = some q → w.heap.size ≤ q:=fun q hq => (Xe HO q hq).1
       replace hnr:=zh hnr;replace hlo2:=zh hlo2;replace hPe:=zh hPe;clear hIB HO hrg hF hPm HI;go_upto_region 31 with (go_at_call 50;(with_reducible refine Calls.mono NS ?_);rintro e w7 ⟨rfl,L',hLe,hP1,hP2,hg7,HO7⟩)
       have HB7:=HBf.kept hg7 hnr.out;have E7:=Ef.grown hg7 (fun q hq => hlo2.out q hq);clear a0 a1 a2 a3 al NS;obtain ⟨a0,a1,a2,a3,al⟩:=Qb.d4 HB7;have hL' : c.audL l m = L':=Qdx ((hPe.out.symm).trans hP1) (Ae c l m l.length) hP2;go_wp2;go_ret2;rw [hm.out];refine ⟨_,rfl,E7,?_⟩;rw [hL'];unfold Jj at HO7;exact HO7
      intro x v0 kl ya yb w5 cnt1 hkey hlk hv hat1 hrg1 hlt1 hg1 hs1 hen;obtain ⟨x',ex,rfl,hxn⟩:=WideMaps.string_of_keyOf Tryz.underlying9 hkey;cases ex
      obtain ⟨zs,hzs,hye⟩:=rowElem_inv (hR.out ▸ hv);cases hye
      have hfound:=Qag (k:=l.length) (hat1 .nil) hzs;rw [Qaf] at hfound;have hIp:=Qay hzs hfound;have HI1:=HI.next hg1 hrw0 hra (ranges_iter hrg);have hF1:=hF.next hg1 hrw;have hI1:=hIp.fi hF1 HBp;have hPm2:=perm_step hPm hlk;have hm5:=hrg.left_eq
      have hLl : L.length ≤ 67 * l.length:=by
       rw [hPm.length_eq];refine Nat.le_trans (flat_len (n:=67) fun i hi => isP_len (hl64.out i (List.mem_range.1 ((List.mem_filter.1 hi).1)))) (Nat.mul_le_mul_left _ ?_);exact Nat.le_trans (List.length_filter_le _ _) (by simp)
      clear hkey hv hat1 hzs hfound hIp HI hF hPm hg1 hs1 hrg;obtain ⟨hs,hhs⟩:=Qe (Y6 l x);rw [← hhs] at hI1 hPm2;have hin : Hid (∀ k ∈ hs,k < l.length ∧ (Qz l k).h = x):=zh fun k hk => by rw [hhs] at hk;exact Ll.1 hk
      have hsl : hs.length ≤ l.length:=by rw [hhs];unfold Y6;exact Nat.le_trans (List.length_filter_le _ _) (by simp)
      replace hhs:=zh hhs;replace hPm2:=zh hPm2;replace hlk:=zh hlk;obtain ⟨H,cH,bI,rfl,hHA⟩:=id hI1;go_upto_region 20 with fail
      clear hen
      go_loopw [76] (fun jv wr => ∃ j : Nat,j ≤ hs.length ∧ jv = .int .i64 (j : Int) ∧ Xb w wr ba A A' ca cb c (.slice DL l.length cL) (L ++ (hs.take j).flatMap (c.isP l m)) ∧ FI ba w5 wr) (fun jv _ => hs.length - (intOf jv).toNat)
      case atStart => exact ⟨0,Nat.zero_le _,rfl,by simpa using HI1,FI.refl _ _⟩
      case round =>
       obtain ⟨j,hj,rfl,HI,hF⟩:=hrel;obtain ⟨ws,rfl⟩:=Qe wr;by_cases hlt : j < hs.length;rotate_left
       ·obtain rfl : j = hs.length:=Qa;rw [List.take_length] at HI;have hrg2:=ranges_fi hrg1 hF hbHa (Ne.symm hra);have hm6:=hrg2.left_eq;clear hrg1;go_wp2;exact ⟨⟨_,cnt1,_,hrg2,HI,hF1.trans hF,hPm2.out⟩,by rw [hm6,hm5];exact hlt1⟩
       have hmem:=J6 (z:=0) hlt;obtain ⟨i,hie⟩:=Qe (hs.getD j 0);rw [← hie] at hmem;obtain ⟨hil,hix⟩:=hin.out i hmem;obtain ⟨iv5,HB5⟩:=HI1.box;have hH0:=hHA.a Qa;subst hH0;have hAr:=hHA.fi hF HB5 zD zD
       have cI : ws.cell? ⟨bI,j,none⟩ = some (.int .i64 (i : Nat)):=by
        have:=hAr.cell hlt
        rwa [← hie] at this
       have bIl:=hAr.lt Qa;have hIs:=hI1.fi hF HB5
       have htk : hs.take (j + 1) = hs.take j ++ [i]:=by
        rw [List.take_add_one,List.getElem?_eq_getElem hlt,hie];simp [List.getD_eq_getElem?_getD,hlt]
       obtain ⟨Qt,hpre⟩:=Qe (L ++ (hs.take j).flatMap (c.isP l m));have hnx : Hid (L ++ (hs.take (j + 1)).flatMap (c.isP l m) = Qt ++ c.isP l m i):=zh (by rw [htk,List.flatMap_append,List.flatMap_singleton,hpre,List.append_assoc])
       have hprl : Qt.length ≤ 67 * l.length + 67 * hs.length:=by
        rw [hpre,List.length_append];have h1:=flat_len (f:=c.isP l m) (n:=67) (xs:=hs.take j) (fun q hq => isP_len (hl64.out q (hin.out q (List.mem_of_mem_take hq)).1));have h2 : (hs.take j).length ≤ hs.length:=by rw [List.length_take];omega
        have h3:=Nat.mul_le_mul_left 67 h2;omega
       rw [← hpre] at HI;clear hpre htk hAr hie hmem;have NAu:=Qfp A A' ca cb c l (.slice DL l.length cL) ba i (.slice (some ⟨bI,0,none⟩) hs.length cH) Qt w ws HI hC hP hba (by rw [hix,← hhs.out];exact hIs) hil Qa Qa (hlo.out i hil);obtain ⟨bp,off,rfl,hbp,hc⟩:=hD Qa;have PA:=hat i hil;obtain ⟨t2,s2,wsd,e2,hT,hs2,hms2,_,hatT⟩:=id PA.d
       have k10 : w.cell? ⟨bp,off + i * 12 + 10,none⟩ = some (.slice t2 (l.getD i Qp).d.length s2):=by
        have:=hc i 10 (vd i) hil rfl;rw [e2] at this;exact this
       have hd64:=hl64.out i hil;obtain ⟨p,hp'⟩:=Qe (l.getD i Qp);rw [← hp'] at k10 hT hatT hd64 hs2;have hix2 : p.h = x:=by rw [hp'];exact hix
       have hdB : Hid (∀ k,c.dealB l m i k = (c.keptB l (p.d.getD k Zd).w (p.d.getD k Zd).on && !Wh m (i,k))):=zh fun k => by
        rw [hp'];rfl
       have hPi : Hid (c.isP l m i = c.isA l i ++ c.isD l m i p.d.length):=zh (by rw [hp'];rfl);have hW:=hp.out _ (J6 (z:=Qp) hil);rw [← hp'] at hW;replace hW:=zh hW;replace hatT:=zh hatT;replace hc:=zh hc;replace hp':=zh hp';clear hin PA e2 HI;replace hHA:=zh hHA;go_upto_region 23 with (go_at_call 46;(with_reducible refine Calls.mono NAu ?_);rintro e wt ⟨rfl,HI3,F3⟩)
       clear NAu cI bIl;have hF3:=hF.trans F3;have c10:=(HI3.e.cell (p:=⟨bp,off + i * 12 + 10,none⟩) hbp).trans k10;have bpl:=Nat.lt_of_lt_of_le hbp HI3.e.size;obtain ⟨p2,hp2⟩:=Qe (Qt ++ c.isA l i);have hp2l : p2.length ≤ Qt.length + 3:=by rw [hp2,List.length_append];have:=Pt c l i;omega
       replace hnx : Hid (L ++ (hs.take (j + 1)).flatMap (c.isP l m) = p2 ++ c.isD l m i p.d.length):=zh (by rw [hnx.out,hPi.out,hp2,List.append_assoc]);rw [← hp2] at HI3;clear hp2 hPi F3;obtain ⟨nd,hnd⟩:=Qe (p.d.length);rw [← hnd] at hT hnx hd64 c10 k10 hs2;replace hnd:=zh hnd;go_upto_region 24 with fail
       clear c10 bpl
       go_loopw [90] (fun kv wr => ∃ k : Nat,k ≤ nd ∧ kv = .int .i64 (k : Int) ∧ Xb w wr ba A A' ca cb c (.slice (some ⟨bp,off,none⟩) l.length cL) (p2 ++ c.isD l m i k) ∧ FI ba w5 wr) (fun kv _ => nd - (intOf kv).toNat)
       case atStart => exact ⟨0,Nat.zero_le _,rfl,by simpa [Qd.isD] using HI3,hF3⟩
       case round =>
        clear HI3 hF3 hF;obtain ⟨k,hk,rfl,HI,hF⟩:=hrel;obtain ⟨wk,rfl⟩:=Qe wr;by_cases hlk2 : k < nd;rotate_left
        ·obtain rfl : k = nd:=Qa;rw [← hnx.out] at HI;clear hnx hdB;go_wp2;exact ⟨⟨j + 1,Qa,by go_num,HI,hF⟩,zi⟩
        obtain ⟨b',off',rfl,hb',hc'⟩:=(hT.ext HI.e) Qa;obtain ⟨F7,m7,e7,_⟩:=id (hatT.out k (by rw [← hnd.out];exact hlk2));obtain ⟨G,hG⟩:=Qe (p.d.getD k Zd);have d0 : wk.cell? ⟨b',off' + k * 7,none⟩ = some (.int .i64 G.on.y):=by rw [hG];simpa [Zm] using hc' k 0 _ hlk2 rfl
        have d1 : wk.cell? ⟨b',off' + k * 7 + 1,none⟩ = some (.int .i64 G.on.m):=by rw [hG];simpa [Zm] using hc' k 1 _ hlk2 rfl
        have d2 : wk.cell? ⟨b',off' + k * 7 + 2,none⟩ = some (.bool G.on.s):=by rw [hG];simpa [Zm] using hc' k 2 _ hlk2 rfl
        have d3 : wk.cell? ⟨b',off' + k * 7 + 3,none⟩ = some (.int .i64 G.on.d):=by rw [hG];simpa [Zm] using hc' k 3 _ hlk2 rfl
        have d4 : wk.cell? ⟨b',off' + k * 7 + 4,none⟩ = some (.bool G.i):=by rw [hG];simpa [Zm] using hc' k 4 _ hlk2 rfl
        have d5 : wk.cell? ⟨b',off' + k * 7 + 5,none⟩ = some (.string G.w):=by rw [hG];simpa [Zm] using hc' k 5 _ hlk2 rfl
        have d6 : wk.cell? ⟨b',off' + k * 7 + 6,none⟩ = some (.slice F7 (p.d.getD k Zd).l.length m7):=by
         have:=hc' k 6 (wsd k) hlk2 rfl;rw [e7] at this;exact this
        have hGl:=hW.out.l _ (J6 (z:=Zd) (i:=k) (by rw [← hnd.out];exact hlk2));clear hc' e7;have hdk:=hdB.out k;rw [← hG] at d6 hdk hGl;clear hG;go_upto_region 26 with fail
        obtain ⟨wz,hwz⟩:=Qe (wk.alloc (.cells #[.int .i64 G.on.y,.int .i64 G.on.m,.bool G.on.s,.int .i64 G.on.d,.bool G.i,.string G.w,.slice F7 G.l.length m7] 57));rw [← hwz];have x1 : Qc wk wz:=by rw [hwz];exact (Qc.refl _).alloc _
        have BX : Qb wz wk.heap.size 57 #[.int .i64 G.on.y,.int .i64 G.on.m,.bool G.on.s,.int .i64 G.on.d,.bool G.i,.string G.w,.slice F7 G.l.length m7]:=by rw [hwz];exact Qb.new _ _ _
        generalize wk.heap.size = bx at *;clear hwz d0 d1 d2 d3 d4 d5 d6 hb';replace HI:=HI.ext x1;replace hF:=hF.ext x1;clear x1;obtain ⟨q0,q1,q2,q3,q4,q5,q6,ql⟩:=Qb.d7 BX;have hFz:=hF1.trans hF;have hOz:=ownsMap_fi hrg1.owns hF hbHa;have hMz:=ownsMap_fi hMp hFz Qa;have hwGx : G.w ≠ x:=by rw [← hix2];exact hGl.2.1
        have hGn : G.w.size ≤ maxLen:=by
         have:=hGl.1;simp only [Zu,Bool.and_eq_true,decide_eq_true_eq] at this;have h2:=this.1.1.2;unfold maxLen;omega
        have hkW:=WideMaps.keyOf_string_mk (P:=Tryz.prog) Tryz.underlying9 hGn;obtain ⟨vW,psW,hrW,hvW⟩:=hOz.lookup grpS_law Tryz.underlying124 (grpS_zero _) (zd:=.nil) (zp:=rowPlaces (.slice none 0 0)) (by rw [hR.out];exact rowElem_mk (World.ownsInts_nil _ _ _ _)) hkW;have hlH : Hid (∀ w',Qc wz w' → (Instr.lookup 124 (.map (some bH)) (.string G.w) false).run Tryz.prog w' = .ok vW w'):=zh fun w' e => look_same hOz grpS_law Tryz.underlying124 grpS_zero e hkW hrW
        have hlM : Hid (∀ w',Qc wz w' → (Instr.lookup 123 (.map (some bM)) (.agg #[.int .i64 (i : Nat),.int .i64 (k : Nat)]) false).run Tryz.prog w' = .ok (.bool (Wh m (i,k))) w'):=zh fun w' e => Qkh (r:=(i,k)) (ownsMap_ext' hMz e) ⟨Qa,Qa⟩ hMO.out
        have hIW : Wa wz vW (Y6 l G.w):=by
         obtain ⟨zs,hzs,hye⟩:=rowElem_inv (hR.out ▸ hvW);have h1:=Qag (l:=l) (s:=G.w) (k:=l.length) (congrArg Prod.fst hye) hzs;rw [Qaf] at h1;exact (Qay hzs h1).fi hFz HBp
        obtain ⟨ivz,HBz⟩:=HI.box;have hCz:=hC.ext HI.e;have hPz:=hP.ext HI.e;have NH : Hid (∀ w',Qc wz w' → Calls Tryz.prog 47 #[.pointer (some ⟨ba,0,none⟩),vW,.int .i64 (c.numV G.on)] w' fun e w'' => e = .returned (.bool (c.keptB l G.w G.on)) ∧ Qc w' w''):=zh fun w' e => Qi9 A A' ca cb c l (.slice (some ⟨bp,off,none⟩) l.length cL) ivz ba vW (Y6 l G.w) (c.numV G.on) w' (HBz.ext e) (hCz.ext e) (hPz.ext e) (hIW.ext e) (fun q hq => (Ll.1 hq).1) (by unfold Y6;exact Nat.le_trans (List.length_filter_le _ _) (by simp;omega))
        have NX : Hid (∀ w',Qc wz w' → Calls Tryz.prog 48 #[.agg #[.slice A c.nk ca,.slice A' c.ny cb],.agg #[.int .i64 G.on.y,.int .i64 G.on.m,.bool G.on.s,.int .i64 G.on.d]] w' fun e w'' => e = .returned (.int .i64 (c.numV G.on)) ∧ Qc w' w''):=zh fun w' e => Xr A A' ca cb c G.on w' (hCz.ext e)
        clear hrW hvW hkW hOz hMz hIW hGn hGl hCz hPz hFz;obtain ⟨a0,a1,a2,a3,al⟩:=Qb.d4 HBz;have hn1 : (G.w.toList == x.toList) = false:=by rw [← Nm];exact zf hwGx
        have hn2 : (G.w.toList != x.toList) = true:=by rw [bne,hn1];rfl
        have hn3 : decide (G.w = x) = false:=zf hwGx;clear hwGx;generalize c.numV G.on = nG at *;obtain ⟨kB,hkB⟩:=Qe (c.keptB l G.w G.on);obtain ⟨pB,hpB⟩:=Qe (Wh m (i,k));rw [← hkB,← hpB] at hdk;rw [← hkB] at NH;rw [← hpB] at hlM;clear hkB hpB;replace hdk:=zh hdk;have hil2:=Oo c l m i k;have hst : Hid (c.isD l m i (k + 1) = c.isD l m i k ++ (if c.dealB l m i k = true then [(4,i,k)] else [])):=zh rfl;cases kB
        ·have e : c.isD l m i (k + 1) = c.isD l m i k := by rw [hst.out, hdk.out]; exact List.append_nil _
         rw [← e] at HI;clear hst hdk e hdB hnx;refine Vr wz mixed zK (by repeat (first | exact Qc.refl _ | (refine Qc.alloc ?_ _) | (refine Qc.trans ?_ (by assumption)))) ?_;intro hne hrx hry;try simp only []
         try simp only [List.append_eq,List.cons_append,List.nil_append]
         skip
         repeat (first
          | go_big_quiet_skip
          | (go_big_quiet_want;go_big_quiet_op;go_big_quiet_on)
          | (go_big_quiet_want;go_big_quiet_op;apply Exists.intro;refine ⟨fun u => ?_,?_⟩
             ·first
               | (go_at_call 48;refine zc (NX.out _ u.e) ?_;rintro e w' ⟨rfl,hb⟩;exact ⟨rfl,u.back hb⟩)
               | (go_at_call 47;refine zc (NH.out _ u.e) ?_;rintro e w' ⟨rfl,hb⟩;exact ⟨rfl,u.back hb⟩)
               | (go_simp;rw [hlH.out _ u.e];go_simp;(with_reducible exact rfl))
               | (go_simp;rw [hlM.out _ u.e];go_simp;(with_reducible exact rfl))
             go_big_quiet_on))
         clear hne hry hrx;refine wpQuiet_nil ?_;intro wx hx;obtain ⟨hcwx,hfwx,hzwx⟩:=Qc.rules hx;try simp only [World.size_alloc] at hzwx
         obtain ⟨hcbwx,hfbwx,hzbwx⟩:=Qc.rules (show Qc wz wx from (by repeat (first | exact Qc.refl _ | (refine Qc.alloc ?_ _) | (refine Qc.trans ?_ (by assumption)))));clear hcwx hfwx;go_wp2;exact ⟨⟨k + 1,Qa,by go_num,HI.ext hx,hF.ext hx⟩,zi⟩
        cases pB
        rotate_left
        ·have e : c.isD l m i (k + 1) = c.isD l m i k := by rw [hst.out, hdk.out]; exact List.append_nil _
         rw [← e] at HI;clear hst hdk e hdB hnx;refine Vr wz mixed zK (by repeat (first | exact Qc.refl _ | (refine Qc.alloc ?_ _) | (refine Qc.trans ?_ (by assumption)))) ?_;intro hne hrx hry;try simp only []
         try simp only [List.append_eq,List.cons_append,List.nil_append]
         skip
         repeat (first
          | go_big_quiet_skip
          | (go_big_quiet_want;go_big_quiet_op;go_big_quiet_on)
          | (go_big_quiet_want;go_big_quiet_op;apply Exists.intro;refine ⟨fun u => ?_,?_⟩
             ·first
               | (go_at_call 48;refine zc (NX.out _ u.e) ?_;rintro e w' ⟨rfl,hb⟩;exact ⟨rfl,u.back hb⟩)
               | (go_at_call 47;refine zc (NH.out _ u.e) ?_;rintro e w' ⟨rfl,hb⟩;exact ⟨rfl,u.back hb⟩)
               | (go_simp;rw [hlH.out _ u.e];go_simp;(with_reducible exact rfl))
               | (go_simp;rw [hlM.out _ u.e];go_simp;(with_reducible exact rfl))
             go_big_quiet_on))
         clear hne hry hrx;refine wpQuiet_nil ?_;intro wx hx;obtain ⟨hcwx,hfwx,hzwx⟩:=Qc.rules hx;try simp only [World.size_alloc] at hzwx
         obtain ⟨hcbwx,hfbwx,hzbwx⟩:=Qc.rules (show Qc wz wx from (by repeat (first | exact Qc.refl _ | (refine Qc.alloc ?_ _) | (refine Qc.trans ?_ (by assumption)))));clear hcwx hfwx;go_wp2;exact ⟨⟨k + 1,Qa,by go_num,HI.ext hx,hF.ext hx⟩,zi⟩
        have e : c.isD l m i (k + 1) = c.isD l m i k ++ [(4,i,k)]:=by rw [hst.out,hdk.out];rfl
        replace e:=zh e;clear hst hdk hnx;refine Vr wz mixed zK (by repeat (first | exact Qc.refl _ | (refine Qc.alloc ?_ _) | (refine Qc.trans ?_ (by assumption)))) ?_;intro hne hrx hry;try simp only []
        try simp only [List.append_eq,List.cons_append,List.nil_append]
        skip
        repeat (first
         | go_big_quiet_skip
         | (go_big_quiet_want;go_big_quiet_op;go_big_quiet_on)
         | (go_big_quiet_want;go_big_quiet_op;apply Exists.intro;refine ⟨fun u => ?_,?_⟩
            ·first
              | (go_at_call 48;refine zc (NX.out _ u.e) ?_;rintro e w' ⟨rfl,hb⟩;exact ⟨rfl,u.back hb⟩)
              | (go_at_call 47;refine zc (NH.out _ u.e) ?_;rintro e w' ⟨rfl,hb⟩;exact ⟨rfl,u.back hb⟩)
              | (go_simp;rw [hlH.out _ u.e];go_simp;(with_reducible exact rfl))
              | (go_simp;rw [hlM.out _ u.e];go_simp;(with_reducible exact rfl))
            go_big_quiet_on))
        clear hne hry hrx;refine wpQuiet_nil ?_;intro wx hx;obtain ⟨hcwx,hfwx,hzwx⟩:=Qc.rules hx;try simp only [World.size_alloc] at hzwx
        obtain ⟨hcbwx,hfbwx,hzbwx⟩:=Qc.rules (show Qc wz wx from (by repeat (first | exact Qc.refl _ | (refine Qc.alloc ?_ _) | (refine Qc.trans ?_ (by assumption)))));clear hcwx hfwx;replace HI:=HI.ext hx;replace hF:=hF.ext hx;have hpl : (p2 ++ c.isD l m i k).length ≤ 1000000:=by rw [List.length_append];omega
        clear NH NX hlH hlM;have NT:=Rh A A' ca cb c (.slice (some ⟨bp,off,none⟩) l.length cL) ba wx.heap.size (p2 ++ c.isD l m i k) 4 i k 4 i k ⟨Qa,rfl,rfl⟩ w (wx.alloc (.cells #[.int .i64 4,.int .i64 i,.int .i64 k] 47)) (HI.ext ((Qc.refl _).alloc _)) hba (Qb.new _ _ _) hpl;have hF8:=hF.ext ((Qc.refl wx).alloc (.cells #[.int .i64 4,.int .i64 i,.int .i64 k] 47));clear HI hpl;replace hdB:=zh hdB;go_wp2_with (go_at_call 49;(with_reducible refine Calls.mono NT ?_);rintro e w9 ⟨rfl,HI9,F9⟩);rw [List.append_assoc,← e.out] at HI9;exact ⟨⟨k + 1,Qa,by go_num,HI9,hF8.trans F9⟩,zi⟩
    obtain ⟨bp,off,rfl,hbp,hc⟩:=hD Qa;obtain ⟨p,hp'⟩:=Qe (l.getD k Qp);have Ep:=X4.trans hE
    have hHn : p.h.size ≤ maxLen:=by
     have:=(hp.out _ (J6 (z:=Qp) hlt)).n;rw [← hp'] at this;simp only [Zu,Bool.and_eq_true,decide_eq_true_eq] at this;have h2:=this.1.1.2;unfold maxLen;omega
    have c0 : wp.cell? ⟨bp,off + k * 12,none⟩ = some (.string p.h):=(Ep.cell (p:=⟨bp,off + k * 12,none⟩) hbp).trans (by rw [hp'];simpa [Qi] using hc k 0 _ hlt rfl);have c1 : wp.cell? ⟨bp,off + k * 12 + 1,none⟩ = some (.int .i64 p.a.y):=(Ep.cell (p:=⟨bp,off + k * 12 + 1,none⟩) hbp).trans (by rw [hp'];simpa [Qi] using hc k 1 _ hlt rfl);have c2 : wp.cell? ⟨bp,off + k * 12 + 2,none⟩ = some (.int .i64 p.a.m):=(Ep.cell (p:=⟨bp,off + k * 12 + 2,none⟩) hbp).trans (by rw [hp'];simpa [Qi] using hc k 2 _ hlt rfl);have c3 : wp.cell? ⟨bp,off + k * 12 + 3,none⟩ = some (.bool p.a.s):=(Ep.cell (p:=⟨bp,off + k * 12 + 3,none⟩) hbp).trans (by rw [hp'];simpa [Qi] using hc k 3 _ hlt rfl)
    have c4 : wp.cell? ⟨bp,off + k * 12 + 4,none⟩ = some (.int .i64 p.a.d):=(Ep.cell (p:=⟨bp,off + k * 12 + 4,none⟩) hbp).trans (by rw [hp'];simpa [Qi] using hc k 4 _ hlt rfl);have c5 : wp.cell? ⟨bp,off + k * 12 + 5,none⟩ = some (.int .i64 p.b.y):=(Ep.cell (p:=⟨bp,off + k * 12 + 5,none⟩) hbp).trans (by rw [hp'];simpa [Qi] using hc k 5 _ hlt rfl);have c6 : wp.cell? ⟨bp,off + k * 12 + 6,none⟩ = some (.int .i64 p.b.m):=(Ep.cell (p:=⟨bp,off + k * 12 + 6,none⟩) hbp).trans (by rw [hp'];simpa [Qi] using hc k 6 _ hlt rfl);have c7 : wp.cell? ⟨bp,off + k * 12 + 7,none⟩ = some (.bool p.b.s):=(Ep.cell (p:=⟨bp,off + k * 12 + 7,none⟩) hbp).trans (by rw [hp'];simpa [Qi] using hc k 7 _ hlt rfl)
    have c8 : wp.cell? ⟨bp,off + k * 12 + 8,none⟩ = some (.int .i64 p.b.d):=(Ep.cell (p:=⟨bp,off + k * 12 + 8,none⟩) hbp).trans (by rw [hp'];simpa [Qi] using hc k 8 _ hlt rfl);have c9 : wp.cell? ⟨bp,off + k * 12 + 9,none⟩ = some (vo k):=(Ep.cell (p:=⟨bp,off + k * 12 + 9,none⟩) hbp).trans (by simpa [Qi] using hc k 9 _ hlt rfl);have c10 : wp.cell? ⟨bp,off + k * 12 + 10,none⟩ = some (vd k):=(Ep.cell (p:=⟨bp,off + k * 12 + 10,none⟩) hbp).trans (by simpa [Qi] using hc k 10 _ hlt rfl);have c11 : wp.cell? ⟨bp,off + k * 12 + 11,none⟩ = some (vc k):=(Ep.cell (p:=⟨bp,off + k * 12 + 11,none⟩) hbp).trans (by simpa [Qi] using hc k 11 _ hlt rfl);have hbpo : bp < wp.heap.size:=Nat.lt_of_lt_of_le hbp Ep.size
    have hst:=fun (w : World) (v : Value) (zs : List Int) hat ho => Qi0 (l:=l) (w:=w) (v:=v) (zs:=zs) (base:=bH + 1) (e:=3) (k:=k) hat ho
    simp only [show Qz l k = p from hp'.symm] at hst;have HST:=zh hst;have PA:=hat k hlt;obtain ⟨t1,s1,e1,_⟩:=id PA.o;obtain ⟨t2,s2,_,e2,_⟩:=id PA.d;obtain ⟨t3,s3,e3,_⟩:=id PA.c;rw [← hp'] at e1 e2 e3;rw [e1] at c9;rw [e2] at c10;rw [e3] at c11;clear hst hc hp' PA e1 e2 e3;have hkey:=WideMaps.keyOf_string_mk (P:=Tryz.prog) Tryz.underlying9 hHn
    change keyOf Tryz.prog 9 (.string p.h) = some (Jv p.h) at hkey
    replace hat:=zh hat;generalize X6 l k = DK at *;go_upto_region 14 with fail
    obtain ⟨wy,hwy⟩:=Qe (wp.alloc (.cells #[.string p.h,.int .i64 p.a.y,.int .i64 p.a.m,.bool p.a.s,.int .i64 p.a.d,.int .i64 p.b.y,.int .i64 p.b.m,.bool p.b.s,.int .i64 p.b.d,.slice t1 p.o.length s1,.slice t2 p.d.length s2,.slice t3 p.c.length s3] 55));rw [← hwy];have hEy : Qc wp wy:=by rw [hwy];exact (Qc.refl _).alloc _
    have HB : Qb wy wp.heap.size 55 #[.string p.h,.int .i64 p.a.y,.int .i64 p.a.m,.bool p.a.s,.int .i64 p.a.d,.int .i64 p.b.y,.int .i64 p.b.m,.bool p.b.s,.int .i64 p.b.d,.slice t1 p.o.length s1,.slice t2 p.d.length s2,.slice t3 p.c.length s3]:=by rw [hwy];exact Qb.new _ _ _
    have hzy : wp.heap.size < wy.heap.size:=HB.lt;have hGy:=grp_ext hG hEy;clear hwy c0 c1 c2 c3 c4 c5 c6 c7 c8 c9 c10 c11 hbpo;generalize wp.heap.size = by_ at *;have hEw:=hE.trans hEy;refine Qez 11 (fun x => Qc wo x ∧ Qb x by_ 55 #[.string p.h,.int .i64 p.a.y,.int .i64 p.a.m,.bool p.a.s,.int .i64 p.a.d,.int .i64 p.b.y,.int .i64 p.b.m,.bool p.b.s,.int .i64 p.b.d,.slice t1 p.o.length s1,.slice t2 p.d.length s2,.slice t3 p.c.length s3]) mixed rfl ?_;intro vz hvz;have hGz:=grp_ext hGy hvz;have hEz:=hEw.trans hvz;have HBz:=HB.ext hvz;have hsz:=hvz.size;clear hGy HB hvz;refine Cx (g:=4) [0,1,2,3,4,5,7] [_,_,_,_,_,_,_] ⟨rfl,rfl,rfl,rfl,rfl,rfl,rfl,trivial⟩ zK zK ⟨hEz,HBz⟩ ?_
    simp only [Zg,Zh,Zi];apply Exists.intro;refine ⟨fun u hu => ?_,?_⟩
    ·obtain ⟨y0,y1,y2,y3,y4,y5,y6,y7,y8,y9,y10,y11⟩:=hu.2.c12;exact Qk
    refine Qfb 6 8 rfl rfl zK ?_ ?_
    ·simp only [Zg,Zh,Zi];go_wp2_with (at_lookup;refine wpList_lookup_groups _ rfl _ _ 124 rfl 9 125 3 .i64 grpS_law Tryz.underlying124 (grpS_zero _) (bH + 1) bH k _ rfl hGz (by unfold maxLen;omega) _ _ rfl hkey ?_;intro v zs hat hoi hzl hback);refine Qf ⟨hEz,HBz⟩ ?_;refine Vc 8 rfl zK ?_;simp only [Zg,Zh,Zi];go_wp2;refine Qf ⟨hEz.alloc _,HBz.alloc _⟩ ?_;refine Vc 9 rfl zK ?_;simp only [Zg,Zh,Zi];go_wp2_with (at_builtin;refine wpList_append_own_at _ rfl _ _ 125 rfl (bH + 1) 3 i0 (.int .i64 0) 1 8 Tryz.underlying125 hi hy0 hy1 hy2 rfl zD _ _ _ rfl (hoi.1.alloc _) ⟨vz.heap.size,0,none⟩ 1 1 [.int .i64 (k : Int)] rfl rfl (cell_one_new _ _ _) (ints_oneCell .i64 [(k : Int)]) (by unfold maxLen;omega) Qa (by simp;omega) ?_;intro v' w1_ hown' hgrow hnil hloc)
     have hE1 : Qc wo w1_:=(hEz.alloc _).grown hgrow (fun q hq => by have:=(hoi.1.lt q hq).1;omega);have HB1 : Qb w1_ by_ 55 #[.string p.h,.int .i64 p.a.y,.int .i64 p.a.m,.bool p.a.s,.int .i64 p.a.d,.int .i64 p.b.y,.int .i64 p.b.m,.bool p.b.s,.int .i64 p.b.d,.slice t1 p.o.length s1,.slice t2 p.d.length s2,.slice t3 p.c.length s3]:=Qb.kept (HBz.alloc _) hgrow (HBz.not_row zD hoi.1);refine Qf ⟨hE1,HB1⟩ ?_;refine Vc 10 rfl zK ?_;simp only [Zg,Zh,Zi];go_wp2_with (at_mapUpdate;refine wpList_mapUpdate_back _ rfl _ _ _ 124 rfl hback rfl rfl rfl ((World.grownBy_alloc _ _ _).trans hgrow) (hoi.appended hown' (WalkArith.wf_i64 Qa)) (by simp;omega) (hloc.imp id (fun h => ⟨_,h,by simp⟩)) ?_;intro w2_ hown2 hgrow2)
     have hE2 : Qc wo w2_:=hE1.grown hgrow2 (fun q hq => by cases hq;omega);have HB2:=HB1.kept hgrow2 (fun e => by cases e;omega);refine Qf ⟨hE2,HB2⟩ ?_;refine Gm zK ?_;have hs2:=hgrow2.size;have hs1:=hgrow.size;try simp only [World.size_alloc] at hs1
     go_wp2;exact ⟨⟨k + 1,Qa,by go_num,by rw [HST.out _ _ _ hat hoi,← (hoi.appended hown' (WalkArith.wf_i64 Qa)).datum_pos (by simp)];exact hown2,hE2,Qa⟩,zi⟩
    ·simp only [Zg,Zh,Zi];go_wp2;refine Qf ⟨hEz.alloc _,HBz.alloc _⟩ ?_;refine Vc 6 rfl zK ?_;simp only [Zg,Zh,Zi];go_wp2_with (at_lookup;refine wpList_lookup_groups _ rfl _ _ 124 rfl 9 125 3 .i64 grpS_law Tryz.underlying124 (grpS_zero _) (bH + 1) bH k _ rfl (grp_ext hGz ((Qc.refl _).alloc _)) (by unfold maxLen;omega) _ _ rfl hkey ?_;intro v zs hat hoi hzl hback);refine Qf ⟨hEz.alloc _,HBz.alloc _⟩ ?_;refine Vc 9 rfl zK ?_;simp only [Zg,Zh,Zi];go_wp2_with (at_builtin;refine wpList_append_own_at _ rfl _ _ 125 rfl (bH + 1) 3 i0 (.int .i64 0) 1 8 Tryz.underlying125 hi hy0 hy1 hy2 rfl zD _ _ _ rfl hoi.1 ⟨vz.heap.size,0,none⟩ 1 1 [.int .i64 (k : Int)] rfl rfl (cell_one_new _ _ _) (ints_oneCell .i64 [(k : Int)]) (by unfold maxLen;omega) Qa (by simp;omega) ?_;intro v' w1_ hown' hgrow hnil hloc)
     have hE1 : Qc wo w1_:=(hEz.alloc _).grown hgrow (fun q hq => by have:=(hoi.1.lt q hq).1;omega);have HB1:=(HBz.alloc _).kept hgrow ((HBz.alloc _).not_row zD hoi.1);refine Qf ⟨hE1,HB1⟩ ?_;refine Vc 10 rfl zK ?_;simp only [Zg,Zh,Zi];go_wp2_with (at_mapUpdate;refine wpList_mapUpdate_back _ rfl _ _ _ 124 rfl hback rfl rfl rfl (hgrow) (hoi.appended hown' (WalkArith.wf_i64 Qa)) (by simp;omega) (hloc.imp id (fun h => ⟨_,h,Nat.le_refl _⟩)) ?_;intro w2_ hown2 hgrow2);have hE2 : Qc wo w2_:=hE1.grown hgrow2 (fun q hq => by cases hq;omega);have HB2:=HB1.kept hgrow2 (fun e => by cases e;omega);refine Qf ⟨hE2,HB2⟩ ?_;refine Gm zK ?_;have hs2:=hgrow2.size
     have hs1:=hgrow.size;try simp only [World.size_alloc] at hs1
     go_wp2;exact ⟨⟨k + 1,Qa,by go_num,by rw [HST.out _ _ _ hat hoi,← (hoi.appended hown' (WalkArith.wf_i64 Qa)).datum_pos (by simp)];exact hown2,hE2,Qa⟩,zi⟩
  obtain ⟨FM',cM',e3,RM⟩:=Dx hO;obtain ⟨rfl,rfl⟩ : FM = FM' ∧ cM = cM':=by simpa using e3
  clear e3;obtain ⟨bp,off,rfl,hbp,hc⟩:=RM Qa;have c0 : wo.cell? ⟨bp,off + k * 4,none⟩ = some (.int .i64 ((m.getD k (Qn,Qn)).1.1 : Nat)):=hc k 0 _ hlt rfl;have c1 : wo.cell? ⟨bp,off + k * 4 + 1,none⟩ = some (.int .i64 ((m.getD k (Qn,Qn)).1.2 : Nat)):=hc k 1 _ hlt rfl;have c2 : wo.cell? ⟨bp,off + k * 4 + 2,none⟩ = some (.int .i64 ((m.getD k (Qn,Qn)).2.1 : Nat)):=hc k 2 _ hlt rfl;have c3 : wo.cell? ⟨bp,off + k * 4 + 3,none⟩ = some (.int .i64 ((m.getD k (Qn,Qn)).2.2 : Nat)):=hc k 3 _ hlt rfl;clear hc RM;have hK:=hMO.out k hlt;have hMs : Kp m (k + 1) = ((Kp m k).put (Kv (m.getD k (Qn,Qn)).1) (.lit (.bool true))).put (Kv (m.getD k (Qn,Qn)).2) (.lit (.bool true)):=rfl
  replace hMs:=zh hMs;have hkk1:=Mu hK.1;have hkk2:=Mu hK.2;obtain ⟨mk,hmk⟩:=Qe (m.getD k (Qn,Qn));rw [← hmk] at c0 c1 c2 c3 hK hMs hkk1 hkk2;clear hmk;go_upto_region 8 with fail
  obtain ⟨wy,hwy⟩:=Qe (wo.alloc (.cells #[.int .i64 (mk.1.1 : Nat),.int .i64 (mk.1.2 : Nat),.int .i64 (mk.2.1 : Nat),.int .i64 (mk.2.2 : Nat)] 35));rw [← hwy];have hEy : Qc wo wy:=by rw [hwy];exact (Qc.refl _).alloc _
  have HBy : Qb wy wo.heap.size 35 #[.int .i64 (mk.1.1 : Nat),.int .i64 (mk.1.2 : Nat),.int .i64 (mk.2.1 : Nat),.int .i64 (mk.2.2 : Nat)]:=by rw [hwy];exact Qb.new _ _ _
  clear hwy c0 c1 c2 c3 hbp;have hbq : bM < wo.heap.size:=hMk.lt;generalize wo.heap.size = bq at *;refine Qez 8 (fun x => Qb x bq 35 #[.int .i64 (mk.1.1 : Nat),.int .i64 (mk.1.2 : Nat),.int .i64 (mk.2.1 : Nat),.int .i64 (mk.2.2 : Nat)]) mixed rfl ?_;intro vz hvz;have HBz:=HBy.ext hvz;have hMz:=ownsMap_ext' hMk (hEy.trans hvz);have hOz:=J0 hO (hEy.trans hvz);have hEz:=Ek.trans (hEy.trans hvz);clear hvz hMk hO HBy hEy;refine Cx (g:=2) [0,1,2,3,4,5] [_,_,_,_,_,_] ⟨rfl,rfl,rfl,rfl,rfl,rfl,trivial⟩ zK zK HBz ?_;simp only [Zg,Zh,Zi];apply Exists.intro;refine ⟨fun u hu => ?_,?_⟩
  ·obtain ⟨y0,y1,y2,y3⟩:=hu.c4;exact Qk
  obtain ⟨wa,hra,hMa,hga⟩:=hMz.update H0 Du (by unfold maxLen;omega) hkk1 (plainElem_bool La true);refine Vc 6 rfl zK ?_;simp only [Zg,Zh,Zi];go_wp2;have HBa:=HBz.kept hga (by simp;omega);refine Qf HBa ?_;obtain ⟨wb,hrb,hMb,hgb⟩:=hMa.update H0 Du (by unfold maxLen;omega) hkk2 (plainElem_bool La true);refine Vc 7 rfl zK ?_;simp only [Zg,Zh,Zi];go_wp2;have HBb:=HBa.kept hgb (by simp;omega);refine Qf HBb ?_;refine Gm zK ?_;have hEb:=(hEz.grown hga (fun q hq => by cases hq;omega)).grown hgb (fun q hq => by cases hq;omega);have hOb:=row_other (row_other hOz hga Qa) hgb Qa;clear hra hrb HBa HBb;go_wp2
  exact ⟨⟨k + 1,Qa,by go_num,hEb,by rw [hMs.out];exact hMb,hOb⟩,zi⟩
end Go.Proofs.YtoflcheopfppoaaGreatDoor