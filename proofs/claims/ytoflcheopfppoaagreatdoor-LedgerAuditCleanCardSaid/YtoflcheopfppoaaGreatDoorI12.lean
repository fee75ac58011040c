/- Walks of the program's functions and plain facts, packed; proved: the lemmas below; no conditions but those that each states. -/
import Derived.Test.YtoflcheopfppoaaGreatDoorI11
import Derived.Test.YtoflcheopfppoaaGreatDoorI10
import Derived.Test.YtoflcheopfppoaaGreatDoorI9
import Derived.Laws.StructEq
import Derived.Test.YtoflcheopfppoaaGreatDoorI8
import Derived.Deep.Cut
import Derived.Deep.CutRange
import Derived.Test.YtoflcheopfppoaaGreatDoorI1
set_option maxRecDepth 100000
set_option maxHeartbeats 4000000
namespace Go.Proofs.YtoflcheopfppoaaGreatDoor
section
open Go Go.RowKit Go.Shelf
attribute [local go_sem] Zx
structure Rg (no ni : Nat) (m : Mt) : Prop where
 i : ∀ x,x < ni → 0 ≤ m.1 x → (m.1 x).toNat < no
 o : ∀ x,x < no → 0 ≤ m.2 x → (m.2 x).toNat < ni
section
variable {no ni : Nat} {adj : Nat → List Nat}
theorem Rg.set {m : Mt} (h : Rg no ni m) {i k : Nat} (hi : i < no) (hk : k < ni) : Rg no ni (Xv m k i):=by
 refine ⟨fun x hx h0 => ?_,fun x hx h0 => ?_⟩
 ·have h0 : 0 ≤ Qi m.1 k i x:=h0
  show (Qi m.1 k i x).toNat < no
  by_cases e : x = k
  ·subst e;rw [Z2];simpa using hi
  ·rw [Zl _ _ e] at h0 ⊢;exact h.i x hx h0
 ·have h0 : 0 ≤ Qi m.2 i k x:=h0
  show (Qi m.2 i k x).toNat < ni
  by_cases e : x = i
  ·subst e;rw [Z2];simpa using hk
  ·rw [Zl _ _ e] at h0 ⊢;exact h.o x hx h0
theorem Tl {rec : Mt → Bl → Nat → Option Mt × Bl} (hrec : ∀ m b p m',Rg no ni m → p < no → (rec m b p).1 = some m' → Rg no ni m') {i : Nat} (hi : i < no) : ∀ (l : List Nat),(∀ k ∈ l,k < ni) → ∀ m b m',Rg no ni m → (Z7 rec i l m b).1 = some m' → Rg no ni m'
 | [],_,_,_,_,_,h => by cases h
 | k :: r,hl,m,b,m',hm,h => by
  have hk:=hl k (List.mem_cons_self ..);have hr:=fun x hx => hl x (List.mem_cons_of_mem _ hx)
  unfold Z7 at h
  split at h
  ·exact Tl hrec hi r hr m b m' hm h
  ·split at h
   ·injection h with h;subst h;exact hm.set hi hk
   ·rename_i h1 h2
    cases e : rec m (Qi b k true) (m.1 k).toNat with
    | mk ro b' =>
     rw [e] at h;have hp:=hm.i k hk Qa
     cases ro with
     | none => exact Tl hrec hi r hr m b' m' hm h
     | some m1 =>
      injection h with h;subst h
      exact (hrec m _ _ m1 hm hp (by rw [e])).set hi hk
theorem Tm (hadj : ∀ o,∀ k ∈ adj o,k < ni) : ∀ (n : Nat) m b i m',Rg no ni m → i < no → (Zh adj n m b i).1 = some m' → Rg no ni m'
 | 0,_,_,_,_,_,_,h => by cases h
 | n + 1,m,b,i,m',hm,hi,h => Tl (fun m b p m' h1 h2 h3 => Tm hadj n m b p m' h1 h2 h3) hi (adj i) (hadj i) m b m' hm h
theorem Sy (hadj : ∀ o,∀ k ∈ adj o,k < ni) (fx : Bl) : ∀ (n s : Nat) m,s + n ≤ no → Rg no ni m → Rg no ni (Jq adj ni fx n s m).1
 | 0,_,_,_,hm => hm
 | n + 1,s,m,hs,hm => by
  unfold Jq
  cases e : (Zh adj ni m fx s).1 with
  | none => exact Sy hadj fx n (s + 1) m Qa hm
  | some m' => exact Sy hadj fx n (s + 1) m' Qa (Tm hadj ni m fx s m' hm Qa e)
theorem Qk5 : Rg no ni Yl:=⟨fun _ _ h => by have h : (0 : Int) ≤ -1:=h;omega,fun _ _ h => by have h : (0 : Int) ≤ -1:=h;omega⟩
theorem Qdc {m : Mt} (h : Rg no ni m) {i k : Nat} (hi : i < no) (hk : k < ni) : Rg no ni (Ya m i k):=by
 refine ⟨Qdb hi h.i,fun x hx h0 => ?_⟩;have h0 : 0 ≤ Qi (if 0 ≤ m.1 k then Qi m.2 (m.1 k).toNat (-1) else m.2) i k x:=h0
 show (Qi (if 0 ≤ m.1 k then Qi m.2 (m.1 k).toNat (-1) else m.2) i k x).toNat < ni
 by_cases e : x = i
 ·subst e;rw [Z2];simpa using hk
 ·rw [Zl _ _ e] at h0 ⊢;by_cases c : 0 ≤ m.1 k
  ·rw [if_pos c] at h0 ⊢;by_cases e2 : x = (m.1 k).toNat
   ·subst e2;rw [Z2] at h0;omega
   ·rw [Zl _ _ e2] at h0 ⊢;exact h.o x hx h0
  ·rw [if_neg c] at h0 ⊢;exact h.o x hx h0
theorem Qna {m m' : Mt} {fx : Bl} (hadj : ∀ o,∀ k ∈ adj o,k < ni) (h : Rg no ni m) {i k : Nat} (hi : i < no) (hk : k < ni) (e : Xk adj ni no fx m i k = some m') : Rg no ni m':=by
 unfold Xk at e
 split at e
 ·injection e with e;subst e;exact Qdc h hi hk
 ·obtain ⟨j,h1,_,h3⟩:=D1 e;exact Tm hadj ni _ _ j m' (Qdc h hi hk) Qa h3
end
def Qa5 (adj : Nat → List Nat) (ni no n i : Nat) (m : Mt) (fx : Bl) : Option (Nat × Mt × Bl) → List (Nat × Nat)
 | some (k,m',fx') => (i,k) :: J1 adj ni no n (i + 1) m' fx'
 | none => J1 adj ni no n (i + 1) m fx
theorem Ab (adj : Nat → List Nat) (ni no n i : Nat) (m : Mt) (fx : Bl) : J1 adj ni no (n + 1) i m fx = Qa5 adj ni no n i m fx (Xd adj ni no i (adj i) m fx):=by
 conv => lhs;unfold J1
 cases Xd adj ni no i (adj i) m fx with
 | none => rfl
 | some p => rfl
theorem Qiz : (Tryz.prog.info? 35).map (fun i => (i.zero,i.size,i.bytes)) = some (some (.agg #[.int .i64 0,.int .i64 0,.int .i64 0,.int .i64 0]),4,32):=by kernel_rfl
def mcl (ro ri : Nat → Rf) (p : Nat × Nat) : List Value:=[.int .i64 (ro p.1).1,.int .i64 (ro p.1).2,.int .i64 (ri p.2).1,.int .i64 (ri p.2).2]
theorem C6 (a b c d : Int) : ∀ u ∈ [Value.int .i64 a,.int .i64 b,.int .i64 c,.int .i64 d],u.oneCell' = true:=by simp [Value.oneCell']
theorem P6 {W W' : World} {base n : Nat} {v : Value} {xs : List Value} (h : W.ownsRow base 35 4 v n xs) (f : FT W W') : W'.ownsRow base 35 4 v n xs:=by
 refine ⟨h.1,?_⟩;rcases h.2 with hn | ⟨g,cap,cur,hv,hb,hg,rest⟩
 ·exact .inl hn
 ·exact .inr ⟨g,cap,cur,hv,hb,f g 35 cur hg (by unfold MT;decide),rest⟩
theorem MS.grown {W0 W W' : World} {bm bs : Nat} {vo vi vy : Value} {O I X : Option Addr} {no ni cO cI cX : Nat} {bo bi bf : Nat} {m : Mt} {fx : Bl} {v : Value} {n : Nat} {xs : List Value} (h : MS W0 W bm bs vo vi vy O I X no ni cO cI cX bo bi bf m fx) (ho : W.ownsRow W0.heap.size 35 4 v n xs) (hg : W.grownBy W' v.ownBlock) : MS W0 W' bm bs vo vi vy O I X no ni cO cI cX bo bi bf m fx :=
 ⟨h.e.grown hg (fun q hq => (Va ho q hq).1),⟨h.km.p.kept hg (h.km.p.not_row (by decide) ho),h.km.s.kept hg (h.km.s.not_row (by decide) ho)⟩,
  h.o.kept hg (fun hn => by obtain ⟨cs,h1,_⟩:=h.o.h hn;exact h1.not_row (by decide) ho),
  h.i.kept hg (fun hn => by obtain ⟨cs,h1,_⟩:=h.i.h hn;exact h1.not_row (by decide) ho),
  h.f.kept hg (fun hn => by obtain ⟨cs,h1,_⟩:=h.f.h hn;exact h1.not_row (by decide) ho),h.oi,h.lo,h.li,h.lf⟩
set_option maxHeartbeats 40000000 in
theorem Qgg {adj : Nat → List Nat} (W0 : World) (bm bs : Nat) (Vo Vi : Option Addr) (co ci : Nat) (vy : Value) (O I X : Option Addr) (no ni cO cI cX bo bi bf : Nat) (m : Mt) (ro ri : Nat → Rf) (hadj : ∀ o,∀ k ∈ adj o,k < ni) (hY : Nt W0 vy no adj) (hVo : Qs W0 Vo no 2 (fun i => [.int .i64 ((ro i).1 : Nat),.int .i64 ((ro i).2 : Nat)])) (hVi : Qs W0 Vi ni 2 (fun i => [.int .i64 ((ri i).1 : Nat),.int .i64 ((ri i).2 : Nat)])) (hno : no ≤ 1000000) (hni : ni ≤ 1000000) (hls : W0.heap.size ≤ bs) (hG : Rg no ni m) (W : World) (hM : MS W0 W bm bs (.slice Vo no co) (.slice Vi ni ci) (vy) O I X no ni cO cI cX bo bi bf m (fun _ => false)) :
  Calls Tryz.prog 81 #[.pointer (some ⟨bs,0,none⟩)] W fun e W' => ∃ v,e = .returned v ∧ Qb W0 W' ∧ W'.ownsRow W0.heap.size 35 4 v (J1 adj ni no no 0 m (fun _ => false)).length ((J1 adj ni no no 0 m (fun _ => false)).flatMap (mcl ro ri)):=by
 obtain ⟨Y,cY,vs,rfl,hYr,hYi⟩:=id hY;obtain ⟨RES,hRES⟩:=Qf (J1 adj ni no no 0 m (fun _ => false));rw [← hRES];replace hRES : Hid ([] ++ J1 adj ni no (no - 0) 0 m (fun _ => false) = RES):=Lib.hid hRES.symm;obtain ⟨i0,hi0,hz0,hz1,hz2⟩:=info_parts Qiz
 go_enter Tryz.func81,Tryz.ntmps81
 obtain ⟨s0,s1,s2,s3,s4,s5,s6⟩:=Q7 hM.km.s;have sl:=hM.km.s.lt;go_upto_region 3 with (fail)
 clear s0 s1 s2 s3 s4 s5 s6 sl
 go_loopw [3,12] (fun lv iv wr => ∃ (i : Nat) (Qv : List (Nat × Nat)) (m : Mt) (fx : Bl) (O I : Option Addr) (cO cI bo bi : Nat),i ≤ no ∧ Qv.length ≤ i ∧ iv = .int .i64 i ∧ MS W0 wr bm bs (.slice Vo no co) (.slice Vi ni ci) (.slice Y no cY) O I X no ni cO cI cX bo bi bf m fx ∧ wr.ownsRow W0.heap.size 35 4 lv Qv.length (Qv.flatMap (mcl ro ri)) ∧ Rg no ni m ∧ Hid (Qv ++ J1 adj ni no (no - i) i m fx = RES)) (fun _ iv _ => no - (intOf iv).toNat)
 case atStart => exact ⟨0,[],m,_,_,_,_,_,_,_,Nat.zero_le _,Nat.le_refl _,rfl,hM,⟨rfl,.inl ⟨rfl,rfl⟩⟩,hG,hRES⟩
 case round =>
  clear hM hG hRES;obtain ⟨i,Qv,m,fx,O,I,cO,cI,bo,bi,hi,hpl,rfl,M,hO,hG,hR⟩:=hrel;obtain ⟨wo,rfl⟩:=Qf wr;by_cases hlt : i < no;rotate_left
  ·obtain rfl : i = no := by omega
   have e : Qv = RES:=by
    have h:=hR.out;rw [Nat.sub_self] at h;rw [← h];exact (List.append_nil _).symm
   subst e;clear hR;go_wp2;go_ret;exact ⟨_,rfl,M.e,hO⟩
  have hno0 : 0 < no:=by omega
  obtain ⟨F,mcap,rfl⟩:=Jt hO;obtain ⟨D,cD,hl6,hv,hDr⟩:=hYi i hlt;obtain ⟨b,off,hYe,hb,hcc⟩:=hYr hno0;subst hYe
  have c0 : W0.cell? ⟨b,off + i,none⟩ = some (.slice D (adj i).length cD):=by
   have:=hcc i 0 (vs i) hlt rfl;rw [hv] at this
   simpa using this
  clear hcc hv;obtain ⟨bv,ov,hVe,hbv,hcv⟩:=hVo hno0;subst hVe;have cv0 : W0.cell? ⟨bv,ov + i * 2,none⟩ = some (.int .i64 ((ro i).1 : Nat)):=by simpa using hcv i 0 _ hlt rfl
  have cv1 : W0.cell? ⟨bv,ov + i * 2 + 1,none⟩ = some (.int .i64 ((ro i).2 : Nat)):=by simpa using hcv i 1 _ hlt rfl
  clear hcv;obtain ⟨la,hla⟩:=Qf ((adj i).length);rw [← hla] at c0 hDr hl6;obtain ⟨RK,hRK⟩:=Qf (Xd adj ni no i (adj i) m fx)
  have hR1 : Qv ++ Qa5 adj ni no (no - (i + 1)) i m fx RK = RES:=by
   have h:=hR.out;rw [show no - i = (no - (i + 1)) + 1 by omega,Ab] at h;rw [hRK];exact h
  replace hla:=Lib.hid hla;replace hRK : Hid (Xd adj ni no i ((adj i).drop 0) m fx = RK):=Lib.hid hRK.symm;replace hR:=Lib.hid hR1;clear hR1;have c0o:=(M.e.cell (p:=⟨b,off + i,none⟩) hb).trans c0;have hbo:=Nat.lt_of_lt_of_le hb M.e.size;obtain ⟨s0,s1,s2,s3,s4,s5,s6⟩:=Q7 M.km.s;have sl:=M.km.s.lt;go_upto_region 6 with (fail)
  clear c0o hbo c0 s0 s1 s2 s3 s4 s5 s6 sl
  go_loopw [3,23] (fun lv tv wr => ∃ (t : Nat) (O I : Option Addr) (cO cI bo bi : Nat),lv = .slice F Qv.length mcap ∧ t ≤ la ∧ tv = .int .i64 t ∧ MS W0 wr bm bs (.slice (some ⟨bv,ov,none⟩) no co) (.slice Vi ni ci) (.slice (some ⟨b,off,none⟩) no cY) O I X no ni cO cI cX bo bi bf m fx ∧ wr.ownsRow W0.heap.size 35 4 (.slice F Qv.length mcap) Qv.length (Qv.flatMap (mcl ro ri)) ∧ Hid (Xd adj ni no i ((adj i).drop t) m fx = RK)) (fun _ tv _ => la - (intOf tv).toNat)
  case atStart => exact ⟨0,_,_,_,_,_,_,rfl,Nat.zero_le _,rfl,M,hO,hRK⟩
  case round =>
   clear M hO hRK;obtain ⟨t,O,I,cO,cI,bo,bi,rfl,ht,rfl,M,hO,hRK⟩:=hrel;obtain ⟨w1,rfl⟩:=Qf wr;by_cases hlt2 : t < la;rotate_left
   ·obtain rfl : t = la := by omega
    have e : RK = none:=by
     have h:=hRK.out;rw [hla.out,List.drop_length] at h;exact h.symm
    subst e;clear hRK;go_wp2;exact ⟨⟨i + 1,Qv,m,fx,_,_,_,_,_,_,by omega,by omega,by go_num,M,hO,hG,hR⟩,by simp [intOf];omega⟩
   obtain ⟨bd,od,rfl,hbd,hcd⟩:=(hDr.ext M.e) Qa;obtain ⟨k,hk⟩:=Qf ((adj i).getD t 0)
   have d0 : w1.cell? ⟨bd,od + t,none⟩ = some (.int .i64 (k : Int)):=by
    have:=hcd t 0 (.int .i64 (((adj i).getD t 0 : Nat) : Int)) hlt2 rfl;rw [← hk] at this
    simpa using this
   clear hcd;have hkn : k < ni:=hadj i k (by rw [hk];exact Jg (by rw [← hla.out];exact hlt2));have hdr:=So (l:=adj i) (t:=t) (by rw [← hla.out];exact hlt2);rw [← hk] at hdr;clear hk;have hni0 : 0 < ni:=by omega
   obtain ⟨bu,ou,hUe,hbu,hcu⟩:=hVi hni0;have cu0 : W0.cell? ⟨bu,ou + k * 2,none⟩ = some (.int .i64 ((ri k).1 : Nat)):=by simpa using hcu k 0 _ hkn rfl
   have cu1 : W0.cell? ⟨bu,ou + k * 2 + 1,none⟩ = some (.int .i64 ((ri k).2 : Nat)):=by simpa using hcu k 1 _ hkn rfl
   clear hcu;subst hUe;have hXe:=M.f.a hni0;have hIe:=M.i.a hni0;have hOe:=M.o.a hno0;subst hXe;subst hIe;subst hOe;have x0:=M.f.cell hkn;have xl:=M.f.lt hni0;have o0:=M.o.cell hlt;have ol:=M.o.lt hno0;replace hRK:=hRK.out;rw [hdr] at hRK;unfold Xd at hRK;clear hdr;obtain ⟨s0,s1,s2,s3,s4,s5,s6⟩:=Q7 M.km.s;have sl:=M.km.s.lt;cases hf : fx k
   rotate_left
   ·rw [hf] at x0 hRK;replace hRK:=Lib.hid hRK;go_wp2;exact ⟨⟨t + 1,_,_,_,_,_,_,rfl,by omega,by go_num,M,hO,hRK⟩,by simp [intOf];omega⟩
   rw [hf] at x0 hRK;replace hRK : (if m.2 i = (k : Int) then some (k,m,Qi fx k true) else match Xk adj ni no fx m i k with | some m' => some (k,m',Qi fx k true) | none => Xd adj ni no i ((adj i).drop (t + 1)) m fx) = RK:=hRK;by_cases ge : m.2 i = (k : Int)
   ·have ge1 : (m.2 i == (k : Int)) = true:=beq_iff_eq.2 ge;rw [if_pos ge] at hRK;replace hRK : RK = some (k,m,Qi fx k true):=hRK.symm;subst hRK;replace hR : Hid (Qv ++ (i,k) :: J1 adj ni no (no - (i + 1)) (i + 1) m (Qi fx k true) = RES):=hR;clear ge;have fz:=M.f.frozen hni0 k;go_upto_region 12 with (fail)
    have hF:=(FT.refl w1).setA M.f hni0 Lw k (.bool true);have HC:=M.setF hkn true;replace hO:=P6 hO hF;clear fz x0 xl o0 ol d0 hbd M hF;generalize World.setCell _ _ _ = wq at *;clear s0 s1 s2 s3 s4 s5 s6 sl;refine Q5 19 [18] (fun x => MS W0 x bm bs (.slice (some ⟨bv,ov,none⟩) no co) (.slice (some ⟨bu,ou,none⟩) ni ci) (.slice (some ⟨b,off,none⟩) no cY) (some ⟨bo,0,none⟩) (some ⟨bi,0,none⟩) (some ⟨bf,0,none⟩) no ni cO cI cX bo bi bf m (Qi fx k true)) mixed rfl ?_;intro vz hvz;replace HC:=HC.ext hvz;replace hO:=Yo hO hvz;refine Qr (g:=3) [0,1,2,3,4,5,6,7,8,9,10,11,12,13,14,15] HC ?_
    constructor
    refine ⟨fun u hu => ?_,?_⟩
    ·obtain ⟨s0,s1,s2,s3,s4,s5,s6⟩:=Q7 hu.km.s;have sl:=hu.km.s.lt;have y0:=(hu.e.cell (p:=⟨bv,ov + i * 2,none⟩) hbv).trans cv0;have y1:=(hu.e.cell (p:=⟨bv,ov + i * 2 + 1,none⟩) hbv).trans cv1;have z0:=(hu.e.cell (p:=⟨bu,ou + k * 2,none⟩) hbu).trans cu0;have z1:=(hu.e.cell (p:=⟨bu,ou + k * 2 + 1,none⟩) hbu).trans cu1;have yl:=Nat.lt_of_lt_of_le hbv hu.e.size;have zl:=Nat.lt_of_lt_of_le hbu hu.e.size;exact Qj
    refine Qk 16 ?_;go_wp2;obtain ⟨bq,wb,hbq,hwb,Q6,_,hx,hge⟩:=Qp HC.e 35 #[.int .i64 (ro i).1,.int .i64 (ro i).2,.int .i64 (ri k).1,.int .i64 (ri k).2];rw [← hbq,← hwb];clear hbq hwb;replace HC:=HC.ext hx;replace hO:=Yo hO hx;clear hx;refine Qe HC ?_;refine Qk 17 ?_;go_wp2_with (at_builtin;refine wpList_append_own_at _ rfl _ _ 28 rfl W0.heap.size 35 i0 (.agg #[.int .i64 0,.int .i64 0,.int .i64 0,.int .i64 0]) 4 32 Tryz.underlying28 hi0 hz0 hz1 hz2 rfl (by decide) _ _ _ rfl hO ⟨bq,0,none⟩ 1 1 [.int .i64 (ro i).1,.int .i64 (ro i).2,.int .i64 (ri k).1,.int .i64 (ri k).2] rfl rfl (Lr Q6) (C6 _ _ _ _) (by unfold maxLen;omega) Qa HC.e.size ?_;intro vn wn hown hgrow _ _)
    replace HC:=HC.grown hO hgrow;clear hgrow Q6;refine Qe HC ?_;refine Qn 18 ?_;go_wp2;refine Qm ?_;refine Qt ?_
    have hR2 : Hid ((Qv ++ [(i,k)]) ++ J1 adj ni no (no - (i + 1)) (i + 1) m (Qi fx k true) = RES):=by
     have h:=hR.out;rw [List.append_assoc];exact h
    have hown2 : wn.ownsRow W0.heap.size 35 4 vn (Qv ++ [(i,k)]).length ((Qv ++ [(i,k)]).flatMap (mcl ro ri)):=by
     rw [List.length_append,List.flatMap_append];exact hown
    clear hown hO hR;go_wp2;exact ⟨⟨i + 1,Qv ++ [(i,k)],_,_,_,_,_,_,_,_,by omega,by rw [List.length_append];show Qv.length + 1 ≤ i + 1;omega,by go_num,HC,hown2,hG,hR2⟩,by simp [intOf];omega⟩
   have ge1 : (m.2 i == (k : Int)) = false:=beq_eq_false_iff_ne.2 ge;rw [if_neg ge] at hRK;clear ge;have NS:=Qm8 W0 bm bs (some ⟨bv,ov,none⟩) (some ⟨bu,ou,none⟩) co ci (.slice (some ⟨b,off,none⟩) no cY) (some ⟨bo,0,none⟩) (some ⟨bi,0,none⟩) (some ⟨bf,0,none⟩) no ni cO cI cX bo bi bf m fx i k hadj hY hlt hkn hno hni hls hf hG.i hG.o w1 M;go_upto_region 11 with (fail)
   cases es : Xk adj ni no fx m i k with
   | none =>
    rw [es] at NS hRK;replace hRK : Hid (Xd adj ni no i ((adj i).drop (t + 1)) m fx = RK):=hRK;simp only [Option.isSome,Option.getD] at NS;go_upto_region 13 with (go_at_call 128;(with_reducible refine Calls.mono NS ?_);rintro e w3 ⟨rfl,hF,O,I,cO,cI,bo,bi,HC⟩)
    replace HC : MS W0 w3 bm bs (.slice (some ⟨bv,ov,none⟩) no co) (.slice (some ⟨bu,ou,none⟩) ni ci) (.slice (some ⟨b,off,none⟩) no cY) O I (some ⟨bf,0,none⟩) no ni cO cI cX bo bi bf m fx:=HC;replace hO:=P6 hO hF;clear NS hF x0 xl o0 ol d0 hbd M es;go_wp2
    exact ⟨⟨t + 1,_,_,_,_,_,_,rfl,by omega,by go_num,HC,hO,hRK⟩,by simp [intOf];omega⟩
   | some m' =>
    rw [es] at NS hRK;replace hRK : RK = some (k,m',Qi fx k true):=hRK.symm;subst hRK;replace hR : Hid (Qv ++ (i,k) :: J1 adj ni no (no - (i + 1)) (i + 1) m' (Qi fx k true) = RES):=hR;have hG2:=Qna hadj hG hlt hkn es;simp only [Option.isSome,Option.getD] at NS;go_upto_region 12 with (go_at_call 128;(with_reducible refine Calls.mono NS ?_);rintro e w3 ⟨rfl,hF,O,I,cO,cI,bo,bi,HC⟩)
    replace HC : MS W0 w3 bm bs (.slice (some ⟨bv,ov,none⟩) no co) (.slice (some ⟨bu,ou,none⟩) ni ci) (.slice (some ⟨b,off,none⟩) no cY) O I (some ⟨bf,0,none⟩) no ni cO cI cX bo bi bf m' (Qi fx k true):=HC;replace hO:=P6 hO hF;clear NS hF x0 xl o0 ol d0 hbd M es;have hOe:=HC.o.a hno0;have hIe:=HC.i.a hni0;subst hOe;subst hIe;clear s0 s1 s2 s3 s4 s5 s6 sl;refine Q5 19 [18] (fun x => MS W0 x bm bs (.slice (some ⟨bv,ov,none⟩) no co) (.slice (some ⟨bu,ou,none⟩) ni ci) (.slice (some ⟨b,off,none⟩) no cY) (some ⟨bo,0,none⟩) (some ⟨bi,0,none⟩) (some ⟨bf,0,none⟩) no ni cO cI cX bo bi bf m' (Qi fx k true)) mixed rfl ?_;intro vz hvz;replace HC:=HC.ext hvz;replace hO:=Yo hO hvz
    refine Qr (g:=3) [0,1,2,3,4,5,6,7,8,9,10,11,12,13,14,15] HC ?_
    constructor
    refine ⟨fun u hu => ?_,?_⟩
    ·obtain ⟨s0,s1,s2,s3,s4,s5,s6⟩:=Q7 hu.km.s;have sl:=hu.km.s.lt;have y0:=(hu.e.cell (p:=⟨bv,ov + i * 2,none⟩) hbv).trans cv0;have y1:=(hu.e.cell (p:=⟨bv,ov + i * 2 + 1,none⟩) hbv).trans cv1;have z0:=(hu.e.cell (p:=⟨bu,ou + k * 2,none⟩) hbu).trans cu0;have z1:=(hu.e.cell (p:=⟨bu,ou + k * 2 + 1,none⟩) hbu).trans cu1;have yl:=Nat.lt_of_lt_of_le hbv hu.e.size;have zl:=Nat.lt_of_lt_of_le hbu hu.e.size;exact Qj
    refine Qk 16 ?_;go_wp2;obtain ⟨bq,wb,hbq,hwb,Q6,_,hx,hge⟩:=Qp HC.e 35 #[.int .i64 (ro i).1,.int .i64 (ro i).2,.int .i64 (ri k).1,.int .i64 (ri k).2];rw [← hbq,← hwb];clear hbq hwb;replace HC:=HC.ext hx;replace hO:=Yo hO hx;clear hx;refine Qe HC ?_;refine Qk 17 ?_;go_wp2_with (at_builtin;refine wpList_append_own_at _ rfl _ _ 28 rfl W0.heap.size 35 i0 (.agg #[.int .i64 0,.int .i64 0,.int .i64 0,.int .i64 0]) 4 32 Tryz.underlying28 hi0 hz0 hz1 hz2 rfl (by decide) _ _ _ rfl hO ⟨bq,0,none⟩ 1 1 [.int .i64 (ro i).1,.int .i64 (ro i).2,.int .i64 (ri k).1,.int .i64 (ri k).2] rfl rfl (Lr Q6) (C6 _ _ _ _) (by unfold maxLen;omega) Qa HC.e.size ?_;intro vn wn hown hgrow _ _)
    replace HC:=HC.grown hO hgrow;clear hgrow Q6;refine Qe HC ?_;refine Qn 18 ?_;go_wp2;refine Qm ?_;refine Qt ?_
    have hR2 : Hid ((Qv ++ [(i,k)]) ++ J1 adj ni no (no - (i + 1)) (i + 1) m' (Qi fx k true) = RES):=by
     have h:=hR.out;rw [List.append_assoc];exact h
    have hown2 : wn.ownsRow W0.heap.size 35 4 vn (Qv ++ [(i,k)]).length ((Qv ++ [(i,k)]).flatMap (mcl ro ri)):=by
     rw [List.length_append,List.flatMap_append];exact hown
    clear hown hO hR;go_wp2;exact ⟨⟨i + 1,Qv ++ [(i,k)],_,_,_,_,_,_,_,_,by omega,by rw [List.length_append];show Qv.length + 1 ≤ i + 1;omega,by go_num,HC,hown2,hG2,hR2⟩,by simp [intOf];omega⟩
def Uk (r : Rf) : List Value:=[.int .i64 r.1,.int .i64 r.2]
theorem Qi0 : (Tryz.prog.info? 33).map (fun i => (i.zero,i.size,i.bytes)) = some (some (.agg #[.int .i64 0,.int .i64 0]),2,16):=by kernel_rfl
theorem C9 (a b : Int) : ∀ u ∈ [Value.int .i64 a,.int .i64 b],u.oneCell' = true:=by simp [Value.oneCell']
/-- Two rows of references that lie apart, in blocks made since wE. -/
structure Xq (wE wr : World) (Lo Li : List Rf) (x y : Value) : Prop where
 e : Qb wE wr
 a : wr.ownsRow wE.heap.size 33 2 x Lo.length (Lo.flatMap Uk)
 b : wr.ownsRow wE.heap.size 33 2 y Li.length (Li.flatMap Uk)
 ne : ∀ q,x.ownBlock = some q → y.ownBlock ≠ some q
namespace Xq
variable {wE wr w1 : World} {Lo Li : List Rf} {x y x' y' : Value}
theorem zero (w : World) : Xq w w [] [] (.slice none 0 0) (.slice none 0 0):=⟨Qb.refl _,⟨rfl,.inl ⟨rfl,rfl⟩⟩,⟨rfl,.inl ⟨rfl,rfl⟩⟩,fun q h => by cases h⟩
theorem ext (h : Xq wE wr Lo Li x y) (k : Qb wr w1) : Xq wE w1 Lo Li x y:=⟨h.e.trans k,Yo h.a k,Yo h.b k,h.ne⟩
theorem fst (h : Xq wE wr Lo Li x y) {r : Rf} (hown : w1.ownsRow wE.heap.size 33 2 x' (Lo.length + 1) (Lo.flatMap Uk ++ Uk r)) (hg : wr.grownBy w1 x.ownBlock)
  (hb : x'.ownBlock = x.ownBlock ∨ x'.ownBlock = some wr.heap.size) : Xq wE w1 (Lo ++ [r]) Li x' y:=by
 refine ⟨h.e.grown hg (fun q hq => (h.a.lt q hq).1),by rw [List.length_append,List.flatMap_append];simpa using hown,h.b.kept hg ?_,fun q hq => ?_⟩
 ·cases hx : x.ownBlock with
  | none => cases hy : y.ownBlock with
   | none => exact .inl rfl
   | some r => exact .inr (fun e => by cases e)
  | some q => exact .inr (h.ne q hx)
 ·rcases hb with hb | hb
  ·exact h.ne q (hb ▸ hq)
  ·intro hy;rw [hb] at hq;have:=(h.b.lt q hy).2;have e:=Option.some.inj hq;omega
theorem snd (h : Xq wE wr Lo Li x y) {r : Rf} (hown : w1.ownsRow wE.heap.size 33 2 y' (Li.length + 1) (Li.flatMap Uk ++ Uk r)) (hg : wr.grownBy w1 y.ownBlock)
  (hb : y'.ownBlock = y.ownBlock ∨ y'.ownBlock = some wr.heap.size) : Xq wE w1 Lo (Li ++ [r]) x y':=by
 refine ⟨h.e.grown hg (fun q hq => (h.b.lt q hq).1),h.a.kept hg ?_,by rw [List.length_append,List.flatMap_append];simpa using hown,fun q hq => ?_⟩
 ·cases hx : x.ownBlock with
  | none => exact .inl rfl
  | some q => exact .inr (fun e => h.ne q hx e.symm)
 ·rcases hb with hb | hb
  ·rw [hb];exact h.ne q hq
  ·rw [hb];intro e;have:=(h.a.lt q hq).2;have e:=Option.some.inj e;omega
end Xq
theorem Qcd : ∀ (L : List Rf) (i j : Nat),i < L.length → j < 2 → (L.flatMap Uk)[i * 2 + j]? = (Uk (L.getD i Qy))[j]?
 | r :: L,0,j,_,hj => by
  match j,hj with
  | 0,_ => simp [Uk]
  | 1,_ => simp [Uk]
 | r :: L,i + 1,j,h,hj => by
  have hl : (Uk r).length = 2:=rfl;rw [List.flatMap_cons,List.getElem?_append_right Qa,hl,show (i + 1) * 2 + j - 2 = i * 2 + j by omega,Qcd L i j (by simpa using h) hj];rfl
theorem Nh {w : World} {base : Nat} {v : Value} {L : List Rf} (h : w.ownsRow base 33 2 v L.length (L.flatMap Uk)) : ∃ F c,v = .slice F L.length c ∧ Qs w F L.length 2 (fun i => [.int .i64 ((L.getD i Qy).1 : Nat),.int .i64 ((L.getD i Qy).2 : Nat)]):=by
 rcases h.2 with ⟨rfl,h0⟩ | ⟨q,cap,cur,rfl,hb,hq,hn,hm,_⟩
 ·exact ⟨none,0,by rw [h0],fun hp => by omega⟩
 ·refine ⟨_, _, rfl, fun _ => ⟨q, 0, rfl, (Array.getElem?_eq_some_iff.1 hq).1, fun i j v hi hv => ?_⟩⟩;have hj : j < 2 := (List.getElem?_eq_some_iff.1 hv).1;have hlt : i * 2 + j < L.length * 2 := by omega
  rw [Nat.zero_add,World.ownsRow.cellAt h (i * 2 + j) hlt,Qcd L i j hi hj];exact hv
theorem Qi1 : (Tryz.prog.info? 125).map (fun i => (i.zero,i.size,i.bytes)) = some (some (.slice none 0 0),1,24):=by kernel_rfl
theorem Qke (n : Nat) (hn : n ≤ 1000000) (w : World) : (Instr.makeSlice 164 (.int .i64 (n : Int)) (.int .i64 (n : Int))).run Tryz.prog w = .ok (.slice (some ⟨w.heap.size,0,none⟩) n n) (w.alloc (.cells (Array.replicate n (.slice none 0 0)) 125)):=by
 obtain ⟨i0,hi,hz0,hz1,hz2⟩:=info_parts Qi1;have h:=Dm (P:=Tryz.prog) 164 125 i0 _ Tryz.underlying164 hi hz0 .i64 .i64 n (by rw [hz2];omega) Qa w;rw [hz1] at h;rw [h];exact congrArg _ (Po n w rfl)
theorem Qll {W : World} {b b' n s : Nat} {e : TypeId} {v : Value} {xs : List Value} (h : W.ownsRow b e s v n xs) (hb : b' ≤ b) : W.ownsRow b' e s v n xs:=by
 refine ⟨h.1,?_⟩;rcases h.2 with hn | ⟨g,cap,cur,hv,h1,rest⟩
 ·exact .inl hn
 ·exact .inr ⟨g,cap,cur,hv,Nat.le_trans hb h1,rest⟩
/-- Blocks but those of rows of rows stay as they are. -/
def FM (W W' : World) : Prop:=∀ b t (cs : Array Value),Qc W b t cs → t ≠ 125 → Qc W' b t cs
theorem FM.refl (W : World) : FM W W:=fun _ _ _ h _ => h
theorem FM.ext {W W1 W2 : World} (h : FM W W1) (x : Qb W1 W2) : FM W W2:=fun b t cs hb ht => (h b t cs hb ht).ext x
theorem FM.set {W W1 : World} {b : Nat} {cs : Array Value} (h : FM W W1) (hb : Qc W1 b 125 cs) (j : Nat) (u : Value) : FM W (W1.setCell ⟨b,j,none⟩ u):=fun b' t' cs' hb' ht' => Wn (h b' t' cs' hb' ht') (Xt (h b' t' cs' hb' ht') hb ht') j u
theorem FM.grown {W W1 W2 : World} {v : Value} {e : TypeId} {s n : Nat} {xs : List Value} (h : FM W W1) (ho : W1.ownsRow W.heap.size e s v n xs) (hg : W1.grownBy W2 v.ownBlock) : FM W W2:=fun b t cs hb ht => (h b t cs hb ht).kept hg (fun e => by have:=(Va ho b e.symm).1;have:=hb.lt;omega)
theorem Qbu {W W' : World} {base n s : Nat} {e : TypeId} {v : Value} {xs : List Value} (h : W.ownsRow base e s v n xs) (he : e ≠ 125) (f : FM W W') : W'.ownsRow base e s v n xs:=by
 refine ⟨h.1,?_⟩;rcases h.2 with hn | ⟨g,cap,cur,hv,hb,hg,rest⟩
 ·exact .inl hn
 ·exact .inr ⟨g,cap,cur,hv,hb,f g e cur hg he,rest⟩
theorem Xq.fm {wE wr w1 : World} {Lo Li : List Rf} {x y : Value} (h : Xq wE wr Lo Li x y) (f : FM wr w1) (e : Qb wE w1) : Xq wE w1 Lo Li x y:=⟨e,Qbu h.a (by decide) f,Qbu h.b (by decide) f,h.ne⟩
def Lb (W : World) (v : Value) (xs : List Nat) : Prop:=∃ D cd bD,v = .slice D xs.length cd ∧ Qx W 3 D xs.length bD (fun k => .int .i64 ((xs.getD k 0 : Nat) : Int))
theorem Lb.fm {W W' : World} {v : Value} {xs : List Nat} (h : Lb W v xs) (f : FM W W') : Lb W' v xs:=by
 obtain ⟨D,cd,bD,e,ha⟩:=h;refine ⟨D,cd,bD,e,ha.a,fun hn => ?_⟩;obtain ⟨cs,h1,h2⟩:=ha.h hn;exact ⟨cs,f _ _ _ h1 (by decide),h2⟩
theorem Fw (p : Pd) (b : Bool) (i : Nat) : ∀ n,(Y1 p b i n).length ≤ n
 | 0 => Nat.le_refl _
 | n + 1 => by
  have:=Fw p b i n;unfold Y1;rw [List.length_append]
  split <;> simp <;> omega
theorem Nf {l : List Pd} (b : Bool) {m : Nat} (hm : ∀ i,i < l.length → (l.getD i Qh).d.length ≤ m) : ∀ n,n ≤ l.length → (Y0 l b n).length ≤ n * m
 | 0,_ => by simp [Y0]
 | n + 1,hn => by
  have h1:=Nf b hm n Qa;have h2:=Fw (l.getD n Qh) b n (l.getD n Qh).d.length;have h3:=hm n Qa;unfold Y0;rw [List.length_append,Nat.succ_mul];omega
theorem Qcj {p : Pd} {b : Bool} {i n : Nat} (h : (p.d.getD n Qw).i = b) : Y1 p b i (n + 1) = Y1 p b i n ++ [(i,n)]:=by
 conv => lhs;unfold Y1
 rw [if_pos h]
theorem Qch {p : Pd} {b : Bool} {i n : Nat} (h : (p.d.getD n Qw).i ≠ b) : Y1 p b i (n + 1) = Y1 p b i n:=by
 conv => lhs;unfold Y1
 rw [if_neg h,List.append_nil]
theorem Qj3 (A A' : Option Addr) (ca cb : Nat) (c : Qd) (l : List Pd) (vl : Value) (ba : Nat) (days : Int) (w : World) (hA : K8 w ba A A' ca cb c vl l) (hv : c.valid = true) (hb1 : l.length ≤ 1000) (hb2 : ∀ i,i < l.length → (l.getD i Qh).d.length ≤ 1000) :
  Calls Tryz.prog 35 #[.pointer (some ⟨ba,0,none⟩),.int .i64 days] w fun e w' => ∃ v,e = .returned v ∧ Qb w w' ∧ w'.ownsRow w.heap.size 35 4 v (c.matchI l days).length ((c.matchI l days).flatMap (mcl (fun o => (Zf l false).getD o Qy) (fun k => (Zf l true).getD k Qy))):=by
 obtain ⟨i0,hi0,hz0,hz1,hz2⟩:=info_parts Qi0;obtain ⟨j0,hj0,hy3,hy4,hy5⟩:=info_parts Oj;obtain ⟨D,cap,vo,vd,vc,rfl,hD,hcap,hmax,_,hat⟩:=id hA.P;have hn : l.length ≤ 9223372036854775807:=by omega
 obtain ⟨g,hg⟩:=Qf (fun i => l.getD i Qh);have hg' : ∀ i,l.getD i Qh = g i:=fun i => by rw [hg]
 simp only [hg'] at hD hat;replace hg':=Lib.hid hg';clear hg hcap hmax
 go_enter Tryz.func35,Tryz.ntmps35
 obtain ⟨a0,a1,a2,a3⟩:=Qc.c4 hA.b;have al:=Qc.lt hA.b;go_upto_region 3 with (fail)
 clear a0 a1 a2 a3 al
 go_loopw [5,6,22] (fun ov iv jv wr => ∃ i : Nat,i ≤ l.length ∧ jv = .int .i64 i ∧ Xq w wr (Y0 l false i) (Y0 l true i) ov iv) (fun _ _ jv _ => l.length - (intOf jv).toNat)
 case atStart => exact ⟨0,Nat.zero_le _,rfl,Xq.zero w⟩
 case round =>
  obtain ⟨i,hi,rfl,T⟩:=hrel;obtain ⟨wo,rfl⟩:=Qf wr;by_cases hlt : i < l.length;rotate_left
  ·obtain rfl : i = l.length := by omega
   have hLo:=Nf false hb2 l.length (Nat.le_refl _);have hLi:=Nf true hb2 l.length (Nat.le_refl _);obtain ⟨Lo,hLoe⟩:=Qf (Zf l false);obtain ⟨Li,hLie⟩:=Qf (Zf l true);have q1 : Y0 l false l.length = Lo:=by rw [hLoe];rfl
   have q2 : Y0 l true l.length = Li:=by rw [hLie];rfl
   rw [q1] at T hLo;rw [q2] at T hLi;have hno : Lo.length ≤ 1000000:=by omega
   have hni : Li.length ≤ 1000000:=by omega
   replace hLoe:=Lib.hid hLoe;replace hLie:=Lib.hid hLie;clear q1 q2 hLo hLi hat hD;obtain ⟨Vo,co,rfl,_⟩:=Nh T.a;obtain ⟨Vi,ci,rfl,_⟩:=Nh T.b;have hmkr:=fun w => Qke Lo.length hno w
   go_upto_region 16 with (fail)
   clear hmkr;obtain ⟨wy,hwy⟩:=Qf (wo.alloc (.cells (Array.replicate Lo.length (.slice none 0 0)) 125));rw [← hwy];have AY : Qx wy 125 (some ⟨wo.heap.size,0,none⟩) Lo.length wo.heap.size (fun _ => .slice none 0 0):=by rw [hwy];exact Qeu wo _ _ _
   have x1 : Qb wo wy:=by rw [hwy];exact (Qb.refl wo).alloc _
   have T2:=T.ext x1;have hwb:=T.e.size;generalize wo.heap.size = bY at *;clear hwy T x1
   go_loopw [55] (fun jv wr => ∃ (i : Nat) (rv : Nat → Value),i ≤ Lo.length ∧ jv = .int .i64 i ∧ Xq w wr Lo Li (.slice Vo Lo.length co) (.slice Vi Li.length ci) ∧ Qx wr 125 (some ⟨bY,0,none⟩) Lo.length bY rv ∧ (∀ x,x < i → Lb wr (rv x) (c.adjA l days x)) ∧ ∀ x,i ≤ x → rv x = .slice none 0 0) (fun jv _ => Lo.length - (intOf jv).toNat)
   case atStart => exact ⟨0,_,Nat.zero_le _,rfl,T2,AY,fun x hx => absurd hx Qa,fun _ _ => rfl⟩
   case round =>
    clear T2 AY;obtain ⟨i,rv,hi,rfl,T,AY,hrow,hnil⟩:=hrel;obtain ⟨wo,rfl⟩:=Qf wr;by_cases hlt : i < Lo.length;rotate_left
    ·obtain rfl : i = Lo.length := by omega
     obtain ⟨F,cF,e,RO⟩:=Nh T.a;injection e with e1 _ e3
     subst e1;subst e3;obtain ⟨F2,cF2,e',RI⟩:=Nh T.b;injection e' with e1 _ e3
     subst e1;subst e3;have hadj:=Gb c l days;rw [← hLie.out] at hadj
     have hY : Nt wo (.slice (some ⟨bY,0,none⟩) Lo.length Lo.length) Lo.length (c.adjA l days):=⟨_,_,rv,rfl,N8 AY,fun x hx => by
      obtain ⟨D,cd,bD,e,ha⟩:=hrow x hx;refine ⟨D,cd,Nat.le_trans ?_ hni,e,N8 ha⟩;unfold Qd.adjA;rw [← hLie.out];exact Nat.le_trans (List.length_filter_le _ _) (by simp)⟩
     have N1:=fun Vo Vi co ci => Qk4 Vo Vi Lo.length Li.length co ci _ wo hadj hY hno hni
     have hG:=Sy (no:=Lo.length) hadj (fun _ => false) Lo.length 0 Yl Qa Qk5;have N2:=fun bm bs Vo Vi co ci O I X cO cI cX bo bi bf h1 h2 (h : wo.heap.size ≤ bs) W hM => Qgg wo bm bs Vo Vi co ci _ O I X Lo.length Li.length cO cI cX bo bi bf _ (fun o => Lo.getD o Qy) (fun k => Li.getD k Qy) hadj hY h1 h2 hno hni h hG W hM
     have hE:=T.e
     have hch : Hid (c.matchI l days = J1 (c.adjA l days) Li.length Lo.length Lo.length 0 (Jq (c.adjA l days) Li.length (fun _ => false) Lo.length 0 Yl).1 (fun _ => false)):=by
      unfold Hid Qd.matchI Kn;rw [← hLie.out,← hLoe.out]
     clear hadj hY hrow hnil AY T;go_wp2_with (first | (go_at_call 80;(with_reducible refine zc (N1 _ _ _ _) ?_);rintro e w5 ⟨bm,bs,O,I,X,cO,cI,cX,bo,bi,bf,rfl,hbs,hM⟩) | (go_at_call 81;(with_reducible refine zc (N2 _ _ _ _ _ _ _ _ _ _ _ _ _ _ _ RO RI hbs _ hM) ?_);rintro e w6 ⟨v,rfl,x6,hO⟩));go_ret;rw [hch.out,← hLoe.out,← hLie.out];exact ⟨_,rfl,hE.trans x6,Qll hO hE.size⟩
    obtain ⟨F,cF,e,RO⟩:=Nh T.a;injection e with e1 _ e3
    subst e1;subst e3;obtain ⟨bo,oo,rfl,hbo,hco⟩:=RO Qa;obtain ⟨x,hx⟩:=Qf (Lo.getD i Qy)
    have c0 : wo.cell? ⟨bo,oo + i * 2,none⟩ = some (.int .i64 (x.1 : Nat)):=by
     have:=hco i 0 (.int .i64 ((Lo.getD i Qy).1 : Nat)) hlt rfl;rw [← hx] at this;exact this
    have c1 : wo.cell? ⟨bo,oo + i * 2 + 1,none⟩ = some (.int .i64 (x.2 : Nat)):=by
     have:=hco i 1 (.int .i64 ((Lo.getD i Qy).2 : Nat)) hlt rfl;rw [← hx] at this;exact this
    clear hco RO;replace hx:=Lib.hid hx;go_upto_region 19 with (fail)
    obtain ⟨wx,hwx⟩:=Qf (wo.alloc (.cells #[.int .i64 (x.1 : Nat),.int .i64 (x.2 : Nat)] 33));rw [← hwx];have x1 : Qb wo wx:=by rw [hwx];exact (Qb.refl wo).alloc _
    have BX : Qc wx wo.heap.size 33 #[.int .i64 (x.1 : Nat),.int .i64 (x.2 : Nat)]:=by rw [hwx];exact Qc.new _ _ _
    replace T:=T.ext x1;replace AY:=AY.ext x1;have hrow2 : ∀ y,y < i → Lb wx (rv y) (c.adjA l days y):=fun y hy => (hrow y hy).fm ((FM.refl _).ext x1)
    have hxm:=Y2.1 (show x ∈ Zf l false by rw [← hLoe.out,hx.out];exact Jg hlt);obtain ⟨hx1,hx2,_⟩:=hxm;generalize wo.heap.size = bx at *;clear hwx x1 c0 c1 hbo hrow;have hnii : rv i = .slice none 0 0:=hnil i (Nat.le_refl _)
    go_loopw [62] (fun kv wr => ∃ (k : Nat) (v : Value) (xs : List Nat),k ≤ Li.length ∧ kv = .int .i64 k ∧ Qb w wr ∧ FM wx wr ∧ wx.heap.size ≤ wr.heap.size ∧ Qx wr 125 (some ⟨bY,0,none⟩) Lo.length bY (fun y => if y = i then v else rv y) ∧ wr.ownsRow wx.heap.size 3 1 v xs.length (xs.map fun z : Nat => Value.int .i64 (z : Int)) ∧ Hid (xs = (List.range k).filter fun k => c.mayB l days x (Li.getD k Qy))) (fun kv _ => Li.length - (intOf kv).toNat)
    case atStart => exact ⟨0,.slice none 0 0,[],Nat.zero_le _,rfl,T.e,FM.refl _,Nat.le_refl _,AY.congr (fun y _ => by by_cases e : y = i <;> simp [e,hnii]),⟨rfl,.inl ⟨rfl,rfl⟩⟩,Lib.hid rfl⟩
    case round =>
     obtain ⟨k,v,xs,hk,rfl,E,M,hsz,A2,hO,hxs⟩:=hrel;obtain ⟨wo,rfl⟩:=Qf wr;have T2:=T.fm M E;by_cases hlk : k < Li.length;rotate_left
     ·obtain rfl : k = Li.length := by omega
      have hadj : xs = c.adjA l days i:=by
       rw [hxs.out];unfold Qd.adjA;rw [← hLoe.out,← hLie.out,hx.out]
      obtain ⟨A5,c5,b5,ev,_,_,AR⟩:=Tf (g:=fun k => .int .i64 ((xs.getD k 0 : Nat) : Int)) hO (fun k hk => by simp [hk]);have hri : Lb wo v (c.adjA l days i):=by rw [← hadj];exact ⟨A5,c5,b5,ev,AR⟩
      have hro : ∀ y,y < i + 1 → Lb wo ((fun y => if y = i then v else rv y) y) (c.adjA l days y):=fun y hy => by
       by_cases e : y = i
       ·subst e;simpa using hri
       ·simp only [if_neg e];exact (hrow2 y Qa).fm M
      have hni2 : ∀ y,i + 1 ≤ y → (fun y => if y = i then v else rv y) y = .slice none 0 0:=fun y hy => by
       have e : y ≠ i:=by omega
       simp only [if_neg e];exact hnil y Qa
      clear hri hadj AR T AY hrow2;go_wp2;exact ⟨⟨i + 1,_,by omega,by go_num,T2,A2,hro,hni2⟩,by simp [intOf];omega⟩
     obtain ⟨F,cF,e,RI⟩:=Nh T2.b;injection e with e1 _ e3
     subst e1;subst e3;obtain ⟨bi,oi,rfl,hbi,hci⟩:=RI Qa;obtain ⟨y,hy⟩:=Qf (Li.getD k Qy)
     have c0 : wo.cell? ⟨bi,oi + k * 2,none⟩ = some (.int .i64 (y.1 : Nat)):=by
      have:=hci k 0 (.int .i64 ((Li.getD k Qy).1 : Nat)) hlk rfl;rw [← hy] at this;exact this
     have c1 : wo.cell? ⟨bi,oi + k * 2 + 1,none⟩ = some (.int .i64 (y.2 : Nat)):=by
      have:=hci k 1 (.int .i64 ((Li.getD k Qy).2 : Nat)) hlk rfl;rw [← hy] at this;exact this
     clear hci RI;have hym:=Y2.1 (show y ∈ Zf l true by rw [← hLie.out,hy];exact Jg hlk);obtain ⟨hy1,hy2,_⟩:=hym
     have hxs2 : ∀ q : Bool,c.mayB l days x y = q → (if q then xs ++ [k] else xs) = (List.range (k + 1)).filter fun k => c.mayB l days x (Li.getD k Qy):=fun q hq => by
      have e : c.mayB l days x (Li.getD k Qy) = q:=by rw [← hy];exact hq
      rw [List.range_succ,List.filter_append,← hxs.out];simp only [List.filter_cons,List.filter_nil,e];cases q <;> simp
     have hxl : xs.length ≤ k:=by rw [hxs.out];exact Nat.le_trans (List.length_filter_le _ _) (by simp)
     replace hy:=Lib.hid hy;go_upto_region 21 with (fail)
     obtain ⟨wz,hwz⟩:=Qf (wo.alloc (.cells #[.int .i64 (y.1 : Nat),.int .i64 (y.2 : Nat)] 33));rw [← hwz];have x1 : Qb wo wz:=by rw [hwz];exact (Qb.refl wo).alloc _
     have BY : Qc wz wo.heap.size 33 #[.int .i64 (y.1 : Nat),.int .i64 (y.2 : Nat)]:=by rw [hwz];exact Qc.new _ _ _
     have BX2:=(M _ _ _ BX (by decide)).ext x1;replace E:=E.trans x1;replace M:=M.ext x1;replace A2:=A2.ext x1;replace hO:=Yo hO x1;replace hsz:=Nat.le_trans hsz x1.size;have NM:=Qj1 A A' ca cb c l _ ba days x y w wz E hA hv hx1 hx2 hy1 hy2;generalize wo.heap.size = by' at *
     clear hwz x1 c0 c1 hbi T2;obtain ⟨k0,k1⟩:=BX2.c2;have kl:=BX2.lt;obtain ⟨l0,l1⟩:=BY.c2;have ll:=BY.lt;cases hmb : c.mayB l days x y
     ·rw [hmb] at NM;have h2:=hxs2 false hmb;go_upto_region 23 with (go_at_call 79;(with_reducible refine Calls.mono NM ?_);rintro e w5 ⟨rfl,x5⟩)
      replace E:=E.trans x5;replace M:=M.ext x5;replace A2:=A2.ext x5;replace hO:=Yo hO x5;replace hsz:=Nat.le_trans hsz x5.size;go_wp2;exact ⟨⟨k + 1,v,xs,by omega,by go_num,E,M,hsz,A2,hO,Lib.hid h2⟩,by simp [intOf];omega⟩
     rw [hmb] at NM;have h2:=hxs2 true hmb;obtain ⟨Fv,mv,rfl⟩:=Jt hO;go_upto_region 22 with (go_at_call 79;(with_reducible refine Calls.mono NM ?_);rintro e w5 ⟨rfl,x5⟩)
     have hno0 : 0 < Lo.length:=by omega
     have x6:=x5.alloc (.cells #[.int .i64 (k : Int)] 3);have A5:=A2.ext x5
     have m0 : w5.cell? ⟨bY,i,none⟩ = some (.slice Fv xs.length mv):=by
      have:=A5.cell hlt
      simpa using this
     have ml:=A5.lt hno0;have O6:=Yo hO x6;have A6:=A2.ext x6;have M6:=M.ext x6;have E6:=E.trans x6;have s6:=Nat.le_trans hsz x6.size;clear NM k0 k1 kl l0 l1 ll BX2 BY E M A2 hO hsz hxs2;go_wp2_with (at_builtin;refine wpList_append_own_at _ rfl _ _ 125 rfl wx.heap.size 3 j0 (.int .i64 0) 1 8 Tryz.underlying125 hj0 hy3 hy4 hy5 rfl (by decide) _ _ _ rfl O6 ⟨w5.heap.size,0,none⟩ 1 1 [.int .i64 k] rfl rfl (Lr (Qc.new _ _ _)) (by simp [Value.oneCell']) (by unfold maxLen;omega) Qa s6 ?_;intro vn wn hown hgrow _ hob;obtain ⟨Fn,mn,rfl⟩:=Jt hown;have A7:=A6.kept hgrow (fun hn => by obtain ⟨cs,h1,_⟩:=A6.h hn;exact h1.not_row (by decide) O6);have fz:=A7.frozen hno0 i;have fc:=A7.cell hlt;have fl:=A7.lt hno0)
     have E7:=(E6.grown hgrow (fun q hq => Nat.le_trans T.e.size (Va O6 q hq).1)).setCell (p:=⟨bY,i,none⟩) hwb (.slice Fn (xs.length + 1) mn);obtain ⟨cs7,H7,_⟩:=A7.h hno0;have M7:=(M6.grown O6 hgrow).set H7 i (.slice Fn (xs.length + 1) mn);have O7:=Y8 H7 (by decide) hown i (.slice Fn (xs.length + 1) mn);have A8:=(A7.set hlt (.slice Fn (xs.length + 1) mn)).congr (g':=fun y => if y = i then (.slice Fn (xs.length + 1) mn) else rv y) (fun y _ => by by_cases e : y = i <;> simp [e])
     have s7 : wx.heap.size ≤ (wn.setCell ⟨bY,i,none⟩ (.slice Fn (xs.length + 1) mn)).heap.size:=by
      have:=hgrow.size;have e : (wn.setCell ⟨bY,i,none⟩ (.slice Fn (xs.length + 1) mn)).heap.size = wn.heap.size:=by simp [World.setCell]
      omega
     refine ⟨⟨k + 1,.slice Fn (xs.length + 1) mn,xs ++ [k],by omega,by go_num,E7,M7,s7,A8,?_,Lib.hid h2⟩,by simp [intOf];omega⟩;rw [List.length_append,List.map_append];exact O7
  obtain ⟨b,off,rfl,hb,hc⟩:=(hD.ext T.e) Qa;obtain ⟨c0,c1,c2,c3,c4,c5,c6,c7,c8,c9,c10,c11⟩:=Hy hc hlt;clear hc;have P1:=hat i hlt;obtain ⟨t1,s1,e1,_⟩:=id P1.o;obtain ⟨t3,s3,e3,_⟩:=id P1.c;obtain ⟨t2,s2,ws,e2,hT,hs2,hms2,_,hatT⟩:=id P1.d;rw [e1] at c9;rw [e2] at c10;rw [e3] at c11;have hbi:=hb2 i hlt;have hLo:=Nf false hb2 i hi;have hLi:=Nf true hb2 i hi;rw [hg'.out] at hbi;replace hatT:=Lib.hid hatT;clear e1 e2 e3 P1 hat hs2;have hbw:=hb
  have hst : ∀ b,Y0 l b (i + 1) = Y0 l b i ++ Y1 (g i) b i (g i).d.length:=fun b => by
   conv => lhs;unfold Y0
   rw [hg'.out]
  replace hst:=Lib.hid hst;obtain ⟨Lo,hLoe⟩:=Qf (Y0 l false i);obtain ⟨Li,hLie⟩:=Qf (Y0 l true i);rw [← hLoe] at T hLo;rw [← hLie] at T hLi;replace hLoe:=Lib.hid hLoe;replace hLie:=Lib.hid hLie;go_upto_region 6 with (fail)
  obtain ⟨wp,hwp⟩:=Qf (wo.alloc (.cells #[.string (g i).h,.int .i64 (g i).a.y,.int .i64 (g i).a.m,.bool (g i).a.s,.int .i64 (g i).a.d,.int .i64 (g i).b.y,.int .i64 (g i).b.m,.bool (g i).b.s,.int .i64 (g i).b.d,.slice t1 (g i).o.length s1,.slice t2 (g i).d.length s2,.slice t3 (g i).c.length s3] 55));rw [← hwp];have x1 : Qb wo wp:=by rw [hwp];exact (Qb.refl wo).alloc _
  replace T:=T.ext x1;clear hwp x1 c0 c1 c2 c3 c4 c5 c6 c7 c8 c9 c10 c11 hb hbw
  go_loopw [5,6,30] (fun ov iv jv wr => ∃ k : Nat,k ≤ (g i).d.length ∧ jv = .int .i64 k ∧ Xq w wr (Lo ++ Y1 (g i) false i k) (Li ++ Y1 (g i) true i k) ov iv) (fun _ _ jv _ => (g i).d.length - (intOf jv).toNat)
  case atStart => exact ⟨0,Nat.zero_le _,rfl,by simpa [Y1] using T⟩
  case round =>
   clear T;obtain ⟨k,hk,rfl,T⟩:=hrel;obtain ⟨wo,rfl⟩:=Qf wr;by_cases hlk : k < (g i).d.length;rotate_left
   ·obtain rfl : k = (g i).d.length := by omega
    rw [hLoe.out,hLie.out,← hst.out,← hst.out] at T;go_wp2;exact ⟨⟨i + 1,by omega,by go_num,T⟩,by simp [intOf];omega⟩
   obtain ⟨b',off',rfl,hb',hc'⟩:=(hT.ext T.e) Qa;obtain ⟨d0,d1,d2,d3,d4,d5,zz⟩:=zp7 hc' hlk;clear zz;have c6:=hc' k 6 (ws k) hlk rfl;clear hc';obtain ⟨F7,m7,e7,_⟩:=id (hatT.out k hlk);obtain ⟨G,hG⟩:=Qf ((g i).d.getD k Qw);rw [← hG] at d0 d1 d2 d3 d4 d5 e7
   replace c6 : wo.cell? ⟨b',off' + k * 7 + 6,none⟩ = some (.slice F7 G.l.length m7):=by
    have:=c6;rw [e7] at this;exact this
   clear e7;have hlp1:=Fw (g i) false i k;have hlp2:=Fw (g i) true i k;cases hgi : G.i
   ·rw [hgi] at d4;have y1:=Qcj (p:=g i) (b:=false) (i:=i) (n:=k) (by rw [← hG];exact hgi);have y2:=Qch (p:=g i) (b:=true) (i:=i) (n:=k) (by rw [← hG,hgi];decide);replace y1:=Lib.hid y1;replace y2:=Lib.hid y2;clear hG hgi;go_upto_region 11 with (fail)
    obtain ⟨wx,hwx⟩:=Qf ((wo.alloc (.cells #[.int .i64 G.on.y,.int .i64 G.on.m,.bool G.on.s,.int .i64 G.on.d,.bool false,.string G.w,.slice F7 G.l.length m7] 57)).alloc (.cells #[.int .i64 i,.int .i64 k] 33));rw [← hwx];have x2 : Qb wo wx:=by rw [hwx];exact ((Qb.refl wo).alloc _).alloc _
    have k1 : Qc wx (wo.heap.size + 1) 33 #[.int .i64 i,.int .i64 k]:=by
     rw [hwx];have h:=Qc.new (wo.alloc (.cells #[.int .i64 G.on.y,.int .i64 G.on.m,.bool G.on.s,.int .i64 G.on.d,.bool false,.string G.w,.slice F7 G.l.length m7] 57)) 33 #[.int .i64 (i : Int),.int .i64 (k : Int)]
     simpa using h
    have T2:=T.ext x2;have T3:=T2.ext ((Qb.refl wx).alloc (.cells #[.int .i64 i,.int .i64 k] 33));clear hwx x2 d0 d1 d2 d3 d4 d5 c6 hb' T;obtain ⟨q0,q1⟩:=k1.c2;have ql:=k1.lt;go_wp2_with (at_builtin;refine wpList_append_own_at _ rfl _ _ 163 rfl w.heap.size 33 i0 (.agg #[.int .i64 0,.int .i64 0]) 2 16 Tryz.underlying163 hi0 hz0 hz1 hz2 rfl (by decide) _ _ _ rfl T3.a ⟨wx.heap.size,0,none⟩ 1 1 [.int .i64 i,.int .i64 k] rfl rfl (Lr (Qc.new _ _ _)) (C9 _ _) (by rw [List.length_append];unfold maxLen;omega) (by rw [List.length_append];omega) T3.e.size ?_;intro vn wn hown hgrow _ hob);have T4:=T3.fst (r:=(i,k)) hown hgrow hob;rw [List.append_assoc,← y1.out,← y2.out] at T4
    exact ⟨⟨k + 1,by omega,by go_num,T4⟩,by simp [intOf];omega⟩
   ·rw [hgi] at d4;have y1:=Qcj (p:=g i) (b:=true) (i:=i) (n:=k) (by rw [← hG];exact hgi);have y2:=Qch (p:=g i) (b:=false) (i:=i) (n:=k) (by rw [← hG,hgi];decide);replace y1:=Lib.hid y1;replace y2:=Lib.hid y2;clear hG hgi;go_upto_region 10 with (fail)
    obtain ⟨wx,hwx⟩:=Qf ((wo.alloc (.cells #[.int .i64 G.on.y,.int .i64 G.on.m,.bool G.on.s,.int .i64 G.on.d,.bool true,.string G.w,.slice F7 G.l.length m7] 57)).alloc (.cells #[.int .i64 i,.int .i64 k] 33));rw [← hwx];have x2 : Qb wo wx:=by rw [hwx];exact ((Qb.refl wo).alloc _).alloc _
    have k1 : Qc wx (wo.heap.size + 1) 33 #[.int .i64 i,.int .i64 k]:=by
     rw [hwx];have h:=Qc.new (wo.alloc (.cells #[.int .i64 G.on.y,.int .i64 G.on.m,.bool G.on.s,.int .i64 G.on.d,.bool true,.string G.w,.slice F7 G.l.length m7] 57)) 33 #[.int .i64 (i : Int),.int .i64 (k : Int)]
     simpa using h
    have T2:=T.ext x2;have T3:=T2.ext ((Qb.refl wx).alloc (.cells #[.int .i64 i,.int .i64 k] 33));clear hwx x2 d0 d1 d2 d3 d4 d5 c6 hb' T;obtain ⟨q0,q1⟩:=k1.c2;have ql:=k1.lt;go_wp2_with (at_builtin;refine wpList_append_own_at _ rfl _ _ 163 rfl w.heap.size 33 i0 (.agg #[.int .i64 0,.int .i64 0]) 2 16 Tryz.underlying163 hi0 hz0 hz1 hz2 rfl (by decide) _ _ _ rfl T3.b ⟨wx.heap.size,0,none⟩ 1 1 [.int .i64 i,.int .i64 k] rfl rfl (Lr (Qc.new _ _ _)) (C9 _ _) (by rw [List.length_append];unfold maxLen;omega) (by rw [List.length_append];omega) T3.e.size ?_;intro vn wn hown hgrow _ hob);have T4:=T3.snd (r:=(i,k)) hown hgrow hob;rw [List.append_assoc,← y1.out,← y2.out] at T4
    exact ⟨⟨k + 1,by omega,by go_num,T4⟩,by simp [intOf];omega⟩
def Uz (p : Rf × Rf) : List Value:=[.int .i64 (p.1.1 : Nat),.int .i64 (p.1.2 : Nat),.int .i64 (p.2.1 : Nat),.int .i64 (p.2.2 : Nat)]
theorem Qj0 (c : Qd) (l : List Pd) (days : Int) : (c.matchI l days).flatMap (mcl (fun o => (Zf l false).getD o Qy) (fun k => (Zf l true).getD k Qy)) = (c.matchL l days).flatMap Uz:=by
 unfold Qd.matchL;rw [List.flatMap_map];rfl
theorem Bu {c : Qd} {l : List Pd} (h : c.archE l = 0) : l.length ≤ 32:=by
 refine Nat.le_of_not_lt fun hn => ?_
 unfold Qd.archE at h;by_cases hc : c.chk ≠ 0
 ·rw [if_pos hc] at h;exact hc h
 ·rw [if_neg hc,if_pos hn] at h;exact absurd h (by decide)
theorem Cf {c : Qd} {l : List Pd} {days : Int} (h : c.audE l days = 0) : c.archE l = 0:=by
 unfold Qd.audE at h;by_cases hc : c.archE l ≠ 0
 ·rw [if_pos hc] at h;exact absurd h hc
 ·simpa using hc
end
section
/-- The ins from k on with which an out may be matched. -/
def fl (my : Nat → Bool) (ni k : Nat) : List Nat:=(List.range' k (ni - k)).filter my
end
section
open Go Go.RowKit Go.Shelf
attribute [local go_sem] Zx
structure Rw (W : World) (ba : Nat) (A A' : Option Addr) (ca cb : Nat) (c : Qd) (vl : Value) (l : List Pd) (days : Int) : Prop where
 b : Qc W ba 103 #[.slice A c.nk ca,.slice A' c.ny cb,vl,.int .i64 days]
 C : Zg W A ca A' cb c
 P : Js W vl l
theorem Rw.ext {W W' : World} {ba : Nat} {A A' : Option Addr} {ca cb : Nat} {c : Qd} {vl : Value} {l : List Pd} {days : Int} (h : Rw W ba A A' ca cb c vl l days) (x : Qb W W') : Rw W' ba A A' ca cb c vl l days:=⟨h.b.ext x,h.C.ext x,h.P.ext x⟩
end
section
open Go Go.RowKit Go.Shelf
theorem Ty {adj : Nat → List Nat} {ni no : Nat} : ∀ (n i : Nat) (m : Mt) (fx : Bl),(J1 adj ni no n i m fx).length ≤ n
 | 0,_,_,_ => Nat.le_refl _
 | n + 1,i,m,fx => by
  rw [Ab]
  cases Xd adj ni no i (adj i) m fx with
  | none => exact Nat.le_succ_of_le (Ty n (i + 1) m fx)
  | some p =>
   obtain ⟨k,m',fx'⟩:=p;exact Nat.succ_le_succ (Ty n (i + 1) m' fx')
theorem Qjy (c : Qd) (l : List Pd) (days : Int) : (c.matchL l days).length ≤ (Zf l false).length:=by
 unfold Qd.matchL;rw [List.length_map];exact Ty _ _ _ _
theorem Qaz : ∀ (L : List (Rf × Rf)) (i j : Nat),i < L.length → j < 4 → (L.flatMap Uz)[i * 4 + j]? = (Uz (L.getD i (Qy,Qy)))[j]?
 | r :: L,0,j,_,hj => by
  match j,hj with
  | 0,_ => simp [Uz]
  | 1,_ => simp [Uz]
  | 2,_ => simp [Uz]
  | 3,_ => simp [Uz]
 | r :: L,i + 1,j,h,hj => by
  have hl : (Uz r).length = 4:=rfl;rw [List.flatMap_cons,List.getElem?_append_right Qa,hl,show (i + 1) * 4 + j - 4 = i * 4 + j by omega,Qaz L i j (by simpa using h) hj];rfl
/-- A row of pairs of one's own, read. -/
theorem Qcr {w : World} {base : Nat} {v : Value} {L : List (Rf × Rf)} (h : w.ownsRow base 35 4 v L.length (L.flatMap Uz)) : ∃ F c,v = .slice F L.length c ∧ Qs w F L.length 4 (fun i => Uz (L.getD i (Qy,Qy))):=by
 rcases h.2 with ⟨rfl,h0⟩ | ⟨q,cap,cur,rfl,hb,hq,hn,hm,_⟩
 ·exact ⟨none,0,by rw [h0],fun hp => by omega⟩
 ·refine ⟨_, _, rfl, fun _ => ⟨q, 0, rfl, (Array.getElem?_eq_some_iff.1 hq).1, fun i j v hi hv => ?_⟩⟩;have hj : j < 4 := (List.getElem?_eq_some_iff.1 hv).1;have hlt : i * 4 + j < L.length * 4 := by omega
  rw [Nat.zero_add,World.ownsRow.cellAt h (i * 4 + j) hlt,Qaz L i j hi hj];exact hv
theorem Qjz {c : Qd} {l : List Pd} {days : Int} (h : c.audE l days = 0) : (c.matchL l days).length ≤ 2048:=by
 obtain ⟨⟨_,hp⟩,_⟩:=Ca h;have h1:=Qjy c l days;have h2:=Nf (l:=l) false (m:=64) (fun i hi => (hp _ (Jg (z:=Qh) hi)).m) l.length (Nat.le_refl _);have h3:=Bu (Cf h);have h4 : (Zf l false).length ≤ l.length * 64:=h2;omega
end
section
open Go Go.RowKit
theorem Qhr (w : World) (x0 y0 : Int) (x1 y1 : Int) : (Op.equalIn 10000 33 (.agg #[.int .i64 x0,.int .i64 x1]) (.agg #[.int .i64 y0,.int .i64 y1])).run Tryz.prog w = .ok ((x0 == y0) && (x1 == y1)) w:=by
 go_simp
 by_cases h0 : x0 = y0;rotate_left
 ·simp [h0]
 by_cases h1 : x1 = y1;rotate_left
 ·simp [h1]
 simp [h0,h1]
theorem Qhu (w : World) (x0 y0 : Int) (x1 y1 : Int) : (binOp .eql 33 (.agg #[.int .i64 x0,.int .i64 x1]) (.agg #[.int .i64 y0,.int .i64 y1])).run Tryz.prog w = .ok (.bool ((x0 == y0) && (x1 == y1))) w:=by rw [run_eql_struct,Qhr];rfl
theorem Qhn (w : World) (x0 y0 : Int) (x1 y1 : Int) (x2 y2 : Int) : (Op.equalIn 10000 47 (.agg #[.int .i64 x0,.int .i64 x1,.int .i64 x2]) (.agg #[.int .i64 y0,.int .i64 y1,.int .i64 y2])).run Tryz.prog w = .ok ((x0 == y0) && ((x1 == y1) && (x2 == y2))) w:=by
 go_simp
 by_cases h0 : x0 = y0;rotate_left
 ·simp [h0]
 by_cases h1 : x1 = y1;rotate_left
 ·simp [h1]
 by_cases h2 : x2 = y2;rotate_left
 ·simp [h2]
 simp [h0,h1,h2]
theorem Qhs (w : World) (x0 y0 : Int) (x1 y1 : Int) (x2 y2 : Int) : (binOp .eql 47 (.agg #[.int .i64 x0,.int .i64 x1,.int .i64 x2]) (.agg #[.int .i64 y0,.int .i64 y1,.int .i64 y2])).run Tryz.prog w = .ok (.bool ((x0 == y0) && ((x1 == y1) && (x2 == y2)))) w:=by rw [run_eql_struct,Qhn];rfl
end
section
/-- An issue: its kind, its period, its deal. -/
abbrev Z5:=Nat × Nat × Nat
def Ql (l : List Pd) (i : Nat) : Pd:=l.getD i Qh
def Kc (p : Pd) : Bool:=!(decide ((Qz p.o p.d).2 = 0) && decide ((Qz p.o p.d).1 = p.c))
def Qd.befS (c : Qd) (l : List Pd) (i : Nat) (b : Int) (k : Nat) : Int:=if c.numV (Ql l k).b < c.numV (Ql l i).a ∧ (b < 0 ∨ c.numV (Ql l b.toNat).b < c.numV (Ql l k).b) then (k : Int) else b
def Yk (l : List Pd) (h : ByteArray) : List Nat:=(List.range l.length).filter fun k => decide ((Ql l k).h = h)
/-- The period before one, of those of its holder; -1: there is none. -/
def Qd.befV (c : Qd) (l : List Pd) (i : Nat) : Int:=(Yk l (Ql l i).h).foldl (c.befS l i) (-1)
def Qd.befK (c : Qd) (l : List Pd) (i : Nat) : Nat → Int
 | 0 => -1
 | k + 1 => if (Ql l k).h = (Ql l i).h then c.befS l i (c.befK l i k) k else c.befK l i k
theorem Ck (c : Qd) (l : List Pd) (i : Nat) : c.befK l i l.length = c.befV l i:=by
 have h : ∀ n,((List.range n).filter fun k => decide ((Ql l k).h = (Ql l i).h)).foldl (c.befS l i) (-1) = c.befK l i n:=fun n => by
  induction n with
  | zero => rfl
  | succ n ih =>
   rw [List.range_succ,List.filter_append,List.foldl_append,ih]
   show _ = (if (Ql l n).h = (Ql l i).h then c.befS l i (c.befK l i n) n else c.befK l i n)
   by_cases e : (Ql l n).h = (Ql l i).h
   ·rw [if_pos e];simp [e]
   ·rw [if_neg e];simp [e]
 exact (h l.length).symm
theorem Cl (c : Qd) (l : List Pd) (i : Nat) : ∀ n,-1 ≤ c.befK l i n ∧ c.befK l i n < n
 | 0 => by unfold Qd.befK;omega
 | n + 1 => by
  have h:=Cl c l i n;unfold Qd.befK Qd.befS
  split
  ·split <;> omega
  ·omega
def Qd.ovB (c : Qd) (l : List Pd) (i : Nat) : Bool:=(Yk l (Ql l i).h).any fun k => decide (k < i) && decide (c.numV (Ql l k).a ≤ c.numV (Ql l i).b) && decide (c.numV (Ql l i).a ≤ c.numV (Ql l k).b)
def Qd.keptB (c : Qd) (l : List Pd) (w : ByteArray) (on : Dt) : Bool:=(Yk l w).any fun k => decide (c.numV (Ql l k).a ≤ c.numV on) && decide (c.numV on ≤ c.numV (Ql l k).b)
def Ky (m : List (Rf × Rf)) (r : Rf) : Bool:=m.any fun p => decide (p.1 = r) || decide (p.2 = r)
def Qd.dealB (c : Qd) (l : List Pd) (m : List (Rf × Rf)) (i k : Nat) : Bool:=c.keptB l ((Ql l i).d.getD k Qw).w ((Ql l i).d.getD k Qw).on && !Ky m (i,k)
def Qd.opB (c : Qd) (l : List Pd) (i : Nat) : Bool:=decide (0 ≤ c.befV l i) && !decide ((Ql l (c.befV l i).toNat).c = (Ql l i).o)
/-- The issues of a period, but for its deals; with the first deals. -/
def Qd.isA (c : Qd) (l : List Pd) (i : Nat) : List Z5:=(if Kc (Ql l i) = true then [(1,i,0)] else []) ++ (if c.opB l i = true then [(2,i,0)] else []) ++ (if c.ovB l i = true then [(3,i,0)] else [])
def Qd.isD (c : Qd) (l : List Pd) (m : List (Rf × Rf)) (i : Nat) : Nat → List Z5
 | 0 => []
 | k + 1 => c.isD l m i k ++ (if c.dealB l m i k = true then [(4,i,k)] else [])
def Qd.isP (c : Qd) (l : List Pd) (m : List (Rf × Rf)) (i : Nat) : List Z5:=c.isA l i ++ c.isD l m i (Ql l i).d.length
def Qd.audN (c : Qd) (l : List Pd) (m : List (Rf × Rf)) : Nat → List Z5
 | 0 => []
 | n + 1 => c.audN l m n ++ c.isP l m n
def Qd.audL (c : Qd) (l : List Pd) (m : List (Rf × Rf)) : List Z5:=c.audN l m l.length
def Qd.auditV (c : Qd) (l : List Pd) (days : Int) : List Z5 × Int:=if c.audE l days ≠ 0 then ([],c.audE l days) else (c.audL l (c.matchL l days),0)
/-- The W7 of issues: by period, kind, deal. -/
def Wq (x y : Z5) : Prop:=x.2.1 < y.2.1 ∨ (x.2.1 = y.2.1 ∧ (x.1 < y.1 ∨ (x.1 = y.1 ∧ x.2.2 < y.2.2)))
theorem Iv {c : Qd} {l : List Pd} {i : Nat} {x : Z5} (h : x ∈ c.isA l i) : x.2.1 = i ∧ x.2.2 = 0 ∧ 1 ≤ x.1 ∧ x.1 ≤ 3:=by
 unfold Qd.isA at h;simp only [List.mem_append] at h;rcases h with (h | h) | h <;> split at h <;> simp at h <;> subst h <;> simp
theorem G4 {c : Qd} {l : List Pd} {m : List (Rf × Rf)} {i : Nat} {x : Z5} : ∀ {n : Nat},x ∈ c.isD l m i n → x.2.1 = i ∧ x.2.2 < n ∧ x.1 = 4
 | 0,h => absurd h (by simp [Qd.isD])
 | n + 1,h => by
  unfold Qd.isD at h;rw [List.mem_append] at h;rcases h with h | h
  ·have:=G4 h;exact ⟨this.1,by omega,this.2.2⟩
  ·split at h
   ·simp at h;subst h;simp
   ·simp at h
theorem Pb {c : Qd} {l : List Pd} {m : List (Rf × Rf)} {i : Nat} {x : Z5} (h : x ∈ c.isP l m i) : x.2.1 = i ∧ x.1 ≤ 4 ∧ (x.2.2 = 0 ∨ x.2.2 < (Ql l i).d.length):=by
 unfold Qd.isP at h;rw [List.mem_append] at h;rcases h with h | h
 ·obtain ⟨h1,h2,h3,h4⟩:=Iv h;exact ⟨h1,by omega,.inl h2⟩
 ·obtain ⟨h1,h2,h3⟩:=G4 h;exact ⟨h1,by omega,.inr h2⟩
theorem Qi5 (c : Qd) (l : List Pd) (i : Nat) : (c.isA l i).Pairwise Wq:=by
 unfold Qd.isA
 split <;> split <;> split <;> simp [Wq]
theorem Iw (c : Qd) (l : List Pd) (m : List (Rf × Rf)) (i : Nat) : ∀ n,(c.isD l m i n).Pairwise Wq
 | 0 => List.Pairwise.nil
 | n + 1 => by
  unfold Qd.isD;refine List.pairwise_append.2 ⟨Iw c l m i n,by split <;> simp,fun x hx y hy => ?_⟩;obtain ⟨h1,h2,h3⟩:=G4 hx
  split at hy
  ·rw [List.mem_singleton] at hy;subst hy;exact .inr ⟨h1,.inr ⟨h3,h2⟩⟩
  ·exact absurd hy (by simp)
theorem Qi7 (c : Qd) (l : List Pd) (m : List (Rf × Rf)) (i : Nat) : (c.isP l m i).Pairwise Wq:=by
 refine List.pairwise_append.2 ⟨Qi5 c l i,Iw c l m i _,fun x hx y hy => ?_⟩;obtain ⟨h1,_,_,h4⟩:=Iv hx;obtain ⟨k1,_,k3⟩:=G4 hy;exact .inr ⟨by omega,.inl Qa⟩
theorem Th {c : Qd} {l : List Pd} {m : List (Rf × Rf)} {x : Z5} : ∀ {n : Nat},x ∈ c.audN l m n → x.2.1 < n ∧ x ∈ c.isP l m x.2.1
 | 0,h => absurd h (by simp [Qd.audN])
 | n + 1,h => by
  unfold Qd.audN at h;rw [List.mem_append] at h;rcases h with h | h
  ·have:=Th h;exact ⟨by omega,this.2⟩
  ·have:=(Pb h).1;rw [this];exact ⟨by omega,h⟩
theorem Cc (c : Qd) (l : List Pd) (m : List (Rf × Rf)) : ∀ n,(c.audN l m n).Pairwise Wq
 | 0 => List.Pairwise.nil
 | n + 1 => by
  refine List.pairwise_append.2 ⟨Cc c l m n,Qi7 c l m n,fun x hx y hy => ?_⟩;have h1:=(Th hx).1;have h2:=(Pb hy).1;exact .inl Qa
theorem Tg (c : Qd) (l : List Pd) (m : List (Rf × Rf)) : ∀ n,c.audN l m n = (List.range n).flatMap (c.isP l m)
 | 0 => rfl
 | n + 1 => by
  rw [List.range_succ,List.flatMap_append,← Tg c l m n];simp [Qd.audN]
/-- Holder by holder, in any W7: the same issues. -/
theorem Qm2 (l : List Pd) (P : ByteArray → Bool) (f : Nat → List Z5) (h : ByteArray) (hP : P h = false) :
  ((List.range l.length).filter fun i => P (Ql l i).h || decide ((Ql l i).h = h)).flatMap f |>.Perm (((List.range l.length).filter fun i => P (Ql l i).h).flatMap f ++ (Yk l h).flatMap f):=by
 unfold Yk;generalize List.range l.length = r
 induction r with
 | nil => exact List.Perm.refl _
 | cons i r ih =>
  by_cases e : (Ql l i).h = h
  ·have e1 : P (Ql l i).h = false := by rw [e]; exact hP
   simp only [List.filter_cons,e1,Bool.false_or,decide_eq_true e,if_true,List.flatMap_cons];simp only [Bool.false_eq_true,if_false];refine (List.Perm.append_left (f i) ih).trans ?_;rw [← List.append_assoc,← List.append_assoc];exact List.perm_append_comm.append_right _
  ·by_cases e1 : P (Ql l i).h = true
   ·simp only [List.filter_cons,e1,Bool.true_or,if_true,List.flatMap_cons,decide_eq_false e,Bool.false_eq_true,if_false,List.append_assoc];exact List.Perm.append_left (f i) ih
   ·have e1 : P (Ql l i).h = false := by simpa using e1
    simp only [List.filter_cons,e1,Bool.false_or,decide_eq_false e,Bool.false_eq_true,if_false];exact ih
theorem Qir {x : Z5} : ¬ Wq x x:=fun h => by unfold Wq at h;omega
/-- What is sorted, of the same issues, is the reference's list. -/
theorem Qc4 : ∀ {a b : List Z5},a.Perm b → a.Pairwise Wq → b.Pairwise (fun x y => ¬ Wq y x) → a = b
 | [],b,h,_,_ => (List.Perm.nil_eq h)
 | x :: a,[],h,_,_ => absurd h.symm (by simp)
 | x :: a,y :: b,h,h1,h2 => by
  have hx : x ∈ y :: b:=h.subset List.mem_cons_self;have hy : y ∈ x :: a:=h.symm.subset List.mem_cons_self
  have e : x = y:=by
   rcases List.mem_cons.1 hx with e | hx
   ·exact e
   ·rcases List.mem_cons.1 hy with e | hy
    ·exact e.symm
    ·exact absurd (List.rel_of_pairwise_cons h1 hy) (List.rel_of_pairwise_cons h2 hx)
  subst e;rw [Qc4 (List.Perm.cons_inv h) (List.Pairwise.of_cons h1) (List.Pairwise.of_cons h2)]
end
section
open Go Go.RowKit Go.Shelf
attribute [local go_sem] Zx
attribute [local go_sem high] Qhu
theorem Qb1 (l : List Pd) (i : Nat) : Ql l i = l.getD i Qh:=rfl
theorem S3 {l : List Pd} {h : ByteArray} {k : Nat} : k ∈ Yk l h ↔ k < l.length ∧ (Ql l k).h = h:=by
 unfold Yk;rw [List.mem_filter,List.mem_range,decide_eq_true_eq]
end
section
open Go Go.RowKit Go.Shelf
attribute [local go_sem] Zx
/-- Who may match whom, in memory. -/
def MayB (W : World) (vy : Value) (no ni : Nat) (my : Nat → Nat → Bool) : Prop:=∃ Y cap,∃ vs : Nat → Value,vy = .slice Y no cap ∧ Qs W Y no 1 (fun i => [vs i]) ∧ ∀ i,i < no → ∃ D cd,vs i = .slice D ni cd ∧ Qs W D ni 1 (fun k => [.bool (my i k)])
theorem MayB.ext {W W' : World} {vy : Value} {no ni : Nat} {my : Nat → Nat → Bool} (h : MayB W vy no ni my) (x : Qb W W') : MayB W' vy no ni my:=by
 obtain ⟨Y,cap,vs,e,h1,h2⟩:=h;refine ⟨Y,cap,vs,e,h1.ext x,fun i hi => ?_⟩;obtain ⟨D,cd,e,h3⟩:=h2 i hi;exact ⟨D,cd,e,h3.ext x⟩
structure PS (W0 W : World) (bp : Nat) (vy : Value) (O : Option Addr) (ni cO bo : Nat) (f : Nat → Int) : Prop where
 e : Qb W0 W
 p : Qc W bp 219 #[vy,.slice O ni cO]
 i : Qx W 3 O ni bo fun k => .int .i64 (f k)
 lo : 0 < ni → W0.heap.size ≤ bo
section
variable {W0 W W' : World} {bp : Nat} {vy : Value} {O : Option Addr} {ni cO bo : Nat} {f : Nat → Int}
theorem PS.ext (h : PS W0 W bp vy O ni cO bo f) (x : Qb W W') : PS W0 W' bp vy O ni cO bo f:=⟨h.e.trans x,h.p.ext x,h.i.ext x,h.lo⟩
theorem PS.setI (h : PS W0 W bp vy O ni cO bo f) {k : Nat} (hk : k < ni) (v : Int) : PS W0 (W.setCell ⟨bo,k,none⟩ (.int .i64 v)) bp vy O ni cO bo (Qi f k v):=by
 obtain ⟨cs,h1,_⟩:=h.i.h Qa;refine ⟨h.e.setCell (p:=⟨bo,k,none⟩) (h.lo Qa) _,Wn h.p (Ne.symm (Xt h1 h.p (by decide))) _ _,(h.i.set hk _).congr fun x _ => ?_,h.lo⟩;by_cases e : x = k
 ·subst e;simp [Qi]
 ·simp [Qi,e]
theorem PS.setN (h : PS W0 W bp vy O ni cO bo f) {N : Option Addr} {bn k : Nat} {g : Nat → Value} (hN : Qx W 4 N ni bn g) (hk : k < ni) (hl : W0.heap.size ≤ bn) (u : Value) : PS W0 (W.setCell ⟨bn,k,none⟩ u) bp vy O ni cO bo f:=by
 obtain ⟨cs,h1,_⟩:=hN.h Qa;exact ⟨h.e.setCell (p:=⟨bn,k,none⟩) hl _,Wn h.p (Ne.symm (Xt h1 h.p (by decide))) _ _,h.i.oth (fun hn => h.i.apart2 hN (by decide) hn Qa) _ _,h.lo⟩
end
/-- Blocks but one stay. -/
def FB (br : Nat) (W W' : World) : Prop:=∀ b t (cs : Array Value),Qc W b t cs → b ≠ br → Qc W' b t cs
theorem FB.refl (br : Nat) (W : World) : FB br W W:=fun _ _ _ h _ => h
theorem FB.ext {br : Nat} {W W1 W2 : World} (h : FB br W W1) (x : Qb W1 W2) : FB br W W2:=fun b t cs hb ht => (h b t cs hb ht).ext x
theorem FB.set {br : Nat} {W W1 : World} (h : FB br W W1) (j : Nat) (u : Value) : FB br W (W1.setCell ⟨br,j,none⟩ u):=fun b t cs hb ht => Wn (h b t cs hb ht) ht j u
theorem Qx.fb {br : Nat} {W W' : World} {t : TypeId} {A : Option Addr} {n b : Nat} {g : Nat → Value} (h : Qx W t A n b g) (f : FB br W W') (hne : 0 < n → b ≠ br) : Qx W' t A n b g:=⟨h.a,fun hn => by
 obtain ⟨cs,h1,h2⟩:=h.h hn;exact ⟨cs,f _ _ _ h1 (hne hn),h2⟩⟩
structure TK (WB W : World) (bt ni : Nat) (fx : Nat → Bool) : Prop where
 e : Qb WB W
 a : Qx W 4 (some ⟨bt,0,none⟩) ni bt fun k => .bool (fx k)
theorem TK.ext {WB W W' : World} {bt ni : Nat} {fx : Nat → Bool} (h : TK WB W bt ni fx) (x : Qb W W') : TK WB W' bt ni fx:=⟨h.e.trans x,h.a.ext x⟩
theorem TK.set {WB W : World} {bt ni : Nat} {fx : Nat → Bool} (h : TK WB W bt ni fx) (hb : WB.heap.size ≤ bt) {k : Nat} (hk : k < ni) (b : Bool) : TK WB (W.setCell ⟨bt,k,none⟩ (.bool b)) bt ni (Qi fx k b):=⟨h.e.setCell (p:=⟨bt,k,none⟩) hb _,Bs h.a hk b⟩
theorem TK.grown {WB W W' : World} {bt ni : Nat} {fx : Nat → Bool} {v : Value} {n : Nat} {xs : List Value} (h : TK WB W bt ni fx) (ho : W.ownsRow WB.heap.size 35 4 v n xs) (hg : W.grownBy W' v.ownBlock) : TK WB W' bt ni fx :=
 ⟨h.e.grown hg (fun q hq => (Va ho q hq).1),h.a.kept hg (fun hn => by obtain ⟨cs,h1,_⟩:=h.a.h hn;exact h1.not_row (by decide) ho)⟩
def V3 (x : Z5) : List Value:=[.int .i64 (x.1 : Nat),.int .i64 (x.2.1 : Nat),.int .i64 (x.2.2 : Nat)]
theorem Qiy : (Tryz.prog.info? 47).map (fun i => (i.zero,i.size,i.bytes)) = some (some (.agg #[.int .i64 0,.int .i64 0,.int .i64 0]),3,24):=by kernel_rfl
theorem C3 (a b c : Int) : ∀ u ∈ [Value.int .i64 a,.int .i64 b,.int .i64 c],u.oneCell' = true:=by simp [Value.oneCell']
/-- The issues so far, as a row of one's own. -/
def Xm (W0 W : World) (v : Value) (L : List Z5) : Prop:=W.ownsRow W0.heap.size 47 3 v L.length (L.flatMap V3)
theorem Xm.ext {W0 W W' : World} {v : Value} {L : List Z5} (h : Xm W0 W v L) (x : Qb W W') : Xm W0 W' v L:=Yo h x
theorem Xm.nil (W : World) : Xm W W (.slice none 0 0) []:=⟨rfl,.inl ⟨rfl,rfl⟩⟩
theorem Xm.snoc {W0 W : World} {v : Value} {L : List Z5} {x : Z5} (h : W.ownsRow W0.heap.size 47 3 v (L.length + 1) (L.flatMap V3 ++ V3 x)) : Xm W0 W v (L ++ [x]):=by
 unfold Xm;rw [List.length_append,List.flatMap_append,List.flatMap_singleton];exact h
theorem G3 (c : Qd) (l : List Pd) (m : List (Rf × Rf)) (i : Nat) : ∀ n,(c.isD l m i n).length ≤ n
 | 0 => Nat.le_refl _
 | n + 1 => by
  have:=G3 c l m i n;unfold Qd.isD;rw [List.length_append]
  split <;> simp <;> omega
theorem Pa (c : Qd) (l : List Pd) (i : Nat) : (c.isA l i).length ≤ 3:=by
 unfold Qd.isA
 split <;> split <;> split <;> simp
theorem Cb {c : Qd} {l : List Pd} {m : List (Rf × Rf)} (h : ∀ i,i < l.length → (l.getD i Qh).d.length ≤ 64) : ∀ n,n ≤ l.length → (c.audN l m n).length ≤ 67 * n
 | 0,_ => Nat.le_refl _
 | n + 1,hn => by
  have h1:=Cb (c:=c) (m:=m) h n Qa;have h2:=G3 c l m n (Ql l n).d.length;have h3:=Pa c l n;have h4 : (Ql l n).d.length ≤ 64:=h n Qa;unfold Qd.audN Qd.isP;rw [List.length_append,List.length_append];omega
/-- Blocks stay, but the auditor's, and those of issues. -/
def FI (ba : Nat) (W W' : World) : Prop:=W.heap.size ≤ W'.heap.size ∧ ∀ b,b < W.heap.size → b ≠ ba → (∀ cs fz,W.heap[b]? ≠ some (.cells cs 47 fz)) → W'.heap[b]? = W.heap[b]?
theorem FI.refl (ba : Nat) (W : World) : FI ba W W:=⟨Nat.le_refl _,fun _ _ _ _ => rfl⟩
theorem FI.trans {ba : Nat} {W W1 W2 : World} (h : FI ba W W1) (k : FI ba W1 W2) : FI ba W W2:=⟨Nat.le_trans h.1 k.1,fun b hb hn ht => by
 have e:=h.2 b hb hn ht;rw [k.2 b (Nat.lt_of_lt_of_le hb h.1) hn (by rw [e];exact ht),e]⟩
theorem FI.exts {ba : Nat} {W W1 : World} (x : Qb W W1) : FI ba W W1:=⟨x.size,fun _ hb _ _ => x.block hb⟩
theorem FI.ext {ba : Nat} {W W1 W2 : World} (h : FI ba W W1) (x : Qb W1 W2) : FI ba W W2:=h.trans (FI.exts x)
theorem FI.held {ba : Nat} {W W' : World} (h : FI ba W W') {b : Nat} {t : TypeId} {cs : Array Value} (hb : Qc W b t cs) (hn : b ≠ ba) (ht : t ≠ 47) : Qc W' b t cs:=(h.2 b hb.lt hn (fun cs' fz e => by
 have:=(show W.heap[b]? = _ from hb).symm.trans e;injection this with this
 injection this with _ this
 exact ht this)).trans hb
theorem Qx.fi {ba : Nat} {W W' : World} {t : TypeId} {A : Option Addr} {n b : Nat} {g : Nat → Value} (h : Qx W t A n b g) (f : FI ba W W') {cs : Array Value} {t' : TypeId} (hB : Qc W ba t' cs) (htt : t ≠ t') (ht : t ≠ 47) : Qx W' t A n b g:=⟨h.a,fun hn => by
 obtain ⟨ds,h1,h2⟩:=h.h hn;exact ⟨ds,f.held h1 (Xt h1 hB htt) ht,h2⟩⟩
/-- The auditor, with the issues so far. -/
structure Y4 (W0 W : World) (ba : Nat) (A A' : Option Addr) (ca cb : Nat) (c : Qd) (vl : Value) (L : List Z5) : Prop where
 e : Qb W0 W
 b : ∃ I k,Qc W ba 132 #[.slice A c.nk ca,.slice A' c.ny cb,vl,.slice I L.length k] ∧ Xm W0 W (.slice I L.length k) L
theorem Y4.ext {W0 W W' : World} {ba : Nat} {A A' : Option Addr} {ca cb : Nat} {c : Qd} {vl : Value} {L : List Z5} (h : Y4 W0 W ba A A' ca cb c vl L) (x : Qb W W') : Y4 W0 W' ba A A' ca cb c vl L:=by
 obtain ⟨I,k,h1,h2⟩:=h.b;exact ⟨h.e.trans x,I,k,h1.ext x,h2.ext x⟩
/-- The periods of a holder: a row of indices. -/
def Xx (W : World) (v : Value) (hs : List Nat) : Prop:=∃ H cap b,v = .slice H hs.length cap ∧ Qx W 3 H hs.length b (fun k => .int .i64 ((hs.getD k 0 : Nat) : Int))
theorem Xx.ext {W W' : World} {v : Value} {hs : List Nat} (h : Xx W v hs) (x : Qb W W') : Xx W' v hs:=by
 obtain ⟨H,cap,b,e,h1⟩:=h;exact ⟨H,cap,b,e,h1.ext x⟩
theorem Xx.fi {ba : Nat} {W W' : World} {v : Value} {hs : List Nat} (h : Xx W v hs) (f : FI ba W W') {cs : Array Value} (hB : Qc W ba 132 cs) : Xx W' v hs:=by
 obtain ⟨H,cap,b,e,h1⟩:=h;exact ⟨H,cap,b,e,h1.fi f hB (by decide) (by decide)⟩
theorem Y4.box {W0 W : World} {ba : Nat} {A A' : Option Addr} {ca cb : Nat} {c : Qd} {vl : Value} {L : List Z5} (h : Y4 W0 W ba A A' ca cb c vl L) : ∃ iv,Qc W ba 132 #[.slice A c.nk ca,.slice A' c.ny cb,vl,iv]:=by
 obtain ⟨I,k,h1,_⟩:=h.b;exact ⟨_,h1⟩
theorem Fh (A A' : Option Addr) (ca cb : Nat) (c : Qd) (vl : Value) (ba bq : Nat) (L : List Z5) (xa xb xd : Nat) (za zb zd : Int) (hz : za = xa ∧ zb = xb ∧ zd = xd) (W0 w : World) (hA : Y4 W0 w ba A A' ca cb c vl L) (hba : W0.heap.size ≤ ba) (HQ : Qc w bq 47 #[.int .i64 za,.int .i64 zb,.int .i64 zd]) (hL : L.length ≤ 1000000) :
  Calls Tryz.prog 49 #[.pointer (some ⟨ba,0,none⟩),.slice (some ⟨bq,0,none⟩) 1 1] w fun e w' => e = .returned (.tuple #[]) ∧ Y4 W0 w' ba A A' ca cb c vl (L ++ [(xa,xb,xd)]) ∧ FI ba w w':=by
 obtain ⟨i0,hi0,hz0,hz1,hz2⟩:=info_parts Qiy;obtain ⟨rfl,rfl,rfl⟩:=hz;obtain ⟨I,k,HB,HO⟩:=hA.b;have E:=hA.e
 go_enter Tryz.func49,Tryz.ntmps49
 obtain ⟨a0,a1,a2,a3⟩:=HB.c4;have al:=HB.lt;go_wp2_with (at_builtin;refine wpList_append_own_at _ rfl _ _ 43 rfl W0.heap.size 47 i0 (.agg #[.int .i64 0,.int .i64 0,.int .i64 0]) 3 24 Tryz.underlying43 hi0 hz0 hz1 hz2 rfl (by decide) _ _ _ rfl HO ⟨bq,0,none⟩ 1 1 [.int .i64 (xa : Nat),.int .i64 (xb : Nat),.int .i64 (xd : Nat)] rfl rfl (Lr HQ) (C3 _ _ _) (by unfold maxLen;omega) Qa E.size ?_;intro vn wn hown hgrow _ hob;obtain ⟨Fn,mn,rfl⟩:=Jt hown;have B3:=HB.kept hgrow (HB.not_row (by decide) HO);have fz:=B3.frozen 3;have bl:=B3.lt;obtain ⟨a0,a1,a2,a3⟩:=B3.c4);have E3:=(E.grown hgrow (fun q hq => (Va HO q hq).1)).setCell (p:=⟨ba,3,none⟩) hba (.slice Fn (L.length + 1) mn)
 have B4 : Qc (wn.setCell ⟨ba,3,none⟩ (.slice Fn (L.length + 1) mn)) ba 132 #[.slice A c.nk ca,.slice A' c.ny cb,vl,.slice Fn (L.length + 1) mn]:=by
  have:=Ls B3 3 (.slice Fn (L.length + 1) mn)
  simpa using this
 have O4:=Y8 B3 (by decide) hown 3 (.slice Fn (L.length + 1) mn)
 have F4 : FI ba w (wn.setCell ⟨ba,3,none⟩ (.slice Fn (L.length + 1) mn)):=by
  refine ⟨by simpa [World.setCell] using hgrow.size,fun b hb hn ht => ?_⟩
  have h1:=hgrow.block b hb (fun e => by
   obtain ⟨_,cs,h⟩:=Va HO b e.symm;exact ht _ _ h)
  rw [← h1];simp [World.setCell,Array.getElem?_modify,Ne.symm hn]
 refine bodyPost_end (results_none rfl _ _ _) rfl ⟨rfl,⟨E3,Fn,mn,?_,?_⟩,F4⟩
 ·rw [List.length_append];exact B4
 ·have:=Xm.snoc (x:=(xa,xb,xd)) O4;rw [List.length_append];exact this
theorem Qe7 (A A' : Option Addr) (ca cb : Nat) (c : Qd) (l : List Pd) (vl iv : Value) (ba i : Nat) (v : Value) (hs : List Nat) (w : World) (hB : Qc w ba 132 #[.slice A c.nk ca,.slice A' c.ny cb,vl,iv]) (hC : Zg w A ca A' cb c) (hP : Js w vl l) (hI : Xx w v hs) (hin : ∀ k ∈ hs,k < l.length) (hi : i < l.length) (hsl : hs.length ≤ 9223372036854775807) :
  Calls Tryz.prog 96 #[.pointer (some ⟨ba,0,none⟩),.int .i64 i,v] w fun e w' => e = .returned (.int .i64 (hs.foldl (c.befS l i) (-1))) ∧ Qb w w':=by
 obtain ⟨D,cap,vo,vd,vc,rfl,hD,hcap,hmax,_,hat⟩:=id hP;have hn : l.length ≤ 9223372036854775807:=Nat.le_trans hcap (Nat.le_trans hmax (by decide));clear hcap hmax hat;obtain ⟨H,cH,bH,rfl,hHA⟩:=id hI;have hH:=N8 hHA;clear hHA;have ND:=fun d w h => Yy A A' ca cb c d w h
 obtain ⟨R,hR⟩:=Qf (hs.foldl (c.befS l i) (-1));rw [← hR];replace hR : Hid ((hs.drop 0).foldl (c.befS l i) (-1) = R):=Lib.hid hR.symm;replace hin:=Lib.hid hin
 go_enter Tryz.func96,Tryz.ntmps96
 go_upto_region 3 with (fail)
 go_loopw [7,13] (fun bv tv wr => ∃ (t : Nat) (b : Int),t ≤ hs.length ∧ tv = .int .i64 t ∧ bv = .int .i64 b ∧ -1 ≤ b ∧ b < l.length ∧ Qb w wr ∧ Hid ((hs.drop t).foldl (c.befS l i) b = R)) (fun _ tv _ => hs.length - (intOf tv).toNat)
 case atStart => exact ⟨0,-1,Nat.zero_le _,rfl,rfl,by omega,by omega,Qb.refl _,hR⟩
 case round =>
  clear hR;obtain ⟨t,b,ht,rfl,rfl,hb1,hb2,E,hR⟩:=hrel;obtain ⟨wo,rfl⟩:=Qf wr;by_cases hlt : t < hs.length;rotate_left
  ·obtain rfl : t = hs.length := by omega
   obtain rfl : b = R:=by have h:=hR.out;rw [List.drop_length] at h;exact h
   clear hR;go_wp2;go_ret;exact ⟨rfl,E⟩
  have C:=hC.ext E;obtain ⟨a0,a1,a2,a3⟩:=Qc.c4 (hB.ext E);have al:=Qc.lt (hB.ext E);obtain ⟨bh,oh,rfl,hbh,hch⟩:=(hH.ext E) Qa;obtain ⟨k,hke⟩:=Qf (hs.getD t 0)
  have h0 : wo.cell? ⟨bh,oh + t,none⟩ = some (.int .i64 (k : Int)):=by
   have:=hch t 0 (.int .i64 ((hs.getD t 0 : Nat) : Int)) hlt rfl;rw [← hke] at this
   simpa using this
  clear hch;have hk : k < l.length:=by rw [hke];exact hin.out _ (Jg hlt)
  have hdr:=So hlt;rw [← hke] at hdr;clear hke;obtain ⟨bp,off,rfl,hbp,hc⟩:=(hD.ext E) Qa;obtain ⟨pk,hpk⟩:=Qf (l.getD k Qh);have c0 : wo.cell? ⟨bp,off + k * 12,none⟩ = some (.string pk.h):=by rw [hpk];simpa [Qq] using hc k 0 _ hk rfl
  have c1 : wo.cell? ⟨bp,off + k * 12 + 1,none⟩ = some (.int .i64 pk.a.y):=by rw [hpk];simpa [Qq] using hc k 1 _ hk rfl
  have c2 : wo.cell? ⟨bp,off + k * 12 + 2,none⟩ = some (.int .i64 pk.a.m):=by rw [hpk];simpa [Qq] using hc k 2 _ hk rfl
  have c3 : wo.cell? ⟨bp,off + k * 12 + 3,none⟩ = some (.bool pk.a.s):=by rw [hpk];simpa [Qq] using hc k 3 _ hk rfl
  have c4 : wo.cell? ⟨bp,off + k * 12 + 4,none⟩ = some (.int .i64 pk.a.d):=by rw [hpk];simpa [Qq] using hc k 4 _ hk rfl
  have c5 : wo.cell? ⟨bp,off + k * 12 + 5,none⟩ = some (.int .i64 pk.b.y):=by rw [hpk];simpa [Qq] using hc k 5 _ hk rfl
  have c6 : wo.cell? ⟨bp,off + k * 12 + 6,none⟩ = some (.int .i64 pk.b.m):=by rw [hpk];simpa [Qq] using hc k 6 _ hk rfl
  have c7 : wo.cell? ⟨bp,off + k * 12 + 7,none⟩ = some (.bool pk.b.s):=by rw [hpk];simpa [Qq] using hc k 7 _ hk rfl
  have c8 : wo.cell? ⟨bp,off + k * 12 + 8,none⟩ = some (.int .i64 pk.b.d):=by rw [hpk];simpa [Qq] using hc k 8 _ hk rfl
  obtain ⟨pi,hpi⟩:=Qf (l.getD i Qh);have d0 : wo.cell? ⟨bp,off + i * 12,none⟩ = some (.string pi.h):=by rw [hpi];simpa [Qq] using hc i 0 _ hi rfl
  have d1 : wo.cell? ⟨bp,off + i * 12 + 1,none⟩ = some (.int .i64 pi.a.y):=by rw [hpi];simpa [Qq] using hc i 1 _ hi rfl
  have d2 : wo.cell? ⟨bp,off + i * 12 + 2,none⟩ = some (.int .i64 pi.a.m):=by rw [hpi];simpa [Qq] using hc i 2 _ hi rfl
  have d3 : wo.cell? ⟨bp,off + i * 12 + 3,none⟩ = some (.bool pi.a.s):=by rw [hpi];simpa [Qq] using hc i 3 _ hi rfl
  have d4 : wo.cell? ⟨bp,off + i * 12 + 4,none⟩ = some (.int .i64 pi.a.d):=by rw [hpi];simpa [Qq] using hc i 4 _ hi rfl
  have d5 : wo.cell? ⟨bp,off + i * 12 + 5,none⟩ = some (.int .i64 pi.b.y):=by rw [hpi];simpa [Qq] using hc i 5 _ hi rfl
  have d6 : wo.cell? ⟨bp,off + i * 12 + 6,none⟩ = some (.int .i64 pi.b.m):=by rw [hpi];simpa [Qq] using hc i 6 _ hi rfl
  have d7 : wo.cell? ⟨bp,off + i * 12 + 7,none⟩ = some (.bool pi.b.s):=by rw [hpi];simpa [Qq] using hc i 7 _ hi rfl
  have d8 : wo.cell? ⟨bp,off + i * 12 + 8,none⟩ = some (.int .i64 pi.b.d):=by rw [hpi];simpa [Qq] using hc i 8 _ hi rfl
  have hstep : (hs.drop (t + 1)).foldl (c.befS l i) (if c.numV pk.b < c.numV pi.a ∧ (b < 0 ∨ c.numV (l.getD b.toNat Qh).b < c.numV pk.b) then (k : Int) else b) = R:=by
   have h:=hR.out;rw [hdr,List.foldl_cons] at h;rw [hpk,hpi];exact h
  replace hstep:=Lib.hid hstep;replace hpk:=Lib.hid hpk;replace hpi:=Lib.hid hpi;clear hR hdr;have NK:=ND pk.b;have NI:=ND pi.a;obtain ⟨nk,hnk⟩:=Qf (c.numV pk.b);obtain ⟨ni,hni⟩:=Qf (c.numV pi.a);rw [← hnk,← hni] at hstep;rw [← hnk] at NK;rw [← hni] at NI;clear hnk hni;go_upto_region 5 with (fail)
  have hc':=Lib.hid hc;clear hc;have n1:=fun u : XW _ => NK _ (C.ext u.e)
  refine Zo wo ?_;intro w2 h2;clear n1;obtain ⟨hcbw2,hfbw2,hzbw2,hzw2⟩:=Zn wo h2;have E2:=E.trans h2;have C2:=hC.ext E2;have hc:=hc'.out;clear hc' a0 a1 a2 a3 al h0 hbh;obtain ⟨a0,a1,a2,a3⟩:=Qc.c4 (hB.ext E2);have al:=Qc.lt (hB.ext E2);have r1:=(h2.cell (p:=⟨bp,off + i * 12 + 1,none⟩) hbp).trans d1;have r2:=(h2.cell (p:=⟨bp,off + i * 12 + 2,none⟩) hbp).trans d2;have r3:=(h2.cell (p:=⟨bp,off + i * 12 + 3,none⟩) hbp).trans d3;have r4:=(h2.cell (p:=⟨bp,off + i * 12 + 4,none⟩) hbp).trans d4;clear c0 c1 c2 c3 c4 c5 c6 c7 c8 d0 d1 d2 d3 d4 d5 d6 d7 d8 NK;have hbp2:=Nat.lt_of_lt_of_le hbp h2.size;go_upto_region 6 with (fail)
  by_cases q1 : nk < ni;rotate_left
  ·have f1 : decide (nk < ni) = false := decide_eq_false q1;have e : (hs.drop (t + 1)).foldl (c.befS l i) b = R := by have h := hstep.out; rw [if_neg (fun h => q1 h.1)] at h; exact h
   clear hstep hc ND q1 hbp;have n1:=fun u : XW _ => NI _ (C2.ext u.e)
   refine Zo w2 ?_;intro wx hx;clear n1;obtain ⟨hcbwx,hfbwx,hzbwx,hzwx⟩:=Zn w2 hx;go_wp2;exact ⟨⟨t + 1,b,by omega,by go_num,rfl,hb1,hb2,E2.trans hx,Lib.hid e⟩,by simp [intOf];omega⟩
  have f1 : decide (nk < ni) = true:=decide_eq_true q1;replace q1:=Lib.hid q1;by_cases q2 : b < 0
  ·have f2 : decide (b < 0) = true := decide_eq_true q2;have e : (hs.drop (t + 1)).foldl (c.befS l i) (k : Int) = R := by have h := hstep.out; rw [if_pos ⟨q1.out, .inl q2⟩] at h; exact h
   clear hstep hc ND q2 hbp;have n1:=fun u : XW _ => NI _ (C2.ext u.e)
   refine Zo w2 ?_;intro wx hx;clear n1;obtain ⟨hcbwx,hfbwx,hzbwx,hzwx⟩:=Zn w2 hx;go_wp2;exact ⟨⟨t + 1,(k : Int),by omega,by go_num,rfl,by omega,by omega,E2.trans hx,Lib.hid e⟩,by simp [intOf];omega⟩
  have f2 : decide (b < 0) = false:=decide_eq_false q2;obtain ⟨q,rfl⟩ : ∃ q : Nat,b = q:=⟨b.toNat,by omega⟩;have hq : q < l.length:=by omega
  obtain ⟨pq,hpq⟩:=Qf (l.getD q Qh);have e0 : wo.cell? ⟨bp,off + q * 12,none⟩ = some (.string pq.h):=by rw [hpq];simpa [Qq] using hc q 0 _ hq rfl
  have e1 : wo.cell? ⟨bp,off + q * 12 + 1,none⟩ = some (.int .i64 pq.a.y):=by rw [hpq];simpa [Qq] using hc q 1 _ hq rfl
  have e2 : wo.cell? ⟨bp,off + q * 12 + 2,none⟩ = some (.int .i64 pq.a.m):=by rw [hpq];simpa [Qq] using hc q 2 _ hq rfl
  have e3 : wo.cell? ⟨bp,off + q * 12 + 3,none⟩ = some (.bool pq.a.s):=by rw [hpq];simpa [Qq] using hc q 3 _ hq rfl
  have e4 : wo.cell? ⟨bp,off + q * 12 + 4,none⟩ = some (.int .i64 pq.a.d):=by rw [hpq];simpa [Qq] using hc q 4 _ hq rfl
  have e5 : wo.cell? ⟨bp,off + q * 12 + 5,none⟩ = some (.int .i64 pq.b.y):=by rw [hpq];simpa [Qq] using hc q 5 _ hq rfl
  have e6 : wo.cell? ⟨bp,off + q * 12 + 6,none⟩ = some (.int .i64 pq.b.m):=by rw [hpq];simpa [Qq] using hc q 6 _ hq rfl
  have e7 : wo.cell? ⟨bp,off + q * 12 + 7,none⟩ = some (.bool pq.b.s):=by rw [hpq];simpa [Qq] using hc q 7 _ hq rfl
  have e8 : wo.cell? ⟨bp,off + q * 12 + 8,none⟩ = some (.int .i64 pq.b.d):=by rw [hpq];simpa [Qq] using hc q 8 _ hq rfl
  rw [show ((q : Int)).toNat = q by omega,← hpq] at hstep;replace hpq:=Lib.hid hpq;have s5:=(h2.cell (p:=⟨bp,off + q * 12 + 5,none⟩) hbp).trans e5;have s6:=(h2.cell (p:=⟨bp,off + q * 12 + 6,none⟩) hbp).trans e6;have s7:=(h2.cell (p:=⟨bp,off + q * 12 + 7,none⟩) hbp).trans e7;have s8:=(h2.cell (p:=⟨bp,off + q * 12 + 8,none⟩) hbp).trans e8;clear e0 e1 e2 e3 e4 e5 e6 e7 e8;clear hc hbp;have NQ:=ND pq.b;obtain ⟨nq,hnq⟩:=Qf (c.numV pq.b);rw [← hnq] at NQ hstep;clear hnq ND;by_cases q3 : nq < nk
  ·have f3 : decide (nq < nk) = true := decide_eq_true q3;have e : (hs.drop (t + 1)).foldl (c.befS l i) (k : Int) = R := by have h := hstep.out; rw [if_pos ⟨q1.out, .inr q3⟩] at h; exact h
   clear hstep q3 q2;have n1:=fun u : XW _ => NI _ (C2.ext u.e)
   have n2:=fun u : XW _ => NQ _ (C2.ext u.e)
   refine Zo w2 ?_;intro wx hx;clear n1 n2;obtain ⟨hcbwx,hfbwx,hzbwx,hzwx⟩:=Zn w2 hx;go_wp2;exact ⟨⟨t + 1,(k : Int),by omega,by go_num,rfl,by omega,by omega,E2.trans hx,Lib.hid e⟩,by simp [intOf];omega⟩
  ·have f3 : decide (nq < nk) = false := decide_eq_false q3;have e : (hs.drop (t + 1)).foldl (c.befS l i) (q : Int) = R := by have h := hstep.out; rw [if_neg (fun h => by rcases h.2 with h | h <;> omega)] at h; exact h
   clear hstep q3 q2;have n1:=fun u : XW _ => NI _ (C2.ext u.e)
   have n2:=fun u : XW _ => NQ _ (C2.ext u.e)
   refine Zo w2 ?_;intro wx hx;clear n1 n2;obtain ⟨hcbwx,hfbwx,hzbwx,hzwx⟩:=Zn w2 hx;go_wp2;exact ⟨⟨t + 1,(q : Int),by omega,by go_num,rfl,by omega,by omega,E2.trans hx,Lib.hid e⟩,by simp [intOf];omega⟩
theorem Qin (A A' : Option Addr) (ca cb : Nat) (c : Qd) (l : List Pd) (vl iv : Value) (ba b1 b2 k : Nat) (dd : Int) (w : World) (hB : Qc w ba 132 #[.slice A c.nk ca,.slice A' c.ny cb,vl,iv]) (hC : Zg w A ca A' cb c) (hP : Js w vl l) (hk : k < l.length) (H1 : Qc w b1 96 #[.pointer (some ⟨ba,0,none⟩)]) (H2 : Qc w b2 3 #[.int .i64 dd]) :
  Calls Tryz.prog 99 #[.int .i64 k,.pointer (some ⟨b1,0,none⟩),.pointer (some ⟨b2,0,none⟩)] w fun e w' => e = .returned (.bool (decide (c.numV (Ql l k).a ≤ dd) && decide (dd ≤ c.numV (Ql l k).b))) ∧ Qb w w':=by
 obtain ⟨D,cap,vo,vd,vc,rfl,hD,hcap,hmax,_,hat⟩:=id hP;clear hcap hmax hat;have ND:=fun d w h => Yy A A' ca cb c d w h
 obtain ⟨bp,off,rfl,hbp,hc⟩:=hD Qa;obtain ⟨pk,hpk⟩:=Qf (l.getD k Qh);have c0 : w.cell? ⟨bp,off + k * 12,none⟩ = some (.string pk.h):=by rw [hpk];simpa [Qq] using hc k 0 _ hk rfl
 have c1 : w.cell? ⟨bp,off + k * 12 + 1,none⟩ = some (.int .i64 pk.a.y):=by rw [hpk];simpa [Qq] using hc k 1 _ hk rfl
 have c2 : w.cell? ⟨bp,off + k * 12 + 2,none⟩ = some (.int .i64 pk.a.m):=by rw [hpk];simpa [Qq] using hc k 2 _ hk rfl
 have c3 : w.cell? ⟨bp,off + k * 12 + 3,none⟩ = some (.bool pk.a.s):=by rw [hpk];simpa [Qq] using hc k 3 _ hk rfl
 have c4 : w.cell? ⟨bp,off + k * 12 + 4,none⟩ = some (.int .i64 pk.a.d):=by rw [hpk];simpa [Qq] using hc k 4 _ hk rfl
 have c5 : w.cell? ⟨bp,off + k * 12 + 5,none⟩ = some (.int .i64 pk.b.y):=by rw [hpk];simpa [Qq] using hc k 5 _ hk rfl
 have c6 : w.cell? ⟨bp,off + k * 12 + 6,none⟩ = some (.int .i64 pk.b.m):=by rw [hpk];simpa [Qq] using hc k 6 _ hk rfl
 have c7 : w.cell? ⟨bp,off + k * 12 + 7,none⟩ = some (.bool pk.b.s):=by rw [hpk];simpa [Qq] using hc k 7 _ hk rfl
 have c8 : w.cell? ⟨bp,off + k * 12 + 8,none⟩ = some (.int .i64 pk.b.d):=by rw [hpk];simpa [Qq] using hc k 8 _ hk rfl
 clear hc;obtain ⟨R,hR⟩:=Qf (decide (c.numV (Ql l k).a ≤ dd) && decide (dd ≤ c.numV (Ql l k).b));rw [← hR];rw [Qb1,← hpk] at hR;replace hpk:=Lib.hid hpk;have NA:=ND pk.a;have NB:=ND pk.b;obtain ⟨na,hna⟩:=Qf (c.numV pk.a);obtain ⟨nb,hnb⟩:=Qf (c.numV pk.b);rw [← hna,← hnb] at hR;rw [← hna] at NA;rw [← hnb] at NB;clear hna hnb ND;replace hR:=Lib.hid hR
 go_enter Tryz.func99,Tryz.ntmps99
 go_upto_region 1 with (fail)
 obtain ⟨a0,a1,a2,a3⟩:=Qc.c4 hB;have al:=Qc.lt hB;have m0:=H1.c1;have ml:=H1.lt;have n0:=H2.c1;have nl:=H2.lt;by_cases q1 : na ≤ dd;rotate_left
 ·have fq1 : decide (na ≤ dd) = false := decide_eq_false q1;obtain rfl : R = false := by rw [hR.out, fq1]; simp
  try clear q1 q2
  have n1:=fun u : XW _ => NA _ (hC.ext u.e)
  have n2:=fun u : XW _ => NB _ (hC.ext u.e)
  refine Zo w ?_;intro wx hx;clear n1 n2;obtain ⟨hcbwx,hfbwx,hzbwx,hzwx⟩:=Zn w hx;go_wp2;go_ret;exact ⟨rfl,hx⟩
 have fq1 : decide (na ≤ dd) = true:=decide_eq_true q1;by_cases q2 : dd ≤ nb;rotate_left
 ·have fq2 : decide (dd ≤ nb) = false := decide_eq_false q2;obtain rfl : R = false := by rw [hR.out, fq2]; simp
  try clear q1 q2
  have n1:=fun u : XW _ => NA _ (hC.ext u.e)
  have n2:=fun u : XW _ => NB _ (hC.ext u.e)
  refine Zo w ?_;intro wx hx;clear n1 n2;obtain ⟨hcbwx,hfbwx,hzbwx,hzwx⟩:=Zn w hx;go_wp2;go_ret;exact ⟨rfl,hx⟩
 have fq2 : decide (dd ≤ nb) = true:=decide_eq_true q2;obtain rfl : R = true:=by rw [hR.out];simp [fq1,fq2]
 try clear q1 q2
 have n1:=fun u : XW _ => NA _ (hC.ext u.e)
 have n2:=fun u : XW _ => NB _ (hC.ext u.e)
 refine Zo w ?_;intro wx hx;clear n1 n2;obtain ⟨hcbwx,hfbwx,hzbwx,hzwx⟩:=Zn w hx;go_wp2;go_ret;exact ⟨rfl,hx⟩
theorem Qev (A A' : Option Addr) (ca cb : Nat) (c : Qd) (l : List Pd) (vl iv : Value) (ba b1 b2 b3 b4 k i : Nat) (tt ff : Int) (w : World) (hB : Qc w ba 132 #[.slice A c.nk ca,.slice A' c.ny cb,vl,iv]) (hC : Zg w A ca A' cb c) (hP : Js w vl l) (hk : k < l.length) (H1 : Qc w b1 3 #[.int .i64 i]) (H2 : Qc w b2 96 #[.pointer (some ⟨ba,0,none⟩)]) (H3 : Qc w b3 3 #[.int .i64 tt]) (H4 : Qc w b4 3 #[.int .i64 ff]) :
  Calls Tryz.prog 98 #[.int .i64 k,.pointer (some ⟨b1,0,none⟩),.pointer (some ⟨b2,0,none⟩),.pointer (some ⟨b3,0,none⟩),.pointer (some ⟨b4,0,none⟩)] w fun e w' => e = .returned (.bool (decide (k < i) && decide (c.numV (Ql l k).a ≤ tt) && decide (ff ≤ c.numV (Ql l k).b))) ∧ Qb w w':=by
 obtain ⟨D,cap,vo,vd,vc,rfl,hD,hcap,hmax,_,hat⟩:=id hP;clear hcap hmax hat;have ND:=fun d w h => Yy A A' ca cb c d w h
 obtain ⟨bp,off,rfl,hbp,hc⟩:=hD Qa;obtain ⟨pk,hpk⟩:=Qf (l.getD k Qh);have c0 : w.cell? ⟨bp,off + k * 12,none⟩ = some (.string pk.h):=by rw [hpk];simpa [Qq] using hc k 0 _ hk rfl
 have c1 : w.cell? ⟨bp,off + k * 12 + 1,none⟩ = some (.int .i64 pk.a.y):=by rw [hpk];simpa [Qq] using hc k 1 _ hk rfl
 have c2 : w.cell? ⟨bp,off + k * 12 + 2,none⟩ = some (.int .i64 pk.a.m):=by rw [hpk];simpa [Qq] using hc k 2 _ hk rfl
 have c3 : w.cell? ⟨bp,off + k * 12 + 3,none⟩ = some (.bool pk.a.s):=by rw [hpk];simpa [Qq] using hc k 3 _ hk rfl
 have c4 : w.cell? ⟨bp,off + k * 12 + 4,none⟩ = some (.int .i64 pk.a.d):=by rw [hpk];simpa [Qq] using hc k 4 _ hk rfl
 have c5 : w.cell? ⟨bp,off + k * 12 + 5,none⟩ = some (.int .i64 pk.b.y):=by rw [hpk];simpa [Qq] using hc k 5 _ hk rfl
 have c6 : w.cell? ⟨bp,off + k * 12 + 6,none⟩ = some (.int .i64 pk.b.m):=by rw [hpk];simpa [Qq] using hc k 6 _ hk rfl
 have c7 : w.cell? ⟨bp,off + k * 12 + 7,none⟩ = some (.bool pk.b.s):=by rw [hpk];simpa [Qq] using hc k 7 _ hk rfl
 have c8 : w.cell? ⟨bp,off + k * 12 + 8,none⟩ = some (.int .i64 pk.b.d):=by rw [hpk];simpa [Qq] using hc k 8 _ hk rfl
 clear hc;obtain ⟨R,hR⟩:=Qf (decide (k < i) && decide (c.numV (Ql l k).a ≤ tt) && decide (ff ≤ c.numV (Ql l k).b));rw [← hR];rw [Qb1,← hpk] at hR;replace hpk:=Lib.hid hpk;have NA:=ND pk.a;have NB:=ND pk.b;obtain ⟨na,hna⟩:=Qf (c.numV pk.a);obtain ⟨nb,hnb⟩:=Qf (c.numV pk.b);rw [← hna,← hnb] at hR;rw [← hna] at NA;rw [← hnb] at NB;clear hna hnb ND;replace hR:=Lib.hid hR
 go_enter Tryz.func98,Tryz.ntmps98
 go_upto_region 1 with (fail)
 obtain ⟨a0,a1,a2,a3⟩:=Qc.c4 hB;have al:=Qc.lt hB;have m0:=H1.c1;have ml:=H1.lt;have n0:=H2.c1;have nl:=H2.lt;have r0:=H3.c1;have rl:=H3.lt;have s0:=H4.c1;have sl:=H4.lt;by_cases q0 : k < i;rotate_left
 ·have fq0 : decide (k < i) = false := decide_eq_false q0;have gq0 : decide ((k : Int) < (i : Int)) = false := decide_eq_false Qa;obtain rfl : R = false := by rw [hR.out, fq0]; simp
  try clear q0 q1 q2
  have n1:=fun u : XW _ => NA _ (hC.ext u.e)
  have n2:=fun u : XW _ => NB _ (hC.ext u.e)
  refine Zo w ?_;intro wx hx;clear n1 n2;obtain ⟨hcbwx,hfbwx,hzbwx,hzwx⟩:=Zn w hx;go_wp2;go_ret;exact ⟨rfl,hx⟩
 have fq0 : decide (k < i) = true:=decide_eq_true q0;have gq0 : decide ((k : Int) < (i : Int)) = true:=decide_eq_true Qa;by_cases q1 : na ≤ tt;rotate_left
 ·have fq1 : decide (na ≤ tt) = false := decide_eq_false q1;obtain rfl : R = false := by rw [hR.out, fq1]; simp
  try clear q0 q1 q2
  have n1:=fun u : XW _ => NA _ (hC.ext u.e)
  have n2:=fun u : XW _ => NB _ (hC.ext u.e)
  refine Zo w ?_;intro wx hx;clear n1 n2;obtain ⟨hcbwx,hfbwx,hzbwx,hzwx⟩:=Zn w hx;go_wp2;go_ret;exact ⟨rfl,hx⟩
 have fq1 : decide (na ≤ tt) = true:=decide_eq_true q1;by_cases q2 : ff ≤ nb;rotate_left
 ·have fq2 : decide (ff ≤ nb) = false := decide_eq_false q2;obtain rfl : R = false := by rw [hR.out, fq2]; simp
  try clear q0 q1 q2
  have n1:=fun u : XW _ => NA _ (hC.ext u.e)
  have n2:=fun u : XW _ => NB _ (hC.ext u.e)
  refine Zo w ?_;intro wx hx;clear n1 n2;obtain ⟨hcbwx,hfbwx,hzbwx,hzwx⟩:=Zn w hx;go_wp2;go_ret;exact ⟨rfl,hx⟩
 have fq2 : decide (ff ≤ nb) = true:=decide_eq_true q2;obtain rfl : R = true:=by rw [hR.out];simp [fq0,fq1,fq2]
 try clear q0 q1 q2
 have n1:=fun u : XW _ => NA _ (hC.ext u.e)
 have n2:=fun u : XW _ => NB _ (hC.ext u.e)
 refine Zo w ?_;intro wx hx;clear n1 n2;obtain ⟨hcbwx,hfbwx,hzbwx,hzwx⟩:=Zn w hx;go_wp2;go_ret;exact ⟨rfl,hx⟩
theorem Qiv (v : Value) (hs : List Nat) (q : Nat → Bool) (x0 x1 : Nat) (w : World) (hI : Xx w v hs) (hsl : hs.length ≤ 9223372036854775807) (NP : ∀ W,Qb w W → ∀ k ∈ hs,Calls Tryz.prog 99 #[.int .i64 (k : Int),.pointer (some ⟨x0,0,none⟩),.pointer (some ⟨x1,0,none⟩)] W fun e w' => e = .returned (.bool (q k)) ∧ Qb W w') :
  Calls Tryz.prog 145 #[v,.func (.func 99) #[] #[.pointer (some ⟨x0,0,none⟩),.pointer (some ⟨x1,0,none⟩)]] w fun e w' => ∃ r : Int,e = .returned (.int .i64 r) ∧ decide (0 ≤ r) = hs.any q ∧ Qb w w':=by
 obtain ⟨H,cH,bH,rfl,hHA⟩:=id hI;have hH:=N8 hHA;clear hHA hI;replace NP:=Lib.hid NP
 go_enter Tryz.func145,Tryz.ntmps145
 go_wp2
 go_loopw [8] (fun iv wr => ∃ t : Nat,t ≤ hs.length ∧ iv = .int .i64 (t : Int) ∧ Hid (∀ j,j < t → q (hs.getD j 0) = false) ∧ Qb w wr) (fun iv _ => hs.length - (intOf iv).toNat)
 case atStart => exact ⟨0,Nat.zero_le _,rfl,fun j h => absurd h Qa,Qb.refl _⟩
 case round =>
  obtain ⟨t,ht,rfl,hno,hE⟩:=hrel;obtain ⟨wo,rfl⟩:=Qf wr;by_cases hlt : t < hs.length;rotate_left
  ·obtain rfl : t = hs.length := by omega
   go_wp2;go_ret;exact ⟨_,rfl,by rw [decide_eq_false Qa];exact (List.any_eq_false.2 (fun x hx => by obtain ⟨j,hj,rfl⟩:=Km (z:=0) hx;rw [hno.out j hj];decide)).symm,hE⟩
  obtain ⟨b,off,rfl,hb,hc⟩:=(hH.ext hE) Qa;obtain ⟨k,hk⟩:=Qf (hs.getD t 0)
  have c0 : wo.cell? ⟨b,off + t,none⟩ = some (.int .i64 (k : Int)):=by
   have:=hc t 0 (.int .i64 ((hs.getD t 0 : Nat) : Int)) hlt rfl;rw [← hk] at this
   simpa using this
  clear hc;have hkm : k ∈ hs:=by rw [hk];exact Jg hlt
  have NQ:=NP.out wo hE k hkm;obtain ⟨z,hz⟩:=Qf (q k);rw [← hz] at NQ;have HQ:=Lib.hid hz;replace hk:=Lib.hid hk;clear hz;cases z
  ·go_wp2_with (first | (go_at_call 99;(with_reducible refine Calls.mono NQ ?_);rintro e w4 ⟨rfl,h⟩) | (go_at_fn 99;(with_reducible refine Calls.mono NQ ?_);rintro e w4 ⟨rfl,h⟩))
   exact ⟨⟨t + 1,by omega,by go_num,fun j hj => by
    by_cases e : j = t
    ·subst e;rw [← hk.out];exact HQ.out.symm
    ·exact hno.out j Qa,hE.trans h⟩,by simp [intOf];omega⟩
  ·go_wp2_with (first | (go_at_call 99;(with_reducible refine Calls.mono NQ ?_);rintro e w4 ⟨rfl,h⟩) | (go_at_fn 99;(with_reducible refine Calls.mono NQ ?_);rintro e w4 ⟨rfl,h⟩));go_ret;exact ⟨_,rfl,by rw [decide_eq_true Qa];exact (List.any_eq_true.2 ⟨k,hkm,HQ.out.symm⟩).symm,hE.trans h⟩
theorem Qgs (v : Value) (hs : List Nat) (q : Nat → Bool) (x0 x1 : Nat) (w : World) (hI : Xx w v hs) (hsl : hs.length ≤ 9223372036854775807) (NP : ∀ W,Qb w W → ∀ k ∈ hs,Calls Tryz.prog 99 #[.int .i64 (k : Int),.pointer (some ⟨x0,0,none⟩),.pointer (some ⟨x1,0,none⟩)] W fun e w' => e = .returned (.bool (q k)) ∧ Qb W w') :
  Calls Tryz.prog 97 #[v,.func (.func 99) #[] #[.pointer (some ⟨x0,0,none⟩),.pointer (some ⟨x1,0,none⟩)]] w fun e w' => e = .returned (.bool (hs.any q)) ∧ Qb w w':=by
 have NI:=Qiv v hs q x0 x1 w hI hsl NP;obtain ⟨H,cH,bH,rfl,_⟩:=id hI;clear NP hI
 go_enter Tryz.func97,Tryz.ntmps97
 go_wp2_with (go_at_call 145;(with_reducible refine Calls.mono NI ?_);rintro e w4 ⟨r,rfl,hr,h⟩);go_ret;exact ⟨by rw [← hr];rfl,h⟩
theorem Qiw (v : Value) (hs : List Nat) (q : Nat → Bool) (x0 x1 x2 x3 : Nat) (w : World) (hI : Xx w v hs) (hsl : hs.length ≤ 9223372036854775807) (NP : ∀ W,Qb w W → ∀ k ∈ hs,Calls Tryz.prog 98 #[.int .i64 (k : Int),.pointer (some ⟨x0,0,none⟩),.pointer (some ⟨x1,0,none⟩),.pointer (some ⟨x2,0,none⟩),.pointer (some ⟨x3,0,none⟩)] W fun e w' => e = .returned (.bool (q k)) ∧ Qb W w') :
  Calls Tryz.prog 145 #[v,.func (.func 98) #[] #[.pointer (some ⟨x0,0,none⟩),.pointer (some ⟨x1,0,none⟩),.pointer (some ⟨x2,0,none⟩),.pointer (some ⟨x3,0,none⟩)]] w fun e w' => ∃ r : Int,e = .returned (.int .i64 r) ∧ decide (0 ≤ r) = hs.any q ∧ Qb w w':=by
 obtain ⟨H,cH,bH,rfl,hHA⟩:=id hI;have hH:=N8 hHA;clear hHA hI;replace NP:=Lib.hid NP
 go_enter Tryz.func145,Tryz.ntmps145
 go_wp2
 go_loopw [8] (fun iv wr => ∃ t : Nat,t ≤ hs.length ∧ iv = .int .i64 (t : Int) ∧ Hid (∀ j,j < t → q (hs.getD j 0) = false) ∧ Qb w wr) (fun iv _ => hs.length - (intOf iv).toNat)
 case atStart => exact ⟨0,Nat.zero_le _,rfl,fun j h => absurd h Qa,Qb.refl _⟩
 case round =>
  obtain ⟨t,ht,rfl,hno,hE⟩:=hrel;obtain ⟨wo,rfl⟩:=Qf wr;by_cases hlt : t < hs.length;rotate_left
  ·obtain rfl : t = hs.length := by omega
   go_wp2;go_ret;exact ⟨_,rfl,by rw [decide_eq_false Qa];exact (List.any_eq_false.2 (fun x hx => by obtain ⟨j,hj,rfl⟩:=Km (z:=0) hx;rw [hno.out j hj];decide)).symm,hE⟩
  obtain ⟨b,off,rfl,hb,hc⟩:=(hH.ext hE) Qa;obtain ⟨k,hk⟩:=Qf (hs.getD t 0)
  have c0 : wo.cell? ⟨b,off + t,none⟩ = some (.int .i64 (k : Int)):=by
   have:=hc t 0 (.int .i64 ((hs.getD t 0 : Nat) : Int)) hlt rfl;rw [← hk] at this
   simpa using this
  clear hc;have hkm : k ∈ hs:=by rw [hk];exact Jg hlt
  have NQ:=NP.out wo hE k hkm;obtain ⟨z,hz⟩:=Qf (q k);rw [← hz] at NQ;have HQ:=Lib.hid hz;replace hk:=Lib.hid hk;clear hz;cases z
  ·go_wp2_with (first | (go_at_call 98;(with_reducible refine Calls.mono NQ ?_);rintro e w4 ⟨rfl,h⟩) | (go_at_fn 98;(with_reducible refine Calls.mono NQ ?_);rintro e w4 ⟨rfl,h⟩))
   exact ⟨⟨t + 1,by omega,by go_num,fun j hj => by
    by_cases e : j = t
    ·subst e;rw [← hk.out];exact HQ.out.symm
    ·exact hno.out j Qa,hE.trans h⟩,by simp [intOf];omega⟩
  ·go_wp2_with (first | (go_at_call 98;(with_reducible refine Calls.mono NQ ?_);rintro e w4 ⟨rfl,h⟩) | (go_at_fn 98;(with_reducible refine Calls.mono NQ ?_);rintro e w4 ⟨rfl,h⟩));go_ret;exact ⟨_,rfl,by rw [decide_eq_true Qa];exact (List.any_eq_true.2 ⟨k,hkm,HQ.out.symm⟩).symm,hE.trans h⟩
theorem Qgt (v : Value) (hs : List Nat) (q : Nat → Bool) (x0 x1 x2 x3 : Nat) (w : World) (hI : Xx w v hs) (hsl : hs.length ≤ 9223372036854775807) (NP : ∀ W,Qb w W → ∀ k ∈ hs,Calls Tryz.prog 98 #[.int .i64 (k : Int),.pointer (some ⟨x0,0,none⟩),.pointer (some ⟨x1,0,none⟩),.pointer (some ⟨x2,0,none⟩),.pointer (some ⟨x3,0,none⟩)] W fun e w' => e = .returned (.bool (q k)) ∧ Qb W w') :
  Calls Tryz.prog 97 #[v,.func (.func 98) #[] #[.pointer (some ⟨x0,0,none⟩),.pointer (some ⟨x1,0,none⟩),.pointer (some ⟨x2,0,none⟩),.pointer (some ⟨x3,0,none⟩)]] w fun e w' => e = .returned (.bool (hs.any q)) ∧ Qb w w':=by
 have NI:=Qiw v hs q x0 x1 x2 x3 w hI hsl NP;obtain ⟨H,cH,bH,rfl,_⟩:=id hI;clear NP hI
 go_enter Tryz.func97,Tryz.ntmps97
 go_wp2_with (go_at_call 145;(with_reducible refine Calls.mono NI ?_);rintro e w4 ⟨r,rfl,hr,h⟩);go_ret;exact ⟨by rw [← hr];rfl,h⟩
theorem Qip (A A' : Option Addr) (ca cb : Nat) (c : Qd) (l : List Pd) (vl iv : Value) (ba : Nat) (v0 : Value) (hs : List Nat) (dd : Int) (w : World) (hB : Qc w ba 132 #[.slice A c.nk ca,.slice A' c.ny cb,vl,iv]) (hC : Zg w A ca A' cb c) (hP : Js w vl l) (hI : Xx w v0 hs) (hin : ∀ k ∈ hs,k < l.length) (hsl : hs.length ≤ 9223372036854775807) :
  Calls Tryz.prog 47 #[.pointer (some ⟨ba,0,none⟩),v0,.int .i64 dd] w fun e w' => e = .returned (.bool (hs.any fun k => decide (c.numV (Ql l k).a ≤ dd) && decide (dd ≤ c.numV (Ql l k).b))) ∧ Qb w w':=by
 obtain ⟨H,cH,bH,rfl,hHA⟩:=id hI
 go_enter Tryz.func47,Tryz.ntmps47
 go_upto_region 1 with (fail)
 go_upto_region 1 with (fail)
 obtain ⟨v,b1,b2,E,B1,B2,hbr1,hbr,hn21,hv,hb1,hb2⟩:=Yb w 96 #[.pointer (some ⟨ba,0,none⟩)] 3 #[.int .i64 dd];rw [← hv,← hb2,← hb1];clear hv hb1 hb2;have NC:=Qgs (.slice H hs.length cH) hs (fun k => decide (c.numV (Ql l k).a ≤ dd) && decide (dd ≤ c.numV (Ql l k).b)) b1 b2 v (hI.ext E) hsl (fun W x k hk => Qin A A' ca cb c l vl iv ba b1 b2 k dd W (hB.ext (E.trans x)) (hC.ext (E.trans x)) (hP.ext (E.trans x)) (hin k hk) (B1.ext x) (B2.ext x));clear hI hHA hin hP hB hC;go_wp2_with (go_at_call 97;(with_reducible refine Calls.mono NC ?_);rintro e w4 ⟨rfl,h⟩);go_ret;exact ⟨rfl,E.trans h⟩
end
end Go.Proofs.YtoflcheopfppoaaGreatDoor
