/- Walks and plain facts, packed; no conditions but those that each states. -/
import Derived.Test.YtoflcheopfppoaaGreatDoorH12
import Derived.Laws.MakeOwn
import Derived.Laws.OwnMore
import Derived.Laws.CopyOwn
set_option maxRecDepth 100000
set_option maxHeartbeats 4000000
namespace Go.Proofs.YtoflcheopfppoaaGreatDoor
section
open Go Go.RowKit Go.Shelf
attribute [local go_sem] Zu
structure KM (bm bs : Nat) (vo vi vy : Value) (O I X : OA) (no ni cO cI cX : Nat) (W : World) : Prop where
 p : Qa W bm 166 #[.pointer (some ⟨bs,0,none⟩)]
 s : Qa W bs 213 #[vo,vi,vy,.slice O no cO,.slice I ni cI,.slice X ni cX,.func (.func 127) #[] #[.pointer (some ⟨bm,0,none⟩)]]
structure MS (W0 W : World) (bm bs : Nat) (vo vi vy : Value) (O I X : OA) (no ni cO cI cX : Nat) (bo bi bf : Nat) (m : Mt) (fx : Bl) : Prop where
 e : Qc W0 W
 km : KM bm bs vo vi vy O I X no ni cO cI cX W
 o : Qw W 3 O no bo fun k => .int .i64 (m.2 k)
 i : Qw W 3 I ni bi fun k => .int .i64 (m.1 k)
 f : Qw W 4 X ni bf fun k => .bool (fx k)
 oi : 0 < no → 0 < ni → bo ≠ bi
 lo : 0 < no → W0.heap.size ≤ bo
 li : 0 < ni → W0.heap.size ≤ bi
 lf : 0 < ni → W0.heap.size ≤ bf
def M1 (W : World) (vy : Value) (no : Nat) (adj : Nat → List Nat) : Prop:=∃ Y cap,∃ vs : Nat → Value,vy = .slice Y no cap ∧ Qo W Y no 1 (fun i => [vs i]) ∧ ∀ i,i < no → ∃ D cd,(adj i).length ≤ 1000000 ∧ vs i = .slice D (adj i).length cd ∧ Qo W D (adj i).length 1 (fun k => [.int .i64 (((adj i).getD k 0 : Nat) : Int)])
def Fr (S : Nat → Prop) (W W' : World) : Prop:=W.heap.size ≤ W'.heap.size ∧ ∀ b,b < W.heap.size → ¬ S b → W'.heap[b]? = W.heap[b]?
def SN (no ni bo bi bn : Nat) : Nat → Prop:=fun b => (0 < no ∧ b = bo) ∨ (0 < ni ∧ (b = bi ∨ b = bn))
theorem sn_o {no ni bo bi bn : Nat} (h : 0 < no) : SN no ni bo bi bn bo:=Or.inl ⟨h,rfl⟩
theorem sn_i {no ni bo bi bn : Nat} (h : 0 < ni) : SN no ni bo bi bn bi:=Or.inr ⟨h,Or.inl rfl⟩
theorem sn_n {no ni bo bi bn : Nat} (h : 0 < ni) : SN no ni bo bi bn bn:=Or.inr ⟨h,Or.inr rfl⟩
theorem Fr.refl (S : Nat → Prop) (W : World) : Fr S W W:=⟨Nat.le_refl _,fun _ _ _ => rfl⟩
theorem Fr.trans {S : Nat → Prop} {W W1 W2 : World} (h : Fr S W W1) (k : Fr S W1 W2) : Fr S W W2:=⟨Nat.le_trans h.1 k.1,fun b hb hs => (k.2 b (Nat.lt_of_lt_of_le hb h.1) hs).trans (h.2 b hb hs)⟩
theorem Fr.ext {S : Nat → Prop} {W W1 W2 : World} (h : Fr S W W1) (k : Qc W1 W2) : Fr S W W2:=⟨Nat.le_trans h.1 k.size,fun b hb hs => (k.block (Nat.lt_of_lt_of_le hb h.1)).trans (h.2 b hb hs)⟩
theorem Fr.set {S : Nat → Prop} {W W1 : World} (h : Fr S W W1) {b : Nat} (hb : S b) (j : Nat) (u : Value) : Fr S W (W1.setCell ⟨b,j,none⟩ u):=by
 refine ⟨by simpa [World.setCell] using h.1,fun c hc hs => ?_⟩;have : b ≠ c:=fun e => hs (by rw [← e];exact hb)
 rw [← h.2 c hc hs];simp [World.setCell,Array.getElem?_modify,this]
theorem Fr.held {S : Nat → Prop} {W W' : World} (h : Fr S W W') {b : Nat} {t : TypeId} {cs : Array Value} (hb : Qa W b t cs) (hs : ¬ S b) : Qa W' b t cs:=(h.2 b hb.lt hs).trans hb
theorem Fr.mono {S S' : Nat → Prop} {W W' : World} (h : Fr S W W') (k : ∀ b,S b → S' b) : Fr S' W W':=⟨h.1,fun b hb hs => h.2 b hb fun h => hs (k b h)⟩
section
variable {W0 W W' : World} {bm bs : Nat} {vo vi vy : Value} {O I X : OA} {no ni cO cI cX : Nat} {bo bi bf : Nat} {m : Mt} {fx : Bl}
theorem KM.ext (h : KM bm bs vo vi vy O I X no ni cO cI cX W) (x : Qc W W') : KM bm bs vo vi vy O I X no ni cO cI cX W':=⟨h.p.ext x,h.s.ext x⟩
theorem MS.ext (h : MS W0 W bm bs vo vi vy O I X no ni cO cI cX bo bi bf m fx) (x : Qc W W') : MS W0 W' bm bs vo vi vy O I X no ni cO cI cX bo bi bf m fx:=⟨h.e.trans x,h.km.ext x,h.o.ext x,h.i.ext x,h.f.ext x,h.oi,h.lo,h.li,h.lf⟩
theorem MS.congr {m' : Mt} {fx' : Bl} (h : MS W0 W bm bs vo vi vy O I X no ni cO cI cX bo bi bf m fx) (e1 : ∀ k,k < ni → m.1 k = m'.1 k) (e2 : ∀ k,k < no → m.2 k = m'.2 k) (e3 : ∀ k,k < ni → fx k = fx' k) : MS W0 W bm bs vo vi vy O I X no ni cO cI cX bo bi bf m' fx':=⟨h.e,h.km,h.o.congr fun k hk => by rw [e2 k hk],h.i.congr fun k hk => by rw [e1 k hk],h.f.congr fun k hk => by rw [e3 k hk],h.oi,h.lo,h.li,h.lf⟩
theorem KM.set (h : KM bm bs vo vi vy O I X no ni cO cI cX W) {b : Nat} {t : TypeId} {cs : Array Value} (hb : Qa W b t cs) (h1 : t ≠ 166) (h2 : t ≠ 213) (j : Nat) (u : Value) : KM bm bs vo vi vy O I X no ni cO cI cX (W.setCell ⟨b,j,none⟩ u) :=
 ⟨Wg h.p (Ne.symm (Xd hb h.p h1)) j u,Wg h.s (Ne.symm (Xd hb h.s h2)) j u⟩
theorem MS.setO (h : MS W0 W bm bs vo vi vy O I X no ni cO cI cX bo bi bf m fx) {i : Nat} (hi : i < no) (v : Int) : MS W0 (W.setCell ⟨bo,i,none⟩ (.int .i64 v)) bm bs vo vi vy O I X no ni cO cI cX bo bi bf (m.1,Qn m.2 i v) fx:=by
 obtain ⟨cs,h1,_⟩:=h.o.h Qb;refine ⟨h.e.setCell (p:=⟨bo,i,none⟩) (h.lo Qb) _,h.km.set h1 zD zD _ _,(h.o.set hi _).congr fun k _ => ?_,h.i.oth (fun hn => Ne.symm (h.oi Qb hn)) _ _,h.f.oth (fun hn => Ne.symm (h.o.apart2 h.f zD Qb hn)) _ _,h.oi,h.lo,h.li,h.lf⟩;by_cases e : k = i
 ·subst e;simp [Qn]
 ·simp [Qn,e]
theorem MS.setI (h : MS W0 W bm bs vo vi vy O I X no ni cO cI cX bo bi bf m fx) {k : Nat} (hk : k < ni) (v : Int) : MS W0 (W.setCell ⟨bi,k,none⟩ (.int .i64 v)) bm bs vo vi vy O I X no ni cO cI cX bo bi bf (Qn m.1 k v,m.2) fx:=by
 obtain ⟨cs,h1,_⟩:=h.i.h Qb;refine ⟨h.e.setCell (p:=⟨bi,k,none⟩) (h.li Qb) _,h.km.set h1 zD zD _ _,h.o.oth (fun hn => h.oi hn Qb) _ _,(h.i.set hk _).congr fun x _ => ?_,h.f.oth (fun hn => Ne.symm (h.i.apart2 h.f zD Qb hn)) _ _,h.oi,h.lo,h.li,h.lf⟩;by_cases e : x = k
 ·subst e;simp [Qn]
 ·simp [Qn,e]
theorem MS.setF (h : MS W0 W bm bs vo vi vy O I X no ni cO cI cX bo bi bf m fx) {k : Nat} (hk : k < ni) (v : Bool) : MS W0 (W.setCell ⟨bf,k,none⟩ (.bool v)) bm bs vo vi vy O I X no ni cO cI cX bo bi bf m (Qn fx k v):=by
 obtain ⟨cs,h1,_⟩:=h.f.h Qb;refine ⟨h.e.setCell (p:=⟨bf,k,none⟩) (h.lf Qb) _,h.km.set h1 zD zD _ _,h.o.oth (fun hn => h.o.apart2 h.f zD hn Qb) _ _,h.i.oth (fun hn => h.i.apart2 h.f zD hn Qb) _ _,(h.f.set hk _).congr fun x _ => ?_,h.oi,h.lo,h.li,h.lf⟩;by_cases e : x = k
 ·subst e;simp [Qn]
 ·simp [Qn,e]
theorem MS.setN (h : MS W0 W bm bs vo vi vy O I X no ni cO cI cX bo bi bf m fx) {N : OA} {bn k : Nat} {g : Nat → Value} (hN : Qw W 4 N ni bn g) (hk : k < ni) (hl : W0.heap.size ≤ bn) (hne : bn ≠ bf) (u : Value) : MS W0 (W.setCell ⟨bn,k,none⟩ u) bm bs vo vi vy O I X no ni cO cI cX bo bi bf m fx:=by
 obtain ⟨cs,h1,_⟩:=hN.h Qb;exact ⟨h.e.setCell (p:=⟨bn,k,none⟩) hl _,h.km.set h1 zD zD _ _,h.o.oth (fun hn => h.o.apart2 hN zD hn Qb) _ _,h.i.oth (fun hn => h.i.apart2 hN zD hn Qb) _ _,h.f.oth (fun _ => Ne.symm hne) _ _,h.oi,h.lo,h.li,h.lf⟩
end
theorem Ti {l : List Nat} {t : Nat} (h : t < l.length) : l.drop t = l.getD t 0 :: l.drop (t + 1):=by
 rw [List.drop_eq_getElem_cons h,List.getD_eq_getElem?_getD,List.getElem?_eq_getElem h];rfl
theorem S7 (sn fx : Bl) (k : Nat) : (fun x => Qn sn k true x || fx x) = Qn (fun x => sn x || fx x) k true:=by
 funext x
 unfold Qn;by_cases e : x = k <;> simp [e]
theorem D6 {rec : Mt → Bl → Nat → Option Mt × Bl} {i k : Nat} {r : List Nat} {m : Mt} {b : Bl} (h : b k = true) : Z2 rec i (k :: r) m b = Z2 rec i r m b:=by
 conv => lhs;unfold Z2
 rw [if_pos h]
theorem Qdl {rec : Mt → Bl → Nat → Option Mt × Bl} {i k : Nat} {r : List Nat} {m : Mt} {b : Bl} (h : b k = false) (hm : m.1 k < 0) : Z2 rec i (k :: r) m b = (some (Xv m k i),Qn b k true):=by
 conv => lhs;unfold Z2
 rw [if_neg (by simp [h]),if_pos hm]
theorem Qdn {rec : Mt → Bl → Nat → Option Mt × Bl} {i k : Nat} {r : List Nat} {m m1 : Mt} {b b2 : Bl} (h : b k = false) (hm : ¬ m.1 k < 0) (hr : rec m (Qn b k true) (m.1 k).toNat = (some m1,b2)) : Z2 rec i (k :: r) m b = (some (Xv m1 k i),b2):=by
 conv => lhs;unfold Z2
 rw [if_neg (by simp [h]),if_neg hm,hr]
theorem Qdm {rec : Mt → Bl → Nat → Option Mt × Bl} {i k : Nat} {r : List Nat} {m : Mt} {b b2 : Bl} (h : b k = false) (hm : ¬ m.1 k < 0) (hr : rec m (Qn b k true) (m.1 k).toNat = (none,b2)) : Z2 rec i (k :: r) m b = Z2 rec i r m b2:=by
 conv => lhs;unfold Z2
 rw [if_neg (by simp [h]),if_neg hm,hr]
theorem Dq {W : World} {N : OA} {ni bn k : Nat} {sn : Bl} (h : Qw W 4 N ni bn (fun x => .bool (sn x))) (hk : k < ni) (b : Bool) : Qw (W.setCell ⟨bn,k,none⟩ (.bool b)) 4 N ni bn (fun x => .bool (Qn sn k b x)):=(h.set hk _).congr fun x _ => by
 by_cases e : x = k
 ·subst e;simp [Qn]
 ·simp [Qn,e]
set_option maxHeartbeats 40000000 in
theorem Bb {adj : Nat → List Nat} (W0 : World) (bm bs : Nat) (vo vi vy : Value) (O I X : OA) (no ni cO cI cX bo bi bf : Nat) (m : Mt) (fx : Bl) (hadj : ∀ o,∀ k ∈ adj o,k < ni) (hY : M1 W0 vy no adj) (hm : ∀ k,k < ni → 0 ≤ m.1 k → (m.1 k).toNat < no) :
  ∀ (n : Nat) (W : World) (sn : Bl) (i : Nat) (N : OA) (cN bn : Nat),i < no → J4 ni (fun k => sn k || fx k) ≤ n → MS W0 W bm bs vo vi vy O I X no ni cO cI cX bo bi bf m fx → Qw W 4 N ni bn (fun x => .bool (sn x)) → (0 < ni → bn ≠ bf) → (0 < ni → W0.heap.size ≤ bn) → Calls Tryz.prog 127 #[.int .i64 i,.slice N ni cN,.pointer (some ⟨bm,0,none⟩)] W fun e W' => e = .returned (.bool (Zl adj n m (fun k => sn k || fx k) i).1.isSome) ∧ MS W0 W' bm bs vo vi vy O I X no ni cO cI cX bo bi bf ((Zl adj n m (fun k => sn k || fx k) i).1.getD m) fx ∧ Fr (SN no ni bo bi bn) W W' ∧ ∃ sn' : Bl,Qw W' 4 N ni bn (fun x => .bool (sn' x)) ∧ ∀ k,(sn' k || fx k) = (Zl adj n m (fun k => sn k || fx k) i).2 k:=by
 intro n
 induction n using Nat.strongRecOn with
 | _ n IH =>
 intro W sn i N cN bn hi hc hM hN hne hl;obtain ⟨Y,cY,vs,rfl,hYr,hYi⟩:=id hY;have hr0:=aug_eq (adj:=adj) (n:=n) (m:=m) (b:=fun k => sn k || fx k) (i:=i) (hadj i) hc;obtain ⟨R,hR⟩:=Qf (Zl adj n m (fun k => sn k || fx k) i);rw [← hR] at hr0 ⊢;replace hr0:=zh hr0.symm;clear hR;replace hc:=zh hc;have hno : 0 < no:=Qb;have hYr2:=hYr.ext hM.e;obtain ⟨D,cD,hl6,hv,hDr⟩:=hYi i hi;obtain ⟨b,off,hYe,hb,hcc⟩:=hYr2 hno;subst hYe
 have c0 : W.cell? ⟨b,off + i,none⟩ = some (.slice D (adj i).length cD):=by
  have:=hcc i 0 (vs i) hi rfl;rw [hv] at this
  simpa using this
 clear hcc hYr2 hv;obtain ⟨la,hla⟩:=Qf ((adj i).length);rw [← hla] at c0 hDr hl6;replace hla:=zh hla
 go_enter Tryz.func127,Tryz.ntmps127
 have m0:=hM.km.p.c1;have ml:=hM.km.p.lt;obtain ⟨s0,s1,s2,s3,s4,s5,s6,sl⟩:=Qa.d7 hM.km.s;go_upto_region 2 with fail
 clear c0 hb m0 ml s0 s1 s2 s3 s4 s5 s6 sl
 go_loopw [16] (fun iv wr => ∃ (t : Nat) (sn' : Bl),t ≤ la ∧ iv = .int .i64 t ∧ MS W0 wr bm bs vo vi (.slice (some ⟨b,off,none⟩) no cY) O I X no ni cO cI cX bo bi bf m fx ∧ Qw wr 4 N ni bn (fun x => .bool (sn' x)) ∧ Hid (Z2 (Zl adj (n - 1)) i ((adj i).drop t) m (fun k => sn' k || fx k) = R) ∧ Hid (J4 ni (fun k => sn' k || fx k) ≤ n) ∧ Fr (SN no ni bo bi bn) W wr) (fun iv _ => la - (intOf iv).toNat)
 case atStart => exact ⟨0,sn,Nat.zero_le _,rfl,hM,hN,hr0,hc,Fr.refl _ _⟩
 case round =>
  clear hM hN hc hr0;obtain ⟨t,sn',ht,rfl,M,N1,hr,hc,F⟩:=hrel;obtain ⟨wo,rfl⟩:=Qf wr;by_cases hlt : t < la;rotate_left
  ·obtain rfl : t = la:=Qb
   have hR : R = (none,fun k => sn' k || fx k):=by
    have h:=hr.out;rw [hla.out,List.drop_length] at h;exact h.symm
   subst hR;clear hr hc IH;go_wp2;go_ret;exact ⟨rfl,M,F,sn',N1,fun _ => rfl⟩
  obtain ⟨bd,offd,rfl,hbd,hcd⟩:=(hDr.ext M.e) Qb;obtain ⟨k,hk⟩:=Qf ((adj i).getD t 0)
  have d0 : wo.cell? ⟨bd,offd + t,none⟩ = some (.int .i64 (k : Int)):=by
   have:=hcd t 0 (.int .i64 (((adj i).getD t 0 : Nat) : Int)) hlt rfl;rw [← hk] at this
   simpa using this
  clear hcd;have hkn : k < ni:=hadj i k (by rw [hk];exact Y9 (by rw [← hla.out];exact hlt));have hdr:=Ti (l:=adj i) (t:=t) (by rw [← hla.out];exact hlt);rw [← hk] at hdr;replace hdr:=zh hdr;clear hk;have hni : 0 < ni:=Qb;have hNe:=N1.a hni;have hXe:=M.f.a hni;have hIe:=M.i.a hni;have hOe:=M.o.a hno;subst hNe;subst hXe;subst hIe;subst hOe;have n0:=N1.cell hkn;have nl:=N1.lt hni;have x0:=M.f.cell hkn;have xl:=M.f.lt hni;have m0:=M.km.p.c1;have ml:=M.km.p.lt;obtain ⟨s0,s1,s2,s3,s4,s5,s6,sl⟩:=Qa.d7 M.km.s;cases hs : sn' k
  rotate_left
  ·rw [hs] at n0
   have hr2 : Hid (Z2 (Zl adj (n - 1)) i ((adj i).drop (t + 1)) m (fun k => sn' k || fx k) = R):=by
    have h:=hr.out;rw [hdr.out,D6 (by simp [hs])] at h;exact h
   clear hr IH hs hdr;go_wp2;exact ⟨⟨t + 1,sn',Qb,by go_num,M,N1,hr2,hc,F⟩,zi⟩
  rw [hs] at n0;cases hf : fx k
  rotate_left
  ·rw [hf] at x0
   have hr2 : Hid (Z2 (Zl adj (n - 1)) i ((adj i).drop (t + 1)) m (fun k => sn' k || fx k) = R):=by
    have h:=hr.out;rw [hdr.out,D6 (by simp [hf])] at h;exact h
   clear hr IH hs hf hdr;go_wp2;exact ⟨⟨t + 1,sn',Qb,by go_num,M,N1,hr2,hc,F⟩,zi⟩
  rw [hf] at x0;have hbk : (fun k => sn' k || fx k) k = false:=by simp [hs,hf]
  have nz:=N1.frozen hni k;go_upto_region 6 with fail
  have M2:=M.setN N1 hkn (hl hni) (hne hni) (.bool true);have N2:=Dq N1 hkn true;have F2:=F.set (b:=bn) (sn_n hni) k (.bool true);generalize World.setCell _ _ _ = w2 at *;clear M N1 F n0 nl nz x0 xl d0 hbd hs hf m0 ml s0 s1 s2 s3 s4 s5 s6 sl;have i0:=M2.i.cell hkn;have il:=M2.i.lt hni;have m0:=M2.km.p.c1;have ml:=M2.km.p.lt;obtain ⟨s0,s1,s2,s3,s4,s5,s6,sl⟩:=Qa.d7 M2.km.s;by_cases hmk : m.1 k < 0
  ·have hR : R = (some (Xv m k i),Qn (fun k => sn' k || fx k) k true):=by
    have h:=hr.out;rw [hdr.out,Qdl hbk hmk] at h;exact h.symm
   subst hR;clear hr hc hdr IH hbk;have hmb : decide (m.1 k < 0) = true:=zt hmk;go_upto_region 6 with fail
   refine Zj w2 ?_;intro w3 h3;obtain ⟨_,_,_,_⟩:=Zi w2 h3;have M3:=M2.ext h3;have N3:=N2.ext h3;have F3:=F2.ext h3;clear M2 N2 F2 i0 il m0 ml s0 s1 s2 s3 s4 s5 s6 sl;go_upto_region 7 with fail
   refine Qy 16 [15] (fun x => KM bm bs vo vi (.slice (some ⟨b,off,none⟩) no cY) (some ⟨bo,0,none⟩) (some ⟨bi,0,none⟩) (some ⟨bf,0,none⟩) no ni cO cI cX x) mixed rfl ?_;intro vz hvz;have M7:=M3.ext hvz;have N7:=N3.ext hvz;have F7:=F3.ext hvz;have HC:=M7.km;refine Qj (g:=3) [0,1,2,3,4,5,6,7,8,9,10,11,12] HC ?_
   constructor
   refine ⟨fun u hu => ?_,?_⟩
   ·have m0:=hu.p.c1;have ml:=hu.p.lt;obtain ⟨s0,s1,s2,s3,s4,s5,s6,sl⟩:=Qa.d7 hu.s;exact Qi
   refine Qh 13 ?_;have fz:=M7.o.frozen hno i;have fc:=M7.o.cell hi;have fl:=M7.o.lt hno;go_wp2;replace N7:=N7.oth (fun hn => Ne.symm (M7.o.apart2 N7 zD hno hn)) i (.int .i64 (k : Int));replace F7:=F7.set (b:=bo) (sn_o hno) i (.int .i64 (k : Int));replace M7:=M7.setO hi (k : Int);have HC:=M7.km;clear fz fc fl;generalize World.setCell _ _ _ = wq at *;refine Qe HC ?_;refine Qj (g:=1) [14] HC ?_
   constructor
   refine ⟨fun u hu => ?_,?_⟩
   ·have m0:=hu.p.c1;have ml:=hu.p.lt;obtain ⟨s0,s1,s2,s3,s4,s5,s6,sl⟩:=Qa.d7 hu.s;exact Qi
   refine Ql 15 ?_;have fz:=M7.i.frozen hni k;have fc:=M7.i.cell hkn;have fl:=M7.i.lt hni;go_wp2;replace N7:=N7.oth (fun hn => Ne.symm (M7.i.apart2 N7 zD hni hn)) k (.int .i64 (i : Int));replace F7:=F7.set (b:=bi) (sn_i hni) k (.int .i64 (i : Int));replace M7:=M7.setI hkn (i : Int);clear fz fc fl;generalize World.setCell _ _ _ = wq at *;refine Qk ?_;refine Qr ?_;go_wp2;go_ret;exact ⟨rfl,M7,F7,Qn sn' k true,N7,fun x => congrFun (S7 sn' fx k) x⟩
  have hmb : decide (m.1 k < 0) = false:=zf hmk;obtain ⟨p,hp⟩ : ∃ p : Nat,m.1 k = p:=⟨(m.1 k).toNat,Qb⟩;have hpn : p < no:=by have:=hm k hkn Qb;rw [hp] at this;simpa using this
  have hpt : (m.1 k).toNat = p:=Qb;rw [hp] at i0 hmb;have hc1:=Rz (b:=fun k => sn' k || fx k) (k:=k) hbk hkn;have hc2:=hc.out;rw [← S7] at hc1;have IHc:=fun v h1 h2 => IH (n - 1) Qb v (Qn sn' k true) p (some ⟨bn,0,none⟩) cN bn hpn Qb h1 h2 hne hl
  have hq : ∀ x,(fun k => sn' k || fx k) x = true → (Zl adj (n - 1) m (fun x => Qn sn' k true x || fx x) p).2 x = true:=fun x hx => by
   refine Kx adj (n - 1) m _ p x ?_
   show (Qn sn' k true x || fx x) = true
   by_cases e : x = k
   ·rw [e,Ju];rfl
   ·rw [Z6 _ _ e];exact hx
  have hqe : Zl adj (n - 1) m (Qn (fun k => sn' k || fx k) k true) (m.1 k).toNat = Zl adj (n - 1) m (fun x => Qn sn' k true x || fx x) p:=by rw [S7,hpt]
  generalize Zl adj (n - 1) m (fun x => Qn sn' k true x || fx x) p = Q at *;obtain ⟨ro,b2⟩:=Q;clear hc1 hc2 IH;replace hmk:=zh hmk;replace hp:=zh hp;replace hpt:=zh hpt;replace hq:=zh hq;replace hqe:=zh hqe;go_upto_region 6 with fail
  cases ro with
  | none =>
   simp only [Option.isSome,Option.getD] at IHc;refine Qcv 21 w2 mixed zK Qq ?_;intro hne hrx hry;try simp only []
   try simp only [List.append_eq,List.cons_append,List.nil_append]
   simp only [List.take_succ_cons,List.take_zero,List.drop_succ_cons,List.drop_zero];refine zuk ?_;clear hne hry hrx;intro wz hz;obtain ⟨hcwz,hfwz,hzwz⟩:=Qc.rules hz;try simp only [World.size_alloc] at hzwz
   obtain ⟨hcbwz,hfbwz,hzbwz⟩:=Qc.rules (show Qc w2 wz from Qq);clear hcwz hfwz;have M5:=M2.ext hz;have N5:=N2.ext hz;have F5:=F2.ext hz;have HC:=M5.km;have i0:=M5.i.cell hkn;have il:=M5.i.lt hni;clear m0 ml s0 s1 s2 s3 s4 s5 s6 sl;have m0:=HC.p.c1;have ml:=HC.p.lt;obtain ⟨s0,s1,s2,s3,s4,s5,s6,sl⟩:=Qa.d7 HC.s;go_wp2_with (go_at_call 127;refine zc (IHc _ M5 N5) ?_;rintro e w3 ⟨rfl,M6,F6,sn3,N6,hb3⟩)
   have hr2 : Hid (Z2 (Zl adj (n - 1)) i ((adj i).drop (t + 1)) m (fun k => sn3 k || fx k) = R):=by
    have h:=hr.out;rw [hdr.out,Qdm hbk (Int.not_lt.2 hmk.out) hqe.out] at h;rw [show (fun k => sn3 k || fx k) = b2 from funext hb3];exact h
   have hc3 : Hid (J4 ni (fun k => sn3 k || fx k) ≤ n):=by
    rw [show (fun k => sn3 k || fx k) = b2 from funext hb3];exact Nat.le_trans (Ry hq.out ni) hc.out
   have F8:=F5.trans F6;clear hr hc hdr hq hqe;go_wp2
   exact ⟨⟨t + 1,sn3,Qb,by go_num,M6,N6,hr2,hc3,F8⟩,zi⟩
  | some m1 =>
   simp only [Option.isSome,Option.getD] at IHc;refine Qcv 21 w2 mixed zK Qq ?_;intro hne hrx hry;try simp only []
   try simp only [List.append_eq,List.cons_append,List.nil_append]
   simp only [List.take_succ_cons,List.take_zero,List.drop_succ_cons,List.drop_zero];refine zuk ?_;clear hne hry hrx;intro wz hz;obtain ⟨hcwz,hfwz,hzwz⟩:=Qc.rules hz;try simp only [World.size_alloc] at hzwz
   obtain ⟨hcbwz,hfbwz,hzbwz⟩:=Qc.rules (show Qc w2 wz from Qq);clear hcwz hfwz;have M5:=M2.ext hz;have N5:=N2.ext hz;have F5:=F2.ext hz;have HC:=M5.km;have i0:=M5.i.cell hkn;have il:=M5.i.lt hni;clear m0 ml s0 s1 s2 s3 s4 s5 s6 sl;have m0:=HC.p.c1;have ml:=HC.p.lt;obtain ⟨s0,s1,s2,s3,s4,s5,s6,sl⟩:=Qa.d7 HC.s;go_wp2_with (go_at_call 127;refine zc (IHc _ M5 N5) ?_;rintro e w3 ⟨rfl,M6,F6,sn3,N6,hb3⟩)
   have hR : R = (some (Xv m1 k i),b2):=by
    have h:=hr.out;rw [hdr.out,Qdn hbk (Int.not_lt.2 hmk.out) hqe.out] at h;exact h.symm
   subst hR;replace F6:=F5.trans F6;clear hr hc hdr hq hqe hbk HC M5 N5 F5;go_upto_region 7 with fail
   refine Qy 16 [15] (fun x => KM bm bs vo vi (.slice (some ⟨b,off,none⟩) no cY) (some ⟨bo,0,none⟩) (some ⟨bi,0,none⟩) (some ⟨bf,0,none⟩) no ni cO cI cX x) mixed rfl ?_;intro vz hvz;have M7:=M6.ext hvz;have N7:=N6.ext hvz;have F7:=F6.ext hvz;have HC:=M7.km;refine Qj (g:=3) [0,1,2,3,4,5,6,7,8,9,10,11,12] HC ?_
   constructor
   refine ⟨fun u hu => ?_,?_⟩
   ·have m0:=hu.p.c1;have ml:=hu.p.lt;obtain ⟨s0,s1,s2,s3,s4,s5,s6,sl⟩:=Qa.d7 hu.s;exact Qi
   refine Qh 13 ?_;have fz:=M7.o.frozen hno i;have fc:=M7.o.cell hi;have fl:=M7.o.lt hno;go_wp2;replace N7:=N7.oth (fun hn => Ne.symm (M7.o.apart2 N7 zD hno hn)) i (.int .i64 (k : Int));replace F7:=F7.set (b:=bo) (sn_o hno) i (.int .i64 (k : Int));replace M7:=M7.setO hi (k : Int);have HC:=M7.km;clear fz fc fl;generalize World.setCell _ _ _ = wq at *;refine Qe HC ?_;refine Qj (g:=1) [14] HC ?_
   constructor
   refine ⟨fun u hu => ?_,?_⟩
   ·have m0:=hu.p.c1;have ml:=hu.p.lt;obtain ⟨s0,s1,s2,s3,s4,s5,s6,sl⟩:=Qa.d7 hu.s;exact Qi
   refine Ql 15 ?_;have fz:=M7.i.frozen hni k;have fc:=M7.i.cell hkn;have fl:=M7.i.lt hni;go_wp2;replace N7:=N7.oth (fun hn => Ne.symm (M7.i.apart2 N7 zD hni hn)) k (.int .i64 (i : Int));replace F7:=F7.set (b:=bi) (sn_i hni) k (.int .i64 (i : Int));replace M7:=M7.setI hkn (i : Int);clear fz fc fl;generalize World.setCell _ _ _ = wq at *;refine Qk ?_;refine Qr ?_;go_wp2;go_ret;exact ⟨rfl,M7,F7,sn3,N7,fun x => congrFun (funext hb3) x⟩
theorem Nr : (Tryz.prog.info? 3).map (fun i => (i.zero,i.size,i.bytes)) = some (some (.int .i64 0),1,8):=by kernel_rfl
theorem Qha : (Tryz.prog.info? 4).map (fun i => (i.zero,i.size,i.bytes)) = some (some (.bool false),1,1):=by kernel_rfl
theorem Po {P : Program} (t e : TypeId) (i : TypeInfo) (z : Value) (ht : P.underlying t = some (.slice e)) (hi : P.info? e = some i) (hz : i.zero = some z)
  (kl kc : IntKind) (n : Nat) (hbytes : i.bytes * n ≤ 281474976710656) (h63 : n ≤ 9223372036854775807) (w : World) :
  (Instr.makeSlice t (.int kl (n : Int)) (.int kc (n : Int))).run P w = .ok (.slice (some ⟨w.heap.size,0,none⟩) n n) (w.alloc (.cells (madeCells z.cells (n * i.size)) e)):=by
 have h : ((i.bytes * n : Nat) : Int) ≤ 281474976710656:=Qb;rw [Int.natCast_mul] at h;have hr:=run_make (P:=P) w t e i z ht hi hz kl kc n n Qb (Int.le_refl _) h Qb
 simpa only [Int.toNat_natCast] using hr
theorem Qig (n : Nat) (z : Value) : madeCells #[z] (n * 1) = Array.replicate n z:=by
 apply Array.ext';rw [Nat.mul_one,toList_madeCells_one,Array.toList_replicate]
theorem Sq {v z : Value} (n : Nat) (w : World) {t : TypeId} (h : v.cells = #[z]) : w.alloc (.cells (madeCells v.cells (n * 1)) t) = w.alloc (.cells (Array.replicate n z) t):=by rw [h,Qig]
theorem Qio (n : Nat) (hn : n ≤ 1000000) (w : World) : (Instr.makeSlice 125 (.int .i64 (n : Int)) (.int .i64 (n : Int))).run Tryz.prog w = .ok (.slice (some ⟨w.heap.size,0,none⟩) n n) (w.alloc (.cells (Array.replicate n (.int .i64 0)) 3)):=by
 obtain ⟨i0,hi,hz0,hz1,hz2⟩:=info_parts Nr;have h:=Po (P:=Tryz.prog) 125 3 i0 _ Tryz.underlying125 hi hz0 .i64 .i64 n (by rw [hz2];omega) Qb w;rw [hz1] at h;rw [h];exact congrArg _ (Sq n w rfl)
theorem Ig (n : Nat) (hn : n ≤ 1000000) (w : World) : (Instr.makeSlice 171 (.int .i64 (n : Int)) (.int .i64 (n : Int))).run Tryz.prog w = .ok (.slice (some ⟨w.heap.size,0,none⟩) n n) (w.alloc (.cells (Array.replicate n (.bool false)) 4)):=by
 obtain ⟨i0,hi,hz0,hz1,hz2⟩:=info_parts Qha;have h:=Po (P:=Tryz.prog) 171 4 i0 _ Tryz.underlying171 hi hz0 .i64 .i64 n (by rw [hz2];omega) Qb w;rw [hz1] at h;rw [h];exact congrArg _ (Sq n w rfl)
theorem Qw.offM {W : World} {t t' : TypeId} {A : OA} {n b b' : Nat} {g : Nat → Value} {cs : Array Value} (h : Qw W t A n b g) (hb : Qa W b' t' cs) (ht : t ≠ t') (j : Nat) (u : Value) : Qw (W.setCell ⟨b',j,none⟩ u) t A n b g:=h.oth (fun hn => by
 obtain ⟨c,h1,_⟩:=h.h hn;exact Xd h1 hb ht) j u
theorem Qix (n : Nat) (hn : n < 9223372036854775808) (w : World) :
  Calls Tryz.prog 189 #[.int .u64 1,.int .u64 (n : Int)] w fun e w' => e = .returned (.tuple #[.int .u64 0,.int .u64 (n : Int)]) ∧ w = w':=by
 have h:=Ir 1 n zD Qb w;rw [show (1 * n / 18446744073709551616 : Nat) = 0 by omega,show (1 * n % 18446744073709551616 : Nat) = n by omega] at h;exact h
theorem Hk : Tryz.prog.elem 125 = 3:=by kernel_rfl
theorem Qbp (w : World) : (sizeOf 3).run Tryz.prog w = .ok 1 w:=by
 obtain ⟨i0,hi,hz0,hz1,hz2⟩:=info_parts Nr;simp [sizeOf,typeInfo,hi,hz1]
theorem Qld (g N q : Nat) (h : q < N) (w : World) : (Instr.slice 125 (.slice (some ⟨g,0,none⟩) N N) (some (.int .i64 (q : Int))) none none).run Tryz.prog w = .ok (.slice (some ⟨g,q,none⟩) (N - q) (N - q)) w:=by
 rw [run_slice_l (P:=Tryz.prog) w 125 (some ⟨g,0,none⟩) N N (by rw [Hk];exact Tryz.underlying125) .i64 q Qb Qb,Hk,Qbp];have e : ((q : Int)).toNat = q:=Qb;simp only [Result.andThen_ok,e,sliced];rw [if_neg Qb];simp only [Nat.mul_one,Option.map_some,Addr.add_lit,Nat.zero_add]
theorem sl_to (g N q : Nat) (h : q ≤ N) (h0 : 0 < N) (w : World) : (Instr.slice 125 (.slice (some ⟨g,0,none⟩) N N) none (some (.int .i64 (q : Int))) none).run Tryz.prog w = .ok (.slice (some ⟨g,0,none⟩) q N) w:=by
 rw [run_slice_h (P:=Tryz.prog) w 125 (some ⟨g,0,none⟩) N N (by rw [Hk];exact Tryz.underlying125) .i64 q Qb Qb,Hk,Qbp];have e : ((q : Int)).toNat = q:=Qb;simp only [Result.andThen_ok,e,sliced];rw [if_neg Qb];simp [Addr.add]
def Z8 (N q : Nat) : List Value:=List.replicate q (.int .i64 (-1)) ++ List.replicate (N - q) (.int .i64 0)
theorem Aa {N q j : Nat} (h : j < q) : (Z8 N q).toArray[j]? = some (.int .i64 (-1)):=by
 unfold Z8;rw [List.getElem?_toArray,List.getElem?_append_left (by simpa using h)];simp [h]
theorem Qgq {N q : Nat} (h : q ≤ N) : (Z8 N q).length = N:=by unfold Z8;simp;omega
theorem Qgr (N q : Nat) : splice (Z8 N q) q (List.replicate (Nat.min q (N - q)) (.int .i64 (-1))) = Z8 N (q + Nat.min q (N - q)):=by
 unfold splice Z8;have hm : Nat.min q (N - q) ≤ N - q:=Nat.min_le_right _ _;rw [List.take_left' (by simp),List.drop_append,List.length_replicate,List.length_replicate,List.drop_eq_nil_of_le (by simp),List.nil_append,List.drop_replicate,← List.append_assoc,List.replicate_append_replicate]
 congr 2
 omega
theorem szI : (Tryz.prog.info? 3).map (·.size) = some 1:=by kernel_rfl
theorem Tc {w : World} {g n q m dl sl sc : Nat} {src : Addr} (HG : Qa w g 3 (Z8 n q).toArray) (hq : q ≤ n) (hdl : dl = n - q) (hm : m = Nat.min sl dl) (hsrc : ∀ j,j < m → w.cell? (src.add j) = some (.int .i64 (-1))) (hh : splice (Z8 n q) q (List.replicate m (.int .i64 (-1))) = Z8 n (q + m)) :
  (Builtin.copy_ #[125,125] 3 #[.slice (some ⟨g,q,none⟩) dl dl,.slice (some src) sl sc]).run Tryz.prog w = .ok (.int .i64 (m : Int)) (w.setRow g (Z8 n (q + m)).toArray):=by
 have hmd : m ≤ dl:=by rw [hm];exact Nat.min_le_right _ _
 have h:=run_copy_row (P:=Tryz.prog) w 125 125 3 3 g q dl dl src sl sc (Z8 n q).toArray 3 (List.replicate m (.int .i64 (-1))) Tryz.underlying125 szI HG (by rw [List.length_replicate];exact hm) (fun j u hj => by
  obtain ⟨h1,h2⟩:=List.getElem?_eq_some_iff.1 hj;rw [List.getElem_replicate] at h2;rw [← h2];exact hsrc j (by simpa using h1)) (by rw [List.length_replicate,List.size_toArray,Qgq hq];omega) (fun u hu => by rw [List.eq_of_mem_replicate hu];rfl)
 rw [h,← hh];unfold splice;simp [goInt]
section
variable {P : Program} {ops : Array Oper} {md : Region.Mode} {C : World → Prop} {R : Act → World → Prop} {zs : List Nat}
theorem Qcw {f : Nat} {L : Array Bool} {a : Act} {w : World} {o1 o2 o3 o4 : Oper} (k1 k2 k3 k4 : Nat) (h1 : ops[k1]? = some o1) (h2 : ops[k2]? = some o2) (h3 : ops[k3]? = some o3) (h4 : ops[k4]? = some o4) (hB : decide (Region.ready md ops L = [k1,k2,k3,k4]) = true)
  (ha : wpList P ops (Zx fun a' w' => C w' ∧ Zp P md ops C zs R f (L.setIfInBounds k1 true) a' w') [o1] a w)
  (hb : wpList P ops (Zx fun a' w' => C w' ∧ Zp P md ops C zs R f (L.setIfInBounds k2 true) a' w') [o2] a w)
  (hc : wpList P ops (Zx fun a' w' => C w' ∧ Zp P md ops C zs R f (L.setIfInBounds k3 true) a' w') [o3] a w)
  (hd : wpList P ops (Zx fun a' w' => C w' ∧ Zp P md ops C zs R f (L.setIfInBounds k4 true) a' w') [o4] a w) : Zp P md ops C zs R (f + 1) L a w:=by
 have hB:=of_decide_eq_true hB;refine ⟨fun h => (by rw [hB] at h;cases h),fun j hj => ?_⟩;rw [hB] at hj;rcases List.mem_cons.1 hj with rfl | hj
 ·exact wpOp_mono (fun a' w' h' => ⟨fun _ => h'.1,h'.2⟩) (Wb (Wn h1 ha))
 ·rcases List.mem_cons.1 hj with rfl | hj
  ·exact wpOp_mono (fun a' w' h' => ⟨fun _ => h'.1,h'.2⟩) (Wb (Wn h2 hb))
  ·rcases List.mem_cons.1 hj with rfl | hj
   ·exact wpOp_mono (fun a' w' h' => ⟨fun _ => h'.1,h'.2⟩) (Wb (Wn h3 hc))
   ·rw [List.mem_singleton] at hj;subst hj;exact wpOp_mono (fun a' w' h' => ⟨fun _ => h'.1,h'.2⟩) (Wb (Wn h4 hd))
end
def cutW (A : OA → Nat → OA → Nat → Nat → Nat → Nat → Nat → Nat → Nat → Nat → Act) (S : World → OA → Nat → OA → Nat → Nat → Nat → Nat → Nat → Nat → Nat → Nat → Prop) : Exit → Act → World → Prop:=fun e a' w' => e = .normal ∧ ∃ O cO I cI bo bi bf bs bm b1 b2,S w' O cO I cI bo bi bf bs bm b1 b2 ∧ a' = A O cO I cI bo bi bf bs bm b1 b2
theorem Qe4 {A : OA → Nat → OA → Nat → Nat → Nat → Nat → Nat → Nat → Nat → Nat → Act} {S : World → OA → Nat → OA → Nat → Nat → Nat → Nat → Nat → Nat → Nat → Nat → Prop} {w' : World} (O : OA) (cO : Nat) (I : OA) (cI bo bi bf bs bm b1 b2 : Nat) {a' : Act} (h : S w' O cO I cI bo bi bf bs bm b1 b2) (ha : a' = A O cO I cI bo bi bf bs bm b1 b2) : cutW A S .normal a' w':=⟨rfl,O,cO,I,cI,bo,bi,bf,bs,bm,b1,b2,h,ha⟩
theorem Qml {P : Program} {c : Code} {Q : Exit → Act → World → Prop} {a : Act} {w : World} {A : OA → Nat → OA → Nat → Nat → Nat → Nat → Nat → Nat → Nat → Nat → Act} (S : World → OA → Nat → OA → Nat → Nat → Nat → Nat → Nat → Nat → Nat → Nat → Prop) (h1 : c.wp P (cutW A S) a w) (h2 : ∀ O cO I cI bo bi bf bs bm b1 b2 w',S w' O cO I cI bo bi bf bs bm b1 b2 → Q .normal (A O cO I cI bo bi bf bs bm b1 b2) w') : c.wp P Q a w :=
 Code.wp_mono (fun e a' w' ⟨he,O,cO,I,cI,bo,bi,bf,bs,bm,b1,b2,hs,ha⟩ => by subst he;subst ha;exact h2 O cO I cI bo bi bf bs bm b1 b2 w' hs) h1
theorem Qdv (n : Nat) (hn : n < 9223372036854775808) (w : World) :
  Calls Tryz.prog 165 #[.int .u64 1,.int .u64 (n : Int)] w fun e w' => e = .returned (.tuple #[.int .u64 0,.int .u64 (n : Int)]) ∧ w = w':=by
 go_enter Tryz.func165,Tryz.ntmps165
 go_wp2_with (go_at_call 189;refine zc (Qix n hn _) ?_;rintro e w' ⟨rfl,rfl⟩);go_ret2;exact ⟨rfl,rfl⟩
theorem Uc (n bx : Nat) (w : World) (hx : w.cell? ⟨bx,0,none⟩ = some (.int .i64 (-1))) (hbx : bx < w.heap.size) (hn : n ≤ 1000000) :
  Calls Tryz.prog 126 #[.slice (some ⟨bx,0,none⟩) 1 1,.int .i64 (n : Int)] w fun e w' => ∃ A cap b,e = .returned (.slice A n cap) ∧ Qc w w' ∧ w.heap.size ≤ b ∧ Qw w' 3 A n b (fun _ => (.int .i64 (-1))):=by
 have NM:=fun w => Qdv n Qb w
 have hmk:=fun w => Qio n hn w
 have wr1 : IntKind.u64.wrap (n : Int) = n:=by rw [IntKind.wrap_u64];omega
 have wr2 : IntKind.i64.wrap (n : Int) = n:=by rw [IntKind.wrap_i64];omega
 have g1 : decide ((9223372036854775807 : Int) < (n : Int)) = false:=zf Qb
 go_enter Tryz.func126,Tryz.ntmps126
 go_upto_region 4 with (go_at_call 165;refine zc (NM _) ?_;rintro e w' ⟨rfl,rfl⟩)
 go_upto_region 7 with fail
 obtain ⟨v,hv⟩:=Qf (w.alloc (.cells (Array.replicate n (.int .i64 0)) 3));rw [← hv];have E : Qc w v:=by rw [hv];exact (Qc.refl _).alloc _
 have HG0 : Qa v w.heap.size 3 (Z8 n 0).toArray:=by
  rw [hv];have h:=Qa.new w 3 (Array.replicate n (.int .i64 0))
  have e : (Z8 n 0).toArray = Array.replicate n (.int .i64 0):=by
   apply Array.ext';simp [Z8]
  rw [e];exact h
 have hxv:=(E.cell (p:=⟨bx,0,none⟩) hbx).trans hx;clear hv hmk NM hx;obtain ⟨g,hg⟩:=Qf (w.heap.size);rw [← hg] at HG0 ⊢;have hbg : w.heap.size ≤ g:=Nat.le_of_eq hg.symm;clear hg;obtain ⟨m1,hm1⟩:=Qf (Nat.min 1 n)
 have hs1 : splice (Z8 n 0) 0 (List.replicate m1 (.int .i64 (-1))) = Z8 n m1:=by
  rw [hm1];by_cases h0 : n = 0
  ·subst h0;rfl
  ·rw [show Nat.min 1 n = 1 from Nat.min_eq_left Qb];obtain ⟨k,rfl⟩ : ∃ k,n = k + 1:=⟨n - 1,Qb⟩;simp [splice,Z8,List.replicate_succ]
 have hsrc1 : ∀ j : Nat,j < m1 → v.cell? ((⟨bx,0,none⟩ : Addr).add j) = some (.int .i64 (-1)):=fun j hj => by
  have hj0 : j = 0:=by
   have : m1 ≤ 1:=by rw [hm1];exact Nat.min_le_left _ _
   omega
  subst hj0;rw [Addr.add_lit];exact hxv
 have hm1n : m1 ≤ n:=by rw [hm1];exact Nat.min_le_right _ _
 have hm1p : 0 < n → 1 ≤ m1:=fun h => by rw [hm1];exact Nat.le_min.2 ⟨Nat.le_refl _,h⟩
 replace hm1:=zh hm1;replace hs1:=zh hs1;replace hm1p:=zh hm1p;have hcp:=Tc (sc:=1) HG0 (Nat.zero_le _) (Nat.sub_zero n).symm hm1.out (fun j hj => hsrc1 j hj) (by rw [Nat.zero_add];exact hs1.out);rw [Nat.zero_add] at hcp;go_upto_region 8 with fail
 have HG2:=setRow_heap v g _ (Z8 n m1).toArray 3 _ HG0;have E2 : Qc w (v.setRow g (Z8 n m1).toArray):=below_setRow E hbg _;generalize v.setRow g (Z8 n m1).toArray = w2 at *;replace HG2 : Qa w2 g 3 (Z8 n m1).toArray:=HG2;clear hcp HG0 hs1 hsrc1 hxv E
 go_loopw [8] (fun iv wr => ∃ q : Nat,q ≤ n ∧ Hid (0 < n → 1 ≤ q) ∧ iv = .int .i64 q ∧ Qa wr g 3 (Z8 n q).toArray ∧ Qc w wr) (fun iv _ => n - (intOf iv).toNat)
 case atStart => exact ⟨m1,hm1n,hm1p,rfl,HG2,E2⟩
 case round =>
  clear HG2 E2 hm1n hm1p hm1;obtain ⟨q,hq,hq1,rfl,HG,hE⟩:=hrel;obtain ⟨wo,rfl⟩:=Qf wr;by_cases hlt : q < n
  ·have h1q := hq1.out Qb;obtain ⟨m, hm⟩ := Qf (Nat.min q (n - q));have hmq : m ≤ q := by rw [hm]; exact Nat.min_le_left _ _
   have hmn : m ≤ n - q:=by rw [hm];exact Nat.min_le_right _ _
   have hm1' : 1 ≤ m:=by rw [hm];exact Nat.le_min.2 ⟨h1q,Qb⟩
   have hs2 : Hid (splice (Z8 n q) q (List.replicate m (.int .i64 (-1))) = Z8 n (q + m)):=by rw [hm];exact Qgr n q
   replace hm:=zh hm;have hsl1:=fun w => Qld g n q hlt w
   have hsl2:=fun w => sl_to g n q hq Qb w
   have hsub : ((n - q : Nat) : Int) = (n : Int) - q:=Qb;go_upto_region 9 with fail
   refine Qy 10 [0,1,2,4,5,7,8,9] (fun x => Qc wo x) mixed rfl ?_;intro vz hvz;have HC:=hvz;refine Jf (g:=5) [0,1,2,4,5] ?_
   constructor
   refine ⟨fun u hu => ?_,?_⟩
   ·exact Qi
   refine Zd 3 6 ?_ ?_
   ·go_wp2;refine Qe HC ?_;refine Qh 6 ?_;go_wp2;refine Qe HC ?_;refine Ql 7 ?_;have HGz:=Qa.ext HG HC
    have hcp:=Tc (sc:=n) HGz hq rfl hm.out (fun j hj => by
     rw [Addr.add_lit,Nat.zero_add,HGz.cell j];exact Aa Qb) hs2.out
    have HG3:=setRow_heap _ g _ (Z8 n (q + m)).toArray 3 _ HGz;have E3 : Qc w _:=below_setRow (hE.trans HC) hbg (Z8 n (q + m)).toArray;go_wp2;generalize World.setRow _ _ _ = w3 at *;refine Qk ?_;refine Jf (g:=1) [8] ?_
    constructor
    refine ⟨fun u hu => ?_,?_⟩
    ·exact Qi
    refine Ql 9 ?_;go_wp2;refine Qk ?_;refine Qr ?_;replace HG3 : Qa w3 g 3 (Z8 n (q + m)).toArray:=HG3;clear HG hs2 hsl1 hsl2;go_wp2;exact ⟨⟨q + m,Qb,fun _ => by omega,by go_num,HG3,E3⟩,zi⟩
   ·go_wp2;refine Qe HC ?_;refine Qh 3 ?_;go_wp2;refine Qe HC ?_;refine Ql 7 ?_;have HGz:=Qa.ext HG HC
    have hcp:=Tc (sc:=n) HGz hq rfl hm.out (fun j hj => by
     rw [Addr.add_lit,Nat.zero_add,HGz.cell j];exact Aa Qb) hs2.out
    have HG3:=setRow_heap _ g _ (Z8 n (q + m)).toArray 3 _ HGz;have E3 : Qc w _:=below_setRow (hE.trans HC) hbg (Z8 n (q + m)).toArray;go_wp2;generalize World.setRow _ _ _ = w3 at *;refine Qk ?_;refine Jf (g:=1) [8] ?_
    constructor
    refine ⟨fun u hu => ?_,?_⟩
    ·exact Qi
    refine Ql 9 ?_;go_wp2;refine Qk ?_;refine Qr ?_;replace HG3 : Qa w3 g 3 (Z8 n (q + m)).toArray:=HG3;clear HG hs2 hsl1 hsl2;go_wp2;exact ⟨⟨q + m,Qb,fun _ => by omega,by go_num,HG3,E3⟩,zi⟩
  ·obtain rfl : q = n:=Qb;go_wp2;go_ret;refine ⟨_,_,g,rfl,hE,hbg,fun _ => rfl,fun _ => ⟨_,HG,by simp [Z8],fun k hk => ?_⟩⟩;simp [Z8,hk]
set_option maxHeartbeats 400000000 in
theorem Qjg {adj : Nat → List Nat} (Vo Vi : OA) (no ni co ci : Nat) (vy : Value) (w : World) (hadj : ∀ o,∀ k ∈ adj o,k < ni) (hY : M1 w vy no adj) (hno : no ≤ 1000000) (hni : ni ≤ 1000000) :
  Calls Tryz.prog 80 #[.slice Vo no co,.slice Vi ni ci,vy] w fun e w' => ∃ bm bs O I X cO cI cX bo bi bf,e = .returned (.pointer (some ⟨bs,0,none⟩)) ∧ w.heap.size ≤ bs ∧ MS w w' bm bs (.slice Vo no co) (.slice Vi ni ci) vy O I X no ni cO cI cX bo bi bf (Yx adj ni (fun _ => false) no 0 Ur).1 (fun _ => false):=by
 obtain ⟨Y,cY,vs,rfl,hYr,hYi⟩:=id hY;clear hYr hYi;have hmkb:=fun w => Ig ni hni w
 obtain ⟨R,hR⟩:=Qf ((Yx adj ni (fun _ => false) no 0 Ur).1);rw [← hR];replace hR : Hid ((Yx adj ni (fun _ => false) (no - 0) 0 Ur).1 = R):=zh hR.symm
 go_enter Tryz.func80,Tryz.ntmps80
 go_upto_region 1 with fail
 apply Qml (S:=fun w' O cO I cI bo bi bf bs bm b1 b2 => Qc w w' ∧ (Qa w' bm 166 #[.pointer (some ⟨bs,0,none⟩)] ∧ Qa w' bs 213 #[.slice Vo no co,.slice Vi ni ci,.slice Y no cY,.slice O no cO,.slice I ni cI,.slice (some ⟨bf,0,none⟩) ni ni,.nilFunc]) ∧ Qw w' 3 O no bo (fun _ => .int .i64 (-1)) ∧ Qw w' 3 I ni bi (fun _ => .int .i64 (-1)) ∧ Qw w' 4 (some ⟨bf,0,none⟩) ni bf (fun _ => .bool false) ∧ (0 < no → 0 < ni → bo ≠ bi) ∧ w.heap.size ≤ bo ∧ w.heap.size ≤ bi ∧ w.heap.size ≤ bf ∧ w.heap.size ≤ bs ∧ w.heap.size ≤ bm)
 ·refine Qy 18 [17] (fun x => Qc w x) mixed rfl ?_;intro vz hvz;have HC:=hvz;have mz0:=trivial
  all_goals try
   (clear mz0
    refine Qj (g:=9) [0,1,2,4,5,8,9,11,12] HC ?_
    constructor
    refine ⟨fun u hu => ?_,?_⟩
    ·exact Qi
    have mz1:=trivial)
  all_goals try
   (clear mz1
    refine Qcw 3 7 13 16 rfl rfl rfl rfl zK ?_ ?_ ?_ ?_
    focus
     simp only [Za,Zb,Zc];go_wp2;obtain ⟨b1,wb,hbq,hwb,HX1,HC',hx,gp_b1⟩:=Qm HC 3 #[(.int .i64 (-1))];rw [← hbq,← hwb];replace HC:=HC';clear hbq hwb hx HC' gp_b1;have mz2:=trivial;refine Qe HC ?_
    rotate_left
    focus
     simp only [Za,Zb,Zc];go_wp2;obtain ⟨b2,wb,hbq,hwb,HX2,HC',hx,gp_b2⟩:=Qm HC 3 #[(.int .i64 (-1))];rw [← hbq,← hwb];replace HC:=HC';clear hbq hwb hx HC' gp_b2;have mz3:=trivial;refine Qe HC ?_
    rotate_left
    focus
     simp only [Za,Zb,Zc];go_wp2;obtain ⟨bf,wb,hbq,hwb,HF,HC',hx,gp_bf⟩:=Qm HC 4 (Array.replicate ni (.bool false));rw [← hbq,← hwb];have AF : Qw wb 4 (some ⟨bf,0,none⟩) ni bf (fun _ => .bool false):=⟨fun _ => rfl,fun _ => ⟨_,HF,by simp,fun k hk => by simp [hk]⟩⟩;replace HC:=HC';clear hbq hwb hx HC' HF;have mz4:=trivial;refine Qe HC ?_
    rotate_left
    focus
     simp only [Za,Zb,Zc];go_wp2;obtain ⟨bm,wb,hbq,hwb,HM,HC',hx,gp_bm⟩:=Qm HC 166 #[.pointer none];rw [← hbq,← hwb];replace HC:=HC';clear hbq hwb hx HC';have mz5:=trivial;refine Qe HC ?_
    rotate_left)
  all_goals try
   (clear mz2
    refine Qcw 6 7 13 16 rfl rfl rfl rfl zK ?_ ?_ ?_ ?_
    focus
     simp only [Za,Zb,Zc];have hz:=HC.size;go_wp2_with (go_at_call 126;refine zc (Uc no b1 _ HX1.c1 HX1.lt hno) ?_;rintro e wc ⟨O,cO,bo,rfl,hj,hl_bo,AO⟩);try replace HX1:=HX1.ext hj
     replace HC:=HC.trans hj;replace hl_bo:=Nat.le_trans hz hl_bo;clear hj hz HX1;have mz6:=trivial;refine Qe HC ?_
    rotate_left
    focus
     simp only [Za,Zb,Zc];go_wp2;obtain ⟨b2,wb,hbq,hwb,HX2,HC',hx,gp_b2⟩:=Qm HC 3 #[(.int .i64 (-1))];rw [← hbq,← hwb];replace HC:=HC';try replace HX1:=HX1.ext hx
     clear hbq hwb hx HC' gp_b2;have mz7:=trivial;refine Qe HC ?_
    rotate_left
    focus
     simp only [Za,Zb,Zc];go_wp2;obtain ⟨bf,wb,hbq,hwb,HF,HC',hx,gp_bf⟩:=Qm HC 4 (Array.replicate ni (.bool false));rw [← hbq,← hwb];have AF : Qw wb 4 (some ⟨bf,0,none⟩) ni bf (fun _ => .bool false):=⟨fun _ => rfl,fun _ => ⟨_,HF,by simp,fun k hk => by simp [hk]⟩⟩;replace HC:=HC';try replace HX1:=HX1.ext hx
     clear hbq hwb hx HC' HF;have mz8:=trivial;refine Qe HC ?_
    rotate_left
    focus
     simp only [Za,Zb,Zc];go_wp2;obtain ⟨bm,wb,hbq,hwb,HM,HC',hx,gp_bm⟩:=Qm HC 166 #[.pointer none];rw [← hbq,← hwb];replace HC:=HC';try replace HX1:=HX1.ext hx
     clear hbq hwb hx HC';have mz9:=trivial;refine Qe HC ?_
    rotate_left)
  all_goals try
   (clear mz3
    refine Ug 3 13 16 ?_ ?_ ?_
    focus
     go_wp2;obtain ⟨b1,wb,hbq,hwb,HX1,HC',hx,gp_b1⟩:=Qm HC 3 #[(.int .i64 (-1))];rw [← hbq,← hwb];replace HC:=HC';try replace HX2:=HX2.ext hx
     clear hbq hwb hx HC' gp_b1;have mz7:=trivial;refine Qe HC ?_
    rotate_left
    focus
     go_wp2;obtain ⟨bf,wb,hbq,hwb,HF,HC',hx,gp_bf⟩:=Qm HC 4 (Array.replicate ni (.bool false));rw [← hbq,← hwb];have AF : Qw wb 4 (some ⟨bf,0,none⟩) ni bf (fun _ => .bool false):=⟨fun _ => rfl,fun _ => ⟨_,HF,by simp,fun k hk => by simp [hk]⟩⟩;replace HC:=HC';try replace HX2:=HX2.ext hx
     clear hbq hwb hx HC' HF;have mz10:=trivial;refine Qe HC ?_
    rotate_left
    focus
     go_wp2;obtain ⟨bm,wb,hbq,hwb,HM,HC',hx,gp_bm⟩:=Qm HC 166 #[.pointer none];rw [← hbq,← hwb];replace HC:=HC';try replace HX2:=HX2.ext hx
     clear hbq hwb hx HC';have mz11:=trivial;refine Qe HC ?_
    rotate_left)
  all_goals try
   (clear mz4
    refine Ug 3 7 16 ?_ ?_ ?_
    focus
     go_wp2;obtain ⟨b1,wb,hbq,hwb,HX1,HC',hx,gp_b1⟩:=Qm HC 3 #[(.int .i64 (-1))];rw [← hbq,← hwb];replace HC:=HC';try replace AF:=AF.ext hx
     clear hbq hwb hx HC' gp_b1;have mz8:=trivial;refine Qe HC ?_
    rotate_left
    focus
     go_wp2;obtain ⟨b2,wb,hbq,hwb,HX2,HC',hx,gp_b2⟩:=Qm HC 3 #[(.int .i64 (-1))];rw [← hbq,← hwb];replace HC:=HC';try replace AF:=AF.ext hx
     clear hbq hwb hx HC' gp_b2;have mz10:=trivial;refine Qe HC ?_
    rotate_left
    focus
     go_wp2;obtain ⟨bm,wb,hbq,hwb,HM,HC',hx,gp_bm⟩:=Qm HC 166 #[.pointer none];rw [← hbq,← hwb];replace HC:=HC';try replace AF:=AF.ext hx
     clear hbq hwb hx HC';have mz12:=trivial;refine Qe HC ?_
    rotate_left)
  all_goals try
   (clear mz5
    refine Ug 3 7 13 ?_ ?_ ?_
    focus
     go_wp2;obtain ⟨b1,wb,hbq,hwb,HX1,HC',hx,gp_b1⟩:=Qm HC 3 #[(.int .i64 (-1))];rw [← hbq,← hwb];replace HC:=HC';try replace HM:=HM.ext hx
     clear hbq hwb hx HC' gp_b1;have mz9:=trivial;refine Qe HC ?_
    rotate_left
    focus
     go_wp2;obtain ⟨b2,wb,hbq,hwb,HX2,HC',hx,gp_b2⟩:=Qm HC 3 #[(.int .i64 (-1))];rw [← hbq,← hwb];replace HC:=HC';try replace HM:=HM.ext hx
     clear hbq hwb hx HC' gp_b2;have mz11:=trivial;refine Qe HC ?_
    rotate_left
    focus
     go_wp2;obtain ⟨bf,wb,hbq,hwb,HF,HC',hx,gp_bf⟩:=Qm HC 4 (Array.replicate ni (.bool false));rw [← hbq,← hwb];have AF : Qw wb 4 (some ⟨bf,0,none⟩) ni bf (fun _ => .bool false):=⟨fun _ => rfl,fun _ => ⟨_,HF,by simp,fun k hk => by simp [hk]⟩⟩;replace HC:=HC';try replace HM:=HM.ext hx
     clear hbq hwb hx HC' HF;have mz12:=trivial;refine Qe HC ?_
    rotate_left)
  all_goals try
   (clear mz6
    refine Ug 7 13 16 ?_ ?_ ?_
    focus
     go_wp2;obtain ⟨b2,wb,hbq,hwb,HX2,HC',hx,gp_b2⟩:=Qm HC 3 #[(.int .i64 (-1))];rw [← hbq,← hwb];replace HC:=HC';try replace HX1:=HX1.ext hx
     try replace AO:=AO.ext hx
     clear hbq hwb hx HC' gp_b2;have mz13:=trivial;refine Qe HC ?_
    rotate_left
    focus
     go_wp2;obtain ⟨bf,wb,hbq,hwb,HF,HC',hx,gp_bf⟩:=Qm HC 4 (Array.replicate ni (.bool false));rw [← hbq,← hwb];have AF : Qw wb 4 (some ⟨bf,0,none⟩) ni bf (fun _ => .bool false):=⟨fun _ => rfl,fun _ => ⟨_,HF,by simp,fun k hk => by simp [hk]⟩⟩;replace HC:=HC';try replace HX1:=HX1.ext hx
     try replace AO:=AO.ext hx
     clear hbq hwb hx HC' HF;have mz14:=trivial;refine Qe HC ?_
    rotate_left
    focus
     go_wp2;obtain ⟨bm,wb,hbq,hwb,HM,HC',hx,gp_bm⟩:=Qm HC 166 #[.pointer none];rw [← hbq,← hwb];replace HC:=HC';try replace HX1:=HX1.ext hx
     try replace AO:=AO.ext hx
     clear hbq hwb hx HC';have mz15:=trivial;refine Qe HC ?_
    rotate_left)
  all_goals try
   (clear mz7
    refine Ug 6 13 16 ?_ ?_ ?_
    focus
     have hz:=HC.size;go_wp2_with (go_at_call 126;refine zc (Uc no b1 _ HX1.c1 HX1.lt hno) ?_;rintro e wc ⟨O,cO,bo,rfl,hj,hl_bo,AO⟩);try replace HX1:=HX1.ext hj
     try replace HX2:=HX2.ext hj
     replace HC:=HC.trans hj;replace hl_bo:=Nat.le_trans hz hl_bo;clear hj hz HX1;have mz13:=trivial;refine Qe HC ?_
    rotate_left
    focus
     go_wp2;obtain ⟨bf,wb,hbq,hwb,HF,HC',hx,gp_bf⟩:=Qm HC 4 (Array.replicate ni (.bool false));rw [← hbq,← hwb];have AF : Qw wb 4 (some ⟨bf,0,none⟩) ni bf (fun _ => .bool false):=⟨fun _ => rfl,fun _ => ⟨_,HF,by simp,fun k hk => by simp [hk]⟩⟩;replace HC:=HC';try replace HX1:=HX1.ext hx
     try replace HX2:=HX2.ext hx
     clear hbq hwb hx HC' HF;have mz16:=trivial;refine Qe HC ?_
    rotate_left
    focus
     go_wp2;obtain ⟨bm,wb,hbq,hwb,HM,HC',hx,gp_bm⟩:=Qm HC 166 #[.pointer none];rw [← hbq,← hwb];replace HC:=HC';try replace HX1:=HX1.ext hx
     try replace HX2:=HX2.ext hx
     clear hbq hwb hx HC';have mz17:=trivial;refine Qe HC ?_
    rotate_left)
  all_goals try
   (clear mz8
    refine Ug 6 7 16 ?_ ?_ ?_
    focus
     have hz:=HC.size;go_wp2_with (go_at_call 126;refine zc (Uc no b1 _ HX1.c1 HX1.lt hno) ?_;rintro e wc ⟨O,cO,bo,rfl,hj,hl_bo,AO⟩);try replace HX1:=HX1.ext hj
     try replace AF:=AF.ext hj
     replace HC:=HC.trans hj;replace hl_bo:=Nat.le_trans hz hl_bo;clear hj hz HX1;have mz14:=trivial;refine Qe HC ?_
    rotate_left
    focus
     go_wp2;obtain ⟨b2,wb,hbq,hwb,HX2,HC',hx,gp_b2⟩:=Qm HC 3 #[(.int .i64 (-1))];rw [← hbq,← hwb];replace HC:=HC';try replace HX1:=HX1.ext hx
     try replace AF:=AF.ext hx
     clear hbq hwb hx HC' gp_b2;have mz16:=trivial;refine Qe HC ?_
    rotate_left
    focus
     go_wp2;obtain ⟨bm,wb,hbq,hwb,HM,HC',hx,gp_bm⟩:=Qm HC 166 #[.pointer none];rw [← hbq,← hwb];replace HC:=HC';try replace HX1:=HX1.ext hx
     try replace AF:=AF.ext hx
     clear hbq hwb hx HC';have mz18:=trivial;refine Qe HC ?_
    rotate_left)
  all_goals try
   (clear mz9
    refine Ug 6 7 13 ?_ ?_ ?_
    focus
     have hz:=HC.size;go_wp2_with (go_at_call 126;refine zc (Uc no b1 _ HX1.c1 HX1.lt hno) ?_;rintro e wc ⟨O,cO,bo,rfl,hj,hl_bo,AO⟩);try replace HX1:=HX1.ext hj
     try replace HM:=HM.ext hj
     replace HC:=HC.trans hj;replace hl_bo:=Nat.le_trans hz hl_bo;clear hj hz HX1;have mz15:=trivial;refine Qe HC ?_
    rotate_left
    focus
     go_wp2;obtain ⟨b2,wb,hbq,hwb,HX2,HC',hx,gp_b2⟩:=Qm HC 3 #[(.int .i64 (-1))];rw [← hbq,← hwb];replace HC:=HC';try replace HX1:=HX1.ext hx
     try replace HM:=HM.ext hx
     clear hbq hwb hx HC' gp_b2;have mz17:=trivial;refine Qe HC ?_
    rotate_left
    focus
     go_wp2;obtain ⟨bf,wb,hbq,hwb,HF,HC',hx,gp_bf⟩:=Qm HC 4 (Array.replicate ni (.bool false));rw [← hbq,← hwb];have AF : Qw wb 4 (some ⟨bf,0,none⟩) ni bf (fun _ => .bool false):=⟨fun _ => rfl,fun _ => ⟨_,HF,by simp,fun k hk => by simp [hk]⟩⟩;replace HC:=HC';try replace HX1:=HX1.ext hx
     try replace HM:=HM.ext hx
     clear hbq hwb hx HC' HF;have mz18:=trivial;refine Qe HC ?_
    rotate_left)
  all_goals try
   (clear mz10
    refine Zd 3 16 ?_ ?_
    focus
     go_wp2;obtain ⟨b1,wb,hbq,hwb,HX1,HC',hx,gp_b1⟩:=Qm HC 3 #[(.int .i64 (-1))];rw [← hbq,← hwb];replace HC:=HC';try replace HX2:=HX2.ext hx
     try replace AF:=AF.ext hx
     clear hbq hwb hx HC' gp_b1;have mz16:=trivial;refine Qe HC ?_
    rotate_left
    focus
     go_wp2;obtain ⟨bm,wb,hbq,hwb,HM,HC',hx,gp_bm⟩:=Qm HC 166 #[.pointer none];rw [← hbq,← hwb];replace HC:=HC';try replace HX2:=HX2.ext hx
     try replace AF:=AF.ext hx
     clear hbq hwb hx HC';have mz19:=trivial;refine Qe HC ?_
    rotate_left)
  all_goals try
   (clear mz11
    refine Zd 3 13 ?_ ?_
    focus
     go_wp2;obtain ⟨b1,wb,hbq,hwb,HX1,HC',hx,gp_b1⟩:=Qm HC 3 #[(.int .i64 (-1))];rw [← hbq,← hwb];replace HC:=HC';try replace HX2:=HX2.ext hx
     try replace HM:=HM.ext hx
     clear hbq hwb hx HC' gp_b1;have mz17:=trivial;refine Qe HC ?_
    rotate_left
    focus
     go_wp2;obtain ⟨bf,wb,hbq,hwb,HF,HC',hx,gp_bf⟩:=Qm HC 4 (Array.replicate ni (.bool false));rw [← hbq,← hwb];have AF : Qw wb 4 (some ⟨bf,0,none⟩) ni bf (fun _ => .bool false):=⟨fun _ => rfl,fun _ => ⟨_,HF,by simp,fun k hk => by simp [hk]⟩⟩;replace HC:=HC';try replace HX2:=HX2.ext hx
     try replace HM:=HM.ext hx
     clear hbq hwb hx HC' HF;have mz19:=trivial;refine Qe HC ?_
    rotate_left)
  all_goals try
   (clear mz12
    refine Zd 3 7 ?_ ?_
    focus
     go_wp2;obtain ⟨b1,wb,hbq,hwb,HX1,HC',hx,gp_b1⟩:=Qm HC 3 #[(.int .i64 (-1))];rw [← hbq,← hwb];replace HC:=HC';try replace AF:=AF.ext hx
     try replace HM:=HM.ext hx
     clear hbq hwb hx HC' gp_b1;have mz18:=trivial;refine Qe HC ?_
    rotate_left
    focus
     go_wp2;obtain ⟨b2,wb,hbq,hwb,HX2,HC',hx,gp_b2⟩:=Qm HC 3 #[(.int .i64 (-1))];rw [← hbq,← hwb];replace HC:=HC';try replace AF:=AF.ext hx
     try replace HM:=HM.ext hx
     clear hbq hwb hx HC' gp_b2;have mz19:=trivial;refine Qe HC ?_
    rotate_left)
  all_goals try
   (clear mz13
    refine Ug 10 13 16 ?_ ?_ ?_
    focus
     have hz:=HC.size;go_wp2_with (go_at_call 126;refine zc (Uc ni b2 _ HX2.c1 HX2.lt hni) ?_;rintro e wc ⟨I,cI,bi,rfl,hj,hl_bi,AI⟩);have hne : 0 < no → 0 < ni → bo ≠ bi:=fun h _ => by have:=AO.lt h;omega
     try replace HX1:=HX1.ext hj
     try replace HX2:=HX2.ext hj
     try replace AO:=AO.ext hj
     replace HC:=HC.trans hj;replace hl_bi:=Nat.le_trans hz hl_bi;clear hj hz HX2;have mz20:=trivial;refine Qe HC ?_
    rotate_left
    focus
     go_wp2;obtain ⟨bf,wb,hbq,hwb,HF,HC',hx,gp_bf⟩:=Qm HC 4 (Array.replicate ni (.bool false));rw [← hbq,← hwb];have AF : Qw wb 4 (some ⟨bf,0,none⟩) ni bf (fun _ => .bool false):=⟨fun _ => rfl,fun _ => ⟨_,HF,by simp,fun k hk => by simp [hk]⟩⟩;replace HC:=HC';try replace HX1:=HX1.ext hx
     try replace HX2:=HX2.ext hx
     try replace AO:=AO.ext hx
     clear hbq hwb hx HC' HF;have mz21:=trivial;refine Qe HC ?_
    rotate_left
    focus
     go_wp2;obtain ⟨bm,wb,hbq,hwb,HM,HC',hx,gp_bm⟩:=Qm HC 166 #[.pointer none];rw [← hbq,← hwb];replace HC:=HC';try replace HX1:=HX1.ext hx
     try replace HX2:=HX2.ext hx
     try replace AO:=AO.ext hx
     clear hbq hwb hx HC';have mz22:=trivial;refine Qe HC ?_
    rotate_left)
  all_goals try
   (clear mz14
    refine Zd 7 16 ?_ ?_
    focus
     go_wp2;obtain ⟨b2,wb,hbq,hwb,HX2,HC',hx,gp_b2⟩:=Qm HC 3 #[(.int .i64 (-1))];rw [← hbq,← hwb];replace HC:=HC';try replace HX1:=HX1.ext hx
     try replace AO:=AO.ext hx
     try replace AF:=AF.ext hx
     clear hbq hwb hx HC' gp_b2;have mz21:=trivial;refine Qe HC ?_
    rotate_left
    focus
     go_wp2;obtain ⟨bm,wb,hbq,hwb,HM,HC',hx,gp_bm⟩:=Qm HC 166 #[.pointer none];rw [← hbq,← hwb];replace HC:=HC';try replace HX1:=HX1.ext hx
     try replace AO:=AO.ext hx
     try replace AF:=AF.ext hx
     clear hbq hwb hx HC';have mz23:=trivial;refine Qe HC ?_
    rotate_left)
  all_goals try
   (clear mz15
    refine Zd 7 13 ?_ ?_
    focus
     go_wp2;obtain ⟨b2,wb,hbq,hwb,HX2,HC',hx,gp_b2⟩:=Qm HC 3 #[(.int .i64 (-1))];rw [← hbq,← hwb];replace HC:=HC';try replace HX1:=HX1.ext hx
     try replace AO:=AO.ext hx
     try replace HM:=HM.ext hx
     clear hbq hwb hx HC' gp_b2;have mz22:=trivial;refine Qe HC ?_
    rotate_left
    focus
     go_wp2;obtain ⟨bf,wb,hbq,hwb,HF,HC',hx,gp_bf⟩:=Qm HC 4 (Array.replicate ni (.bool false));rw [← hbq,← hwb];have AF : Qw wb 4 (some ⟨bf,0,none⟩) ni bf (fun _ => .bool false):=⟨fun _ => rfl,fun _ => ⟨_,HF,by simp,fun k hk => by simp [hk]⟩⟩;replace HC:=HC';try replace HX1:=HX1.ext hx
     try replace AO:=AO.ext hx
     try replace HM:=HM.ext hx
     clear hbq hwb hx HC' HF;have mz23:=trivial;refine Qe HC ?_
    rotate_left)
  all_goals try
   (clear mz16
    refine Zd 6 16 ?_ ?_
    focus
     have hz:=HC.size;go_wp2_with (go_at_call 126;refine zc (Uc no b1 _ HX1.c1 HX1.lt hno) ?_;rintro e wc ⟨O,cO,bo,rfl,hj,hl_bo,AO⟩);try replace HX1:=HX1.ext hj
     try replace HX2:=HX2.ext hj
     try replace AF:=AF.ext hj
     replace HC:=HC.trans hj;replace hl_bo:=Nat.le_trans hz hl_bo;clear hj hz HX1;have mz21:=trivial;refine Qe HC ?_
    rotate_left
    focus
     go_wp2;obtain ⟨bm,wb,hbq,hwb,HM,HC',hx,gp_bm⟩:=Qm HC 166 #[.pointer none];rw [← hbq,← hwb];replace HC:=HC';try replace HX1:=HX1.ext hx
     try replace HX2:=HX2.ext hx
     try replace AF:=AF.ext hx
     clear hbq hwb hx HC';have mz24:=trivial;refine Qe HC ?_
    rotate_left)
  all_goals try
   (clear mz17
    refine Zd 6 13 ?_ ?_
    focus
     have hz:=HC.size;go_wp2_with (go_at_call 126;refine zc (Uc no b1 _ HX1.c1 HX1.lt hno) ?_;rintro e wc ⟨O,cO,bo,rfl,hj,hl_bo,AO⟩);try replace HX1:=HX1.ext hj
     try replace HX2:=HX2.ext hj
     try replace HM:=HM.ext hj
     replace HC:=HC.trans hj;replace hl_bo:=Nat.le_trans hz hl_bo;clear hj hz HX1;have mz22:=trivial;refine Qe HC ?_
    rotate_left
    focus
     go_wp2;obtain ⟨bf,wb,hbq,hwb,HF,HC',hx,gp_bf⟩:=Qm HC 4 (Array.replicate ni (.bool false));rw [← hbq,← hwb];have AF : Qw wb 4 (some ⟨bf,0,none⟩) ni bf (fun _ => .bool false):=⟨fun _ => rfl,fun _ => ⟨_,HF,by simp,fun k hk => by simp [hk]⟩⟩;replace HC:=HC';try replace HX1:=HX1.ext hx
     try replace HX2:=HX2.ext hx
     try replace HM:=HM.ext hx
     clear hbq hwb hx HC' HF;have mz24:=trivial;refine Qe HC ?_
    rotate_left)
  all_goals try
   (clear mz18
    refine Zd 6 7 ?_ ?_
    focus
     have hz:=HC.size;go_wp2_with (go_at_call 126;refine zc (Uc no b1 _ HX1.c1 HX1.lt hno) ?_;rintro e wc ⟨O,cO,bo,rfl,hj,hl_bo,AO⟩);try replace HX1:=HX1.ext hj
     try replace AF:=AF.ext hj
     try replace HM:=HM.ext hj
     replace HC:=HC.trans hj;replace hl_bo:=Nat.le_trans hz hl_bo;clear hj hz HX1;have mz23:=trivial;refine Qe HC ?_
    rotate_left
    focus
     go_wp2;obtain ⟨b2,wb,hbq,hwb,HX2,HC',hx,gp_b2⟩:=Qm HC 3 #[(.int .i64 (-1))];rw [← hbq,← hwb];replace HC:=HC';try replace HX1:=HX1.ext hx
     try replace AF:=AF.ext hx
     try replace HM:=HM.ext hx
     clear hbq hwb hx HC' gp_b2;have mz24:=trivial;refine Qe HC ?_
    rotate_left)
  all_goals try
   (clear mz19
    refine Qh 3 ?_;go_wp2;obtain ⟨b1,wb,hbq,hwb,HX1,HC',hx,gp_b1⟩:=Qm HC 3 #[(.int .i64 (-1))];rw [← hbq,← hwb];replace HC:=HC';try replace HX2:=HX2.ext hx
    try replace AF:=AF.ext hx
    try replace HM:=HM.ext hx
    clear hbq hwb hx HC' gp_b1;have mz24:=trivial;refine Qe HC ?_)
  all_goals try
   (clear mz20
    refine Zd 13 16 ?_ ?_
    focus
     go_wp2;obtain ⟨bf,wb,hbq,hwb,HF,HC',hx,gp_bf⟩:=Qm HC 4 (Array.replicate ni (.bool false));rw [← hbq,← hwb];have AF : Qw wb 4 (some ⟨bf,0,none⟩) ni bf (fun _ => .bool false):=⟨fun _ => rfl,fun _ => ⟨_,HF,by simp,fun k hk => by simp [hk]⟩⟩;replace HC:=HC';try replace HX1:=HX1.ext hx
     try replace HX2:=HX2.ext hx
     try replace AO:=AO.ext hx
     try replace AI:=AI.ext hx
     clear hbq hwb hx HC' HF;have mz25:=trivial;refine Qe HC ?_
    rotate_left
    focus
     go_wp2;obtain ⟨bm,wb,hbq,hwb,HM,HC',hx,gp_bm⟩:=Qm HC 166 #[.pointer none];rw [← hbq,← hwb];replace HC:=HC';try replace HX1:=HX1.ext hx
     try replace HX2:=HX2.ext hx
     try replace AO:=AO.ext hx
     try replace AI:=AI.ext hx
     clear hbq hwb hx HC';have mz26:=trivial;refine Qe HC ?_
    rotate_left)
  all_goals try
   (clear mz21
    refine Zd 10 16 ?_ ?_
    focus
     have hz:=HC.size;go_wp2_with (go_at_call 126;refine zc (Uc ni b2 _ HX2.c1 HX2.lt hni) ?_;rintro e wc ⟨I,cI,bi,rfl,hj,hl_bi,AI⟩);have hne : 0 < no → 0 < ni → bo ≠ bi:=fun h _ => by have:=AO.lt h;omega
     try replace HX1:=HX1.ext hj
     try replace HX2:=HX2.ext hj
     try replace AO:=AO.ext hj
     try replace AF:=AF.ext hj
     replace HC:=HC.trans hj;replace hl_bi:=Nat.le_trans hz hl_bi;clear hj hz HX2;have mz25:=trivial;refine Qe HC ?_
    rotate_left
    focus
     go_wp2;obtain ⟨bm,wb,hbq,hwb,HM,HC',hx,gp_bm⟩:=Qm HC 166 #[.pointer none];rw [← hbq,← hwb];replace HC:=HC';try replace HX1:=HX1.ext hx
     try replace HX2:=HX2.ext hx
     try replace AO:=AO.ext hx
     try replace AF:=AF.ext hx
     clear hbq hwb hx HC';have mz27:=trivial;refine Qe HC ?_
    rotate_left)
  all_goals try
   (clear mz22
    refine Zd 10 13 ?_ ?_
    focus
     have hz:=HC.size;go_wp2_with (go_at_call 126;refine zc (Uc ni b2 _ HX2.c1 HX2.lt hni) ?_;rintro e wc ⟨I,cI,bi,rfl,hj,hl_bi,AI⟩);have hne : 0 < no → 0 < ni → bo ≠ bi:=fun h _ => by have:=AO.lt h;omega
     try replace HX1:=HX1.ext hj
     try replace HX2:=HX2.ext hj
     try replace AO:=AO.ext hj
     try replace HM:=HM.ext hj
     replace HC:=HC.trans hj;replace hl_bi:=Nat.le_trans hz hl_bi;clear hj hz HX2;have mz26:=trivial;refine Qe HC ?_
    rotate_left
    focus
     go_wp2;obtain ⟨bf,wb,hbq,hwb,HF,HC',hx,gp_bf⟩:=Qm HC 4 (Array.replicate ni (.bool false));rw [← hbq,← hwb];have AF : Qw wb 4 (some ⟨bf,0,none⟩) ni bf (fun _ => .bool false):=⟨fun _ => rfl,fun _ => ⟨_,HF,by simp,fun k hk => by simp [hk]⟩⟩;replace HC:=HC';try replace HX1:=HX1.ext hx
     try replace HX2:=HX2.ext hx
     try replace AO:=AO.ext hx
     try replace HM:=HM.ext hx
     clear hbq hwb hx HC' HF;have mz27:=trivial;refine Qe HC ?_
    rotate_left)
  all_goals try
   (clear mz23
    refine Qh 7 ?_;go_wp2;obtain ⟨b2,wb,hbq,hwb,HX2,HC',hx,gp_b2⟩:=Qm HC 3 #[(.int .i64 (-1))];rw [← hbq,← hwb];replace HC:=HC';try replace HX1:=HX1.ext hx
    try replace AO:=AO.ext hx
    try replace AF:=AF.ext hx
    try replace HM:=HM.ext hx
    clear hbq hwb hx HC' gp_b2;have mz27:=trivial;refine Qe HC ?_)
  all_goals try
   (clear mz24
    refine Qh 6 ?_;have hz:=HC.size;go_wp2_with (go_at_call 126;refine zc (Uc no b1 _ HX1.c1 HX1.lt hno) ?_;rintro e wc ⟨O,cO,bo,rfl,hj,hl_bo,AO⟩);try replace HX1:=HX1.ext hj
    try replace HX2:=HX2.ext hj
    try replace AF:=AF.ext hj
    try replace HM:=HM.ext hj
    replace HC:=HC.trans hj;replace hl_bo:=Nat.le_trans hz hl_bo;clear hj hz HX1;have mz27:=trivial;refine Qe HC ?_)
  all_goals try
   (clear mz25
    refine Qj (g:=3) [14] HC ?_
    constructor
    refine ⟨fun u hu => ?_,?_⟩
    ·exact Qi
    have mz28:=trivial)
  all_goals try
   (clear mz26
    refine Qh 13 ?_;go_wp2;obtain ⟨bf,wb,hbq,hwb,HF,HC',hx,gp_bf⟩:=Qm HC 4 (Array.replicate ni (.bool false));rw [← hbq,← hwb];have AF : Qw wb 4 (some ⟨bf,0,none⟩) ni bf (fun _ => .bool false):=⟨fun _ => rfl,fun _ => ⟨_,HF,by simp,fun k hk => by simp [hk]⟩⟩;replace HC:=HC';try replace HX1:=HX1.ext hx
    try replace HX2:=HX2.ext hx
    try replace AO:=AO.ext hx
    try replace AI:=AI.ext hx
    try replace HM:=HM.ext hx
    clear hbq hwb hx HC' HF;have mz29:=trivial;refine Qe HC ?_)
  all_goals try
   (clear mz27
    refine Qh 10 ?_;have hz:=HC.size;go_wp2_with (go_at_call 126;refine zc (Uc ni b2 _ HX2.c1 HX2.lt hni) ?_;rintro e wc ⟨I,cI,bi,rfl,hj,hl_bi,AI⟩);have hne : 0 < no → 0 < ni → bo ≠ bi:=fun h _ => by have:=AO.lt h;omega
    try replace HX1:=HX1.ext hj
    try replace HX2:=HX2.ext hj
    try replace AO:=AO.ext hj
    try replace AF:=AF.ext hj
    try replace HM:=HM.ext hj
    replace HC:=HC.trans hj;replace hl_bi:=Nat.le_trans hz hl_bi;clear hj hz HX2;have mz29:=trivial;refine Qe HC ?_)
  all_goals try
   (clear mz28
    refine Zd 15 16 ?_ ?_
    focus
     go_wp2;obtain ⟨bs,wb,hbq,hwb,HS,HC',hx,gp_bs⟩:=Qm HC 213 #[.slice Vo no co,.slice Vi ni ci,.slice Y no cY,.slice O no cO,.slice I ni cI,.slice (some ⟨bf,0,none⟩) ni ni,.nilFunc];rw [← hbq,← hwb];replace HC:=HC';try replace HX1:=HX1.ext hx
     try replace HX2:=HX2.ext hx
     try replace AO:=AO.ext hx
     try replace AI:=AI.ext hx
     try replace AF:=AF.ext hx
     clear hbq hwb hx HC';have mz30:=trivial;refine Qe HC ?_
    rotate_left
    focus
     go_wp2;obtain ⟨bm,wb,hbq,hwb,HM,HC',hx,gp_bm⟩:=Qm HC 166 #[.pointer none];rw [← hbq,← hwb];replace HC:=HC';try replace HX1:=HX1.ext hx
     try replace HX2:=HX2.ext hx
     try replace AO:=AO.ext hx
     try replace AI:=AI.ext hx
     try replace AF:=AF.ext hx
     clear hbq hwb hx HC';have mz31:=trivial;refine Qe HC ?_
    rotate_left)
  all_goals try
   (clear mz29
    refine Qj (g:=2) [14] HC ?_
    constructor
    refine ⟨fun u hu => ?_,?_⟩
    ·exact Qi
    have mz31:=trivial)
  all_goals try
   (clear mz30
    refine Qh 16 ?_;go_wp2;obtain ⟨bm,wb,hbq,hwb,HM,HC',hx,gp_bm⟩:=Qm HC 166 #[.pointer none];rw [← hbq,← hwb];replace HC:=HC';try replace HX1:=HX1.ext hx
    try replace HX2:=HX2.ext hx
    try replace AO:=AO.ext hx
    try replace AI:=AI.ext hx
    try replace AF:=AF.ext hx
    try replace HS:=HS.ext hx
    clear hbq hwb hx HC';have mz32:=trivial;refine Qe HC ?_)
  all_goals try
   (clear mz31
    refine Qh 15 ?_;go_wp2;obtain ⟨bs,wb,hbq,hwb,HS,HC',hx,gp_bs⟩:=Qm HC 213 #[.slice Vo no co,.slice Vi ni ci,.slice Y no cY,.slice O no cO,.slice I ni cI,.slice (some ⟨bf,0,none⟩) ni ni,.nilFunc];rw [← hbq,← hwb];replace HC:=HC';try replace HX1:=HX1.ext hx
    try replace HX2:=HX2.ext hx
    try replace AO:=AO.ext hx
    try replace AI:=AI.ext hx
    try replace AF:=AF.ext hx
    try replace HM:=HM.ext hx
    clear hbq hwb hx HC';have mz32:=trivial;refine Qe HC ?_)
  all_goals try
   (clear mz32
    refine Ql 17 ?_;have zm:=HM.frozen 0;have cm:=HM.c1;have lm:=HM.lt;go_wp2;have HS2:=Wg HS (Ne.symm (Xd HM HS zD)) 0 (.pointer (some ⟨bs,0,none⟩));have AO2:=AO.offM HM zD 0 (.pointer (some ⟨bs,0,none⟩));have AI2:=AI.offM HM zD 0 (.pointer (some ⟨bs,0,none⟩));have AF2:=AF.offM HM zD 0 (.pointer (some ⟨bs,0,none⟩));have HC2:=HC.setCell (p:=⟨bm,0,none⟩) gp_bm (.pointer (some ⟨bs,0,none⟩));have HM2:=K6 HM 0 (.pointer (some ⟨bs,0,none⟩));have mz33:=trivial;refine Qk ?_)
  all_goals try
   (clear mz33
    refine Qr ?_;exact Qe4 O cO I cI bo bi bf bs bm b1 b2 ⟨HC2,⟨HM2,HS2⟩,AO2,AI2,AF2,hne,hl_bo,hl_bi,gp_bf,gp_bs,gp_bm⟩ rfl)
 rintro O cO I cI bo bi bf bs bm b1 b2 w1 ⟨E,⟨HM,HS⟩,AO,AI,AF,hne,lo,li,lf,ls,lm⟩;have HC:=Qc.refl w1;have HS4:=HS.ext HC;have HM4:=HM.ext HC;have z6:=HS4.frozen 6;have m0:=HM4.c1;have ml:=HM4.lt;obtain ⟨s0,s1,s2,s3,s4,s5,s6,sl⟩:=Qa.d7 HS4;have HM5:=Wg HM4 (Xd HM4 HS4 zD) 6 (.func (.func 127) #[] #[.pointer (some ⟨bm,0,none⟩)]);have AO5:=(AO.ext HC).offM HS4 zD 6 (.func (.func 127) #[] #[.pointer (some ⟨bm,0,none⟩)]);have AI5:=(AI.ext HC).offM HS4 zD 6 (.func (.func 127) #[] #[.pointer (some ⟨bm,0,none⟩)]);have AF5:=(AF.ext HC).offM HS4 zD 6 (.func (.func 127) #[] #[.pointer (some ⟨bm,0,none⟩)]);have E5:=(E.trans HC).setCell (p:=⟨bs,6,none⟩) ls (.func (.func 127) #[] #[.pointer (some ⟨bm,0,none⟩)])
 have HS5:=K6 HS4 6 (.func (.func 127) #[] #[.pointer (some ⟨bm,0,none⟩)]);go_upto_region 3 with fail
 clear z6 m0 ml s0 s1 s2 s3 s4 s5 s6 sl HS4 HM4;generalize World.setCell _ _ _ = wq at *;have M0 : MS w wq bm bs (.slice Vo no co) (.slice Vi ni ci) (.slice Y no cY) O I (some ⟨bf,0,none⟩) no ni cO cI ni bo bi bf Ur (fun _ => false):=⟨E5,⟨HM5,HS5⟩,AO5,AI5,AF5,hne,fun _ => lo,fun _ => li,fun _ => lf⟩;clear E5 HM5 HS5 AO5 AI5 AF5 HM HS AO AI AF E HC;go_upto_region 4 with fail
 go_loopw [31] (fun iv wr => ∃ (i : Nat) (m : Mt),i ≤ no ∧ iv = .int .i64 i ∧ MS w wr bm bs (.slice Vo no co) (.slice Vi ni ci) (.slice Y no cY) O I (some ⟨bf,0,none⟩) no ni cO cI ni bo bi bf m (fun _ => false) ∧ Lm adj ni 0 (fun _ => false) i m ∧ Hid ((Yx adj ni (fun _ => false) (no - i) i m).1 = R)) (fun iv _ => no - (intOf iv).toNat)
 case atStart => exact ⟨0,Ur,Nat.zero_le _,rfl,M0,Qgj adj ni 0 _,hR⟩
 case round =>
  clear M0 hR;obtain ⟨i,m,hi,rfl,M,G,hR⟩:=hrel;obtain ⟨wo,rfl⟩:=Qf wr;by_cases hlt : i < no;rotate_left
  ·obtain rfl : i = no:=Qb
   have hRm : m = R:=by
    have h:=hR.out;rw [Nat.sub_self] at h;exact h
   subst hRm;clear hR G;have m0:=M.km.p.c1;have ml:=M.km.p.lt;go_wp2;go_ret;exact ⟨bm,bs,O,I,_,cO,cI,_,bo,bi,bf,rfl,ls,M⟩
  have hm : ∀ k,k < ni → 0 ≤ m.1 k → (m.1 k).toNat < no:=fun k hk h0 => by have:=(G.v.a k hk rfl h0).1;omega
  go_upto_region 6 with fail
  refine Qy 9 [8] (fun x => MS w x bm bs (.slice Vo no co) (.slice Vi ni ci) (.slice Y no cY) O I (some ⟨bf,0,none⟩) no ni cO cI ni bo bi bf m (fun _ => false)) mixed rfl ?_;intro vz hvz;have HC:=M.ext hvz;refine Qj (g:=2) [0,1,2,3,4,5,6] HC ?_
  constructor
  refine ⟨fun u hu => ?_,?_⟩
  ·have m0:=hu.km.p.c1;have ml:=hu.km.p.lt;obtain ⟨s0,s1,s2,s3,s4,s5,s6,sl⟩:=Qa.d7 hu.km.s;exact Qi
  refine Qh 7 ?_;have hz:=HC.e.size;go_wp2;obtain ⟨bn,wb,hbq,hwb,HN,_,hx,gp⟩:=Qm HC.e 4 (Array.replicate ni (.bool false));have hnf : 0 < ni → bn ≠ bf:=fun h => by have:=HC.f.lt h;omega
  have hln : 0 < ni → w.heap.size ≤ bn:=fun _ => gp
  rw [← hbq,← hwb];have AN : Qw wb 4 (some ⟨bn,0,none⟩) ni bn (fun _ => .bool false):=⟨fun _ => rfl,fun _ => ⟨_,HN,by simp,fun k hk => by simp [hk]⟩⟩;replace HC:=HC.ext hx;clear hz hbq hwb hx HN;refine Qe HC ?_;refine Ql 8 ?_;go_wp2_with (go_at_call 127;refine zc (Bb w bm bs (.slice Vo no co) (.slice Vi ni ci) (.slice Y no cY) O I (some ⟨bf,0,none⟩) no ni cO cI ni bo bi bf m (fun _ => false) hadj hY hm ni _ (fun _ => false) i _ _ bn hlt (Hi ni _) HC AN hnf hln) ?_;rintro e w3 ⟨rfl,M6,F6,sn3,N6,hb3⟩);clear AN N6 F6 hb3 sn3;refine Qk ?_;refine Qr ?_;have G2:=Qgi hadj (Nat.zero_le i) G
  have hR2 : Hid ((Yx adj ni (fun _ => false) (no - (i + 1)) (i + 1) ((Zl adj ni m (fun _ => false) i).1.getD m)).1 = R):=by
   have h:=hR.out;rw [show no - i = (no - (i + 1)) + 1 by omega,G2.2 (no - (i + 1))] at h;exact h
  replace M6 : MS w w3 bm bs (.slice Vo no co) (.slice Vi ni ci) (.slice Y no cY) O I (some ⟨bf,0,none⟩) no ni cO cI ni bo bi bf ((Zl adj ni m (fun _ => false) i).1.getD m) (fun _ => false):=M6;replace G2:=G2.1;clear hR hm G;go_wp2;exact ⟨⟨i + 1,_,Qb,by go_num,M6,G2,hR2⟩,zi⟩
end
end Go.Proofs.YtoflcheopfppoaaGreatDoor
