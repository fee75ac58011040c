/- The reference's search for a way, and how many pairs there are at most. -/
import Derived.Test.YtoflcheopfppoaaGreatDoorL14
import Derived.Test.YtoflcheopfppoaaGreatDoorL16
set_option maxRecDepth 100000
set_option maxHeartbeats 4000000
namespace Go.Proofs.YtoflcheopfppoaaGreatDoor
open Go Go.RowKit Go.Shelf
attribute [local go_sem] Z5
/-- Who may match whom, in memory. -/
def MayB (W : World) (vy : Value) (no ni : Nat) (my : Nat → Nat → Bool) : Prop:=∃ Y cap,∃ vs : Nat → Value,vy = .slice Y no cap ∧ Qp W Y no 1 (fun i => [vs i]) ∧ ∀ i,i < no → ∃ D cd,vs i = .slice D ni cd ∧ Qp W D ni 1 (fun k => [.bool (my i k)])
theorem MayB.ext {W W' : World} {vy : Value} {no ni : Nat} {my : Nat → Nat → Bool} (h : MayB W vy no ni my) (x : Qb W W') : MayB W' vy no ni my:=by
 obtain ⟨Y,cap,vs,e,h1,h2⟩:=h;refine ⟨Y,cap,vs,e,h1.ext x,fun i hi => ?_⟩;obtain ⟨D,cd,e,h3⟩:=h2 i hi;exact ⟨D,cd,e,h3.ext x⟩
structure PS (W0 W : World) (bp : Nat) (vy : Value) (O : Option Addr) (ni cO bo : Nat) (f : Nat → Int) : Prop where
 e : Qb W0 W
 p : Qa W bp 219 #[vy,.slice O ni cO]
 i : Qw W 3 O ni bo fun k => .int .i64 (f k)
 lo : 0 < ni → W0.heap.size ≤ bo
section
variable {W0 W W' : World} {bp : Nat} {vy : Value} {O : Option Addr} {ni cO bo : Nat} {f : Nat → Int}
theorem PS.ext (h : PS W0 W bp vy O ni cO bo f) (x : Qb W W') : PS W0 W' bp vy O ni cO bo f:=⟨h.e.trans x,h.p.ext x,h.i.ext x,h.lo⟩
theorem PS.setI (h : PS W0 W bp vy O ni cO bo f) {k : Nat} (hk : k < ni) (v : Int) : PS W0 (W.setCell ⟨bo,k,none⟩ (.int .i64 v)) bp vy O ni cO bo (Qk f k v):=by
 obtain ⟨cs,h1,_⟩:=h.i.h (by omega);refine ⟨h.e.setCell (p:=⟨bo,k,none⟩) (h.lo (by omega)) _,X8 h.p (Ne.symm (Yq h1 h.p (by decide))) _ _,(h.i.set hk _).congr fun x _ => ?_,h.lo⟩;by_cases e : x = k
 ·subst e;simp [Qk]
 ·simp [Qk,e]
theorem PS.setN (h : PS W0 W bp vy O ni cO bo f) {N : Option Addr} {bn k : Nat} {g : Nat → Value} (hN : Qw W 4 N ni bn g) (hk : k < ni) (hl : W0.heap.size ≤ bn) (u : Value) : PS W0 (W.setCell ⟨bn,k,none⟩ u) bp vy O ni cO bo f:=by
 obtain ⟨cs,h1,_⟩:=hN.h (by omega);exact ⟨h.e.setCell (p:=⟨bn,k,none⟩) hl _,X8 h.p (Ne.symm (Yq h1 h.p (by decide))) _ _,h.i.oth (fun hn => h.i.apart2 hN (by decide) hn (by omega)) _ _,h.lo⟩
end
theorem szB : (Tryz.prog.info? 4).map (·.size) = some 1:=by kernel_rfl
def cellsB (n : Nat) (tk : Nat → Bool) : List Value:=(List.range n).map fun k => .bool (tk k)
theorem cellsB_at {n j : Nat} {tk : Nat → Bool} (h : j < n) : (cellsB n tk)[j]? = some (.bool (tk j)):=by
 unfold cellsB;simp [h]
theorem copy_bools {w : World} {g n c : Nat} {src : Addr} {tk : Nat → Bool} (HG : Qa w g 4 (Array.replicate n (.bool false))) (hsrc : ∀ j,j < n → w.cell? (src.add j) = some (.bool (tk j))) :
  (Builtin.copy_ #[171,171] 3 #[.slice (some ⟨g,0,none⟩) n n,.slice (some src) n c]).run Tryz.prog w = .ok (.int .i64 (n : Int)) (w.setRow g (cellsB n tk).toArray):=by
 have hl : (cellsB n tk).length = n:=by simp [cellsB]
 have h:=run_copy_row (P:=Tryz.prog) w 171 171 3 4 g 0 n n src n c (Array.replicate n (.bool false)) 4 (cellsB n tk) Tryz.underlying171 szB HG (by rw [hl];simp) (fun j u hj => by
  obtain ⟨h1,_⟩:=List.getElem?_eq_some_iff.1 hj;rw [hl] at h1;rw [cellsB_at h1] at hj;rw [← Option.some.inj hj];exact hsrc j h1) (by rw [hl];simp) (fun u hu => by
  obtain ⟨i,_,rfl⟩:=List.mem_map.1 hu;rfl)
 rw [h];simp [goInt,hl]
set_option maxHeartbeats 20000000 in
theorem find_any {my : Nat → Nat → Bool} (W0 : World) (bp : Nat) (vy : Value) (O : Option Addr) (no ni cO bo : Nat) (m : Mt) (hY : MayB W0 vy no ni my) (hm : ∀ k,k < ni → 0 ≤ m.1 k → (m.1 k).toNat < no) (hni1 : ni ≤ 1000000) :
  ∀ (n : Nat) (W : World) (sn : Bl) (i : Nat) (N : Option Addr) (cN bn : Nat),i < no → Jn ni sn ≤ n → PS W0 W bp vy O ni cO bo m.1 → Qw W 4 N ni bn (fun x => .bool (sn x)) → (0 < ni → W0.heap.size ≤ bn) → Calls Tryz.prog 131 #[.pointer (some ⟨bp,0,none⟩),.int .i64 i,.slice N ni cN] W fun e W' => e = .returned (.bool (Q3 (Zp my ni) n m sn i).1.isSome) ∧ PS W0 W' bp vy O ni cO bo ((Q3 (Zp my ni) n m sn i).1.getD m).1 ∧ ∃ sn' : Bl,Qw W' 4 N ni bn (fun x => .bool (sn' x)) ∧ ∀ k,sn' k = (Q3 (Zp my ni) n m sn i).2 k:=by
 intro n
 induction n using Nat.strongRecOn with
 | _ n IH =>
 intro W sn i N cN bn hi hc hM hN hl;obtain ⟨Y,cY,vs,rfl,hYr,hYi⟩:=id hY;have hr0:=Ph (adj:=Zp my ni) (n:=n) (m:=m) (b:=sn) (i:=i) (Gm my ni i) hc;rw [Sv] at hr0;obtain ⟨R,hR⟩:=Qg (Q3 (Zp my ni) n m sn i);rw [← hR] at hr0 ⊢;replace hr0:=Lib.hid hr0.symm;clear hR;replace hc:=Lib.hid hc;have hno : 0 < no:=by omega
 obtain ⟨D,cD,hv,hDr⟩:=hYi i hi;obtain ⟨b,off,hYe,hb,hcc⟩:=hYr hno;subst hYe
 have c0 : W0.cell? ⟨b,off + i,none⟩ = some (.slice D ni cD):=by
  have:=hcc i 0 (vs i) hi rfl;rw [hv] at this
  simpa using this
 clear hcc hv hYr hYi
 go_enter Tryz.func131,Tryz.ntmps131
 go_upto_region 2 with (fail)
 go_loopw [7] (fun iv wr => ∃ (k : Nat) (sn' : Bl),k ≤ ni ∧ iv = .int .i64 k ∧ PS W0 wr bp (.slice (some ⟨b,off,none⟩) no cY) O ni cO bo m.1 ∧ Qw wr 4 N ni bn (fun x => .bool (sn' x)) ∧ Hid (Zy (Q3 (Zp my ni) (n - 1)) i (fl (my i) ni k) m sn' = R) ∧ Hid (Jn ni sn' ≤ n)) (fun iv _ => ni - (intOf iv).toNat)
 case atStart => exact ⟨0,sn,Nat.zero_le _,rfl,hM,hN,hr0,hc⟩
 case round =>
  clear hM hN hc hr0;obtain ⟨k,sn',hk,rfl,M,N1,hr,hc⟩:=hrel;obtain ⟨wo,rfl⟩:=Qg wr;obtain ⟨p0,p1⟩:=M.p.c2;have pl:=M.p.lt;by_cases hlt : k < ni;rotate_left
  ·obtain rfl : k = ni := by omega
   have hR : R = (none,sn'):=by
    have h:=hr.out;rw [Dq] at h;exact h.symm
   subst hR;clear hr hc IH;go_wp2;go_ret;exact ⟨rfl,M,sn',N1,fun _ => rfl⟩
  have hni0 : 0 < ni:=by omega
  have e0:=(M.e.cell (p:=⟨b,off + i,none⟩) hb).trans c0;have el:=Nat.lt_of_lt_of_le hb M.e.size;obtain ⟨bd,od,rfl,hbd,hcd⟩:=hDr hni0;have f0 : wo.cell? ⟨bd,od + k,none⟩ = some (.bool (my i k)):=(M.e.cell (p:=⟨bd,od + k,none⟩) hbd).trans (by simpa using hcd k 0 (.bool (my i k)) hlt rfl);have fl0:=Nat.lt_of_lt_of_le hbd M.e.size;clear hcd;have hNe:=N1.a hni0;have hIe:=M.i.a hni0;subst hNe;subst hIe;have n0:=N1.cell hlt;have nl:=N1.lt hni0;cases hmy : my i k
  ·rw [hmy] at f0
   have hr2 : Hid (Zy (Q3 (Zp my ni) (n - 1)) i (fl (my i) ni (k + 1)) m sn' = R):=by
    have h:=hr.out;rw [Dr hlt hmy] at h;exact h
   clear hr IH hmy;go_wp2;exact ⟨⟨k + 1,sn',by omega,by go_num,M,N1,hr2,hc⟩,by simp [intOf];omega⟩
  rw [hmy] at f0;have hdr:=Lib.hid (Ds hlt hmy);clear hmy;cases hs : sn' k
  rotate_left
  ·rw [hs] at n0
   have hr2 : Hid (Zy (Q3 (Zp my ni) (n - 1)) i (fl (my i) ni (k + 1)) m sn' = R):=by
    have h:=hr.out;rw [hdr.out,Gy hs] at h;exact h
   clear hr IH hs hdr;go_wp2;exact ⟨⟨k + 1,sn',by omega,by go_num,M,N1,hr2,hc⟩,by simp [intOf];omega⟩
  rw [hs] at n0;have nz:=N1.frozen hni0 k;go_upto_region 6 with (fail)
  have M2:=M.setN N1 hlt (hl hni0) (.bool true);have N2:=Gp N1 hlt true;generalize World.setCell _ _ _ = w2 at *;clear M N1 n0 nl nz e0 el f0 fl0 p0 p1 pl;have i0:=M2.i.cell hlt;have il:=M2.i.lt hni0;obtain ⟨p0,p1⟩:=M2.p.c2;have pl:=M2.p.lt;by_cases hmk : m.1 k < 0
  ·have hR : R = (some (Ys m k i),Qk sn' k true):=by
    have h:=hr.out;rw [hdr.out,Pc hs hmk] at h;exact h.symm
   subst hR;clear hr hc hdr IH hs;have hmb : decide (m.1 k < 0) = true:=decide_eq_true hmk;clear hmk;have fz:=M2.i.frozen hni0 k;go_wp2;have M3:=M2.setI hlt (i : Int);have N3:=N2.oth (fun hn => Ne.symm (M2.i.apart2 N2 (by decide) hni0 hn)) k (.int .i64 (i : Int));go_ret;exact ⟨rfl,M3,Qk sn' k true,N3,fun _ => rfl⟩
  have hmb : decide (m.1 k < 0) = false:=decide_eq_false hmk;obtain ⟨p,hp⟩ : ∃ p : Nat,m.1 k = p:=⟨(m.1 k).toNat,by omega⟩;have hpn : p < no:=by have:=hm k hlt (by omega);rw [hp] at this;simpa using this
  have hpt : (m.1 k).toNat = p:=by omega
  rw [hp] at i0 hmb;have hc1:=Nf (b:=sn') (k:=k) hs hlt;have hc2:=hc.out;have IHc:=fun v h1 h2 => IH (n - 1) (by omega) v (Qk sn' k true) p (some ⟨bn,0,none⟩) cN bn hpn (by omega) h1 h2 hl
  have hq : ∀ x,sn' x = true → (Q3 (Zp my ni) (n - 1) m (Qk sn' k true) p).2 x = true:=fun x hx => by
   refine Va (Zp my ni) (n - 1) m _ p x ?_;by_cases e : x = k
   ·rw [e,Z4]
   ·rw [Zl _ _ e];exact hx
  have hqe : Q3 (Zp my ni) (n - 1) m (Qk sn' k true) (m.1 k).toNat = Q3 (Zp my ni) (n - 1) m (Qk sn' k true) p:=by rw [hpt]
  generalize Q3 (Zp my ni) (n - 1) m (Qk sn' k true) p = Q at *;obtain ⟨ro,b2⟩:=Q;clear hc1 hc2 IH;replace hmk:=Lib.hid hmk;replace hp:=Lib.hid hp;replace hpt:=Lib.hid hpt;replace hq:=Lib.hid hq;replace hqe:=Lib.hid hqe;replace hs:=Lib.hid hs
  cases ro with
  | none =>
   simp only [Option.isSome,Option.getD] at IHc;go_upto_region 6 with (fail)
   go_wp2_with (go_at_call 131;(with_reducible refine Calls.mono (IHc _ M2 N2) ?_);rintro e w3 ⟨rfl,M6,sn3,N6,hb3⟩)
   have hr2 : Hid (Zy (Q3 (Zp my ni) (n - 1)) i (fl (my i) ni (k + 1)) m sn3 = R):=by
    have h:=hr.out;rw [hdr.out,Pe hs.out (Int.not_lt.2 (by have:=hp.out;omega)) hqe.out] at h;rw [show sn3 = b2 from funext hb3];exact h
   have hc3 : Hid (Jn ni sn3 ≤ n):=by
    rw [show sn3 = b2 from funext hb3];exact Nat.le_trans (Nc hq.out ni) hc.out
   exact ⟨⟨k + 1,sn3,by omega,by go_num,M6,N6,hr2,hc3⟩,by simp [intOf];omega⟩
  | some m1 =>
   simp only [Option.isSome,Option.getD] at IHc
   have hR : R = (some (Ys m1 k i),b2):=by
    have h:=hr.out;rw [hdr.out,Pf hs.out (Int.not_lt.2 (by have:=hp.out;omega)) hqe.out] at h;exact h.symm
   subst hR;go_upto_region 7 with (go_at_call 131;(with_reducible refine Calls.mono (IHc _ M2 N2) ?_);rintro e w3 ⟨rfl,M6,sn3,N6,hb3⟩)
   clear hr hc hdr hq hqe M2 N2 p0 p1 pl i0 il IHc;obtain ⟨p0,p1⟩:=M6.p.c2;have pl:=M6.p.lt;have i0:=M6.i.cell hlt;have il:=M6.i.lt hni0;have fz:=M6.i.frozen hni0 k;go_wp2;have M7:=M6.setI hlt (i : Int);have N7:=N6.oth (fun hn => Ne.symm (M6.i.apart2 N6 (by decide) hni0 hn)) k (.int .i64 (i : Int));go_ret;exact ⟨rfl,M7,sn3,N7,hb3⟩
set_option maxHeartbeats 20000000 in
theorem most_any {my : Nat → Nat → Bool} (w : World) (vy : Value) (no ni cT bt fr : Nat) (tk : Bl) (hY : MayB w vy no ni my) (hT : Qw w 4 (some ⟨bt,0,none⟩) ni bt (fun x => .bool (tk x))) (hni1 : ni ≤ 1000000) (hno1 : no ≤ 1000000) (hfr : fr ≤ no) :
  Calls Tryz.prog 85 #[vy,.int .i64 fr,.slice (some ⟨bt,0,none⟩) ni cT] w fun e w' => e = .returned (.int .i64 ((Zo (Zp my ni) ni tk (no - fr) fr Z8).2 : Nat)) ∧ Qb w w':=by
 obtain ⟨i0,hi0,hz0,hz1,hz2⟩:=info_parts Ly;obtain ⟨Y,cY,vs,hvy,_,_⟩:=id hY;subst hvy;have hmk:=fun w => Oc ni hni1 w
 have hadj:=Gm my ni;obtain ⟨RES,hRES⟩:=Qg ((Zo (Zp my ni) ni tk (no - fr) fr Z8).2);rw [← hRES];replace hRES:=Lib.hid hRES
 go_enter Tryz.func85,Tryz.ntmps85
 go_upto_region 4 with (fail)
 obtain ⟨v,hv⟩:=Qg (w.alloc (.cells #[.slice Y no cY,.slice none 0 0] 219));rw [← hv];have E : Qb w v:=by rw [hv];exact (Qb.refl _).alloc _
 have B1 : Qa v w.heap.size 219 #[.slice Y no cY,.slice none 0 0]:=by rw [hv];exact Qa.new _ _ _
 clear hv;obtain ⟨bp,hbp⟩:=Qg (w.heap.size);rw [← hbp] at B1 ⊢;have hbr : w.heap.size ≤ bp:=by omega
 clear hbp
 go_loopw [9] (fun kv wr => ∃ (k : Nat) (O : Option Addr) (cO : Nat),k ≤ ni ∧ kv = .int .i64 k ∧ Qb w wr ∧ Qa wr bp 219 #[.slice Y no cY,.slice O k cO] ∧ wr.ownsRow w.heap.size 3 1 (.slice O k cO) k (List.replicate k (.int .i64 (-1)))) (fun kv _ => ni - (intOf kv).toNat)
 case atStart => exact ⟨0,none,0,Nat.zero_le _,rfl,E,B1,⟨rfl,.inl ⟨rfl,rfl⟩⟩⟩
 case round =>
  clear E B1;obtain ⟨k,O,cO,hk,rfl,E,B1,HO⟩:=hrel;obtain ⟨wo,rfl⟩:=Qg wr;obtain ⟨p0,p1⟩:=B1.c2;have pl:=B1.lt;by_cases hlt : k < ni
  ·go_upto_region 6 with (fail)
   have x1 : Qb wo (wo.alloc (.cells #[.int .i64 (-1)] 3)):=(Qb.refl wo).alloc _;have HO2:=Jo HO x1;have E2:=E.trans x1;have B2:=B1.ext x1;go_wp2_with (at_builtin;refine wpList_append_own_at _ rfl _ _ 125 rfl w.heap.size 3 i0 (.int .i64 0) 1 8 Tryz.underlying125 hi0 hz0 hz1 hz2 rfl (by decide) _ _ _ rfl HO2 ⟨wo.heap.size,0,none⟩ 1 1 [.int .i64 (-1)] rfl rfl (Uc (Qa.new _ _ _)) (by simp [Value.oneCell']) (by unfold maxLen;omega) (by omega) E2.size ?_;intro vn wn hown hgrow _ hob;obtain ⟨Fn,mn,rfl⟩:=Ya hown;have B3:=B2.kept hgrow (B2.not_row (by decide) HO2);have fz:=B3.frozen 1;have bl:=B3.lt;obtain ⟨p0,p1⟩:=B3.c2);have E3:=(E2.grown hgrow (fun q hq => (W4 HO2 q hq).1)).setCell (p:=⟨bp,1,none⟩) hbr (.slice Fn (k + 1) mn)
   have B4 : Qa (wn.setCell ⟨bp,1,none⟩ (.slice Fn (k + 1) mn)) bp 219 #[.slice Y no cY,.slice Fn (k + 1) mn]:=by
    have:=Kt B3 1 (.slice Fn (k + 1) mn)
    simpa using this
   have O4:=Z9 B3 (by decide) hown 1 (.slice Fn (k + 1) mn);rw [← List.replicate_succ'] at O4;exact ⟨⟨k + 1,Fn,mn,by omega,by go_num,E3,B4,O4⟩,by simp [intOf];omega⟩
  obtain rfl : k = ni:=by omega
  obtain ⟨A0,cap0,bo,hve,hbo,hbl,HA⟩:=Mw (g:=fun _ => .int .i64 (-1)) HO (fun j hj => by simp [hj]);injection hve with q1 q2 q3
  subst q1;subst q3;have P0 : PS w wo bp (.slice Y no cY) O k cO bo Z8.1:=⟨E,B1,HA,fun _ => hbo⟩;clear HO HA B1 E p0 p1 pl hbl;have hG0:=Lw (Zp my k) k fr tk;have hres0 : Hid (0 + (Zo (Zp my k) k tk (no - fr) fr Z8).2 = RES):=Lib.hid (by rw [hRES.out,Nat.zero_add]);clear hRES;go_upto_region 8 with (fail)
  go_loopw [7,10] (fun cv iv wr => ∃ (s cnt : Nat) (m : Mt),cnt ≤ s ∧ fr ≤ s ∧ s ≤ no ∧ iv = .int .i64 s ∧ cv = .int .i64 cnt ∧ PS w wr bp (.slice Y no cY) O k cO bo m.1 ∧ Up (Zp my k) k fr tk s m ∧ Hid (cnt + (Zo (Zp my k) k tk (no - s) s m).2 = RES)) (fun _ iv _ => no - (intOf iv).toNat)
  case atStart => exact ⟨fr,0,Z8,Nat.zero_le _,Nat.le_refl _,hfr,rfl,rfl,P0,hG0,hres0⟩
  case round =>
   clear P0 hG0 hres0;obtain ⟨s,cnt,m,hcs,hs1,hs2,rfl,rfl,M,hG,hres⟩:=hrel;obtain ⟨wo,rfl⟩:=Qg wr;by_cases hlt : s < no;rotate_left
   ·obtain rfl : s = no := by omega
    have e : cnt = RES:=by
     have h:=hres.out;rw [Nat.sub_self] at h;exact h
    subst e;clear hres;go_wp2;go_ret;exact ⟨rfl,M.e⟩
   go_upto_region 11 with (fail)
   obtain ⟨wx,hwx⟩:=Qg (wo.alloc (.cells (Array.replicate k (.bool false)) 4));rw [← hwx];have HG : Qa wx wo.heap.size 4 (Array.replicate k (.bool false)):=by rw [hwx];exact Qa.new _ _ _
   have x1 : Qb wo wx:=by rw [hwx];exact (Qb.refl wo).alloc _
   have hge:=M.e.size;have M2:=M.ext x1;generalize wo.heap.size = g at *;clear hwx x1 M
   have hcp:=copy_bools (c:=cT) (src:=⟨bt,0,none⟩) (tk:=tk) HG (fun j hj => by
    rw [Addr.add_lit,Nat.zero_add];exact (M2.e.cell (p:=⟨bt,j,none⟩) (hT.lt (by omega))).trans (hT.cell hj))
   go_upto_region 12 with (fail)
   have HG2:=setRow_heap wx g _ (cellsB k tk).toArray 4 _ HG;have E2 : Qb w (wx.setRow g (cellsB k tk).toArray):=below_setRow M2.e hge _;have B2 : Qa (wx.setRow g (cellsB k tk).toArray) bp 219 #[.slice Y no cY,.slice O k cO]:=(setRow_other wx g bp _ (Ne.symm (Yq HG M2.p (by decide)))).trans M2.p
   have A2 : Qw (wx.setRow g (cellsB k tk).toArray) 3 O k bo (fun x => .int .i64 (m.1 x)):=⟨M2.i.a,fun hn => by
    obtain ⟨cs,h1,h2⟩:=M2.i.h hn;exact ⟨cs,(setRow_other wx g bo _ (Ne.symm (Yq HG h1 (by decide)))).trans h1,h2⟩⟩
   generalize wx.setRow g (cellsB k tk).toArray = w2 at *;have M3 : PS w w2 bp (.slice Y no cY) O k cO bo m.1:=⟨E2,B2,A2,M2.lo⟩;have N3 : Qw w2 4 (some ⟨g,0,none⟩) k g (fun x => .bool (tk x)):=⟨fun _ => rfl,fun _ => ⟨_,HG2,by simp [cellsB],fun j hj => by rw [List.getElem?_toArray];exact cellsB_at hj⟩⟩;clear hcp HG HG2 E2 B2 A2 M2;have NF:=find_any w bp (.slice Y no cY) O no k cO bo m hY (Dv hG hs2) hni1 k w2 tk s (some ⟨g,0,none⟩) k g hlt (Ko k tk) M3 N3 (fun _ => hge);have hG2:=(F9 hadj hs1 hG).1;have hsub : no - s = (no - (s + 1)) + 1:=by omega
   have hcl:=Np (adj:=Zp my k) (ni:=k) (fx:=tk) (no - s) s m
   cases ha : (Q3 (Zp my k) k m tk s).1 with
   | none =>
    rw [ha] at NF hG2;simp only [Option.isSome,Option.getD] at NF hG2
    have hres2 : Hid (cnt + (Zo (Zp my k) k tk (no - (s + 1)) (s + 1) m).2 = RES):=by
     have h:=hres.out;rw [hsub,Dw ha] at h;exact h
    clear hres ha hsub hcl;go_wp2_with (go_at_call 131;(with_reducible refine Calls.mono NF ?_);rintro e w3 ⟨rfl,M6,_⟩)
    exact ⟨⟨s + 1,cnt,m,by omega,by omega,by omega,by go_num,rfl,M6,hG2,hres2⟩,by simp [intOf];omega⟩
   | some m' =>
    rw [ha] at NF hG2;simp only [Option.isSome,Option.getD] at NF hG2
    have hres2 : Hid (cnt + 1 + (Zo (Zp my k) k tk (no - (s + 1)) (s + 1) m').2 = RES):=by
     have h:=hres.out;rw [hsub,Dx ha] at h;rw [← h];unfold Hid;omega
    clear hres ha hsub hcl;go_wp2_with (go_at_call 131;(with_reducible refine Calls.mono NF ?_);rintro e w3 ⟨rfl,M6,_⟩);exact ⟨⟨s + 1,cnt + 1,m',by omega,by omega,by omega,by go_num,by go_num,M6,hG2,hres2⟩,by simp [intOf];omega⟩
end Go.Proofs.YtoflcheopfppoaaGreatDoor