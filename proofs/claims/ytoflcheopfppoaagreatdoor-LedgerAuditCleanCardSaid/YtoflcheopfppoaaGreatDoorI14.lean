/- Walks of the program's functions and plain facts, packed; proved: the lemmas below; no conditions but those that each states. -/
import Derived.Test.YtoflcheopfppoaaGreatDoorI9
import Derived.Test.YtoflcheopfppoaaGreatDoorI8
import Derived.Test.YtoflcheopfppoaaGreatDoorI1
import Derived.Test.YtoflcheopfppoaaGreatDoorI5
set_option maxRecDepth 100000
set_option maxHeartbeats 4000000
namespace Go.Proofs.YtoflcheopfppoaaGreatDoor
section
open Go Go.RowKit Go.Shelf
attribute [local go_sem] Zx
theorem Qet {c : Qd} {l : List Pd} (h : c.archE l = 0) : c.valid = true ∧ l.length ≤ 32 ∧ ∀ k,k < l.length → c.perOk (l.getD k Qh) = true:=by
 unfold Qd.archE at h;cases hv : c.valid
 ·unfold Qd.chk at h;rw [hv] at h;simp at h
 ·have hck : c.chk = 0 := by unfold Qd.chk; rw [hv]; rfl
  rw [if_neg (by rw [hck];decide)] at h
  split at h
  ·exact absurd h (by decide)
  ·rename_i hl
   refine ⟨rfl,by omega,fun k hk => ?_⟩;unfold Qd.persE at h
   split at h
   ·rename_i ha
    have:=List.all_eq_true.1 ha (l.getD k Qh) (by rw [List.getD_eq_getElem?_getD,List.getElem?_eq_getElem hk];exact List.getElem_mem hk);exact this
   ·exact absurd h (by decide)
/-- What the loop of Carry has made: k periods, the last one, and that what is left makes the whole. -/
structure Y5 (c : Qd) (l : List Pd) (R : List Pd × Int) (L : List Pd) (k : Nat) : Prop where
 len : L.length = k
 run : R = Wm L (c.carR L.getLast? (l.drop k))
 same : ∀ q,L.getLast? = some q → q.h = (l.getD (k - 1) Qh).h ∧ q.b = (l.getD (k - 1) Qh).b
 cl : ∀ i,i < k → (L.getD i Qh).c.length ≤ 64
theorem Y5.zero (c : Qd) (l : List Pd) : Y5 c l (c.carR none l) [] 0:=⟨rfl,(Qfy).symm,fun q h => (by cases h),fun i h => absurd h Qa⟩
section
variable {c : Qd} {l : List Pd} {R : List Pd × Int} {L : List Pd} {k : Nat}
theorem Sq {l : List Pd} {k : Nat} (hk : k < l.length) : l.drop k = l.getD k Qh :: l.drop (k + 1):=by
 rw [List.drop_eq_getElem_cons hk,List.getD_eq_getElem?_getD,List.getElem?_eq_getElem hk];rfl
theorem Y5.done (h : Y5 c l R L l.length) : R = (L,0):=by
 rw [h.run,List.drop_length];exact Qfx
theorem Y5.any (h : Y5 c l R L k) (h0 : 0 < k) : (L.getLast?.any fun q => !c.behV q (l.getD k Qh)) = !c.behV (l.getD (k - 1) Qh) (l.getD k Qh):=by
 cases hq : L.getLast? with
 | none => rw [List.getLast?_eq_none_iff] at hq;subst hq;have:=h.len;simp at this;omega
 | some q =>
  obtain ⟨h1,h2⟩:=h.same q hq;simp only [Option.any_some,Qd.behV,h1,h2]
theorem Y5.follow (h : Y5 c l R L k) (hk : k < l.length) (hb : (L.getLast?.any fun q => !c.behV q (l.getD k Qh)) = true) : R = ([],84):=by
 rw [h.run,Sq hk];exact Qfw hb
theorem Y5.sum (h : Y5 c l R L k) (hk : k < l.length) (hb : (L.getLast?.any fun q => !c.behV q (l.getD k Qh)) = false) {e : Int} (he : (Qz (L.getLast?.elim (l.getD k Qh).o (·.c)) (l.getD k Qh).d).2 = e) (h0 : e ≠ 0) : R = ([],e):=by
 rw [h.run,Sq hk,← he];exact Qf0 hb (by rw [he];exact h0)
theorem Y5.step (h : Y5 c l R L k) (hk : k < l.length) (hb : (L.getLast?.any fun q => !c.behV q (l.getD k Qh)) = false) (he : (Qz (L.getLast?.elim (l.getD k Qh).o (·.c)) (l.getD k Qh).d).2 = 0) (hs : (Qz (L.getLast?.elim (l.getD k Qh).o (·.c)) (l.getD k Qh).d).1.length ≤ 64) :
  Y5 c l R (L ++ [Yg L.getLast? (l.getD k Qh)]) (k + 1):=by
 refine ⟨by simp [h.len],?_,fun q hq => ?_,fun i hi => ?_⟩
 ·rw [h.run,Sq hk,Qfz hb he];simp
 ·simp at hq;subst hq;exact ⟨rfl,rfl⟩
 ·by_cases e : i = k
  ·subst e;rw [← h.len] at *;simp [List.getD_eq_getElem?_getD];exact hs
  ·have hi' : i < L.length := by rw [h.len]; omega
   have:=h.cl i Qa
   simpa [List.getD_eq_getElem?_getD,List.getElem?_append_left hi'] using this
theorem Y5.last (h : Y5 c l R L k) (h0 : 0 < k) : L.getLast?.elim (l.getD k Qh).o (·.c) = (L.getD (k - 1) Qh).c:=by
 have hl:=h.len;simp only [List.getLast?_eq_getElem?,hl,List.getD_eq_getElem?_getD];rw [List.getElem?_eq_getElem (show k - 1 < L.length by omega)];rfl
end
theorem Fq (w : World) : Js w (.slice none 0 0) []:=⟨none,0,fun _ => .slice none 0 0,fun _ => .slice none 0 0,fun _ => .slice none 0 0,rfl,Qs.nil,Nat.le_refl _,Nat.zero_le _,fun _ => ⟨rfl,rfl⟩,fun i h => absurd h (by simp)⟩
theorem Qb3 {W w1 : World} {b k : Nat} {v v' uo ud uc : Value} {g0 g : Nat → Pd} {vo vd vc : Nat → Value} {ob : Obj} (e : ∀ i,i < k → g0 i = g i) (hO : W.ownsRow b 55 12 v k (Q0 (fun i => Qq (g0 i) (vo i) (vd i) (vc i)) k)) (hL : ∀ i,i < k → Yf W b (g0 i) (vo i) (vd i) (vc i)) (hl : Yf W b (g k) uo ud uc)
  (hown : w1.ownsRow b 55 12 v' (k + 1) (Q0 (fun i => Qq (g0 i) (vo i) (vd i) (vc i)) k ++ Qq (g k) uo ud uc)) (hgrow : (W.alloc ob).grownBy w1 v.ownBlock) : Wk w1 b v' (k + 1) g:=by
 have ef : Q0 (fun i => Qq (g0 i) (vo i) (vd i) (vc i)) k = Q0 (fun i => Qq (g i) (vo i) (vd i) (vc i)) k:=Vj k (fun i hi => by rw [e i hi]);rw [ef] at hO hown;exact Ql2 hO (fun i hi => by rw [← e i hi];exact hL i hi) hl hown hgrow
theorem Qab {L : List Pd} {x : Pd} {k : Nat} (h : L.length = k) : (∀ i,i < k → L.getD i Qh = (L ++ [x]).getD i Qh) ∧ (L ++ [x]).getD k Qh = x:=by
 subst h;refine ⟨fun i hi => ?_,?_⟩
 ·simp [List.getD_eq_getElem?_getD,List.getElem?_append_left hi]
 ·simp [List.getD_eq_getElem?_getD]
theorem Cy (A A' : Option Addr) (ca cb : Nat) (c : Qd) (l : List Pd) (v : Value) (w : World) (hC : Zg w A ca A' cb c) (hP : Js w v l) :
  Calls Tryz.prog 16 #[.agg #[.slice A c.nk ca,.slice A' c.ny cb],v] w fun e w' => ∃ v',e = .returned (.tuple #[v',.int .i64 (c.carryV l).2]) ∧ Qb w w' ∧ Js w' v' (c.carryV l).1:=by
 obtain ⟨i0,hi,hz0,hz1,hz2⟩:=info_parts S8;obtain ⟨D,cap,vo,vd,vc,rfl,hD,hcap,hmax,_,hat0⟩:=id hP;have hn : l.length ≤ 9223372036854775807:=Nat.le_trans hcap (Nat.le_trans hmax (by decide));have NV:=fun w h1 h2 => Bw A A' ca cb c (.slice D l.length cap) l w h1 h2
 obtain ⟨pe,hpe⟩:=Qf (c.archE l);simp only [← hpe] at NV;replace hpe:=Lib.hid hpe;obtain ⟨R,hR0⟩:=Qf (c.carryV l);rw [← hR0];have HR:=Lib.hid hR0;clear hR0;have hat:=Lib.hid hat0;clear hat0 hcap hmax
 go_enter Tryz.func16,Tryz.ntmps16
 go_upto_region 1 with (fail)
 obtain ⟨v,b1,E,B1,hbr,hv,hb1⟩:=Yi w 25 #[.slice A c.nk ca,.slice A' c.ny cb];rw [← hv,← hb1];clear hv hb1;have C:=hC.ext E;clear hC;obtain ⟨k0,k1⟩:=B1.c2;have kl:=B1.lt;go_upto_region 2 with (go_at_call 58;(with_reducible refine zc (NV _ C (hP.ext E)) ?_);rintro e w1 ⟨rfl,hx⟩;replace E:=E.trans hx;replace C:=C.ext hx;replace B1:=B1.ext hx;clear hx;clear k0 k1 kl;obtain ⟨k0,k1⟩:=B1.c2;have kl:=B1.lt)
 obtain ⟨vb1,hv⟩:=Qf (w1.alloc (.cells #[.slice A c.nk ca,.slice A' c.ny cb] 130));rw [← hv];have hx : Qb w1 vb1:=by rw [hv];exact (Qb.refl _).alloc _
 have B6 : Qc vb1 w1.heap.size 130 #[.slice A c.nk ca,.slice A' c.ny cb]:=by rw [hv];exact Qc.new _ _ _
 clear hv;generalize w1.heap.size = bb1 at *;clear k0 k1 kl;replace E:=E.trans hx;replace C:=C.ext hx;replace B1:=B1.ext hx;clear hx;obtain ⟨k0,k1⟩:=B1.c2;have kl:=B1.lt;obtain ⟨q0,q1⟩:=B6.c2;have ql:=B6.lt;clear NV;by_cases e0 : pe = 0;rotate_left
 ·have g0 : (pe == 0) = false := beq_eq_false_iff_ne.2 e0;have g0n : (pe != 0) = true := by rw [bne, g0]; rfl
  obtain rfl : R = ([],pe):=by rw [HR.out];unfold Qd.carryV;rw [← hpe.out];exact if_pos e0
  clear HR e0 hpe;go_wp2;go_ret2;exact ⟨_,rfl,E,Fq _⟩
 subst e0;obtain ⟨hv,h32,hall⟩:=Qet hpe.out.symm;have hside : Hid (∀ k,k < l.length → Kj c (l.getD k Qh)):=fun k hk => pdOk (hall k hk)
 have J0 : Hid (Y5 c l R [] 0):=by
  have h : R = c.carR none l:=by rw [HR.out];unfold Qd.carryV;rw [← hpe.out];exact if_neg (by simp)
  rw [h];exact Y5.zero c l
 clear HR hpe hall;go_upto_region 6 with (fail)
 go_loopw [8,25] (fun ov iv wr => ∃ (k : Nat) (L : List Pd),k ≤ l.length ∧ iv = .int .i64 k ∧ Wk wr vb1.heap.size ov k (fun i => L.getD i Qh) ∧ Hid (Y5 c l R L k) ∧ Qb vb1 wr) (fun _ i _ => l.length - (intOf i).toNat)
 case atStart => exact ⟨0,[],Nat.zero_le _,rfl,Ql1 _ _ _,J0,Qb.refl _⟩
 case round =>
  clear J0;obtain ⟨k,L,hk,rfl,⟨ro,rd,rc,hO,hLo0⟩,hJ,hE⟩:=hrel;have hLo:=Lib.hid hLo0;clear hLo0;obtain ⟨wo,rfl⟩:=Qf wr;obtain ⟨FO,mO,rfl⟩:=Jt hO;clear k0 k1 kl q0 q1 ql;have C2:=C.ext hE;have Q6:=B6.ext hE;by_cases hlt : k < l.length
  ·obtain ⟨b,off,rfl,hb,hc⟩:=(hD.ext (E.trans hE)) Qa;obtain ⟨c0,c1,c2,c3,c4,c5,c6,c7,c8,c9,c10,c11⟩:=Hy hc hlt;clear hc;have P1:=(hat.out k hlt).ext (E.trans hE);have hok:=hside.out k hlt;obtain ⟨G,hG⟩:=Qf (l.getD k Qh);rw [← hG] at P1 hok c0 c1 c2 c3 c4 c5 c6 c7 c8;replace hG:=Lib.hid hG;have hlo:=hok.o;have hld:=hok.d;have hll : Hid (∀ i,i < G.d.length → (G.d.getD i Qw).l.length ≤ 1000000):=fun i hi => Nat.le_trans (hok.l i hi) (by decide)
   clear hok;generalize vo k = v1 at *;generalize vd k = v2 at *;generalize vc k = v3 at *;obtain ⟨t1,s1,e1,_⟩:=id P1.o;subst e1;obtain ⟨t2,s2,_,e2,_⟩:=id P1.d;subst e2;obtain ⟨t3,s3,e3,_⟩:=id P1.c;subst e3;have NCO:=fun w h => Ob (.slice t1 G.o.length s1) G.o w h Qa
   have NT:=fun w h => Qgu (.slice t2 G.d.length s2) G.d w h Qa hll.out
   go_upto_region 8 with (fail)
   obtain ⟨w2,hv⟩:=Qf (wo.alloc (.cells #[.string G.h,.int .i64 G.a.y,.int .i64 G.a.m,.bool G.a.s,.int .i64 G.a.d,.int .i64 G.b.y,.int .i64 G.b.m,.bool G.b.s,.int .i64 G.b.d,.slice t1 G.o.length s1,.slice t2 G.d.length s2,.slice t3 G.c.length s3] 55));rw [← hv];have h2 : Qb wo w2:=by rw [hv];exact (Qb.refl _).alloc _
   have BP : Qc w2 wo.heap.size 55 #[.string G.h,.int .i64 G.a.y,.int .i64 G.a.m,.bool G.a.s,.int .i64 G.a.d,.int .i64 G.b.y,.int .i64 G.b.m,.bool G.b.s,.int .i64 G.b.d,.slice t1 G.o.length s1,.slice t2 G.d.length s2,.slice t3 G.c.length s3]:=by rw [hv];exact Qc.new _ _ _
   clear hv;generalize wo.heap.size = bp at *;clear c0 c1 c2 c3 c4 c5 c6 c7 c8 c9 c10 c11;obtain ⟨p0,p1,p2,p3,p4,p5,p6,p7,p8,p9,p10,p11⟩:=BP.c12;have pl:=BP.lt;go_upto_region 9 with (go_at_call 59;(with_reducible refine zc (NCO _ (P1.o.ext h2)) ?_);rintro e w3 ⟨v1,rfl,h3,S1⟩;obtain ⟨F1,m1,rfl⟩:=Jt S1;clear p0 p1 p2 p3 p4 p5 p6 p7 p8 p9 p10 p11 pl)
   have HE:=(hE.trans h2).trans h3;have BP3:=BP.ext h3;have X3:=h2.trans h3;clear NCO;by_cases h0 : 0 < k;rotate_left
   ·have hk0 : k = 0 := by omega
    have hLn : L.getLast? = none:=by
     have:=hJ.out.len;rw [hk0] at this;rw [List.length_eq_zero_iff.1 this];rfl
    have hq : (L.getLast?.any fun q => !c.behV q (l.getD k Qh)) = false:=by rw [hLn];rfl
    have hel : L.getLast?.elim (l.getD k Qh).o (·.c) = G.o:=by rw [hLn,hG.out];rfl
    clear hk0 hLn;replace hq:=Lib.hid hq;replace hel:=Lib.hid hel;have NB:=fun w h1 h2 => Tq (.slice F1 G.o.length m1) (.slice t2 G.d.length s2) G.o G.d w h1 h2 Qa
    have hsl : (Qz G.o G.d).1.length ≤ 64:=Du _ _ Qa;obtain ⟨SV,hSV⟩:=Qf (Qz G.o G.d);rw [← hSV] at hsl;simp only [← hSV] at NB;replace hSV:=Lib.hid hSV;obtain ⟨S,se⟩:=SV
    simp only at NB hsl
    have BPc:=BP3;obtain ⟨p0,p1,p2,p3,p4,p5,p6,p7,p8,p9,p10,p11⟩:=Qc.c12 BPc;have pl:=Qc.lt BPc;have LA:=Wz S1;go_upto_region 14 with (go_at_call 61;(with_reducible refine zc (NB _ LA (P1.d.ext X3)) ?_);rintro e w6 ⟨vr,rfl,h6,SR⟩;obtain ⟨FR,mR,rfl⟩:=Jt SR)
    clear NB LA p0 p1 p2 p3 p4 p5 p6 p7 p8 p9 p10 p11 pl;have hs2 : (Qz (L.getLast?.elim (l.getD k Qh).o (·.c)) (l.getD k Qh).d) = (S,se):=by rw [hel.out,← hG.out];exact hSV.out.symm
    by_cases es : se = 0;rotate_left
    ·have g0 : (se == 0) = false := beq_eq_false_iff_ne.2 es;have g0n : (se != 0) = true := by rw [bne, g0]; rfl
     obtain rfl:=hJ.out.sum hlt hq.out (by rw [hs2]) es;clear hs2 hSV es;go_wp2;go_ret2;exact ⟨_,rfl,(E.trans (hE.trans X3)).trans h6,Fq _⟩
    subst es;have J':=Lib.hid (hJ.out.step hlt hq.out (by rw [hs2]) (by rw [hs2];exact hsl));obtain ⟨he1,he2⟩:=Qab (x:=Yg L.getLast? (l.getD k Qh)) hJ.out.len;have hx : Yg L.getLast? (l.getD k Qh) = ⟨G.h,G.a,G.b,G.o,G.d,S⟩:=by unfold Yg;rw [hs2,hel.out,← hG.out]
    replace he2:=he2.trans hx;have XW:=(X3).trans h6;have BPw:=BPc.ext h6;have OA:=Ja hO XW;have S1w:=Ja S1 h6;go_upto_region 16 with (fail)
    refine Q5 16 [14,15] (fun x => Qb w6 x) mixed rfl ?_;intro vz hvz;have HC:=hvz;refine Qr (g:=5) [0,1,2,3,4,5,6,7,8,9,11] HC ?_
    constructor
    refine ⟨fun u hu => ?_,?_⟩
    ·obtain ⟨p0,p1,p2,p3,p4,p5,p6,p7,p8,p9,p10,p11⟩:=Qc.c12 (Qc.ext BPw hu);have pl:=Qc.lt (Qc.ext BPw hu);exact Qj
    refine Qk 10 ?_;go_wp2_with (go_at_call 62;(with_reducible refine zc (NT _ (P1.d.ext (XW.trans HC))) ?_);rintro e wd ⟨v2,rfl,hb,D2⟩;obtain ⟨F2,m2,rfl⟩:=A9 D2);have hzd:=HC.size;replace HC:=HC.trans hb;have HC0:=HC;refine Qe HC ?_;refine Qr (g:=3) [12] HC ?_
    constructor
    refine ⟨fun u hu => ?_,?_⟩
    ·obtain ⟨p0,p1,p2,p3,p4,p5,p6,p7,p8,p9,p10,p11⟩:=Qc.c12 (Qc.ext BPw hu);have pl:=Qc.lt (Qc.ext BPw hu);exact Qj
    refine Qk 13 ?_;go_wp2;have OA':=Ja OA HC0;replace HC:=HC.alloc (.cells #[.string G.h,.int .i64 G.a.y,.int .i64 G.a.m,.bool G.a.s,.int .i64 G.a.d,.int .i64 G.b.y,.int .i64 G.b.m,.bool G.b.s,.int .i64 G.b.d,.slice F1 G.o.length m1,.slice F2 G.d.length m2,.slice FR S.length mR] 55);refine Qe HC ?_;refine Qn 14 ?_;go_wp2_with (at_builtin;refine wpList_append_own_at _ rfl _ _ 26 rfl vb1.heap.size 55 i0 (.agg #[.string ⟨#[]⟩,.int .i64 0,.int .i64 0,.bool false,.int .i64 0,.int .i64 0,.int .i64 0,.bool false,.int .i64 0,.slice none 0 0,.slice none 0 0,.slice none 0 0]) 12 152 Tryz.underlying26 hi hz0 hz1 hz2 rfl (by decide) _ _ _ rfl (OA'.alloc _) ⟨wd.heap.size,0,none⟩ 1 1 (Qq ⟨G.h,G.a,G.b,G.o,G.d,S⟩ (.slice F1 G.o.length m1) (.slice F2 G.d.length m2) (.slice FR S.length mR)) rfl rfl (Lj _ _ _) (Gq _ _ _ _ _ _ _ _ _ _) (by unfold maxLen;omega) Qa (by have:=hE.size;have:=XW.size;have:=HC0.size;simp;omega) ?_;intro o' w8 hown hgrow _ _)
    refine Qm ?_;refine Qn 15 ?_;go_wp2;refine Qm ?_;refine Qt ?_;have hsz6:=XW.size;have hszo:=hE.size;have hsx:=Qb.size X3;have hsz2:=h2.size;have E8 : Qb vb1 w8:=((hE.trans (XW.trans HC0)).alloc _).grown hgrow (fun q hq => (hO.lt q hq).1);have PN : Yf wd vb1.heap.size ⟨G.h,G.a,G.b,G.o,G.d,S⟩ (.slice F1 G.o.length m1) (.slice F2 G.d.length m2) (.slice FR S.length mR):=⟨U5 (Ja S1w HC0) Qa,Yu.le D2 Qa,U5 (Ja SR HC0) Qa⟩;have D8 : Wk w8 vb1.heap.size o' (k + 1) (fun i => (L ++ [Yg L.getLast? (l.getD k Qh)]).getD i Qh):=Qb3 he1 OA' (fun i hi => (hLo.out i hi).ext (XW.trans HC0)) (by rw [he2];exact PN) (by rw [he2];exact hown) hgrow
    go_wp2;exact ⟨⟨k + 1,_,by omega,by go_num,D8,J',E8⟩,by simp [intOf];omega⟩
   obtain ⟨k',hkk⟩ : ∃ j,k = j + 1:=⟨k - 1,by omega⟩;subst hkk;have hj1 : k' + 1 - 1 = k':=by omega
   have hlt' : k' < l.length:=by omega
   obtain ⟨b',off',hDD,hb',hc⟩:=(hD.ext (E.trans HE)) Qa;obtain ⟨hbb,hoo⟩ : b = b' ∧ off = off':=by simpa using hDD
   subst hbb;subst hoo;clear hDD;obtain ⟨e0,e1,e2,e3,e4,e5,e6,e7,e8,e9,e10,e11⟩:=Hy hc hlt';clear hc;have PK:=(hat.out k' hlt').ext (E.trans HE);obtain ⟨GK,hGK⟩:=Qf (l.getD k' Qh);rw [← hGK] at PK e0 e1 e2 e3 e4 e5 e6 e7 e8;replace hGK:=Lib.hid hGK;generalize vo k' = u1 at *;generalize vd k' = u2 at *;generalize vc k' = u3 at *;obtain ⟨t4,s4,e4,_⟩:=id PK.o;subst e4;obtain ⟨t5,s5,_,e5,_⟩:=id PK.d;subst e5;obtain ⟨t6,s6,e6,_⟩:=id PK.c;subst e6;have CB:=C2.ext X3;have Q6c:=Q6.ext X3;have PGc:=P1.ext X3;obtain ⟨q0,q1⟩:=Q6c.c2;have ql:=Q6c.lt;obtain ⟨p0,p1,p2,p3,p4,p5,p6,p7,p8,p9,p10,p11⟩:=BP3.c12;have pl:=BP3.lt;have NBH:=fun w h1 h2 h3 => Qe8 A A' ca cb c GK G (.slice t4 GK.o.length s4) (.slice t5 GK.d.length s5) (.slice t6 GK.c.length s6) (.slice t1 G.o.length s1) (.slice t2 G.d.length s2) (.slice t3 G.c.length s3) w h1 hv h2 h3
   have hany : Hid ((L.getLast?.any fun q => !c.behV q (l.getD (k' + 1) Qh)) = !c.behV GK G):=by
    have h:=hJ.out.any Qa;rw [hj1,← hGK.out,← hG.out] at h;unfold Hid;rw [← hG.out];exact h
   have hlast : Hid (L.getLast?.elim (l.getD (k' + 1) Qh).o (·.c) = (L.getD k' Qh).c):=by
    have h:=hJ.out.last Qa;rw [hj1] at h;exact h
   have hcl:=hJ.out.cl k' Qa;go_upto_region 10 with (fail)
   cases hbh : c.behV GK G
   ·rw [hbh] at NBH;have hb1 : (L.getLast?.any fun q => !c.behV q (l.getD (k' + 1) Qh)) = true := by rw [hany.out, hbh]; rfl
    obtain rfl:=hJ.out.follow hlt hb1;clear hany hlast hbh hb1 hJ hat hside;have n1:=fun u : XW _ => NBH _ (CB.ext u.e) (PK.ext u.e) (PGc.ext u.e)
    refine Zo w3 ?_;intro w5 h5;clear n1;obtain ⟨hcbw5,hfbw5,hzbw5,hzw5⟩:=Zn w3 h5;go_wp2;go_ret2;exact ⟨_,rfl,(E.trans HE).trans h5,Fq _⟩
   ·rw [hbh] at NBH;have hq : Hid ((L.getLast?.any fun q => !c.behV q (l.getD (k' + 1) Qh)) = false) := by unfold Hid; rw [hany.out, hbh]; rfl
    clear hany hbh;have n1:=fun u : XW _ => NBH _ (CB.ext u.e) (PK.ext u.e) (PGc.ext u.e)
    refine Zo w3 ?_;intro w5 h5;clear n1;obtain ⟨hcbw5,hfbw5,hzbw5,hzw5⟩:=Zn w3 h5;clear e0 e1 e2 e3 e4 e5 e6 e7 e8 e9 e10 e11 q0 q1 ql p0 p1 p2 p3 p4 p5 p6 p7 p8 p9 p10 p11 pl NBH;have hO5:=Ja hO (X3.trans h5);obtain ⟨gq,cq,hv1,hgq,_⟩:=M1 hO5 Qa;injection hv1 with hv2 _ hv3
    subst hv2;subst hv3
    have hcc : w5.cell? ⟨gq,k' * 12 + 11,none⟩ = some (rc k'):=by
     rw [World.ownsRow.cellAt hO5 (k' * 12 + 11) Qa,Uv (f:=fun i => Qq (L.getD i Qh) (ro i) (rd i) (rc i)) (sz:=12) (fun _ => rfl) (show k' < k' + 1 by omega) (by decide)];rfl
    have LK:=Wz (Ja (hLo.out k' Qa).c (X3.trans h5));generalize hrk : rc k' = vk at hcc LK;obtain ⟨t7,s7,e7,_⟩:=id LK;subst e7;generalize hOL : (L.getD k' Qh).c = OL at *;have NCK:=fun w h => Ob (.slice t7 OL.length s7) OL w h Qa
    go_upto_region 13 with (go_at_call 59;(with_reducible refine zc (NCK _ LK) ?_);rintro e w5' ⟨v1,rfl,hk5,SK⟩;obtain ⟨F7,m7,rfl⟩:=Jt SK)
    have X5:=(X3.trans h5).trans hk5;have BP5:=(BP3.ext h5).ext hk5;clear NCK LK hcc hrk;have NB:=fun w h1 h2 => Tq (.slice F7 OL.length m7) (.slice t2 G.d.length s2) OL G.d w h1 h2 Qa
    have hsl : (Qz OL G.d).1.length ≤ 64:=Du _ _ Qa;obtain ⟨SV,hSV⟩:=Qf (Qz OL G.d);rw [← hSV] at hsl;simp only [← hSV] at NB;replace hSV:=Lib.hid hSV;obtain ⟨S,se⟩:=SV
    simp only at NB hsl
    have BPc:=BP5;obtain ⟨p0,p1,p2,p3,p4,p5,p6,p7,p8,p9,p10,p11⟩:=Qc.c12 BPc;have pl:=Qc.lt BPc;have LA:=Wz SK;go_upto_region 14 with (go_at_call 61;(with_reducible refine zc (NB _ LA (P1.d.ext X5)) ?_);rintro e w6 ⟨vr,rfl,h6,SR⟩;obtain ⟨FR,mR,rfl⟩:=Jt SR)
    clear NB LA p0 p1 p2 p3 p4 p5 p6 p7 p8 p9 p10 p11 pl;have hs2 : (Qz (L.getLast?.elim (l.getD (k' + 1) Qh).o (·.c)) (l.getD (k' + 1) Qh).d) = (S,se):=by rw [hlast.out,← hG.out];exact hSV.out.symm
    by_cases es : se = 0;rotate_left
    ·have g0 : (se == 0) = false := beq_eq_false_iff_ne.2 es;have g0n : (se != 0) = true := by rw [bne, g0]; rfl
     obtain rfl:=hJ.out.sum hlt hq.out (by rw [hs2]) es;clear hs2 hSV es;go_wp2;go_ret2;exact ⟨_,rfl,(E.trans (hE.trans X5)).trans h6,Fq _⟩
    subst es;have J':=Lib.hid (hJ.out.step hlt hq.out (by rw [hs2]) (by rw [hs2];exact hsl));obtain ⟨he1,he2⟩:=Qab (x:=Yg L.getLast? (l.getD (k' + 1) Qh)) hJ.out.len;have hx : Yg L.getLast? (l.getD (k' + 1) Qh) = ⟨G.h,G.a,G.b,OL,G.d,S⟩:=by unfold Yg;rw [hs2,hlast.out,← hG.out]
    replace he2:=he2.trans hx;have XW:=(X5).trans h6;have BPw:=BPc.ext h6;have OA:=Ja hO XW;have S1w:=Ja SK h6;go_upto_region 16 with (fail)
    refine Q5 16 [14,15] (fun x => Qb w6 x) mixed rfl ?_;intro vz hvz;have HC:=hvz;refine Qr (g:=5) [0,1,2,3,4,5,6,7,8,9,11] HC ?_
    constructor
    refine ⟨fun u hu => ?_,?_⟩
    ·obtain ⟨p0,p1,p2,p3,p4,p5,p6,p7,p8,p9,p10,p11⟩:=Qc.c12 (Qc.ext BPw hu);have pl:=Qc.lt (Qc.ext BPw hu);exact Qj
    refine Qk 10 ?_;go_wp2_with (go_at_call 62;(with_reducible refine zc (NT _ (P1.d.ext (XW.trans HC))) ?_);rintro e wd ⟨v2,rfl,hb,D2⟩;obtain ⟨F2,m2,rfl⟩:=A9 D2);have hzd:=HC.size;replace HC:=HC.trans hb;have HC0:=HC;refine Qe HC ?_;refine Qr (g:=3) [12] HC ?_
    constructor
    refine ⟨fun u hu => ?_,?_⟩
    ·obtain ⟨p0,p1,p2,p3,p4,p5,p6,p7,p8,p9,p10,p11⟩:=Qc.c12 (Qc.ext BPw hu);have pl:=Qc.lt (Qc.ext BPw hu);exact Qj
    refine Qk 13 ?_;go_wp2;have OA':=Ja OA HC0;replace HC:=HC.alloc (.cells #[.string G.h,.int .i64 G.a.y,.int .i64 G.a.m,.bool G.a.s,.int .i64 G.a.d,.int .i64 G.b.y,.int .i64 G.b.m,.bool G.b.s,.int .i64 G.b.d,.slice F7 OL.length m7,.slice F2 G.d.length m2,.slice FR S.length mR] 55);refine Qe HC ?_;refine Qn 14 ?_;go_wp2_with (at_builtin;refine wpList_append_own_at _ rfl _ _ 26 rfl vb1.heap.size 55 i0 (.agg #[.string ⟨#[]⟩,.int .i64 0,.int .i64 0,.bool false,.int .i64 0,.int .i64 0,.int .i64 0,.bool false,.int .i64 0,.slice none 0 0,.slice none 0 0,.slice none 0 0]) 12 152 Tryz.underlying26 hi hz0 hz1 hz2 rfl (by decide) _ _ _ rfl (OA'.alloc _) ⟨wd.heap.size,0,none⟩ 1 1 (Qq ⟨G.h,G.a,G.b,OL,G.d,S⟩ (.slice F7 OL.length m7) (.slice F2 G.d.length m2) (.slice FR S.length mR)) rfl rfl (Lj _ _ _) (Gq _ _ _ _ _ _ _ _ _ _) (by unfold maxLen;omega) Qa (by have:=hE.size;have:=XW.size;have:=HC0.size;simp;omega) ?_;intro o' w8 hown hgrow _ _)
    refine Qm ?_;refine Qn 15 ?_;go_wp2;refine Qm ?_;refine Qt ?_;have hsz6:=XW.size;have hszo:=hE.size;have hsx:=Qb.size X5;have hsz2:=h2.size;have E8 : Qb vb1 w8:=((hE.trans (XW.trans HC0)).alloc _).grown hgrow (fun q hq => (hO.lt q hq).1);have PN : Yf wd vb1.heap.size ⟨G.h,G.a,G.b,OL,G.d,S⟩ (.slice F7 OL.length m7) (.slice F2 G.d.length m2) (.slice FR S.length mR):=⟨U5 (Ja S1w HC0) Qa,Yu.le D2 Qa,U5 (Ja SR HC0) Qa⟩;have D8 : Wk w8 vb1.heap.size o' ((k' + 1) + 1) (fun i => (L ++ [Yg L.getLast? (l.getD (k' + 1) Qh)]).getD i Qh):=Qb3 he1 OA' (fun i hi => (hLo.out i hi).ext (XW.trans HC0)) (by rw [he2];exact PN) (by rw [he2];exact hown) hgrow
    go_wp2;exact ⟨⟨(k' + 1) + 1,_,by omega,by go_num,D8,J',E8⟩,by simp [intOf];omega⟩
  ·obtain rfl : k = l.length := by omega
   obtain rfl:=hJ.out.done;have hL:=hJ.out.len;clear hJ hat hside;go_wp2;go_ret2;refine ⟨_,rfl,E.trans hE,?_⟩;have h : Wk wo vb1.heap.size (.slice FO l.length mO) L.length (fun i => L.getD i Qh):=by rw [hL];exact ⟨ro,rd,rc,hO,hLo.out⟩
   exact Ql0 h
end
section
def sA : ByteArray:=⟨#[97]⟩
def sB : ByteArray:=⟨#[98]⟩
def sC : ByteArray:=⟨#[99]⟩
def sU8 : ByteArray:=⟨#[117,114]⟩
def Um : ByteArray:=⟨#[98,97,114,108,101,121]⟩
def yr8 : Nat → Yr
 | 0 => ⟨0,sA,4095,0⟩
 | 1 => ⟨0,sB,4095,0⟩
 | _ => ⟨0,sC,4095,0⟩
def Xr : Qd:=⟨1,fun _ => sU8,3,yr8⟩
def l8 : Ln:=⟨⟨60,1⟩,⟨1,5⟩,⟨0,1,false,1⟩⟩
def p8 : Nat → J6:=fun _ => ⟨⟨0,7,false,1⟩,⟨10,1⟩⟩
def d8 : Dt:=⟨1,7,false,1⟩
def t8 : Nat → Tk
 | 0 => ⟨⟨10,1⟩,⟨1,3⟩⟩
 | _ => ⟨⟨5,1⟩,⟨1,1⟩⟩
def f8 : Dt:=⟨0,1,false,1⟩
def u8' : Dt:=⟨0,1,false,30⟩
def w8 : Nat → Cw:=fun _ => ⟨2,⟨1,2⟩,f8,u8'⟩
def h8 : Yv:=⟨10,2,5⟩
def pd8 : Pd:=⟨sA,f8,u8',[⟨Um,10⟩],[⟨⟨0,1,false,2⟩,true,sB,[⟨Um,5⟩]⟩,⟨⟨0,1,false,2⟩,false,sB,[⟨Um,20⟩]⟩],[]⟩
theorem e8_int : J3 ⟨60,1⟩ ⟨1,5⟩ 180 = (⟨6,1⟩,0):=by kernel_rfl
theorem e8_dbl : Uc ⟨1,3⟩ = (1080,0):=by kernel_rfl
theorem Qhi : Xr.owedV l8 p8 1 d8 = (⟨⟨56,1⟩,⟨56,5⟩,⟨0,1⟩⟩,0):=by kernel_rfl
theorem Qhj : Xr.settleV l8 p8 1 d8 = (⟨336,5⟩,0):=by kernel_rfl
theorem e8_bal : Xr.balV t8 2 w8 1 = (⟨-5,1⟩,0):=by kernel_rfl
theorem e8_few : Xr.fewV t8 2 ⟨1,2⟩ f8 u8' = (3,0):=by kernel_rfl
theorem Qhh : Vk h8 ⟨4,5⟩ ⟨1,10⟩ 1 = (⟨12,4,7⟩,0):=by kernel_rfl
theorem Qhg : Xr.closeV pd8 = ([⟨Um,-5⟩],0):=by kernel_rfl
end
section
open Go Go.RowKit Go.Shelf
attribute [local go_sem] Zx
attribute [local go_sem high] Pw
theorem L4 {w : World} {b : Nat} {t : TypeId} {cs : Array Value} {n sz : Nat} {f : Nat → List Value} (h : Qc w b t cs) (hf : ∀ i j v,i < n → (f i)[j]? = some v → cs[i * sz + j]? = some v) : Qs w (some ⟨b,0,none⟩) n sz f :=
 fun _ => ⟨b,0,rfl,h.lt,fun i j v hi hv => by rw [Nat.zero_add,h.cell];exact hf i j v hi hv⟩
theorem U8 (n d : Int) (w : World) :
  Calls Tryz.prog 25 #[.int .i64 n,.int .i64 d] w fun e w' => e = .returned (.agg #[.int .i64 n,.int .i64 d]) ∧ Qb w w':=by
 go_enter Tryz.func25,Tryz.ntmps25
 go_wp2;refine bodyPost_ret (v:=.agg #[.int .i64 n,.int .i64 d]) (by simp [results,Tryz.results25,go_sem]) rfl ⟨rfl,Qu⟩
theorem Xg (y m d : Int) (w : World) :
  Calls Tryz.prog 24 #[.int .i64 y,.int .i64 m,.int .i64 d] w fun e w' => e = .returned (.agg #[.int .i64 y,.int .i64 m,.bool false,.int .i64 d]) ∧ Qb w w':=by
 go_enter Tryz.func24,Tryz.ntmps24
 go_wp2;refine bodyPost_ret (v:=.agg #[.int .i64 y,.int .i64 m,.bool false,.int .i64 d]) (by simp [results,Tryz.results24,go_sem]) rfl ⟨rfl,Qu⟩
theorem Oo (s : ByteArray) (n : Int) (w : World) :
  Calls Tryz.prog 20 #[.string s,.int .i64 n] w fun e w' => ∃ b,e = .returned (.slice (some ⟨b,0,none⟩) 1 1) ∧ Qb w w' ∧ Zq w' (.slice (some ⟨b,0,none⟩) 1 1) [⟨s,n⟩]:=by
 go_enter Tryz.func20,Tryz.ntmps20
 go_wp2;go_ret;refine ⟨w.heap.size,rfl,Qu,some ⟨w.heap.size,0,none⟩,1,rfl,?_,Nat.le_refl _,by decide,fun h => (by cases h)⟩;refine L4 (t:=85) (cs:=#[.string s,.int .i64 n]) Wv ?_;intro i j v hi hv;obtain rfl : i = 0:=by simp at hi;omega
 have hj : j < 2:=(List.getElem?_eq_some_iff.1 hv).1;rw [← hv];have : j = 0 ∨ j = 1:=by omega
 rcases this with rfl | rfl <;> rfl
theorem Qft (w : World) :
  Calls Tryz.prog 21 #[] w fun e w' => ∃ A A' ca cb,e = .returned (.agg #[.slice A 1 ca,.slice A' 3 cb]) ∧ Qb w w' ∧ Zg w' A ca A' cb Xr:=by
 go_enter Tryz.func21,Tryz.ntmps21
 go_wp2;refine bodyPost_ret (v:=.agg #[.slice (some ⟨w.heap.size + 1,0,none⟩) 1 1,.slice (some ⟨w.heap.size + 1 + 1,0,none⟩) 3 3]) (by simp [results,Tryz.results21,go_sem]) rfl ⟨_,_,_,_,rfl,Qu,⟨?_,?_,by decide,by decide,by decide,by decide⟩⟩
 ·refine L4 (t := 9) (cs := #[.string sU8]) Wv ?_;intro i j v hi hv;have hi : i < 1 := hi;have hj : j < 1 := (List.getElem?_eq_some_iff.1 hv).1;rw [← hv];obtain rfl : i = 0 := by omega
  obtain rfl : j = 0:=by omega
  rfl
 ·refine L4 (t := 148) (cs := #[.int .i64 0, .string sA, .int .i64 4095, .int .i64 0, .int .i64 0, .string sB, .int .i64 4095, .int .i64 0, .int .i64 0, .string sC, .int .i64 4095, .int .i64 0]) Wv ?_;intro i j v hi hv;have hi : i < 3 := hi;have hj : j < 4 := (List.getElem?_eq_some_iff.1 hv).1;rw [← hv];have h1 : i = 0 ∨ i = 1 ∨ i = 2 := by omega
  have h2 : j = 0 ∨ j = 1 ∨ j = 2 ∨ j = 3:=by omega
  rcases h1 with rfl | rfl | rfl <;> rcases h2 with rfl | rfl | rfl | rfl <;> rfl
theorem Qif {W : World} {b : Nat} {t : TypeId} {v0 v1 v2 v3 v4 v5 v6 v7 : Value} (h : Qc W b t #[v0,v1,v2,v3,v4,v5,v6,v7]) (u0 u1 u2 u3 u4 u5 u6 u7 : Value) : Qc ((((((((W.setCell ⟨b,0,none⟩ u0).setCell ⟨b,1,none⟩ u1).setCell ⟨b,2,none⟩ u2).setCell ⟨b,3,none⟩ u3).setCell ⟨b,4,none⟩ u4).setCell ⟨b,5,none⟩ u5).setCell ⟨b,6,none⟩ u6).setCell ⟨b,7,none⟩ u7) b t #[u0,u1,u2,u3,u4,u5,u6,u7]:=by unfold Qc at h ⊢;simp [World.setCell,Array.getElem?_modify,h]
theorem ext8 {W0 W : World} {b : Nat} (h : Qb W0 W) (hb : W0.heap.size ≤ b) (u0 u1 u2 u3 u4 u5 u6 u7 : Value) : Qb W0 ((((((((W.setCell ⟨b,0,none⟩ u0).setCell ⟨b,1,none⟩ u1).setCell ⟨b,2,none⟩ u2).setCell ⟨b,3,none⟩ u3).setCell ⟨b,4,none⟩ u4).setCell ⟨b,5,none⟩ u5).setCell ⟨b,6,none⟩ u6).setCell ⟨b,7,none⟩ u7) :=
 (((((((h.setCell (p:=⟨b,0,none⟩) hb u0).setCell (p:=⟨b,1,none⟩) hb u1).setCell (p:=⟨b,2,none⟩) hb u2).setCell (p:=⟨b,3,none⟩) hb u3).setCell (p:=⟨b,4,none⟩) hb u4).setCell (p:=⟨b,5,none⟩) hb u5).setCell (p:=⟨b,6,none⟩) hb u6).setCell (p:=⟨b,7,none⟩) hb u7
theorem Qig {W : World} {b b' : Nat} {t : TypeId} {cs : Array Value} (h : Qc W b t cs) (hne : b ≠ b') (u0 u1 u2 u3 u4 u5 u6 u7 : Value) : Qc ((((((((W.setCell ⟨b',0,none⟩ u0).setCell ⟨b',1,none⟩ u1).setCell ⟨b',2,none⟩ u2).setCell ⟨b',3,none⟩ u3).setCell ⟨b',4,none⟩ u4).setCell ⟨b',5,none⟩ u5).setCell ⟨b',6,none⟩ u6).setCell ⟨b',7,none⟩ u7) b t cs :=
 Qg (Qg (Qg (Qg (Qg (Qg (Qg (Qg h hne 0 u0) hne 1 u1) hne 2 u2) hne 3 u3) hne 4 u4) hne 5 u5) hne 6 u6) hne 7 u7
theorem Qjj (w : World) :
  Calls Tryz.prog 22 #[] w fun e w' => ∃ b,e = .returned (.tuple #[.agg #[.int .i64 60,.int .i64 1,.int .i64 1,.int .i64 5,.int .i64 0,.int .i64 1,.bool false,.int .i64 1],.slice (some ⟨b,0,none⟩) 1 1]) ∧ Qb w w' ∧ Qs w' (some ⟨b,0,none⟩) 1 6 (Yp p8):=by
 go_enter Tryz.func22,Tryz.ntmps22
 go_upto_region 1 with (fail)
 obtain ⟨v,hv⟩:=Qf (w.alloc (.cells #[.int .i64 0,.int .i64 0,.int .i64 0,.int .i64 0,.int .i64 0,.int .i64 0,.bool false,.int .i64 0] 67));rw [← hv];have E : Qb w v:=by rw [hv];exact (Qb.refl _).alloc _
 have B1 : Qc v w.heap.size 67 #[.int .i64 0,.int .i64 0,.int .i64 0,.int .i64 0,.int .i64 0,.int .i64 0,.bool false,.int .i64 0]:=by rw [hv];exact Qc.new _ _ _
 clear hv;obtain ⟨b1,hb1⟩:=Qf (w.heap.size);rw [← hb1] at B1 ⊢;have hbr : w.heap.size ≤ b1:=by omega
 clear hb1;go_wp2_with (first | (go_at_call 25;(with_reducible refine zc (U8 10 1 _) ?_);rintro e wa ⟨rfl,hx⟩;replace E:=E.trans hx;replace B1:=B1.ext hx;clear hx;have BA:=B1.alloc (.cells #[.int .i64 0,.int .i64 7,.bool false,.int .i64 1,.int .i64 10,.int .i64 1] 78);have z0:=BA.frozen 0;have z1:=BA.frozen 1;have z2:=BA.frozen 2;have z3:=BA.frozen 3;have z4:=BA.frozen 4;have z5:=BA.frozen 5;have z6:=BA.frozen 6;have z7:=BA.frozen 7;obtain ⟨x0,x1,x2,x3,x4,x5,x6,x7⟩:=BA.c8;have lx:=BA.lt) | (go_at_call 25;(with_reducible refine zc (U8 _ _ _) ?_);rintro e wa ⟨rfl,hx⟩;replace E:=E.trans hx;replace B1:=B1.ext hx;clear hx) | (go_at_call 24;(with_reducible refine zc (Xg _ _ _ _) ?_);rintro e wa ⟨rfl,hx⟩;replace E:=E.trans hx;replace B1:=B1.ext hx;clear hx))
 have H8:=Qif (B1.alloc (.cells #[.int .i64 0,.int .i64 7,.bool false,.int .i64 1,.int .i64 10,.int .i64 1] 78)) (.int .i64 60) (.int .i64 1) (.int .i64 1) (.int .i64 5) (.int .i64 0) (.int .i64 1) (.bool false) (.int .i64 1);have E8:=ext8 (E.alloc (.cells #[.int .i64 0,.int .i64 7,.bool false,.int .i64 1,.int .i64 10,.int .i64 1] 78)) hbr (.int .i64 60) (.int .i64 1) (.int .i64 1) (.int .i64 5) (.int .i64 0) (.int .i64 1) (.bool false) (.int .i64 1);have P8:=Qig (Qc.new wa 78 #[.int .i64 0,.int .i64 7,.bool false,.int .i64 1,.int .i64 10,.int .i64 1]) (show wa.heap.size ≠ b1 by have:=B1.lt;omega) (.int .i64 60) (.int .i64 1) (.int .i64 1) (.int .i64 5) (.int .i64 0) (.int .i64 1) (.bool false) (.int .i64 1)
 obtain ⟨y0,y1,y2,y3,y4,y5,y6,y7⟩:=H8.c8;refine bodyPost_ret (v:=.tuple #[.agg #[.int .i64 60,.int .i64 1,.int .i64 1,.int .i64 5,.int .i64 0,.int .i64 1,.bool false,.int .i64 1],.slice (some ⟨wa.heap.size,0,none⟩) 1 1]) (by simp [results,Tryz.results22,go_sem,y0,y1,y2,y3,y4,y5,y6,y7]) rfl ⟨_,rfl,E8,?_⟩;refine L4 P8 ?_;intro i j v hi hv;obtain rfl : i = 0:=by omega
 have hj : j < 6:=(List.getElem?_eq_some_iff.1 hv).1;rw [← hv];have : j = 0 ∨ j = 1 ∨ j = 2 ∨ j = 3 ∨ j = 4 ∨ j = 5:=by omega
 rcases this with rfl | rfl | rfl | rfl | rfl | rfl <;> rfl
theorem Qmq (v1 v2 : Value) (a b : List Lt) (w : World) (h1 : Zq w v1 a) (h2 : Zq w v2 b) :
  Calls Tryz.prog 29 #[v1,v2] w fun e w' => e = .returned (.bool (decide (a = b))) ∧ Qb w w':=by
 obtain ⟨A,ca,rfl,hA,hca,hca',_⟩:=h1;obtain ⟨B,cb,rfl,hB,hcb,hcb',_⟩:=h2;obtain ⟨R,hR0⟩:=Qf (decide (a = b));rw [← hR0];have HR:=Lib.hid hR0;clear hR0;by_cases hn : a.length = b.length
 ·have HL:=Lib.hid hn;obtain ⟨n,hnl⟩:=Qf (a.length);rw [← hn] at hcb hB ⊢;rw [← hnl] at hca hcb hA hB ⊢;have h63 : n ≤ 9223372036854775807:=Nat.le_trans hca (Nat.le_trans hca' (by decide));replace hnl:=Lib.hid hnl
  have hno : Hid (∀ k,k < n → Zb a k ≠ Zb b k → R = false):=fun k hk h => by
   rw [HR.out];exact decide_eq_false fun e => h (by rw [e])
  have hyes : Hid ((∀ k,k < n → Zb a k = Zb b k) → R = true):=fun h => by
   rw [HR.out];refine decide_eq_true (List.ext_getElem HL.out fun i h1 h2 => ?_);have:=h i (by rw [hnl.out];exact h1)
   rwa [U3 h1,U3 h2] at this
  clear HR HL hn hnl hca' hcb' hca hcb;generalize Zb a = f at *;generalize Zb b = g at *
  go_enter Tryz.func29,Tryz.ntmps29
  go_wp2
  go_loopw [5] (fun i wr => ∃ k : Nat,k ≤ n ∧ i = .int .i64 k ∧ Hid (∀ j,j < k → f j = g j) ∧ Qb w wr) (fun i _ => n - (intOf i).toNat)
  case atStart => exact ⟨0,Nat.zero_le _,rfl,(fun i hi => absurd hi Qa),Qb.refl _⟩
  case round =>
   obtain ⟨k,hk,rfl,hp,hE⟩:=hrel;obtain ⟨wo,rfl⟩:=Qf wr;by_cases hlt : k < n
   ·obtain ⟨b1, o1, rfl, hb, hc⟩ := (hA.ext hE) Qa;obtain ⟨b2, o2, rfl, hb', hd⟩ := (hB.ext hE) Qa;have c0 : wo.cell? ⟨b1, o1 + k * 2, none⟩ = some (.string (f k).g) := by simpa [Zw] using hc k 0 _ hlt rfl
    have c1 : wo.cell? ⟨b1,o1 + k * 2 + 1,none⟩ = some (.int .i64 (f k).n):=by simpa [Zw] using hc k 1 _ hlt rfl
    have d0 : wo.cell? ⟨b2,o2 + k * 2,none⟩ = some (.string (g k).g):=by simpa [Zw] using hd k 0 _ hlt rfl
    have d1 : wo.cell? ⟨b2,o2 + k * 2 + 1,none⟩ = some (.int .i64 (g k).n):=by simpa [Zw] using hd k 1 _ hlt rfl
    have hq : Hid ((((f k).g.toList == (g k).g.toList) && ((f k).n == (g k).n)) = decide (f k = g k)):=by
     unfold Hid;rw [← Hq,Bool.eq_iff_iff];simp only [Bool.and_eq_true,decide_eq_true_eq,beq_iff_eq]
     constructor
     ·rintro ⟨e1,e2⟩;cases hf : f k;cases hg : g k
      rw [hf,hg] at e1 e2
      simp_all
     ·intro e;rw [e];exact ⟨rfl,rfl⟩
    have hs : Hid (f k = g k → ∀ j,j < k + 1 → f j = g j):=fun e j hj => by
     by_cases h : j = k
     ·subst h;exact e
     ·exact hp.out j Qa
    have hnk:=Lib.hid (hno.out k hlt);clear hc hd hA hB hp;generalize f k = x at *;generalize g k = y at *;go_upto_region 6 with (fail)
    clear hno hyes;generalize hg1 : (x.g.toList == y.g.toList) = e1 at *;generalize hg2 : (x.n == y.n) = e2 at *;by_cases hxy : x = y
    ·obtain ⟨rfl,rfl⟩ : e1 = true ∧ e2 = true:=by
      have h:=hq.out;rw [decide_eq_true hxy] at h
      simpa using h
     have hp':=Lib.hid (hs.out hxy);clear hs hq hnk hxy;refine Zo wo ?_;intro wn hwn;obtain ⟨hcbwn,hfbwn,hzbwn,hzwn⟩:=Zn wo hwn;go_wp2;exact ⟨⟨k + 1,by omega,by go_num,hp',hE.trans hwn⟩,by simp [intOf];omega⟩
    ·have hr:=hnk.out hxy
     have h : e1 = false ∨ (e1 = true ∧ e2 = false):=by
      have h:=hq.out;rw [decide_eq_false hxy] at h;cases e1 <;> simp_all
     clear hs hq hnk hxy;rcases h with rfl | ⟨rfl,rfl⟩
     ·skip
      refine Zo wo ?_;intro wn hwn;obtain ⟨hcbwn,hfbwn,hzbwn,hzwn⟩:=Zn wo hwn;go_wp2;go_ret;exact ⟨by rw [hr];rfl,hE.trans hwn⟩
     ·skip
      refine Zo wo ?_;intro wn hwn;obtain ⟨hcbwn,hfbwn,hzbwn,hzwn⟩:=Zn wo hwn;go_wp2;go_ret;exact ⟨by rw [hr];rfl,hE.trans hwn⟩
   ·obtain rfl : k = n := by omega
    have hr:=hyes.out hp.out;clear hyes hno;go_wp2;go_ret;exact ⟨by rw [hr];rfl,hE⟩
 ·have hne : ((a.length : Int) == (b.length : Int)) = false := beq_eq_false_iff_ne.2 Qa;have hnn : ((a.length : Int) != (b.length : Int)) = true := by rw [bne, hne]; rfl
  have hr : R = false:=by rw [HR.out];exact decide_eq_false fun e => hn (by rw [e])
  clear hn HR
  go_enter Tryz.func29,Tryz.ntmps29
  go_wp2;go_ret;exact ⟨by rw [hr];rfl,Qb.refl _⟩
end
section
open Go Go.RowKit Go.Shelf
attribute [local go_sem] Zx
attribute [local go_sem high] Qk3 Qk1 Qk2
theorem Qmm {w : World} {b : Nat} (h : Qc w b 108 #[.int .i64 10,.int .i64 1,.int .i64 1,.int .i64 3,.int .i64 5,.int .i64 1,.int .i64 1,.int .i64 1]) : Qs w (some ⟨b,0,none⟩) 2 4 (Y3 t8):=by
 refine L4 h ?_;intro i j v hi hv;have hj : j < 4:=(List.getElem?_eq_some_iff.1 hv).1;rw [← hv];have h1 : i = 0 ∨ i = 1:=by omega
 have h2 : j = 0 ∨ j = 1 ∨ j = 2 ∨ j = 3:=by omega
 rcases h1 with rfl | rfl <;> rcases h2 with rfl | rfl | rfl | rfl <;> rfl
theorem Ng {w : World} {b : Nat} (h : Qc w b 112 #[.int .i64 2,.int .i64 1,.int .i64 2,.int .i64 0,.int .i64 1,.bool false,.int .i64 1,.int .i64 0,.int .i64 1,.bool false,.int .i64 30]) : Qs w (some ⟨b,0,none⟩) 1 11 (Zu w8):=by
 refine L4 h ?_;intro i j v hi hv;obtain rfl : i = 0:=by omega
 have hj : j < 11:=(List.getElem?_eq_some_iff.1 hv).1;rw [← hv];have : j = 0 ∨ j = 1 ∨ j = 2 ∨ j = 3 ∨ j = 4 ∨ j = 5 ∨ j = 6 ∨ j = 7 ∨ j = 8 ∨ j = 9 ∨ j = 10:=by omega
 rcases this with rfl | rfl | rfl | rfl | rfl | rfl | rfl | rfl | rfl | rfl | rfl <;> rfl
theorem Bc {A A' : Option Addr} {ca cb : Nat} {w : World} (hC : Zg w A ca A' cb Xr) {bp : Nat} (hB : Qs w (some ⟨bp,0,none⟩) 1 6 (Yp p8)) (hZ : Z6 w) : Calls Tryz.prog 23 #[.agg #[.slice A 1 ca,.slice A' 3 cb],.agg #[.int .i64 60,.int .i64 1,.int .i64 1,.int .i64 5,.int .i64 0,.int .i64 1,.bool false,.int .i64 1],.slice (some ⟨bp,0,none⟩) 1 1,.agg #[.int .i64 1,.int .i64 7,.bool false,.int .i64 1]] w fun e w' => e = .returned (.tuple #[.agg #[.int .i64 56,.int .i64 1,.int .i64 56,.int .i64 5,.int .i64 0,.int .i64 1],.int .i64 0]) ∧ Qb w w':=by
 have:=Qbq A A' ca cb Xr (some ⟨bp,0,none⟩) 1 1 l8 p8 (by unfold Rt.In;decide) (by unfold Rt.In;decide) (fun i _ => show (Rt.mk 10 1).In by unfold Rt.In;decide) w hC hB (by decide) hZ d8;rw [Qhi] at this;exact this
theorem Bd {A A' : Option Addr} {ca cb : Nat} {w : World} (hC : Zg w A ca A' cb Xr) {bp : Nat} (hB : Qs w (some ⟨bp,0,none⟩) 1 6 (Yp p8)) (hZ : Z6 w) : Calls Tryz.prog 39 #[.agg #[.slice A 1 ca,.slice A' 3 cb],.agg #[.int .i64 60,.int .i64 1,.int .i64 1,.int .i64 5,.int .i64 0,.int .i64 1,.bool false,.int .i64 1],.slice (some ⟨bp,0,none⟩) 1 1,.agg #[.int .i64 1,.int .i64 7,.bool false,.int .i64 1]] w fun e w' => e = .returned (.tuple #[.agg #[.int .i64 336,.int .i64 5],.int .i64 0]) ∧ Qb w w':=by
 have:=Qmu A A' ca cb Xr (some ⟨bp,0,none⟩) 1 1 l8 p8 (by unfold Rt.In;decide) (by unfold Rt.In;decide) (fun i _ => show (Rt.mk 10 1).In by unfold Rt.In;decide) w hC hB (by decide) hZ d8;rw [Qhj] at this;exact this
theorem Qdf : ∀ i,i < 2 → (t8 i).a.In ∧ (t8 i).r.In:=fun i hi => by
 have : i = 0 ∨ i = 1:=by omega
 rcases this with rfl | rfl <;> (unfold Rt.In;decide)
theorem Np {A A' : Option Addr} {ca cb : Nat} {w : World} (hC : Zg w A ca A' cb Xr) {bt bc : Nat} (hT : Qs w (some ⟨bt,0,none⟩) 2 4 (Y3 t8)) (hS : Qs w (some ⟨bc,0,none⟩) 1 11 (Zu w8)) (hZ : Z6 w) : Calls Tryz.prog 40 #[.agg #[.slice A 1 ca,.slice A' 3 cb],.slice (some ⟨bt,0,none⟩) 2 2,.slice (some ⟨bc,0,none⟩) 1 1] w fun e w' => e = .returned (.tuple #[.agg #[.int .i64 (-5),.int .i64 1],.int .i64 0]) ∧ Qb w w':=by
 have:=Qe6 A A' ca cb Xr (some ⟨bt,0,none⟩) 2 2 t8 (some ⟨bc,0,none⟩) 1 1 w8 w hC Qdf hT (by decide) (fun i _ => ⟨show (Rt.mk 1 2).In by unfold Rt.In;decide,show (-9223372036854775808 : Int) ≤ 2 by decide,show (2 : Int) ≤ 9223372036854775807 by decide⟩) hS (by decide) hZ;rw [e8_bal] at this;exact this
theorem w8_few {A A' : Option Addr} {ca cb : Nat} {w : World} (hC : Zg w A ca A' cb Xr) {bt : Nat} (hT : Qs w (some ⟨bt,0,none⟩) 2 4 (Y3 t8)) (hZ : Z6 w) : Calls Tryz.prog 41 #[.agg #[.slice A 1 ca,.slice A' 3 cb],.slice (some ⟨bt,0,none⟩) 2 2,.agg #[.int .i64 1,.int .i64 2],.agg #[.int .i64 0,.int .i64 1,.bool false,.int .i64 1],.agg #[.int .i64 0,.int .i64 1,.bool false,.int .i64 30]] w fun e w' => e = .returned (.tuple #[.int .i64 3,.int .i64 0]) ∧ Qb w w':=by
 have:=Qhx A A' ca cb Xr (some ⟨bt,0,none⟩) 2 2 t8 ⟨1,2⟩ (by unfold Rt.In;decide) f8 u8' w hC Qdf hT (by decide) hZ;rw [e8_few] at this;exact this
theorem Qnu (w : World) : Calls Tryz.prog 42 #[.agg #[.int .i64 10,.int .i64 2,.int .i64 5],.agg #[.int .i64 4,.int .i64 5],.agg #[.int .i64 1,.int .i64 10],.int .i64 1] w fun e w' => e = .returned (.tuple #[.agg #[.int .i64 12,.int .i64 4,.int .i64 7],.int .i64 0]) ∧ Qb w w':=by
 have:=Qh4 h8 ⟨4,5⟩ ⟨1,10⟩ 1 (by unfold Rt.In;decide) (by unfold Rt.In;decide) (by decide) (by decide) w;rw [Qhh] at this;exact this
theorem Qnt {A A' : Option Addr} {ca cb : Nat} {w : World} (hC : Zg w A ca A' cb Xr) {o x y d : Nat} (hO : Zq w (.slice (some ⟨o,0,none⟩) 1 1) [⟨Um,10⟩]) (hX : Zq w (.slice (some ⟨x,0,none⟩) 1 1) [⟨Um,5⟩]) (hY : Zq w (.slice (some ⟨y,0,none⟩) 1 1) [⟨Um,20⟩]) (hD : Qc w d 57 #[.int .i64 0,.int .i64 1,.bool false,.int .i64 2,.bool true,.string ⟨#[98]⟩,.slice (some ⟨x,0,none⟩) 1 1,.int .i64 0,.int .i64 1,.bool false,.int .i64 2,.bool false,.string ⟨#[98]⟩,.slice (some ⟨y,0,none⟩) 1 1]) :
  Calls Tryz.prog 43 #[.agg #[.slice A 1 ca,.slice A' 3 cb],.agg #[.string ⟨#[97]⟩,.int .i64 0,.int .i64 1,.bool false,.int .i64 1,.int .i64 0,.int .i64 1,.bool false,.int .i64 30,.slice (some ⟨o,0,none⟩) 1 1,.slice (some ⟨d,0,none⟩) 2 2,.slice none 0 0]] w fun e w' => ∃ v,e = .returned (.tuple #[v,.int .i64 0]) ∧ Qb w w' ∧ Zq w' v [⟨Um,-5⟩]:=by
 have hDl : W9 w (.slice (some ⟨d,0,none⟩) 2 2) pd8.d:=by
  refine ⟨some ⟨d,0,none⟩,2,fun i => if i = 0 then .slice (some ⟨x,0,none⟩) 1 1 else .slice (some ⟨y,0,none⟩) 1 1,rfl,?_,Nat.le_refl _,by decide,fun h => (by cases h),?_⟩
  ·refine L4 hD ?_;intro i j v hi hv;have hi : i < 2 := hi;have hj : j < 7 := (List.getElem?_eq_some_iff.1 hv).1;rw [← hv];have h1 : i = 0 ∨ i = 1 := by omega
   have h2 : j = 0 ∨ j = 1 ∨ j = 2 ∨ j = 3 ∨ j = 4 ∨ j = 5 ∨ j = 6:=by omega
   rcases h1 with rfl | rfl <;> rcases h2 with rfl | rfl | rfl | rfl | rfl | rfl | rfl <;> rfl
  ·intro i hi;have hi : i < 2 := hi;have h1 : i = 0 ∨ i = 1 := by omega
   rcases h1 with rfl | rfl
   ·exact hX
   ·exact hY
 have:=Qgi A A' ca cb Xr pd8 _ _ _ w hC ⟨hO,hDl,Mu w⟩;rw [Qhg] at this;exact this
theorem Nq (w : World) (hZ : Z6 w) :
  Calls Tryz.prog 12 #[] w fun e w' => e = .returned (.bool true) ∧ Qb w w':=by
 go_enter Tryz.func12,Tryz.ntmps12
 go_upto_region 2 with (go_at_call 21;(with_reducible refine zc (Qft _) ?_);rintro e w1 ⟨A,A',ca,cb,rfl,h1,C⟩)
 obtain ⟨v1,hv⟩:=Qf (w1.alloc (.cells #[.slice A 1 ca,.slice A' 3 cb] 25));rw [← hv];have h2 : Qb w1 v1:=by rw [hv];exact (Qb.refl _).alloc _
 have B1 : Qc v1 w1.heap.size 25 #[.slice A 1 ca,.slice A' 3 cb]:=by rw [hv];exact Qc.new _ _ _
 clear hv;generalize w1.heap.size = b1 at *;have E:=h1.trans h2;replace C:=C.ext h2;have Z:=hZ.ext E;clear h1 h2 hZ;have NI:=fun w hz => Ir ⟨60,1⟩ ⟨1,5⟩ 180 (by unfold Rt.In;decide) (by unfold Rt.In;decide) (by decide) (by decide) w hz
 simp only [e8_int] at NI;go_upto_region 3 with (first | (go_at_call 25;(with_reducible refine zc (U8 _ _ _) ?_);rintro e wa ⟨rfl,hx⟩;replace E:=E.trans hx;replace C:=C.ext hx;replace Z:=Z.ext hx;replace B1:=B1.ext hx;clear hx) | (go_at_call 28;(with_reducible refine zc (NI _ Z) ?_);rintro e w2 ⟨rfl,hx⟩;replace E:=E.trans hx;replace C:=C.ext hx;replace Z:=Z.ext hx;replace B1:=B1.ext hx;clear hx))
 obtain ⟨v2,hv⟩:=Qf (w2.alloc (.cells #[.int .i64 6,.int .i64 1] 65));rw [← hv];have h2 : Qb w2 v2:=by rw [hv];exact (Qb.refl _).alloc _
 have B2 : Qc v2 w2.heap.size 65 #[.int .i64 6,.int .i64 1]:=by rw [hv];exact Qc.new _ _ _
 clear hv;generalize w2.heap.size = b2 at *;replace E:=E.trans h2;replace C:=C.ext h2;replace Z:=Z.ext h2;replace B1:=B1.ext h2;clear h2;have ND:=fun w => Qhf ⟨1,3⟩ (by unfold Rt.In;decide) w
 simp only [e8_dbl] at ND;clear NI;go_upto_region 4 with (first | (go_at_call 25;(with_reducible refine zc (U8 _ _ _) ?_);rintro e wa ⟨rfl,hx⟩;replace E:=E.trans hx;replace C:=C.ext hx;replace Z:=Z.ext hx;replace B1:=B1.ext hx;replace B2:=B2.ext hx;clear hx) | (go_at_call 26;(with_reducible refine zc (ND _) ?_);rintro e w3 ⟨rfl,hx⟩;replace E:=E.trans hx;replace C:=C.ext hx;replace Z:=Z.ext hx;replace B1:=B1.ext hx;replace B2:=B2.ext hx;clear hx))
 clear ND;go_upto_region 5 with (go_at_call 22;(with_reducible refine zc (Qjj _) ?_);rintro e w4 ⟨bp,rfl,hx,PR⟩;replace E:=E.trans hx;replace C:=C.ext hx;replace Z:=Z.ext hx;replace B1:=B1.ext hx;replace B2:=B2.ext hx;clear hx)
 obtain ⟨v4,hv⟩:=Qf (w4.alloc (.cells #[.int .i64 60,.int .i64 1,.int .i64 1,.int .i64 5,.int .i64 0,.int .i64 1,.bool false,.int .i64 1] 67));rw [← hv];have h2 : Qb w4 v4:=by rw [hv];exact (Qb.refl _).alloc _
 have B4 : Qc v4 w4.heap.size 67 #[.int .i64 60,.int .i64 1,.int .i64 1,.int .i64 5,.int .i64 0,.int .i64 1,.bool false,.int .i64 1]:=by rw [hv];exact Qc.new _ _ _
 clear hv;generalize w4.heap.size = b4 at *;replace E:=E.trans h2;replace PR:=PR.ext h2;replace C:=C.ext h2;replace Z:=Z.ext h2;replace B1:=B1.ext h2;replace B2:=B2.ext h2;clear h2;go_upto_region 5 with (fail)
 apply K5 (S:=fun w' r => Qb v4 w' ∧ Qc w' r 72 #[.int .i64 56,.int .i64 1,.int .i64 56,.int .i64 5,.int .i64 0,.int .i64 1])
 ·refine Q5 11 [6,7,9,10] (fun x => Qb v4 x) mixed rfl ?_;intro vz hvz;have HC:=hvz;refine Qr (g:=8) [0,1,2] HC ?_
  constructor
  refine ⟨fun u hu => ?_,?_⟩
  ·obtain ⟨k0,k1⟩:=(B1.ext hu).c2;have lk:=(B1.ext hu).lt;obtain ⟨p0,p1,p2,p3,p4,p5,p6,p7⟩:=(B4.ext hu).c8;have lp:=(B4.ext hu).lt;exact Qj
  refine Zp 3 8 ?_ ?_
  ·go_wp2_with (go_at_call 24;(with_reducible refine zc (Xg _ _ _ _) ?_);rintro e wa ⟨rfl,hx⟩);replace HC:=HC.trans hx;try replace H5:=H5.ext hx
   clear hx;refine Qe HC ?_;refine Zp 4 8 ?_ ?_
   ·go_wp2_with (go_at_call 23;(with_reducible refine zc (Bc (C.ext HC) (PR.ext HC) (Z.ext HC)) ?_);rintro e wa ⟨rfl,hx⟩);replace HC:=HC.trans hx;try replace H5:=H5.ext hx
    clear hx;refine Qe HC ?_;refine Qr (g:=5) [5] HC ?_
    constructor
    refine ⟨fun u hu => ?_,?_⟩
    ·obtain ⟨k0,k1⟩:=(B1.ext hu).c2;have lk:=(B1.ext hu).lt;obtain ⟨p0,p1,p2,p3,p4,p5,p6,p7⟩:=(B4.ext hu).c8;have lp:=(B4.ext hu).lt;exact Qj
    refine Jv (g:=3) [6,7] ?_
    constructor
    refine ⟨fun u hu => ?_,?_⟩
    ·exact Qj
    refine Qk 8 ?_;go_wp2;obtain ⟨b9,wb,hbq,hwb,H5,HC',hx,g5⟩:=Qp HC 72 #[.int .i64 0,.int .i64 0,.int .i64 0,.int .i64 0,.int .i64 0,.int .i64 0];rw [← hbq,← hwb];replace HC:=HC';clear hbq hwb hx HC';refine Qe HC ?_;refine Qn 9 ?_;have z0:=H5.frozen 0;have z1:=H5.frozen 1;have z2:=H5.frozen 2;have z3:=H5.frozen 3;have z4:=H5.frozen 4;have z5:=H5.frozen 5;obtain ⟨x0,x1,x2,x3,x4,x5⟩:=H5.c6;have lx:=H5.lt;go_wp2;have H6:=Xf H5 (.int .i64 56) (.int .i64 1) (.int .i64 56) (.int .i64 5) (.int .i64 0) (.int .i64 1);replace HC:=Xe HC g5 (.int .i64 56) (.int .i64 1) (.int .i64 56) (.int .i64 5) (.int .i64 0) (.int .i64 1);clear z0 x0 z1 x1 z2 x2 z3 x3 z4 x4 z5 x5 lx H5
    generalize World.setCell _ _ _ = wq at *;refine Qm ?_;refine Qn 10 ?_;go_wp2;refine Qm ?_;refine Qt ?_;exact Yj b9 ⟨HC,H6⟩ rfl
   ·go_wp2;obtain ⟨b9,wb,hbq,hwb,H5,HC',hx,g5⟩:=Qp HC 72 #[.int .i64 0,.int .i64 0,.int .i64 0,.int .i64 0,.int .i64 0,.int .i64 0];rw [← hbq,← hwb];replace HC:=HC';clear hbq hwb hx HC';refine Qe HC ?_;refine Qk 4 ?_;go_wp2_with (go_at_call 23;(with_reducible refine zc (Bc (C.ext HC) (PR.ext HC) (Z.ext HC)) ?_);rintro e wa ⟨rfl,hx⟩);replace HC:=HC.trans hx;try replace H5:=H5.ext hx
    clear hx;refine Qe HC ?_;refine Qr (g:=4) [5] HC ?_
    constructor
    refine ⟨fun u hu => ?_,?_⟩
    ·obtain ⟨k0,k1⟩:=(B1.ext hu).c2;have lk:=(B1.ext hu).lt;obtain ⟨p0,p1,p2,p3,p4,p5,p6,p7⟩:=(B4.ext hu).c8;have lp:=(B4.ext hu).lt;exact Qj
    refine Jv (g:=2) [6,7] ?_
    constructor
    refine ⟨fun u hu => ?_,?_⟩
    ·exact Qj
    refine Qn 9 ?_;have z0:=H5.frozen 0;have z1:=H5.frozen 1;have z2:=H5.frozen 2;have z3:=H5.frozen 3;have z4:=H5.frozen 4;have z5:=H5.frozen 5;obtain ⟨x0,x1,x2,x3,x4,x5⟩:=H5.c6;have lx:=H5.lt;go_wp2;have H6:=Xf H5 (.int .i64 56) (.int .i64 1) (.int .i64 56) (.int .i64 5) (.int .i64 0) (.int .i64 1);replace HC:=Xe HC g5 (.int .i64 56) (.int .i64 1) (.int .i64 56) (.int .i64 5) (.int .i64 0) (.int .i64 1);clear z0 x0 z1 x1 z2 x2 z3 x3 z4 x4 z5 x5 lx H5;generalize World.setCell _ _ _ = wq at *;refine Qm ?_;refine Qn 10 ?_;go_wp2;refine Qm ?_;refine Qt ?_;exact Yj b9 ⟨HC,H6⟩ rfl
  ·go_wp2;obtain ⟨b9,wb,hbq,hwb,H5,HC',hx,g5⟩:=Qp HC 72 #[.int .i64 0,.int .i64 0,.int .i64 0,.int .i64 0,.int .i64 0,.int .i64 0];rw [← hbq,← hwb];replace HC:=HC';clear hbq hwb hx HC';refine Qe HC ?_;refine Qk 3 ?_;go_wp2_with (go_at_call 24;(with_reducible refine zc (Xg _ _ _ _) ?_);rintro e wa ⟨rfl,hx⟩);replace HC:=HC.trans hx;try replace H5:=H5.ext hx
   clear hx;refine Qe HC ?_;refine Qk 4 ?_;go_wp2_with (go_at_call 23;(with_reducible refine zc (Bc (C.ext HC) (PR.ext HC) (Z.ext HC)) ?_);rintro e wa ⟨rfl,hx⟩);replace HC:=HC.trans hx;try replace H5:=H5.ext hx
   clear hx;refine Qe HC ?_;refine Qr (g:=4) [5] HC ?_
   constructor
   refine ⟨fun u hu => ?_,?_⟩
   ·obtain ⟨k0,k1⟩:=(B1.ext hu).c2;have lk:=(B1.ext hu).lt;obtain ⟨p0,p1,p2,p3,p4,p5,p6,p7⟩:=(B4.ext hu).c8;have lp:=(B4.ext hu).lt;exact Qj
   refine Jv (g:=2) [6,7] ?_
   constructor
   refine ⟨fun u hu => ?_,?_⟩
   ·exact Qj
   refine Qn 9 ?_;have z0:=H5.frozen 0;have z1:=H5.frozen 1;have z2:=H5.frozen 2;have z3:=H5.frozen 3;have z4:=H5.frozen 4;have z5:=H5.frozen 5;obtain ⟨x0,x1,x2,x3,x4,x5⟩:=H5.c6;have lx:=H5.lt;go_wp2;have H6:=Xf H5 (.int .i64 56) (.int .i64 1) (.int .i64 56) (.int .i64 5) (.int .i64 0) (.int .i64 1);replace HC:=Xe HC g5 (.int .i64 56) (.int .i64 1) (.int .i64 56) (.int .i64 5) (.int .i64 0) (.int .i64 1);clear z0 x0 z1 x1 z2 x2 z3 x3 z4 x4 z5 x5 lx H5;generalize World.setCell _ _ _ = wq at *;refine Qm ?_;refine Qn 10 ?_;go_wp2;refine Qm ?_;refine Qt ?_;exact Yj b9 ⟨HC,H6⟩ rfl
 rintro b5 v5 ⟨h2,B5⟩;replace E:=E.trans h2;replace C:=C.ext h2;replace Z:=Z.ext h2;replace B1:=B1.ext h2;replace B2:=B2.ext h2;replace PR:=PR.ext h2;replace B4:=B4.ext h2;clear h2;go_upto_region 6 with (fail)
 apply K5 (S:=fun w' r => Qb v5 w' ∧ Qc w' r 65 #[.int .i64 336,.int .i64 5])
 ·refine Q5 11 [6,7,9,10] (fun x => Qb v5 x) mixed rfl ?_;intro vz hvz;have HC:=hvz;refine Qr (g:=8) [0,1,2] HC ?_
  constructor
  refine ⟨fun u hu => ?_,?_⟩
  ·obtain ⟨k0,k1⟩:=(B1.ext hu).c2;have lk:=(B1.ext hu).lt;obtain ⟨p0,p1,p2,p3,p4,p5,p6,p7⟩:=(B4.ext hu).c8;have lp:=(B4.ext hu).lt;exact Qj
  refine Zp 3 8 ?_ ?_
  ·go_wp2_with (go_at_call 24;(with_reducible refine zc (Xg _ _ _ _) ?_);rintro e wa ⟨rfl,hx⟩);replace HC:=HC.trans hx;try replace H5:=H5.ext hx
   clear hx;refine Qe HC ?_;refine Zp 4 8 ?_ ?_
   ·go_wp2_with (go_at_call 39;(with_reducible refine zc (Bd (C.ext HC) (PR.ext HC) (Z.ext HC)) ?_);rintro e wa ⟨rfl,hx⟩);replace HC:=HC.trans hx;try replace H5:=H5.ext hx
    clear hx;refine Qe HC ?_;refine Qr (g:=5) [5] HC ?_
    constructor
    refine ⟨fun u hu => ?_,?_⟩
    ·obtain ⟨k0,k1⟩:=(B1.ext hu).c2;have lk:=(B1.ext hu).lt;obtain ⟨p0,p1,p2,p3,p4,p5,p6,p7⟩:=(B4.ext hu).c8;have lp:=(B4.ext hu).lt;exact Qj
    refine Jv (g:=3) [6,7] ?_
    constructor
    refine ⟨fun u hu => ?_,?_⟩
    ·exact Qj
    refine Qk 8 ?_;go_wp2;obtain ⟨b9,wb,hbq,hwb,H5,HC',hx,g5⟩:=Qp HC 65 #[.int .i64 0,.int .i64 0];rw [← hbq,← hwb];replace HC:=HC';clear hbq hwb hx HC';refine Qe HC ?_;refine Qn 9 ?_;have z0:=H5.frozen 0;have z1:=H5.frozen 1;obtain ⟨x0,x1⟩:=H5.c2;have lx:=H5.lt;go_wp2;have H6:=Qo H5 (.int .i64 336) (.int .i64 5);replace HC:=(HC.setCell (p:=⟨b9,0,none⟩) g5 (.int .i64 336)).setCell (p:=⟨b9,1,none⟩) g5 (.int .i64 5);clear z0 x0 z1 x1 lx H5;generalize World.setCell _ _ _ = wq at *;refine Qm ?_;refine Qn 10 ?_;go_wp2;refine Qm ?_;refine Qt ?_;exact Yj b9 ⟨HC,H6⟩ rfl
   ·go_wp2;obtain ⟨b9,wb,hbq,hwb,H5,HC',hx,g5⟩:=Qp HC 65 #[.int .i64 0,.int .i64 0];rw [← hbq,← hwb];replace HC:=HC';clear hbq hwb hx HC';refine Qe HC ?_;refine Qk 4 ?_;go_wp2_with (go_at_call 39;(with_reducible refine zc (Bd (C.ext HC) (PR.ext HC) (Z.ext HC)) ?_);rintro e wa ⟨rfl,hx⟩);replace HC:=HC.trans hx;try replace H5:=H5.ext hx
    clear hx;refine Qe HC ?_;refine Qr (g:=4) [5] HC ?_
    constructor
    refine ⟨fun u hu => ?_,?_⟩
    ·obtain ⟨k0,k1⟩:=(B1.ext hu).c2;have lk:=(B1.ext hu).lt;obtain ⟨p0,p1,p2,p3,p4,p5,p6,p7⟩:=(B4.ext hu).c8;have lp:=(B4.ext hu).lt;exact Qj
    refine Jv (g:=2) [6,7] ?_
    constructor
    refine ⟨fun u hu => ?_,?_⟩
    ·exact Qj
    refine Qn 9 ?_;have z0:=H5.frozen 0;have z1:=H5.frozen 1;obtain ⟨x0,x1⟩:=H5.c2;have lx:=H5.lt;go_wp2;have H6:=Qo H5 (.int .i64 336) (.int .i64 5);replace HC:=(HC.setCell (p:=⟨b9,0,none⟩) g5 (.int .i64 336)).setCell (p:=⟨b9,1,none⟩) g5 (.int .i64 5);clear z0 x0 z1 x1 lx H5;generalize World.setCell _ _ _ = wq at *;refine Qm ?_;refine Qn 10 ?_;go_wp2;refine Qm ?_;refine Qt ?_;exact Yj b9 ⟨HC,H6⟩ rfl
  ·go_wp2;obtain ⟨b9,wb,hbq,hwb,H5,HC',hx,g5⟩:=Qp HC 65 #[.int .i64 0,.int .i64 0];rw [← hbq,← hwb];replace HC:=HC';clear hbq hwb hx HC';refine Qe HC ?_;refine Qk 3 ?_;go_wp2_with (go_at_call 24;(with_reducible refine zc (Xg _ _ _ _) ?_);rintro e wa ⟨rfl,hx⟩);replace HC:=HC.trans hx;try replace H5:=H5.ext hx
   clear hx;refine Qe HC ?_;refine Qk 4 ?_;go_wp2_with (go_at_call 39;(with_reducible refine zc (Bd (C.ext HC) (PR.ext HC) (Z.ext HC)) ?_);rintro e wa ⟨rfl,hx⟩);replace HC:=HC.trans hx;try replace H5:=H5.ext hx
   clear hx;refine Qe HC ?_;refine Qr (g:=4) [5] HC ?_
   constructor
   refine ⟨fun u hu => ?_,?_⟩
   ·obtain ⟨k0,k1⟩:=(B1.ext hu).c2;have lk:=(B1.ext hu).lt;obtain ⟨p0,p1,p2,p3,p4,p5,p6,p7⟩:=(B4.ext hu).c8;have lp:=(B4.ext hu).lt;exact Qj
   refine Jv (g:=2) [6,7] ?_
   constructor
   refine ⟨fun u hu => ?_,?_⟩
   ·exact Qj
   refine Qn 9 ?_;have z0:=H5.frozen 0;have z1:=H5.frozen 1;obtain ⟨x0,x1⟩:=H5.c2;have lx:=H5.lt;go_wp2;have H6:=Qo H5 (.int .i64 336) (.int .i64 5);replace HC:=(HC.setCell (p:=⟨b9,0,none⟩) g5 (.int .i64 336)).setCell (p:=⟨b9,1,none⟩) g5 (.int .i64 5);clear z0 x0 z1 x1 lx H5;generalize World.setCell _ _ _ = wq at *;refine Qm ?_;refine Qn 10 ?_;go_wp2;refine Qm ?_;refine Qt ?_;exact Yj b9 ⟨HC,H6⟩ rfl
 rintro b6 v6 ⟨h2,B6⟩;replace E:=E.trans h2;replace C:=C.ext h2;replace Z:=Z.ext h2;replace B1:=B1.ext h2;replace B2:=B2.ext h2;replace PR:=PR.ext h2;replace B4:=B4.ext h2;replace B5:=B5.ext h2;clear h2;clear PR B4;go_upto_region 7 with (fail)
 obtain ⟨k0,k1⟩:=B2.c2;have lk:=B2.lt;obtain ⟨x0,x1,x2,x3,x4,x5⟩:=B5.c6;have lx:=B5.lt;obtain ⟨y0,y1⟩:=B6.c2;have ly:=B6.lt;refine Nr v6 mixed (by kernel_rfl) Qu ?_;intro hne hrx hry;try simp only []
 try simp only [List.append_eq,List.cons_append,List.nil_append]
 skip
 repeat (first
  | go_big_quiet_skip
  | (go_big_quiet_want;go_big_quiet_op;go_big_quiet_on)
  | (go_big_quiet_want;go_big_quiet_op;apply Exists.intro;refine ⟨fun u => ?_,?_⟩
     ·first
       | (go_at_call 25;(with_reducible refine zc (U8 _ _ _) ?_);rintro e w' ⟨rfl,hb⟩;exact ⟨rfl,u.back hb⟩)
     go_big_quiet_on))
 clear hne hry hrx;refine wpQuiet_nil ?_;intro v7 h2;obtain ⟨hcv7,hfv7,hzv7⟩:=Qb.rules h2;try simp only [World.size_alloc] at hzv7
 obtain ⟨hcbv7,hfbv7,hzbv7⟩:=Qb.rules (show Qb v6 v7 from Qu);clear hcv7 hfv7;replace E:=E.trans h2;replace C:=C.ext h2;replace Z:=Z.ext h2;replace B1:=B1.ext h2;replace B2:=B2.ext h2;replace B5:=B5.ext h2;replace B6:=B6.ext h2;clear h2;clear k0 k1 lk x0 x1 x2 x3 x4 x5 lx y0 y1 ly B2 B5 B6;go_upto_region 10 with (go_at_call 25;(with_reducible refine zc (U8 _ _ _) ?_);rintro e wa ⟨rfl,hx⟩;replace E:=E.trans hx;replace C:=C.ext hx;replace Z:=Z.ext hx;replace B1:=B1.ext hx;clear hx)
 obtain ⟨v9,hv⟩:=Qf (wa.alloc (.cells #[.int .i64 10,.int .i64 1,.int .i64 1,.int .i64 3,.int .i64 5,.int .i64 1,.int .i64 1,.int .i64 1] 108));rw [← hv];have h2 : Qb wa v9:=by rw [hv];exact (Qb.refl _).alloc _
 have B7 : Qc v9 wa.heap.size 108 #[.int .i64 10,.int .i64 1,.int .i64 1,.int .i64 3,.int .i64 5,.int .i64 1,.int .i64 1,.int .i64 1]:=by rw [hv];exact Qc.new _ _ _
 clear hv;generalize wa.heap.size = b7 at *;have PT:=Qmm B7;clear B7;replace E:=E.trans h2;replace C:=C.ext h2;replace Z:=Z.ext h2;replace B1:=B1.ext h2;clear h2;go_upto_region 10 with (fail)
 apply Kf (S:=fun w' r _ => Qb v9 w' ∧ Qc w' r 65 #[.int .i64 (-5),.int .i64 1])
 ·refine Q5 14 [9,10,12,13] (fun x => Qb v9 x) mixed rfl ?_;intro vz hvz;have HC:=hvz;refine Qr (g:=12) [0,1] HC ?_
  constructor
  refine ⟨fun u hu => ?_,?_⟩
  ·obtain ⟨k0,k1⟩:=(B1.ext hu).c2;have lk:=(B1.ext hu).lt;exact Qj
  refine Zp 2 11 ?_ ?_
  ·go_wp2_with (go_at_call 25;(with_reducible refine zc (U8 _ _ _) ?_);rintro e wa ⟨rfl,hx⟩);replace HC:=HC.trans hx;try replace H5:=H5.ext hx
   clear hx;refine Qe HC ?_;refine Zp 3 11 ?_ ?_
   ·go_wp2_with (go_at_call 24;(with_reducible refine zc (Xg _ _ _ _) ?_);rintro e wa ⟨rfl,hx⟩);replace HC:=HC.trans hx;try replace H5:=H5.ext hx
    clear hx;refine Qe HC ?_;refine Zp 4 11 ?_ ?_
    ·go_wp2_with (go_at_call 24;(with_reducible refine zc (Xg _ _ _ _) ?_);rintro e wa ⟨rfl,hx⟩);replace HC:=HC.trans hx;try replace H5:=H5.ext hx
     clear hx;refine Qe HC ?_;refine Qr (g:=8) [5] HC ?_
     constructor
     refine ⟨fun u hu => ?_,?_⟩
     ·obtain ⟨k0,k1⟩:=(B1.ext hu).c2;have lk:=(B1.ext hu).lt;exact Qj
     refine Zp 6 11 ?_ ?_
     ·go_wp2;obtain ⟨bc,wb,hbq,hwb,HCW,HC',hx,_⟩:=Qp HC 112 #[.int .i64 2,.int .i64 1,.int .i64 2,.int .i64 0,.int .i64 1,.bool false,.int .i64 1,.int .i64 0,.int .i64 1,.bool false,.int .i64 30];rw [← hbq,← hwb];replace HC:=HC';try replace H5:=H5.ext hx
      clear hbq hwb hx HC';refine Qe HC ?_;refine Zp 7 11 ?_ ?_
      ·go_wp2_with (go_at_call 40;(with_reducible refine zc (Np (C.ext HC) (PT.ext HC) (Ng HCW) (Z.ext HC)) ?_);rintro e wa ⟨rfl,hx⟩);replace HC:=HC.trans hx;try replace H5:=H5.ext hx
       clear hx;refine Qe HC ?_;refine Qr (g:=5) [8] HC ?_
       constructor
       refine ⟨fun u hu => ?_,?_⟩
       ·obtain ⟨k0,k1⟩:=(B1.ext hu).c2;have lk:=(B1.ext hu).lt;exact Qj
       refine Jv (g:=3) [9,10] ?_
       constructor
       refine ⟨fun u hu => ?_,?_⟩
       ·exact Qj
       refine Qk 11 ?_;go_wp2;obtain ⟨b9,wb,hbq,hwb,H5,HC',hx,g5⟩:=Qp HC 65 #[.int .i64 0,.int .i64 0];rw [← hbq,← hwb];replace HC:=HC';try replace HCW:=HCW.ext hx
       clear hbq hwb hx HC';refine Qe HC ?_;refine Qn 12 ?_;have z0:=H5.frozen 0;have z1:=H5.frozen 1;obtain ⟨x0,x1⟩:=H5.c2;have lx:=H5.lt;go_wp2;have H6:=Qo H5 (.int .i64 (-5)) (.int .i64 1);replace HC:=(HC.setCell (p:=⟨b9,0,none⟩) g5 (.int .i64 (-5))).setCell (p:=⟨b9,1,none⟩) g5 (.int .i64 1);clear z0 x0 z1 x1 lx H5;generalize World.setCell _ _ _ = wq at *;refine Qm ?_;refine Qn 13 ?_;go_wp2;refine Qm ?_;refine Qt ?_;exact Jm b9 bc ⟨HC,H6⟩ rfl
      ·go_wp2;obtain ⟨b9,wb,hbq,hwb,H5,HC',hx,g5⟩:=Qp HC 65 #[.int .i64 0,.int .i64 0];rw [← hbq,← hwb];replace HC:=HC';try replace HCW:=HCW.ext hx
       clear hbq hwb hx HC';refine Qe HC ?_;refine Qk 7 ?_;go_wp2_with (go_at_call 40;(with_reducible refine zc (Np (C.ext HC) (PT.ext HC) (Ng HCW) (Z.ext HC)) ?_);rintro e wa ⟨rfl,hx⟩);replace HC:=HC.trans hx;try replace H5:=H5.ext hx
       clear hx;refine Qe HC ?_;refine Qr (g:=4) [8] HC ?_
       constructor
       refine ⟨fun u hu => ?_,?_⟩
       ·obtain ⟨k0,k1⟩:=(B1.ext hu).c2;have lk:=(B1.ext hu).lt;exact Qj
       refine Jv (g:=2) [9,10] ?_
       constructor
       refine ⟨fun u hu => ?_,?_⟩
       ·exact Qj
       refine Qn 12 ?_;have z0:=H5.frozen 0;have z1:=H5.frozen 1;obtain ⟨x0,x1⟩:=H5.c2;have lx:=H5.lt;go_wp2;have H6:=Qo H5 (.int .i64 (-5)) (.int .i64 1);replace HC:=(HC.setCell (p:=⟨b9,0,none⟩) g5 (.int .i64 (-5))).setCell (p:=⟨b9,1,none⟩) g5 (.int .i64 1);clear z0 x0 z1 x1 lx H5;generalize World.setCell _ _ _ = wq at *;refine Qm ?_;refine Qn 13 ?_;go_wp2;refine Qm ?_;refine Qt ?_;exact Jm b9 bc ⟨HC,H6⟩ rfl
     ·go_wp2;obtain ⟨b9,wb,hbq,hwb,H5,HC',hx,g5⟩:=Qp HC 65 #[.int .i64 0,.int .i64 0];rw [← hbq,← hwb];replace HC:=HC';try replace HCW:=HCW.ext hx
      clear hbq hwb hx HC';refine Qe HC ?_;refine Qk 6 ?_;go_wp2;obtain ⟨bc,wb,hbq,hwb,HCW,HC',hx,_⟩:=Qp HC 112 #[.int .i64 2,.int .i64 1,.int .i64 2,.int .i64 0,.int .i64 1,.bool false,.int .i64 1,.int .i64 0,.int .i64 1,.bool false,.int .i64 30];rw [← hbq,← hwb];replace HC:=HC';try replace H5:=H5.ext hx
      clear hbq hwb hx HC';refine Qe HC ?_;refine Qk 7 ?_;go_wp2_with (go_at_call 40;(with_reducible refine zc (Np (C.ext HC) (PT.ext HC) (Ng HCW) (Z.ext HC)) ?_);rintro e wa ⟨rfl,hx⟩);replace HC:=HC.trans hx;try replace H5:=H5.ext hx
      clear hx;refine Qe HC ?_;refine Qr (g:=4) [8] HC ?_
      constructor
      refine ⟨fun u hu => ?_,?_⟩
      ·obtain ⟨k0,k1⟩:=(B1.ext hu).c2;have lk:=(B1.ext hu).lt;exact Qj
      refine Jv (g:=2) [9,10] ?_
      constructor
      refine ⟨fun u hu => ?_,?_⟩
      ·exact Qj
      refine Qn 12 ?_;have z0:=H5.frozen 0;have z1:=H5.frozen 1;obtain ⟨x0,x1⟩:=H5.c2;have lx:=H5.lt;go_wp2;have H6:=Qo H5 (.int .i64 (-5)) (.int .i64 1);replace HC:=(HC.setCell (p:=⟨b9,0,none⟩) g5 (.int .i64 (-5))).setCell (p:=⟨b9,1,none⟩) g5 (.int .i64 1);clear z0 x0 z1 x1 lx H5;generalize World.setCell _ _ _ = wq at *;refine Qm ?_;refine Qn 13 ?_;go_wp2;refine Qm ?_;refine Qt ?_;exact Jm b9 bc ⟨HC,H6⟩ rfl
    ·go_wp2;obtain ⟨b9,wb,hbq,hwb,H5,HC',hx,g5⟩:=Qp HC 65 #[.int .i64 0,.int .i64 0];rw [← hbq,← hwb];replace HC:=HC';try replace HCW:=HCW.ext hx
     clear hbq hwb hx HC';refine Qe HC ?_;refine Qk 4 ?_;go_wp2_with (go_at_call 24;(with_reducible refine zc (Xg _ _ _ _) ?_);rintro e wa ⟨rfl,hx⟩);replace HC:=HC.trans hx;try replace H5:=H5.ext hx
     clear hx;refine Qe HC ?_;refine Qr (g:=7) [5] HC ?_
     constructor
     refine ⟨fun u hu => ?_,?_⟩
     ·obtain ⟨k0,k1⟩:=(B1.ext hu).c2;have lk:=(B1.ext hu).lt;exact Qj
     refine Qk 6 ?_;go_wp2;obtain ⟨bc,wb,hbq,hwb,HCW,HC',hx,_⟩:=Qp HC 112 #[.int .i64 2,.int .i64 1,.int .i64 2,.int .i64 0,.int .i64 1,.bool false,.int .i64 1,.int .i64 0,.int .i64 1,.bool false,.int .i64 30];rw [← hbq,← hwb];replace HC:=HC';try replace H5:=H5.ext hx
     clear hbq hwb hx HC';refine Qe HC ?_;refine Qk 7 ?_;go_wp2_with (go_at_call 40;(with_reducible refine zc (Np (C.ext HC) (PT.ext HC) (Ng HCW) (Z.ext HC)) ?_);rintro e wa ⟨rfl,hx⟩);replace HC:=HC.trans hx;try replace H5:=H5.ext hx
     clear hx;refine Qe HC ?_;refine Qr (g:=4) [8] HC ?_
     constructor
     refine ⟨fun u hu => ?_,?_⟩
     ·obtain ⟨k0,k1⟩:=(B1.ext hu).c2;have lk:=(B1.ext hu).lt;exact Qj
     refine Jv (g:=2) [9,10] ?_
     constructor
     refine ⟨fun u hu => ?_,?_⟩
     ·exact Qj
     refine Qn 12 ?_;have z0:=H5.frozen 0;have z1:=H5.frozen 1;obtain ⟨x0,x1⟩:=H5.c2;have lx:=H5.lt;go_wp2;have H6:=Qo H5 (.int .i64 (-5)) (.int .i64 1);replace HC:=(HC.setCell (p:=⟨b9,0,none⟩) g5 (.int .i64 (-5))).setCell (p:=⟨b9,1,none⟩) g5 (.int .i64 1);clear z0 x0 z1 x1 lx H5;generalize World.setCell _ _ _ = wq at *;refine Qm ?_;refine Qn 13 ?_;go_wp2;refine Qm ?_;refine Qt ?_;exact Jm b9 bc ⟨HC,H6⟩ rfl
   ·go_wp2;obtain ⟨b9,wb,hbq,hwb,H5,HC',hx,g5⟩:=Qp HC 65 #[.int .i64 0,.int .i64 0];rw [← hbq,← hwb];replace HC:=HC';try replace HCW:=HCW.ext hx
    clear hbq hwb hx HC';refine Qe HC ?_;refine Qk 3 ?_;go_wp2_with (go_at_call 24;(with_reducible refine zc (Xg _ _ _ _) ?_);rintro e wa ⟨rfl,hx⟩);replace HC:=HC.trans hx;try replace H5:=H5.ext hx
    clear hx;refine Qe HC ?_;refine Qk 4 ?_;go_wp2_with (go_at_call 24;(with_reducible refine zc (Xg _ _ _ _) ?_);rintro e wa ⟨rfl,hx⟩);replace HC:=HC.trans hx;try replace H5:=H5.ext hx
    clear hx;refine Qe HC ?_;refine Qr (g:=7) [5] HC ?_
    constructor
    refine ⟨fun u hu => ?_,?_⟩
    ·obtain ⟨k0,k1⟩:=(B1.ext hu).c2;have lk:=(B1.ext hu).lt;exact Qj
    refine Qk 6 ?_;go_wp2;obtain ⟨bc,wb,hbq,hwb,HCW,HC',hx,_⟩:=Qp HC 112 #[.int .i64 2,.int .i64 1,.int .i64 2,.int .i64 0,.int .i64 1,.bool false,.int .i64 1,.int .i64 0,.int .i64 1,.bool false,.int .i64 30];rw [← hbq,← hwb];replace HC:=HC';try replace H5:=H5.ext hx
    clear hbq hwb hx HC';refine Qe HC ?_;refine Qk 7 ?_;go_wp2_with (go_at_call 40;(with_reducible refine zc (Np (C.ext HC) (PT.ext HC) (Ng HCW) (Z.ext HC)) ?_);rintro e wa ⟨rfl,hx⟩);replace HC:=HC.trans hx;try replace H5:=H5.ext hx
    clear hx;refine Qe HC ?_;refine Qr (g:=4) [8] HC ?_
    constructor
    refine ⟨fun u hu => ?_,?_⟩
    ·obtain ⟨k0,k1⟩:=(B1.ext hu).c2;have lk:=(B1.ext hu).lt;exact Qj
    refine Jv (g:=2) [9,10] ?_
    constructor
    refine ⟨fun u hu => ?_,?_⟩
    ·exact Qj
    refine Qn 12 ?_;have z0:=H5.frozen 0;have z1:=H5.frozen 1;obtain ⟨x0,x1⟩:=H5.c2;have lx:=H5.lt;go_wp2;have H6:=Qo H5 (.int .i64 (-5)) (.int .i64 1);replace HC:=(HC.setCell (p:=⟨b9,0,none⟩) g5 (.int .i64 (-5))).setCell (p:=⟨b9,1,none⟩) g5 (.int .i64 1);clear z0 x0 z1 x1 lx H5;generalize World.setCell _ _ _ = wq at *;refine Qm ?_;refine Qn 13 ?_;go_wp2;refine Qm ?_;refine Qt ?_;exact Jm b9 bc ⟨HC,H6⟩ rfl
  ·go_wp2;obtain ⟨b9,wb,hbq,hwb,H5,HC',hx,g5⟩:=Qp HC 65 #[.int .i64 0,.int .i64 0];rw [← hbq,← hwb];replace HC:=HC';try replace HCW:=HCW.ext hx
   clear hbq hwb hx HC';refine Qe HC ?_;refine Qk 2 ?_;go_wp2_with (go_at_call 25;(with_reducible refine zc (U8 _ _ _) ?_);rintro e wa ⟨rfl,hx⟩);replace HC:=HC.trans hx;try replace H5:=H5.ext hx
   clear hx;refine Qe HC ?_;refine Qk 3 ?_;go_wp2_with (go_at_call 24;(with_reducible refine zc (Xg _ _ _ _) ?_);rintro e wa ⟨rfl,hx⟩);replace HC:=HC.trans hx;try replace H5:=H5.ext hx
   clear hx;refine Qe HC ?_;refine Qk 4 ?_;go_wp2_with (go_at_call 24;(with_reducible refine zc (Xg _ _ _ _) ?_);rintro e wa ⟨rfl,hx⟩);replace HC:=HC.trans hx;try replace H5:=H5.ext hx
   clear hx;refine Qe HC ?_;refine Qr (g:=7) [5] HC ?_
   constructor
   refine ⟨fun u hu => ?_,?_⟩
   ·obtain ⟨k0,k1⟩:=(B1.ext hu).c2;have lk:=(B1.ext hu).lt;exact Qj
   refine Qk 6 ?_;go_wp2;obtain ⟨bc,wb,hbq,hwb,HCW,HC',hx,_⟩:=Qp HC 112 #[.int .i64 2,.int .i64 1,.int .i64 2,.int .i64 0,.int .i64 1,.bool false,.int .i64 1,.int .i64 0,.int .i64 1,.bool false,.int .i64 30];rw [← hbq,← hwb];replace HC:=HC';try replace H5:=H5.ext hx
   clear hbq hwb hx HC';refine Qe HC ?_;refine Qk 7 ?_;go_wp2_with (go_at_call 40;(with_reducible refine zc (Np (C.ext HC) (PT.ext HC) (Ng HCW) (Z.ext HC)) ?_);rintro e wa ⟨rfl,hx⟩);replace HC:=HC.trans hx;try replace H5:=H5.ext hx
   clear hx;refine Qe HC ?_;refine Qr (g:=4) [8] HC ?_
   constructor
   refine ⟨fun u hu => ?_,?_⟩
   ·obtain ⟨k0,k1⟩:=(B1.ext hu).c2;have lk:=(B1.ext hu).lt;exact Qj
   refine Jv (g:=2) [9,10] ?_
   constructor
   refine ⟨fun u hu => ?_,?_⟩
   ·exact Qj
   refine Qn 12 ?_;have z0:=H5.frozen 0;have z1:=H5.frozen 1;obtain ⟨x0,x1⟩:=H5.c2;have lx:=H5.lt;go_wp2;have H6:=Qo H5 (.int .i64 (-5)) (.int .i64 1);replace HC:=(HC.setCell (p:=⟨b9,0,none⟩) g5 (.int .i64 (-5))).setCell (p:=⟨b9,1,none⟩) g5 (.int .i64 1);clear z0 x0 z1 x1 lx H5;generalize World.setCell _ _ _ = wq at *;refine Qm ?_;refine Qn 13 ?_;go_wp2;refine Qm ?_;refine Qt ?_;exact Jm b9 bc ⟨HC,H6⟩ rfl
 rintro b10 bc v10 ⟨h2,B10⟩;replace E:=E.trans h2;replace C:=C.ext h2;replace Z:=Z.ext h2;replace B1:=B1.ext h2;replace PT:=PT.ext h2;clear h2;go_upto_region 11 with (fail)
 obtain ⟨k0,k1⟩:=B1.c2;have lk:=B1.lt;refine Nr v10 mixed (by kernel_rfl) Qu ?_;intro hne hrx hry;try simp only []
 try simp only [List.append_eq,List.cons_append,List.nil_append]
 skip
 repeat (first
  | go_big_quiet_skip
  | (go_big_quiet_want;go_big_quiet_op;go_big_quiet_on)
  | (go_big_quiet_want;go_big_quiet_op;apply Exists.intro;refine ⟨fun u => ?_,?_⟩
     ·first
       | (go_at_call 25;(with_reducible refine zc (U8 _ _ _) ?_);rintro e w' ⟨rfl,hb⟩;exact ⟨rfl,u.back hb⟩)
       | (go_at_call 24;(with_reducible refine zc (Xg _ _ _ _) ?_);rintro e w' ⟨rfl,hb⟩;exact ⟨rfl,u.back hb⟩)
       | (go_at_call 41;(with_reducible refine zc (w8_few (C.ext u.e) (PT.ext u.e) (Z.ext u.e)) ?_);rintro e w' ⟨rfl,hb⟩;exact ⟨rfl,u.back hb⟩)
     go_big_quiet_on))
 clear hne hry hrx;refine wpQuiet_nil ?_;intro v11 h2;obtain ⟨hcv11,hfv11,hzv11⟩:=Qb.rules h2;try simp only [World.size_alloc] at hzv11
 obtain ⟨hcbv11,hfbv11,hzbv11⟩:=Qb.rules (show Qb v10 v11 from Qu);clear hcv11 hfv11;replace E:=E.trans h2;replace C:=C.ext h2;replace Z:=Z.ext h2;replace B1:=B1.ext h2;replace PT:=PT.ext h2;replace B10:=B10.ext h2;clear h2;clear k0 k1 lk PT;go_upto_region 13 with (first | (go_at_call 25;(with_reducible refine zc (U8 _ _ _) ?_);rintro e wa ⟨rfl,hx⟩;replace E:=E.trans hx;replace C:=C.ext hx;replace Z:=Z.ext hx;replace B1:=B1.ext hx;replace B10:=B10.ext hx;clear hx) | (go_at_call 42;(with_reducible refine zc (Qnu _) ?_);rintro e w12 ⟨rfl,hx⟩;replace E:=E.trans hx;replace C:=C.ext hx;replace Z:=Z.ext hx;replace B1:=B1.ext hx;replace B10:=B10.ext hx;clear hx))
 obtain ⟨v12,hv⟩:=Qf (w12.alloc (.cells #[.int .i64 12,.int .i64 4,.int .i64 7] 116));rw [← hv];have h2 : Qb w12 v12:=by rw [hv];exact (Qb.refl _).alloc _
 have B12 : Qc v12 w12.heap.size 116 #[.int .i64 12,.int .i64 4,.int .i64 7]:=by rw [hv];exact Qc.new _ _ _
 clear hv;generalize w12.heap.size = b12 at *;replace E:=E.trans h2;replace C:=C.ext h2;replace Z:=Z.ext h2;replace B1:=B1.ext h2;replace B10:=B10.ext h2;clear h2;obtain ⟨x0,x1⟩:=B10.c2;have lx:=B10.lt;obtain ⟨y0,y1,y2⟩:=B12.c3;have ly:=B12.lt;refine Nr v12 mixed (by kernel_rfl) Qu ?_;intro hne hrx hry;try simp only []
 try simp only [List.append_eq,List.cons_append,List.nil_append]
 skip
 repeat (first
  | go_big_quiet_skip
  | (go_big_quiet_want;go_big_quiet_op;go_big_quiet_on)
  | (go_big_quiet_want;go_big_quiet_op;apply Exists.intro;refine ⟨fun u => ?_,?_⟩
     ·first
       | (go_at_call 25;(with_reducible refine zc (U8 _ _ _) ?_);rintro e w' ⟨rfl,hb⟩;exact ⟨rfl,u.back hb⟩)
     go_big_quiet_on))
 clear hne hry hrx;refine wpQuiet_nil ?_;intro v13 h2;obtain ⟨hcv13,hfv13,hzv13⟩:=Qb.rules h2;try simp only [World.size_alloc] at hzv13
 obtain ⟨hcbv13,hfbv13,hzbv13⟩:=Qb.rules (show Qb v12 v13 from Qu);clear hcv13 hfv13;clear x0 x1 lx y0 y1 y2 ly B10 B12;replace E:=E.trans h2;replace C:=C.ext h2;replace Z:=Z.ext h2;replace B1:=B1.ext h2;clear h2;go_upto_region 15 with (fail)
 refine Q5 18 [14,15,16,17] (fun x => Qb v13 x) mixed rfl ?_;intro vz hvz;have HC:=hvz;refine Qr (g:=17) [0] HC ?_
 constructor
 refine ⟨fun u hu => ?_,?_⟩
 ·obtain ⟨k0,k1⟩:=(B1.ext hu).c2;have lk:=(B1.ext hu).lt;exact Qj
 refine Qk 1 ?_;go_wp2_with (go_at_call 24;(with_reducible refine zc (Xg _ _ _ _) ?_);rintro e wa ⟨rfl,hx⟩);replace HC:=HC.trans hx;try replace LO:=LO.ext hx
 try replace LX:=LX.ext hx
 try replace LY:=LY.ext hx
 clear hx;refine Qe HC ?_;refine Qk 2 ?_;go_wp2_with (go_at_call 24;(with_reducible refine zc (Xg _ _ _ _) ?_);rintro e wa ⟨rfl,hx⟩);replace HC:=HC.trans hx;try replace LO:=LO.ext hx
 try replace LX:=LX.ext hx
 try replace LY:=LY.ext hx
 clear hx;refine Qe HC ?_;refine Qk 3 ?_;go_wp2_with (go_at_call 20;(with_reducible refine zc (Oo _ _ _) ?_);rintro e wa ⟨bo,rfl,hx,LO⟩);replace HC:=HC.trans hx;try replace LX:=LX.ext hx
 try replace LY:=LY.ext hx
 clear hx;refine Qe HC ?_;refine Qk 4 ?_;go_wp2_with (go_at_call 24;(with_reducible refine zc (Xg _ _ _ _) ?_);rintro e wa ⟨rfl,hx⟩);replace HC:=HC.trans hx;try replace LO:=LO.ext hx
 try replace LX:=LX.ext hx
 try replace LY:=LY.ext hx
 clear hx;refine Qe HC ?_;refine Qk 5 ?_;go_wp2_with (go_at_call 20;(with_reducible refine zc (Oo _ _ _) ?_);rintro e wa ⟨bx,rfl,hx,LX⟩);replace HC:=HC.trans hx;try replace LO:=LO.ext hx
 try replace LY:=LY.ext hx
 clear hx;refine Qe HC ?_;refine Qr (g:=11) [6] HC ?_
 constructor
 refine ⟨fun u hu => ?_,?_⟩
 ·obtain ⟨k0,k1⟩:=(B1.ext hu).c2;have lk:=(B1.ext hu).lt;exact Qj
 refine Qk 7 ?_;go_wp2_with (go_at_call 24;(with_reducible refine zc (Xg _ _ _ _) ?_);rintro e wa ⟨rfl,hx⟩);replace HC:=HC.trans hx;try replace LO:=LO.ext hx
 try replace LX:=LX.ext hx
 try replace LY:=LY.ext hx
 clear hx;refine Qe HC ?_;refine Qk 8 ?_;go_wp2_with (go_at_call 20;(with_reducible refine zc (Oo _ _ _) ?_);rintro e wa ⟨by',rfl,hx,LY⟩);replace HC:=HC.trans hx;try replace LO:=LO.ext hx
 try replace LX:=LX.ext hx
 clear hx;refine Qe HC ?_;refine Qr (g:=8) [9] HC ?_
 constructor
 refine ⟨fun u hu => ?_,?_⟩
 ·obtain ⟨k0,k1⟩:=(B1.ext hu).c2;have lk:=(B1.ext hu).lt;exact Qj
 refine Qk 10 ?_;go_wp2;obtain ⟨bd,wb,hbq,hwb,HD,HC',hx,_⟩:=Qp HC 57 #[.int .i64 0,.int .i64 1,.bool false,.int .i64 2,.bool true,.string ⟨#[98]⟩,.slice (some ⟨bx,0,none⟩) 1 1,.int .i64 0,.int .i64 1,.bool false,.int .i64 2,.bool false,.string ⟨#[98]⟩,.slice (some ⟨by',0,none⟩) 1 1];rw [← hbq,← hwb];replace HC:=HC';try replace LO:=LO.ext hx
 try replace LX:=LX.ext hx
 try replace LY:=LY.ext hx
 clear hbq hwb hx HC';refine Qe HC ?_;refine Qr (g:=6) [11] HC ?_
 constructor
 refine ⟨fun u hu => ?_,?_⟩
 ·obtain ⟨k0,k1⟩:=(B1.ext hu).c2;have lk:=(B1.ext hu).lt;exact Qj
 refine Qk 12 ?_;have NC:=Qnt (C.ext HC) LO LX LY HD;go_wp2_with (go_at_call 43;(with_reducible refine zc (NC) ?_);rintro e wa ⟨v16,rfl,hx,L16⟩);replace HC:=HC.trans hx;clear hx NC;refine Qe HC ?_;refine Qr (g:=4) [13] HC ?_
 constructor
 refine ⟨fun u hu => ?_,?_⟩
 ·obtain ⟨k0,k1⟩:=(B1.ext hu).c2;have lk:=(B1.ext hu).lt;exact Qj
 refine Jv (g:=2) [14,15] ?_
 constructor
 refine ⟨fun u hu => ?_,?_⟩
 ·exact Qj
 refine Qn 16 ?_;go_wp2;refine Qm ?_;refine Qn 17 ?_;go_wp2;refine Qm ?_;refine Qt ?_;replace E:=E.trans HC;clear HC LO LX LY HD;go_wp2_with (first | (go_at_call 20;(with_reducible refine zc (Oo _ _ _) ?_);rintro e wa ⟨bl,rfl,hx,LL⟩;have NS:=Qmq _ _ [⟨Um,-5⟩] [⟨Um,-5⟩] _ (L16.ext hx) LL;rw [decide_eq_true (rfl : ([⟨Um,-5⟩] : List Lt) = [⟨Um,-5⟩])] at NS) | (go_at_call 29;(with_reducible refine zc (NS) ?_);rintro e wz ⟨rfl,hz⟩));go_ret;exact ⟨rfl,(E.trans hx).trans hz⟩
end
end Go.Proofs.YtoflcheopfppoaaGreatDoor
