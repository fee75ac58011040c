/- Walks and plain facts, packed; no conditions but those that each states. -/
import Derived.Test.YtoflcheopfppoaaGreatDoorK15
import Derived.Maps.OwnRows
import Derived.Maps.GroupsBeside
import Derived.Maps.Views
import Derived.Maps.RangeWalk
import Derived.Sort.Grow
import Derived.Sort.Statements
import Derived.Shelf.GgSortFunc.InsertionK
import Derived.Shelf.SlLaysF0
import Derived.Test.YtoflcheopfppoaaGreatDoorProg
import Derived.Shelf.SlSortCmp.WholeK
import Derived.Shelf.SlSortCmp.NoneTotal
set_option maxRecDepth 100000
set_option maxHeartbeats 4000000
namespace Go.Proofs.YtoflcheopfppoaaGreatDoor
section
open Go Go.RowKit Go.Shelf
attribute [local go_sem] Z8
def FI (ba : Nat) (W W' : World) : Prop:=W.heap.size ≤ W'.heap.size ∧ ∀ b,b < W.heap.size → b ≠ ba → (∀ cs fz,W.heap[b]? ≠ some (.cells cs 47 fz)) → W'.heap[b]? = W.heap[b]?
theorem FI.refl (ba : Nat) (W : World) : FI ba W W:=⟨Nat.le_refl _,fun _ _ _ _ => rfl⟩
theorem FI.trans {ba : Nat} {W W1 W2 : World} (h : FI ba W W1) (k : FI ba W1 W2) : FI ba W W2:=⟨Nat.le_trans h.1 k.1,fun b hb hn ht => by
 have e:=h.2 b hb hn ht;rw [k.2 b (Nat.lt_of_lt_of_le hb h.1) hn (by rw [e];exact ht),e]⟩
theorem FI.exts {ba : Nat} {W W1 : World} (x : Qc W W1) : FI ba W W1:=⟨x.size,fun _ hb _ _ => x.block hb⟩
theorem FI.ext {ba : Nat} {W W1 W2 : World} (h : FI ba W W1) (x : Qc W1 W2) : FI ba W W2:=h.trans (FI.exts x)
theorem FI.held {ba : Nat} {W W' : World} (h : FI ba W W') {b : Nat} {t : TypeId} {cs : Array Value} (hb : Qb W b t cs) (hn : b ≠ ba) (ht : t ≠ 47) : Qb W' b t cs:=(h.2 b hb.lt hn (fun cs' fz e => by
 have:=(show W.heap[b]? = _ from hb).symm.trans e;injection this with this
 injection this with _ this
 exact ht this)).trans hb
theorem Qw.fi {ba : Nat} {W W' : World} {t : TypeId} {A : OA} {n b : Nat} {g : Nat → Value} (h : Qw W t A n b g) (f : FI ba W W') {cs : Array Value} {t' : TypeId} (hB : Qb W ba t' cs) (htt : t ≠ t') (ht : t ≠ 47) : Qw W' t A n b g:=⟨h.a,fun hn => by
 obtain ⟨ds,h1,h2⟩:=h.h hn;exact ⟨ds,f.held h1 (Y7 h1 hB htt) ht,h2⟩⟩
structure Xb (W0 W : World) (ba : Nat) (A A' : OA) (ca cb : Nat) (c : Qd) (vl : Value) (L : List Z7) : Prop where
 e : Qc W0 W
 b : ∃ I k,Qb W ba 132 #[.slice A c.nk ca,.slice A' c.ny cb,vl,.slice I L.length k] ∧ Jj W0 W (.slice I L.length k) L
theorem Xb.ext {W0 W W' : World} {ba : Nat} {A A' : OA} {ca cb : Nat} {c : Qd} {vl : Value} {L : List Z7} (h : Xb W0 W ba A A' ca cb c vl L) (x : Qc W W') : Xb W0 W' ba A A' ca cb c vl L:=by
 obtain ⟨I,k,h1,h2⟩:=h.b;exact ⟨h.e.trans x,I,k,h1.ext x,h2.ext x⟩
def Wa (W : World) (v : Value) (hs : List Nat) : Prop:=∃ H cap b,v = .slice H hs.length cap ∧ Qw W 3 H hs.length b (fun k => .int .i64 ((hs.getD k 0 : Nat) : Int))
theorem Wa.ext {W W' : World} {v : Value} {hs : List Nat} (h : Wa W v hs) (x : Qc W W') : Wa W' v hs:=by
 obtain ⟨H,cap,b,e,h1⟩:=h;exact ⟨H,cap,b,e,h1.ext x⟩
theorem Wa.fi {ba : Nat} {W W' : World} {v : Value} {hs : List Nat} (h : Wa W v hs) (f : FI ba W W') {cs : Array Value} (hB : Qb W ba 132 cs) : Wa W' v hs:=by
 obtain ⟨H,cap,b,e,h1⟩:=h;exact ⟨H,cap,b,e,h1.fi f hB zD zD⟩
theorem Xb.box {W0 W : World} {ba : Nat} {A A' : OA} {ca cb : Nat} {c : Qd} {vl : Value} {L : List Z7} (h : Xb W0 W ba A A' ca cb c vl L) : ∃ iv,Qb W ba 132 #[.slice A c.nk ca,.slice A' c.ny cb,vl,iv]:=by
 obtain ⟨I,k,h1,_⟩:=h.b;exact ⟨_,h1⟩
theorem Rh (A A' : OA) (ca cb : Nat) (c : Qd) (vl : Value) (ba bq : Nat) (L : List Z7) (xa xb xd : Nat) (za zb zd : Int) (hz : za = xa ∧ zb = xb ∧ zd = xd) (W0 w : World) (hA : Xb W0 w ba A A' ca cb c vl L) (hba : W0.heap.size ≤ ba) (HQ : Qb w bq 47 #[.int .i64 za,.int .i64 zb,.int .i64 zd]) (hL : L.length ≤ 1000000) :
  Calls Tryz.prog 49 #[.pointer (some ⟨ba,0,none⟩),.slice (some ⟨bq,0,none⟩) 1 1] w fun e w' => e = .returned (.tuple #[]) ∧ Xb W0 w' ba A A' ca cb c vl (L ++ [(xa,xb,xd)]) ∧ FI ba w w':=by
 obtain ⟨i0,hi0,hz0,hz1,hz2⟩:=info_parts Qai;obtain ⟨rfl,rfl,rfl⟩:=hz;obtain ⟨I,k,HB,HO⟩:=hA.b;have E:=hA.e
 go_enter Tryz.func49,Tryz.ntmps49
 obtain ⟨a0,a1,a2,a3,al⟩:=Qb.d4 HB;go_wp2_with (at_builtin;refine wpList_append_own_at _ rfl _ _ 43 rfl W0.heap.size 47 i0 (.agg #[.int .i64 0,.int .i64 0,.int .i64 0]) 3 24 Tryz.underlying43 hi0 hz0 hz1 hz2 rfl zD _ _ _ rfl HO ⟨bq,0,none⟩ 1 1 [.int .i64 (xa : Nat),.int .i64 (xb : Nat),.int .i64 (xd : Nat)] rfl rfl (Wf HQ) (L9 _ _ _) (by unfold maxLen;omega) Qa E.size ?_;intro vn wn hown hgrow _ hob;obtain ⟨Fn,mn,rfl⟩:=Jn hown;have B3:=HB.kept hgrow (HB.not_row zD HO);have fz:=B3.frozen 3;have bl:=B3.lt;obtain ⟨a0,a1,a2,a3⟩:=B3.c4);have E3:=(E.grown hgrow (fun q hq => (Xe HO q hq).1)).setCell (p:=⟨ba,3,none⟩) hba (.slice Fn (L.length + 1) mn)
 have B4 : Qb (wn.setCell ⟨ba,3,none⟩ (.slice Fn (L.length + 1) mn)) ba 132 #[.slice A c.nk ca,.slice A' c.ny cb,vl,.slice Fn (L.length + 1) mn]:=by
  have:=Kn B3 3 (.slice Fn (L.length + 1) mn)
  simpa using this
 have O4:=Je B3 zD hown 3 (.slice Fn (L.length + 1) mn)
 have F4 : FI ba w (wn.setCell ⟨ba,3,none⟩ (.slice Fn (L.length + 1) mn)):=by
  refine ⟨by simpa [World.setCell] using hgrow.size,fun b hb hn ht => ?_⟩
  have h1:=hgrow.block b hb (fun e => by
   obtain ⟨_,cs,h⟩:=Xe HO b e.symm;exact ht _ _ h)
  rw [← h1];simp [World.setCell,Array.getElem?_modify,Ne.symm hn]
 refine bodyPost_end (results_none rfl _ _ _) rfl ⟨rfl,⟨E3,Fn,mn,?_,?_⟩,F4⟩
 ·rw [List.length_append];exact B4
 ·have:=Jj.snoc (x:=(xa,xb,xd)) O4;rw [List.length_append];exact this
theorem Qf0 (A A' : OA) (ca cb : Nat) (c : Qd) (l : List Pd) (vl iv : Value) (ba i : Nat) (v : Value) (hs : List Nat) (w : World) (hB : Qb w ba 132 #[.slice A c.nk ca,.slice A' c.ny cb,vl,iv]) (hC : Za w A ca A' cb c) (hP : J9 w vl l) (hI : Wa w v hs) (hin : ∀ k ∈ hs,k < l.length) (hi : i < l.length) (hsl : hs.length ≤ 9223372036854775807) :
  Calls Tryz.prog 96 #[.pointer (some ⟨ba,0,none⟩),.int .i64 i,v] w fun e w' => e = .returned (.int .i64 (hs.foldl (c.befS l i) (-1))) ∧ Qc w w':=by
 obtain ⟨D,cap,vo,vd,vc,rfl,hD,hcap,hmax,_,hat⟩:=id hP;have hn : l.length ≤ 9223372036854775807:=Nat.le_trans hcap (Nat.le_trans hmax zD);clear hcap hmax hat;obtain ⟨H,cH,bH,rfl,hHA⟩:=id hI;have hH:=K9 hHA;clear hHA;have ND:=fun d w h => Xr A A' ca cb c d w h
 obtain ⟨R,hR⟩:=Qe (hs.foldl (c.befS l i) (-1));rw [← hR];replace hR : Hid ((hs.drop 0).foldl (c.befS l i) (-1) = R):=zh hR.symm;replace hin:=zh hin
 go_enter Tryz.func96,Tryz.ntmps96
 go_upto_region 3 with fail
 go_loopw [7,13] (fun bv tv wr => ∃ (t : Nat) (b : Int),t ≤ hs.length ∧ tv = .int .i64 t ∧ bv = .int .i64 b ∧ -1 ≤ b ∧ b < l.length ∧ Qc w wr ∧ Hid ((hs.drop t).foldl (c.befS l i) b = R)) (fun _ tv _ => hs.length - (intOf tv).toNat)
 case atStart => exact ⟨0,-1,Nat.zero_le _,rfl,rfl,Qa,Qa,Qc.refl _,hR⟩
 case round =>
  clear hR;obtain ⟨t,b,ht,rfl,rfl,hb1,hb2,E,hR⟩:=hrel;obtain ⟨wo,rfl⟩:=Qe wr;by_cases hlt : t < hs.length;rotate_left
  ·obtain rfl : t = hs.length := Qa;obtain rfl : b = R := by have h := hR.out; rw [List.drop_length] at h; exact h
   clear hR;go_wp2;go_ret;exact ⟨rfl,E⟩
  have C:=hC.ext E;obtain ⟨a0,a1,a2,a3,al⟩:=Qb.d4 (hB.ext E);obtain ⟨bh,oh,rfl,hbh,hch⟩:=(hH.ext E) Qa;obtain ⟨k,hke⟩:=Qe (hs.getD t 0)
  have h0 : wo.cell? ⟨bh,oh + t,none⟩ = some (.int .i64 (k : Int)):=by
   have:=hch t 0 (.int .i64 ((hs.getD t 0 : Nat) : Int)) hlt rfl;rw [← hke] at this
   simpa using this
  clear hch;have hk : k < l.length:=by rw [hke];exact hin.out _ (J6 hlt)
  have hdr:=S4 hlt;rw [← hke] at hdr;clear hke;obtain ⟨bp,off,rfl,hbp,hc⟩:=(hD.ext E) Qa;obtain ⟨pk,hpk⟩:=Qe (l.getD k Qp);have c0 : wo.cell? ⟨bp,off + k * 12,none⟩ = some (.string pk.h):=by rw [hpk];simpa [Qi] using hc k 0 _ hk rfl
  have c1 : wo.cell? ⟨bp,off + k * 12 + 1,none⟩ = some (.int .i64 pk.a.y):=by rw [hpk];simpa [Qi] using hc k 1 _ hk rfl
  have c2 : wo.cell? ⟨bp,off + k * 12 + 2,none⟩ = some (.int .i64 pk.a.m):=by rw [hpk];simpa [Qi] using hc k 2 _ hk rfl
  have c3 : wo.cell? ⟨bp,off + k * 12 + 3,none⟩ = some (.bool pk.a.s):=by rw [hpk];simpa [Qi] using hc k 3 _ hk rfl
  have c4 : wo.cell? ⟨bp,off + k * 12 + 4,none⟩ = some (.int .i64 pk.a.d):=by rw [hpk];simpa [Qi] using hc k 4 _ hk rfl
  have c5 : wo.cell? ⟨bp,off + k * 12 + 5,none⟩ = some (.int .i64 pk.b.y):=by rw [hpk];simpa [Qi] using hc k 5 _ hk rfl
  have c6 : wo.cell? ⟨bp,off + k * 12 + 6,none⟩ = some (.int .i64 pk.b.m):=by rw [hpk];simpa [Qi] using hc k 6 _ hk rfl
  have c7 : wo.cell? ⟨bp,off + k * 12 + 7,none⟩ = some (.bool pk.b.s):=by rw [hpk];simpa [Qi] using hc k 7 _ hk rfl
  have c8 : wo.cell? ⟨bp,off + k * 12 + 8,none⟩ = some (.int .i64 pk.b.d):=by rw [hpk];simpa [Qi] using hc k 8 _ hk rfl
  obtain ⟨pi,hpi⟩:=Qe (l.getD i Qp);have d0 : wo.cell? ⟨bp,off + i * 12,none⟩ = some (.string pi.h):=by rw [hpi];simpa [Qi] using hc i 0 _ hi rfl
  have d1 : wo.cell? ⟨bp,off + i * 12 + 1,none⟩ = some (.int .i64 pi.a.y):=by rw [hpi];simpa [Qi] using hc i 1 _ hi rfl
  have d2 : wo.cell? ⟨bp,off + i * 12 + 2,none⟩ = some (.int .i64 pi.a.m):=by rw [hpi];simpa [Qi] using hc i 2 _ hi rfl
  have d3 : wo.cell? ⟨bp,off + i * 12 + 3,none⟩ = some (.bool pi.a.s):=by rw [hpi];simpa [Qi] using hc i 3 _ hi rfl
  have d4 : wo.cell? ⟨bp,off + i * 12 + 4,none⟩ = some (.int .i64 pi.a.d):=by rw [hpi];simpa [Qi] using hc i 4 _ hi rfl
  have d5 : wo.cell? ⟨bp,off + i * 12 + 5,none⟩ = some (.int .i64 pi.b.y):=by rw [hpi];simpa [Qi] using hc i 5 _ hi rfl
  have d6 : wo.cell? ⟨bp,off + i * 12 + 6,none⟩ = some (.int .i64 pi.b.m):=by rw [hpi];simpa [Qi] using hc i 6 _ hi rfl
  have d7 : wo.cell? ⟨bp,off + i * 12 + 7,none⟩ = some (.bool pi.b.s):=by rw [hpi];simpa [Qi] using hc i 7 _ hi rfl
  have d8 : wo.cell? ⟨bp,off + i * 12 + 8,none⟩ = some (.int .i64 pi.b.d):=by rw [hpi];simpa [Qi] using hc i 8 _ hi rfl
  have hstep : (hs.drop (t + 1)).foldl (c.befS l i) (if c.numV pk.b < c.numV pi.a ∧ (b < 0 ∨ c.numV (l.getD b.toNat Qp).b < c.numV pk.b) then (k : Int) else b) = R:=by
   have h:=hR.out;rw [hdr,List.foldl_cons] at h;rw [hpk,hpi];exact h
  replace hstep:=zh hstep;replace hpk:=zh hpk;replace hpi:=zh hpi;clear hR hdr;have NK:=ND pk.b;have NI:=ND pi.a;obtain ⟨nk,hnk⟩:=Qe (c.numV pk.b);obtain ⟨ni,hni⟩:=Qe (c.numV pi.a);rw [← hnk,← hni] at hstep;rw [← hnk] at NK;rw [← hni] at NI;clear hnk hni;go_upto_region 5 with fail
  have hc':=zh hc;clear hc;have n1:=fun u : XW _ => NK _ (C.ext u.e)
  refine Qy wo ?_;intro w2 h2;clear n1;obtain ⟨_,_,_,_⟩:=Qv wo h2;have E2:=E.trans h2;have C2:=hC.ext E2;have hc:=hc'.out;clear hc' a0 a1 a2 a3 al h0 hbh;obtain ⟨a0,a1,a2,a3,al⟩:=Qb.d4 (hB.ext E2);have r1:=(h2.cell (p:=⟨bp,off + i * 12 + 1,none⟩) hbp).trans d1;have r2:=(h2.cell (p:=⟨bp,off + i * 12 + 2,none⟩) hbp).trans d2;have r3:=(h2.cell (p:=⟨bp,off + i * 12 + 3,none⟩) hbp).trans d3;have r4:=(h2.cell (p:=⟨bp,off + i * 12 + 4,none⟩) hbp).trans d4;clear c0 c1 c2 c3 c4 c5 c6 c7 c8 d0 d1 d2 d3 d4 d5 d6 d7 d8 NK;have hbp2:=Nat.lt_of_lt_of_le hbp h2.size;go_upto_region 6 with fail
  by_cases q1 : nk < ni;rotate_left
  ·have f1 : decide (nk < ni) = false := zf q1;have e : (hs.drop (t + 1)).foldl (c.befS l i) b = R := by have h := hstep.out; rw [if_neg (fun h => q1 h.1)] at h; exact h
   clear hstep hc ND q1 hbp;have n1:=fun u : XW _ => NI _ (C2.ext u.e)
   refine Qy w2 ?_;intro wx hx;clear n1;obtain ⟨hcbwx,hfbwx,hzbwx,hzwx⟩:=Qv w2 hx;go_wp2;exact ⟨⟨t + 1,b,Qa,by go_num,rfl,hb1,hb2,E2.trans hx,zh e⟩,zi⟩
  have f1 : decide (nk < ni) = true:=zt q1;replace q1:=zh q1;by_cases q2 : b < 0
  ·have f2 : decide (b < 0) = true := zt q2;have e : (hs.drop (t + 1)).foldl (c.befS l i) (k : Int) = R := by have h := hstep.out; rw [if_pos ⟨q1.out, .inl q2⟩] at h; exact h
   clear hstep hc ND q2 hbp;have n1:=fun u : XW _ => NI _ (C2.ext u.e)
   refine Qy w2 ?_;intro wx hx;clear n1;obtain ⟨hcbwx,hfbwx,hzbwx,hzwx⟩:=Qv w2 hx;go_wp2;exact ⟨⟨t + 1,(k : Int),Qa,by go_num,rfl,Qa,Qa,E2.trans hx,zh e⟩,zi⟩
  have f2 : decide (b < 0) = false:=zf q2;obtain ⟨q,rfl⟩ : ∃ q : Nat,b = q:=⟨b.toNat,Qa⟩;have hq : q < l.length:=Qa;obtain ⟨pq,hpq⟩:=Qe (l.getD q Qp);have e0 : wo.cell? ⟨bp,off + q * 12,none⟩ = some (.string pq.h):=by rw [hpq];simpa [Qi] using hc q 0 _ hq rfl
  have e1 : wo.cell? ⟨bp,off + q * 12 + 1,none⟩ = some (.int .i64 pq.a.y):=by rw [hpq];simpa [Qi] using hc q 1 _ hq rfl
  have e2 : wo.cell? ⟨bp,off + q * 12 + 2,none⟩ = some (.int .i64 pq.a.m):=by rw [hpq];simpa [Qi] using hc q 2 _ hq rfl
  have e3 : wo.cell? ⟨bp,off + q * 12 + 3,none⟩ = some (.bool pq.a.s):=by rw [hpq];simpa [Qi] using hc q 3 _ hq rfl
  have e4 : wo.cell? ⟨bp,off + q * 12 + 4,none⟩ = some (.int .i64 pq.a.d):=by rw [hpq];simpa [Qi] using hc q 4 _ hq rfl
  have e5 : wo.cell? ⟨bp,off + q * 12 + 5,none⟩ = some (.int .i64 pq.b.y):=by rw [hpq];simpa [Qi] using hc q 5 _ hq rfl
  have e6 : wo.cell? ⟨bp,off + q * 12 + 6,none⟩ = some (.int .i64 pq.b.m):=by rw [hpq];simpa [Qi] using hc q 6 _ hq rfl
  have e7 : wo.cell? ⟨bp,off + q * 12 + 7,none⟩ = some (.bool pq.b.s):=by rw [hpq];simpa [Qi] using hc q 7 _ hq rfl
  have e8 : wo.cell? ⟨bp,off + q * 12 + 8,none⟩ = some (.int .i64 pq.b.d):=by rw [hpq];simpa [Qi] using hc q 8 _ hq rfl
  rw [show ((q : Int)).toNat = q by omega,← hpq] at hstep;replace hpq:=zh hpq;have s5:=(h2.cell (p:=⟨bp,off + q * 12 + 5,none⟩) hbp).trans e5;have s6:=(h2.cell (p:=⟨bp,off + q * 12 + 6,none⟩) hbp).trans e6;have s7:=(h2.cell (p:=⟨bp,off + q * 12 + 7,none⟩) hbp).trans e7;have s8:=(h2.cell (p:=⟨bp,off + q * 12 + 8,none⟩) hbp).trans e8;clear e0 e1 e2 e3 e4 e5 e6 e7 e8;clear hc hbp;have NQ:=ND pq.b;obtain ⟨nq,hnq⟩:=Qe (c.numV pq.b);rw [← hnq] at NQ hstep;clear hnq ND;by_cases q3 : nq < nk
  ·have f3 : decide (nq < nk) = true := zt q3;have e : (hs.drop (t + 1)).foldl (c.befS l i) (k : Int) = R := by have h := hstep.out; rw [if_pos ⟨q1.out, .inr q3⟩] at h; exact h
   clear hstep q3 q2;have n1:=fun u : XW _ => NI _ (C2.ext u.e)
   have n2:=fun u : XW _ => NQ _ (C2.ext u.e)
   refine Qy w2 ?_;intro wx hx;clear n1 n2;obtain ⟨hcbwx,hfbwx,hzbwx,hzwx⟩:=Qv w2 hx;go_wp2;exact ⟨⟨t + 1,(k : Int),Qa,by go_num,rfl,Qa,Qa,E2.trans hx,zh e⟩,zi⟩
  ·have f3 : decide (nq < nk) = false := zf q3;have e : (hs.drop (t + 1)).foldl (c.befS l i) (q : Int) = R := by have h := hstep.out; rw [if_neg (fun h => by rcases h.2 with h | h <;> omega)] at h; exact h
   clear hstep q3 q2;have n1:=fun u : XW _ => NI _ (C2.ext u.e)
   have n2:=fun u : XW _ => NQ _ (C2.ext u.e)
   refine Qy w2 ?_;intro wx hx;clear n1 n2;obtain ⟨hcbwx,hfbwx,hzbwx,hzwx⟩:=Qv w2 hx;go_wp2;exact ⟨⟨t + 1,(q : Int),Qa,by go_num,rfl,Qa,Qa,E2.trans hx,zh e⟩,zi⟩
theorem Qi8 (A A' : OA) (ca cb : Nat) (c : Qd) (l : List Pd) (vl iv : Value) (ba b1 b2 k : Nat) (dd : Int) (w : World) (hB : Qb w ba 132 #[.slice A c.nk ca,.slice A' c.ny cb,vl,iv]) (hC : Za w A ca A' cb c) (hP : J9 w vl l) (hk : k < l.length) (H1 : Qb w b1 96 #[.pointer (some ⟨ba,0,none⟩)]) (H2 : Qb w b2 3 #[.int .i64 dd]) :
  Calls Tryz.prog 99 #[.int .i64 k,.pointer (some ⟨b1,0,none⟩),.pointer (some ⟨b2,0,none⟩)] w fun e w' => e = .returned (.bool (decide (c.numV (Qz l k).a ≤ dd) && decide (dd ≤ c.numV (Qz l k).b))) ∧ Qc w w':=by
 obtain ⟨D,cap,vo,vd,vc,rfl,hD,hcap,hmax,_,hat⟩:=id hP;clear hcap hmax hat;have ND:=fun d w h => Xr A A' ca cb c d w h
 obtain ⟨bp,off,rfl,hbp,hc⟩:=hD Qa;obtain ⟨pk,hpk⟩:=Qe (l.getD k Qp);have c0 : w.cell? ⟨bp,off + k * 12,none⟩ = some (.string pk.h):=by rw [hpk];simpa [Qi] using hc k 0 _ hk rfl
 have c1 : w.cell? ⟨bp,off + k * 12 + 1,none⟩ = some (.int .i64 pk.a.y):=by rw [hpk];simpa [Qi] using hc k 1 _ hk rfl
 have c2 : w.cell? ⟨bp,off + k * 12 + 2,none⟩ = some (.int .i64 pk.a.m):=by rw [hpk];simpa [Qi] using hc k 2 _ hk rfl
 have c3 : w.cell? ⟨bp,off + k * 12 + 3,none⟩ = some (.bool pk.a.s):=by rw [hpk];simpa [Qi] using hc k 3 _ hk rfl
 have c4 : w.cell? ⟨bp,off + k * 12 + 4,none⟩ = some (.int .i64 pk.a.d):=by rw [hpk];simpa [Qi] using hc k 4 _ hk rfl
 have c5 : w.cell? ⟨bp,off + k * 12 + 5,none⟩ = some (.int .i64 pk.b.y):=by rw [hpk];simpa [Qi] using hc k 5 _ hk rfl
 have c6 : w.cell? ⟨bp,off + k * 12 + 6,none⟩ = some (.int .i64 pk.b.m):=by rw [hpk];simpa [Qi] using hc k 6 _ hk rfl
 have c7 : w.cell? ⟨bp,off + k * 12 + 7,none⟩ = some (.bool pk.b.s):=by rw [hpk];simpa [Qi] using hc k 7 _ hk rfl
 have c8 : w.cell? ⟨bp,off + k * 12 + 8,none⟩ = some (.int .i64 pk.b.d):=by rw [hpk];simpa [Qi] using hc k 8 _ hk rfl
 clear hc;obtain ⟨R,hR⟩:=Qe (decide (c.numV (Qz l k).a ≤ dd) && decide (dd ≤ c.numV (Qz l k).b));rw [← hR];rw [Qcz,← hpk] at hR;replace hpk:=zh hpk;have NA:=ND pk.a;have NB:=ND pk.b;obtain ⟨na,hna⟩:=Qe (c.numV pk.a);obtain ⟨nb,hnb⟩:=Qe (c.numV pk.b);rw [← hna,← hnb] at hR;rw [← hna] at NA;rw [← hnb] at NB;clear hna hnb ND;replace hR:=zh hR
 go_enter Tryz.func99,Tryz.ntmps99
 go_upto_region 1 with fail
 obtain ⟨a0,a1,a2,a3,al⟩:=Qb.d4 hB;have m0:=H1.c1;have ml:=H1.lt;have n0:=H2.c1;have nl:=H2.lt;by_cases q1 : na ≤ dd;rotate_left
 ·have fq1 : decide (na ≤ dd) = false := zf q1;obtain rfl : R = false := by rw [hR.out, fq1]; simp
  try clear q1 q2
  have n1:=fun u : XW _ => NA _ (hC.ext u.e)
  have n2:=fun u : XW _ => NB _ (hC.ext u.e)
  refine Qy w ?_;intro wx hx;clear n1 n2;obtain ⟨hcbwx,hfbwx,hzbwx,hzwx⟩:=Qv w hx;go_wp2;go_ret;exact ⟨rfl,hx⟩
 have fq1 : decide (na ≤ dd) = true:=zt q1;by_cases q2 : dd ≤ nb;rotate_left
 ·have fq2 : decide (dd ≤ nb) = false := zf q2;obtain rfl : R = false := by rw [hR.out, fq2]; simp
  try clear q1 q2
  have n1:=fun u : XW _ => NA _ (hC.ext u.e)
  have n2:=fun u : XW _ => NB _ (hC.ext u.e)
  refine Qy w ?_;intro wx hx;clear n1 n2;obtain ⟨hcbwx,hfbwx,hzbwx,hzwx⟩:=Qv w hx;go_wp2;go_ret;exact ⟨rfl,hx⟩
 have fq2 : decide (dd ≤ nb) = true:=zt q2;obtain rfl : R = true:=by rw [hR.out];simp [fq1,fq2]
 try clear q1 q2
 have n1:=fun u : XW _ => NA _ (hC.ext u.e)
 have n2:=fun u : XW _ => NB _ (hC.ext u.e)
 refine Qy w ?_;intro wx hx;clear n1 n2;obtain ⟨hcbwx,hfbwx,hzbwx,hzwx⟩:=Qv w hx;go_wp2;go_ret;exact ⟨rfl,hx⟩
theorem Qfn (A A' : OA) (ca cb : Nat) (c : Qd) (l : List Pd) (vl iv : Value) (ba b1 b2 b3 b4 k i : Nat) (tt ff : Int) (w : World) (hB : Qb w ba 132 #[.slice A c.nk ca,.slice A' c.ny cb,vl,iv]) (hC : Za w A ca A' cb c) (hP : J9 w vl l) (hk : k < l.length) (H1 : Qb w b1 3 #[.int .i64 i]) (H2 : Qb w b2 96 #[.pointer (some ⟨ba,0,none⟩)]) (H3 : Qb w b3 3 #[.int .i64 tt]) (H4 : Qb w b4 3 #[.int .i64 ff]) :
  Calls Tryz.prog 98 #[.int .i64 k,.pointer (some ⟨b1,0,none⟩),.pointer (some ⟨b2,0,none⟩),.pointer (some ⟨b3,0,none⟩),.pointer (some ⟨b4,0,none⟩)] w fun e w' => e = .returned (.bool (decide (k < i) && decide (c.numV (Qz l k).a ≤ tt) && decide (ff ≤ c.numV (Qz l k).b))) ∧ Qc w w':=by
 obtain ⟨D,cap,vo,vd,vc,rfl,hD,hcap,hmax,_,hat⟩:=id hP;clear hcap hmax hat;have ND:=fun d w h => Xr A A' ca cb c d w h
 obtain ⟨bp,off,rfl,hbp,hc⟩:=hD Qa;obtain ⟨pk,hpk⟩:=Qe (l.getD k Qp);have c0 : w.cell? ⟨bp,off + k * 12,none⟩ = some (.string pk.h):=by rw [hpk];simpa [Qi] using hc k 0 _ hk rfl
 have c1 : w.cell? ⟨bp,off + k * 12 + 1,none⟩ = some (.int .i64 pk.a.y):=by rw [hpk];simpa [Qi] using hc k 1 _ hk rfl
 have c2 : w.cell? ⟨bp,off + k * 12 + 2,none⟩ = some (.int .i64 pk.a.m):=by rw [hpk];simpa [Qi] using hc k 2 _ hk rfl
 have c3 : w.cell? ⟨bp,off + k * 12 + 3,none⟩ = some (.bool pk.a.s):=by rw [hpk];simpa [Qi] using hc k 3 _ hk rfl
 have c4 : w.cell? ⟨bp,off + k * 12 + 4,none⟩ = some (.int .i64 pk.a.d):=by rw [hpk];simpa [Qi] using hc k 4 _ hk rfl
 have c5 : w.cell? ⟨bp,off + k * 12 + 5,none⟩ = some (.int .i64 pk.b.y):=by rw [hpk];simpa [Qi] using hc k 5 _ hk rfl
 have c6 : w.cell? ⟨bp,off + k * 12 + 6,none⟩ = some (.int .i64 pk.b.m):=by rw [hpk];simpa [Qi] using hc k 6 _ hk rfl
 have c7 : w.cell? ⟨bp,off + k * 12 + 7,none⟩ = some (.bool pk.b.s):=by rw [hpk];simpa [Qi] using hc k 7 _ hk rfl
 have c8 : w.cell? ⟨bp,off + k * 12 + 8,none⟩ = some (.int .i64 pk.b.d):=by rw [hpk];simpa [Qi] using hc k 8 _ hk rfl
 clear hc;obtain ⟨R,hR⟩:=Qe (decide (k < i) && decide (c.numV (Qz l k).a ≤ tt) && decide (ff ≤ c.numV (Qz l k).b));rw [← hR];rw [Qcz,← hpk] at hR;replace hpk:=zh hpk;have NA:=ND pk.a;have NB:=ND pk.b;obtain ⟨na,hna⟩:=Qe (c.numV pk.a);obtain ⟨nb,hnb⟩:=Qe (c.numV pk.b);rw [← hna,← hnb] at hR;rw [← hna] at NA;rw [← hnb] at NB;clear hna hnb ND;replace hR:=zh hR
 go_enter Tryz.func98,Tryz.ntmps98
 go_upto_region 1 with fail
 obtain ⟨a0,a1,a2,a3,al⟩:=Qb.d4 hB;have m0:=H1.c1;have ml:=H1.lt;have n0:=H2.c1;have nl:=H2.lt;have r0:=H3.c1;have rl:=H3.lt;have s0:=H4.c1;have sl:=H4.lt;by_cases q0 : k < i;rotate_left
 ·have fq0 : decide (k < i) = false := zf q0;have gq0 : decide ((k : Int) < (i : Int)) = false := zf Qa;obtain rfl : R = false := by rw [hR.out, fq0]; simp
  try clear q0 q1 q2
  have n1:=fun u : XW _ => NA _ (hC.ext u.e)
  have n2:=fun u : XW _ => NB _ (hC.ext u.e)
  refine Qy w ?_;intro wx hx;clear n1 n2;obtain ⟨hcbwx,hfbwx,hzbwx,hzwx⟩:=Qv w hx;go_wp2;go_ret;exact ⟨rfl,hx⟩
 have fq0 : decide (k < i) = true:=zt q0;have gq0 : decide ((k : Int) < (i : Int)) = true:=zt Qa;by_cases q1 : na ≤ tt;rotate_left
 ·have fq1 : decide (na ≤ tt) = false := zf q1;obtain rfl : R = false := by rw [hR.out, fq1]; simp
  try clear q0 q1 q2
  have n1:=fun u : XW _ => NA _ (hC.ext u.e)
  have n2:=fun u : XW _ => NB _ (hC.ext u.e)
  refine Qy w ?_;intro wx hx;clear n1 n2;obtain ⟨hcbwx,hfbwx,hzbwx,hzwx⟩:=Qv w hx;go_wp2;go_ret;exact ⟨rfl,hx⟩
 have fq1 : decide (na ≤ tt) = true:=zt q1;by_cases q2 : ff ≤ nb;rotate_left
 ·have fq2 : decide (ff ≤ nb) = false := zf q2;obtain rfl : R = false := by rw [hR.out, fq2]; simp
  try clear q0 q1 q2
  have n1:=fun u : XW _ => NA _ (hC.ext u.e)
  have n2:=fun u : XW _ => NB _ (hC.ext u.e)
  refine Qy w ?_;intro wx hx;clear n1 n2;obtain ⟨hcbwx,hfbwx,hzbwx,hzwx⟩:=Qv w hx;go_wp2;go_ret;exact ⟨rfl,hx⟩
 have fq2 : decide (ff ≤ nb) = true:=zt q2;obtain rfl : R = true:=by rw [hR.out];simp [fq0,fq1,fq2]
 try clear q0 q1 q2
 have n1:=fun u : XW _ => NA _ (hC.ext u.e)
 have n2:=fun u : XW _ => NB _ (hC.ext u.e)
 refine Qy w ?_;intro wx hx;clear n1 n2;obtain ⟨hcbwx,hfbwx,hzbwx,hzwx⟩:=Qv w hx;go_wp2;go_ret;exact ⟨rfl,hx⟩
theorem Qjd (v : Value) (hs : List Nat) (q : Nat → Bool) (x0 x1 : Nat) (w : World) (hI : Wa w v hs) (hsl : hs.length ≤ 9223372036854775807) (NP : ∀ W,Qc w W → ∀ k ∈ hs,Calls Tryz.prog 99 #[.int .i64 (k : Int),.pointer (some ⟨x0,0,none⟩),.pointer (some ⟨x1,0,none⟩)] W fun e w' => e = .returned (.bool (q k)) ∧ Qc W w') :
  Calls Tryz.prog 145 #[v,.func (.func 99) #[] #[.pointer (some ⟨x0,0,none⟩),.pointer (some ⟨x1,0,none⟩)]] w fun e w' => ∃ r : Int,e = .returned (.int .i64 r) ∧ decide (0 ≤ r) = hs.any q ∧ Qc w w':=by
 obtain ⟨H,cH,bH,rfl,hHA⟩:=id hI;have hH:=K9 hHA;clear hHA hI;replace NP:=zh NP
 go_enter Tryz.func145,Tryz.ntmps145
 go_wp2
 go_loopw [8] (fun iv wr => ∃ t : Nat,t ≤ hs.length ∧ iv = .int .i64 (t : Int) ∧ Hid (∀ j,j < t → q (hs.getD j 0) = false) ∧ Qc w wr) (fun iv _ => hs.length - (intOf iv).toNat)
 case atStart => exact ⟨0,Nat.zero_le _,rfl,fun j h => absurd h Qa,Qc.refl _⟩
 case round =>
  obtain ⟨t,ht,rfl,hno,hE⟩:=hrel;obtain ⟨wo,rfl⟩:=Qe wr;by_cases hlt : t < hs.length;rotate_left
  ·obtain rfl : t = hs.length:=Qa;go_wp2;go_ret;exact ⟨_,rfl,by rw [zf Qa];exact (List.any_eq_false.2 (fun x hx => by obtain ⟨j,hj,rfl⟩:=Gq (z:=0) hx;rw [hno.out j hj];decide)).symm,hE⟩
  obtain ⟨b,off,rfl,hb,hc⟩:=(hH.ext hE) Qa;obtain ⟨k,hk⟩:=Qe (hs.getD t 0)
  have c0 : wo.cell? ⟨b,off + t,none⟩ = some (.int .i64 (k : Int)):=by
   have:=hc t 0 (.int .i64 ((hs.getD t 0 : Nat) : Int)) hlt rfl;rw [← hk] at this
   simpa using this
  clear hc;have hkm : k ∈ hs:=by rw [hk];exact J6 hlt
  have NQ:=NP.out wo hE k hkm;obtain ⟨z,hz⟩:=Qe (q k);rw [← hz] at NQ;have HQ:=zh hz;replace hk:=zh hk;clear hz;cases z
  ·go_wp2_with (first | (go_at_call 99;(with_reducible refine Calls.mono NQ ?_);rintro e w4 ⟨rfl,h⟩) | (go_at_fn 99;(with_reducible refine Calls.mono NQ ?_);rintro e w4 ⟨rfl,h⟩))
   exact ⟨⟨t + 1,Qa,by go_num,fun j hj => by
    by_cases e : j = t
    ·subst e;rw [← hk.out];exact HQ.out.symm
    ·exact hno.out j Qa,hE.trans h⟩,zi⟩
  ·go_wp2_with (first | (go_at_call 99;(with_reducible refine Calls.mono NQ ?_);rintro e w4 ⟨rfl,h⟩) | (go_at_fn 99;(with_reducible refine Calls.mono NQ ?_);rintro e w4 ⟨rfl,h⟩));go_ret;exact ⟨_,rfl,by rw [zt Qa];exact (List.any_eq_true.2 ⟨k,hkm,HQ.out.symm⟩).symm,hE.trans h⟩
theorem Qg1 (v : Value) (hs : List Nat) (q : Nat → Bool) (x0 x1 : Nat) (w : World) (hI : Wa w v hs) (hsl : hs.length ≤ 9223372036854775807) (NP : ∀ W,Qc w W → ∀ k ∈ hs,Calls Tryz.prog 99 #[.int .i64 (k : Int),.pointer (some ⟨x0,0,none⟩),.pointer (some ⟨x1,0,none⟩)] W fun e w' => e = .returned (.bool (q k)) ∧ Qc W w') :
  Calls Tryz.prog 97 #[v,.func (.func 99) #[] #[.pointer (some ⟨x0,0,none⟩),.pointer (some ⟨x1,0,none⟩)]] w fun e w' => e = .returned (.bool (hs.any q)) ∧ Qc w w':=by
 have NI:=Qjd v hs q x0 x1 w hI hsl NP;obtain ⟨H,cH,bH,rfl,_⟩:=id hI;clear NP hI
 go_enter Tryz.func97,Tryz.ntmps97
 go_wp2_with (go_at_call 145;(with_reducible refine Calls.mono NI ?_);rintro e w4 ⟨r,rfl,hr,h⟩);go_ret;exact ⟨by rw [← hr];rfl,h⟩
theorem Qje (v : Value) (hs : List Nat) (q : Nat → Bool) (x0 x1 x2 x3 : Nat) (w : World) (hI : Wa w v hs) (hsl : hs.length ≤ 9223372036854775807) (NP : ∀ W,Qc w W → ∀ k ∈ hs,Calls Tryz.prog 98 #[.int .i64 (k : Int),.pointer (some ⟨x0,0,none⟩),.pointer (some ⟨x1,0,none⟩),.pointer (some ⟨x2,0,none⟩),.pointer (some ⟨x3,0,none⟩)] W fun e w' => e = .returned (.bool (q k)) ∧ Qc W w') :
  Calls Tryz.prog 145 #[v,.func (.func 98) #[] #[.pointer (some ⟨x0,0,none⟩),.pointer (some ⟨x1,0,none⟩),.pointer (some ⟨x2,0,none⟩),.pointer (some ⟨x3,0,none⟩)]] w fun e w' => ∃ r : Int,e = .returned (.int .i64 r) ∧ decide (0 ≤ r) = hs.any q ∧ Qc w w':=by
 obtain ⟨H,cH,bH,rfl,hHA⟩:=id hI;have hH:=K9 hHA;clear hHA hI;replace NP:=zh NP
 go_enter Tryz.func145,Tryz.ntmps145
 go_wp2
 go_loopw [8] (fun iv wr => ∃ t : Nat,t ≤ hs.length ∧ iv = .int .i64 (t : Int) ∧ Hid (∀ j,j < t → q (hs.getD j 0) = false) ∧ Qc w wr) (fun iv _ => hs.length - (intOf iv).toNat)
 case atStart => exact ⟨0,Nat.zero_le _,rfl,fun j h => absurd h Qa,Qc.refl _⟩
 case round =>
  obtain ⟨t,ht,rfl,hno,hE⟩:=hrel;obtain ⟨wo,rfl⟩:=Qe wr;by_cases hlt : t < hs.length;rotate_left
  ·obtain rfl : t = hs.length:=Qa;go_wp2;go_ret;exact ⟨_,rfl,by rw [zf Qa];exact (List.any_eq_false.2 (fun x hx => by obtain ⟨j,hj,rfl⟩:=Gq (z:=0) hx;rw [hno.out j hj];decide)).symm,hE⟩
  obtain ⟨b,off,rfl,hb,hc⟩:=(hH.ext hE) Qa;obtain ⟨k,hk⟩:=Qe (hs.getD t 0)
  have c0 : wo.cell? ⟨b,off + t,none⟩ = some (.int .i64 (k : Int)):=by
   have:=hc t 0 (.int .i64 ((hs.getD t 0 : Nat) : Int)) hlt rfl;rw [← hk] at this
   simpa using this
  clear hc;have hkm : k ∈ hs:=by rw [hk];exact J6 hlt
  have NQ:=NP.out wo hE k hkm;obtain ⟨z,hz⟩:=Qe (q k);rw [← hz] at NQ;have HQ:=zh hz;replace hk:=zh hk;clear hz;cases z
  ·go_wp2_with (first | (go_at_call 98;(with_reducible refine Calls.mono NQ ?_);rintro e w4 ⟨rfl,h⟩) | (go_at_fn 98;(with_reducible refine Calls.mono NQ ?_);rintro e w4 ⟨rfl,h⟩))
   exact ⟨⟨t + 1,Qa,by go_num,fun j hj => by
    by_cases e : j = t
    ·subst e;rw [← hk.out];exact HQ.out.symm
    ·exact hno.out j Qa,hE.trans h⟩,zi⟩
  ·go_wp2_with (first | (go_at_call 98;(with_reducible refine Calls.mono NQ ?_);rintro e w4 ⟨rfl,h⟩) | (go_at_fn 98;(with_reducible refine Calls.mono NQ ?_);rintro e w4 ⟨rfl,h⟩));go_ret;exact ⟨_,rfl,by rw [zt Qa];exact (List.any_eq_true.2 ⟨k,hkm,HQ.out.symm⟩).symm,hE.trans h⟩
theorem Qg2 (v : Value) (hs : List Nat) (q : Nat → Bool) (x0 x1 x2 x3 : Nat) (w : World) (hI : Wa w v hs) (hsl : hs.length ≤ 9223372036854775807) (NP : ∀ W,Qc w W → ∀ k ∈ hs,Calls Tryz.prog 98 #[.int .i64 (k : Int),.pointer (some ⟨x0,0,none⟩),.pointer (some ⟨x1,0,none⟩),.pointer (some ⟨x2,0,none⟩),.pointer (some ⟨x3,0,none⟩)] W fun e w' => e = .returned (.bool (q k)) ∧ Qc W w') :
  Calls Tryz.prog 97 #[v,.func (.func 98) #[] #[.pointer (some ⟨x0,0,none⟩),.pointer (some ⟨x1,0,none⟩),.pointer (some ⟨x2,0,none⟩),.pointer (some ⟨x3,0,none⟩)]] w fun e w' => e = .returned (.bool (hs.any q)) ∧ Qc w w':=by
 have NI:=Qje v hs q x0 x1 x2 x3 w hI hsl NP;obtain ⟨H,cH,bH,rfl,_⟩:=id hI;clear NP hI
 go_enter Tryz.func97,Tryz.ntmps97
 go_wp2_with (go_at_call 145;(with_reducible refine Calls.mono NI ?_);rintro e w4 ⟨r,rfl,hr,h⟩);go_ret;exact ⟨by rw [← hr];rfl,h⟩
theorem Qi9 (A A' : OA) (ca cb : Nat) (c : Qd) (l : List Pd) (vl iv : Value) (ba : Nat) (v0 : Value) (hs : List Nat) (dd : Int) (w : World) (hB : Qb w ba 132 #[.slice A c.nk ca,.slice A' c.ny cb,vl,iv]) (hC : Za w A ca A' cb c) (hP : J9 w vl l) (hI : Wa w v0 hs) (hin : ∀ k ∈ hs,k < l.length) (hsl : hs.length ≤ 9223372036854775807) :
  Calls Tryz.prog 47 #[.pointer (some ⟨ba,0,none⟩),v0,.int .i64 dd] w fun e w' => e = .returned (.bool (hs.any fun k => decide (c.numV (Qz l k).a ≤ dd) && decide (dd ≤ c.numV (Qz l k).b))) ∧ Qc w w':=by
 obtain ⟨H,cH,bH,rfl,hHA⟩:=id hI
 go_enter Tryz.func47,Tryz.ntmps47
 go_upto_region 1 with fail
 go_upto_region 1 with fail
 obtain ⟨v,b1,b2,E,B1,B2,hbr1,hbr,hn21,hv,hb1,hb2⟩:=Jy w 96 #[.pointer (some ⟨ba,0,none⟩)] 3 #[.int .i64 dd];rw [← hv,← hb2,← hb1];clear hv hb1 hb2;have NC:=Qg1 (.slice H hs.length cH) hs (fun k => decide (c.numV (Qz l k).a ≤ dd) && decide (dd ≤ c.numV (Qz l k).b)) b1 b2 v (hI.ext E) hsl (fun W x k hk => Qi8 A A' ca cb c l vl iv ba b1 b2 k dd W (hB.ext (E.trans x)) (hC.ext (E.trans x)) (hP.ext (E.trans x)) (hin k hk) (B1.ext x) (B2.ext x));clear hI hHA hin hP hB hC;go_wp2_with (go_at_call 97;(with_reducible refine Calls.mono NC ?_);rintro e w4 ⟨rfl,h⟩);go_ret;exact ⟨rfl,E.trans h⟩
theorem I8 {W : World} {b : Nat} {t : TypeId} {v : Value} (h : Qb W b t #[v]) (u : Value) : Qb (W.setCell ⟨b,0,none⟩ u) b t #[u]:=by
 have:=Kn h 0 u
 simpa using this
theorem Qfp (A A' : OA) (ca cb : Nat) (c : Qd) (l : List Pd) (vl : Value) (ba i : Nat) (v0 : Value) (L : List Z7) (W0 w : World) (hA : Xb W0 w ba A A' ca cb c vl L) (hC0 : Za W0 A ca A' cb c) (hP0 : J9 W0 vl l) (hba : W0.heap.size ≤ ba) (hI : Wa w v0 (Y6 l (Qz l i).h)) (hi : i < l.length) (hll : l.length ≤ 1000) (hL : L.length ≤ 100000) (ho : (l.getD i Qp).o.length ≤ 1000000) :
  Calls Tryz.prog 46 #[.pointer (some ⟨ba,0,none⟩),.int .i64 i,v0] w fun e w' => e = .returned (.tuple #[]) ∧ Xb W0 w' ba A A' ca cb c vl (L ++ c.isA l i) ∧ FI ba w w':=by
 obtain ⟨D,cap,vo,vd,vc,rfl,hD,hcap,hmax,_,hat⟩:=id hP0;clear hcap hmax;obtain ⟨iv0,HA0⟩:=hA.box;have E0:=hA.e;obtain ⟨bp,off,rfl,hbp,hc⟩:=hD Qa;have PA:=hat i hi;obtain ⟨t1,s1,e1,_⟩:=id PA.o;obtain ⟨t2,s2,_,e2,_⟩:=id PA.d;obtain ⟨t3,s3,e3,_⟩:=id PA.c;obtain ⟨p,hp⟩:=Qe (l.getD i Qp);have c0 : W0.cell? ⟨bp,off + i * 12,none⟩ = some (.string p.h):=by rw [hp];simpa [Qi] using hc i 0 _ hi rfl
 have c1 : W0.cell? ⟨bp,off + i * 12 + 1,none⟩ = some (.int .i64 p.a.y):=by rw [hp];simpa [Qi] using hc i 1 _ hi rfl
 have c2 : W0.cell? ⟨bp,off + i * 12 + 2,none⟩ = some (.int .i64 p.a.m):=by rw [hp];simpa [Qi] using hc i 2 _ hi rfl
 have c3 : W0.cell? ⟨bp,off + i * 12 + 3,none⟩ = some (.bool p.a.s):=by rw [hp];simpa [Qi] using hc i 3 _ hi rfl
 have c4 : W0.cell? ⟨bp,off + i * 12 + 4,none⟩ = some (.int .i64 p.a.d):=by rw [hp];simpa [Qi] using hc i 4 _ hi rfl
 have c5 : W0.cell? ⟨bp,off + i * 12 + 5,none⟩ = some (.int .i64 p.b.y):=by rw [hp];simpa [Qi] using hc i 5 _ hi rfl
 have c6 : W0.cell? ⟨bp,off + i * 12 + 6,none⟩ = some (.int .i64 p.b.m):=by rw [hp];simpa [Qi] using hc i 6 _ hi rfl
 have c7 : W0.cell? ⟨bp,off + i * 12 + 7,none⟩ = some (.bool p.b.s):=by rw [hp];simpa [Qi] using hc i 7 _ hi rfl
 have c8 : W0.cell? ⟨bp,off + i * 12 + 8,none⟩ = some (.int .i64 p.b.d):=by rw [hp];simpa [Qi] using hc i 8 _ hi rfl
 obtain ⟨zq0,zq1,zq2,zq3,zq4,zq5,zq6,zq7,zq8,c9,c10,c11⟩:=L4 hc hi;clear zq0 zq1 zq2 zq3 zq4 zq5 zq6 zq7 zq8;rw [← hp] at PA e1 e2 e3 ho;rw [e1] at c9;rw [e2] at c10;rw [e3] at c11;rw [e1,e2,e3] at PA;clear e1 e2 e3;replace hc:=zh hc;replace hat:=zh hat
 have hisA : Hid (c.isA l i = (if Lz p = true then [(1,i,0)] else []) ++ (if c.opB l i = true then [(2,i,0)] else []) ++ (if c.ovB l i = true then [(3,i,0)] else [])):=by
  rw [hp];exact zh rfl
 have hopB : Hid (c.opB l i = (decide (0 ≤ c.befV l i) && !decide ((l.getD (c.befV l i).toNat Qp).c = p.o))):=by
  rw [hp];exact zh rfl
 have hsB : Hid (Lz p = !(decide ((Zw p.o p.d).2 = 0) && decide ((Zw p.o p.d).1 = p.c))):=zh rfl
 have hovB : Hid (c.ovB l i = (Y6 l (Qz l i).h).any fun k => decide (k < i) && decide (c.numV (Qz l k).a ≤ c.numV p.b) && decide (c.numV p.a ≤ c.numV (Qz l k).b)):=by
  rw [hp];exact zh rfl
 have hbef : Hid (c.befV l i = (Y6 l (Qz l i).h).foldl (c.befS l i) (-1)):=zh rfl;have hbl:=Sh c l i l.length;rw [Sg] at hbl;obtain ⟨hs,hhs⟩:=Qe (Y6 l (Qz l i).h);rw [← hhs] at hovB hbef hI;have hin : Hid (∀ k ∈ hs,k < l.length):=zh fun k hk => by rw [hhs] at hk;exact (Ll.1 hk).1
 have hsl : hs.length ≤ 9223372036854775807:=by
  have : hs.length ≤ l.length:=by rw [hhs];unfold Y6;exact Nat.le_trans (List.length_filter_le _ _) (by simp)
  omega
 clear hhs;replace hp:=zh hp;obtain ⟨SS,hSS⟩:=Qe ((Zw p.o p.d).1);obtain ⟨se,hse⟩:=Qe ((Zw p.o p.d).2);rw [← hSS,← hse] at hsB;replace hSS:=zh hSS;replace hse:=zh hse
 go_enter Tryz.func46,Tryz.ntmps46
 go_upto_region 1 with fail
 obtain ⟨v,b1,b2,E,B1,B2,hbr1,hbr,hn21,hv,hb1,hb2⟩:=Jy w 96 #[.pointer (some ⟨ba,0,none⟩)] 3 #[.int .i64 i];rw [← hv,← hb2,← hb1];clear hv hb1 hb2;have X:=E0.trans E;have HA:=HA0.ext E;have nb1 : b1 ≠ ba:=by have:=HA0.lt;omega
 have nb2 : b2 ≠ ba:=by have:=HA0.lt;omega
 go_upto_region 1 with fail
 refine Zc 9 [8] (fun x => Qc v x) mixed rfl ?_;intro vz hvz;have HC:=hvz;refine Qs (g:=2) [0,1,2,3,4,5,6] HC ?_
 constructor
 refine ⟨fun u hu => ?_,?_⟩
 ·have m0:=(B1.ext hu).c1;have ml:=(B1.ext hu).lt;have n0:=(B2.ext hu).c1;have nl:=(B2.ext hu).lt;obtain ⟨a0,a1,a2,a3,al⟩:=Qb.d4 (HA.ext hu);have r0:=((X.trans hu).cell (p:=⟨bp,off + i * 12,none⟩) hbp).trans c0;have r1:=((X.trans hu).cell (p:=⟨bp,off + i * 12 + 1,none⟩) hbp).trans c1;have r2:=((X.trans hu).cell (p:=⟨bp,off + i * 12 + 2,none⟩) hbp).trans c2;have r3:=((X.trans hu).cell (p:=⟨bp,off + i * 12 + 3,none⟩) hbp).trans c3;have r4:=((X.trans hu).cell (p:=⟨bp,off + i * 12 + 4,none⟩) hbp).trans c4;have r5:=((X.trans hu).cell (p:=⟨bp,off + i * 12 + 5,none⟩) hbp).trans c5;have r6:=((X.trans hu).cell (p:=⟨bp,off + i * 12 + 6,none⟩) hbp).trans c6
  have r7:=((X.trans hu).cell (p:=⟨bp,off + i * 12 + 7,none⟩) hbp).trans c7;have r8:=((X.trans hu).cell (p:=⟨bp,off + i * 12 + 8,none⟩) hbp).trans c8;have r9:=((X.trans hu).cell (p:=⟨bp,off + i * 12 + 9,none⟩) hbp).trans c9;have r10:=((X.trans hu).cell (p:=⟨bp,off + i * 12 + 10,none⟩) hbp).trans c10;have r11:=((X.trans hu).cell (p:=⟨bp,off + i * 12 + 11,none⟩) hbp).trans c11;have hbu:=Nat.lt_of_lt_of_le hbp (X.trans hu).size;exact Qk
 refine Qj 7 ?_;go_wp2;obtain ⟨p1,wb,hbq,hwb,H10,HC',hx,gp1⟩:=Ql HC 55 #[.string ⟨#[]⟩,.int .i64 0,.int .i64 0,.bool false,.int .i64 0,.int .i64 0,.int .i64 0,.bool false,.int .i64 0,.slice none 0 0,.slice none 0 0,.slice none 0 0];rw [← hbq,← hwb];replace HC:=HC';clear hbq hwb hx HC';refine Qf HC ?_;refine Qr 8 ?_;obtain ⟨z0,z1,z2,z3,z4,z5,z6,z7,z8,z9,z10,z11,u0,u1,u2,u3,u4,u5,u6,u7,u8,u9,u10,u11,lx⟩:=Qb.e12 H10;go_wp2;have Hn:=Po H10 (.string p.h) (.int .i64 p.a.y) (.int .i64 p.a.m) (.bool p.a.s) (.int .i64 p.a.d) (.int .i64 p.b.y) (.int .i64 p.b.m) (.bool p.b.s) (.int .i64 p.b.d) (.slice t1 p.o.length s1) (.slice t2 p.d.length s2) (.slice t3 p.c.length s3)
 replace HC:=S9 HC gp1 (.string p.h) (.int .i64 p.a.y) (.int .i64 p.a.m) (.bool p.a.s) (.int .i64 p.a.d) (.int .i64 p.b.y) (.int .i64 p.b.m) (.bool p.b.s) (.int .i64 p.b.d) (.slice t1 p.o.length s1) (.slice t2 p.d.length s2) (.slice t3 p.c.length s3);clear H10 z0 u0 z1 u1 z2 u2 z3 u3 z4 u4 z5 u5 z6 u6 z7 u7 z8 u8 z9 u9 z10 u10 z11 u11 lx;have H10:=Hn;clear Hn;generalize World.setCell _ _ _ = wq at *;refine Qq ?_;refine Qx ?_;have np1 : p1 ≠ ba:=by have:=HA0.lt;have:=E.size;omega
 have PX:=H10;have X1:=X.trans HC;have HI:=(hA.ext E).ext HC;replace B1:=B1.ext HC;replace B2:=B2.ext HC;replace hI:=(hI.ext E).ext HC;have FW : FI ba w _:=FI.exts (E.trans HC);clear H10 c0 c1 c2 c3 c4 c5 c6 c7 c8 c9 c10 c11 hvz gp1 HA HA0 hA;generalize hwq : wq = w1 at *;clear hwq HC;have m0:=B1.c1;have ml:=B1.lt;have n0:=B2.c1;have nl:=B2.lt;obtain ⟨y0,y1,y2,y3,y4,y5,y6,y7,y8,y9,y10,y11,yl⟩:=Qb.d12 PX;obtain ⟨iv,HA⟩:=HI.box;obtain ⟨a0,a1,a2,a3,al⟩:=Qb.d4 HA;have NBL:=Qfx (.slice t1 p.o.length s1) (.slice t2 p.d.length s2) p.o p.d w1 (PA.o.ext X1) (PA.d.ext X1) ho;simp only [← hSS.out,← hse.out] at NBL;go_upto_region 3 with (go_at_call 61;(with_reducible refine Calls.mono NBL ?_);rintro e w2 ⟨vr,rfl,x2,SR⟩;obtain ⟨FR,mR,rfl⟩:=Jn SR)
 clear m0 ml n0 nl y0 y1 y2 y3 y4 y5 y6 y7 y8 y9 y10 y11 yl a0 a1 a2 a3 al HA;clear NBL;have SL : Zl w2 (.slice FR SS.length mR) SS:=Uy SR;have CL:=PA.c.ext (X1.trans x2);have X2:=X1.trans x2;replace HI:=HI.ext x2;replace B1:=B1.ext x2;replace B2:=B2.ext x2;replace PX:=PX.ext x2;replace hI:=hI.ext x2;replace FW:=FW.ext x2;clear x2 SR hSS hse;have m0:=B1.c1;have ml:=B1.lt;have n0:=B2.c1;have nl:=B2.lt;obtain ⟨y0,y1,y2,y3,y4,y5,y6,y7,y8,y9,y10,y11,yl⟩:=Qb.d12 PX;obtain ⟨iv,HA⟩:=HI.box;obtain ⟨a0,a1,a2,a3,al⟩:=Qb.d4 HA;obtain ⟨sX,hsX⟩:=Qe (Lz p);rw [← hsX] at hsB hisA;clear hsX;have NS:=fun w h1 h2 => S8 (.slice FR SS.length mR) (.slice t3 p.c.length s3) SS p.c w h1 h2
 go_cut [35] from 12 (fun b wx => b = .bool sX ∧ Qc w2 wx)
 case first =>
  by_cases e0 : se = 0;rotate_left
  ·have g0 : (se == 0) = false := zb e0;have g0n : (se != 0) = true := by rw [bne, g0]; rfl
   obtain rfl : sX = true:=by rw [hsB.out,zf e0];rfl
   clear e0;go_wp2
   go_meet
   exact ⟨rfl,Qc.refl _⟩
  subst e0;by_cases e1 : SS = p.c
  ·obtain rfl : sX = false := by rw [hsB.out, zt e1]; rfl
   rw [zt e1] at NS;clear e1;go_wp2_with (go_at_call 74;refine zc (NS _ SL CL) ?_;rintro e w5 ⟨rfl,x5⟩)
   go_meet
   exact ⟨rfl,x5⟩
  ·obtain rfl : sX = true := by rw [hsB.out, zf e1]; rfl
   rw [zf e1] at NS;clear e1;go_wp2_with (go_at_call 74;refine zc (NS _ SL CL) ?_;rintro e w5 ⟨rfl,x5⟩)
   go_meet
   exact ⟨rfl,x5⟩
 case rest =>
 obtain ⟨rfl,x5⟩:=hcut;obtain ⟨w3,rfl⟩:=Qe wc;clear m0 ml n0 nl y0 y1 y2 y3 y4 y5 y6 y7 y8 y9 y10 y11 yl a0 a1 a2 a3 al HA;clear NS SL CL hsB;have X3:=X2.trans x5;replace HI:=HI.ext x5;replace B1:=B1.ext x5;replace B2:=B2.ext x5;replace PX:=PX.ext x5;replace hI:=hI.ext x5;replace FW:=FW.ext x5;clear x5;have m0:=B1.c1;have ml:=B1.lt;have n0:=B2.c1;have nl:=B2.lt;obtain ⟨y0,y1,y2,y3,y4,y5,y6,y7,y8,y9,y10,y11,yl⟩:=Qb.d12 PX;obtain ⟨iv,HA⟩:=HI.box;obtain ⟨a0,a1,a2,a3,al⟩:=Qb.d4 HA;have NT:=Rh A A' ca cb c (.slice (some ⟨bp,off,none⟩) l.length cap) ba w3.heap.size L 1 i 0 1 i 0 ⟨Qa,rfl,Qa⟩ W0 (w3.alloc (.cells #[.int .i64 1,.int .i64 i,.int .i64 0] 47)) (HI.ext ((Qc.refl _).alloc _)) hba (Qb.new _ _ _) Qa
 go_upto_if 35 with fail
 have HO:=HI
 go_cut [] from 12 (fun wx => Xb W0 wx ba A A' ca cb c (.slice (some ⟨bp,off,none⟩) l.length cap) (L ++ (if sX = true then [(1,i,0)] else [])) ∧ FI ba w3 wx)
 case first =>
  cases sX
  ·clear NT;go_wp2
   go_meet
   exact ⟨by simpa using HI,FI.refl _ _⟩
  ·go_wp2_with (go_at_call 49;(with_reducible refine Calls.mono NT ?_);rintro e wn ⟨rfl,A4,F4⟩)
   go_meet
   exact ⟨A4,(FI.exts ((Qc.refl _).alloc _)).trans F4⟩
 case rest =>
 clear NT HI;obtain ⟨HI,F4⟩:=hcut;obtain ⟨w4,rfl⟩:=Qe wc;obtain ⟨iv,HA⟩:=HO.box;replace B1:=F4.held B1 nb1 zD;replace B2:=F4.held B2 nb2 zD;replace PX:=F4.held PX np1 zD;replace hI:=hI.fi F4 HA;replace FW:=FW.trans F4;clear HA HO iv;clear F4;clear m0 ml n0 nl y0 y1 y2 y3 y4 y5 y6 y7 y8 y9 y10 y11 yl a0 a1 a2 a3 al;have hl1 : (L ++ (if sX = true then [((1 : Nat),i,(0 : Nat))] else [])).length ≤ L.length + 1:=by rw [List.length_append];split <;> simp
 replace hisA : Hid (L ++ c.isA l i = (L ++ (if sX = true then [(1,i,0)] else [])) ++ ((if c.opB l i = true then [(2,i,0)] else []) ++ (if c.ovB l i = true then [(3,i,0)] else []))):=zh (by rw [hisA.out];simp only [List.append_assoc]);generalize L ++ (if sX = true then [((1 : Nat),i,(0 : Nat))] else []) = L1 at *;clear sX;obtain ⟨bv,hbv⟩:=Qe (c.befV l i);have m0:=B1.c1;have ml:=B1.lt;have n0:=B2.c1;have nl:=B2.lt;obtain ⟨y0,y1,y2,y3,y4,y5,y6,y7,y8,y9,y10,y11,yl⟩:=Qb.d12 PX;obtain ⟨iv,HA⟩:=HI.box;obtain ⟨a0,a1,a2,a3,al⟩:=Qb.d4 HA;have NB1:=Qf0 A A' ca cb c l (.slice (some ⟨bp,off,none⟩) l.length cap) iv ba i v0 hs w4 HA (hC0.ext HI.e) (hP0.ext HI.e) hI hin.out hi hsl
 rw [← hbef.out,← hbv] at NB1;rw [← hbv] at hopB hbl;obtain ⟨hbl1,hbl2⟩:=hbl;clear hbv hbef;go_upto_region 6 with (go_at_call 96;(with_reducible refine Calls.mono NB1 ?_);rintro e w5 ⟨rfl,x5⟩)
 clear m0 ml n0 nl y0 y1 y2 y3 y4 y5 y6 y7 y8 y9 y10 y11 yl a0 a1 a2 a3 al HA;clear NB1;replace HI:=HI.ext x5;replace B1:=B1.ext x5;replace B2:=B2.ext x5;replace PX:=PX.ext x5;replace hI:=hI.ext x5;replace FW:=FW.ext x5;clear x5;have m0:=B1.c1;have ml:=B1.lt;have n0:=B2.c1;have nl:=B2.lt;obtain ⟨y0,y1,y2,y3,y4,y5,y6,y7,y8,y9,y10,y11,yl⟩:=Qb.d12 PX;obtain ⟨iv,HA⟩:=HI.box;obtain ⟨a0,a1,a2,a3,al⟩:=Qb.d4 HA;have E5:=HI.e;have LO:=PA.o.ext E5;obtain ⟨sX,hsX⟩:=Qe (c.opB l i);rw [← hsX] at hopB hisA;clear hsX
 go_cut [60] from 12 (fun b wx => b = .bool sX ∧ Qc w5 wx)
 case first =>
  by_cases q0 : 0 ≤ bv;rotate_left
  ·have f0 : decide (0 ≤ bv) = false := zf q0;obtain rfl : sX = false := by rw [hopB.out, f0]; rfl
   clear q0;refine Qy w5 ?_;intro wx hx;obtain ⟨hcbwx,hfbwx,hzbwx,hzwx⟩:=Qv w5 hx;go_wp2
   go_meet
   exact ⟨rfl,hx⟩
  obtain ⟨q,rfl⟩ : ∃ q : Nat,bv = q:=⟨bv.toNat,Qa⟩;have hq : q < l.length:=Qa;have PQ:=(hat.out q hq).ext E5;obtain ⟨pq,hpq⟩:=Qe (l.getD q Qp);rw [show ((q : Int)).toNat = q by omega,← hpq] at hopB;rw [← hpq] at PQ;have d11:=(E5.cell (p:=⟨bp,off + q * 12 + 11,none⟩) hbp).trans (hc.out q 11 (vc q) hq (by simp [Qi]));have hbq:=Nat.lt_of_lt_of_le hbp E5.size;have LQ:=PQ.c;obtain ⟨t5,s5,e5,_⟩:=id LQ;rw [e5] at d11 LQ;clear hpq e5 PQ;have NS:=fun w h1 h2 => S8 (.slice t1 p.o.length s1) (.slice t5 pq.c.length s5) p.o pq.c w h1 h2
  have f0 : decide (0 ≤ (q : Int)) = true:=zt q0;rw [f0,Bool.true_and] at hopB;clear q0;by_cases g1 : p.o = pq.c
  ·obtain rfl : sX = false := by rw [hopB.out, zt g1.symm]; rfl
   rw [zt g1] at NS;clear g1;have n1:=fun u : XW _ => NS _ (LO.ext u.e) (LQ.ext u.e)
   refine Qy w5 ?_;intro wx hx;clear n1;obtain ⟨hcbwx,hfbwx,hzbwx,hzwx⟩:=Qv w5 hx;go_wp2
   go_meet
   exact ⟨rfl,hx⟩
  ·obtain rfl : sX = true := by rw [hopB.out, zf (fun h => g1 h.symm)]; rfl
   rw [zf g1] at NS;clear g1;have n1:=fun u : XW _ => NS _ (LO.ext u.e) (LQ.ext u.e)
   refine Qy w5 ?_;intro wx hx;clear n1;obtain ⟨hcbwx,hfbwx,hzbwx,hzwx⟩:=Qv w5 hx;go_wp2
   go_meet
   exact ⟨rfl,hx⟩
 case rest =>
 obtain ⟨rfl,x6⟩:=hcut;obtain ⟨w6,rfl⟩:=Qe wc;clear m0 ml n0 nl y0 y1 y2 y3 y4 y5 y6 y7 y8 y9 y10 y11 yl a0 a1 a2 a3 al HA;clear LO E5 hopB hbl1 hbl2;replace HI:=HI.ext x6;replace B1:=B1.ext x6;replace B2:=B2.ext x6;replace PX:=PX.ext x6;replace hI:=hI.ext x6;replace FW:=FW.ext x6;clear x6;have m0:=B1.c1;have ml:=B1.lt;have n0:=B2.c1;have nl:=B2.lt;obtain ⟨y0,y1,y2,y3,y4,y5,y6,y7,y8,y9,y10,y11,yl⟩:=Qb.d12 PX;obtain ⟨iv,HA⟩:=HI.box;obtain ⟨a0,a1,a2,a3,al⟩:=Qb.d4 HA;have NT:=Rh A A' ca cb c (.slice (some ⟨bp,off,none⟩) l.length cap) ba w6.heap.size L1 2 i 0 2 i 0 ⟨Qa,rfl,Qa⟩ W0 (w6.alloc (.cells #[.int .i64 2,.int .i64 i,.int .i64 0] 47)) (HI.ext ((Qc.refl _).alloc _)) hba (Qb.new _ _ _) Qa
 go_upto_if 60 with fail
 have HO:=HI
 go_cut [] from 12 (fun wx => Xb W0 wx ba A A' ca cb c (.slice (some ⟨bp,off,none⟩) l.length cap) (L1 ++ (if sX = true then [(2,i,0)] else [])) ∧ FI ba w6 wx)
 case first =>
  cases sX
  ·clear NT;go_wp2
   go_meet
   exact ⟨by simpa using HI,FI.refl _ _⟩
  ·go_wp2_with (go_at_call 49;(with_reducible refine Calls.mono NT ?_);rintro e wn ⟨rfl,A4,F4⟩)
   go_meet
   exact ⟨A4,(FI.exts ((Qc.refl _).alloc _)).trans F4⟩
 case rest =>
 clear NT HI;obtain ⟨HI,F4⟩:=hcut;obtain ⟨w7,rfl⟩:=Qe wc;obtain ⟨iv,HA⟩:=HO.box;replace B1:=F4.held B1 nb1 zD;replace B2:=F4.held B2 nb2 zD;replace PX:=F4.held PX np1 zD;replace hI:=hI.fi F4 HA;replace FW:=FW.trans F4;clear HA HO iv;clear F4;clear m0 ml n0 nl y0 y1 y2 y3 y4 y5 y6 y7 y8 y9 y10 y11 yl a0 a1 a2 a3 al;have hl2 : (L1 ++ (if sX = true then [((2 : Nat),i,(0 : Nat))] else [])).length ≤ L1.length + 1:=by rw [List.length_append];split <;> simp
 replace hisA : Hid (L ++ c.isA l i = (L1 ++ (if sX = true then [(2,i,0)] else [])) ++ (if c.ovB l i = true then [(3,i,0)] else [])):=zh (by rw [hisA.out];simp only [List.append_assoc]);generalize L1 ++ (if sX = true then [((2 : Nat),i,(0 : Nat))] else []) = L2 at *;clear sX;obtain ⟨iv,HA⟩:=HI.box;have C7:=hC0.ext HI.e;have NA:=Xr A A' ca cb c p.a;have NB:=Xr A A' ca cb c p.b;obtain ⟨na,hna⟩:=Qe (c.numV p.a);obtain ⟨nb,hnb⟩:=Qe (c.numV p.b);simp only [← hna] at NA;simp only [← hnb] at NB;rw [← hna,← hnb] at hovB;clear hna hnb;go_upto_region 8 with fail
 apply Ul (S:=fun w' pf pt => Qc w7 w' ∧ Qb w' pf 3 #[.int .i64 na] ∧ Qb w' pt 3 #[.int .i64 nb])
 ·refine Zc 18 [16,17] (fun x => Qc w7 x) mixed rfl ?_;intro vz hvz;have HC:=hvz;have mz0:=trivial
  all_goals try
   (clear mz0
    refine Qs (g:=6) [0,1,2,3,4,5,7,8,9,10,11,12] HC ?_
    constructor
    refine ⟨fun u hu => ?_,?_⟩
    ·have m0:=(B1.ext hu).c1;have ml:=(B1.ext hu).lt;obtain ⟨y0,y1,y2,y3,y4,y5,y6,y7,y8,y9,y10,y11,yl⟩:=Qb.d12 (PX.ext hu);obtain ⟨a0,a1,a2,a3,al⟩:=Qb.d4 (HA.ext hu);exact Qk
    have mz1:=trivial)
  all_goals try
   (clear mz1
    refine Um 6 14 15 ?_ ?_ ?_
    focus
     go_wp2_with (go_at_call 48;refine zc (NA _ (C7.ext HC)) ?_;rintro e wd ⟨rfl,hj⟩);replace HC:=HC.trans hj;try replace H10:=H10.ext hj
     try replace H11:=H11.ext hj
     clear hj;have mz2:=trivial;refine Qf HC ?_
    rotate_left
    focus
     go_wp2;obtain ⟨pf,wb,hbq,hwb,H10,HC',hx,gf⟩:=Ql HC 3 #[.int .i64 0];rw [← hbq,← hwb];try have ne : pt < pf:=by have:=H11.lt;omega
     replace HC:=HC';try replace H11:=H11.ext hx
     clear hbq hwb hx HC';have mz3:=trivial;refine Qf HC ?_
    rotate_left
    focus
     go_wp2;obtain ⟨pt,wb,hbq,hwb,H11,HC',hx,gt⟩:=Ql HC 3 #[.int .i64 0];rw [← hbq,← hwb];try have ne : pf < pt:=by have:=H10.lt;omega
     replace HC:=HC';try replace H10:=H10.ext hx
     clear hbq hwb hx HC';have mz4:=trivial;refine Qf HC ?_
    rotate_left)
  all_goals try
   (clear mz2
    refine Um 13 14 15 ?_ ?_ ?_
    focus
     go_wp2_with (go_at_call 48;refine zc (NB _ (C7.ext HC)) ?_;rintro e wd ⟨rfl,hj⟩);replace HC:=HC.trans hj;try replace H10:=H10.ext hj
     try replace H11:=H11.ext hj
     clear hj;have mz5:=trivial;refine Qf HC ?_
    rotate_left
    focus
     go_wp2;obtain ⟨pf,wb,hbq,hwb,H10,HC',hx,gf⟩:=Ql HC 3 #[.int .i64 0];rw [← hbq,← hwb];try have ne : pt < pf:=by have:=H11.lt;omega
     replace HC:=HC';try replace H11:=H11.ext hx
     clear hbq hwb hx HC';have mz6:=trivial;refine Qf HC ?_
    rotate_left
    focus
     go_wp2;obtain ⟨pt,wb,hbq,hwb,H11,HC',hx,gt⟩:=Ql HC 3 #[.int .i64 0];rw [← hbq,← hwb];try have ne : pf < pt:=by have:=H10.lt;omega
     replace HC:=HC';try replace H10:=H10.ext hx
     clear hbq hwb hx HC';have mz7:=trivial;refine Qf HC ?_
    rotate_left)
  all_goals try
   (clear mz3
    refine Zq 6 15 ?_ ?_
    focus
     go_wp2_with (go_at_call 48;refine zc (NA _ (C7.ext HC)) ?_;rintro e wd ⟨rfl,hj⟩);replace HC:=HC.trans hj;try replace H10:=H10.ext hj
     try replace H11:=H11.ext hj
     clear hj;have mz6:=trivial;refine Qf HC ?_
    rotate_left
    focus
     go_wp2;obtain ⟨pt,wb,hbq,hwb,H11,HC',hx,gt⟩:=Ql HC 3 #[.int .i64 0];rw [← hbq,← hwb];try have ne : pf < pt:=by have:=H10.lt;omega
     replace HC:=HC';try replace H10:=H10.ext hx
     clear hbq hwb hx HC';have mz8:=trivial;refine Qf HC ?_
    rotate_left)
  all_goals try
   (clear mz4
    refine Zq 6 14 ?_ ?_
    focus
     go_wp2_with (go_at_call 48;refine zc (NA _ (C7.ext HC)) ?_;rintro e wd ⟨rfl,hj⟩);replace HC:=HC.trans hj;try replace H10:=H10.ext hj
     try replace H11:=H11.ext hj
     clear hj;have mz7:=trivial;refine Qf HC ?_
    rotate_left
    focus
     go_wp2;obtain ⟨pf,wb,hbq,hwb,H10,HC',hx,gf⟩:=Ql HC 3 #[.int .i64 0];rw [← hbq,← hwb];try have ne : pt < pf:=by have:=H11.lt;omega
     replace HC:=HC';try replace H11:=H11.ext hx
     clear hbq hwb hx HC';have mz8:=trivial;refine Qf HC ?_
    rotate_left)
  all_goals try
   (clear mz5
    refine Zq 14 15 ?_ ?_
    focus
     go_wp2;obtain ⟨pf,wb,hbq,hwb,H10,HC',hx,gf⟩:=Ql HC 3 #[.int .i64 0];rw [← hbq,← hwb];try have ne : pt < pf:=by have:=H11.lt;omega
     replace HC:=HC';try replace H11:=H11.ext hx
     clear hbq hwb hx HC';have mz9:=trivial;refine Qf HC ?_
    rotate_left
    focus
     go_wp2;obtain ⟨pt,wb,hbq,hwb,H11,HC',hx,gt⟩:=Ql HC 3 #[.int .i64 0];rw [← hbq,← hwb];try have ne : pf < pt:=by have:=H10.lt;omega
     replace HC:=HC';try replace H10:=H10.ext hx
     clear hbq hwb hx HC';have mz10:=trivial;refine Qf HC ?_
    rotate_left)
  all_goals try
   (clear mz6
    refine Zq 13 15 ?_ ?_
    focus
     go_wp2_with (go_at_call 48;refine zc (NB _ (C7.ext HC)) ?_;rintro e wd ⟨rfl,hj⟩);replace HC:=HC.trans hj;try replace H10:=H10.ext hj
     try replace H11:=H11.ext hj
     clear hj;have mz9:=trivial;refine Qf HC ?_
    rotate_left
    focus
     go_wp2;obtain ⟨pt,wb,hbq,hwb,H11,HC',hx,gt⟩:=Ql HC 3 #[.int .i64 0];rw [← hbq,← hwb];try have ne : pf < pt:=by have:=H10.lt;omega
     replace HC:=HC';try replace H10:=H10.ext hx
     clear hbq hwb hx HC';have mz11:=trivial;refine Qf HC ?_
    rotate_left)
  all_goals try
   (clear mz7
    refine Zq 13 14 ?_ ?_
    focus
     go_wp2_with (go_at_call 48;refine zc (NB _ (C7.ext HC)) ?_;rintro e wd ⟨rfl,hj⟩);replace HC:=HC.trans hj;try replace H10:=H10.ext hj
     try replace H11:=H11.ext hj
     clear hj;have mz10:=trivial;refine Qf HC ?_
    rotate_left
    focus
     go_wp2;obtain ⟨pf,wb,hbq,hwb,H10,HC',hx,gf⟩:=Ql HC 3 #[.int .i64 0];rw [← hbq,← hwb];try have ne : pt < pf:=by have:=H11.lt;omega
     replace HC:=HC';try replace H11:=H11.ext hx
     clear hbq hwb hx HC';have mz11:=trivial;refine Qf HC ?_
    rotate_left)
  all_goals try
   (clear mz8
    refine Qj 6 ?_;go_wp2_with (go_at_call 48;refine zc (NA _ (C7.ext HC)) ?_;rintro e wd ⟨rfl,hj⟩);replace HC:=HC.trans hj;try replace H10:=H10.ext hj
    try replace H11:=H11.ext hj
    clear hj;have mz11:=trivial;refine Qf HC ?_)
  all_goals try
   (clear mz9
    refine Qj 15 ?_;go_wp2;obtain ⟨pt,wb,hbq,hwb,H11,HC',hx,gt⟩:=Ql HC 3 #[.int .i64 0];rw [← hbq,← hwb];try have ne : pf < pt:=by have:=H10.lt;omega
    replace HC:=HC';try replace H10:=H10.ext hx
    clear hbq hwb hx HC';have mz12:=trivial;refine Qf HC ?_)
  all_goals try
   (clear mz10
    refine Qj 14 ?_;go_wp2;obtain ⟨pf,wb,hbq,hwb,H10,HC',hx,gf⟩:=Ql HC 3 #[.int .i64 0];rw [← hbq,← hwb];try have ne : pt < pf:=by have:=H11.lt;omega
    replace HC:=HC';try replace H11:=H11.ext hx
    clear hbq hwb hx HC';have mz12:=trivial;refine Qf HC ?_)
  all_goals try
   (clear mz11
    refine Qj 13 ?_;go_wp2_with (go_at_call 48;refine zc (NB _ (C7.ext HC)) ?_;rintro e wd ⟨rfl,hj⟩);replace HC:=HC.trans hj;try replace H10:=H10.ext hj
    try replace H11:=H11.ext hj
    clear hj;have mz12:=trivial;refine Qf HC ?_)
  all_goals try
   (clear mz12
    refine Qr 16 ?_;have z0:=H10.frozen 0;have u0:=H10.c1;have lx:=H10.lt;have hgp : w7.heap.size ≤ pf:=gf;go_wp2;have Hn:=I8 H10 (.int .i64 na);have On:=Wn H11 (show pt ≠ pf by omega) 0 (.int .i64 na);replace HC:=HC.setCell (p:=⟨pf,0,none⟩) hgp (.int .i64 na);clear H10 z0 u0 lx hgp;have H10:=Hn;replace H11:=On;clear Hn On;generalize World.setCell _ _ _ = wq at *;have mz13:=trivial;refine Qq ?_)
  all_goals try
   (clear mz13
    refine Qr 17 ?_;have z0:=H11.frozen 0;have u0:=H11.c1;have lx:=H11.lt;have hgp : w7.heap.size ≤ pt:=gt;go_wp2;have Hn:=I8 H11 (.int .i64 nb);have On:=Wn H10 (show pf ≠ pt by omega) 0 (.int .i64 nb);replace HC:=HC.setCell (p:=⟨pt,0,none⟩) hgp (.int .i64 nb);clear H11 z0 u0 lx hgp;have H11:=Hn;replace H10:=On;clear Hn On;generalize World.setCell _ _ _ = wq at *;have mz14:=trivial;refine Qq ?_)
  all_goals try
   (clear mz14
    refine Qx ?_;exact Jl pf pt ⟨HC,H10,H11⟩ rfl)
 rintro pf pt w8 ⟨x8,BF,BT⟩;clear NA NB C7;replace HI:=HI.ext x8;replace B1:=B1.ext x8;replace B2:=B2.ext x8;replace PX:=PX.ext x8;replace hI:=hI.ext x8;replace FW:=FW.ext x8;replace HA:=HA.ext x8;clear x8;obtain ⟨sX,hsX⟩:=Qe (c.ovB l i);rw [← hsX] at hovB hisA;have NC:=Qg2 v0 hs (fun k => decide (k < i) && decide (c.numV (Qz l k).a ≤ nb) && decide (na ≤ c.numV (Qz l k).b)) b2 b1 pt pf w8 hI hsl (fun W x k hk => Qfn A A' ca cb c l (.slice (some ⟨bp,off,none⟩) l.length cap) iv ba b2 b1 pt pf k i nb na W (HA.ext x) (hC0.ext (HI.e.trans x)) (hP0.ext (HI.e.trans x)) (hin.out k hk) (B2.ext x) (B1.ext x) (BT.ext x) (BF.ext x));rw [← hovB.out] at NC;clear hovB hsX HA
 go_upto_if 82 with (go_at_call 97;(with_reducible refine Calls.mono NC ?_);rintro e w9 ⟨rfl,x9⟩)
 clear NC BF BT;replace HI:=HI.ext x9;replace B1:=B1.ext x9;replace B2:=B2.ext x9;replace PX:=PX.ext x9;replace hI:=hI.ext x9;replace FW:=FW.ext x9;clear x9;have m0:=B1.c1;have ml:=B1.lt;have n0:=B2.c1;have nl:=B2.lt;cases sX
 ·go_wp2;refine bodyPost_end (results_none rfl _ _ _) rfl ⟨rfl,?_,FW⟩;rw [hisA.out]
  simpa using HI
 ·have NT:=Rh A A' ca cb c (.slice (some ⟨bp,off,none⟩) l.length cap) ba w9.heap.size L2 3 i 0 3 i 0 ⟨Qa,rfl,Qa⟩ W0 (w9.alloc (.cells #[.int .i64 3,.int .i64 i,.int .i64 0] 47)) (HI.ext ((Qc.refl _).alloc _)) hba (Qb.new _ _ _) Qa;go_wp2_with (go_at_call 49;(with_reducible refine Calls.mono NT ?_);rintro e wn ⟨rfl,A4,F4⟩);refine bodyPost_end (results_none rfl _ _ _) rfl ⟨rfl,?_,FW.trans ((FI.exts ((Qc.refl _).alloc _)).trans F4)⟩;rw [hisA.out];exact A4
end
section
open Go Go.RowKit Go.Maps
/-! ### The deals that are matched -/
theorem Qde : (33 : TypeId) < Tryz.prog.types.size:=of_decide_eq_true zK
theorem Qm7 : (match Tryz.prog.underlying 33 with | some (.array _ _) | some (.struct _) => true | _ => false) = true:=by kernel_rfl
theorem H0 : Keyed Tryz.prog 33:=Keyed.of_law (Go.deep_law_laid Qc5 (m:=2) Qa Qde zK Qm7)
theorem Du : Tryz.prog.underlying 123 = some (.map 33 4):=by kernel_rfl
theorem Qm6 : Tryz.prog.underlying 33 = some (.struct (Km (Tryz.prog.underlying 33))):=by kernel_rfl
theorem Qm0 : (Km (Tryz.prog.underlying 33)).toList.map (fun f => (f.type,f.offset)) = [(3,0),(3,1)]:=by kernel_rfl
theorem Qm2 : (Km (Tryz.prog.underlying 33)).all (·.name != "_") = true:=by kernel_rfl
theorem Qdc : Tryz.prog.cellsOf 33 = 2:=by kernel_rfl
theorem Qm1 : Tryz.prog.keyType 33 = true:=by kernel_rfl
theorem Qm5 : ∃ m,Tryz.prog.types.size = m + 1 + 1:=by
 have h : (2 : Nat) ≤ Tryz.prog.types.size:=Nat.le_trans (show (2 : Nat) ≤ 33 by decide) (Nat.le_of_lt Qde);exact ⟨Tryz.prog.types.size - 2,Qa⟩
def Kv (r : Rf) : Lit:=.string (keyBytes [.int .i64 (r.1 : Nat),.int .i64 (r.2 : Nat)])
theorem Qjy {a b : Int} (ha : (Lit.int .i64 a).wf = true) (hb : (Lit.int .i64 b).wf = true) : keyOf Tryz.prog 33 (.agg #[.int .i64 a,.int .i64 b]) = some (.string (keyBytes [.int .i64 a,.int .i64 b])):=by
 obtain ⟨m,hm⟩:=Qm5;have hf:=Qm0;have hN:=Qm2;have hU:=Qm6;generalize Km (Tryz.prog.underlying 33) = fs at hf hN hU;obtain ⟨l⟩:=fs;simp only [List.map_eq_cons_iff,List.map_eq_nil_iff] at hf;obtain ⟨f0,_,rfl,e0,f1,_,rfl,e1,rfl⟩:=hf;simp only [Prod.mk.injEq] at e0 e1;unfold keyOf;simp only [hU];rw [if_pos (by simp [Qm1,Value.formed,hU,Qdc]),hm];unfold Program.keyLits;simp only [hU,Value.cells];rw [if_pos ⟨by rw [Qdc];rfl,hN⟩,List.mapM_cons,List.mapM_cons,List.mapM_nil];rw [e0.1,e0.2,e1.1,e1.2];have c3 : Tryz.prog.cellsOf 3 = 1:=by kernel_rfl
 simp [c3,Program.keyLits,ha,hb]
theorem Qeo {n : Nat} (h : n ≤ 9223372036854775807) : (Lit.int .i64 (n : Int)).wf = true:=by
 simp [Lit.wf,IntKind.min,IntKind.max,IntKind.signed,IntKind.bits];omega
def Kf (r : Rf) : Prop:=r.1 ≤ 9223372036854775807 ∧ r.2 ≤ 9223372036854775807
theorem Mu {r : Rf} (h : Kf r) : keyOf Tryz.prog 33 (.agg #[.int .i64 (r.1 : Nat),.int .i64 (r.2 : Nat)]) = some (Kv r):=Qjy (Qeo h.1) (Qeo h.2)
theorem Qdi {x y : Rf} (hx : Kf x) (hy : Kf y) (h : Kv x = Kv y) : x = y:=by
 have h2:=H0.inj (Mu hx) (by rw [h];exact Mu hy);simp at h2;exact Prod.ext Qa Qa
def Kp (m : List (Rf × Rf)) : Nat → DataW Unit
 | 0 => .map []
 | n + 1 => ((Kp m n).put (Kv (m.getD n (Qn,Qn)).1) (.lit (.bool true))).put (Kv (m.getD n (Qn,Qn)).2) (.lit (.bool true))
theorem P4 (m : List (Rf × Rf)) : ∀ n,IsMap (Kp m n)
 | 0 => isMap_empty
 | n + 1 => ((P4 m n).put _ _).put _ _
def Mx (m : List (Rf × Rf)) (r : Rf) (n : Nat) : Bool:=(List.range n).any fun j => decide ((m.getD j (Qn,Qn)).1 = r) || decide ((m.getD j (Qn,Qn)).2 = r)
theorem Qkg (m : List (Rf × Rf)) (r : Rf) (n : Nat) : Mx m r (n + 1) = (Mx m r n || (decide ((m.getD n (Qn,Qn)).1 = r) || decide ((m.getD n (Qn,Qn)).2 = r))):=by
 unfold Mx;rw [List.range_succ,List.any_append]
 simp
theorem Qkf (m : List (Rf × Rf)) (r : Rf) : Mx m r m.length = Wh m r:=by
 unfold Mx Wh;rw [Bool.eq_iff_iff,List.any_eq_true,List.any_eq_true]
 constructor
 ·rintro ⟨j,hj,h⟩;exact ⟨_,J6 (List.mem_range.1 hj),h⟩
 ·rintro ⟨p,hp,h⟩;obtain ⟨j,hj,rfl⟩:=Gq (z:=(Qn,Qn)) hp;exact ⟨j,List.mem_range.2 hj,h⟩
def MOk (m : List (Rf × Rf)) : Prop:=∀ j,j < m.length → Kf (m.getD j (Qn,Qn)).1 ∧ Kf (m.getD j (Qn,Qn)).2
theorem Qbm {m : List (Rf × Rf)} {r : Rf} (hr : Kf r) (hm : MOk m) : ∀ n,n ≤ m.length → (Kp m n).atKey (Kv r) (.lit (.bool false)) = .lit (.bool (Mx m r n))
 | 0,_ => rfl
 | n + 1,hn => by
  have ih:=Qbm hr hm n Qa;obtain ⟨h1,h2⟩:=hm n Qa;have kr:=H0.key (Mu hr);rw [Qkg,Kp];by_cases e2 : (m.getD n (Qn,Qn)).2 = r
  ·rw [e2,atKey_put_same ((P4 m n).put _ _) kr]
   simp
  ·rw [atKey_put_other (fun hl => e2 (Qdi h2 hr hl.symm))];by_cases e1 : (m.getD n (Qn,Qn)).1 = r
   ·rw [e1,atKey_put_same (P4 m n) kr]
    simp
   ·rw [atKey_put_other (fun hl => e1 (Qdi h1 hr hl.symm)),ih,zf e1,zf e2]
    simp
theorem Qpb (w : World) : (zeroValue 4).run Tryz.prog w = .ok (.bool false) w:=by kernel_rfl
theorem Qkh {w : World} {b n : Nat} {m : List (Rf × Rf)} {r : Rf} (hM : w.ownsMap Tryz.prog 33 (plainElem (H:=Unit) Tryz.prog 4) b n (Kp m m.length)) (hr : Kf r) (hm : MOk m) :
  (Instr.lookup 123 (.map (some b)) (.agg #[.int .i64 (r.1 : Nat),.int .i64 (r.2 : Nat)]) false).run Tryz.prog w = .ok (.bool (Wh m r)) w:=by
 obtain ⟨v,ps,hrun,hv⟩:=hM.lookup H0 Du (Qpb w) (plainElem_bool La false) (Mu hr);rw [Qbm hr hm _ (Nat.le_refl _),Qkf] at hv;rw [hrun];simp only [plainElem,show Tryz.prog.underlying 4 = some .bool from La] at hv
 split at hv <;> simp_all
/-! ### The periods of each holder -/
def Fi : DataW Unit → List (DataW Unit)
 | .slice es _ => es
 | _ => []
def Jv (s : ByteArray) : Lit:=.string s.data.toList
theorem Px {s t : ByteArray} (h : Jv s = Jv t) : s = t:=by
 obtain ⟨⟨s⟩⟩:=s;obtain ⟨⟨t⟩⟩:=t
 simpa [Jv] using h
theorem Qa3 (s : ByteArray) : WideAt.IsKeyLit (Jv s):=by first | trivial | simp [Jv,WideAt.IsKeyLit]
def Py (l : List Nat) : List (DataW Unit):=l.map fun (i : Nat) => DataW.lit (.int .i64 (i : Int))
def X6 (l : List Pd) : Nat → DataW Unit
 | 0 => .map []
 | k + 1 => (X6 l k).put (Jv (Qz l k).h) (.slice (Fi ((X6 l k).atKey (Jv (Qz l k).h) .nil) ++ [.lit (.int .i64 (k : Int))]) [])
theorem Pq (l : List Pd) : ∀ k,IsMap (X6 l k)
 | 0 => ⟨_,rfl⟩
 | k + 1 => (Pq l k).put _ _
def Mq (l : List Pd) (h : ByteArray) (n : Nat) : List Nat:=(List.range n).filter fun k => decide ((Qz l k).h = h)
theorem Qaf (l : List Pd) (h : ByteArray) : Mq l h l.length = Y6 l h:=rfl
theorem Qi1 (l : List Pd) (h : ByteArray) (n : Nat) : Mq l h (n + 1) = Mq l h n ++ (if (Qz l n).h = h then [n] else []):=by
 unfold Mq;rw [List.range_succ,List.filter_append];by_cases e : (Qz l n).h = h <;> simp [e]
theorem Qad (l : List Pd) (s : ByteArray) : ∀ k,Fi ((X6 l k).atKey (Jv s) .nil) = Py (Mq l s k)
 | 0 => rfl
 | k + 1 => by
  have ih:=Qad l s k;rw [X6,Qi1];by_cases hn : (Qz l k).h = s
  ·rw [if_pos hn,hn,atKey_put_same (Pq l k) (Qa3 s)]
   show Fi _ ++ _ = _
   rw [ih];simp [Py]
  ·rw [if_neg hn,atKey_put_other (fun e => hn (Px e).symm),List.append_nil];exact ih
theorem Qae (l : List Pd) : ∀ k j,j < k → has (X6 l k) (Jv (Qz l j).h) = true
 | k + 1,j,hj => by
  rw [X6];by_cases e : (Qz l j).h = (Qz l k).h
  ·rw [e];exact has_put_same (Pq l k) (Qa3 _) _
  ·rw [has_put_other (fun h => e (Px h))]
   exact Qae l k j (by
    by_cases hk : j = k
    ·subst hk;exact absurd rfl e
    ·omega)
theorem Qa7 {zs : List Int} {l : List Nat} (h : ChangeShapes.lits (H:=Unit) .i64 zs = Py l) : zs = l.map fun (i : Nat) => (i : Int):=by
 have : zs.map (fun z => DataW.lit (H:=Unit) (.int .i64 z)) = (l.map fun (i : Nat) => (i : Int)).map (fun z => DataW.lit (H:=Unit) (.int .i64 z)):=by
  rw [List.map_map];exact h
 exact (List.map_inj_right (fun a b hab => by cases hab;rfl)).1 this
theorem Qag {l : List Pd} {s : ByteArray} {w : World} {base : Nat} {e : TypeId} {v : Value} {zs : List Int} {k : Nat} (hat : (X6 l k).atKey (Jv s) .nil = rowDatum .i64 v zs) (ho : w.ownsInts base e .i64 v zs) : zs = (Mq l s k).map fun (i : Nat) => (i : Int):=by
 have h:=Qad l s k;rw [hat] at h;rcases ho.datum (H:=Unit) with ⟨h1,rfl⟩ | h1
 ·rw [h1] at h;exact Qa7 h
 ·rw [h1] at h;exact Qa7 h
theorem Qi0 {l : List Pd} {w : World} {base : Nat} {e : TypeId} {v : Value} {zs : List Int} {k : Nat} (hat : (X6 l k).atKey (Jv (Qz l k).h) .nil = rowDatum .i64 v zs) (ho : w.ownsInts base e .i64 v zs) :
  X6 l (k + 1) = (X6 l k).put (Jv (Qz l k).h) (.slice (ChangeShapes.lits .i64 (zs ++ [(k : Int)])) []):=by
 rw [X6,hat];rcases ho.datum (H:=Unit) with ⟨h1,rfl⟩ | h1 <;> rw [h1] <;> simp [Fi,ChangeShapes.lits]
theorem Qay {w : World} {base : Nat} {v : Value} {zs : List Int} {hs : List Nat} (h : w.ownsInts base 3 .i64 v zs) (he : zs = hs.map fun (i : Nat) => (i : Int)) : Wa w v hs:=by
 subst he;have h0:=h.1;rw [List.length_map] at h0;obtain ⟨A,cap,b,e,_,_,AR⟩:=Oa (g:=fun k => .int .i64 ((hs.getD k 0 : Nat) : Int)) h0 (fun k hk => by simp [hk]);exact ⟨A,cap,b,e,AR⟩
end
section
open Go Go.RowKit Go.Shelf Go.Sort
attribute [local go_sem] Z8
def IsB (x : Z7) : Prop:=x.1 ≤ 1000000 ∧ x.2.1 ≤ 1000000 ∧ x.2.2 ≤ 1000000
abbrev Xz:={x : Z7 // IsB x}
instance : Inhabited Xz:=⟨⟨(0,0,0),by simp [IsB]⟩⟩
def Ki (x y : Xz) : Int:=if x.1.2.1 ≠ y.1.2.1 then (x.1.2.1 : Int) - y.1.2.1 else if x.1.1 ≠ y.1.1 then (x.1.1 : Int) - y.1.1 else (x.1.2.2 : Int) - y.1.2.2
theorem G0 (x y : Xz) : Ki x y < 0 ↔ Wo x.1 y.1:=by
 unfold Ki Wo
 split
 ·omega
 ·split <;> omega
theorem Qgw : SWO (fun x y => decide (Ki x y < 0)) where
 irrefl x:=by
  rw [zf];rw [G0];exact Qjb
 trans x y z h1 h2:=by
  simp only [decide_eq_true_eq,G0] at *;unfold Wo at *;omega
 ntrans x y z h1 h2:=by
  simp only [decide_eq_false_iff_not,G0] at *;unfold Wo at *;omega
theorem Qjr {c : Qd} {l : List Pd} {m : List (Rf × Rf)} {x : Z7} (hl : l.length ≤ 32) (hd : ∀ i,i < l.length → (l.getD i Qp).d.length ≤ 64) (h : x ∈ c.audL l m) : IsB x:=by
 unfold Qd.audL at h;obtain ⟨h1,h2⟩:=Tw h;obtain ⟨_,h3,h4⟩:=Pu h2;have h5 : (Qz l x.2.1).d.length ≤ 64:=hd _ h1;refine ⟨Qa,Qa,?_⟩;rcases h4 with h4 | h4 <;> omega
theorem Qgx (x y : Xz) (W : World) : Calls Tryz.prog 51 #[.agg #[.int .i64 (x.1.1 : Nat),.int .i64 (x.1.2.1 : Nat),.int .i64 (x.1.2.2 : Nat)],.agg #[.int .i64 (y.1.1 : Nat),.int .i64 (y.1.2.1 : Nat),.int .i64 (y.1.2.2 : Nat)]] W fun e w' => e = .returned (.int .i64 (Ki x y)) ∧ ∃ os',w' = grow W os':=by
 obtain ⟨⟨x0,x1,x2⟩,hx⟩:=x;obtain ⟨⟨y0,y1,y2⟩,hy⟩:=y;obtain ⟨hx0,hx1,hx2⟩:=hx;obtain ⟨hy0,hy1,hy2⟩:=hy
 simp only at hx0 hx1 hx2 hy0 hy1 hy2 ⊢
 obtain ⟨R,hR⟩:=Qe (if x1 ≠ y1 then (x1 : Int) - y1 else if x0 ≠ y0 then (x0 : Int) - y0 else (x2 : Int) - y2);have hR2 : Ki ⟨(x0,x1,x2),⟨hx0,hx1,hx2⟩⟩ ⟨(y0,y1,y2),⟨hy0,hy1,hy2⟩⟩ = R:=by rw [hR];rfl
 rw [hR2];clear hR2;replace hR:=zh hR;have w1 : IntKind.i64.wrap ((x1 : Int) - y1) = (x1 : Int) - y1:=by simp [IntKind.wrap,IntKind.bits,IntKind.signed];omega
 have w0 : IntKind.i64.wrap ((x0 : Int) - y0) = (x0 : Int) - y0:=by simp [IntKind.wrap,IntKind.bits,IntKind.signed];omega
 have w2 : IntKind.i64.wrap ((x2 : Int) - y2) = (x2 : Int) - y2:=by simp [IntKind.wrap,IntKind.bits,IntKind.signed];omega
 by_cases e1 : x1 = y1;rotate_left
 ·have g1 : ((x1 : Int) == y1) = false := zb Qa;have g1n : ((x1 : Int) != y1) = true := by rw [bne, g1]; rfl
  have hr : R = (x1 : Int) - y1:=by rw [hR.out,if_pos e1]
  clear hR e1;subst hr
  go_enter Tryz.func51,Tryz.ntmps51
  go_wp2;go_ret;exact ⟨rfl,_,by rw [alloc_eq_grow,alloc_eq_grow,grow_grow]⟩
 by_cases e0 : x0 = y0;rotate_left
 ·have g0 : ((x0 : Int) == y0) = false := zb Qa;have g0n : ((x0 : Int) != y0) = true := by rw [bne, g0]; rfl
  have hr : R = (x0 : Int) - y0:=by rw [hR.out,if_neg (by simp [e1]),if_pos e0]
  clear hR e0;subst hr e1
  go_enter Tryz.func51,Tryz.ntmps51
  go_wp2;go_ret;exact ⟨rfl,_,by rw [alloc_eq_grow,alloc_eq_grow,grow_grow]⟩
 have hr : R = (x2 : Int) - y2:=by rw [hR.out,if_neg (by simp [e1]),if_neg (by simp [e0])]
 clear hR;subst hr e1 e0
 go_enter Tryz.func51,Tryz.ntmps51
 go_wp2;go_ret;exact ⟨rfl,_,by rw [alloc_eq_grow,alloc_eq_grow,grow_grow]⟩
end
section
open Go Go.RowKit Go.Shelf Go.Sort
def Yp (x : Xz) : List Value:=Xd x.1
def Vd (d : Array Xz) : List Value:=d.toList.flatMap Yp
theorem Ij : ∀ (L : List Xz) (i j : Nat),i < L.length → j < 3 → (L.flatMap Yp)[i * 3 + j]? = (Yp (L.getD i default))[j]?
 | r :: L,0,j,_,hj => by
  match j,hj with
  | 0,_ => simp [Yp,Xd]
  | 1,_ => simp [Yp,Xd]
  | 2,_ => simp [Yp,Xd]
 | r :: L,i + 1,j,h,hj => by
  have hl : (Yp r).length = 3:=rfl;rw [List.flatMap_cons,List.getElem?_append_right Qa,hl,show (i + 1) * 3 + j - 3 = i * 3 + j by omega,Ij L i j (by simpa using h) hj];rfl
theorem S7 : ∀ (L : List Xz),(L.flatMap Yp).length = L.length * 3
 | [] => rfl
 | r :: L => by
  have hl : (Yp r).length = 3:=rfl;rw [List.flatMap_cons,List.length_append,S7 L,hl,List.length_cons];omega
theorem Iu (d : Array Xz) (t : Nat) (h : t < d.size * 3) : (Vd d)[t]? = some (flatK Yp 3 d)[t]!:=by
 have e : t = t / 3 * 3 + t % 3:=Qa;have h1 : t / 3 < d.size:=Qa;rw [get_flatK _ _ _ _ h];unfold Vd
 conv => lhs;rw [e]
 rw [Ij d.toList (t / 3) (t % 3) (by simpa using h1) Qa]
 have e2 : d.toList.getD (t / 3) default = d[t / 3]!:=by
  simp [List.getD_eq_getElem?_getD,h1]
 rw [e2];have h3 : t % 3 < (Yp d[t / 3]!).length:=Nat.mod_lt _ zD;rw [List.getElem?_eq_getElem h3];exact congrArg some (getElem!_pos (Yp d[t / 3]!) (t % 3) h3).symm
theorem Qib (d : Array Xz) : (flatK Yp 3 d).toList = Vd d:=by
 apply List.ext_getElem?;intro t;by_cases h : t < d.size * 3
 ·rw [Iu d t h,Array.getElem?_toList,getElem!_pos _ t (by simpa using h),Array.getElem?_eq_getElem (by simpa using h)]
 ·rw [List.getElem?_eq_none (by simpa using h),List.getElem?_eq_none];unfold Vd;rw [S7]
  simpa using h
theorem Qja {W : World} {base g cap : Nat} {t : TypeId} {d : Array Xz} (h : W.ownsRow base t 3 (.slice (some ⟨g,0,none⟩) d.size cap) d.size (Vd d)) : HoldsK Yp 3 W g 0 d ∧ g < W.heap.size ∧ base ≤ g:=by
 have h':=h;rcases h.2 with ⟨e,_⟩ | ⟨g',cap',cur,e,hb,hg,hn,hm,hs,ht⟩
 ·cases e
 ·obtain ⟨rfl, rfl⟩ : g = g' ∧ cap = cap' := by simpa using e
  have HH : Qb W g t cur:=hg;refine ⟨fun j hj => ⟨?_,?_⟩,HH.lt,hb⟩
  ·have hj' : j < d.size * 3 := by simpa using hj
   rw [Nat.zero_add,World.ownsRow.cellAt h' j hj',Iu d j hj'];rfl
  ·rw [Nat.zero_add];exact HH.frozen j
theorem Qmv {W : World} {base g cap n m : Nat} {t : TypeId} {xs : List Value} (h : W.ownsRow base t 3 (.slice (some ⟨g,0,none⟩) n cap) n xs) (d : Array Xz) (hd : d.size = n) (os : Array Obj) :
  W.grownBy (sortWorldK Yp 3 W g 0 m d os) (some g) ∧ (sortWorldK Yp 3 W g 0 m d os).ownsRow base t 3 (.slice (some ⟨g,0,none⟩) n cap) n (Vd d):=by
 rcases h.2 with ⟨e,_⟩ | ⟨g',cap',cur,e,hb,hg,hn,hm,hs,ht⟩
 ·cases e
 ·obtain ⟨rfl, rfl⟩ : g = g' ∧ cap = cap' := by simpa using e
  have hgl : g < W.heap.size:=(Array.getElem?_eq_some_iff.1 hg).1
  have hH : ∀ k,k < W.heap.size → (sortWorldK Yp 3 W g 0 m d os).heap[k]? = (W.heap.modify g (onCells (putCells id 0 (flatK Yp 3 d))))[k]?:=fun k hk => by
   show ((W.heap.modify g _) ++ os)[k]? = _
   rw [Array.getElem?_append_left (by simpa using hk)]
  refine ⟨⟨rfl,rfl,rfl,?_,fun k hk hne => ?_⟩,?_⟩
  ·show W.heap.size ≤ ((W.heap.modify g _) ++ os).size
   simp
  ·rw [hH k hk,Array.getElem?_modify,if_neg (fun e => hne (by rw [e]))]
  ·refine ⟨by unfold Vd; rw [S7]; simp [hd], .inr ⟨g, cap, putCells id 0 (flatK Yp 3 d) cur, rfl, hb, ?_, hn, hm, by simp [putCells, hs], ?_⟩⟩
   ·rw [hH g hgl,Array.getElem?_modify,if_pos rfl,hg];rfl
   ·rw [← Qib];apply List.ext_getElem?;intro k;rw [List.getElem?_take];by_cases hk : k < n * 3
    ·rw [if_pos hk];have hk2 : k < cur.size := by rw [hs]; omega
     have hk3 : k < (flatK Yp 3 d).size:=by simp [hd];exact hk
     simp [putCells,hk2,hd,hk]
    ·rw [if_neg hk,List.getElem?_eq_none (by simp [hd];omega)]
end
section
open Go Go.Shelf Go.Proofs
def Qnm : Go.Shelf.Ren:=⟨fun | 6 => 50 | 15 => 102 | 14 => 101 | 28 => 154 | 29 => 155 | 20 => 146 | 21 => 147 | 22 => 148 | 23 => 149 | 24 => 150 | 25 => 151 | 26 => 152 | 27 => 153 | 46 => 175 | 47 => 176 | 48 => 177 | 49 => 178 | 50 => 179 | 57 => 190 | n => n,fun | 22 => 43 | 24 => 47 | 25 => 135 | 3 => 3 | 39 => 190 | 0 => 0 | 53 => 243 | 55 => 245 | 4 => 4 | 46 => 236 | 45 => 235 | 50 => 240 | 5 => 5 | 9 => 9 | 66 => 266 | 70 => 180 | 76 => 286 | 77 => 183 | n => n,fun | n => n⟩
theorem Qdw : Go.Proofs.SlLaysF0.n6 Tryz.prog Qnm:={
 mixed:=by kernel_rfl
 f6:=⟨Tryz.f50.name,by decide,Tryz.func50.trans (congrArg some (by kernel_rfl))⟩
 f14:=⟨Tryz.f101.name,by decide,Tryz.func101.trans (congrArg some (by kernel_rfl))⟩
 f15:=Tryz.func102.trans (congrArg some (by kernel_rfl))
 f20:=⟨Tryz.f146.name,by decide,Tryz.func146.trans (congrArg some (by kernel_rfl))⟩
 f21:=⟨Tryz.f147.name,by decide,Tryz.func147.trans (congrArg some (by kernel_rfl))⟩
 f22:=⟨Tryz.f148.name,by decide,Tryz.func148.trans (congrArg some (by kernel_rfl))⟩
 f23:=⟨Tryz.f149.name,by decide,Tryz.func149.trans (congrArg some (by kernel_rfl))⟩
 f24:=⟨Tryz.f150.name,by decide,Tryz.func150.trans (congrArg some (by kernel_rfl))⟩
 f25:=⟨Tryz.f151.name,by decide,Tryz.func151.trans (congrArg some (by kernel_rfl))⟩
 f26:=⟨Tryz.f152.name,by decide,Tryz.func152.trans (congrArg some (by kernel_rfl))⟩
 f27:=⟨Tryz.f153.name,by decide,Tryz.func153.trans (congrArg some (by kernel_rfl))⟩
 f28:=Tryz.func154.trans (congrArg some (by kernel_rfl))
 f29:=Tryz.func155.trans (congrArg some (by kernel_rfl))
 f46:=⟨Tryz.f175.name,by decide,Tryz.func175.trans (congrArg some (by kernel_rfl))⟩
 f47:=Tryz.func176.trans (congrArg some (by kernel_rfl))
 f48:=Tryz.func177.trans (congrArg some (by kernel_rfl))
 f49:=⟨Tryz.f178.name,by decide,Tryz.func178.trans (congrArg some (by kernel_rfl))⟩
 f50:=⟨Tryz.f179.name,by decide,Tryz.func179.trans (congrArg some (by kernel_rfl))⟩
 f57:=⟨Tryz.f190.name,by decide,Tryz.func190.trans (congrArg some (by kernel_rfl))⟩
 t0:=Tryz.underlying0
 a0:=Tryz.isAgg0
 z0:=Tryz.sizeOf0
 v0:=Tryz.zeroValue0
 t3:=Tryz.underlying3
 a3:=Tryz.isAgg3
 z3:=Tryz.sizeOf3
 v3:=Tryz.zeroValue3
 t4:=Tryz.underlying4
 a4:=Tryz.isAgg4
 z4:=Tryz.sizeOf4
 v4:=Tryz.zeroValue4
 t5:=Tryz.underlying5
 a5:=Tryz.isAgg5
 z5:=Tryz.sizeOf5
 v5:=Tryz.zeroValue5
 t9:=Tryz.underlying9
 a9:=Tryz.isAgg9
 z9:=Tryz.sizeOf9
 v9:=Tryz.zeroValue9
 t22:=Tryz.underlying43
 a22:=Tryz.isAgg43
 z22:=Tryz.sizeOf43
 v22:=Tryz.zeroValue43
 t25:=Tryz.underlying135
 a25:=Tryz.isAgg135
 z25:=Tryz.sizeOf135
 v25:=Tryz.zeroValue135
 t39:=Tryz.underlying190
 a39:=Tryz.isAgg190
 z39:=Tryz.sizeOf190
 v39:=Tryz.zeroValue190
 t45:=Tryz.underlying235
 a45:=Tryz.isAgg235
 z45:=Tryz.sizeOf235
 v45:=Tryz.zeroValue235
 t46:=Tryz.underlying236
 a46:=Tryz.isAgg236
 z46:=Tryz.sizeOf236
 v46:=Tryz.zeroValue236
 t50:=Tryz.underlying240
 a50:=Tryz.isAgg240
 z50:=Tryz.sizeOf240
 v50:=Tryz.zeroValue240
 t53:=Tryz.underlying243
 a53:=Tryz.isAgg243
 z53:=Tryz.sizeOf243
 v53:=Tryz.zeroValue243
 t55:=Tryz.underlying245
 a55:=Tryz.isAgg245
 z55:=Tryz.sizeOf245
 v55:=Tryz.zeroValue245
 t66:=Tryz.underlying266
 a66:=Tryz.isAgg266
 z66:=Tryz.sizeOf266
 v66:=Tryz.zeroValue266
 t70:=Tryz.underlying180
 a70:=Tryz.isAgg180
 z70:=Tryz.sizeOf180
 v70:=Tryz.zeroValue180
 t76:=Tryz.underlying286
 a76:=Tryz.isAgg286
 z76:=Tryz.sizeOf286
 v76:=Tryz.zeroValue286
 t77:=Tryz.underlying183
 a77:=Tryz.isAgg183
 z77:=Tryz.sizeOf183
 v77:=Tryz.zeroValue183 }
end
section
open Go Go.RowKit Go.Shelf Go.Sort Go.Proofs
theorem Qgy (g size : Nat) (W : World) : CmpLays Tryz.prog 51 #[] Yp 3 Ki g 0 size W :=
 fun _ _ _ _ x y => (Qgx x y _).mono (fun _ _ ⟨he,os',hw⟩ => ⟨he,0,os',hw⟩)
theorem Qnn {W : World} {base g cap : Nat} (d : Array Xz) (h : W.ownsRow base 47 3 (.slice (some ⟨g,0,none⟩) d.size cap) d.size (Vd d)) (hsz : d.size ≤ 1000000) :
  Calls Tryz.prog 50 #[.slice (some ⟨g,0,none⟩) d.size cap,.func (.func 51) #[] #[]] W fun e w' => e = .returned (.tuple #[]) ∧ ∃ (d' : Array Xz) (n : Nat) (os : Array Obj),PermIn 0 d.size d d' ∧ SortedIn (fun x y => decide (Ki x y < 0)) 0 d.size d' ∧ w' = sortWorldK Yp 3 W g 0 n d' os:=by
 obtain ⟨hH,hg,_⟩:=Qja h;have eg : ∀ args w,(callFunc 51 args).run Tryz.prog w = .ok (.enter 51 args) w:=enters_of Tryz.func51 zK rfl;exact AnyQ.slices_SortFunc Qdw 3 Tryz.isAgg47 Tryz.sizeOf47 Yp (fun _ => rfl) (fun x v hv => L9 _ _ _ v hv) Ki Qgw 51 #[] g 0 cap d W eg (Qgy g d.size W) hH hg Qa
theorem Qnp (W : World) : Calls Tryz.prog 50 #[.slice none 0 0,.func (.func 51) #[] #[]] W fun e w' => e = .returned (.tuple #[]) ∧ w' = W:=AnyF.slices_SortFunc_none Qdw none 0 _ W
theorem Qf2 {L : List Z7} (hB : ∀ x ∈ L,IsB x) : ∃ d : Array Xz,d.toList.map (·.1) = L:=by
 induction L with
 | nil => exact ⟨#[],rfl⟩
 | cons x L ih =>
  obtain ⟨d,hd⟩:=ih (fun y hy => hB y (by simp [hy]));exact ⟨(⟨x,hB x (by simp)⟩ :: d.toList).toArray,by simp [hd]⟩
theorem Ir (d : Array Xz) : Vd d = (d.toList.map (·.1)).flatMap Xd:=by
 unfold Vd;rw [List.flatMap_map];rfl
theorem Qno {W W0 : World} {k : Nat} {I : OA} {L : List Z7} (h : Jj W0 W (.slice I L.length k) L) : (I = none ∧ k = 0 ∧ L = []) ∨ ∃ g,I = some ⟨g,0,none⟩:=by
 rcases h.2 with ⟨e,h0⟩ | ⟨g,cap,cur,e,_⟩
 ·simp only [Value.slice.injEq] at e;exact .inl ⟨e.1,e.2.2,List.eq_nil_of_length_eq_zero h0⟩
 ·simp at e;exact .inr ⟨g,e.1⟩
theorem Qnl {W0 W : World} {I : OA} {k : Nat} {L : List Z7} (h : Jj W0 W (.slice I L.length k) L) (hB : ∀ x ∈ L,IsB x) (hl : L.length ≤ 1000000) :
  Calls Tryz.prog 50 #[.slice I L.length k,.func (.func 51) #[] #[]] W fun e w' => e = .returned (.tuple #[]) ∧ ∃ L' : List Z7,L'.length = L.length ∧ L.Perm L' ∧ L'.Pairwise (fun x y => ¬ Wo y x) ∧ W.grownBy w' (Value.slice I L.length k).ownBlock ∧ Jj W0 w' (.slice I L.length k) L':=by
 rcases Qno h with ⟨rfl,rfl,rfl⟩ | ⟨g,rfl⟩
 ·refine zc (Qnp W) ?_;rintro e w' ⟨rfl,rfl⟩;exact ⟨rfl,[],rfl,List.Perm.refl _,List.Pairwise.nil,⟨rfl,rfl,rfl,Nat.le_refl _,fun _ _ _ => rfl⟩,h⟩
 ·obtain ⟨d, hd⟩ := Qf2 hB;have hs : d.size = L.length := by rw [← hd]; simp
  unfold Jj at h;have h2:=h;rw [← hs] at h2;rw [← hd,← Ir] at h2;rw [← hs];refine zc (Qnn d h2 Qa) ?_;rintro e w' ⟨rfl,d',n,os,⟨p1,_,p3⟩,hso,rfl⟩;obtain ⟨hg,ho⟩:=Qmv (m:=n) h2 d' p1 os;refine ⟨rfl,d'.toList.map (·.1),by rw [List.length_map];simpa using p1,?_,?_,hg,?_⟩
  ·rw [← hd];have e1 : (d'.extract 0 d.size).toList = d'.toList := by simp [← p1]
   have e2 : (d.extract 0 d.size).toList = d.toList:=by simp
   rw [e1,e2] at p3;exact p3.symm.map _
  ·rw [List.pairwise_map, List.pairwise_iff_getElem];intro i j hi hj hij;have hj' : j < d.size := by rw [← p1]; simpa using hj
   have:=hso i j (Nat.zero_le _) hij hj';simp only [decide_eq_false_iff_not,G0] at this;rw [getElem!_pos d' j (by rw [p1];exact hj'),getElem!_pos d' i (by rw [p1];omega)] at this
   simpa using this
  ·unfold Jj;rw [← Ir,List.length_map,show d'.toList.length = d.size by simpa using p1];exact ho
end
section
def sA : ByteArray:=⟨#[97]⟩
def sB : ByteArray:=⟨#[98]⟩
def sC : ByteArray:=⟨#[99]⟩
def sU8 : ByteArray:=⟨#[117,114]⟩
def Uj : ByteArray:=⟨#[98,97,114,108,101,121]⟩
def yr8 : Nat → Yr
 | 0 => ⟨0,sA,4095,0⟩
 | 1 => ⟨0,sB,4095,0⟩
 | _ => ⟨0,sC,4095,0⟩
def X5 : Qd:=⟨1,fun _ => sU8,3,yr8⟩
def l8 : Ln:=⟨⟨60,1⟩,⟨1,5⟩,⟨0,1,false,1⟩⟩
def p8 : Nat → Yi:=fun _ => ⟨⟨0,7,false,1⟩,⟨10,1⟩⟩
def d8 : Dt:=⟨1,7,false,1⟩
def t8 : Nat → Tk
 | 0 => ⟨⟨10,1⟩,⟨1,3⟩⟩
 | _ => ⟨⟨5,1⟩,⟨1,1⟩⟩
def f8 : Dt:=⟨0,1,false,1⟩
def u8' : Dt:=⟨0,1,false,30⟩
def w8 : Nat → Cw:=fun _ => ⟨2,⟨1,2⟩,f8,u8'⟩
def h8 : Y3:=⟨10,2,5⟩
def pd8 : Pd:=⟨sA,f8,u8',[⟨Uj,10⟩],[⟨⟨0,1,false,2⟩,true,sB,[⟨Uj,5⟩]⟩,⟨⟨0,1,false,2⟩,false,sB,[⟨Uj,20⟩]⟩],[]⟩
theorem e8_int : Yc ⟨60,1⟩ ⟨1,5⟩ 180 = (⟨6,1⟩,0):=by kernel_rfl
theorem e8_dbl : Ue ⟨1,3⟩ = (1080,0):=by kernel_rfl
theorem Qht : X5.owedV l8 p8 1 d8 = (⟨⟨56,1⟩,⟨56,5⟩,⟨0,1⟩⟩,0):=by kernel_rfl
theorem Qhu : X5.settleV l8 p8 1 d8 = (⟨336,5⟩,0):=by kernel_rfl
theorem e8_bal : X5.balV t8 2 w8 1 = (⟨-5,1⟩,0):=by kernel_rfl
theorem e8_few : X5.fewV t8 2 ⟨1,2⟩ f8 u8' = (3,0):=by kernel_rfl
theorem Qhs : Ve h8 ⟨4,5⟩ ⟨1,10⟩ 1 = (⟨12,4,7⟩,0):=by kernel_rfl
theorem Qhr : X5.closeV pd8 = ([⟨Uj,-5⟩],0):=by kernel_rfl
end
section
open Go Go.RowKit Go.Shelf
attribute [local go_sem] Z8
attribute [local go_sem high] Da
theorem Lv {w : World} {b : Nat} {t : TypeId} {cs : Array Value} {n sz : Nat} {f : Nat → List Value} (h : Qb w b t cs) (hf : ∀ i j v,i < n → (f i)[j]? = some v → cs[i * sz + j]? = some v) : Qm w (some ⟨b,0,none⟩) n sz f :=
 fun _ => ⟨b,0,rfl,h.lt,fun i j v hi hv => by rw [Nat.zero_add,h.cell];exact hf i j v hi hv⟩
theorem U5 (n d : Int) (w : World) :
  Calls Tryz.prog 25 #[.int .i64 n,.int .i64 d] w fun e w' => e = .returned (.agg #[.int .i64 n,.int .i64 d]) ∧ Qc w w':=by
 go_enter Tryz.func25,Tryz.ntmps25
 go_wp2;refine bodyPost_ret (v:=.agg #[.int .i64 n,.int .i64 d]) (by simp [results,Tryz.results25,go_sem]) rfl ⟨rfl,Qu⟩
theorem Xv (y m d : Int) (w : World) :
  Calls Tryz.prog 24 #[.int .i64 y,.int .i64 m,.int .i64 d] w fun e w' => e = .returned (.agg #[.int .i64 y,.int .i64 m,.bool false,.int .i64 d]) ∧ Qc w w':=by
 go_enter Tryz.func24,Tryz.ntmps24
 go_wp2;refine bodyPost_ret (v:=.agg #[.int .i64 y,.int .i64 m,.bool false,.int .i64 d]) (by simp [results,Tryz.results24,go_sem]) rfl ⟨rfl,Qu⟩
theorem Fo (s : ByteArray) (n : Int) (w : World) :
  Calls Tryz.prog 20 #[.string s,.int .i64 n] w fun e w' => ∃ b,e = .returned (.slice (some ⟨b,0,none⟩) 1 1) ∧ Qc w w' ∧ Zl w' (.slice (some ⟨b,0,none⟩) 1 1) [⟨s,n⟩]:=by
 go_enter Tryz.func20,Tryz.ntmps20
 go_wp2;go_ret;refine ⟨w.heap.size,rfl,Qu,some ⟨w.heap.size,0,none⟩,1,rfl,?_,Nat.le_refl _,by decide,fun h => (by cases h)⟩;refine Lv (t:=85) (cs:=#[.string s,.int .i64 n]) Wx ?_;intro i j v hi hv;obtain rfl : i = 0:=by simp at hi;omega
 have hj : j < 2:=(List.getElem?_eq_some_iff.1 hv).1;rw [← hv];have : j = 0 ∨ j = 1:=Qa;rcases this with rfl | rfl <;> rfl
theorem Qf9 (w : World) :
  Calls Tryz.prog 21 #[] w fun e w' => ∃ A A' ca cb,e = .returned (.agg #[.slice A 1 ca,.slice A' 3 cb]) ∧ Qc w w' ∧ Za w' A ca A' cb X5:=by
 go_enter Tryz.func21,Tryz.ntmps21
 go_wp2;refine bodyPost_ret (v:=.agg #[.slice (some ⟨w.heap.size + 1,0,none⟩) 1 1,.slice (some ⟨w.heap.size + 1 + 1,0,none⟩) 3 3]) (by simp [results,Tryz.results21,go_sem]) rfl ⟨_,_,_,_,rfl,Qu,⟨?_,?_,by decide,by decide,by decide,by decide⟩⟩
 ·refine Lv (t:=9) (cs:=#[.string sU8]) Wx ?_;intro i j v hi hv;have hi : i < 1:=hi;have hj : j < 1:=(List.getElem?_eq_some_iff.1 hv).1;rw [← hv];obtain rfl : i = 0:=Qa;obtain rfl : j = 0:=Qa;rfl
 ·refine Lv (t:=148) (cs:=#[.int .i64 0,.string sA,.int .i64 4095,.int .i64 0,.int .i64 0,.string sB,.int .i64 4095,.int .i64 0,.int .i64 0,.string sC,.int .i64 4095,.int .i64 0]) Wx ?_;intro i j v hi hv;have hi : i < 3:=hi;have hj : j < 4:=(List.getElem?_eq_some_iff.1 hv).1;rw [← hv];have h1 : i = 0 ∨ i = 1 ∨ i = 2:=Qa;have h2 : j = 0 ∨ j = 1 ∨ j = 2 ∨ j = 3:=Qa;rcases h1 with rfl | rfl | rfl <;> rcases h2 with rfl | rfl | rfl | rfl <;> rfl
theorem Qiy {W : World} {b : Nat} {t : TypeId} {v0 v1 v2 v3 v4 v5 v6 v7 : Value} (h : Qb W b t #[v0,v1,v2,v3,v4,v5,v6,v7]) (u0 u1 u2 u3 u4 u5 u6 u7 : Value) : Qb ((((((((W.setCell ⟨b,0,none⟩ u0).setCell ⟨b,1,none⟩ u1).setCell ⟨b,2,none⟩ u2).setCell ⟨b,3,none⟩ u3).setCell ⟨b,4,none⟩ u4).setCell ⟨b,5,none⟩ u5).setCell ⟨b,6,none⟩ u6).setCell ⟨b,7,none⟩ u7) b t #[u0,u1,u2,u3,u4,u5,u6,u7]:=by unfold Qb at h ⊢;simp [World.setCell,Array.getElem?_modify,h]
theorem ext8 {W0 W : World} {b : Nat} (h : Qc W0 W) (hb : W0.heap.size ≤ b) (u0 u1 u2 u3 u4 u5 u6 u7 : Value) : Qc W0 ((((((((W.setCell ⟨b,0,none⟩ u0).setCell ⟨b,1,none⟩ u1).setCell ⟨b,2,none⟩ u2).setCell ⟨b,3,none⟩ u3).setCell ⟨b,4,none⟩ u4).setCell ⟨b,5,none⟩ u5).setCell ⟨b,6,none⟩ u6).setCell ⟨b,7,none⟩ u7) :=
 (((((((h.setCell (p:=⟨b,0,none⟩) hb u0).setCell (p:=⟨b,1,none⟩) hb u1).setCell (p:=⟨b,2,none⟩) hb u2).setCell (p:=⟨b,3,none⟩) hb u3).setCell (p:=⟨b,4,none⟩) hb u4).setCell (p:=⟨b,5,none⟩) hb u5).setCell (p:=⟨b,6,none⟩) hb u6).setCell (p:=⟨b,7,none⟩) hb u7
theorem Qiz {W : World} {b b' : Nat} {t : TypeId} {cs : Array Value} (h : Qb W b t cs) (hne : b ≠ b') (u0 u1 u2 u3 u4 u5 u6 u7 : Value) : Qb ((((((((W.setCell ⟨b',0,none⟩ u0).setCell ⟨b',1,none⟩ u1).setCell ⟨b',2,none⟩ u2).setCell ⟨b',3,none⟩ u3).setCell ⟨b',4,none⟩ u4).setCell ⟨b',5,none⟩ u5).setCell ⟨b',6,none⟩ u6).setCell ⟨b',7,none⟩ u7) b t cs :=
 Qg (Qg (Qg (Qg (Qg (Qg (Qg (Qg h hne 0 u0) hne 1 u1) hne 2 u2) hne 3 u3) hne 4 u4) hne 5 u5) hne 6 u6) hne 7 u7
theorem Qj8 (w : World) :
  Calls Tryz.prog 22 #[] w fun e w' => ∃ b,e = .returned (.tuple #[.agg #[.int .i64 60,.int .i64 1,.int .i64 1,.int .i64 5,.int .i64 0,.int .i64 1,.bool false,.int .i64 1],.slice (some ⟨b,0,none⟩) 1 1]) ∧ Qc w w' ∧ Qm w' (some ⟨b,0,none⟩) 1 6 (Yz p8):=by
 go_enter Tryz.func22,Tryz.ntmps22
 go_upto_region 1 with fail
 obtain ⟨v,hv⟩:=Qe (w.alloc (.cells #[.int .i64 0,.int .i64 0,.int .i64 0,.int .i64 0,.int .i64 0,.int .i64 0,.bool false,.int .i64 0] 67));rw [← hv];have E : Qc w v:=by rw [hv];exact (Qc.refl _).alloc _
 have B1 : Qb v w.heap.size 67 #[.int .i64 0,.int .i64 0,.int .i64 0,.int .i64 0,.int .i64 0,.int .i64 0,.bool false,.int .i64 0]:=by rw [hv];exact Qb.new _ _ _
 clear hv;obtain ⟨b1,hb1⟩:=Qe (w.heap.size);rw [← hb1] at B1 ⊢;have hbr : w.heap.size ≤ b1:=Qa;clear hb1;go_wp2_with (first | (go_at_call 25;(with_reducible refine zc (U5 10 1 _) ?_);rintro e wa ⟨rfl,hx⟩;replace E:=E.trans hx;replace B1:=B1.ext hx;clear hx;have BA:=B1.alloc (.cells #[.int .i64 0,.int .i64 7,.bool false,.int .i64 1,.int .i64 10,.int .i64 1] 78);have z0:=BA.frozen 0;have z1:=BA.frozen 1;have z2:=BA.frozen 2;have z3:=BA.frozen 3;have z4:=BA.frozen 4;have z5:=BA.frozen 5;have z6:=BA.frozen 6;have z7:=BA.frozen 7;obtain ⟨x0,x1,x2,x3,x4,x5,x6,x7⟩:=BA.c8;have lx:=BA.lt) | (go_at_call 25;(with_reducible refine zc (U5 _ _ _) ?_);rintro e wa ⟨rfl,hx⟩;replace E:=E.trans hx;replace B1:=B1.ext hx;clear hx) | (go_at_call 24;refine zc (Xv _ _ _ _) ?_;rintro e wa ⟨rfl,hx⟩;replace E:=E.trans hx;replace B1:=B1.ext hx;clear hx))
 have H8:=Qiy (B1.alloc (.cells #[.int .i64 0,.int .i64 7,.bool false,.int .i64 1,.int .i64 10,.int .i64 1] 78)) (.int .i64 60) (.int .i64 1) (.int .i64 1) (.int .i64 5) (.int .i64 0) (.int .i64 1) (.bool false) (.int .i64 1);have E8:=ext8 (E.alloc (.cells #[.int .i64 0,.int .i64 7,.bool false,.int .i64 1,.int .i64 10,.int .i64 1] 78)) hbr (.int .i64 60) (.int .i64 1) (.int .i64 1) (.int .i64 5) (.int .i64 0) (.int .i64 1) (.bool false) (.int .i64 1);have P8:=Qiz (Qb.new wa 78 #[.int .i64 0,.int .i64 7,.bool false,.int .i64 1,.int .i64 10,.int .i64 1]) (show wa.heap.size ≠ b1 by have:=B1.lt;omega) (.int .i64 60) (.int .i64 1) (.int .i64 1) (.int .i64 5) (.int .i64 0) (.int .i64 1) (.bool false) (.int .i64 1)
 obtain ⟨y0,y1,y2,y3,y4,y5,y6,y7⟩:=H8.c8;refine bodyPost_ret (v:=.tuple #[.agg #[.int .i64 60,.int .i64 1,.int .i64 1,.int .i64 5,.int .i64 0,.int .i64 1,.bool false,.int .i64 1],.slice (some ⟨wa.heap.size,0,none⟩) 1 1]) (by simp [results,Tryz.results22,go_sem,y0,y1,y2,y3,y4,y5,y6,y7]) rfl ⟨_,rfl,E8,?_⟩;refine Lv P8 ?_;intro i j v hi hv;obtain rfl : i = 0:=Qa;have hj : j < 6:=(List.getElem?_eq_some_iff.1 hv).1;rw [← hv];have : j = 0 ∨ j = 1 ∨ j = 2 ∨ j = 3 ∨ j = 4 ∨ j = 5:=Qa;rcases this with rfl | rfl | rfl | rfl | rfl | rfl <;> rfl
theorem Qnf (v1 v2 : Value) (a b : List Lt) (w : World) (h1 : Zl w v1 a) (h2 : Zl w v2 b) :
  Calls Tryz.prog 29 #[v1,v2] w fun e w' => e = .returned (.bool (decide (a = b))) ∧ Qc w w':=by
 obtain ⟨A,ca,rfl,hA,hca,hca',_⟩:=h1;obtain ⟨B,cb,rfl,hB,hcb,hcb',_⟩:=h2;obtain ⟨R,hR0⟩:=Qe (decide (a = b));rw [← hR0];have HR:=zh hR0;clear hR0;by_cases hn : a.length = b.length
 ·have HL:=zh hn;obtain ⟨n,hnl⟩:=Qe (a.length);rw [← hn] at hcb hB ⊢;rw [← hnl] at hca hcb hA hB ⊢;have h63 : n ≤ 9223372036854775807:=Nat.le_trans hca (Nat.le_trans hca' zD);replace hnl:=zh hnl
  have hno : Hid (∀ k,k < n → Q8 a k ≠ Q8 b k → R = false):=fun k hk h => by
   rw [HR.out];exact zf fun e => h (by rw [e])
  have hyes : Hid ((∀ k,k < n → Q8 a k = Q8 b k) → R = true):=fun h => by
   rw [HR.out];refine zt (List.ext_getElem HL.out fun i h1 h2 => ?_);have:=h i (by rw [hnl.out];exact h1)
   rwa [Ls h1,Ls h2] at this
  clear HR HL hn hnl hca' hcb' hca hcb;generalize Q8 a = f at *;generalize Q8 b = g at *
  go_enter Tryz.func29,Tryz.ntmps29
  go_wp2
  go_loopw [5] (fun i wr => ∃ k : Nat,k ≤ n ∧ i = .int .i64 k ∧ Hid (∀ j,j < k → f j = g j) ∧ Qc w wr) (fun i _ => n - (intOf i).toNat)
  case atStart => exact ⟨0,Nat.zero_le _,rfl,(fun i hi => absurd hi Qa),Qc.refl _⟩
  case round =>
   obtain ⟨k,hk,rfl,hp,hE⟩:=hrel;obtain ⟨wo,rfl⟩:=Qe wr;by_cases hlt : k < n
   ·obtain ⟨b1, o1, rfl, hb, hc⟩ := (hA.ext hE) Qa;obtain ⟨b2, o2, rfl, hb', hd⟩ := (hB.ext hE) Qa;have c0 : wo.cell? ⟨b1, o1 + k * 2, none⟩ = some (.string (f k).g) := by simpa [Q5] using hc k 0 _ hlt rfl
    have c1 : wo.cell? ⟨b1,o1 + k * 2 + 1,none⟩ = some (.int .i64 (f k).n):=by simpa [Q5] using hc k 1 _ hlt rfl
    have d0 : wo.cell? ⟨b2,o2 + k * 2,none⟩ = some (.string (g k).g):=by simpa [Q5] using hd k 0 _ hlt rfl
    have d1 : wo.cell? ⟨b2,o2 + k * 2 + 1,none⟩ = some (.int .i64 (g k).n):=by simpa [Q5] using hd k 1 _ hlt rfl
    have hq : Hid ((((f k).g.toList == (g k).g.toList) && ((f k).n == (g k).n)) = decide (f k = g k)):=by
     unfold Hid;rw [← Nm,Bool.eq_iff_iff];simp only [Bool.and_eq_true,decide_eq_true_eq,beq_iff_eq]
     constructor
     ·rintro ⟨e1,e2⟩;cases hf : f k;cases hg : g k
      rw [hf,hg] at e1 e2
      simp_all
     ·intro e;rw [e];exact ⟨rfl,rfl⟩
    have hs : Hid (f k = g k → ∀ j,j < k + 1 → f j = g j):=fun e j hj => by
     by_cases h : j = k
     ·subst h;exact e
     ·exact hp.out j Qa
    have hnk:=zh (hno.out k hlt);clear hc hd hA hB hp;generalize f k = x at *;generalize g k = y at *;go_upto_region 6 with fail
    clear hno hyes;generalize hg1 : (x.g.toList == y.g.toList) = e1 at *;generalize hg2 : (x.n == y.n) = e2 at *;by_cases hxy : x = y
    ·obtain ⟨rfl,rfl⟩ : e1 = true ∧ e2 = true:=by
      have h:=hq.out;rw [zt hxy] at h
      simpa using h
     have hp':=zh (hs.out hxy);clear hs hq hnk hxy;refine Qy wo ?_;intro wn hwn;obtain ⟨hcbwn,hfbwn,hzbwn,hzwn⟩:=Qv wo hwn;go_wp2;exact ⟨⟨k + 1,Qa,by go_num,hp',hE.trans hwn⟩,zi⟩
    ·have hr:=hnk.out hxy
     have h : e1 = false ∨ (e1 = true ∧ e2 = false):=by
      have h:=hq.out;rw [zf hxy] at h;cases e1 <;> simp_all
     clear hs hq hnk hxy;rcases h with rfl | ⟨rfl,rfl⟩
     ·skip
      refine Qy wo ?_;intro wn hwn;obtain ⟨hcbwn,hfbwn,hzbwn,hzwn⟩:=Qv wo hwn;go_wp2;go_ret;exact ⟨by rw [hr];rfl,hE.trans hwn⟩
     ·skip
      refine Qy wo ?_;intro wn hwn;obtain ⟨hcbwn,hfbwn,hzbwn,hzwn⟩:=Qv wo hwn;go_wp2;go_ret;exact ⟨by rw [hr];rfl,hE.trans hwn⟩
   ·obtain rfl : k = n:=Qa;have hr:=hyes.out hp.out;clear hyes hno;go_wp2;go_ret;exact ⟨by rw [hr];rfl,hE⟩
 ·have hne : ((a.length : Int) == (b.length : Int)) = false := zb Qa;have hnn : ((a.length : Int) != (b.length : Int)) = true := by rw [bne, hne]; rfl
  have hr : R = false:=by rw [HR.out];exact zf fun e => hn (by rw [e])
  clear hn HR
  go_enter Tryz.func29,Tryz.ntmps29
  go_wp2;go_ret;exact ⟨by rw [hr];rfl,Qc.refl _⟩
end
end Go.Proofs.YtoflcheopfppoaaGreatDoor
