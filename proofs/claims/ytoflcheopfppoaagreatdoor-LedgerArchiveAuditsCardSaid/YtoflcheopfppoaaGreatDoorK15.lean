/- Walks and plain facts, packed; no conditions but those that each states. -/
import Derived.Test.YtoflcheopfppoaaGreatDoorK14
import Derived.Deep.Cut
import Derived.Deep.CutRange
set_option maxRecDepth 100000
set_option maxHeartbeats 4000000
namespace Go.Proofs.YtoflcheopfppoaaGreatDoor
section
open Go Go.RowKit Go.Shelf
attribute [local go_sem] Z8
attribute [local go_sem high] Qh4
theorem Qcz (l : List Pd) (i : Nat) : Qz l i = l.getD i Qp:=rfl
theorem Ll {l : List Pd} {h : ByteArray} {k : Nat} : k ∈ Y6 l h ↔ k < l.length ∧ (Qz l k).h = h:=by
 unfold Y6;rw [List.mem_filter,List.mem_range,decide_eq_true_eq]
def Qd.ovC (c : Qd) (l : List Pd) (i k : Nat) : Bool:=decide ((Qz l k).h = (Qz l i).h) && decide (c.numV (Qz l k).a ≤ c.numV (Qz l i).b) && decide (c.numV (Qz l i).a ≤ c.numV (Qz l k).b)
theorem ov_yes {c : Qd} {l : List Pd} {i k : Nat} (hi : i < l.length) (hk : k < i) (h : c.ovC l i k = true) : c.ovB l i = true:=by
 unfold Qd.ovC at h;simp only [Bool.and_eq_true,decide_eq_true_eq] at h;unfold Qd.ovB;rw [List.any_eq_true];exact ⟨k,Ll.2 ⟨Qa,h.1.1⟩,by simp [hk,h.1.2,h.2]⟩
theorem ov_no {c : Qd} {l : List Pd} {i : Nat} (h : ∀ k,k < i → c.ovC l i k = false) : c.ovB l i = false:=by
 unfold Qd.ovB;rw [List.any_eq_false];intro k hk h';obtain ⟨_,e⟩:=Ll.1 hk;simp only [Bool.and_eq_true,decide_eq_true_eq] at h';have:=h k h'.1.1;unfold Qd.ovC at this;rw [zt e,zt h'.1.2,zt h'.2] at this;exact absurd this zD
def Qd.keC (c : Qd) (l : List Pd) (w : ByteArray) (on : Dt) (k : Nat) : Bool:=decide ((Qz l k).h = w) && decide (c.numV (Qz l k).a ≤ c.numV on) && decide (c.numV on ≤ c.numV (Qz l k).b)
theorem ke_yes {c : Qd} {l : List Pd} {w : ByteArray} {on : Dt} {k : Nat} (hk : k < l.length) (h : c.keC l w on k = true) : c.keptB l w on = true:=by
 unfold Qd.keC at h;simp only [Bool.and_eq_true,decide_eq_true_eq] at h;unfold Qd.keptB;rw [List.any_eq_true];exact ⟨k,Ll.2 ⟨hk,h.1.1⟩,by simp [h.1.2,h.2]⟩
theorem ke_no {c : Qd} {l : List Pd} {w : ByteArray} {on : Dt} (h : ∀ k,k < l.length → c.keC l w on k = false) : c.keptB l w on = false:=by
 unfold Qd.keptB;rw [List.any_eq_false];intro k hk h';obtain ⟨hl,e⟩:=Ll.1 hk;simp only [Bool.and_eq_true,decide_eq_true_eq] at h';have:=h k hl;unfold Qd.keC at this;rw [zt e,zt h'.1,zt h'.2] at this;exact absurd this zD
theorem pr_yes {m : List (Rf × Rf)} {r : Rf} {k : Nat} (hk : k < m.length) (h : (m.getD k (Qn,Qn)).1 = r ∨ (m.getD k (Qn,Qn)).2 = r) : Wh m r = true:=by
 unfold Wh;rw [List.any_eq_true];refine ⟨m.getD k (Qn,Qn),J6 hk,?_⟩;rcases h with h | h
 ·rw [zt h];rfl
 ·rw [zt h,Bool.or_true]
theorem pr_no {m : List (Rf × Rf)} {r : Rf} (h : ∀ k,k < m.length → ¬ (m.getD k (Qn,Qn)).1 = r ∧ ¬ (m.getD k (Qn,Qn)).2 = r) : Wh m r = false:=by
 unfold Wh;rw [List.any_eq_false];intro p hp;obtain ⟨k,hk,rfl⟩:=Gq (z:=(Qn,Qn)) hp;have:=h k hk;rw [zf this.1,zf this.2]
 decide
theorem Qfz (A A' : OA) (ca cb : Nat) (c : Qd) (l : List Pd) (vl : Value) (ba : Nat) (days : Int) (i : Nat) (w : World) (hA : U9 w ba A A' ca cb c vl l days) (hv : c.valid = true) (hi : i < l.length) :
  Calls Tryz.prog 54 #[.pointer (some ⟨ba,0,none⟩),.int .i64 i] w fun e w' => e = .returned (.int .i64 (c.befV l i)) ∧ Qc w w':=by
 obtain ⟨D,cap,vo,vd,vc,rfl,hD,hcap,hmax,_,hat⟩:=id hA.P;have hn : l.length ≤ 9223372036854775807:=Nat.le_trans hcap (Nat.le_trans hmax zD);clear hcap hmax hat;have hB:=hA.b;have hC:=hA.C;clear hA;have ND:=fun d w h => G7 A A' ca cb c d w h hv
 obtain ⟨R,hR⟩:=Qe (c.befV l i);rw [← hR];replace hR : Hid (c.befK l i l.length = R):=zh ((Sg c l i).trans hR.symm)
 go_enter Tryz.func54,Tryz.ntmps54
 go_upto_region 3 with fail
 go_loopw [5,6] (fun bv kv wr => ∃ (k : Nat) (b : Int),k ≤ l.length ∧ kv = .int .i64 k ∧ bv = .int .i64 b ∧ -1 ≤ b ∧ b < k ∧ Qc w wr ∧ Hid (c.befK l i k = b)) (fun _ kv _ => l.length - (intOf kv).toNat)
 case atStart => exact ⟨0,-1,Nat.zero_le _,rfl,rfl,Qa,Qa,Qc.refl _,zh rfl⟩
 case round =>
  obtain ⟨k,b,hk,rfl,rfl,hb1,hb2,E,hbk⟩:=hrel;obtain ⟨wo,rfl⟩:=Qe wr;obtain ⟨a0,a1,a2,a3,al⟩:=Qb.d4 (hB.ext E);by_cases hlt : k < l.length;rotate_left
  ·obtain rfl : k = l.length:=Qa;obtain rfl : b = R:=hbk.out.symm.trans hR.out;clear hbk hR;go_wp2;go_ret;exact ⟨rfl,E⟩
  have C:=hC.ext E;obtain ⟨bp,off,rfl,hbp,hc⟩:=(hD.ext E) Qa;obtain ⟨pk,hpk⟩:=Qe (l.getD k Qp);have c0 : wo.cell? ⟨bp,off + k * 12,none⟩ = some (.string pk.h):=by rw [hpk];simpa [Qi] using hc k 0 _ hlt rfl
  have c1 : wo.cell? ⟨bp,off + k * 12 + 1,none⟩ = some (.int .i64 pk.a.y):=by rw [hpk];simpa [Qi] using hc k 1 _ hlt rfl
  have c2 : wo.cell? ⟨bp,off + k * 12 + 2,none⟩ = some (.int .i64 pk.a.m):=by rw [hpk];simpa [Qi] using hc k 2 _ hlt rfl
  have c3 : wo.cell? ⟨bp,off + k * 12 + 3,none⟩ = some (.bool pk.a.s):=by rw [hpk];simpa [Qi] using hc k 3 _ hlt rfl
  have c4 : wo.cell? ⟨bp,off + k * 12 + 4,none⟩ = some (.int .i64 pk.a.d):=by rw [hpk];simpa [Qi] using hc k 4 _ hlt rfl
  have c5 : wo.cell? ⟨bp,off + k * 12 + 5,none⟩ = some (.int .i64 pk.b.y):=by rw [hpk];simpa [Qi] using hc k 5 _ hlt rfl
  have c6 : wo.cell? ⟨bp,off + k * 12 + 6,none⟩ = some (.int .i64 pk.b.m):=by rw [hpk];simpa [Qi] using hc k 6 _ hlt rfl
  have c7 : wo.cell? ⟨bp,off + k * 12 + 7,none⟩ = some (.bool pk.b.s):=by rw [hpk];simpa [Qi] using hc k 7 _ hlt rfl
  have c8 : wo.cell? ⟨bp,off + k * 12 + 8,none⟩ = some (.int .i64 pk.b.d):=by rw [hpk];simpa [Qi] using hc k 8 _ hlt rfl
  obtain ⟨pi,hpi⟩:=Qe (l.getD i Qp);have d0 : wo.cell? ⟨bp,off + i * 12,none⟩ = some (.string pi.h):=by rw [hpi];simpa [Qi] using hc i 0 _ hi rfl
  have d1 : wo.cell? ⟨bp,off + i * 12 + 1,none⟩ = some (.int .i64 pi.a.y):=by rw [hpi];simpa [Qi] using hc i 1 _ hi rfl
  have d2 : wo.cell? ⟨bp,off + i * 12 + 2,none⟩ = some (.int .i64 pi.a.m):=by rw [hpi];simpa [Qi] using hc i 2 _ hi rfl
  have d3 : wo.cell? ⟨bp,off + i * 12 + 3,none⟩ = some (.bool pi.a.s):=by rw [hpi];simpa [Qi] using hc i 3 _ hi rfl
  have d4 : wo.cell? ⟨bp,off + i * 12 + 4,none⟩ = some (.int .i64 pi.a.d):=by rw [hpi];simpa [Qi] using hc i 4 _ hi rfl
  have d5 : wo.cell? ⟨bp,off + i * 12 + 5,none⟩ = some (.int .i64 pi.b.y):=by rw [hpi];simpa [Qi] using hc i 5 _ hi rfl
  have d6 : wo.cell? ⟨bp,off + i * 12 + 6,none⟩ = some (.int .i64 pi.b.m):=by rw [hpi];simpa [Qi] using hc i 6 _ hi rfl
  have d7 : wo.cell? ⟨bp,off + i * 12 + 7,none⟩ = some (.bool pi.b.s):=by rw [hpi];simpa [Qi] using hc i 7 _ hi rfl
  have d8 : wo.cell? ⟨bp,off + i * 12 + 8,none⟩ = some (.int .i64 pi.b.d):=by rw [hpi];simpa [Qi] using hc i 8 _ hi rfl
  have hstep : c.befK l i (k + 1) = if pk.h = pi.h then (if c.numV pk.b < c.numV pi.a ∧ (b < 0 ∨ c.numV (l.getD b.toNat Qp).b < c.numV pk.b) then (k : Int) else b) else b:=by
   rw [hpk,hpi,← hbk.out];rfl
  replace hstep:=zh hstep;replace hpk:=zh hpk;replace hpi:=zh hpi;clear hbk;have NK:=ND pk.b;have NI:=ND pi.a;by_cases g1 : pk.h = pi.h;rotate_left
  ·have t1 : (pk.h.toList == pi.h.toList) = false:=zb fun h => g1 (Wu h)
   have t1n : (pk.h.toList != pi.h.toList) = true:=by rw [bne,t1];rfl
   have e : c.befK l i (k + 1) = b:=by rw [hstep.out,if_neg g1]
   clear g1 hstep hc ND NK NI;go_upto_region 5 with fail
   refine Qy wo ?_;intro wx hx;obtain ⟨hcbwx,hfbwx,hzbwx,hzwx⟩:=Qv wo hx;go_wp2;exact ⟨⟨k + 1,b,Qa,by go_num,rfl,hb1,Qa,E.trans hx,zh e⟩,zi⟩
  have t1 : (pk.h.toList == pi.h.toList) = true:=by rw [g1];exact beq_self_eq_true _
  have t1n : (pk.h.toList != pi.h.toList) = false:=by rw [bne,t1];rfl
  replace hstep:=hstep.out;rw [if_pos g1] at hstep;clear g1;replace hstep:=zh hstep;obtain ⟨nk,hnk⟩:=Qe (c.numV pk.b);obtain ⟨ni,hni⟩:=Qe (c.numV pi.a);rw [← hnk,← hni] at hstep;rw [← hnk] at NK;rw [← hni] at NI;clear hnk hni;by_cases q1 : ni ≤ nk
  ·have f1 : decide (ni ≤ nk) = true := zt q1;have e : c.befK l i (k + 1) = b := by rw [hstep.out, if_neg Qa]
   clear hstep hc ND q1;go_upto_region 5 with fail
   have n1:=fun u : XW _ => NK _ (C.ext u.e)
   have n2:=fun u : XW _ => NI _ (C.ext u.e)
   refine Qy wo ?_;intro wx hx;clear n1 n2;obtain ⟨hcbwx,hfbwx,hzbwx,hzwx⟩:=Qv wo hx;go_wp2;exact ⟨⟨k + 1,b,Qa,by go_num,rfl,hb1,Qa,E.trans hx,zh e⟩,zi⟩
  have f1 : decide (ni ≤ nk) = false:=zf q1;replace q1:=zh q1;go_upto_region 5 with fail
  have hc':=zh hc;clear hc;have n1:=fun u : XW _ => NK _ (C.ext u.e)
  have n2:=fun u : XW _ => NI _ (C.ext u.e)
  refine Qy wo ?_;intro w2 h2;clear n1 n2;obtain ⟨_,_,_,_⟩:=Qv wo h2;have E2:=E.trans h2;have C2:=hC.ext E2;have hc:=hc'.out;clear hc' f1 t1 t1n NI a0 a1 a2 a3 al;obtain ⟨a0,a1,a2,a3,al⟩:=Qb.d4 (hB.ext E2);by_cases q2 : b < 0
  ·have f2 : decide (b < 0) = true := zt q2;have e : c.befK l i (k + 1) = (k : Int) := by rw [hstep.out, if_pos ⟨by have := q1.out; omega, .inl q2⟩]
   clear hstep hc ND q2;go_upto_region 6 with fail
   refine Qy w2 ?_;intro wx hx;obtain ⟨hcbwx,hfbwx,hzbwx,hzwx⟩:=Qv w2 hx;go_wp2;exact ⟨⟨k + 1,(k : Int),Qa,by go_num,rfl,Qa,Qa,E2.trans hx,zh e⟩,zi⟩
  have f2 : decide (b < 0) = false:=zf q2;obtain ⟨q,rfl⟩ : ∃ q : Nat,b = q:=⟨b.toNat,Qa⟩;have hq : q < l.length:=Qa;obtain ⟨pq,hpq⟩:=Qe (l.getD q Qp);have e0 : wo.cell? ⟨bp,off + q * 12,none⟩ = some (.string pq.h):=by rw [hpq];simpa [Qi] using hc q 0 _ hq rfl
  have e1 : wo.cell? ⟨bp,off + q * 12 + 1,none⟩ = some (.int .i64 pq.a.y):=by rw [hpq];simpa [Qi] using hc q 1 _ hq rfl
  have e2 : wo.cell? ⟨bp,off + q * 12 + 2,none⟩ = some (.int .i64 pq.a.m):=by rw [hpq];simpa [Qi] using hc q 2 _ hq rfl
  have e3 : wo.cell? ⟨bp,off + q * 12 + 3,none⟩ = some (.bool pq.a.s):=by rw [hpq];simpa [Qi] using hc q 3 _ hq rfl
  have e4 : wo.cell? ⟨bp,off + q * 12 + 4,none⟩ = some (.int .i64 pq.a.d):=by rw [hpq];simpa [Qi] using hc q 4 _ hq rfl
  have e5 : wo.cell? ⟨bp,off + q * 12 + 5,none⟩ = some (.int .i64 pq.b.y):=by rw [hpq];simpa [Qi] using hc q 5 _ hq rfl
  have e6 : wo.cell? ⟨bp,off + q * 12 + 6,none⟩ = some (.int .i64 pq.b.m):=by rw [hpq];simpa [Qi] using hc q 6 _ hq rfl
  have e7 : wo.cell? ⟨bp,off + q * 12 + 7,none⟩ = some (.bool pq.b.s):=by rw [hpq];simpa [Qi] using hc q 7 _ hq rfl
  have e8 : wo.cell? ⟨bp,off + q * 12 + 8,none⟩ = some (.int .i64 pq.b.d):=by rw [hpq];simpa [Qi] using hc q 8 _ hq rfl
  rw [show ((q : Int)).toNat = q by omega,← hpq] at hstep;replace hpq:=zh hpq;have k5:=(h2.cell (p:=⟨bp,off + k * 12 + 5,none⟩) hbp).trans c5;have k6:=(h2.cell (p:=⟨bp,off + k * 12 + 6,none⟩) hbp).trans c6;have k7:=(h2.cell (p:=⟨bp,off + k * 12 + 7,none⟩) hbp).trans c7;have k8:=(h2.cell (p:=⟨bp,off + k * 12 + 8,none⟩) hbp).trans c8;have hbp2:=Nat.lt_of_lt_of_le hbp h2.size;have r5:=(h2.cell (p:=⟨bp,off + q * 12 + 5,none⟩) hbp).trans e5;have r6:=(h2.cell (p:=⟨bp,off + q * 12 + 6,none⟩) hbp).trans e6;have r7:=(h2.cell (p:=⟨bp,off + q * 12 + 7,none⟩) hbp).trans e7;have r8:=(h2.cell (p:=⟨bp,off + q * 12 + 8,none⟩) hbp).trans e8;clear c0 c1 c2 c3 c4 c5 c6 c7 c8 d0 d1 d2 d3 d4 d5 d6 d7 d8 e0 e1 e2 e3 e4 e5 e6 e7 e8 hbp
  clear hc;have NQ:=ND pq.b;obtain ⟨nq,hnq⟩:=Qe (c.numV pq.b);rw [← hnq] at NQ hstep;clear hnq ND;by_cases q3 : nq < nk
  ·have f3 : decide (nq < nk) = true := zt q3;have e : c.befK l i (k + 1) = (k : Int) := by rw [hstep.out, if_pos ⟨by have := q1.out; omega, .inr q3⟩]
   clear hstep q3 q2;go_upto_region 6 with fail
   have n1:=fun u : XW _ => NK _ (C2.ext u.e)
   have n2:=fun u : XW _ => NQ _ (C2.ext u.e)
   refine Qy w2 ?_;intro wx hx;clear n1 n2;obtain ⟨hcbwx,hfbwx,hzbwx,hzwx⟩:=Qv w2 hx;go_wp2;exact ⟨⟨k + 1,(k : Int),Qa,by go_num,rfl,Qa,Qa,E2.trans hx,zh e⟩,zi⟩
  ·have f3 : decide (nq < nk) = false := zf q3;have e : c.befK l i (k + 1) = (q : Int) := by rw [hstep.out, if_neg (fun h => by rcases h.2 with h | h <;> omega)]
   clear hstep q3 q2;go_upto_region 6 with fail
   have n1:=fun u : XW _ => NK _ (C2.ext u.e)
   have n2:=fun u : XW _ => NQ _ (C2.ext u.e)
   refine Qy w2 ?_;intro wx hx;clear n1 n2;obtain ⟨hcbwx,hfbwx,hzbwx,hzwx⟩:=Qv w2 hx;go_wp2;exact ⟨⟨k + 1,(q : Int),Qa,by go_num,rfl,Qa,Qa,E2.trans hx,zh e⟩,zi⟩
theorem Qlz (A A' : OA) (ca cb : Nat) (c : Qd) (l : List Pd) (vl : Value) (ba : Nat) (days : Int) (i : Nat) (w : World) (hA : U9 w ba A A' ca cb c vl l days) (hv : c.valid = true) (hi : i < l.length) (hpos : ∀ k,k < l.length → 0 < c.numV (l.getD k Qp).a) :
  Calls Tryz.prog 55 #[.pointer (some ⟨ba,0,none⟩),.int .i64 i] w fun e w' => e = .returned (.bool (c.ovB l i)) ∧ Qc w w':=by
 obtain ⟨D,cap,vo,vd,vc,rfl,hD,hcap,hmax,_,hat⟩:=id hA.P;have hn : l.length ≤ 9223372036854775807:=Nat.le_trans hcap (Nat.le_trans hmax zD);clear hcap hmax hat;have hB:=hA.b;have hC:=hA.C;clear hA;have NO:=fun x y w h => Om A A' ca cb c x y w h hv
 obtain ⟨R,hR⟩:=Qe (c.ovB l i);rw [← hR];have hyes : Hid (∀ k,k < i → c.ovC l i k = true → R = true):=zh fun k h1 h2 => hR.trans (ov_yes hi h1 h2)
 have hno : Hid ((∀ k,k < i → c.ovC l i k = false) → R = false):=zh fun h => hR.trans (ov_no h)
 clear hR
 go_enter Tryz.func55,Tryz.ntmps55
 go_upto_region 2 with fail
 go_loopw [5] (fun kv wr => ∃ k : Nat,k ≤ i ∧ kv = .int .i64 k ∧ Qc w wr ∧ Hid (∀ j,j < k → c.ovC l i j = false)) (fun kv _ => i - (intOf kv).toNat)
 case atStart => exact ⟨0,Nat.zero_le _,rfl,Qc.refl _,zh fun j h => absurd h Qa⟩
 case round =>
  obtain ⟨k,hk,rfl,E,hall⟩:=hrel;obtain ⟨wo,rfl⟩:=Qe wr;by_cases hlt : k < i;rotate_left
  ·obtain rfl : k = i:=Qa;obtain rfl : R = false:=hno.out hall.out;clear hyes hno;go_wp2;go_ret;exact ⟨rfl,E⟩
  have C:=hC.ext E;obtain ⟨a0,a1,a2,a3,al⟩:=Qb.d4 (hB.ext E);obtain ⟨bp,off,rfl,hbp,hc⟩:=(hD.ext E) Qa;obtain ⟨pk,hpk⟩:=Qe (l.getD k Qp);have c0 : wo.cell? ⟨bp,off + k * 12,none⟩ = some (.string pk.h):=by rw [hpk];simpa [Qi] using hc k 0 _ Qa rfl
  have c1 : wo.cell? ⟨bp,off + k * 12 + 1,none⟩ = some (.int .i64 pk.a.y):=by rw [hpk];simpa [Qi] using hc k 1 _ Qa rfl
  have c2 : wo.cell? ⟨bp,off + k * 12 + 2,none⟩ = some (.int .i64 pk.a.m):=by rw [hpk];simpa [Qi] using hc k 2 _ Qa rfl
  have c3 : wo.cell? ⟨bp,off + k * 12 + 3,none⟩ = some (.bool pk.a.s):=by rw [hpk];simpa [Qi] using hc k 3 _ Qa rfl
  have c4 : wo.cell? ⟨bp,off + k * 12 + 4,none⟩ = some (.int .i64 pk.a.d):=by rw [hpk];simpa [Qi] using hc k 4 _ Qa rfl
  have c5 : wo.cell? ⟨bp,off + k * 12 + 5,none⟩ = some (.int .i64 pk.b.y):=by rw [hpk];simpa [Qi] using hc k 5 _ Qa rfl
  have c6 : wo.cell? ⟨bp,off + k * 12 + 6,none⟩ = some (.int .i64 pk.b.m):=by rw [hpk];simpa [Qi] using hc k 6 _ Qa rfl
  have c7 : wo.cell? ⟨bp,off + k * 12 + 7,none⟩ = some (.bool pk.b.s):=by rw [hpk];simpa [Qi] using hc k 7 _ Qa rfl
  have c8 : wo.cell? ⟨bp,off + k * 12 + 8,none⟩ = some (.int .i64 pk.b.d):=by rw [hpk];simpa [Qi] using hc k 8 _ Qa rfl
  obtain ⟨pi,hpi⟩:=Qe (l.getD i Qp);have d0 : wo.cell? ⟨bp,off + i * 12,none⟩ = some (.string pi.h):=by rw [hpi];simpa [Qi] using hc i 0 _ hi rfl
  have d1 : wo.cell? ⟨bp,off + i * 12 + 1,none⟩ = some (.int .i64 pi.a.y):=by rw [hpi];simpa [Qi] using hc i 1 _ hi rfl
  have d2 : wo.cell? ⟨bp,off + i * 12 + 2,none⟩ = some (.int .i64 pi.a.m):=by rw [hpi];simpa [Qi] using hc i 2 _ hi rfl
  have d3 : wo.cell? ⟨bp,off + i * 12 + 3,none⟩ = some (.bool pi.a.s):=by rw [hpi];simpa [Qi] using hc i 3 _ hi rfl
  have d4 : wo.cell? ⟨bp,off + i * 12 + 4,none⟩ = some (.int .i64 pi.a.d):=by rw [hpi];simpa [Qi] using hc i 4 _ hi rfl
  have d5 : wo.cell? ⟨bp,off + i * 12 + 5,none⟩ = some (.int .i64 pi.b.y):=by rw [hpi];simpa [Qi] using hc i 5 _ hi rfl
  have d6 : wo.cell? ⟨bp,off + i * 12 + 6,none⟩ = some (.int .i64 pi.b.m):=by rw [hpi];simpa [Qi] using hc i 6 _ hi rfl
  have d7 : wo.cell? ⟨bp,off + i * 12 + 7,none⟩ = some (.bool pi.b.s):=by rw [hpi];simpa [Qi] using hc i 7 _ hi rfl
  have d8 : wo.cell? ⟨bp,off + i * 12 + 8,none⟩ = some (.int .i64 pi.b.d):=by rw [hpi];simpa [Qi] using hc i 8 _ hi rfl
  have hpa : 0 < c.numV pk.a:=by rw [hpk];exact hpos k Qa
  have hpb : 0 < c.numV pi.a:=by rw [hpi];exact hpos i hi
  have hyk : Hid (c.ovC l i k = true → R = true):=zh fun h => hyes.out k hlt h
  have hov : c.ovC l i k = (decide (pk.h = pi.h) && decide (c.numV pk.a ≤ c.numV pi.b) && decide (c.numV pi.a ≤ c.numV pk.b)):=by
   rw [hpk,hpi];rfl
  replace hov:=zh hov;have NX:=NO pk.a pi.b;have NY:=NO pi.a pk.b;rw [zt hpa,Bool.true_and] at NX;rw [zt hpb,Bool.true_and] at NY;clear hc hpa hpb hyes NO;replace hpk:=zh hpk;replace hpi:=zh hpi;obtain ⟨X,hX⟩:=Qe (decide (c.numV pk.a ≤ c.numV pi.b));obtain ⟨Y,hY⟩:=Qe (decide (c.numV pi.a ≤ c.numV pk.b));rw [← hX] at NX;rw [← hY] at NY;rw [← hX,← hY] at hov;clear hX hY;go_upto_region 4 with fail
  by_cases g1 : pk.h = pi.h;rotate_left
  ·have t1 : (pk.h.toList == pi.h.toList) = false:=zb fun h => g1 (Wu h)
   have e : c.ovC l i k = false:=by rw [hov.out,zf g1];rfl
   have hall2 : Hid (∀ j,j < k + 1 → c.ovC l i j = false):=zh fun j hj => by
    by_cases ej : j = k
    ·rw [ej];exact e
    ·exact hall.out j Qa
   clear e hall hyk hov g1;refine Qy wo ?_;intro wx hx;obtain ⟨hcbwx,hfbwx,hzbwx,hzwx⟩:=Qv wo hx;go_wp2;exact ⟨⟨k + 1,Qa,by go_num,E.trans hx,hall2⟩,zi⟩
  have t1 : (pk.h.toList == pi.h.toList) = true:=by rw [g1];exact beq_self_eq_true _
  rw [zt g1] at hov;clear g1;cases X
  ·have e : c.ovC l i k = false := by rw [hov.out]; rfl
   have hall2 : Hid (∀ j,j < k + 1 → c.ovC l i j = false):=zh fun j hj => by
    by_cases ej : j = k
    ·rw [ej];exact e
    ·exact hall.out j Qa
   clear e hall hyk hov;have n1:=fun u : XW _ => NX _ (C.ext u.e)
   have n2:=fun u : XW _ => NY _ (C.ext u.e)
   refine Qy wo ?_;intro wx hx;clear n1 n2;obtain ⟨hcbwx,hfbwx,hzbwx,hzwx⟩:=Qv wo hx;go_wp2;exact ⟨⟨k + 1,Qa,by go_num,E.trans hx,hall2⟩,zi⟩
  cases Y
  ·have e : c.ovC l i k = false := by rw [hov.out]; rfl
   have hall2 : Hid (∀ j,j < k + 1 → c.ovC l i j = false):=zh fun j hj => by
    by_cases ej : j = k
    ·rw [ej];exact e
    ·exact hall.out j Qa
   clear e hall hyk hov;have n1:=fun u : XW _ => NX _ (C.ext u.e)
   have n2:=fun u : XW _ => NY _ (C.ext u.e)
   refine Qy wo ?_;intro wx hx;clear n1 n2;obtain ⟨hcbwx,hfbwx,hzbwx,hzwx⟩:=Qv wo hx;go_wp2;exact ⟨⟨k + 1,Qa,by go_num,E.trans hx,hall2⟩,zi⟩
  obtain rfl : R = true:=hyk.out (by rw [hov.out];rfl);clear hov hyk hno hall;have n1:=fun u : XW _ => NX _ (C.ext u.e)
  have n2:=fun u : XW _ => NY _ (C.ext u.e)
  refine Qy wo ?_;intro wx hx;clear n1 n2;obtain ⟨hcbwx,hfbwx,hzbwx,hzwx⟩:=Qv wo hx;go_wp2;go_ret;exact ⟨rfl,E.trans hx⟩
theorem Qjx (A A' : OA) (ca cb : Nat) (c : Qd) (l : List Pd) (vl : Value) (ba : Nat) (days : Int) (hw : ByteArray) (on : Dt) (w : World) (hA : U9 w ba A A' ca cb c vl l days) (hv : c.valid = true) (hpos : ∀ k,k < l.length → 0 < c.numV (l.getD k Qp).a) :
  Calls Tryz.prog 56 #[.pointer (some ⟨ba,0,none⟩),.string hw,.agg #[.int .i64 on.y,.int .i64 on.m,.bool on.s,.int .i64 on.d]] w fun e w' => e = .returned (.bool (c.keptB l hw on)) ∧ Qc w w':=by
 obtain ⟨D,cap,vo,vd,vc,rfl,hD,hcap,hmax,_,hat⟩:=id hA.P;have hn : l.length ≤ 9223372036854775807:=Nat.le_trans hcap (Nat.le_trans hmax zD);clear hcap hmax hat;have hB:=hA.b;have hC:=hA.C;clear hA;have NO:=fun x y w h => Om A A' ca cb c x y w h hv
 obtain ⟨R,hR⟩:=Qe (c.keptB l hw on);rw [← hR];have hyes : Hid (∀ k,k < l.length → c.keC l hw on k = true → R = true):=zh fun k h1 h2 => hR.trans (ke_yes h1 h2)
 have hno : Hid ((∀ k,k < l.length → c.keC l hw on k = false) → R = false):=zh fun h => hR.trans (ke_no h)
 clear hR
 go_enter Tryz.func56,Tryz.ntmps56
 go_upto_region 2 with fail
 go_upto_region 1 with fail
 obtain ⟨v,b1,E,B1,hbr,hv,hb1⟩:=J4 w 51 #[.int .i64 on.y,.int .i64 on.m,.bool on.s,.int .i64 on.d];rw [← hv,← hb1];clear hv hb1;have E0:=E;clear E;have HB:=hB.ext E0
 go_loopw [7] (fun kv wr => ∃ k : Nat,k ≤ l.length ∧ kv = .int .i64 k ∧ Qc v wr ∧ Hid (∀ j,j < k → c.keC l hw on j = false)) (fun kv _ => l.length - (intOf kv).toNat)
 case atStart => exact ⟨0,Nat.zero_le _,rfl,Qc.refl _,zh fun j h => absurd h Qa⟩
 case round =>
  obtain ⟨k,hk,rfl,E,hall⟩:=hrel;obtain ⟨wo,rfl⟩:=Qe wr;obtain ⟨a0,a1,a2,a3,al⟩:=Qb.d4 (HB.ext E);obtain ⟨o0,o1,o2,o3,ol⟩:=Qb.d4 (B1.ext E);by_cases hlt : k < l.length;rotate_left
  ·obtain rfl : k = l.length:=Qa;obtain rfl : R = false:=hno.out hall.out;clear hyes hno;go_wp2;go_ret;exact ⟨rfl,E0.trans E⟩
  have C:=(hC.ext E0).ext E;obtain ⟨bp,off,rfl,hbp,hc⟩:=((hD.ext E0).ext E) Qa;obtain ⟨pk,hpk⟩:=Qe (l.getD k Qp);have c0 : wo.cell? ⟨bp,off + k * 12,none⟩ = some (.string pk.h):=by rw [hpk];simpa [Qi] using hc k 0 _ hlt rfl
  have c1 : wo.cell? ⟨bp,off + k * 12 + 1,none⟩ = some (.int .i64 pk.a.y):=by rw [hpk];simpa [Qi] using hc k 1 _ hlt rfl
  have c2 : wo.cell? ⟨bp,off + k * 12 + 2,none⟩ = some (.int .i64 pk.a.m):=by rw [hpk];simpa [Qi] using hc k 2 _ hlt rfl
  have c3 : wo.cell? ⟨bp,off + k * 12 + 3,none⟩ = some (.bool pk.a.s):=by rw [hpk];simpa [Qi] using hc k 3 _ hlt rfl
  have c4 : wo.cell? ⟨bp,off + k * 12 + 4,none⟩ = some (.int .i64 pk.a.d):=by rw [hpk];simpa [Qi] using hc k 4 _ hlt rfl
  have c5 : wo.cell? ⟨bp,off + k * 12 + 5,none⟩ = some (.int .i64 pk.b.y):=by rw [hpk];simpa [Qi] using hc k 5 _ hlt rfl
  have c6 : wo.cell? ⟨bp,off + k * 12 + 6,none⟩ = some (.int .i64 pk.b.m):=by rw [hpk];simpa [Qi] using hc k 6 _ hlt rfl
  have c7 : wo.cell? ⟨bp,off + k * 12 + 7,none⟩ = some (.bool pk.b.s):=by rw [hpk];simpa [Qi] using hc k 7 _ hlt rfl
  have c8 : wo.cell? ⟨bp,off + k * 12 + 8,none⟩ = some (.int .i64 pk.b.d):=by rw [hpk];simpa [Qi] using hc k 8 _ hlt rfl
  have hpa : 0 < c.numV pk.a:=by rw [hpk];exact hpos k hlt
  have hyk : Hid (c.keC l hw on k = true → R = true):=zh fun h => hyes.out k hlt h
  have hov : c.keC l hw on k = (decide (pk.h = hw) && decide (c.numV pk.a ≤ c.numV on) && decide (c.numV on ≤ c.numV pk.b)):=by
   rw [hpk];rfl
  have NX:=NO pk.a on;have NY:=NO on pk.b;rw [zt hpa,Bool.true_and] at NX
  have hYY : Hid (decide (c.numV pk.a ≤ c.numV on) = true → (decide (0 < c.numV on) && decide (c.numV on ≤ c.numV pk.b)) = decide (c.numV on ≤ c.numV pk.b)):=zh fun h => by
   have h:=of_decide_eq_true h;rw [zt (show 0 < c.numV on by omega),Bool.true_and]
  replace hov:=zh hov;clear hc hpa hyes NO;replace hpk:=zh hpk;obtain ⟨X,hX⟩:=Qe (decide (c.numV pk.a ≤ c.numV on));rw [← hX] at NX hYY hov;clear hX;go_upto_region 4 with fail
  by_cases g1 : pk.h = hw;rotate_left
  ·have t1 : (pk.h.toList == hw.toList) = false:=zb fun h => g1 (Wu h)
   have e : c.keC l hw on k = false:=by rw [hov.out,zf g1];rfl
   have hall2 : Hid (∀ j,j < k + 1 → c.keC l hw on j = false):=zh fun j hj => by
    by_cases ej : j = k
    ·rw [ej];exact e
    ·exact hall.out j Qa
   clear e hall hyk hov g1;refine Qy wo ?_;intro wx hx;obtain ⟨hcbwx,hfbwx,hzbwx,hzwx⟩:=Qv wo hx;go_wp2;exact ⟨⟨k + 1,Qa,by go_num,E.trans hx,hall2⟩,zi⟩
  have t1 : (pk.h.toList == hw.toList) = true:=by rw [g1];exact beq_self_eq_true _
  rw [zt g1] at hov;clear g1;cases X
  ·have e : c.keC l hw on k = false := by rw [hov.out]; rfl
   have hall2 : Hid (∀ j,j < k + 1 → c.keC l hw on j = false):=zh fun j hj => by
    by_cases ej : j = k
    ·rw [ej];exact e
    ·exact hall.out j Qa
   clear e hall hyk hov;have n1:=fun u : XW _ => NX _ (C.ext u.e)
   have n2:=fun u : XW _ => NY _ (C.ext u.e)
   refine Qy wo ?_;intro wx hx;clear n1 n2;obtain ⟨hcbwx,hfbwx,hzbwx,hzwx⟩:=Qv wo hx;go_wp2;exact ⟨⟨k + 1,Qa,by go_num,E.trans hx,hall2⟩,zi⟩
  rw [hYY.out rfl] at NY;obtain ⟨Y,hY⟩:=Qe (decide (c.numV on ≤ c.numV pk.b));rw [← hY] at NY hov;clear hY hYY;cases Y
  ·have e : c.keC l hw on k = false := by rw [hov.out]; rfl
   have hall2 : Hid (∀ j,j < k + 1 → c.keC l hw on j = false):=zh fun j hj => by
    by_cases ej : j = k
    ·rw [ej];exact e
    ·exact hall.out j Qa
   clear e hall hyk hov;have n1:=fun u : XW _ => NX _ (C.ext u.e)
   have n2:=fun u : XW _ => NY _ (C.ext u.e)
   refine Qy wo ?_;intro wx hx;clear n1 n2;obtain ⟨hcbwx,hfbwx,hzbwx,hzwx⟩:=Qv wo hx;go_wp2;exact ⟨⟨k + 1,Qa,by go_num,E.trans hx,hall2⟩,zi⟩
  obtain rfl : R = true:=hyk.out (by rw [hov.out];rfl);clear hov hyk hno hall;have n1:=fun u : XW _ => NX _ (C.ext u.e)
  have n2:=fun u : XW _ => NY _ (C.ext u.e)
  refine Qy wo ?_;intro wx hx;clear n1 n2;obtain ⟨hcbwx,hfbwx,hzbwx,hzwx⟩:=Qv wo hx;go_wp2;go_ret;exact ⟨rfl,E0.trans (E.trans hx)⟩
theorem Ql6 (m : List (Rf × Rf)) (F : OA) (cM : Nat) (r : Rf) (w : World) (hM : Qm w F m.length 4 (fun i => Ug (m.getD i (Qn,Qn)))) (hMb : m.length ≤ 9223372036854775807) :
  Calls Tryz.prog 57 #[.slice F m.length cM,.agg #[.int .i64 (r.1 : Nat),.int .i64 (r.2 : Nat)]] w fun e w' => e = .returned (.bool (Wh m r)) ∧ Qc w w':=by
 obtain ⟨R,hR⟩:=Qe (Wh m r);rw [← hR];have hyes : Hid (∀ k,k < m.length → ((m.getD k (Qn,Qn)).1 = r ∨ (m.getD k (Qn,Qn)).2 = r) → R = true):=zh fun k h1 h2 => hR.trans (pr_yes h1 h2)
 have hno : Hid ((∀ k,k < m.length → ¬ (m.getD k (Qn,Qn)).1 = r ∧ ¬ (m.getD k (Qn,Qn)).2 = r) → R = false):=zh fun h => hR.trans (pr_no h)
 clear hR;obtain ⟨r1,r2⟩:=r
 go_enter Tryz.func57,Tryz.ntmps57
 go_upto_region 2 with fail
 go_upto_region 1 with fail
 obtain ⟨v,b1,E,B1,hbr,hv,hb1⟩:=J4 w 33 #[.int .i64 (r1 : Nat),.int .i64 (r2 : Nat)];rw [← hv,← hb1];clear hv hb1;have E0:=E;clear E;have hM2:=hM.ext E0
 go_loopw [5] (fun kv wr => ∃ k : Nat,k ≤ m.length ∧ kv = .int .i64 k ∧ Qc v wr ∧ Hid (∀ j,j < k → ¬ (m.getD j (Qn,Qn)).1 = (r1,r2) ∧ ¬ (m.getD j (Qn,Qn)).2 = (r1,r2))) (fun kv _ => m.length - (intOf kv).toNat)
 case atStart => exact ⟨0,Nat.zero_le _,rfl,Qc.refl _,zh fun j h => absurd h Qa⟩
 case round =>
  obtain ⟨k,hk,rfl,E,hall⟩:=hrel;obtain ⟨wo,rfl⟩:=Qe wr;by_cases hlt : k < m.length;rotate_left
  ·obtain rfl : k = m.length:=Qa;obtain rfl : R = false:=hno.out hall.out;clear hyes hno;go_wp2;go_ret;exact ⟨rfl,E0.trans E⟩
  obtain ⟨o0,o1,ol⟩:=Qb.d2 (B1.ext E);obtain ⟨bm,om,rfl,hbm,hcm⟩:=(hM2.ext E) Qa;obtain ⟨⟨⟨x1,x2⟩,⟨y1,y2⟩⟩,hX⟩ : ∃ x,x = m.getD k (Qn,Qn):=⟨_,rfl⟩
  have c0 : wo.cell? ⟨bm,om + k * 4,none⟩ = some (.int .i64 (x1 : Nat)):=by
   have:=hcm k 0 (.int .i64 ((m.getD k (Qn,Qn)).1.1 : Nat)) hlt rfl;rw [← hX] at this;exact this
  have c1 : wo.cell? ⟨bm,om + k * 4 + 1,none⟩ = some (.int .i64 (x2 : Nat)):=by
   have:=hcm k 1 (.int .i64 ((m.getD k (Qn,Qn)).1.2 : Nat)) hlt rfl;rw [← hX] at this;exact this
  have c2 : wo.cell? ⟨bm,om + k * 4 + 2,none⟩ = some (.int .i64 (y1 : Nat)):=by
   have:=hcm k 2 (.int .i64 ((m.getD k (Qn,Qn)).2.1 : Nat)) hlt rfl;rw [← hX] at this;exact this
  have c3 : wo.cell? ⟨bm,om + k * 4 + 3,none⟩ = some (.int .i64 (y2 : Nat)):=by
   have:=hcm k 3 (.int .i64 ((m.getD k (Qn,Qn)).2.2 : Nat)) hlt rfl;rw [← hX] at this;exact this
  have hyk : Hid (((x1,x2) = (r1,r2) ∨ (y1,y2) = (r1,r2)) → R = true):=zh fun h => hyes.out k hlt (by rw [← hX];exact h)
  clear hcm hyes;replace hX:=zh hX;go_upto_region 4 with fail
  by_cases f1 : x1 = r1 ∧ x2 = r2
  ·have t1 : (((x1 : Nat) : Int) == ((r1 : Nat) : Int) && ((x2 : Nat) : Int) == ((r2 : Nat) : Int)) = true := by rw [f1.1, f1.2]; simp
   have t2 : (x1 == r1 && x2 == r2) = true:=by rw [f1.1,f1.2];simp
   obtain rfl : R = true:=hyk.out (.inl (by rw [f1.1,f1.2]));clear f1 hyk hno hall;refine Qy wo ?_;intro wx hx;obtain ⟨hcbwx,hfbwx,hzbwx,hzwx⟩:=Qv wo hx;go_wp2;go_ret;exact ⟨rfl,E0.trans (E.trans hx)⟩
  have t1 : (((x1 : Nat) : Int) == ((r1 : Nat) : Int) && ((x2 : Nat) : Int) == ((r2 : Nat) : Int)) = false:=by
   rw [Bool.eq_false_iff];intro h;simp only [Bool.and_eq_true,beq_iff_eq] at h;exact f1 ⟨Qa,Qa⟩
  have t2 : (x1 == r1 && x2 == r2) = false:=by
   rw [Bool.eq_false_iff];intro h;simp only [Bool.and_eq_true,beq_iff_eq] at h;exact f1 h
  by_cases f2 : y1 = r1 ∧ y2 = r2
  ·have t3 : (((y1 : Nat) : Int) == ((r1 : Nat) : Int) && ((y2 : Nat) : Int) == ((r2 : Nat) : Int)) = true := by rw [f2.1, f2.2]; simp
   have t4 : (y1 == r1 && y2 == r2) = true:=by rw [f2.1,f2.2];simp
   obtain rfl : R = true:=hyk.out (.inr (by rw [f2.1,f2.2]));clear f1 f2 hyk hno hall;refine Qy wo ?_;intro wx hx;obtain ⟨hcbwx,hfbwx,hzbwx,hzwx⟩:=Qv wo hx;go_wp2;go_ret;exact ⟨rfl,E0.trans (E.trans hx)⟩
  have t3 : (((y1 : Nat) : Int) == ((r1 : Nat) : Int) && ((y2 : Nat) : Int) == ((r2 : Nat) : Int)) = false:=by
   rw [Bool.eq_false_iff];intro h;simp only [Bool.and_eq_true,beq_iff_eq] at h;exact f2 ⟨Qa,Qa⟩
  have t4 : (y1 == r1 && y2 == r2) = false:=by
   rw [Bool.eq_false_iff];intro h;simp only [Bool.and_eq_true,beq_iff_eq] at h;exact f2 h
  have hall2 : Hid (∀ j,j < k + 1 → ¬ (m.getD j (Qn,Qn)).1 = (r1,r2) ∧ ¬ (m.getD j (Qn,Qn)).2 = (r1,r2)):=zh fun j hj => by
   by_cases ej : j = k
   ·rw [ej,← hX.out];exact ⟨fun h => f1 (by simpa using h),fun h => f2 (by simpa using h)⟩
   ·exact hall.out j Qa
  clear f1 f2 hall hyk;refine Qy wo ?_;intro wx hx;obtain ⟨hcbwx,hfbwx,hzbwx,hzwx⟩:=Qv wo hx;go_wp2;exact ⟨⟨k + 1,Qa,by go_num,E.trans hx,hall2⟩,zi⟩
end
section
open Go Go.RowKit Go.Shelf
attribute [local go_sem] Z8
def L7 (W : World) (vy : Value) (no ni : Nat) (my : Nat → Nat → Bool) : Prop:=∃ Y cap,∃ vs : Nat → Value,vy = .slice Y no cap ∧ Qm W Y no 1 (fun i => [vs i]) ∧ ∀ i,i < no → ∃ D cd,vs i = .slice D ni cd ∧ Qm W D ni 1 (fun k => [.bool (my i k)])
theorem L7.ext {W W' : World} {vy : Value} {no ni : Nat} {my : Nat → Nat → Bool} (h : L7 W vy no ni my) (x : Qc W W') : L7 W' vy no ni my:=by
 obtain ⟨Y,cap,vs,e,h1,h2⟩:=h;refine ⟨Y,cap,vs,e,h1.ext x,fun i hi => ?_⟩;obtain ⟨D,cd,e,h3⟩:=h2 i hi;exact ⟨D,cd,e,h3.ext x⟩
structure PS (W0 W : World) (bp : Nat) (vy : Value) (O : OA) (ni cO bo : Nat) (f : Nat → Int) : Prop where
 e : Qc W0 W
 p : Qb W bp 219 #[vy,.slice O ni cO]
 i : Qw W 3 O ni bo fun k => .int .i64 (f k)
 lo : 0 < ni → W0.heap.size ≤ bo
section
variable {W0 W W' : World} {bp : Nat} {vy : Value} {O : OA} {ni cO bo : Nat} {f : Nat → Int}
theorem PS.ext (h : PS W0 W bp vy O ni cO bo f) (x : Qc W W') : PS W0 W' bp vy O ni cO bo f:=⟨h.e.trans x,h.p.ext x,h.i.ext x,h.lo⟩
theorem PS.setI (h : PS W0 W bp vy O ni cO bo f) {k : Nat} (hk : k < ni) (v : Int) : PS W0 (W.setCell ⟨bo,k,none⟩ (.int .i64 v)) bp vy O ni cO bo (Qh f k v):=by
 obtain ⟨cs,h1,_⟩:=h.i.h Qa;refine ⟨h.e.setCell (p:=⟨bo,k,none⟩) (h.lo Qa) _,Wn h.p (Ne.symm (Y7 h1 h.p zD)) _ _,(h.i.set hk _).congr fun x _ => ?_,h.lo⟩;by_cases e : x = k
 ·subst e;simp [Qh]
 ·simp [Qh,e]
theorem PS.setN (h : PS W0 W bp vy O ni cO bo f) {N : OA} {bn k : Nat} {g : Nat → Value} (hN : Qw W 4 N ni bn g) (hk : k < ni) (hl : W0.heap.size ≤ bn) (u : Value) : PS W0 (W.setCell ⟨bn,k,none⟩ u) bp vy O ni cO bo f:=by
 obtain ⟨cs,h1,_⟩:=hN.h Qa;exact ⟨h.e.setCell (p:=⟨bn,k,none⟩) hl _,Wn h.p (Ne.symm (Y7 h1 h.p zD)) _ _,h.i.oth (fun hn => h.i.apart2 hN zD hn Qa) _ _,h.lo⟩
end
theorem szB : (Tryz.prog.info? 4).map (·.size) = some 1:=by kernel_rfl
def Ud (n : Nat) (tk : Nat → Bool) : List Value:=(List.range n).map fun k => .bool (tk k)
theorem Ar {n j : Nat} {tk : Nat → Bool} (h : j < n) : (Ud n tk)[j]? = some (.bool (tk j)):=by
 unfold Ud;simp [h]
theorem Qg6 {w : World} {g n c : Nat} {src : Addr} {tk : Nat → Bool} (HG : Qb w g 4 (Array.replicate n (.bool false))) (hsrc : ∀ j,j < n → w.cell? (src.add j) = some (.bool (tk j))) :
  (Builtin.copy_ #[171,171] 3 #[.slice (some ⟨g,0,none⟩) n n,.slice (some src) n c]).run Tryz.prog w = .ok (.int .i64 (n : Int)) (w.setRow g (Ud n tk).toArray):=by
 have hl : (Ud n tk).length = n:=by simp [Ud]
 have h:=run_copy_row (P:=Tryz.prog) w 171 171 3 4 g 0 n n src n c (Array.replicate n (.bool false)) 4 (Ud n tk) Tryz.underlying171 szB HG (by rw [hl];simp) (fun j u hj => by
  obtain ⟨h1,_⟩:=List.getElem?_eq_some_iff.1 hj;rw [hl] at h1;rw [Ar h1] at hj;rw [← Option.some.inj hj];exact hsrc j h1) (by rw [hl];simp) (fun u hu => by
  obtain ⟨i,_,rfl⟩:=List.mem_map.1 hu;rfl)
 rw [h];simp [goInt,hl]
set_option maxHeartbeats 20000000 in
theorem Qia {my : Nat → Nat → Bool} (W0 : World) (bp : Nat) (vy : Value) (O : OA) (no ni cO bo : Nat) (m : Mt) (hY : L7 W0 vy no ni my) (hm : ∀ k,k < ni → 0 ≤ m.1 k → (m.1 k).toNat < no) (hni1 : ni ≤ 1000000) :
  ∀ (n : Nat) (W : World) (sn : Bl) (i : Nat) (N : OA) (cN bn : Nat),i < no → J7 ni sn ≤ n → PS W0 W bp vy O ni cO bo m.1 → Qw W 4 N ni bn (fun x => .bool (sn x)) → (0 < ni → W0.heap.size ≤ bn) → Calls Tryz.prog 131 #[.pointer (some ⟨bp,0,none⟩),.int .i64 i,.slice N ni cN] W fun e W' => e = .returned (.bool (Q4 (Zv my ni) n m sn i).1.isSome) ∧ PS W0 W' bp vy O ni cO bo ((Q4 (Zv my ni) n m sn i).1.getD m).1 ∧ ∃ sn' : Bl,Qw W' 4 N ni bn (fun x => .bool (sn' x)) ∧ ∀ k,sn' k = (Q4 (Zv my ni) n m sn i).2 k:=by
 intro n
 induction n using Nat.strongRecOn with
 | _ n IH =>
 intro W sn i N cN bn hi hc hM hN hl;obtain ⟨Y,cY,vs,rfl,hYr,hYi⟩:=id hY;have hr0:=Ak (adj:=Zv my ni) (n:=n) (m:=m) (b:=sn) (i:=i) (Tt my ni i) hc;rw [Cn] at hr0;obtain ⟨R,hR⟩:=Qe (Q4 (Zv my ni) n m sn i);rw [← hR] at hr0 ⊢;replace hr0:=zh hr0.symm;clear hR;replace hc:=zh hc;have hno : 0 < no:=Qa;obtain ⟨D,cD,hv,hDr⟩:=hYi i hi;obtain ⟨b,off,hYe,hb,hcc⟩:=hYr hno;subst hYe
 have c0 : W0.cell? ⟨b,off + i,none⟩ = some (.slice D ni cD):=by
  have:=hcc i 0 (vs i) hi rfl;rw [hv] at this
  simpa using this
 clear hcc hv hYr hYi
 go_enter Tryz.func131,Tryz.ntmps131
 go_upto_region 2 with fail
 go_loopw [7] (fun iv wr => ∃ (k : Nat) (sn' : Bl),k ≤ ni ∧ iv = .int .i64 k ∧ PS W0 wr bp (.slice (some ⟨b,off,none⟩) no cY) O ni cO bo m.1 ∧ Qw wr 4 N ni bn (fun x => .bool (sn' x)) ∧ Hid (Z4 (Q4 (Zv my ni) (n - 1)) i (fl (my i) ni k) m sn' = R) ∧ Hid (J7 ni sn' ≤ n)) (fun iv _ => ni - (intOf iv).toNat)
 case atStart => exact ⟨0,sn,Nat.zero_le _,rfl,hM,hN,hr0,hc⟩
 case round =>
  clear hM hN hc hr0;obtain ⟨k,sn',hk,rfl,M,N1,hr,hc⟩:=hrel;obtain ⟨wo,rfl⟩:=Qe wr;obtain ⟨p0,p1,pl⟩:=Qb.d2 M.p;by_cases hlt : k < ni;rotate_left
  ·obtain rfl : k = ni:=Qa
   have hR : R = (none,sn'):=by
    have h:=hr.out;rw [Im] at h;exact h.symm
   subst hR;clear hr hc IH;go_wp2;go_ret;exact ⟨rfl,M,sn',N1,fun _ => rfl⟩
  have hni0 : 0 < ni:=Qa;have e0:=(M.e.cell (p:=⟨b,off + i,none⟩) hb).trans c0;have el:=Nat.lt_of_lt_of_le hb M.e.size;obtain ⟨bd,od,rfl,hbd,hcd⟩:=hDr hni0;have f0 : wo.cell? ⟨bd,od + k,none⟩ = some (.bool (my i k)):=(M.e.cell (p:=⟨bd,od + k,none⟩) hbd).trans (by simpa using hcd k 0 (.bool (my i k)) hlt rfl);have fl0:=Nat.lt_of_lt_of_le hbd M.e.size;clear hcd;have hNe:=N1.a hni0;have hIe:=M.i.a hni0;subst hNe;subst hIe;have n0:=N1.cell hlt;have nl:=N1.lt hni0;cases hmy : my i k
  ·rw [hmy] at f0
   have hr2 : Hid (Z4 (Q4 (Zv my ni) (n - 1)) i (fl (my i) ni (k + 1)) m sn' = R):=by
    have h:=hr.out;rw [Ip hlt hmy] at h;exact h
   clear hr IH hmy;go_wp2;exact ⟨⟨k + 1,sn',Qa,by go_num,M,N1,hr2,hc⟩,zi⟩
  rw [hmy] at f0;have hdr:=zh (Iq hlt hmy);clear hmy;cases hs : sn' k
  rotate_left
  ·rw [hs] at n0
   have hr2 : Hid (Z4 (Q4 (Zv my ni) (n - 1)) i (fl (my i) ni (k + 1)) m sn' = R):=by
    have h:=hr.out;rw [hdr.out,Sa hs] at h;exact h
   clear hr IH hs hdr;go_wp2;exact ⟨⟨k + 1,sn',Qa,by go_num,M,N1,hr2,hc⟩,zi⟩
  rw [hs] at n0;have nz:=N1.frozen hni0 k;go_upto_region 6 with fail
  have M2:=M.setN N1 hlt (hl hni0) (.bool true);have N2:=Tu N1 hlt true;generalize World.setCell _ _ _ = w2 at *;clear M N1 n0 nl nz e0 el f0 fl0 p0 p1 pl;have i0:=M2.i.cell hlt;have il:=M2.i.lt hni0;obtain ⟨p0,p1,pl⟩:=Qb.d2 M2.p;by_cases hmk : m.1 k < 0
  ·have hR : R = (some (Xf m k i),Qh sn' k true):=by
    have h:=hr.out;rw [hdr.out,Ag hs hmk] at h;exact h.symm
   subst hR;clear hr hc hdr IH hs;have hmb : decide (m.1 k < 0) = true:=zt hmk;clear hmk;have fz:=M2.i.frozen hni0 k;go_wp2;have M3:=M2.setI hlt (i : Int);have N3:=N2.oth (fun hn => Ne.symm (M2.i.apart2 N2 zD hni0 hn)) k (.int .i64 (i : Int));go_ret;exact ⟨rfl,M3,Qh sn' k true,N3,fun _ => rfl⟩
  have hmb : decide (m.1 k < 0) = false:=zf hmk;obtain ⟨p,hp⟩ : ∃ p : Nat,m.1 k = p:=⟨(m.1 k).toNat,Qa⟩;have hpn : p < no:=by have:=hm k hlt Qa;rw [hp] at this;simpa using this
  have hpt : (m.1 k).toNat = p:=Qa;rw [hp] at i0 hmb;have hc1:=G4 (b:=sn') (k:=k) hs hlt;have hc2:=hc.out;have IHc:=fun v h1 h2 => IH (n - 1) Qa v (Qh sn' k true) p (some ⟨bn,0,none⟩) cN bn hpn Qa h1 h2 hl
  have hq : ∀ x,sn' x = true → (Q4 (Zv my ni) (n - 1) m (Qh sn' k true) p).2 x = true:=fun x hx => by
   refine Kg (Zv my ni) (n - 1) m _ p x ?_;by_cases e : x = k
   ·rw [e,Z9]
   ·rw [Zp _ _ e];exact hx
  have hqe : Q4 (Zv my ni) (n - 1) m (Qh sn' k true) (m.1 k).toNat = Q4 (Zv my ni) (n - 1) m (Qh sn' k true) p:=by rw [hpt]
  generalize Q4 (Zv my ni) (n - 1) m (Qh sn' k true) p = Q at *;obtain ⟨ro,b2⟩:=Q;clear hc1 hc2 IH;replace hmk:=zh hmk;replace hp:=zh hp;replace hpt:=zh hpt;replace hq:=zh hq;replace hqe:=zh hqe;replace hs:=zh hs
  cases ro with
  | none =>
   simp only [Option.isSome,Option.getD] at IHc;go_upto_region 6 with fail
   go_wp2_with (go_at_call 131;refine zc (IHc _ M2 N2) ?_;rintro e w3 ⟨rfl,M6,sn3,N6,hb3⟩)
   have hr2 : Hid (Z4 (Q4 (Zv my ni) (n - 1)) i (fl (my i) ni (k + 1)) m sn3 = R):=by
    have h:=hr.out;rw [hdr.out,Ah hs.out (Int.not_lt.2 (by have:=hp.out;omega)) hqe.out] at h;rw [show sn3 = b2 from funext hb3];exact h
   have hc3 : Hid (J7 ni sn3 ≤ n):=by
    rw [show sn3 = b2 from funext hb3];exact Nat.le_trans (G3 hq.out ni) hc.out
   exact ⟨⟨k + 1,sn3,Qa,by go_num,M6,N6,hr2,hc3⟩,zi⟩
  | some m1 =>
   simp only [Option.isSome,Option.getD] at IHc
   have hR : R = (some (Xf m1 k i),b2):=by
    have h:=hr.out;rw [hdr.out,Ai hs.out (Int.not_lt.2 (by have:=hp.out;omega)) hqe.out] at h;exact h.symm
   subst hR;go_upto_region 7 with (go_at_call 131;refine zc (IHc _ M2 N2) ?_;rintro e w3 ⟨rfl,M6,sn3,N6,hb3⟩)
   clear hr hc hdr hq hqe M2 N2 p0 p1 pl i0 il IHc;obtain ⟨p0,p1,pl⟩:=Qb.d2 M6.p;have i0:=M6.i.cell hlt;have il:=M6.i.lt hni0;have fz:=M6.i.frozen hni0 k;go_wp2;have M7:=M6.setI hlt (i : Int);have N7:=N6.oth (fun hn => Ne.symm (M6.i.apart2 N6 zD hni0 hn)) k (.int .i64 (i : Int));go_ret;exact ⟨rfl,M7,sn3,N7,hb3⟩
set_option maxHeartbeats 20000000 in
theorem Qbw {my : Nat → Nat → Bool} (w : World) (vy : Value) (no ni cT bt fr : Nat) (tk : Bl) (hY : L7 w vy no ni my) (hT : Qw w 4 (some ⟨bt,0,none⟩) ni bt (fun x => .bool (tk x))) (hni1 : ni ≤ 1000000) (hno1 : no ≤ 1000000) (hfr : fr ≤ no) :
  Calls Tryz.prog 85 #[vy,.int .i64 fr,.slice (some ⟨bt,0,none⟩) ni cT] w fun e w' => e = .returned (.int .i64 ((Zt (Zv my ni) ni tk (no - fr) fr Jg).2 : Nat)) ∧ Qc w w':=by
 obtain ⟨i0,hi0,hz0,hz1,hz2⟩:=info_parts Ms;obtain ⟨Y,cY,vs,hvy,_,_⟩:=id hY;subst hvy;have hmk:=fun w => Fu ni hni1 w
 have hadj:=Tt my ni;obtain ⟨RES,hRES⟩:=Qe ((Zt (Zv my ni) ni tk (no - fr) fr Jg).2);rw [← hRES];replace hRES:=zh hRES
 go_enter Tryz.func85,Tryz.ntmps85
 go_upto_region 4 with fail
 obtain ⟨v,hv⟩:=Qe (w.alloc (.cells #[.slice Y no cY,.slice none 0 0] 219));rw [← hv];have E : Qc w v:=by rw [hv];exact (Qc.refl _).alloc _
 have B1 : Qb v w.heap.size 219 #[.slice Y no cY,.slice none 0 0]:=by rw [hv];exact Qb.new _ _ _
 clear hv;obtain ⟨bp,hbp⟩:=Qe (w.heap.size);rw [← hbp] at B1 ⊢;have hbr : w.heap.size ≤ bp:=Qa;clear hbp
 go_loopw [9] (fun kv wr => ∃ (k : Nat) (O : OA) (cO : Nat),k ≤ ni ∧ kv = .int .i64 k ∧ Qc w wr ∧ Qb wr bp 219 #[.slice Y no cY,.slice O k cO] ∧ wr.ownsRow w.heap.size 3 1 (.slice O k cO) k (List.replicate k (.int .i64 (-1)))) (fun kv _ => ni - (intOf kv).toNat)
 case atStart => exact ⟨0,none,0,Nat.zero_le _,rfl,E,B1,⟨rfl,.inl ⟨rfl,rfl⟩⟩⟩
 case round =>
  clear E B1;obtain ⟨k,O,cO,hk,rfl,E,B1,HO⟩:=hrel;obtain ⟨wo,rfl⟩:=Qe wr;obtain ⟨p0,p1,pl⟩:=Qb.d2 B1;by_cases hlt : k < ni
  ·go_upto_region 6 with fail
   have x1 : Qc wo (wo.alloc (.cells #[.int .i64 (-1)] 3)):=(Qc.refl wo).alloc _;have HO2:=J0 HO x1;have E2:=E.trans x1;have B2:=B1.ext x1;go_wp2_with (at_builtin;refine wpList_append_own_at _ rfl _ _ 125 rfl w.heap.size 3 i0 (.int .i64 0) 1 8 Tryz.underlying125 hi0 hz0 hz1 hz2 rfl zD _ _ _ rfl HO2 ⟨wo.heap.size,0,none⟩ 1 1 [.int .i64 (-1)] rfl rfl (Wf (Qb.new _ _ _)) (by simp [Value.oneCell']) (by unfold maxLen;omega) Qa E2.size ?_;intro vn wn hown hgrow _ hob;obtain ⟨Fn,mn,rfl⟩:=Jn hown;have B3:=B2.kept hgrow (B2.not_row zD HO2);have fz:=B3.frozen 1;have bl:=B3.lt;obtain ⟨p0,p1⟩:=B3.c2);have E3:=(E2.grown hgrow (fun q hq => (Xe HO2 q hq).1)).setCell (p:=⟨bp,1,none⟩) hbr (.slice Fn (k + 1) mn)
   have B4 : Qb (wn.setCell ⟨bp,1,none⟩ (.slice Fn (k + 1) mn)) bp 219 #[.slice Y no cY,.slice Fn (k + 1) mn]:=by
    have:=Kn B3 1 (.slice Fn (k + 1) mn)
    simpa using this
   have O4:=Je B3 zD hown 1 (.slice Fn (k + 1) mn);rw [← List.replicate_succ'] at O4;exact ⟨⟨k + 1,Fn,mn,Qa,by go_num,E3,B4,O4⟩,zi⟩
  obtain rfl : k = ni:=Qa;obtain ⟨A0,cap0,bo,hve,hbo,hbl,HA⟩:=Oa (g:=fun _ => .int .i64 (-1)) HO (fun j hj => by simp [hj]);injection hve with q1 q2 q3
  subst q1;subst q3;have P0 : PS w wo bp (.slice Y no cY) O k cO bo Jg.1:=⟨E,B1,HA,fun _ => hbo⟩;clear HO HA B1 E p0 p1 pl hbl;have hG0:=Oi (Zv my k) k fr tk;have hres0 : Hid (0 + (Zt (Zv my k) k tk (no - fr) fr Jg).2 = RES):=zh (by rw [hRES.out,Nat.zero_add]);clear hRES;go_upto_region 8 with fail
  go_loopw [7,10] (fun cv iv wr => ∃ (s cnt : Nat) (m : Mt),cnt ≤ s ∧ fr ≤ s ∧ s ≤ no ∧ iv = .int .i64 s ∧ cv = .int .i64 cnt ∧ PS w wr bp (.slice Y no cY) O k cO bo m.1 ∧ Vv (Zv my k) k fr tk s m ∧ Hid (cnt + (Zt (Zv my k) k tk (no - s) s m).2 = RES)) (fun _ iv _ => no - (intOf iv).toNat)
  case atStart => exact ⟨fr,0,Jg,Nat.zero_le _,Nat.le_refl _,hfr,rfl,rfl,P0,hG0,hres0⟩
  case round =>
   clear P0 hG0 hres0;obtain ⟨s,cnt,m,hcs,hs1,hs2,rfl,rfl,M,hG,hres⟩:=hrel;obtain ⟨wo,rfl⟩:=Qe wr;by_cases hlt : s < no;rotate_left
   ·obtain rfl : s = no:=Qa
    have e : cnt = RES:=by
     have h:=hres.out;rw [Nat.sub_self] at h;exact h
    subst e;clear hres;go_wp2;go_ret;exact ⟨rfl,M.e⟩
   go_upto_region 11 with fail
   obtain ⟨wx,hwx⟩:=Qe (wo.alloc (.cells (Array.replicate k (.bool false)) 4));rw [← hwx];have HG : Qb wx wo.heap.size 4 (Array.replicate k (.bool false)):=by rw [hwx];exact Qb.new _ _ _
   have x1 : Qc wo wx:=by rw [hwx];exact (Qc.refl wo).alloc _
   have hge:=M.e.size;have M2:=M.ext x1;generalize wo.heap.size = g at *;clear hwx x1 M
   have hcp:=Qg6 (c:=cT) (src:=⟨bt,0,none⟩) (tk:=tk) HG (fun j hj => by
    rw [Addr.add_lit,Nat.zero_add];exact (M2.e.cell (p:=⟨bt,j,none⟩) (hT.lt Qa)).trans (hT.cell hj))
   go_upto_region 12 with fail
   have HG2:=setRow_heap wx g _ (Ud k tk).toArray 4 _ HG;have E2 : Qc w (wx.setRow g (Ud k tk).toArray):=below_setRow M2.e hge _;have B2 : Qb (wx.setRow g (Ud k tk).toArray) bp 219 #[.slice Y no cY,.slice O k cO]:=(setRow_other wx g bp _ (Ne.symm (Y7 HG M2.p zD))).trans M2.p
   have A2 : Qw (wx.setRow g (Ud k tk).toArray) 3 O k bo (fun x => .int .i64 (m.1 x)):=⟨M2.i.a,fun hn => by
    obtain ⟨cs,h1,h2⟩:=M2.i.h hn;exact ⟨cs,(setRow_other wx g bo _ (Ne.symm (Y7 HG h1 zD))).trans h1,h2⟩⟩
   generalize wx.setRow g (Ud k tk).toArray = w2 at *;have M3 : PS w w2 bp (.slice Y no cY) O k cO bo m.1:=⟨E2,B2,A2,M2.lo⟩;have N3 : Qw w2 4 (some ⟨g,0,none⟩) k g (fun x => .bool (tk x)):=⟨fun _ => rfl,fun _ => ⟨_,HG2,by simp [Ud],fun j hj => by rw [List.getElem?_toArray];exact Ar hj⟩⟩;clear hcp HG HG2 E2 B2 A2 M2;have NF:=Qia w bp (.slice Y no cY) O no k cO bo m hY (Iw hG hs2) hni1 k w2 tk s (some ⟨g,0,none⟩) k g hlt (Mf k tk) M3 N3 (fun _ => hge);have hG2:=(Pj hadj hs1 hG).1;have hsub : no - s = (no - (s + 1)) + 1:=Qa;have hcl:=Fb (adj:=Zv my k) (ni:=k) (fx:=tk) (no - s) s m
   cases ha : (Q4 (Zv my k) k m tk s).1 with
   | none =>
    rw [ha] at NF hG2;simp only [Option.isSome,Option.getD] at NF hG2
    have hres2 : Hid (cnt + (Zt (Zv my k) k tk (no - (s + 1)) (s + 1) m).2 = RES):=by
     have h:=hres.out;rw [hsub,Iy ha] at h;exact h
    clear hres ha hsub hcl;go_wp2_with (go_at_call 131;(with_reducible refine Calls.mono NF ?_);rintro e w3 ⟨rfl,M6,_⟩)
    exact ⟨⟨s + 1,cnt,m,Qa,Qa,Qa,by go_num,rfl,M6,hG2,hres2⟩,zi⟩
   | some m' =>
    rw [ha] at NF hG2;simp only [Option.isSome,Option.getD] at NF hG2
    have hres2 : Hid (cnt + 1 + (Zt (Zv my k) k tk (no - (s + 1)) (s + 1) m').2 = RES):=by
     have h:=hres.out;rw [hsub,Iz ha] at h;rw [← h];unfold Hid;omega
    clear hres ha hsub hcl;go_wp2_with (go_at_call 131;(with_reducible refine Calls.mono NF ?_);rintro e w3 ⟨rfl,M6,_⟩);exact ⟨⟨s + 1,cnt + 1,m',Qa,Qa,Qa,by go_num,by go_num,M6,hG2,hres2⟩,zi⟩
def FB (br : Nat) (W W' : World) : Prop:=∀ b t (cs : Array Value),Qb W b t cs → b ≠ br → Qb W' b t cs
theorem FB.refl (br : Nat) (W : World) : FB br W W:=fun _ _ _ h _ => h
theorem FB.ext {br : Nat} {W W1 W2 : World} (h : FB br W W1) (x : Qc W1 W2) : FB br W W2:=fun b t cs hb ht => (h b t cs hb ht).ext x
theorem FB.set {br : Nat} {W W1 : World} (h : FB br W W1) (j : Nat) (u : Value) : FB br W (W1.setCell ⟨br,j,none⟩ u):=fun b t cs hb ht => Wn (h b t cs hb ht) ht j u
theorem own_fb {br : Nat} {W W' : World} {base n s : Nat} {e : TypeId} {v : Value} {xs : List Value} (h : W.ownsRow base e s v n xs) (f : FB br W W') {t : TypeId} {cs : Array Value} (hr : Qb W br t cs) (ht : t ≠ e) : W'.ownsRow base e s v n xs:=by
 refine ⟨h.1,?_⟩;rcases h.2 with hn | ⟨g,cap,cur,hv,hb,hg,rest⟩
 ·exact .inl hn
 ·exact .inr ⟨g,cap,cur,hv,hb,f g e cur hg (fun e' => by subst e';exact Y7 hr hg ht rfl),rest⟩
theorem Qw.fb {br : Nat} {W W' : World} {t : TypeId} {A : OA} {n b : Nat} {g : Nat → Value} (h : Qw W t A n b g) (f : FB br W W') (hne : 0 < n → b ≠ br) : Qw W' t A n b g:=⟨h.a,fun hn => by
 obtain ⟨cs,h1,h2⟩:=h.h hn;exact ⟨cs,f _ _ _ h1 (hne hn),h2⟩⟩
theorem Qjg : (Tryz.prog.info? 171).map (fun i => (i.zero,i.size,i.bytes)) = some (some (.slice none 0 0),1,24):=by kernel_rfl
structure TK (WB W : World) (bt ni : Nat) (fx : Nat → Bool) : Prop where
 e : Qc WB W
 a : Qw W 4 (some ⟨bt,0,none⟩) ni bt fun k => .bool (fx k)
theorem TK.ext {WB W W' : World} {bt ni : Nat} {fx : Nat → Bool} (h : TK WB W bt ni fx) (x : Qc W W') : TK WB W' bt ni fx:=⟨h.e.trans x,h.a.ext x⟩
theorem TK.set {WB W : World} {bt ni : Nat} {fx : Nat → Bool} (h : TK WB W bt ni fx) (hb : WB.heap.size ≤ bt) {k : Nat} (hk : k < ni) (b : Bool) : TK WB (W.setCell ⟨bt,k,none⟩ (.bool b)) bt ni (Qh fx k b):=⟨h.e.setCell (p:=⟨bt,k,none⟩) hb _,Tu h.a hk b⟩
theorem TK.grown {WB W W' : World} {bt ni : Nat} {fx : Nat → Bool} {v : Value} {n : Nat} {xs : List Value} (h : TK WB W bt ni fx) (ho : W.ownsRow WB.heap.size 35 4 v n xs) (hg : W.grownBy W' v.ownBlock) : TK WB W' bt ni fx :=
 ⟨h.e.grown hg (fun q hq => (Xe ho q hq).1),h.a.kept hg (fun hn => by obtain ⟨cs,h1,_⟩:=h.a.h hn;exact h1.not_row zD ho)⟩
def Qb7 (adj : Nat → List Nat) (ni no n i : Nat) (left : Int) (fx : Bl) : Option Nat → List (Nat × Nat)
 | some k => (i,k) :: Y9 adj ni no n (i + 1) (left - 1) (Qh fx k true)
 | none => Y9 adj ni no n (i + 1) left fx
theorem Qmz (adj : Nat → List Nat) (ni no n i : Nat) (left : Int) (fx : Bl) : Y9 adj ni no (n + 1) i left fx = Qb7 adj ni no n i left fx (Yf adj ni no i left fx (adj i)):=by
 conv => lhs;unfold Y9
 cases Yf adj ni no i left fx (adj i) with
 | none => rfl
 | some p => rfl
set_option maxHeartbeats 40000000 in
theorem Qkm (A A' : OA) (ca cb : Nat) (c : Qd) (l : List Pd) (vl : Value) (ba : Nat) (days : Int) (w : World) (hA : U9 w ba A A' ca cb c vl l days) (hv : c.valid = true) (hb1 : l.length ≤ 32) (hb2 : ∀ i,i < l.length → (l.getD i Qp).d.length ≤ 64) :
  Calls Tryz.prog 37 #[.pointer (some ⟨ba,0,none⟩)] w fun e w' => ∃ v,e = .returned v ∧ Qc w w' ∧ w'.ownsRow w.heap.size 35 4 v (Y9 (Zv (c.myR l days) (Zb l true).length) (Zb l true).length (Zb l false).length (Zb l false).length 0 (Zt (Zv (c.myR l days) (Zb l true).length) (Zb l true).length (fun _ => false) (Zb l false).length 0 Jg).2 (fun _ => false)).length ((Y9 (Zv (c.myR l days) (Zb l true).length) (Zb l true).length (Zb l false).length (Zb l false).length 0 (Zt (Zv (c.myR l days) (Zb l true).length) (Zb l true).length (fun _ => false) (Zb l false).length 0 Jg).2 (fun _ => false)).flatMap (Uf (fun o => (Zb l false).getD o Qn) (fun k => (Zb l true).getD k Qn))):=by
 obtain ⟨i0,hi0,hz0,hz1,hz2⟩:=info_parts Qal;obtain ⟨j0,hj0,hy3,hy4,hy5⟩:=info_parts Qjg;have hLo:=V6 false hb2 l.length (Nat.le_refl _);have hLi:=V6 true hb2 l.length (Nat.le_refl _);have hb1' : l.length * 64 ≤ 1000000:=Qa;have hbd1 : Hid (∀ x ∈ Zb l false,x.1 < l.length ∧ x.2 < (l.getD x.1 Qp).d.length):=zh fun x hx => ⟨(Vl.1 hx).1,(Vl.1 hx).2.1⟩
 have hbd2 : Hid (∀ x ∈ Zb l true,x.1 < l.length ∧ x.2 < (l.getD x.1 Qp).d.length):=zh fun x hx => ⟨(Vl.1 hx).1,(Vl.1 hx).2.1⟩
 have NDo:=fun v h => Ih A A' ca cb c l vl ba days false v h Qa (fun i hi => Nat.le_trans (hb2 i hi) zD)
 have NDi:=fun v h => Ih A A' ca cb c l vl ba days true v h Qa (fun i hi => Nat.le_trans (hb2 i hi) zD)
 have hno : (Zb l false).length ≤ 1000000:=Nat.le_trans hLo hb1';have hni : (Zb l true).length ≤ 1000000:=Nat.le_trans hLi hb1';clear hLo hLi hb1';obtain ⟨RES,hRES⟩:=Qe (Y9 (Zv (c.myR l days) (Zb l true).length) (Zb l true).length (Zb l false).length (Zb l false).length 0 (Zt (Zv (c.myR l days) (Zb l true).length) (Zb l true).length (fun _ => false) (Zb l false).length 0 Jg).2 (fun _ => false));rw [← hRES];have hmy : Hid (c.myR l days = fun i k => c.mayR l days ((Zb l false).getD i Qn) ((Zb l true).getD k Qn)):=zh rfl;obtain ⟨my,hmye⟩:=Qe (c.myR l days);rw [← hmye] at hRES hmy;clear hmye;obtain ⟨Lo,hLoe⟩:=Qe (Zb l false);obtain ⟨Li,hLie⟩:=Qe (Zb l true)
 rw [← hLoe] at hRES hno hbd1 hmy ⊢;rw [← hLie] at hRES hni hbd2 hmy ⊢;simp only [← hLoe] at NDo;simp only [← hLie] at NDi;clear hLoe hLie;obtain ⟨no,hnoe⟩:=Qe (Lo.length);obtain ⟨ni,hnie⟩:=Qe (Li.length);rw [← hnoe] at hRES hno;rw [← hnie] at hRES hni;simp only [← hnoe] at NDo;simp only [← hnie] at NDi;replace hnoe:=zh hnoe;replace hnie:=zh hnie;replace hRES:=zh hRES;have hmk:=fun w => Fu ni hni w
 go_enter Tryz.func37,Tryz.ntmps37
 go_upto_region 2 with (first | (go_at_call 83;(with_reducible refine zc (NDo _ hA) ?_);rintro e w1 ⟨v1,rfl,x1,O1⟩) | (go_at_call 83;(with_reducible refine zc (NDi _ (hA.ext x1)) ?_);rintro e w2 ⟨v2,rfl,x2,O2⟩))
 have O1':=J0 O1 x2;rw [hnoe.out] at O1';obtain ⟨Vo,co,e1,RO⟩:=Kw O1';subst e1;rw [hnie.out] at O2;obtain ⟨Vi,ci,e1,RI⟩:=Kw O2;subst e1;rw [← hnoe.out] at RO ⊢;rw [← hnie.out] at RI ⊢;have hA2:=(hA.ext x1).ext x2;have X2:=x1.trans x2;clear O1 O2 O1' NDo NDi x1 x2 hA;go_upto_region 4 with fail
 go_loopw [5,6] (fun mv iv wr => ∃ (i : Nat) (bx : Nat → Nat),i ≤ no ∧ iv = .int .i64 i ∧ Qc w2 wr ∧ wr.ownsRow w2.heap.size 171 1 mv i ((List.range i).map fun x => .slice (some ⟨bx x,0,none⟩) ni ni) ∧ ∀ x,x < i → Qw wr 4 (some ⟨bx x,0,none⟩) ni (bx x) (fun k => .bool (my x k))) (fun _ iv _ => no - (intOf iv).toNat)
 case atStart => exact ⟨0,fun _ => 0,Nat.zero_le _,rfl,Qc.refl _,⟨rfl,.inl ⟨rfl,rfl⟩⟩,fun x hx => absurd hx Qa⟩
 case round =>
  obtain ⟨i,bx,hi,rfl,E,OM,hrow⟩:=hrel;obtain ⟨wo,rfl⟩:=Qe wr;by_cases hlt : i < no;rotate_left
  ·obtain rfl : i = no := Qa;obtain ⟨FM0, cM0, rfl⟩ := Jn OM;obtain ⟨A9, c9, b9, e9, _, _, AM⟩ := Oa (g := fun x => .slice (some ⟨bx x, 0, none⟩) ni ni) OM (fun k hk => by simp [hk])
   have hMB : L7 wo (.slice FM0 i cM0) i ni my:=by
    injection e9 with q1 _ q3
    subst q1;subst q3;exact ⟨_,_,_,rfl,K9 AM,fun x hx => ⟨_,_,rfl,K9 (hrow x hx)⟩⟩
   clear AM e9 OM hrow;have RO2:=RO.ext E;have RI2:=RI.ext E;have XB:=X2.trans E;clear RO RI E X2 hA2;obtain ⟨wB,hwB⟩:=Qe wo;go_upto_region 13 with fail
   obtain ⟨wt,hwt⟩:=Qe (wo.alloc (.cells (Array.replicate ni (.bool false)) 4));rw [← hwt];have AT : Qw wt 4 (some ⟨wo.heap.size,0,none⟩) ni wo.heap.size (fun _ => .bool false):=by rw [hwt];exact Tv wo _ _ _
   have xt : Qc wo wt:=by rw [hwt];exact (Qc.refl wo).alloc _
   obtain ⟨bt,hbt⟩:=Qe (wo.heap.size);rw [← hbt] at AT ⊢;rw [← hwB] at hbt xt hMB RO2 RI2 XB;have hbge : wB.heap.size ≤ bt:=Nat.le_of_eq hbt.symm;clear hbt hwt hwB;have NM0:=Qbw wt (.slice FM0 i cM0) i ni ni bt 0 (fun _ => false) (hMB.ext xt) AT hni hno (Nat.zero_le _);rw [Nat.sub_zero] at NM0;have hgl:=Fb (adj:=Zv my ni) (ni:=ni) (fx:=fun _ => false) i 0 Jg;obtain ⟨L0,hL0⟩:=Qe ((Zt (Zv my ni) ni (fun _ => false) i 0 Jg).2);have hRES0 : Hid ([] ++ Y9 (Zv my ni) ni i (i - 0) 0 (L0 : Int) (fun _ => false) = RES):=zh (by rw [hL0,hRES.out];rfl);rw [← hL0] at NM0 hgl;clear hL0 hRES;go_upto_region 14 with (go_at_call 85;(with_reducible refine Calls.mono NM0 ?_);rintro e w3 ⟨rfl,x3⟩)
   have TK0 : TK wB w3 bt ni (fun _ => false):=⟨xt.trans x3,AT.ext x3⟩;clear NM0 xt x3 AT;obtain ⟨Y0,cY,vs,e0,hYr,hYi⟩:=id hMB;injection e0 with q1 _ q3
   subst q1;subst q3;go_upto_region 16 with fail
   go_loopw [10,11,12] (fun lv ov iv wr => ∃ (i' : Nat) (Qt : List (Nat × Nat)) (fx : Bl) (left : Int),i' ≤ i ∧ Qt.length ≤ i' ∧ -(i' : Int) ≤ left ∧ left ≤ i ∧ lv = .int .i64 left ∧ iv = .int .i64 i' ∧ TK wB wr bt ni fx ∧ wr.ownsRow wB.heap.size 35 4 ov Qt.length (Qt.flatMap (Uf (fun o => Lo.getD o Qn) (fun k => Li.getD k Qn))) ∧ Hid (Qt ++ Y9 (Zv my ni) ni i (i - i') i' left fx = RES)) (fun _ _ iv _ => i - (intOf iv).toNat)
   case atStart => exact ⟨0,[],_,L0,Nat.zero_le _,Nat.le_refl _,Qa,Qa,rfl,rfl,TK0,⟨rfl,.inl ⟨rfl,rfl⟩⟩,hRES0⟩
   case round =>
    clear TK0 hRES0 hgl;obtain ⟨i',Qt,fx,left,hi,hpl,hl1,hl2,rfl,rfl,M,hO,hR⟩:=hrel;obtain ⟨no,rfl⟩:=Qe i;obtain ⟨i,rfl⟩:=Qe i';obtain ⟨wo,rfl⟩:=Qe wr;by_cases hlt : i < no;rotate_left
    ·obtain rfl : i = no:=Qa
     have e : Qt = RES:=by
      have h:=hR.out;rw [Nat.sub_self] at h;rw [← h];exact (List.append_nil _).symm
     subst e;clear hR;go_wp2;go_ret;exact ⟨_,rfl,XB.trans M.e,Dh hO XB.size⟩
    have hno0 : 0 < no:=Qa;obtain ⟨F,mcap,rfl⟩:=Jn hO;obtain ⟨D,cD,hv1,hDr⟩:=hYi i hlt;obtain ⟨b,off,hYe,hb,hcc⟩:=hYr hno0;subst hYe
    have c0 : wB.cell? ⟨b,off + i,none⟩ = some (.slice D ni cD):=by
     have:=hcc i 0 (vs i) hlt rfl;rw [hv1] at this
     simpa using this
    clear hcc hv1;obtain ⟨bv,ov,hVe,hbv,hcv⟩:=RO2 hno0;subst hVe;have cv0 : wB.cell? ⟨bv,ov + i * 2,none⟩ = some (.int .i64 ((Lo.getD i Qn).1 : Nat)):=hcv i 0 _ hlt rfl;have cv1 : wB.cell? ⟨bv,ov + i * 2 + 1,none⟩ = some (.int .i64 ((Lo.getD i Qn).2 : Nat)):=hcv i 1 _ hlt rfl;clear hcv;obtain ⟨RK,hRK⟩:=Qe (Yf (Zv my ni) ni no i left fx (Zv my ni i))
    have hR1 : Hid (Qt ++ Qb7 (Zv my ni) ni no (no - (i + 1)) i left fx RK = RES):=by
     have h:=hR.out;rw [show no - i = (no - (i + 1)) + 1 by omega,Qmz] at h;rw [hRK];exact zh h
    rw [Cn] at hRK;replace hRK : Hid (Yf (Zv my ni) ni no i left fx (fl (my i) ni 0) = RK):=zh hRK.symm;clear hR;go_upto_region 19 with fail
    go_loopw [10,11,13] (fun lv ov kv wr => ∃ k : Nat,k ≤ ni ∧ lv = .int .i64 left ∧ ov = .slice F Qt.length mcap ∧ kv = .int .i64 k ∧ TK wB wr bt ni fx ∧ wr.ownsRow wB.heap.size 35 4 (.slice F Qt.length mcap) Qt.length (Qt.flatMap (Uf (fun o => Lo.getD o Qn) (fun k => Li.getD k Qn))) ∧ Hid (Yf (Zv my ni) ni no i left fx (fl (my i) ni k) = RK)) (fun _ _ kv _ => ni - (intOf kv).toNat)
    case atStart => exact ⟨0,Nat.zero_le _,rfl,rfl,rfl,M,hO,hRK⟩
    case round =>
     clear M hO hRK;obtain ⟨k,hk,rfl,rfl,rfl,M,hO,hRK⟩:=hrel;obtain ⟨w1,rfl⟩:=Qe wr;by_cases hlk : k < ni;rotate_left
     ·obtain rfl : k = ni:=Qa
      have e : RK = none:=by
       have h:=hRK.out;rw [Im] at h;exact h.symm
      subst e;clear hRK;go_wp2;exact ⟨⟨i + 1,Qt,fx,left,Qa,Qa,Qa,Qa,rfl,by go_num,M,hO,hR1⟩,zi⟩
     have hni0 : 0 < ni:=Qa;have e0:=(M.e.cell (p:=⟨b,off + i,none⟩) hb).trans c0;have el:=Nat.lt_of_lt_of_le hb M.e.size;obtain ⟨bd,od,rfl,hbd,hcd⟩:=hDr hni0;have f0 : w1.cell? ⟨bd,od + k,none⟩ = some (.bool (my i k)):=(M.e.cell (p:=⟨bd,od + k,none⟩) hbd).trans (by simpa using hcd k 0 (.bool (my i k)) hlk rfl);have fl0:=Nat.lt_of_lt_of_le hbd M.e.size;clear hcd;have n0:=M.a.cell hlk;have nl:=M.a.lt hni0;cases hmy1 : my i k
     ·rw [hmy1] at f0
      have hr2 : Hid (Yf (Zv my ni) ni no i left fx (fl (my i) ni (k + 1)) = RK):=by
       have h:=hRK.out;rw [Ip hlk hmy1] at h;exact h
      clear hRK hmy1 hmy;go_wp2;exact ⟨⟨k + 1,Qa,rfl,rfl,by go_num,M,hO,hr2⟩,zi⟩
     rw [hmy1] at f0;have hdr:=zh (Iq hlk hmy1);clear hmy1 hmy;cases hs : fx k
     rotate_left
     ·rw [hs] at n0
      have hr2 : Hid (Yf (Zv my ni) ni no i left fx (fl (my i) ni (k + 1)) = RK):=by
       have h:=hRK.out;rw [hdr.out,Qm4 hs] at h;exact h
      clear hRK hs hdr;go_wp2;exact ⟨⟨k + 1,Qa,rfl,rfl,by go_num,M,hO,hr2⟩,zi⟩
     rw [hs] at n0;have nz:=M.a.frozen hni0 k;have hOs:=M.a.h hni0;go_upto_region 23 with fail
     have M2:=M.set hbge hlk true;obtain ⟨cs2,hcs2,_⟩:=hOs;have hO2:=Je hcs2 zD hO k (.bool true);generalize World.setCell _ _ _ = w2' at *;clear M hO n0 nl nz e0 el f0 fl0 hcs2;have NM:=Qbw w2' (.slice (some ⟨b,off,none⟩) no cM0) no ni ni bt (i + 1) (Qh fx k true) (hMB.ext M2.e) M2.a hni hno Qa;obtain ⟨cn,hcn⟩:=Qe ((Zt (Zv my ni) ni (Qh fx k true) (no - (i + 1)) (i + 1) Jg).2);rw [← hcn,show (((i + 1 : Nat)) : Int) = (i : Int) + 1 by omega] at NM;by_cases hq : (cn : Int) = left - 1
     ·have g1 : ((cn : Int) == left - 1) = true:=beq_iff_eq.2 hq
      have hRKe : RK = some k:=by
       have h:=hRK.out;rw [hdr.out,Qm8 hs (by rw [← hcn];exact hq)] at h;exact h.symm
      subst hRKe;clear hRK hdr hs hcn hq;obtain ⟨bu,ou,hUe,hbu,hcu⟩:=RI2 hni0;subst hUe;have cu0 : wB.cell? ⟨bu,ou + k * 2,none⟩ = some (.int .i64 ((Li.getD k Qn).1 : Nat)):=hcu k 0 _ hlk rfl;have cu1 : wB.cell? ⟨bu,ou + k * 2 + 1,none⟩ = some (.int .i64 ((Li.getD k Qn).2 : Nat)):=hcu k 1 _ hlk rfl;clear hcu;obtain ⟨X,hX⟩:=Qe (Lo.getD i Qn);obtain ⟨Y,hY⟩:=Qe (Li.getD k Qn);have hmcl : Hid (Uf (fun o => Lo.getD o Qn) (fun k => Li.getD k Qn) (i,k) = [.int .i64 (X.1 : Nat),.int .i64 (X.2 : Nat),.int .i64 (Y.1 : Nat),.int .i64 (Y.2 : Nat)]):=by rw [hX,hY];exact zh rfl
      rw [← hX] at cv0 cv1;rw [← hY] at cu0 cu1;clear hX hY;go_upto_region 25 with (go_at_call 85;(with_reducible refine Calls.mono NM ?_);rintro e w4 ⟨rfl,x4⟩)
      have HC:=M2.ext x4;have hO:=J0 hO2 x4;clear M2 hO2 x4 NM g1;refine Zc 13 [12] (fun x => TK wB x bt ni (Qh fx k true)) mixed rfl ?_;intro vz hvz;replace HC:=HC.ext hvz;replace hO:=J0 hO hvz;refine Qs (g:=3) [0,1,2,3,4,5,6,7,8,9] HC ?_
      constructor
      refine ⟨fun u hu => ?_,?_⟩
      ·have s0:=(hu.e.cell (p:=⟨bv,ov + i * 2,none⟩) hbv).trans cv0;have s1:=(hu.e.cell (p:=⟨bv,ov + i * 2 + 1,none⟩) hbv).trans cv1;have z0:=(hu.e.cell (p:=⟨bu,ou + k * 2,none⟩) hbu).trans cu0;have z1:=(hu.e.cell (p:=⟨bu,ou + k * 2 + 1,none⟩) hbu).trans cu1;have yl:=Nat.lt_of_lt_of_le hbv hu.e.size;have zl:=Nat.lt_of_lt_of_le hbu hu.e.size;exact Qk
      refine Qj 10 ?_;go_wp2;obtain ⟨bq,wb,hbq,hwb,Q6,_,hx,hge⟩:=Ql HC.e 35 #[.int .i64 (X.1 : Nat),.int .i64 (X.2 : Nat),.int .i64 (Y.1 : Nat),.int .i64 (Y.2 : Nat)];rw [← hbq,← hwb];clear hbq hwb;replace HC:=HC.ext hx;replace hO:=J0 hO hx;clear hx;refine Qf HC ?_;refine Qj 11 ?_;go_wp2_with (at_builtin;refine wpList_append_own_at _ rfl _ _ 28 rfl wB.heap.size 35 i0 (.agg #[.int .i64 0,.int .i64 0,.int .i64 0,.int .i64 0]) 4 32 Tryz.underlying28 hi0 hz0 hz1 hz2 rfl zD _ _ _ rfl hO ⟨bq,0,none⟩ 1 1 [.int .i64 (X.1 : Nat),.int .i64 (X.2 : Nat),.int .i64 (Y.1 : Nat),.int .i64 (Y.2 : Nat)] rfl rfl (Wf Q6) (Sk _ _ _ _) (by unfold maxLen;omega) Qa HC.e.size ?_;intro vn wn hown hgrow _ _)
      replace HC:=HC.grown hO hgrow;clear hgrow Q6;refine Qf HC ?_;refine Qr 12 ?_;go_wp2;refine Qq ?_;refine Qx ?_
      have hR2 : Hid ((Qt ++ [(i,k)]) ++ Y9 (Zv my ni) ni no (no - (i + 1)) (i + 1) (left - 1) (Qh fx k true) = RES):=by
       have h:=hR1.out;rw [List.append_assoc];exact h
      have hown2 : wn.ownsRow wB.heap.size 35 4 vn (Qt ++ [(i,k)]).length ((Qt ++ [(i,k)]).flatMap (Uf (fun o => Lo.getD o Qn) (fun k => Li.getD k Qn))):=by
       rw [List.length_append,List.flatMap_append,List.flatMap_singleton,hmcl.out];exact hown
      clear hown hO hR1;go_wp2;exact ⟨⟨i + 1,Qt ++ [(i,k)],_,left - 1,Qa,by rw [List.length_append];show Qt.length + 1 ≤ i + 1;omega,Qa,Qa,by go_num,by go_num,HC,hown2,hR2⟩,zi⟩
     ·have g1 : ((cn : Int) == left - 1) = false:=zb hq
      have hr2 : Hid (Yf (Zv my ni) ni no i left fx (fl (my i) ni (k + 1)) = RK):=by
       have h:=hRK.out;rw [hdr.out,Qm3 hs (by rw [← hcn];exact hq)] at h;exact h
      clear hRK hdr hcn hq;have hub:=Qoc hs;clear hs;go_upto_region 26 with (go_at_call 85;(with_reducible refine Calls.mono NM ?_);rintro e w4 ⟨rfl,x4⟩)
      have M3:=M2.ext x4;have hO3:=J0 hO2 x4;clear M2 hO2 x4 NM g1;have fz:=M3.a.frozen hni0 k;have fc:=M3.a.cell hlk;have flt:=M3.a.lt hni0;obtain ⟨cs3,hcs3,_⟩:=M3.a.h hni0;go_wp2;have M4:=M3.set hbge hlk false;rw [hub] at M4;have hO4:=Je hcs3 zD hO3 k (.bool false);exact ⟨⟨k + 1,Qa,rfl,rfl,by go_num,M4,hO4,hr2⟩,zi⟩
  go_upto_region 7 with fail
  obtain ⟨wx,hwx⟩:=Qe (wo.alloc (.cells (Array.replicate ni (.bool false)) 4));rw [← hwx];have HR : Qb wx wo.heap.size 4 (Array.replicate ni (.bool false)):=by rw [hwx];exact Qb.new _ _ _
  have AR : Qw wx 4 (some ⟨wo.heap.size,0,none⟩) ni wo.heap.size (fun _ => .bool false):=by rw [hwx];exact Tv wo _ _ _
  have xx : Qc wo wx:=by rw [hwx];exact (Qc.refl wo).alloc _
  have hbl : Hid (∀ x,x < i → 0 < ni → bx x ≠ wo.heap.size):=zh fun x hx hn => Nat.ne_of_lt ((hrow x hx).lt hn)
  have hge:=E.size;have hrow2 : Hid (∀ x,x < i → Qw wx 4 (some ⟨bx x,0,none⟩) ni (bx x) (fun k => .bool (my x k))):=zh fun x hx => (hrow x hx).ext xx
  have OM2:=J0 OM xx;have E2:=E.trans xx;generalize wo.heap.size = br at *;clear hwx xx hrow OM E;obtain ⟨bo,oo,hVe,hbo,hco⟩:=RO Qa;subst hVe;have x0 : w2.cell? ⟨bo,oo + i * 2,none⟩ = some (.int .i64 ((Lo.getD i Qn).1 : Nat)):=hco i 0 _ hlt rfl;have x1 : w2.cell? ⟨bo,oo + i * 2 + 1,none⟩ = some (.int .i64 ((Lo.getD i Qn).2 : Nat)):=hco i 1 _ hlt rfl;clear hco;obtain ⟨hX1,hX2⟩:=hbd1.out _ (J6 (z:=Qn) (l:=Lo) (i:=i) (by rw [← hnoe.out];exact hlt));obtain ⟨X,hX⟩:=Qe (Lo.getD i Qn);rw [← hX] at x0 x1 hX1 hX2;replace hX:=zh hX;go_upto_region 8 with fail
  go_loopw [8] (fun kv wr => ∃ k : Nat,k ≤ ni ∧ kv = .int .i64 k ∧ Qc w2 wr ∧ FB br wx wr ∧ Qw wr 4 (some ⟨br,0,none⟩) ni br (fun y => .bool (if y < k then my i y else false))) (fun kv _ => ni - (intOf kv).toNat)
  case atStart => exact ⟨0,Nat.zero_le _,rfl,E2,FB.refl _ _,AR.congr fun y _ => by simp⟩
  case round =>
   clear E2 AR;obtain ⟨k,hk,rfl,E,F,AR⟩:=hrel;obtain ⟨wo,rfl⟩:=Qe wr;by_cases hlk : k < ni;rotate_left
   ·obtain rfl : k = ni := Qa;have OM3 := own_fb OM2 F HR zD;have AR2 := AR.congr (g' := fun y => .bool (my i y)) (fun y hy => by simp [hy]);have hrow3 : ∀ x, x < i → Qw wo 4 (some ⟨bx x, 0, none⟩) k (bx x) (fun k => .bool (my x k)) := fun x hx => (hrow2.out x hx).fb F (hbl.out x hx)
    replace hrow3:=zh hrow3;clear OM2 AR F HR hrow2 hbl;go_upto_region 11 with fail
    have x5 : Qc wo (wo.alloc (.cells #[.slice (some ⟨br,0,none⟩) k k] 171)):=(Qc.refl wo).alloc _;have O5:=J0 OM3 x5;have E5:=E.trans x5;go_wp2_with (at_builtin;refine wpList_append_own_at _ rfl _ _ 170 rfl w2.heap.size 171 j0 (.slice none 0 0) 1 24 Tryz.underlying170 hj0 hy3 hy4 hy5 rfl zD _ _ _ rfl O5 ⟨wo.heap.size,0,none⟩ 1 1 [.slice (some ⟨br,0,none⟩) k k] rfl rfl (Wf (Qb.new _ _ _)) (by simp [Value.oneCell']) (by unfold maxLen;omega) Qa E5.size ?_;intro vn wn hown hgrow _ _);have E6:=E5.grown hgrow (fun q hq => (Xe O5 q hq).1)
    have hO6 : wn.ownsRow w2.heap.size 171 1 vn (i + 1) ((List.range (i + 1)).map fun x => .slice (some ⟨if x = i then br else bx x,0,none⟩) k k):=by
     rw [List.range_succ,List.map_append]
     have e1 : (List.range i).map (fun x => Value.slice (some ⟨if x = i then br else bx x,0,none⟩) k k) = (List.range i).map (fun x => .slice (some ⟨bx x,0,none⟩) k k):=List.map_congr_left fun x hx => by
      have : x ≠ i:=by have:=List.mem_range.1 hx;omega
      rw [if_neg this]
     rw [e1]
     simpa using hown
    have hr6 : ∀ x,x < i + 1 → Qw wn 4 (some ⟨if x = i then br else bx x,0,none⟩) k (if x = i then br else bx x) (fun k => .bool (my x k)):=fun x hx => by
     by_cases e : x = i
     ·subst e;rw [if_pos rfl];exact (AR2.ext x5).kept hgrow (fun hn => by obtain ⟨cs,h1,_⟩:=(AR2.ext x5).h hn;exact h1.not_row zD O5)
     ·rw [if_neg e];have h:=(hrow3.out x Qa).ext x5;exact h.kept hgrow (fun hn => by obtain ⟨cs,h1,_⟩:=h.h hn;exact h1.not_row zD O5)
    exact ⟨⟨i + 1,fun x => if x = i then br else bx x,Qa,by go_num,E6,hO6,hr6⟩,zi⟩
   obtain ⟨bu,ou,hUe,hbu,hcu⟩:=RI Qa;subst hUe;have y0 : w2.cell? ⟨bu,ou + k * 2,none⟩ = some (.int .i64 ((Li.getD k Qn).1 : Nat)):=hcu k 0 _ hlk rfl;have y1 : w2.cell? ⟨bu,ou + k * 2 + 1,none⟩ = some (.int .i64 ((Li.getD k Qn).2 : Nat)):=hcu k 1 _ hlk rfl;clear hcu;obtain ⟨hY1,hY2⟩:=hbd2.out _ (J6 (z:=Qn) (l:=Li) (i:=k) (by rw [← hnie.out];exact hlk));obtain ⟨Y,hY⟩:=Qe (Li.getD k Qn);rw [← hY] at y0 y1 hY1 hY2;replace hY:=zh hY;have NM:=fun v h => Qkn A A' ca cb c l vl ba days X Y v h hv hX1 hX2 hY1 hY2
   obtain ⟨RB,hRB⟩:=Qe (c.mayR l days X Y);rw [← hRB] at NM
   have hRB2 : Hid (my i k = RB):=by
    rw [hRB,hmy.out,hX.out,hY.out];exact zh rfl
   clear hRB;have hge2:=hge;go_upto_region 10 with fail
   refine Zc 14 [13] (fun x => Qc wo x) mixed rfl ?_;intro vz hvz;have HC:=hvz;refine Qs (g:=3) [0,1,2,3,4,5,6,7,8,9,10] HC ?_
   constructor
   refine ⟨fun u hu => ?_,?_⟩
   ·have r0:=((E.trans hu).cell (p:=⟨bo,oo + i * 2,none⟩) hbo).trans x0;have r1:=((E.trans hu).cell (p:=⟨bo,oo + i * 2 + 1,none⟩) hbo).trans x1;have s0:=((E.trans hu).cell (p:=⟨bu,ou + k * 2,none⟩) hbu).trans y0;have s1:=((E.trans hu).cell (p:=⟨bu,ou + k * 2 + 1,none⟩) hbu).trans y1;have rl:=Nat.lt_of_lt_of_le hbo (E.trans hu).size;have sl:=Nat.lt_of_lt_of_le hbu (E.trans hu).size;exact Qk
   refine Qj 11 ?_;go_wp2_with (go_at_call 84;refine zc (NM _ (hA2.ext (E.trans HC))) ?_;rintro e wc ⟨rfl,hj⟩);replace HC:=HC.trans hj;clear hj;refine Qf HC ?_;refine Qs (g:=1) [12] HC ?_
   constructor
   refine ⟨fun u hu => ?_,?_⟩
   ·have r0:=((E.trans hu).cell (p:=⟨bo,oo + i * 2,none⟩) hbo).trans x0;have r1:=((E.trans hu).cell (p:=⟨bo,oo + i * 2 + 1,none⟩) hbo).trans x1;have s0:=((E.trans hu).cell (p:=⟨bu,ou + k * 2,none⟩) hbu).trans y0;have s1:=((E.trans hu).cell (p:=⟨bu,ou + k * 2 + 1,none⟩) hbu).trans y1;have rl:=Nat.lt_of_lt_of_le hbo (E.trans hu).size;have sl:=Nat.lt_of_lt_of_le hbu (E.trans hu).size;exact Qk
   refine Qr 13 ?_;have fz:=(AR.ext HC).frozen (show 0 < ni by omega) k;have fc:=(AR.ext HC).cell hlk;have fl:=(AR.ext HC).lt (show 0 < ni by omega);go_wp2;refine Qq ?_;refine Qx ?_;have F2:=(F.ext HC).set k (.bool RB)
   have A2:=((AR.ext HC).set hlk (.bool RB)).congr (g':=fun y => .bool (if y < k + 1 then my i y else false)) (fun y hy => by
    by_cases e : y = k
    ·subst e;simp [hRB2.out]
    ·by_cases e2 : y < k
     ·simp [e,e2,show y < k + 1 by omega]
     ·simp [e,e2,show ¬ y < k + 1 by omega])
   have E3:=(E.trans HC).setCell (p:=⟨br,k,none⟩) hge (.bool RB);clear AR F;generalize World.setCell _ _ _ = wq at *;go_wp2;exact ⟨⟨k + 1,Qa,by go_num,E3,F2,A2⟩,zi⟩
theorem Qfk (A A' : OA) (ca cb : Nat) (c : Qd) (l : List Pd) (vl : Value) (days : Int) (w : World) (hC : Za w A ca A' cb c) (hP : J9 w vl l) :
  Calls Tryz.prog 36 #[.agg #[.slice A c.nk ca,.slice A' c.ny cb],vl,.int .i64 days] w fun e w' => e = .returned (.int .i64 (c.audE l days)) ∧ Qc w w':=by
 have NV:=fun w h1 h2 => Qfa A A' ca cb c l vl w h1 h2
 obtain ⟨pe,hpe⟩:=Qe (c.archE l);simp only [← hpe] at NV;replace hpe:=zh hpe;obtain ⟨RE,hRE⟩:=Qe (c.audE l days);rw [← hRE];replace hRE:=zh hRE
 go_enter Tryz.func36,Tryz.ntmps36
 go_upto_region 1 with fail
 obtain ⟨v,b1,E,B1,hbr,hv,hb1⟩:=J4 w 25 #[.slice A c.nk ca,.slice A' c.ny cb];rw [← hv,← hb1];clear hv hb1;have C:=hC.ext E;clear hC;obtain ⟨k0,k1,kl⟩:=Qb.d2 B1;go_upto_region 2 with (go_at_call 82;refine zc (NV _ C (hP.ext E)) ?_;rintro e w1 ⟨rfl,x1⟩)
 clear NV;replace E:=E.trans x1;by_cases e0 : pe = 0;rotate_left
 ·have g0 : (pe == 0) = false := zb e0;have g0n : (pe != 0) = true := by rw [bne, g0]; rfl
  obtain rfl : RE = pe:=by rw [hRE.out];unfold Qd.audE;rw [← hpe.out];exact if_pos e0
  clear hRE hpe e0;go_wp2;go_ret;exact ⟨rfl,E⟩
 subst e0;by_cases hd : days < 0 ∨ 400 < days
 ·obtain rfl : RE = 8 := by rw [hRE.out]; unfold Qd.audE; rw [← hpe.out, if_neg (by simp), if_pos hd]
  clear hRE hpe;by_cases h1 : days < 0
  ·have g1 : decide (days < 0) = true:=zt h1;clear hd;go_wp2;go_ret;exact ⟨rfl,E⟩
  ·have g1 : decide (days < 0) = false:=zf h1;have g2 : decide (400 < days) = true:=zt Qa;clear hd h1;go_wp2;go_ret;exact ⟨rfl,E⟩
 obtain rfl : RE = 0:=by rw [hRE.out];unfold Qd.audE;rw [← hpe.out,if_neg (by simp),if_neg hd]
 have g1 : decide (days < 0) = false:=zf Qa;have g2 : decide (400 < days) = false:=zf Qa;clear hd hRE hpe;go_wp2;go_ret;exact ⟨rfl,E⟩
def Xd (x : Z7) : List Value:=[.int .i64 (x.1 : Nat),.int .i64 (x.2.1 : Nat),.int .i64 (x.2.2 : Nat)]
theorem Qai : (Tryz.prog.info? 47).map (fun i => (i.zero,i.size,i.bytes)) = some (some (.agg #[.int .i64 0,.int .i64 0,.int .i64 0]),3,24):=by kernel_rfl
theorem L9 (a b c : Int) : ∀ u ∈ [Value.int .i64 a,.int .i64 b,.int .i64 c],u.oneCell' = true:=by simp [Value.oneCell']
def Jj (W0 W : World) (v : Value) (L : List Z7) : Prop:=W.ownsRow W0.heap.size 47 3 v L.length (L.flatMap Xd)
theorem Jj.ext {W0 W W' : World} {v : Value} {L : List Z7} (h : Jj W0 W v L) (x : Qc W W') : Jj W0 W' v L:=J0 h x
theorem Jj.nil (W : World) : Jj W W (.slice none 0 0) []:=⟨rfl,.inl ⟨rfl,rfl⟩⟩
theorem Jj.snoc {W0 W : World} {v : Value} {L : List Z7} {x : Z7} (h : W.ownsRow W0.heap.size 47 3 v (L.length + 1) (L.flatMap Xd ++ Xd x)) : Jj W0 W v (L ++ [x]):=by
 unfold Jj;rw [List.length_append,List.flatMap_append,List.flatMap_singleton];exact h
theorem Oo (c : Qd) (l : List Pd) (m : List (Rf × Rf)) (i : Nat) : ∀ n,(c.isD l m i n).length ≤ n
 | 0 => Nat.le_refl _
 | n + 1 => by
  have:=Oo c l m i n;unfold Qd.isD;rw [List.length_append]
  split <;> simp <;> omega
theorem Pt (c : Qd) (l : List Pd) (i : Nat) : (c.isA l i).length ≤ 3:=by
 unfold Qd.isA
 split <;> split <;> split <;> simp
theorem Gs {c : Qd} {l : List Pd} {m : List (Rf × Rf)} (h : ∀ i,i < l.length → (l.getD i Qp).d.length ≤ 64) : ∀ n,n ≤ l.length → (c.audN l m n).length ≤ 67 * n
 | 0,_ => Nat.le_refl _
 | n + 1,hn => by
  have h1:=Gs (c:=c) (m:=m) h n Qa;have h2:=Oo c l m n (Qz l n).d.length;have h3:=Pt c l n;have h4 : (Qz l n).d.length ≤ 64:=h n Qa;unfold Qd.audN Qd.isP;rw [List.length_append,List.length_append];omega
set_option maxHeartbeats 20000000 in
theorem Qfo (A A' : OA) (ca cb : Nat) (c : Qd) (l : List Pd) (vl : Value) (days : Int) (w : World) (hC : Za w A ca A' cb c) (hP : J9 w vl l) :
  Calls Tryz.prog 15 #[.agg #[.slice A c.nk ca,.slice A' c.ny cb],vl,.int .i64 days] w fun e w' => ∃ v,e = .returned (.tuple #[v,.int .i64 (c.auditV l days).2]) ∧ Qc w w' ∧ w'.ownsRow w.heap.size 47 3 v (c.auditV l days).1.length ((c.auditV l days).1.flatMap Xd):=by
 have NA:=fun w h1 h2 => Qfk A A' ca cb c l vl days w h1 h2
 obtain ⟨i0,hi0,hz0,hz1,hz2⟩:=info_parts Qai;obtain ⟨RE,hRE⟩:=Qe (c.audE l days);simp only [← hRE] at NA;replace hRE:=zh hRE
 go_enter Tryz.func15,Tryz.ntmps15
 go_upto_region 1 with fail
 obtain ⟨v,b1,E,B1,hbr,hv,hb1⟩:=J4 w 25 #[.slice A c.nk ca,.slice A' c.ny cb];rw [← hv,← hb1];clear hv hb1;have C:=hC.ext E;obtain ⟨k0,k1,kl⟩:=Qb.d2 B1;by_cases e0 : RE = 0;rotate_left
 ·have g0 : (RE == 0) = false := zb e0;have g0n : (RE != 0) = true := by rw [bne, g0]; rfl
  have hm : c.auditV l days = ([],RE):=by unfold Qd.auditV;rw [← hRE.out,if_pos e0]
  clear hRE;go_wp2_with (go_at_call 36;refine zc (NA _ C (hP.ext E)) ?_;rintro e w1 ⟨rfl,x1⟩);go_ret2;rw [hm];exact ⟨_,rfl,E.trans x1,rfl,.inl ⟨rfl,rfl⟩⟩
 have hok:=hRE.out;rw [e0] at hok;obtain ⟨⟨hv,hp⟩,_⟩:=Gr hok.symm;have hl32:=Gp (Gu hok.symm);have hl64 : ∀ i,i < l.length → (l.getD i Qp).d.length ≤ 64:=fun i hi => (hp _ (J6 (z:=Qp) hi)).m
 have hlo : ∀ i,i < l.length → (l.getD i Qp).o.length * 24 ≤ 140737488351232:=fun i hi => by have:=Hc (hp _ (J6 (z:=Qp) hi)).o;omega
 have hpos : ∀ i,i < l.length → 0 < c.numV (l.getD i Qp).a:=fun i hi => (hp _ (J6 (z:=Qp) hi)).a0
 subst e0;have hm : c.auditV l days = (c.audL l (c.matchL l days),0):=by unfold Qd.auditV;rw [← hok,if_neg (by simp)]
 have hmr:=Qkk (days:=days) hp;have hml:=Qbn hok.symm;clear hRE hok;replace hp:=zh hp;obtain ⟨DL,cL,vo,vd,vc,e1,hD,_,_,_,hat⟩:=id hP;subst e1;go_upto_region 4 with (go_at_call 36;refine zc (NA _ C (hP.ext E)) ?_;rintro e w1 ⟨rfl,x1⟩;obtain ⟨k0,k1⟩:=Qb.c2 (B1.ext x1);have kl:=Qb.lt (B1.ext x1))
 go_upto_region 5 with fail
 obtain ⟨w2,hw2⟩:=Qe (w1.alloc (.cells #[.slice A c.nk ca,.slice A' c.ny cb,.slice DL l.length cL,.int .i64 days] 103));rw [← hw2];have x2 : Qc w1 w2:=by rw [hw2];exact (Qc.refl _).alloc _
 have HB : Qb w2 w1.heap.size 103 #[.slice A c.nk ca,.slice A' c.ny cb,.slice DL l.length cL,.int .i64 days]:=by rw [hw2];exact Qb.new _ _ _
 generalize w1.heap.size = ba at *;clear hw2 k0 k1 kl;have X:=E.trans (x1.trans x2);have hA : U9 w2 ba A A' ca cb c (.slice DL l.length cL) l days:=⟨HB,hC.ext X,hP.ext X⟩;have NM:=Qkm A A' ca cb c l (.slice DL l.length cL) ba days w2 hA hv hl32 hl64;simp only [hmr] at NM;clear hmr HB;go_upto_region 6 with (go_at_call 37;(with_reducible refine Calls.mono NM ?_);rintro e w3 ⟨v3,rfl,x3,hO⟩)
 rw [Qbo,show (c.matchI l days).length = (c.matchL l days).length from (List.length_map ..).symm] at hO;obtain ⟨FM0,cM,e1,RM⟩:=Dx hO;subst e1;obtain ⟨m,hme⟩:=Qe (c.matchL l days);rw [← hme] at hm hml RM ⊢;replace hm:=zh hm;clear hO NM hme NA;have hA3:=hA.ext x3;have X3:=X.trans x3;have hD3:=hD.ext X3;have hat3:=zh fun i hi => (hat i hi).ext X3
 clear hA x3 hD hat C B1;have NBef:=fun i w h => Qfz A A' ca cb c l (.slice DL l.length cL) ba days i w h hv
 have NOvl:=fun i w h hi => Qlz A A' ca cb c l (.slice DL l.length cL) ba days i w h hv hi hpos
 have NKep:=fun hw on w h => Qjx A A' ca cb c l (.slice DL l.length cL) ba days hw on w h hv hpos
 replace NBef:=zh NBef;replace NOvl:=zh NOvl;replace NKep:=zh NKep;replace hlo:=zh hlo;replace hl64:=zh hl64;clear hpos;go_upto_region 8 with fail
 go_loopw [11,12] (fun ov iv wr => ∃ i : Nat,i ≤ l.length ∧ iv = .int .i64 i ∧ Qc w3 wr ∧ Jj w3 wr ov (c.audN l m i)) (fun _ iv _ => l.length - (intOf iv).toNat)
 case atStart => exact ⟨0,Nat.zero_le _,rfl,Qc.refl _,Jj.nil _⟩
 case round =>
  obtain ⟨i,hi,rfl,E,O⟩:=hrel;obtain ⟨wo,rfl⟩:=Qe wr;by_cases hlt : i < l.length;rotate_left
  ·obtain rfl : i = l.length:=Qa;go_wp2;go_ret2;rw [hm.out];exact ⟨_,rfl,X3.trans E,Dh O X3.size⟩
  have hlen:=Gs (c:=c) (m:=m) hl64.out i hi;have hsn : Hid (c.audN l m (i + 1) = c.audN l m i ++ c.isP l m i):=zh rfl;obtain ⟨Qt,hpre⟩:=Qe (c.audN l m i);rw [← hpre] at O hlen hsn;clear hpre;have hd64:=hl64.out i hlt;have hoi:=hlo.out i hlt;obtain ⟨bp,off,rfl,hbp0,hc0⟩:=hD3 Qa;obtain ⟨t2,s2,ws,e20,hT,hs2,hms2,_,hatT⟩:=id (hat3.out i hlt).d
  have k10 : w3.cell? ⟨bp,off + i * 12 + 10,none⟩ = some (.slice t2 (l.getD i Qp).d.length s2):=by
   have:=hc0 i 10 (vd i) hlt rfl;rw [e20] at this;exact this
  clear hc0;obtain ⟨bp',off',e',hbp,hc⟩:=(hD3.ext E) Qa;obtain ⟨rfl,rfl⟩ : bp = bp' ∧ off = off':=by simpa using e'
  clear e';have PA:=(hat3.out i hlt).ext E;obtain ⟨t1,s1,e1,_⟩:=id PA.o;obtain ⟨t3,s3,e3,_⟩:=id PA.c;have e2:=e20;obtain ⟨p,hp'⟩:=Qe (l.getD i Qp);rw [← hp'] at PA hT hatT e1 e2 e3 k10;have c0 : wo.cell? ⟨bp,off + i * 12,none⟩ = some (.string p.h):=by rw [hp'];simpa [Qi] using hc i 0 _ hlt rfl
  have c1 : wo.cell? ⟨bp,off + i * 12 + 1,none⟩ = some (.int .i64 p.a.y):=by rw [hp'];simpa [Qi] using hc i 1 _ hlt rfl
  have c2 : wo.cell? ⟨bp,off + i * 12 + 2,none⟩ = some (.int .i64 p.a.m):=by rw [hp'];simpa [Qi] using hc i 2 _ hlt rfl
  have c3 : wo.cell? ⟨bp,off + i * 12 + 3,none⟩ = some (.bool p.a.s):=by rw [hp'];simpa [Qi] using hc i 3 _ hlt rfl
  have c4 : wo.cell? ⟨bp,off + i * 12 + 4,none⟩ = some (.int .i64 p.a.d):=by rw [hp'];simpa [Qi] using hc i 4 _ hlt rfl
  have c5 : wo.cell? ⟨bp,off + i * 12 + 5,none⟩ = some (.int .i64 p.b.y):=by rw [hp'];simpa [Qi] using hc i 5 _ hlt rfl
  have c6 : wo.cell? ⟨bp,off + i * 12 + 6,none⟩ = some (.int .i64 p.b.m):=by rw [hp'];simpa [Qi] using hc i 6 _ hlt rfl
  have c7 : wo.cell? ⟨bp,off + i * 12 + 7,none⟩ = some (.bool p.b.s):=by rw [hp'];simpa [Qi] using hc i 7 _ hlt rfl
  have c8 : wo.cell? ⟨bp,off + i * 12 + 8,none⟩ = some (.int .i64 p.b.d):=by rw [hp'];simpa [Qi] using hc i 8 _ hlt rfl
  obtain ⟨zq0,zq1,zq2,zq3,zq4,zq5,zq6,zq7,zq8,c9,c10,c11⟩:=L4 hc hlt;clear zq0 zq1 zq2 zq3 zq4 zq5 zq6 zq7 zq8;clear hc;rw [e1] at c9;rw [e2] at c10;rw [e3] at c11;rw [e1,e2,e3] at PA;replace hatT:=zh hatT;have eo1:=e1;clear e1 e2 e3 e20 hs2 hms2
  have hisP : Hid (c.isP l m i = (if Lz p = true then [(1,i,0)] else []) ++ (if c.opB l i = true then [(2,i,0)] else []) ++ (if c.ovB l i = true then [(3,i,0)] else []) ++ c.isD l m i p.d.length):=by
   rw [hp'];exact zh rfl
  have hopB : Hid (c.opB l i = (decide (0 ≤ c.befV l i) && !decide ((l.getD (c.befV l i).toNat Qp).c = p.o))):=by
   rw [hp'];exact zh rfl
  have hdB : Hid (∀ k,c.dealB l m i k = (c.keptB l (p.d.getD k Zd).w (p.d.getD k Zd).on && !Wh m (i,k))):=zh fun k => by
   rw [hp'];rfl
  have hsB : Hid (Lz p = !(decide ((Zw p.o p.d).2 = 0) && decide ((Zw p.o p.d).1 = p.c))):=zh rfl;have hbl:=Sh c l i l.length;rw [Sg] at hbl;rw [← hp'] at hd64 hoi;replace hp':=zh hp';have NB:=fun w h => Qfv p (.slice t1 p.o.length s1) (.slice t2 p.d.length s2) (.slice t3 p.c.length s3) w h hoi
  obtain ⟨SS,hSS⟩:=Qe ((Zw p.o p.d).1);obtain ⟨se,hse⟩:=Qe ((Zw p.o p.d).2);rw [← hSS,← hse] at hsB;simp only [← hSS,← hse] at NB;clear hSS hse;go_upto_region 11 with (go_at_call 52;refine zc (NB _ PA) ?_;rintro e w4 ⟨vr,rfl,x4,SR⟩;obtain ⟨FR,mR,rfl⟩:=Jn SR)
  clear NB;have E4:=E.trans x4;have O4:=O.ext x4;have PA4:=PA.ext x4;have SL : Zl w4 (.slice FR SS.length mR) SS:=Uy SR;have CL4:=PA4.c;have d11:=(x4.cell (p:=⟨bp,off + i * 12 + 11,none⟩) hbp).trans c11;have hbp2:=Nat.lt_of_lt_of_le hbp x4.size;clear c0 c1 c2 c3 c4 c5 c6 c7 c8 c9 c10 c11;obtain ⟨sB,hsBe⟩:=Qe (Lz p);rw [← hsBe] at hsB hisP;clear hsBe PA O E;have NS:=fun w h1 h2 => Bc (.slice FR SS.length mR) (.slice t3 p.c.length s3) SS p.c w h1 h2
  go_cut [57] from 32 to 132 (fun b wx => b = .bool sB ∧ Qc w4 wx)
  case first =>
   by_cases e0 : se = 0;rotate_left
   ·have g0 : (se == 0) = false := zb e0;have g0n : (se != 0) = true := by rw [bne, g0]; rfl
    obtain rfl : sB = true:=by rw [hsB.out,zf e0];rfl
    clear e0;go_wp2
    go_meet
    exact ⟨rfl,Qc.refl _⟩
   subst e0;by_cases e1 : SS = p.c
   ·obtain rfl : sB = false := by rw [hsB.out, zt e1]; rfl
    rw [zt e1] at NS;clear e1;go_wp2_with (go_at_call 53;refine zc (NS _ SL CL4) ?_;rintro e w5 ⟨rfl,x5⟩)
    go_meet
    exact ⟨rfl,x5⟩
   ·obtain rfl : sB = true := by rw [hsB.out, zf e1]; rfl
    rw [zf e1] at NS;clear e1;go_wp2_with (go_at_call 53;refine zc (NS _ SL CL4) ?_;rintro e w5 ⟨rfl,x5⟩)
    go_meet
    exact ⟨rfl,x5⟩
  case rest =>
  obtain ⟨rfl,x5⟩:=hcut;have E:=E4.trans x5;have O:=O4.ext x5;clear NS SR SL CL4 hsB d11 hbp2 E4 O4 x4
  go_upto_if 57 with fail
  go_cut [11] from 32 to 132 (fun ov wx => Qc w3 wx ∧ Jj w3 wx ov (Qt ++ (if sB = true then [(1,i,0)] else [])))
  case first =>
   cases sB
   ·go_wp2
    go_meet
    exact ⟨E,by simpa using O⟩
   ·skip
    have O8 : Jj w3 (wc.alloc (.cells #[.int .i64 1,.int .i64 i,.int .i64 0] 47)) _ _:=O.ext ((Qc.refl wc).alloc _);have E8 : Qc w3 (wc.alloc (.cells #[.int .i64 1,.int .i64 i,.int .i64 0] 47)):=E.alloc _;go_wp2_with (at_builtin;refine wpList_append_own_at _ rfl _ _ 43 rfl w3.heap.size 47 i0 (.agg #[.int .i64 0,.int .i64 0,.int .i64 0]) 3 24 Tryz.underlying43 hi0 hz0 hz1 hz2 rfl zD _ _ _ rfl O8 ⟨wc.heap.size,0,none⟩ 1 1 [.int .i64 1,.int .i64 i,.int .i64 0] rfl rfl (Wf (Qb.new _ _ _)) (L9 _ _ _) (by unfold maxLen;omega) Qa E8.size ?_;intro vn wn hown hgrow _ _);have E9:=E8.grown hgrow (fun q hq => (Xe O8 q hq).1);have O9 : Jj w3 wn vn (Qt ++ [(1,i,0)]):=Jj.snoc hown
    go_meet
    exact ⟨E9,O9⟩
  case rest =>
  clear E O;obtain ⟨E,O⟩:=hcut;obtain ⟨w6,rfl⟩:=Qe wc;have hl1 : (Qt ++ (if sB = true then [((1 : Nat),i,(0 : Nat))] else [])).length ≤ Qt.length + 1:=by rw [List.length_append];split <;> simp
  replace hsn : Hid (c.audN l m (i + 1) = (Qt ++ (if sB = true then [(1,i,0)] else [])) ++ ((if c.opB l i = true then [(2,i,0)] else []) ++ (if c.ovB l i = true then [(3,i,0)] else []) ++ c.isD l m i p.d.length)):=zh (by rw [hsn.out,hisP.out];simp only [List.append_assoc]);clear hisP;generalize Qt ++ (if sB = true then [((1 : Nat),i,(0 : Nat))] else []) = p1 at *;clear sB x5;obtain ⟨bv,hbv⟩:=Qe (c.befV l i);have NB1:=NBef.out i w6 (hA3.ext E) hlt;rw [← hbv] at NB1 hopB hbl;obtain ⟨hbl1,hbl2⟩:=hbl;clear hbv;go_upto_region 14 with (go_at_call 54;(with_reducible refine Calls.mono NB1 ?_);rintro e w7 ⟨rfl,x7⟩)
  clear NB1;replace E:=E.trans x7;replace O:=O.ext x7;clear x7;have PA7:=(hat3.out i hlt).ext E;rw [← hp'.out] at PA7;obtain ⟨bp',off',e',hbp3,hc⟩:=(hD3.ext E) Qa;obtain ⟨rfl,rfl⟩ : bp = bp' ∧ off = off':=by simpa using e'
  clear e'
  have c9' : w7.cell? ⟨bp,off + i * 12 + 9,none⟩ = some (.slice t1 p.o.length s1):=by
   have:=hc i 9 (vo i) hlt (by simp [Qi]);rw [eo1] at this;exact this
  obtain ⟨oB,hoB⟩:=Qe (c.opB l i);rw [← hoB] at hopB hsn;clear hoB
  go_cut [81] from 32 to 132 (fun b wx => b = .bool oB ∧ Qc w7 wx)
  case first =>
   by_cases q0 : 0 ≤ bv;rotate_left
   ·have f0 : decide (0 ≤ bv) = false := zf q0;obtain rfl : oB = false := by rw [hopB.out, f0]; rfl
    clear q0 hopB hc;refine Qy w7 ?_;intro wx hx;obtain ⟨hcbwx,hfbwx,hzbwx,hzwx⟩:=Qv w7 hx;go_wp2
    go_meet
    exact ⟨rfl,hx⟩
   obtain ⟨q,rfl⟩ : ∃ q : Nat,bv = q:=⟨bv.toNat,Qa⟩;have hq : q < l.length:=Qa;have PQ:=(hat3.out q hq).ext E;obtain ⟨pq,hpq⟩:=Qe (l.getD q Qp);rw [show ((q : Int)).toNat = q by omega,← hpq] at hopB;rw [← hpq] at PQ;have d11:=hc q 11 (vc q) hq (by simp [Qi]);have LQ:=PQ.c;obtain ⟨t5,s5,e5,_⟩:=id LQ;rw [e5] at d11 LQ;have LO:=PA7.o;rw [eo1] at LO;clear hpq hc e5 PQ;have NS:=fun w h1 h2 => Bc (.slice t5 pq.c.length s5) (.slice t1 p.o.length s1) pq.c p.o w h1 h2
   have f0 : decide (0 ≤ (q : Int)) = true:=zt q0;rw [f0,Bool.true_and] at hopB;clear q0;by_cases g1 : pq.c = p.o
   ·obtain rfl : oB = false := by rw [hopB.out, zt g1]; rfl
    rw [zt g1] at NS;clear g1 hopB;have n1:=fun u : XW _ => NS _ (LQ.ext u.e) (LO.ext u.e)
    refine Qy w7 ?_;intro wx hx;clear n1;obtain ⟨hcbwx,hfbwx,hzbwx,hzwx⟩:=Qv w7 hx;go_wp2
    go_meet
    exact ⟨rfl,hx⟩
   ·obtain rfl : oB = true := by rw [hopB.out, zf g1]; rfl
    rw [zf g1] at NS;clear g1 hopB;have n1:=fun u : XW _ => NS _ (LQ.ext u.e) (LO.ext u.e)
    refine Qy w7 ?_;intro wx hx;clear n1;obtain ⟨hcbwx,hfbwx,hzbwx,hzwx⟩:=Qv w7 hx;go_wp2
    go_meet
    exact ⟨rfl,hx⟩
  case rest =>
  obtain ⟨rfl,x8⟩:=hcut;obtain ⟨w8,rfl⟩:=Qe wc;replace E:=E.trans x8;replace O:=O.ext x8;clear x8 hopB c9' hc hbp3 PA7 hbl1 hbl2
  go_upto_if 81 with fail
  go_cut [11] from 32 to 132 (fun ov wx => Qc w3 wx ∧ Jj w3 wx ov (p1 ++ (if oB = true then [(2,i,0)] else [])))
  case first =>
   cases oB
   ·go_wp2
    go_meet
    exact ⟨E,by simpa using O⟩
   ·skip
    have O8 : Jj w3 (w8.alloc (.cells #[.int .i64 2,.int .i64 i,.int .i64 0] 47)) _ _:=O.ext ((Qc.refl w8).alloc _);have E8 : Qc w3 (w8.alloc (.cells #[.int .i64 2,.int .i64 i,.int .i64 0] 47)):=E.alloc _;go_wp2_with (at_builtin;refine wpList_append_own_at _ rfl _ _ 43 rfl w3.heap.size 47 i0 (.agg #[.int .i64 0,.int .i64 0,.int .i64 0]) 3 24 Tryz.underlying43 hi0 hz0 hz1 hz2 rfl zD _ _ _ rfl O8 ⟨w8.heap.size,0,none⟩ 1 1 [.int .i64 2,.int .i64 i,.int .i64 0] rfl rfl (Wf (Qb.new _ _ _)) (L9 _ _ _) (by unfold maxLen;omega) Qa E8.size ?_;intro vn wn hown hgrow _ _);have E9:=E8.grown hgrow (fun q hq => (Xe O8 q hq).1);have O9 : Jj w3 wn vn (p1 ++ [(2,i,0)]):=Jj.snoc hown
    go_meet
    exact ⟨E9,O9⟩
  case rest =>
  clear E O;obtain ⟨E,O⟩:=hcut;obtain ⟨w9,rfl⟩:=Qe wc;have hl2 : (p1 ++ (if oB = true then [((2 : Nat),i,(0 : Nat))] else [])).length ≤ p1.length + 1:=by rw [List.length_append];split <;> simp
  replace hsn : Hid (c.audN l m (i + 1) = (p1 ++ (if oB = true then [(2,i,0)] else [])) ++ ((if c.ovB l i = true then [(3,i,0)] else []) ++ c.isD l m i p.d.length)):=zh (by rw [hsn.out];simp only [List.append_assoc]);generalize p1 ++ (if oB = true then [((2 : Nat),i,(0 : Nat))] else []) = p2 at *;clear oB;have NO1:=NOvl.out i w9 (hA3.ext E) hlt;obtain ⟨vB,hvB⟩:=Qe (c.ovB l i);rw [← hvB] at NO1 hsn;clear hvB
  go_upto_if 89 with (go_at_call 55;(with_reducible refine Calls.mono NO1 ?_);rintro e w10 ⟨rfl,x10⟩)
  clear NO1;replace E:=E.trans x10;replace O:=O.ext x10;clear x10
  go_cut [11] from 32 to 132 (fun ov wx => Qc w3 wx ∧ Jj w3 wx ov (p2 ++ (if vB = true then [(3,i,0)] else [])))
  case first =>
   cases vB
   ·go_wp2
    go_meet
    exact ⟨E,by simpa using O⟩
   ·skip
    have O8 : Jj w3 (w10.alloc (.cells #[.int .i64 3,.int .i64 i,.int .i64 0] 47)) _ _:=O.ext ((Qc.refl w10).alloc _);have E8 : Qc w3 (w10.alloc (.cells #[.int .i64 3,.int .i64 i,.int .i64 0] 47)):=E.alloc _;go_wp2_with (at_builtin;refine wpList_append_own_at _ rfl _ _ 43 rfl w3.heap.size 47 i0 (.agg #[.int .i64 0,.int .i64 0,.int .i64 0]) 3 24 Tryz.underlying43 hi0 hz0 hz1 hz2 rfl zD _ _ _ rfl O8 ⟨w10.heap.size,0,none⟩ 1 1 [.int .i64 3,.int .i64 i,.int .i64 0] rfl rfl (Wf (Qb.new _ _ _)) (L9 _ _ _) (by unfold maxLen;omega) Qa E8.size ?_;intro vn wn hown hgrow _ _);have E9:=E8.grown hgrow (fun q hq => (Xe O8 q hq).1);have O9 : Jj w3 wn vn (p2 ++ [(3,i,0)]):=Jj.snoc hown
    go_meet
    exact ⟨E9,O9⟩
  case rest =>
  clear E O;obtain ⟨E,O⟩:=hcut;obtain ⟨w11,rfl⟩:=Qe wc;have hl3 : (p2 ++ (if vB = true then [((3 : Nat),i,(0 : Nat))] else [])).length ≤ p2.length + 1:=by rw [List.length_append];split <;> simp
  replace hsn : Hid (c.audN l m (i + 1) = (p2 ++ (if vB = true then [(3,i,0)] else [])) ++ c.isD l m i p.d.length):=zh (by rw [hsn.out];simp only [List.append_assoc]);generalize p2 ++ (if vB = true then [((3 : Nat),i,(0 : Nat))] else []) = p3 at *;clear vB;obtain ⟨nd,hnd⟩:=Qe (p.d.length);rw [← hnd] at hT hsn hd64;replace hnd:=zh hnd;have hTw:=hT;have k10w:=k10;rw [← hnd.out] at k10w;go_upto_region 19 with fail
  go_loopw [11,16] (fun ov kv wr => ∃ k : Nat,k ≤ nd ∧ kv = .int .i64 k ∧ Qc w3 wr ∧ Jj w3 wr ov (p3 ++ c.isD l m i k)) (fun _ kv _ => nd - (intOf kv).toNat)
  case atStart => exact ⟨0,Nat.zero_le _,rfl,E,by simpa [Qd.isD] using O⟩
  case round =>
   clear E O;obtain ⟨k,hk,rfl,E,O⟩:=hrel;obtain ⟨wk,rfl⟩:=Qe wr;have c10:=(E.cell (p:=⟨bp,off + i * 12 + 10,none⟩) hbp0).trans k10w;have pl:=Nat.lt_of_lt_of_le hbp0 E.size;by_cases hlk : k < nd;rotate_left
   ·obtain rfl : k = nd:=Qa;rw [← hsn.out] at O;clear hsn hdB;go_wp2;exact ⟨⟨i + 1,Qa,by go_num,E,O⟩,zi⟩
   obtain ⟨b',off',rfl,hb',hc'⟩:=(hTw.ext E) Qa;obtain ⟨F7,m7,e7,_⟩:=id (hatT.out k (by rw [← hnd.out];exact hlk));obtain ⟨G,hG⟩:=Qe (p.d.getD k Zd);have d0 : wk.cell? ⟨b',off' + k * 7,none⟩ = some (.int .i64 G.on.y):=by rw [hG];simpa [Zm] using hc' k 0 _ hlk rfl
   have d1 : wk.cell? ⟨b',off' + k * 7 + 1,none⟩ = some (.int .i64 G.on.m):=by rw [hG];simpa [Zm] using hc' k 1 _ hlk rfl
   have d2 : wk.cell? ⟨b',off' + k * 7 + 2,none⟩ = some (.bool G.on.s):=by rw [hG];simpa [Zm] using hc' k 2 _ hlk rfl
   have d3 : wk.cell? ⟨b',off' + k * 7 + 3,none⟩ = some (.int .i64 G.on.d):=by rw [hG];simpa [Zm] using hc' k 3 _ hlk rfl
   have d4 : wk.cell? ⟨b',off' + k * 7 + 4,none⟩ = some (.bool G.i):=by rw [hG];simpa [Zm] using hc' k 4 _ hlk rfl
   have d5 : wk.cell? ⟨b',off' + k * 7 + 5,none⟩ = some (.string G.w):=by rw [hG];simpa [Zm] using hc' k 5 _ hlk rfl
   have d6 : wk.cell? ⟨b',off' + k * 7 + 6,none⟩ = some (.slice F7 (p.d.getD k Zd).l.length m7):=by
    have:=hc' k 6 (ws k) hlk rfl;rw [e7] at this;exact this
   clear hc' e7;have hdk:=hdB.out k;rw [← hG] at d6 hdk;clear hG;go_upto_region 22 with fail
   obtain ⟨wp,hwp⟩:=Qe (wk.alloc (.cells #[.int .i64 G.on.y,.int .i64 G.on.m,.bool G.on.s,.int .i64 G.on.d,.bool G.i,.string G.w,.slice F7 G.l.length m7] 57));rw [← hwp];have x1 : Qc wk wp:=by rw [hwp];exact (Qc.refl _).alloc _
   have BX : Qb wp wk.heap.size 57 #[.int .i64 G.on.y,.int .i64 G.on.m,.bool G.on.s,.int .i64 G.on.d,.bool G.i,.string G.w,.slice F7 G.l.length m7]:=by rw [hwp];exact Qb.new _ _ _
   generalize wk.heap.size = bx at *;replace E:=E.trans x1;replace O:=O.ext x1;clear hwp x1 c10 pl d0 d1 d2 d3 d4 d5 d6 hb';obtain ⟨q0,q1,q2,q3,q4,q5,q6,ql⟩:=Qb.d7 BX;have NK:=NKep.out G.w G.on wp (hA3.ext E);have NP:=fun v h => Ql6 m FM0 cM (i,k) v h Qa
   simp only at NP
   have hil:=Oo c l m i k;obtain ⟨kB,hkB⟩:=Qe (c.keptB l G.w G.on);obtain ⟨pB,hpB⟩:=Qe (Wh m (i,k));rw [← hkB,← hpB] at hdk;rw [← hkB] at NK;simp only [← hpB] at NP;clear hkB hpB;replace hdk:=zh hdk;have hst : Hid (c.isD l m i (k + 1) = c.isD l m i k ++ (if c.dealB l m i k = true then [(4,i,k)] else [])):=zh rfl;cases kB
   ·have e : c.isD l m i (k + 1) = c.isD l m i k := by rw [hst.out, hdk.out]; exact List.append_nil _
    rw [← e] at O;clear hst hdk e hdB hsn;go_wp2_with (go_at_call 56;(with_reducible refine Calls.mono NK ?_);rintro e w5 ⟨rfl,x5⟩);exact ⟨⟨k + 1,Qa,by go_num,E.trans x5,O.ext x5⟩,zi⟩
   cases pB
   rotate_left
   ·have e : c.isD l m i (k + 1) = c.isD l m i k := by rw [hst.out, hdk.out]; exact List.append_nil _
    rw [← e] at O;clear hst hdk e hdB hsn;go_wp2_with (first | (go_at_call 56;(with_reducible refine Calls.mono NK ?_);rintro e w5 ⟨rfl,x5⟩) | (go_at_call 57;refine zc (NP _ (RM.ext (E.trans x5))) ?_;rintro e w6 ⟨rfl,x6⟩));exact ⟨⟨k + 1,Qa,by go_num,(E.trans x5).trans x6,(O.ext x5).ext x6⟩,zi⟩
   have e : c.isD l m i (k + 1) = c.isD l m i k ++ [(4,i,k)]:=by rw [hst.out,hdk.out];rfl
   replace e:=zh e;clear hst hdk hsn;have hpl : (p3 ++ c.isD l m i k).length ≤ 5000:=by rw [List.length_append];omega
   obtain ⟨p4,hp4⟩:=Qe (p3 ++ c.isD l m i k);rw [← hp4] at O hpl;have e4 : Hid (p3 ++ c.isD l m i (k + 1) = p4 ++ [(4,i,k)]):=zh (by rw [e.out,hp4,List.append_assoc]);clear e hp4 hdB hil;go_upto_region 23 with (first | (go_at_call 56;(with_reducible refine Calls.mono NK ?_);rintro e w5 ⟨rfl,x5⟩) | (go_at_call 57;refine zc (NP _ (RM.ext (E.trans x5))) ?_;rintro e w6 ⟨rfl,x6⟩))
   replace E:=(E.trans x5).trans x6;replace O:=(O.ext x5).ext x6;clear x5 x6 NK NP;have O8 : Jj w3 (w6.alloc (.cells #[.int .i64 4,.int .i64 i,.int .i64 k] 47)) _ _:=O.ext ((Qc.refl w6).alloc _);have E8 : Qc w3 (w6.alloc (.cells #[.int .i64 4,.int .i64 i,.int .i64 k] 47)):=E.alloc _;go_wp2_with (at_builtin;refine wpList_append_own_at _ rfl _ _ 43 rfl w3.heap.size 47 i0 (.agg #[.int .i64 0,.int .i64 0,.int .i64 0]) 3 24 Tryz.underlying43 hi0 hz0 hz1 hz2 rfl zD _ _ _ rfl O8 ⟨w6.heap.size,0,none⟩ 1 1 [.int .i64 4,.int .i64 i,.int .i64 k] rfl rfl (Wf (Qb.new _ _ _)) (L9 _ _ _) (by unfold maxLen;omega) Qa E8.size ?_;intro vn wn hown hgrow _ _);have E9:=E8.grown hgrow (fun q hq => (Xe O8 q hq).1)
   have O9 : Jj w3 wn vn (p4 ++ [(4,i,k)]):=Jj.snoc hown;rw [← e4.out] at O9;exact ⟨⟨k + 1,Qa,by go_num,E9,O9⟩,zi⟩
end
end Go.Proofs.YtoflcheopfppoaaGreatDoor
