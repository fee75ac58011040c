/- The walk of LedgerArchiveMatches. -/
import Derived.Test.YtoflcheopfppoaaGreatDoorCLMl
import Derived.Test.YtoflcheopfppoaaGreatDoorL16
import Derived.Test.YtoflcheopfppoaaGreatDoorL12
set_option maxRecDepth 100000
set_option maxHeartbeats 4000000
namespace Go.Proofs.YtoflcheopfppoaaGreatDoor
open Go Go.RowKit Go.Shelf
attribute [local go_sem] Z5
attribute [local go_sem high] Qgg
theorem ledgerArchiveMatches_walk (A A' : Option Addr) (ca cb : Nat) (c : Qf) (v : Value) (l : List Pd) (days : Int) (w : World) (hC : Q8 w A ca A' cb c) (hP : Yf w v l) (hL : ∀ i,i < l.length → (l.getD i Qx).Light) (hsd : l.length * 152 ≤ 140737488351232) (hZ : Z6 w) :
  Calls Tryz.prog 3 #[.agg #[.slice A c.nk ca,.slice A' c.ny cb],v,.int .i64 days] w fun e w' => e = .returned (.bool true) ∧ Qb w w':=by
 obtain ⟨D,cap,_,_,_,e0,_⟩:=id hP;subst e0;have NCA:=fun v h => Qcr (.slice D l.length cap) l v h hL hsd
 have N1:=fun x v h1 h2 => Qfn A A' ca cb c l x days v h1 h2
 have N2:=fun v h1 h2 => matchingRf_any A A' ca cb c l (.slice D l.length cap) days v h1 h2
 have N5:=fun x y v h1 h2 => Qh1 x y l v h1 h2
 have hlen:=Qfj c l days;generalize c.matchV l days = V at *;obtain ⟨L1,se⟩:=V
 simp only at N1 N2 hlen
 go_enter Tryz.func3,Tryz.ntmps3
 go_upto_region 1 with (fail)
 obtain ⟨v,hv⟩:=Qg (w.alloc (.cells #[.slice A c.nk ca,.slice A' c.ny cb] 25));rw [← hv];have E : Qb w v:=by rw [hv];exact (Qb.refl _).alloc _
 have B1 : Qa v w.heap.size 25 #[.slice A c.nk ca,.slice A' c.ny cb]:=by rw [hv];exact (Qa.new _ _ _)
 clear hv;obtain ⟨b1,hb1⟩:=Qg (w.heap.size);rw [← hb1] at B1 ⊢;have hbr : w.heap.size ≤ b1:=by omega
 clear hb1;have Z:=hZ.ext E;have C:=hC.ext E;have P:=hP.ext E;clear hC hP hZ;obtain ⟨k0,k1⟩:=B1.c2;have kl:=B1.lt;go_upto_region 2 with (go_at_call 8;(with_reducible refine Calls.mono (NCA _ P) ?_);rintro e w1 ⟨x1,rfl,hx,D0⟩;replace E:=E.trans hx;replace Z:=Z.ext hx;replace C:=C.ext hx;replace P:=P.ext hx;replace B1:=B1.ext hx;clear hx;clear k0 k1 kl;obtain ⟨k0,k1⟩:=B1.c2;have kl:=B1.lt;have O:=Qhg D0;clear D0;obtain ⟨D1,m1,_,_,_,e1,_⟩:=id O;subst e1)
 go_upto_region 3 with (go_at_call 9;(with_reducible refine Calls.mono (N1 _ _ C O) ?_);rintro e w2 ⟨x2,rfl,hx,Q1⟩;replace E:=E.trans hx;replace Z:=Z.ext hx;replace C:=C.ext hx;replace P:=P.ext hx;replace O:=O.ext hx;replace B1:=B1.ext hx;clear hx;clear k0 k1 kl;obtain ⟨k0,k1⟩:=B1.c2;have kl:=B1.lt;obtain ⟨F1,c1,e1,R1⟩:=Iq Q1;subst e1;clear Q1)
 go_upto_region 4 with (go_at_call 10;(with_reducible refine Calls.mono (N2 _ C P) ?_);rintro e w3 ⟨x3,rfl,hx,Q2⟩;replace E:=E.trans hx;replace Z:=Z.ext hx;replace C:=C.ext hx;replace P:=P.ext hx;replace O:=O.ext hx;replace R1:=R1.ext hx;replace B1:=B1.ext hx;clear hx;clear k0 k1 kl;obtain ⟨k0,k1⟩:=B1.c2;have kl:=B1.lt;obtain ⟨F2,c2,e1,R2⟩:=Iq Q2;subst e1;clear Q2)
 clear NCA N1 N2 k0 k1 kl B1;go_upto_region 7 with (fail)
 go_loopw [12] (fun iv wr => ∃ i : Nat,i ≤ L1.length ∧ iv = .int .i64 i ∧ Qb w3 wr) (fun iv _ => L1.length - (intOf iv).toNat)
 case atStart => exact ⟨0,Nat.zero_le _,rfl,Qb.refl _⟩
 case round =>
  obtain ⟨i,hi,rfl,hE⟩:=hrel;obtain ⟨wo,rfl⟩:=Qg wr;replace Z:=Z.ext hE;replace P:=P.ext hE;replace O:=O.ext hE;replace E:=E.trans hE;by_cases hlt : i < L1.length;rotate_left
  ·obtain rfl : i = L1.length := by omega
   go_wp2_with (first | (go_at_call 11;(with_reducible refine Calls.mono (N5 _ _ _ O P) ?_);rintro e y2 ⟨rfl,hx⟩;replace E:=E.trans hx;replace Z:=Z.ext hx) | (go_at_call 12;(with_reducible refine Calls.mono (Qi8 _ Z) ?_);rintro e y4 ⟨rfl,hx⟩;replace E:=E.trans hx));go_ret;exact ⟨rfl,E⟩
  obtain ⟨b1',o1,rfl,hb1,hc1⟩:=(R1.ext hE) (by omega);obtain ⟨b2',o2,rfl,hb2,hc2⟩:=(R2.ext hE) (by omega);obtain ⟨X,hX⟩:=Qg (L1.getD i (Q7,Q7))
  have c0 : wo.cell? ⟨b1',o1 + i * 4,none⟩ = some (.int .i64 (X.1.1 : Nat)):=by
   have:=hc1 i 0 (.int .i64 ((L1.getD i (Q7,Q7)).1.1 : Nat)) hlt rfl;rw [← hX] at this;exact this
  have c1 : wo.cell? ⟨b1',o1 + i * 4 + 1,none⟩ = some (.int .i64 (X.1.2 : Nat)):=by
   have:=hc1 i 1 (.int .i64 ((L1.getD i (Q7,Q7)).1.2 : Nat)) hlt rfl;rw [← hX] at this;exact this
  have c2 : wo.cell? ⟨b1',o1 + i * 4 + 2,none⟩ = some (.int .i64 (X.2.1 : Nat)):=by
   have:=hc1 i 2 (.int .i64 ((L1.getD i (Q7,Q7)).2.1 : Nat)) hlt rfl;rw [← hX] at this;exact this
  have c3 : wo.cell? ⟨b1',o1 + i * 4 + 3,none⟩ = some (.int .i64 (X.2.2 : Nat)):=by
   have:=hc1 i 3 (.int .i64 ((L1.getD i (Q7,Q7)).2.2 : Nat)) hlt rfl;rw [← hX] at this;exact this
  have d0 : wo.cell? ⟨b2',o2 + i * 4,none⟩ = some (.int .i64 (X.1.1 : Nat)):=by
   have:=hc2 i 0 (.int .i64 ((L1.getD i (Q7,Q7)).1.1 : Nat)) hlt rfl;rw [← hX] at this;exact this
  have d1 : wo.cell? ⟨b2',o2 + i * 4 + 1,none⟩ = some (.int .i64 (X.1.2 : Nat)):=by
   have:=hc2 i 1 (.int .i64 ((L1.getD i (Q7,Q7)).1.2 : Nat)) hlt rfl;rw [← hX] at this;exact this
  have d2 : wo.cell? ⟨b2',o2 + i * 4 + 2,none⟩ = some (.int .i64 (X.2.1 : Nat)):=by
   have:=hc2 i 2 (.int .i64 ((L1.getD i (Q7,Q7)).2.1 : Nat)) hlt rfl;rw [← hX] at this;exact this
  have d3 : wo.cell? ⟨b2',o2 + i * 4 + 3,none⟩ = some (.int .i64 (X.2.2 : Nat)):=by
   have:=hc2 i 3 (.int .i64 ((L1.getD i (Q7,Q7)).2.2 : Nat)) hlt rfl;rw [← hX] at this;exact this
  clear hc1 hc2 hX;go_upto_region 9 with (fail)
  refine Zd wo Qo (by kernel_rfl) (by repeat (first | exact Qb.refl _ | (refine Qb.alloc ?_ _) | (refine Qb.trans ?_ (by assumption)))) ?_;intro hne hrx hry;try simp only []
  try simp only [List.append_eq,List.cons_append,List.nil_append]
  skip
  repeat (first
   | go_big_quiet_skip
   | (go_big_quiet_want;go_big_quiet_op;go_big_quiet_on))
  clear hne hry hrx;refine wpQuiet_nil ?_;intro wx hx;obtain ⟨hcwx,hfwx,hzwx⟩:=Qb.rules hx;try simp only [World.size_alloc] at hzwx
  obtain ⟨hcbwx,hfbwx,hzbwx⟩:=Qb.rules (show Qb wo wx from (by repeat (first | exact Qb.refl _ | (refine Qb.alloc ?_ _) | (refine Qb.trans ?_ (by assumption)))));clear hcwx hfwx;go_wp2;exact ⟨⟨i + 1,by omega,by go_num,hE.trans hx⟩,by simp [intOf];omega⟩
end Go.Proofs.YtoflcheopfppoaaGreatDoor