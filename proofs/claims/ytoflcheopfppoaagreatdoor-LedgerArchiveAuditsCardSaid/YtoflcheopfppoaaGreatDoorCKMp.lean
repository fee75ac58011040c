/- The walk of LedgerArchiveAudits. -/
import Derived.Test.YtoflcheopfppoaaGreatDoorCKMx
import Derived.Test.YtoflcheopfppoaaGreatDoorK15
import Derived.Test.YtoflcheopfppoaaGreatDoorK14
import Derived.Test.YtoflcheopfppoaaGreatDoorK11
import Derived.Test.YtoflcheopfppoaaGreatDoorK17
set_option maxRecDepth 100000
set_option maxHeartbeats 4000000
namespace Go.Proofs.YtoflcheopfppoaaGreatDoor
open Go Go.RowKit Go.Shelf
attribute [local go_sem] Z8
attribute [local go_sem high] Qli
theorem icl_get : ∀ (L : List Z7) (i j : Nat),i < L.length → j < 3 → (L.flatMap Xd)[i * 3 + j]? = (Xd (L.getD i Ka))[j]?
 | r :: L,0,j,_,hj => by
  match j,hj with
  | 0,_ => simp [Xd]
  | 1,_ => simp [Xd]
  | 2,_ => simp [Xd]
 | r :: L,i + 1,j,h,hj => by
  have hl : (Xd r).length = 3:=rfl;rw [List.flatMap_cons,List.getElem?_append_right Qa,hl,show (i + 1) * 3 + j - 3 = i * 3 + j by omega,icl_get L i j (by simpa using h) hj];rfl
theorem rowsI_own {w : World} {base : Nat} {v : Value} {L : List Z7} (h : w.ownsRow base 47 3 v L.length (L.flatMap Xd)) : ∃ F c,v = .slice F L.length c ∧ Qm w F L.length 3 (fun i => Xd (L.getD i Ka)):=by
 rcases h.2 with ⟨rfl,h0⟩ | ⟨q,cap,cur,rfl,hb,hq,hn,hm,_⟩
 ·exact ⟨none,0,by rw [h0],fun hp => by omega⟩
 ·refine ⟨_,_,rfl,fun _ => ⟨q,0,rfl,(Array.getElem?_eq_some_iff.1 hq).1,fun i j v hi hv => ?_⟩⟩;have hj : j < 3:=(List.getElem?_eq_some_iff.1 hv).1;have hlt : i * 3 + j < L.length * 3:=Qa;rw [Nat.zero_add,World.ownsRow.cellAt h (i * 3 + j) hlt,icl_get L i j hi hj];exact hv
theorem auditV_len (c : Qd) (l : List Pd) (days : Int) : (c.auditV l days).1.length ≤ 5000:=by
 unfold Qd.auditV;by_cases h : c.audE l days ≠ 0
 ·rw [if_pos h];exact Nat.zero_le _
 ·rw [if_neg h];have h' : c.audE l days = 0 := by simpa using h
  obtain ⟨⟨_,hp⟩,_⟩:=Gr h';have h3:=Gp (Gu h');have h4:=Gs (c:=c) (m:=c.matchL l days) (fun i hi => (hp _ (J6 (z:=Qp) hi)).m) l.length (Nat.le_refl _)
  show (c.audN l _ l.length).length ≤ 5000
  omega
theorem ledgerArchiveAudits_walk (A A' : OA) (ca cb : Nat) (c : Qd) (v : Value) (l : List Pd) (days : Int) (w : World) (hC : Za w A ca A' cb c) (hP : J9 w v l) (hL : ∀ i,i < l.length → (l.getD i Qp).Light) (hsd : l.length * 152 ≤ 140737488351232) (hZ : Jc w) :
  Calls Tryz.prog 5 #[.agg #[.slice A c.nk ca,.slice A' c.ny cb],v,.int .i64 days] w fun e w' => e = .returned (.bool true) ∧ Qc w w':=by
 obtain ⟨D,cap,_,_,_,e0,_⟩:=id hP;subst e0;have NCA:=fun v h => Qg3 (.slice D l.length cap) l v h hL hsd
 have N1:=fun x v h1 h2 => audit_all A A' ca cb c l x days v h1 h2
 have N2:=fun v h1 h2 => Qfo A A' ca cb c l (.slice D l.length cap) days v h1 h2
 have N5:=fun x y v h1 h2 => Qne x y l v h1 h2
 have hlen:=auditV_len c l days;generalize c.auditV l days = V at *;obtain ⟨L1,se⟩:=V
 simp only at N1 N2 hlen
 go_enter Tryz.func5,Tryz.ntmps5
 go_upto_region 1 with fail
 obtain ⟨v,b1,E,B1,hbr,hv,hb1⟩:=J4 w 25 #[.slice A c.nk ca,.slice A' c.ny cb];rw [← hv,← hb1];clear hv hb1;have Z:=hZ.ext E;have C:=hC.ext E;have P:=hP.ext E;clear hC hP hZ;obtain ⟨k0,k1,kl⟩:=Qb.d2 B1;go_upto_region 2 with (go_at_call 8;refine zc (NCA _ P) ?_;rintro e w1 ⟨x1,rfl,hx,D0⟩;replace E:=E.trans hx;replace Z:=Z.ext hx;replace C:=C.ext hx;replace P:=P.ext hx;replace B1:=B1.ext hx;clear hx;clear k0 k1 kl;obtain ⟨k0,k1⟩:=B1.c2;have kl:=B1.lt;have O:=Qml D0;clear D0;obtain ⟨D1,m1,_,_,_,e1,_⟩:=id O;subst e1)
 go_upto_region 3 with (go_at_call 14;refine zc (N1 _ _ C O) ?_;rintro e w2 ⟨x2,rfl,hx,Q1⟩;replace E:=E.trans hx;replace Z:=Z.ext hx;replace C:=C.ext hx;replace P:=P.ext hx;replace O:=O.ext hx;replace B1:=B1.ext hx;clear hx;clear k0 k1 kl;obtain ⟨k0,k1⟩:=B1.c2;have kl:=B1.lt;obtain ⟨F1,c1,e1,R1⟩:=rowsI_own Q1;subst e1;clear Q1)
 go_upto_region 4 with (go_at_call 15;refine zc (N2 _ C P) ?_;rintro e w3 ⟨x3,rfl,hx,Q2⟩;replace E:=E.trans hx;replace Z:=Z.ext hx;replace C:=C.ext hx;replace P:=P.ext hx;replace O:=O.ext hx;replace R1:=R1.ext hx;replace B1:=B1.ext hx;clear hx;clear k0 k1 kl;obtain ⟨k0,k1⟩:=B1.c2;have kl:=B1.lt;obtain ⟨F2,c2,e1,R2⟩:=rowsI_own Q2;subst e1;clear Q2)
 clear NCA N1 N2 k0 k1 kl B1;go_upto_region 7 with fail
 go_loopw [12] (fun iv wr => ∃ i : Nat,i ≤ L1.length ∧ iv = .int .i64 i ∧ Qc w3 wr) (fun iv _ => L1.length - (intOf iv).toNat)
 case atStart => exact ⟨0,Nat.zero_le _,rfl,Qc.refl _⟩
 case round =>
  obtain ⟨i,hi,rfl,hE⟩:=hrel;obtain ⟨wo,rfl⟩:=Qe wr;replace Z:=Z.ext hE;replace P:=P.ext hE;replace O:=O.ext hE;replace E:=E.trans hE;by_cases hlt : i < L1.length;rotate_left
  ·obtain rfl : i = L1.length:=Qa;go_wp2_with (first | (go_at_call 11;refine zc (N5 _ _ _ O P) ?_;rintro e y2 ⟨rfl,hx⟩;replace E:=E.trans hx;replace Z:=Z.ext hx) | (go_at_call 12;refine zc (Qot _ Z) ?_;rintro e y4 ⟨rfl,hx⟩;replace E:=E.trans hx));go_ret;exact ⟨rfl,E⟩
  obtain ⟨b1',o1,rfl,hb1,hc1⟩:=(R1.ext hE) Qa;obtain ⟨b2',o2,rfl,hb2,hc2⟩:=(R2.ext hE) Qa;obtain ⟨X,hX⟩:=Qe (L1.getD i Ka)
  have c0 : wo.cell? ⟨b1',o1 + i * 3,none⟩ = some (.int .i64 (X.1 : Nat)):=by
   have:=hc1 i 0 (.int .i64 ((L1.getD i Ka).1 : Nat)) hlt rfl;rw [← hX] at this;exact this
  have c1 : wo.cell? ⟨b1',o1 + i * 3 + 1,none⟩ = some (.int .i64 (X.2.1 : Nat)):=by
   have:=hc1 i 1 (.int .i64 ((L1.getD i Ka).2.1 : Nat)) hlt rfl;rw [← hX] at this;exact this
  have c2 : wo.cell? ⟨b1',o1 + i * 3 + 2,none⟩ = some (.int .i64 (X.2.2 : Nat)):=by
   have:=hc1 i 2 (.int .i64 ((L1.getD i Ka).2.2 : Nat)) hlt rfl;rw [← hX] at this;exact this
  have d0 : wo.cell? ⟨b2',o2 + i * 3,none⟩ = some (.int .i64 (X.1 : Nat)):=by
   have:=hc2 i 0 (.int .i64 ((L1.getD i Ka).1 : Nat)) hlt rfl;rw [← hX] at this;exact this
  have d1 : wo.cell? ⟨b2',o2 + i * 3 + 1,none⟩ = some (.int .i64 (X.2.1 : Nat)):=by
   have:=hc2 i 1 (.int .i64 ((L1.getD i Ka).2.1 : Nat)) hlt rfl;rw [← hX] at this;exact this
  have d2 : wo.cell? ⟨b2',o2 + i * 3 + 2,none⟩ = some (.int .i64 (X.2.2 : Nat)):=by
   have:=hc2 i 2 (.int .i64 ((L1.getD i Ka).2.2 : Nat)) hlt rfl;rw [← hX] at this;exact this
  clear hc1 hc2 hX;go_upto_region 9 with fail
  refine Qy wo ?_;intro wx hx;obtain ⟨_,_,_,_⟩:=Qv wo hx;go_wp2;exact ⟨⟨i + 1,Qa,by go_num,hE.trans hx⟩,zi⟩
end Go.Proofs.YtoflcheopfppoaaGreatDoor