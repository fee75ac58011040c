/- Walks of the program's functions and plain facts, packed; proved: the lemmas below; no conditions but those that each states. -/
import Derived.Test.YtoflcheopfppoaaGreatDoorL7
import Derived.Test.YtoflcheopfppoaaGreatDoorL8
import Derived.Test.YtoflcheopfppoaaGreatDoorL1
import Derived.Test.YtoflcheopfppoaaGreatDoorL9
import Derived.Lib.Strings
import Derived.Test.YtoflcheopfppoaaGreatDoorL5
import Derived.Test.YtoflcheopfppoaaGreatDoorL4
import Derived.Test.YtoflcheopfppoaaGreatDoorL3
set_option maxRecDepth 100000
set_option maxHeartbeats 4000000
namespace Go.Proofs.YtoflcheopfppoaaGreatDoor
section
open Go Go.RowKit Go.Shelf
attribute [local go_sem] Z5
/-- A slice value that reads as a list of lots. -/
def Zz (w : World) (v : Value) (l : List Lt) : Prop:=∃ A cap,v = .slice A l.length cap ∧ Qp w A l.length 2 (Zc (Za l)) ∧ l.length ≤ cap ∧ cap ≤ maxLen ∧ (A = none → l.length = 0 ∧ cap = 0)
theorem Zz.ext {w w' : World} {v : Value} {l : List Lt} (h : Zz w v l) (e : Qb w w') : Zz w' v l:=by
 obtain ⟨A,cap,h1,h2,h3⟩:=h;exact ⟨A,cap,h1,h2.ext e,h3⟩
def Qz (d : Dl) (v : Value) : List Value:=[.int .i64 d.on.y,.int .i64 d.on.m,.bool d.on.s,.int .i64 d.on.d,.bool d.i,.string d.w,v]
/-- A slice value that reads as a list of deals. -/
def Un (w : World) (v : Value) (l : List Dl) : Prop:=∃ D cap,∃ vs : Nat → Value,v = .slice D l.length cap ∧ Qp w D l.length 7 (fun i => Qz (l.getD i Zi) (vs i)) ∧ l.length ≤ cap ∧ cap ≤ maxLen ∧ (D = none → l.length = 0 ∧ cap = 0) ∧ ∀ i,i < l.length → Zz w (vs i) (l.getD i Zi).l
theorem Un.ext {w w' : World} {v : Value} {l : List Dl} (h : Un w v l) (e : Qb w w') : Un w' v l:=by
 obtain ⟨D,cap,vs,h1,h2,h3,h4,h5,h6⟩:=h;exact ⟨D,cap,vs,h1,h2.ext e,h3,h4,h5,fun i hi => (h6 i hi).ext e⟩
structure Xm (w : World) (p : Pd) (vo vd vc : Value) : Prop where
 o : Zz w vo p.o
 d : Un w vd p.d
 c : Zz w vc p.c
theorem Xm.ext {w w' : World} {p : Pd} {vo vd vc : Value} (h : Xm w p vo vd vc) (e : Qb w w') : Xm w' p vo vd vc:=⟨h.o.ext e,h.d.ext e,h.c.ext e⟩
theorem Qbf (l : List Lt) : ((List.range l.length).any fun j => decide ((Za l j).n < 0)) = l.any fun x => decide (x.n < 0):=by
 conv => rhs;rw [← Ck l]
 unfold Jm;rw [List.any_map];rfl
section
variable {W : World} {b : Nat} {t : TypeId} {v0 v1 v2 v3 v4 v5 v6 v7 v8 v9 v10 v11 : Value}
theorem Yk (h : Qa W b t #[v0,v1,v2,v3,v4,v5,v6]) : W.cell? ⟨b,0,none⟩ = some v0 ∧ W.cell? ⟨b,1,none⟩ = some v1 ∧ W.cell? ⟨b,2,none⟩ = some v2 ∧ W.cell? ⟨b,3,none⟩ = some v3 ∧ W.cell? ⟨b,4,none⟩ = some v4 ∧ W.cell? ⟨b,5,none⟩ = some v5 ∧ W.cell? ⟨b,6,none⟩ = some v6:=⟨h.cell 0,h.cell 1,h.cell 2,h.cell 3,h.cell 4,h.cell 5,h.cell 6⟩
theorem Qa.c12 (h : Qa W b t #[v0,v1,v2,v3,v4,v5,v6,v7,v8,v9,v10,v11]) : W.cell? ⟨b,0,none⟩ = some v0 ∧ W.cell? ⟨b,1,none⟩ = some v1 ∧ W.cell? ⟨b,2,none⟩ = some v2 ∧ W.cell? ⟨b,3,none⟩ = some v3 ∧ W.cell? ⟨b,4,none⟩ = some v4 ∧ W.cell? ⟨b,5,none⟩ = some v5 ∧ W.cell? ⟨b,6,none⟩ = some v6 ∧ W.cell? ⟨b,7,none⟩ = some v7 ∧ W.cell? ⟨b,8,none⟩ = some v8 ∧ W.cell? ⟨b,9,none⟩ = some v9 ∧ W.cell? ⟨b,10,none⟩ = some v10 ∧ W.cell? ⟨b,11,none⟩ = some v11:=⟨h.cell 0,h.cell 1,h.cell 2,h.cell 3,h.cell 4,h.cell 5,h.cell 6,h.cell 7,h.cell 8,h.cell 9,h.cell 10,h.cell 11⟩
end
theorem Qdx (l : Lt) (w : World) :
  Calls Tryz.prog 193 #[.agg #[.string l.g,.int .i64 l.n]] w fun e w' => e = .returned (.bool (decide (l.n < 0))) ∧ Qb w w':=by
 go_enter Tryz.func193,Tryz.ntmps193
 go_upto_region 1 with (fail)
 obtain ⟨v,hv⟩:=Qg (w.alloc (.cells #[.string l.g,.int .i64 l.n] 85));rw [← hv];have E : Qb w v:=by rw [hv];exact (Qb.refl _).alloc _
 have B1 : Qa v w.heap.size 85 #[.string l.g,.int .i64 l.n]:=by rw [hv];exact Qa.new _ _ _
 clear hv;generalize w.heap.size = b1 at *;obtain ⟨k0,k1⟩:=B1.c2;have lk:=B1.lt;go_wp2;go_ret;exact ⟨rfl,E⟩
theorem Qen (A : Option Addr) (n cap : Nat) (f : Nat → Lt) (w : World) (hA : Qp w A n 2 (Zc f)) (hn : n ≤ 9223372036854775807) :
  Calls Tryz.prog 195 #[.slice A n cap,.func (.func 193) #[] #[]] w fun e w' => ∃ r : Int,e = .returned (.int .i64 r) ∧ decide (0 ≤ r) = ((List.range n).any fun j => decide ((f j).n < 0)) ∧ Qb w w':=by
 go_enter Tryz.func195,Tryz.ntmps195
 go_wp2
 go_loopw [8] (fun iv wr => ∃ k : Nat,k ≤ n ∧ iv = .int .i64 (k : Int) ∧ Hid (∀ j,j < k → decide ((f j).n < 0) = false) ∧ Qb w wr) (fun iv _ => n - (intOf iv).toNat)
 case atStart => exact ⟨0,Nat.zero_le _,rfl,fun j h => absurd h (by omega),Qb.refl _⟩
 case round =>
  obtain ⟨k,hk0,rfl,hno,hE⟩:=hrel;obtain ⟨wo,rfl⟩:=Qg wr;by_cases hlt : k < n
  ·obtain ⟨b, off, hAA, hb, hc⟩ := (hA.ext hE) (by omega);subst hAA;have c0 : wo.cell? ⟨b, off + k * 2, none⟩ = some (.string (f k).g) := by simpa [Zc] using hc k 0 _ hlt rfl
   have c1 : wo.cell? ⟨b,off + k * 2 + 1,none⟩ = some (.int .i64 (f k).n):=by simpa [Zc] using hc k 1 _ hlt rfl
   have NP:=Qdx (f k) wo;clear hc hA;generalize hq : decide ((f k).n < 0) = q at *;have HQ:=Lib.hid hq;clear hq;cases q
   ·go_wp2_with (first | (go_at_call 193;(with_reducible refine Calls.mono (NP) ?_);rintro e w4 ⟨rfl,h⟩) | (go_at_fn 193;(with_reducible refine Calls.mono (NP) ?_);rintro e w4 ⟨rfl,h⟩))
    exact ⟨⟨k + 1,by omega,by go_num,fun j hj => by
     by_cases e : j = k
     ·subst e;exact HQ.out
     ·exact hno.out j (by omega),hE.trans h⟩,by simp [intOf];omega⟩
   ·go_wp2_with (first | (go_at_call 193;(with_reducible refine Calls.mono (NP) ?_);rintro e w4 ⟨rfl,h⟩) | (go_at_fn 193;(with_reducible refine Calls.mono (NP) ?_);rintro e w4 ⟨rfl,h⟩));go_ret;exact ⟨_,rfl,by rw [decide_eq_true (by omega)];exact (List.any_eq_true.2 ⟨k,by simpa using hlt,HQ.out⟩).symm,hE.trans h⟩
  ·obtain rfl : k = n := by omega
   go_wp2;go_ret;exact ⟨_,rfl,by rw [decide_eq_false (by omega)];exact (List.any_eq_false.2 (fun j hj => by have:=hno.out j (by simpa using hj);simpa using this)).symm,hE⟩
theorem Qcq (A : Option Addr) (n cap : Nat) (f : Nat → Lt) (w : World) (hA : Qp w A n 2 (Zc f)) (hn : n ≤ 9223372036854775807) :
  Calls Tryz.prog 192 #[.slice A n cap,.func (.func 193) #[] #[]] w fun e w' => e = .returned (.bool ((List.range n).any fun j => decide ((f j).n < 0))) ∧ Qb w w':=by
 have NI:=Qen A n cap f w hA hn
 go_enter Tryz.func192,Tryz.ntmps192
 go_wp2_with (go_at_call 195;(with_reducible refine Calls.mono (NI) ?_);rintro e w4 ⟨r,rfl,hr,h⟩);go_ret;exact ⟨by rw [← hr];rfl,h⟩
theorem Qdy (v : Value) (l : List Lt) (w : World) (hL : Zz w v l) :
  Calls Tryz.prog 184 #[v] w fun e w' => e = .returned (.bool (Xi l)) ∧ Qb w w':=by
 obtain ⟨T,cap,rfl,hT,hcap,hmax,_⟩:=hL;have hn : l.length ≤ 9223372036854775807:=Nat.le_trans hcap (Nat.le_trans hmax (by decide));have N1:=Lr T l.length cap (Za l) w hT hcap hn;have N2:=fun w h => Qcq T l.length cap (Za l) w h hn
 rw [Qbf] at N2;have HR : Hid (Xi l = (decide (0 < l.length) && decide (Jr (Za l) l.length = 0) && !(l.any fun x => decide (x.n < 0)))):=rfl;generalize Xi l = r at *;generalize (l.any fun x => decide (x.n < 0)) = an at *;generalize Jr (Za l) l.length = e1 at *;generalize l.length = n at *;by_cases h0 : 0 < n
 ·have d0 : decide ((0 : Int) < (n : Int)) = true:=decide_eq_true (by omega);have d0' : decide (0 < n) = true:=decide_eq_true h0;by_cases hz : e1 = 0
  ·subst hz;have hr : r = !an := by rw [HR.out, d0']; rfl
   clear HR;subst hr;cases an
   all_goals
    go_enter Tryz.func184,Tryz.ntmps184
    go_wp2_with (first | (go_at_call 68;(with_reducible refine Calls.mono (N1) ?_);rintro e w1 ⟨rfl,h1⟩) | (go_at_call 192;(with_reducible refine Calls.mono (N2 _ (hT.ext h1)) ?_);rintro e w2 ⟨rfl,h2⟩));go_ret;exact ⟨rfl,h1.trans h2⟩
  ·have g0 : (e1 == 0) = false := beq_eq_false_iff_ne.2 hz;have hr : r = false := by rw [HR.out, d0', decide_eq_false hz]; rfl
   clear HR hz;subst hr
   go_enter Tryz.func184,Tryz.ntmps184
   go_wp2_with (go_at_call 68;(with_reducible refine Calls.mono (N1) ?_);rintro e w1 ⟨rfl,h1⟩);go_ret;exact ⟨rfl,h1⟩
 ·have d0 : decide ((0 : Int) < (n : Int)) = false := decide_eq_false (by omega);have d0' : decide (0 < n) = false := decide_eq_false h0;have hr : r = false := by rw [HR.out, d0']; rfl
  clear HR;subst hr
  go_enter Tryz.func184,Tryz.ntmps184
  go_wp2;go_ret;exact ⟨rfl,Qb.refl _⟩
theorem Kb {w : World} {T : Option Addr} {cap : Nat} {l : List Lt} (h : Zz w (.slice T l.length cap) l) : Qp w T l.length 2 (Zc (Za l)):=by
 obtain ⟨A,cap',e,h2,_⟩:=h;cases e
 exact h2
theorem Qhd (A A' : Option Addr) (ca cb : Nat) (c : Qf) (p : Pd) (vo vd vc : Value) (w : World) (hC : Q8 w A ca A' cb c) (hP : Xm w p vo vd vc) :
  Calls Tryz.prog 159 #[.agg #[.slice A c.nk ca,.slice A' c.ny cb],.agg #[.string p.h,.int .i64 p.a.y,.int .i64 p.a.m,.bool p.a.s,.int .i64 p.a.d,.int .i64 p.b.y,.int .i64 p.b.m,.bool p.b.s,.int .i64 p.b.d,vo,vd,vc]] w fun e w' => e = .returned (.bool (c.perOk p)) ∧ Qb w w':=by
 obtain ⟨R,hR0⟩:=Qg (c.perOk p);rw [← hR0];have HR:=Lib.hid hR0;clear hR0;have NS:=fun w h => Tt A A' ca cb c p.a p.b w h
 go_enter Tryz.func159,Tryz.ntmps159
 go_upto_region 1 with (fail)
 obtain ⟨v,hv⟩:=Qg ((w.alloc (.cells #[.slice A c.nk ca,.slice A' c.ny cb] 130)).alloc (.cells #[.string p.h,.int .i64 p.a.y,.int .i64 p.a.m,.bool p.a.s,.int .i64 p.a.d,.int .i64 p.b.y,.int .i64 p.b.m,.bool p.b.s,.int .i64 p.b.d,vo,vd,vc] 55));rw [← hv];have E : Qb w v:=by rw [hv];exact ((Qb.refl _).alloc _).alloc _
 have B1 : Qa v w.heap.size 130 #[.slice A c.nk ca,.slice A' c.ny cb]:=by rw [hv];exact (Qa.new _ _ _).alloc _
 have B2 : Qa v (w.heap.size + 1) 55 #[.string p.h,.int .i64 p.a.y,.int .i64 p.a.m,.bool p.a.s,.int .i64 p.a.d,.int .i64 p.b.y,.int .i64 p.b.m,.bool p.b.s,.int .i64 p.b.d,vo,vd,vc]:=by rw [hv];exact Qa.at _ _ _ _ (by simp)
 clear hv;obtain ⟨b2,hb2⟩:=Qg (w.heap.size + 1);rw [← hb2] at B2 ⊢;obtain ⟨b1,hb1⟩:=Qg (w.heap.size);rw [← hb1] at B1 ⊢;have hbr : w.heap.size ≤ b2:=by omega
 have hbr1 : w.heap.size ≤ b1:=by omega
 have hn21 : b2 ≠ b1:=by omega
 clear hb1 hb2;have C:=hC.ext E;have P:=hP.ext E;clear hC hP;obtain ⟨TO,co,rfl,_,co1,co2,_⟩:=P.o;obtain ⟨TC,cc,rfl,_,cc1,cc2,_⟩:=P.c;obtain ⟨TD,cd,vs,rfl,_,cd1,cd2,_,_⟩:=P.d;have no : p.o.length ≤ 9223372036854775807:=Nat.le_trans co1 (Nat.le_trans co2 (by decide));have nc : p.c.length ≤ 9223372036854775807:=Nat.le_trans cc1 (Nat.le_trans cc2 (by decide));have nd : p.d.length ≤ 9223372036854775807:=Nat.le_trans cd1 (Nat.le_trans cd2 (by decide));have KO:=fun w h => Lr TO p.o.length co (Za p.o) w h co1 no
 have KC:=fun w h => Lr TC p.c.length cc (Za p.c) w h cc1 nc
 clear co1 co2 cc1 cc2 cd1 cd2;have HH : Hid (c.perHead p = (Zx p.h && c.spanV p.a p.b && decide (Jr (Za p.o) p.o.length = 0) && decide (Jr (Za p.c) p.c.length = 0) && decide (p.d.length ≤ 64))):=rfl;have hbad : Hid (c.perHead p = false → R = false):=fun h => by rw [HR.out];exact Ev h
 obtain ⟨nm,hnm⟩:=Qg (Zx p.h);have NN:=fun w => Vh p.h w
 rw [← hnm] at HH NN;replace hnm:=Lib.hid hnm;have NSP : Hid (c.spanV p.a p.b = _):=show c.spanV p.a p.b = (decide (0 < c.numV p.a) && decide (c.numV p.a ≤ c.numV p.b)) from rfl
 unfold Qf.spanV at HH;generalize (decide (0 < c.numV p.a) && decide (c.numV p.a ≤ c.numV p.b)) = sp at *;clear NSP;obtain ⟨eo,heo⟩:=Qg (Jr (Za p.o) p.o.length);rw [← heo] at HH KO;replace heo:=Lib.hid heo;obtain ⟨ec,hec⟩:=Qg (Jr (Za p.c) p.c.length);rw [← hec] at HH KC;replace hec:=Lib.hid hec;obtain ⟨k0,k1⟩:=B1.c2;have lk:=B1.lt;obtain ⟨p0,p1,p2,p3,p4,p5,p6,p7,p8,p9,p10,p11⟩:=B2.c12;have lp:=B2.lt;by_cases hz : nm = false
 ·have hr:=hbad.out (by rw [HH.out,hz];rfl);subst hz;clear HH hbad HR NS KO KC hnm heo hec;go_wp2_with (go_at_call 120;(with_reducible refine Calls.mono (NN _) ?_);rintro e wn ⟨rfl,rfl⟩);go_ret;exact ⟨by rw [hr];rfl,E⟩
 obtain rfl : nm = true:=by simpa using hz
 clear hz;by_cases hz : sp = false
 ·have hr:=hbad.out (by rw [HH.out,hz];rfl);subst hz;clear HH hbad HR KO KC hnm heo hec;go_wp2_with (first | (go_at_call 120;(with_reducible refine Calls.mono (NN _) ?_);rintro e wn ⟨rfl,rfl⟩) | (go_at_call 91;(with_reducible refine Calls.mono (NS _ C) ?_);rintro e w1 ⟨rfl,h1⟩;replace E:=E.trans h1;replace C:=C.ext h1;replace P:=P.ext h1;replace B1:=B1.ext h1;replace B2:=B2.ext h1;clear h1 k0 k1 lk p0 p1 p2 p3 p4 p5 p6 p7 p8 p9 p10 p11 lp;obtain ⟨k0,k1⟩:=B1.c2;have lk:=B1.lt;obtain ⟨p0,p1,p2,p3,p4,p5,p6,p7,p8,p9,p10,p11⟩:=B2.c12;have lp:=B2.lt));go_ret;exact ⟨by rw [hr];rfl,E⟩
 obtain rfl : sp = true:=by simpa using hz
 clear hz;by_cases hz : eo = 0;rotate_left
 ·have hr := hbad.out (by rw [HH.out, decide_eq_false hz]; rfl);have g0 : (eo == 0) = false := beq_eq_false_iff_ne.2 hz;have g0n : (eo != 0) = true := by rw [bne, g0]; rfl
  clear HH hbad HR KC hnm heo hec hz;go_wp2_with (first | (go_at_call 120;(with_reducible refine Calls.mono (NN _) ?_);rintro e wn ⟨rfl,rfl⟩) | (go_at_call 91;(with_reducible refine Calls.mono (NS _ C) ?_);rintro e w1 ⟨rfl,h1⟩;replace E:=E.trans h1;replace C:=C.ext h1;replace P:=P.ext h1;replace B1:=B1.ext h1;replace B2:=B2.ext h1;clear h1 k0 k1 lk p0 p1 p2 p3 p4 p5 p6 p7 p8 p9 p10 p11 lp;obtain ⟨k0,k1⟩:=B1.c2;have lk:=B1.lt;obtain ⟨p0,p1,p2,p3,p4,p5,p6,p7,p8,p9,p10,p11⟩:=B2.c12;have lp:=B2.lt) | (go_at_call 68;(with_reducible refine Calls.mono (KO _ (Kb P.o)) ?_);rintro e w2 ⟨rfl,h1⟩;replace E:=E.trans h1;replace C:=C.ext h1;replace P:=P.ext h1;replace B1:=B1.ext h1;replace B2:=B2.ext h1;clear h1 k0 k1 lk p0 p1 p2 p3 p4 p5 p6 p7 p8 p9 p10 p11 lp;obtain ⟨k0,k1⟩:=B1.c2;have lk:=B1.lt;obtain ⟨p0,p1,p2,p3,p4,p5,p6,p7,p8,p9,p10,p11⟩:=B2.c12;have lp:=B2.lt))
  go_ret;exact ⟨by rw [hr];rfl,E⟩
 subst hz;by_cases hz : ec = 0;rotate_left
 ·have hr := hbad.out (by rw [HH.out, decide_eq_false hz, Bool.and_false]; rfl);have g0 : (ec == 0) = false := beq_eq_false_iff_ne.2 hz;have g0n : (ec != 0) = true := by rw [bne, g0]; rfl
  clear HH hbad HR hnm heo hec hz;go_wp2_with (first | (go_at_call 120;(with_reducible refine Calls.mono (NN _) ?_);rintro e wn ⟨rfl,rfl⟩) | (go_at_call 91;(with_reducible refine Calls.mono (NS _ C) ?_);rintro e w1 ⟨rfl,h1⟩;replace E:=E.trans h1;replace C:=C.ext h1;replace P:=P.ext h1;replace B1:=B1.ext h1;replace B2:=B2.ext h1;clear h1 k0 k1 lk p0 p1 p2 p3 p4 p5 p6 p7 p8 p9 p10 p11 lp;obtain ⟨k0,k1⟩:=B1.c2;have lk:=B1.lt;obtain ⟨p0,p1,p2,p3,p4,p5,p6,p7,p8,p9,p10,p11⟩:=B2.c12;have lp:=B2.lt) | (go_at_call 68;(with_reducible refine Calls.mono (KO _ (Kb P.o)) ?_);rintro e w2 ⟨rfl,h1⟩;replace E:=E.trans h1;replace C:=C.ext h1;replace P:=P.ext h1;replace B1:=B1.ext h1;replace B2:=B2.ext h1;clear h1 k0 k1 lk p0 p1 p2 p3 p4 p5 p6 p7 p8 p9 p10 p11 lp;obtain ⟨k0,k1⟩:=B1.c2;have lk:=B1.lt;obtain ⟨p0,p1,p2,p3,p4,p5,p6,p7,p8,p9,p10,p11⟩:=B2.c12;have lp:=B2.lt) | (go_at_call 68;(with_reducible refine Calls.mono (KC _ (Kb P.c)) ?_);rintro e w3 ⟨rfl,h1⟩;replace E:=E.trans h1;replace C:=C.ext h1;replace P:=P.ext h1;replace B1:=B1.ext h1;replace B2:=B2.ext h1;clear h1 k0 k1 lk p0 p1 p2 p3 p4 p5 p6 p7 p8 p9 p10 p11 lp;obtain ⟨k0,k1⟩:=B1.c2;have lk:=B1.lt;obtain ⟨p0,p1,p2,p3,p4,p5,p6,p7,p8,p9,p10,p11⟩:=B2.c12;have lp:=B2.lt))
  go_ret;exact ⟨by rw [hr];rfl,E⟩
 subst hz;by_cases hz : p.d.length ≤ 64;rotate_left
 ·have hr:=hbad.out (by rw [HH.out,decide_eq_false hz,Bool.and_false]);have d1 : decide ((64 : Int) < (p.d.length : Int)) = true:=decide_eq_true (by omega);clear HH hbad HR hnm heo hec hz;go_wp2_with (first | (go_at_call 120;(with_reducible refine Calls.mono (NN _) ?_);rintro e wn ⟨rfl,rfl⟩) | (go_at_call 91;(with_reducible refine Calls.mono (NS _ C) ?_);rintro e w1 ⟨rfl,h1⟩;replace E:=E.trans h1;replace C:=C.ext h1;replace P:=P.ext h1;replace B1:=B1.ext h1;replace B2:=B2.ext h1;clear h1 k0 k1 lk p0 p1 p2 p3 p4 p5 p6 p7 p8 p9 p10 p11 lp;obtain ⟨k0,k1⟩:=B1.c2;have lk:=B1.lt;obtain ⟨p0,p1,p2,p3,p4,p5,p6,p7,p8,p9,p10,p11⟩:=B2.c12;have lp:=B2.lt) | (go_at_call 68;(with_reducible refine Calls.mono (KO _ (Kb P.o)) ?_);rintro e w2 ⟨rfl,h1⟩;replace E:=E.trans h1;replace C:=C.ext h1;replace P:=P.ext h1;replace B1:=B1.ext h1;replace B2:=B2.ext h1;clear h1 k0 k1 lk p0 p1 p2 p3 p4 p5 p6 p7 p8 p9 p10 p11 lp;obtain ⟨k0,k1⟩:=B1.c2;have lk:=B1.lt;obtain ⟨p0,p1,p2,p3,p4,p5,p6,p7,p8,p9,p10,p11⟩:=B2.c12;have lp:=B2.lt) | (go_at_call 68;(with_reducible refine Calls.mono (KC _ (Kb P.c)) ?_);rintro e w3 ⟨rfl,h1⟩;replace E:=E.trans h1;replace C:=C.ext h1;replace P:=P.ext h1;replace B1:=B1.ext h1;replace B2:=B2.ext h1;clear h1 k0 k1 lk p0 p1 p2 p3 p4 p5 p6 p7 p8 p9 p10 p11 lp;obtain ⟨k0,k1⟩:=B1.c2;have lk:=B1.lt;obtain ⟨p0,p1,p2,p3,p4,p5,p6,p7,p8,p9,p10,p11⟩:=B2.c12;have lp:=B2.lt))
  go_ret;exact ⟨by rw [hr];rfl,E⟩
 have hh : c.perHead p = true:=by rw [HH.out,decide_eq_true hz];rfl
 have HR2 : Hid (R = (List.range p.d.length).all (c.dealOk p)):=by unfold Hid;rw [HR.out];unfold Qf.perOk;rw [hh];rfl
 have d1 : decide ((64 : Int) < (p.d.length : Int)) = false:=decide_eq_false (by omega);clear HH hbad HR hnm heo hec hz hh;have NA:=fun w h => Wq A A' ca cb c p.a w h
 have NB:=fun w h => Wq A A' ca cb c p.b w h
 go_upto_region 3 with (first | (go_at_call 120;(with_reducible refine Calls.mono (NN _) ?_);rintro e wn ⟨rfl,rfl⟩) | (go_at_call 91;(with_reducible refine Calls.mono (NS _ C) ?_);rintro e w1 ⟨rfl,h1⟩;replace E:=E.trans h1;replace C:=C.ext h1;replace P:=P.ext h1;replace B1:=B1.ext h1;replace B2:=B2.ext h1;clear h1 k0 k1 lk p0 p1 p2 p3 p4 p5 p6 p7 p8 p9 p10 p11 lp;obtain ⟨k0,k1⟩:=B1.c2;have lk:=B1.lt;obtain ⟨p0,p1,p2,p3,p4,p5,p6,p7,p8,p9,p10,p11⟩:=B2.c12;have lp:=B2.lt) | (go_at_call 68;(with_reducible refine Calls.mono (KO _ (Kb P.o)) ?_);rintro e w2 ⟨rfl,h1⟩;replace E:=E.trans h1;replace C:=C.ext h1;replace P:=P.ext h1;replace B1:=B1.ext h1;replace B2:=B2.ext h1;clear h1 k0 k1 lk p0 p1 p2 p3 p4 p5 p6 p7 p8 p9 p10 p11 lp;obtain ⟨k0,k1⟩:=B1.c2;have lk:=B1.lt;obtain ⟨p0,p1,p2,p3,p4,p5,p6,p7,p8,p9,p10,p11⟩:=B2.c12;have lp:=B2.lt) | (go_at_call 68;(with_reducible refine Calls.mono (KC _ (Kb P.c)) ?_);rintro e w3 ⟨rfl,h1⟩;replace E:=E.trans h1;replace C:=C.ext h1;replace P:=P.ext h1;replace B1:=B1.ext h1;replace B2:=B2.ext h1;clear h1 k0 k1 lk p0 p1 p2 p3 p4 p5 p6 p7 p8 p9 p10 p11 lp;obtain ⟨k0,k1⟩:=B1.c2;have lk:=B1.lt;obtain ⟨p0,p1,p2,p3,p4,p5,p6,p7,p8,p9,p10,p11⟩:=B2.c12;have lp:=B2.lt))
 clear NS KO KC NN;refine Zd w3 Qo (by kernel_rfl) Qj ?_;intro hne hrx hry;try simp only []
 try simp only [List.append_eq,List.cons_append,List.nil_append]
 skip
 repeat (first
  | go_big_quiet_skip
  | (go_big_quiet_want;go_big_quiet_op;go_big_quiet_on)
  | (go_big_quiet_want;go_big_quiet_op;apply Exists.intro;refine ⟨fun u => ?_,?_⟩
     ·first
       | (go_at_call 48;(with_reducible refine Calls.mono (NA _ (C.ext u.e)) ?_);rintro e w' ⟨rfl,hb⟩;exact ⟨rfl,u.back hb⟩)
       | (go_at_call 48;(with_reducible refine Calls.mono (NB _ (C.ext u.e)) ?_);rintro e w' ⟨rfl,hb⟩;exact ⟨rfl,u.back hb⟩)
     go_big_quiet_on))
 clear hne hry hrx;refine wpQuiet_nil ?_;intro vl hvl;obtain ⟨hcvl,hfvl,hzvl⟩:=Qb.rules hvl;try simp only [World.size_alloc] at hzvl
 obtain ⟨hcbvl,hfbvl,hzbvl⟩:=Qb.rules (show Qb w3 vl from Qj);clear hcvl hfvl;replace E:=E.trans hvl;replace C:=C.ext hvl;replace P:=P.ext hvl;replace B1:=B1.ext hvl;replace B2:=B2.ext hvl;clear k0 k1 lk p0 p1 p2 p3 p4 p5 p6 p7 p8 p9 p10 p11 lp NA NB;obtain ⟨p0,p1,p2,p3,p4,p5,p6,p7,p8,p9,p10,p11⟩:=B2.c12;have lp:=B2.lt;go_upto_region 5 with (fail)
 clear p0 p1 p2 p3 p4 p5 p6 p7 p8 p9 p10 p11 lp;obtain ⟨n,hnl⟩:=Qg (p.d.length);rw [← hnl] at nd d1 HR2 ⊢;replace hnl:=Lib.hid hnl;obtain ⟨_,_,vs',e1,hD,_,_,_,hat⟩:=P.d;cases e1
 rw [← hnl.out] at hD hat;replace hD : Qp vl TD n 7 (fun i => Qz (p.dl i) (vs' i)):=hD;replace hat : Hid (∀ i,i < n → Zz vl (vs' i) (p.dl i).l):=hat;clear P
 go_loopw [5,52] (fun lv iv wr => ∃ k : Nat,k ≤ n ∧ iv = .int .i64 k ∧ lv = .int .i64 (c.lastD p k) ∧ Hid (∀ j,j < k → c.dealOk p j = true) ∧ Qb vl wr) (fun _ i _ => n - (intOf i).toNat)
 case atStart => exact ⟨0,Nat.zero_le _,rfl,rfl,(fun j h => absurd h (by omega)),Qb.refl _⟩
 case round =>
  obtain ⟨k,hk,rfl,rfl,hall,hE⟩:=hrel;obtain ⟨wo,rfl⟩:=Qg wr;by_cases hlt : k < n
  ·obtain ⟨b, off, rfl, hb, hc⟩ := (hD.ext hE) (by omega);have hL := (hat.out k hlt).ext hE;have c0 : wo.cell? ⟨b, off + k * 7, none⟩ = some (.int .i64 (p.dl k).on.y) := by simpa [Qz] using hc k 0 _ hlt rfl
   have c1 : wo.cell? ⟨b,off + k * 7 + 1,none⟩ = some (.int .i64 (p.dl k).on.m):=by simpa [Qz] using hc k 1 _ hlt rfl
   have c2 : wo.cell? ⟨b,off + k * 7 + 2,none⟩ = some (.bool (p.dl k).on.s):=by simpa [Qz] using hc k 2 _ hlt rfl
   have c3 : wo.cell? ⟨b,off + k * 7 + 3,none⟩ = some (.int .i64 (p.dl k).on.d):=by simpa [Qz] using hc k 3 _ hlt rfl
   have c4 : wo.cell? ⟨b,off + k * 7 + 4,none⟩ = some (.bool (p.dl k).i):=by simpa [Qz] using hc k 4 _ hlt rfl
   have c5 : wo.cell? ⟨b,off + k * 7 + 5,none⟩ = some (.string (p.dl k).w):=by simpa [Qz] using hc k 5 _ hlt rfl
   have c6 : wo.cell? ⟨b,off + k * 7 + 6,none⟩ = some (vs' k):=by simpa [Qz] using hc k 6 _ hlt rfl
   have NG:=fun w h => Qdy (vs' k) (p.dl k).l w h
   have ND:=fun w h => Wq A A' ca cb c (p.dl k).on w h
   have NN:=fun w => Vh (p.dl k).w w
   have HK : Hid (c.dealOk p k = !(decide (c.numV (p.dl k).on < c.lastD p k) || decide (c.numV p.b < c.numV (p.dl k).on) || !Zx (p.dl k).w || ((p.dl k).w.toList == p.h.toList) || !Xi (p.dl k).l)):=by
    unfold Hid;rw [Qc3,Mp]
   have hno : Hid (c.dealOk p k = false → R = false):=fun h => by
    rw [HR2.out];exact List.all_eq_false.2 ⟨k,by simpa using hlt,by simp [h]⟩
   have hyes : Hid (c.dealOk p k = true → ∀ j,j < k + 1 → c.dealOk p j = true):=fun h j hj => by
    by_cases e : j = k
    ·subst e;exact h
    ·exact hall.out j (by omega)
   have hlo : Hid (c.lastD p (k + 1) = c.numV (p.dl k).on):=rfl;obtain ⟨VL,hvl⟩:=Qg (vs' k);rw [← hvl] at c6 NG hL;clear hvl hc hall HR2 hD hat;obtain ⟨TL,cl,hVL,_⟩:=id hL;subst hVL;generalize c.dealOk p k = dk at *;generalize c.lastD p k = L0 at *;generalize c.numV (p.dl k).on = L1 at *;generalize c.numV p.b = L2 at *;generalize Zx (p.dl k).w = nm at *;generalize hse : ((p.dl k).w.toList == p.h.toList) = se at *;generalize Xi (p.dl k).l = gv1 at *;go_upto_region 7 with (fail)
   obtain ⟨v3,hv⟩:=Qg (wo.alloc (.cells #[.int .i64 (p.dl k).on.y,.int .i64 (p.dl k).on.m,.bool (p.dl k).on.s,.int .i64 (p.dl k).on.d,.bool (p.dl k).i,.string (p.dl k).w,.slice TL (p.dl k).l.length cl] 57));rw [← hv];have E3 : Qb wo v3:=by rw [hv];exact (Qb.refl _).alloc _
   have H3 : Qa v3 wo.heap.size 57 #[.int .i64 (p.dl k).on.y,.int .i64 (p.dl k).on.m,.bool (p.dl k).on.s,.int .i64 (p.dl k).on.d,.bool (p.dl k).i,.string (p.dl k).w,.slice TL (p.dl k).l.length cl]:=by rw [hv];exact Qa.new _ _ _
   clear hv;generalize wo.heap.size = b3 at *;clear c0 c1 c2 c3 c4 c5 c6;replace hL:=hL.ext E3;replace hE:=hE.trans E3;clear E3;have B1e:=B1.ext hE;obtain ⟨k0,k1⟩:=B1e.c2;have lk:=B1e.lt;obtain ⟨q0,q1,q2,q3,q4,q5,q6⟩:=Yk H3;have lq:=H3.lt;go_upto_region 8 with (go_at_call 48;(with_reducible refine Calls.mono (ND _ (C.ext hE)) ?_);rintro e w4 ⟨rfl,h4⟩)
   replace hE:=hE.trans h4;replace H3:=H3.ext h4;replace hL:=hL.ext h4;clear h4 q0 q1 q2 q3 q4 q5 q6 lq k0 k1 lk B1e ND;obtain ⟨q0,q1,q2,q3,q4,q5,q6⟩:=Yk H3;have lq:=H3.lt;have B2e:=B2.ext hE;obtain ⟨p0,p1,p2,p3,p4,p5,p6,p7,p8,p9,p10,p11⟩:=B2e.c12;have lp:=B2e.lt;by_cases a1 : L1 < L0
   ·have g1 : decide (L1 < L0) = true:=decide_eq_true a1;have hr:=hno.out (by rw [HK.out,g1];rfl);clear HK hno hyes hlo a1 hse;go_wp2;go_ret;exact ⟨by rw [hr];rfl,E.trans hE⟩
   have g1 : decide (L1 < L0) = false:=decide_eq_false a1;rw [g1] at HK;clear a1;by_cases a2 : L2 < L1
   ·have g2 : decide (L2 < L1) = true:=decide_eq_true a2;have hr:=hno.out (by rw [HK.out,g2];rfl);clear HK hno hyes hlo a2 hse;go_wp2;go_ret;exact ⟨by rw [hr];rfl,E.trans hE⟩
   have g2 : decide (L2 < L1) = false:=decide_eq_false a2;rw [g2] at HK;clear a2;cases nm
   ·have hr:=hno.out (by rw [HK.out];rfl);clear HK hno hyes hlo hse;go_wp2_with (first | (go_at_call 120;(with_reducible refine Calls.mono (NN _) ?_);rintro e wn ⟨rfl,rfl⟩));go_ret;exact ⟨by rw [hr];rfl,E.trans hE⟩
   cases se
   rotate_left
   ·have hr:=hno.out (by rw [HK.out];rfl);clear HK hno hyes hlo;go_wp2_with (first | (go_at_call 120;(with_reducible refine Calls.mono (NN _) ?_);rintro e wn ⟨rfl,rfl⟩));go_ret;exact ⟨by rw [hr];rfl,E.trans hE⟩
   cases gv1
   ·have hr:=hno.out (by rw [HK.out];rfl);clear HK hno hyes hlo;go_wp2_with (first | (go_at_call 120;(with_reducible refine Calls.mono (NN _) ?_);rintro e wn ⟨rfl,rfl⟩) | (go_at_call 184;(with_reducible refine Calls.mono (NG _ hL) ?_);rintro e w6 ⟨rfl,h6⟩));go_ret;exact ⟨by rw [hr];rfl,(E.trans hE).trans h6⟩
   have hx:=Lib.hid (hyes.out (by rw [HK.out];rfl));clear HK hno hyes;go_wp2_with (first | (go_at_call 120;(with_reducible refine Calls.mono (NN _) ?_);rintro e wn ⟨rfl,rfl⟩) | (go_at_call 184;(with_reducible refine Calls.mono (NG _ hL) ?_);rintro e w6 ⟨rfl,h6⟩));exact ⟨⟨k + 1,by omega,by go_num,by rw [hlo.out],hx,hE.trans h6⟩,by simp [intOf];omega⟩
  ·obtain rfl : k = n := by omega
   have hr : R = true:=by
    rw [HR2.out];exact List.all_eq_true.2 fun j hj => hall.out j (by simpa using hj)
   clear HR2 hall;subst hr;go_wp2;go_ret;exact ⟨rfl,E.trans hE⟩
theorem Fw (l : List Lt) : l.flatMap J1 = Zw (Zc (Za l)) l.length:=by
 conv => lhs;rw [← Ck l]
 unfold Jm Zw;rw [List.flatMap_map];rfl
theorem Kv {w : World} {base k : Nat} {v : Value} {l : List Lt} (h : w.ownsRow base 85 2 v k (l.flatMap J1)) : Zz w v l:=by
 have hk:=h.1;rw [Ro] at hk;obtain rfl : k = l.length:=by omega
 rw [Fw] at h;obtain ⟨F,c,h1,h2,h3,h4,h5,_⟩:=Ve (f:=Zc (Za l)) (fun _ => rfl) h;exact ⟨F,c,h1,h2,h3,h4,h5⟩
theorem Oa (w : World) : Zz w (.slice none 0 0) []:=⟨none,0,rfl,Qp.nil,Nat.le_refl _,Nat.zero_le _,fun _ => ⟨rfl,rfl⟩⟩
def Qx : Pd:=⟨⟨#[]⟩,⟨0,0,false,0⟩,⟨0,0,false,0⟩,[],[],[]⟩
def Qu (p : Pd) (vo vd vc : Value) : List Value:=[.string p.h,.int .i64 p.a.y,.int .i64 p.a.m,.bool p.a.s,.int .i64 p.a.d,.int .i64 p.b.y,.int .i64 p.b.m,.bool p.b.s,.int .i64 p.b.d,vo,vd,vc]
/-- A slice value that reads as a list of periods. -/
def Yf (w : World) (v : Value) (l : List Pd) : Prop:=∃ D cap,∃ vo vd vc : Nat → Value,v = .slice D l.length cap ∧ Qp w D l.length 12 (fun i => Qu (l.getD i Qx) (vo i) (vd i) (vc i)) ∧ l.length ≤ cap ∧ cap ≤ maxLen ∧ (D = none → l.length = 0 ∧ cap = 0) ∧ ∀ i,i < l.length → Xm w (l.getD i Qx) (vo i) (vd i) (vc i)
theorem Yf.ext {w w' : World} {v : Value} {l : List Pd} (h : Yf w v l) (e : Qb w w') : Yf w' v l:=by
 obtain ⟨D,cap,vo,vd,vc,h1,h2,h3,h4,h5,h6⟩:=h;exact ⟨D,cap,vo,vd,vc,h1,h2.ext e,h3,h4,h5,fun i hi => (h6 i hi).ext e⟩
theorem Qhc {c : Qf} {p : Pd} (h : c.perE p = 0) : p.o.length ≤ 64:=by
 unfold Qf.perE at h;cases hv : c.valid
 ·rw [hv,if_neg (by simp)] at h;exact absurd h (by decide)
 ·rw [hv,if_pos rfl] at h;cases ho : c.perOk p
  ·rw [ho,if_neg (by simp)] at h;exact absurd h (by decide)
  ·unfold Qf.perOk Qf.perHead at ho;simp only [Bool.and_eq_true,decide_eq_true_eq] at ho;exact (Rp ho.1.1.1.2).1
def Qf.persE (c : Qf) (l : List Pd) : Int:=if l.all c.perOk then 0 else 83
def Qf.validE (c : Qf) (l : List Pd) : Int:=if c.chk ≠ 0 then c.chk else c.persE l
theorem Qiv (c : Qf) (p : Pd) : c.validE [p] = c.perE p:=by
 unfold Qf.validE Qf.perE Qf.chk Qf.persE;cases c.valid <;> simp
theorem Sw {l : List Pd} {P : Pd → Bool} {k : Nat} (hk : k < l.length) (h : P (l.getD k Qx) = false) : l.all P = false :=
 List.all_eq_false.2 ⟨l[k],List.getElem_mem hk,by simpa [List.getD_eq_getElem?_getD,hk] using h⟩
theorem Sx {l : List Pd} {P : Pd → Bool} (h : ∀ k,k < l.length → P (l.getD k Qx) = true) : l.all P = true :=
 List.all_eq_true.2 fun x hx => by
  obtain ⟨k,hk,rfl⟩:=List.mem_iff_getElem.1 hx
  simpa [List.getD_eq_getElem?_getD,hk] using h k hk
theorem Qhf {w : World} {b : Nat} {t : TypeId} {p : Pd} {vo vd vc : Value} (h : Qa w b t (Qu p vo vd vc).toArray) (hP : Xm w p vo vd vc) : Yf w (.slice (some ⟨b,0,none⟩) 1 1) [p] :=
 ⟨some ⟨b,0,none⟩,1,fun _ => vo,fun _ => vd,fun _ => vc,rfl,Ke (f:=fun _ => Qu p vo vd vc) (n:=1) (fun _ => rfl) (by simpa [Zw] using h) |>.congr (fun i hi => by obtain rfl : i = 0:=(by simp at hi;omega);rfl),Nat.le_refl _,by decide,fun h => (by cases h),fun i hi => by obtain rfl : i = 0:=(by simp at hi;omega);exact hP⟩
theorem Qcm (v : Value) (l : List Lt) (w : World) (hL : Zz w v l) (hn : l.length ≤ 1000000) :
  Calls Tryz.prog 59 #[v] w fun e w' => ∃ v',e = .returned v' ∧ Qb w w' ∧ w'.ownsRow w.heap.size 85 2 v' l.length (l.flatMap J1):=by
 rw [Fw];obtain ⟨T,cap,rfl,hT,hcap,hmax,hnil⟩:=hL;generalize l.length = n at *;generalize Za l = f at *;have q23 : ∀ (w : World) (a : Option Addr) (n c n' c' : Nat),(binOp .eql 52 (.slice a n c) (.slice none n' c')).run Tryz.prog w = .ok (.bool a.isNone) w:=fun w a n c n' c' => Lib.run_eql_slice_nil w _ _ a n c n' c' Tryz.underlying52
 cases T with
 | none =>
  obtain ⟨rfl,rfl⟩:=hnil rfl
  go_enter Tryz.func59,Tryz.ntmps59
  go_wp2;go_ret
  exact ⟨_,rfl,Qb.refl _,World.ownsRow_nil _ _ _ _⟩
 | some a =>
  obtain ⟨i0,hi,hz0,hz1,hz2⟩:=info_parts Bm;have hlen:=Xx (f:=Zc f) (sz:=2) (fun _ => rfl) n;have hone : ∀ u ∈ Zw (Zc f) n,u.oneCell' = true:=Fx (f:=Zc f) (n:=n) (fun i u hu => by simp [Zc] at hu;rcases hu with rfl | rfl <;> simp [Value.oneCell']);have HN:=fun v (h : Qp v (some a) n 2 (Zc f)) => Nl (f:=Zc f) (sz:=2) (fun _ => rfl) (by decide) h
  go_enter Tryz.func59,Tryz.ntmps59
  go_wp2_with (at_builtin;refine wpList_append_own _ rfl _ _ 52 rfl w.heap.size 85 i0 (.agg #[.string ⟨#[]⟩,.int .i64 0]) 2 24 Tryz.underlying52 hi hz0 hz1 hz2 rfl (by decide) _ _ _ rfl (World.ownsRow_made w #[] 0 (Nat.le_refl _) (Nat.zero_le _) rfl) a n cap (Zw (Zc f) n) rfl hlen (HN _ (hT.ext ((Qb.refl _).alloc _)) a rfl) hone (by unfold maxLen;omega) (by omega) (by simp) ?_;intro v' w1 hown hgrow hnil2);go_ret;refine ⟨v',rfl,((Qb.refl w).alloc _).grown hgrow (fun q hq => by have h : some w.heap.size = some q:=hq;cases h;exact Nat.le_refl _),by simpa using hown⟩
theorem Ew (A A' : Option Addr) (ca cb : Nat) (c : Qf) (v : Value) (l : List Pd) (w : World) (hC : Q8 w A ca A' cb c) (hP : Yf w v l) :
  Calls Tryz.prog 107 #[.agg #[.slice A c.nk ca,.slice A' c.ny cb],v] w fun e w' => e = .returned (.int .i64 (c.persE l)) ∧ Qb w w':=by
 obtain ⟨D,cap,vo,vd,vc,rfl,hD,hcap,hmax,_,hat⟩:=hP;have hn : l.length ≤ 9223372036854775807:=Nat.le_trans hcap (Nat.le_trans hmax (by decide));obtain ⟨R,hR0⟩:=Qg (c.persE l);rw [← hR0];have HR:=Lib.hid hR0;clear hR0;obtain ⟨n,hnl⟩:=Qg (l.length);rw [← hnl] at hn hD hat hcap ⊢;replace hnl:=Lib.hid hnl;obtain ⟨g,hg⟩:=Qg (fun i => l.getD i Qx);have hg' : ∀ i,l.getD i Qx = g i:=fun i => by rw [hg]
 simp only [hg'] at hD hat;replace hg:=Lib.hid hg;clear hg';replace hat:=Lib.hid hat
 go_enter Tryz.func107,Tryz.ntmps107
 go_upto_region 1 with (fail)
 obtain ⟨v,hv⟩:=Qg (w.alloc (.cells #[.slice A c.nk ca,.slice A' c.ny cb] 130));rw [← hv];have E : Qb w v:=by rw [hv];exact (Qb.refl _).alloc _
 have B1 : Qa v w.heap.size 130 #[.slice A c.nk ca,.slice A' c.ny cb]:=by rw [hv];exact (Qa.new _ _ _)
 clear hv;obtain ⟨b1,hb1⟩:=Qg (w.heap.size);rw [← hb1] at B1 ⊢;have hbr : w.heap.size ≤ b1:=by omega
 clear hb1;have C:=hC.ext E;replace hD:=hD.ext E;replace hat:=Lib.hid fun i hi => (hat.out i hi).ext E
 clear hC;go_upto_region 2 with (fail)
 go_loopw [9] (fun i wr => ∃ k : Nat,k ≤ n ∧ i = .int .i64 k ∧ Hid (∀ j,j < k → c.perOk (g j) = true) ∧ Qb v wr) (fun i _ => n - (intOf i).toNat)
 case atStart => exact ⟨0,Nat.zero_le _,rfl,(fun j h => absurd h (by omega)),Qb.refl _⟩
 case round =>
  obtain ⟨k,hk,rfl,hall,hE⟩:=hrel;obtain ⟨wo,rfl⟩:=Qg wr;by_cases hlt : k < n
  ·obtain ⟨b, off, rfl, hb, hc⟩ := (hD.ext hE) (by omega);have hP := hat.out k hlt;have c0 : wo.cell? ⟨b, off + k * 12, none⟩ = some (.string (g k).h) := by simpa [Qu] using hc k 0 _ hlt rfl
   have c1 : wo.cell? ⟨b,off + k * 12 + 1,none⟩ = some (.int .i64 (g k).a.y):=by simpa [Qu] using hc k 1 _ hlt rfl
   have c2 : wo.cell? ⟨b,off + k * 12 + 2,none⟩ = some (.int .i64 (g k).a.m):=by simpa [Qu] using hc k 2 _ hlt rfl
   have c3 : wo.cell? ⟨b,off + k * 12 + 3,none⟩ = some (.bool (g k).a.s):=by simpa [Qu] using hc k 3 _ hlt rfl
   have c4 : wo.cell? ⟨b,off + k * 12 + 4,none⟩ = some (.int .i64 (g k).a.d):=by simpa [Qu] using hc k 4 _ hlt rfl
   have c5 : wo.cell? ⟨b,off + k * 12 + 5,none⟩ = some (.int .i64 (g k).b.y):=by simpa [Qu] using hc k 5 _ hlt rfl
   have c6 : wo.cell? ⟨b,off + k * 12 + 6,none⟩ = some (.int .i64 (g k).b.m):=by simpa [Qu] using hc k 6 _ hlt rfl
   have c7 : wo.cell? ⟨b,off + k * 12 + 7,none⟩ = some (.bool (g k).b.s):=by simpa [Qu] using hc k 7 _ hlt rfl
   have c8 : wo.cell? ⟨b,off + k * 12 + 8,none⟩ = some (.int .i64 (g k).b.d):=by simpa [Qu] using hc k 8 _ hlt rfl
   have c9 : wo.cell? ⟨b,off + k * 12 + 9,none⟩ = some (vo k):=by simpa [Qu] using hc k 9 _ hlt rfl
   have c10 : wo.cell? ⟨b,off + k * 12 + 10,none⟩ = some (vd k):=by simpa [Qu] using hc k 10 _ hlt rfl
   have c11 : wo.cell? ⟨b,off + k * 12 + 11,none⟩ = some (vc k):=by simpa [Qu] using hc k 11 _ hlt rfl
   have NP:=fun w h1 h2 => Qhd A A' ca cb c (g k) (vo k) (vd k) (vc k) w h1 h2
   have hno : Hid (c.perOk (g k) = false → R = 83):=fun h => by
    rw [HR.out];unfold Qf.persE;rw [if_neg (by rw [Bool.not_eq_true];exact Sw (k:=k) (by rw [← hnl.out];exact hlt) (by rw [hg.out] at h;exact h))]
   have hyes : Hid (c.perOk (g k) = true → ∀ j,j < k + 1 → c.perOk (g j) = true):=fun h j hj => by
    by_cases e : j = k
    ·subst e;exact h
    ·exact hall.out j (by omega)
   obtain ⟨VO,VD,VC,hvo,hvd,hvc⟩ : ∃ x y z,x = vo k ∧ y = vd k ∧ z = vc k:=⟨_,_,_,rfl,rfl,rfl⟩;rw [← hvo] at c9 NP hP;rw [← hvd] at c10 NP hP;rw [← hvc] at c11 NP hP;clear hvo hvd hvc hc hall HR hat hg;obtain ⟨t1,s1,e1,_⟩:=hP.o;subst e1;obtain ⟨t2,s2,_,e2,_⟩:=hP.d;subst e2;obtain ⟨t3,s3,e3,_⟩:=hP.c;subst e3;go_upto_region 4 with (fail)
   obtain ⟨v3,hv⟩:=Qg (wo.alloc (.cells #[.string (g k).h,.int .i64 (g k).a.y,.int .i64 (g k).a.m,.bool (g k).a.s,.int .i64 (g k).a.d,.int .i64 (g k).b.y,.int .i64 (g k).b.m,.bool (g k).b.s,.int .i64 (g k).b.d,.slice t1 (g k).o.length s1,.slice t2 (g k).d.length s2,.slice t3 (g k).c.length s3] 55));rw [← hv];have E3 : Qb wo v3:=by rw [hv];exact (Qb.refl _).alloc _
   have H3 : Qa v3 wo.heap.size 55 #[.string (g k).h,.int .i64 (g k).a.y,.int .i64 (g k).a.m,.bool (g k).a.s,.int .i64 (g k).a.d,.int .i64 (g k).b.y,.int .i64 (g k).b.m,.bool (g k).b.s,.int .i64 (g k).b.d,.slice t1 (g k).o.length s1,.slice t2 (g k).d.length s2,.slice t3 (g k).c.length s3]:=by rw [hv];exact Qa.new _ _ _
   clear hv;generalize wo.heap.size = b3 at *;clear c0 c1 c2 c3 c4 c5 c6 c7 c8 c9 c10 c11;replace NP:=NP v3 (C.ext (hE.trans E3)) (hP.ext (hE.trans E3));replace hE:=hE.trans E3;have B1e:=B1.ext hE;obtain ⟨k0,k1⟩:=B1e.c2;have lk:=B1e.lt;obtain ⟨p0,p1,p2,p3,p4,p5,p6,p7,p8,p9,p10,p11⟩:=H3.c12;have lp:=H3.lt;clear E3 hP;cases hq : c.perOk (g k)
   ·have hr:=hno.out hq;rw [hq] at NP;clear hno hyes hq;go_wp2_with (go_at_call 159;(with_reducible refine Calls.mono (NP) ?_);rintro e w2 ⟨rfl,h⟩);go_ret;exact ⟨by rw [hr];rfl,(E.trans hE).trans h⟩
   ·have hx:=Lib.hid (hyes.out hq);rw [hq] at NP;clear hno hyes hq;go_wp2_with (go_at_call 159;(with_reducible refine Calls.mono (NP) ?_);rintro e w2 ⟨rfl,h⟩);exact ⟨⟨k + 1,by omega,by go_num,hx,hE.trans h⟩,by simp [intOf];omega⟩
  ·obtain rfl : k = n := by omega
   have hr : R = 0:=by
    rw [HR.out];unfold Qf.persE;rw [if_pos (Sx fun j hj => by have:=hall.out j (by rw [hnl.out];exact hj);rw [hg.out] at this;exact this)]
   clear HR hall hat hg;go_wp2;go_ret;exact ⟨by rw [hr];rfl,E.trans hE⟩
theorem Qa8 (v1 v2 : Value) (a b : List Lt) (w : World) (h1 : Zz w v1 a) (h2 : Zz w v2 b) :
  Calls Tryz.prog 19 #[v1,v2] w fun e w' => ∃ F k m,e = .returned (.tuple #[.slice F k m,.int .i64 (Xd 1 a b)]) ∧ Qb w w' ∧ Zz w' (.slice F k m) (Ua 1 a b):=by
 obtain ⟨T,cap,rfl,hT,hcap,hmax,_⟩:=h1;obtain ⟨S,cm,rfl,hS,hcm,hmm,_⟩:=h2;refine Calls.mono (Qa9 T a.length cap (Za a) S b.length cm (Za b) w hT hcap (Nat.le_trans hcap (Nat.le_trans hmax (by decide))) hS hcm (Nat.le_trans hcm (Nat.le_trans hmm (by decide)))) ?_;rintro e w' ⟨F,k,c,rfl,hx,ho⟩;exact ⟨F,k,c,rfl,hx,Kv ho⟩
theorem Qib (v1 v2 : Value) (a b : List Lt) (w : World) (h1 : Zz w v1 a) (h2 : Zz w v2 b) :
  Calls Tryz.prog 108 #[v1,v2] w fun e w' => ∃ F k m,e = .returned (.tuple #[.slice F k m,.int .i64 (Xd (-1) a b)]) ∧ Qb w w' ∧ Zz w' (.slice F k m) (Ua (-1) a b):=by
 obtain ⟨T,cap,rfl,hT,hcap,hmax,_⟩:=h1;obtain ⟨S,cm,rfl,hS,hcm,hmm,_⟩:=h2;refine Calls.mono (Qic T a.length cap (Za a) S b.length cm (Za b) w hT hcap (Nat.le_trans hcap (Nat.le_trans hmax (by decide))) hS hcm (Nat.le_trans hcm (Nat.le_trans hmm (by decide)))) ?_;rintro e w' ⟨F,k,c,rfl,hx,ho⟩;exact ⟨F,k,c,rfl,hx,Kv ho⟩
theorem Qid (s : List Lt) {d : List Dl} {k : Nat} (hk : k < d.length) : J8 s (d.drop k) = if Xd (We (d.getD k Zi).i) s (d.getD k Zi).l ≠ 0 then ([],Xd (We (d.getD k Zi).i) s (d.getD k Zi).l) else J8 (Ua (We (d.getD k Zi).i) s (d.getD k Zi).l) (d.drop (k + 1)):=by
 have e : d.getD k Zi = d[k]:=by simp [List.getD_eq_getElem?_getD,hk]
 rw [e];exact Qie s d hk
theorem Qbt (vo vd : Value) (o : List Lt) (d : List Dl) (w : World) (hO : Zz w vo o) (hD : Un w vd d) (ho : o.length ≤ 1000000) :
  Calls Tryz.prog 61 #[vo,vd] w fun e w' => ∃ v',e = .returned (.tuple #[v',.int .i64 (J8 o d).2]) ∧ Qb w w' ∧ Zz w' v' (J8 o d).1:=by
 obtain ⟨D,cap,vs,rfl,hD,hcap,hmax,_,hat⟩:=hD;have hn : d.length ≤ 9223372036854775807:=Nat.le_trans hcap (Nat.le_trans hmax (by decide));have NC:=Qcm vo o w hO ho;obtain ⟨A0,cc0,rfl,_⟩:=id hO;obtain ⟨R,hR⟩:=Qg (J8 o d);rw [← hR];replace hR:=Lib.hid hR
 go_enter Tryz.func61,Tryz.ntmps61
 go_upto_region 2 with (go_at_call 59;(with_reducible refine Calls.mono (NC) ?_);rintro e w1 ⟨v0,rfl,h1,hown⟩)
 have hS0:=Kv hown;obtain ⟨F0,m0,rfl⟩:=Ya hown;clear NC hown hO;go_upto_region 3 with (fail)
 obtain ⟨n,hnl⟩:=Qg (d.length);rw [← hnl] at hn hD hat hcap ⊢;replace hnl:=Lib.hid hnl;obtain ⟨g,hg⟩:=Qg (fun i => d.getD i Zi);have hg' : ∀ i,d.getD i Zi = g i:=fun i => by rw [hg]
 have hdr : Hid (∀ s k,k < n → J8 s (d.drop k) = if Xd (We (g k).i) s (g k).l ≠ 0 then ([],Xd (We (g k).i) s (g k).l) else J8 (Ua (We (g k).i) s (g k).l) (d.drop (k + 1))):=fun s k hk => by
  rw [Qid s (by rw [← hnl.out];exact hk),hg']
 simp only [hg'] at hD hat;clear hg hg';replace hat:=Lib.hid hat;have hD1:=hD.ext h1
 go_loopw [6,16] (fun sv iv wr => ∃ (k : Nat) (s : List Lt),k ≤ n ∧ iv = .int .i64 k ∧ Zz wr sv s ∧ Hid (R = J8 s (d.drop k)) ∧ Qb w wr) (fun _ i _ => n - (intOf i).toNat)
 case atStart => exact ⟨0,o,Nat.zero_le _,rfl,hS0,by unfold Hid;rw [hR.out];rfl,h1⟩
 case round =>
  clear hS0;obtain ⟨k,s,hk,rfl,hS,hrun,hE⟩:=hrel;obtain ⟨wo,rfl⟩:=Qg wr;by_cases hlt : k < n
  ·obtain ⟨b, off, rfl, hb, hc⟩ := (hD.ext hE) (by omega);have hL := (hat.out k hlt).ext hE;have c0 : wo.cell? ⟨b, off + k * 7, none⟩ = some (.int .i64 (g k).on.y) := by simpa [Qz] using hc k 0 _ hlt rfl
   have c1 : wo.cell? ⟨b,off + k * 7 + 1,none⟩ = some (.int .i64 (g k).on.m):=by simpa [Qz] using hc k 1 _ hlt rfl
   have c2 : wo.cell? ⟨b,off + k * 7 + 2,none⟩ = some (.bool (g k).on.s):=by simpa [Qz] using hc k 2 _ hlt rfl
   have c3 : wo.cell? ⟨b,off + k * 7 + 3,none⟩ = some (.int .i64 (g k).on.d):=by simpa [Qz] using hc k 3 _ hlt rfl
   have c4 : wo.cell? ⟨b,off + k * 7 + 4,none⟩ = some (.bool (g k).i):=by simpa [Qz] using hc k 4 _ hlt rfl
   have c5 : wo.cell? ⟨b,off + k * 7 + 5,none⟩ = some (.string (g k).w):=by simpa [Qz] using hc k 5 _ hlt rfl
   have c6 : wo.cell? ⟨b,off + k * 7 + 6,none⟩ = some (vs k):=by simpa [Qz] using hc k 6 _ hlt rfl
   have HS:=Lib.hid (hdr.out s k hlt);obtain ⟨VL,hvl⟩:=Qg (vs k);rw [← hvl] at c6 hL;clear hvl hc hdr hat hR hD hD1;obtain ⟨TL,cl,hVL,_⟩:=id hL;subst hVL;obtain ⟨AS,cs,hsv,_⟩:=id hS;subst hsv;obtain ⟨SD,hSD⟩:=Qg (J8 s (d.drop k));rw [← hSD] at HS hrun;clear hSD;go_upto_region 5 with (fail)
   obtain ⟨v3,hv⟩:=Qg (wo.alloc (.cells #[.int .i64 (g k).on.y,.int .i64 (g k).on.m,.bool (g k).on.s,.int .i64 (g k).on.d,.bool (g k).i,.string (g k).w,.slice TL (g k).l.length cl] 57));rw [← hv];have E3 : Qb wo v3:=by rw [hv];exact (Qb.refl _).alloc _
   have H3 : Qa v3 wo.heap.size 57 #[.int .i64 (g k).on.y,.int .i64 (g k).on.m,.bool (g k).on.s,.int .i64 (g k).on.d,.bool (g k).i,.string (g k).w,.slice TL (g k).l.length cl]:=by rw [hv];exact Qa.new _ _ _
   clear hv;generalize wo.heap.size = b3 at *;clear c0 c1 c2 c3 c4 c5 c6;replace hL:=hL.ext E3;replace hS:=hS.ext E3;replace hE:=hE.trans E3;clear E3;have NA:=fun h1 h2 => Qa8 (.slice AS s.length cs) (.slice TL (g k).l.length cl) s (g k).l v3 h1 h2
   have NB:=fun h1 h2 => Qib (.slice AS s.length cs) (.slice TL (g k).l.length cl) s (g k).l v3 h1 h2
   obtain ⟨q0,q1,q2,q3,q4,q5,q6⟩:=Yk H3;have lq:=H3.lt;cases hi : (g k).i
   ·have NX:=NB hS hL;rw [hi] at HS;have HS2 : Hid (SD = if Xd (-1) s (g k).l ≠ 0 then ([],Xd (-1) s (g k).l) else J8 (Ua (-1) s (g k).l) (d.drop (k + 1))):=HS;rw [hi] at q4;clear HS hi;generalize hce : Xd (-1) s (g k).l = E1 at *;generalize Ua (-1) s (g k).l = L1 at *;by_cases e0 : E1 = 0
    ·subst e0;have HS3:=Lib.hid (HS2.out.trans (if_neg (by simp)));clear HS2 hce;go_wp2_with (first | (go_at_call 108;(with_reducible refine Calls.mono (NX) ?_);rintro e w6 ⟨F6,k6,m6,rfl,h6,L6⟩) | (go_at_fn 108;(with_reducible refine Calls.mono (NX) ?_);rintro e w6 ⟨F6,k6,m6,rfl,h6,L6⟩));exact ⟨⟨k + 1,L1,by omega,by go_num,L6,Lib.hid (hrun.out.trans HS3.out),hE.trans h6⟩,by simp [intOf];omega⟩
    ·have g0 : (E1 == 0) = false := beq_eq_false_iff_ne.2 e0;have g0n : (E1 != 0) = true := by rw [bne, g0]; rfl
     have HS3:=Lib.hid (hrun.out.trans (HS2.out.trans (if_pos e0)));clear HS2 hrun hce e0;go_wp2_with (first | (go_at_call 108;(with_reducible refine Calls.mono (NX) ?_);rintro e w6 ⟨F6,k6,m6,rfl,h6,L6⟩) | (go_at_fn 108;(with_reducible refine Calls.mono (NX) ?_);rintro e w6 ⟨F6,k6,m6,rfl,h6,L6⟩));go_ret2;exact ⟨_,by rw [HS3.out];rfl,hE.trans h6,by rw [HS3.out];exact Oa _⟩
   ·have NX:=NA hS hL;rw [hi] at HS;have HS2 : Hid (SD = if Xd 1 s (g k).l ≠ 0 then ([],Xd 1 s (g k).l) else J8 (Ua 1 s (g k).l) (d.drop (k + 1))):=HS;rw [hi] at q4;clear HS hi;generalize hce : Xd 1 s (g k).l = E1 at *;generalize Ua 1 s (g k).l = L1 at *;by_cases e0 : E1 = 0
    ·subst e0;have HS3:=Lib.hid (HS2.out.trans (if_neg (by simp)));clear HS2 hce;go_wp2_with (first | (go_at_call 19;(with_reducible refine Calls.mono (NX) ?_);rintro e w6 ⟨F6,k6,m6,rfl,h6,L6⟩) | (go_at_fn 19;(with_reducible refine Calls.mono (NX) ?_);rintro e w6 ⟨F6,k6,m6,rfl,h6,L6⟩));exact ⟨⟨k + 1,L1,by omega,by go_num,L6,Lib.hid (hrun.out.trans HS3.out),hE.trans h6⟩,by simp [intOf];omega⟩
    ·have g0 : (E1 == 0) = false := beq_eq_false_iff_ne.2 e0;have g0n : (E1 != 0) = true := by rw [bne, g0]; rfl
     have HS3:=Lib.hid (hrun.out.trans (HS2.out.trans (if_pos e0)));clear HS2 hrun hce e0;go_wp2_with (first | (go_at_call 19;(with_reducible refine Calls.mono (NX) ?_);rintro e w6 ⟨F6,k6,m6,rfl,h6,L6⟩) | (go_at_fn 19;(with_reducible refine Calls.mono (NX) ?_);rintro e w6 ⟨F6,k6,m6,rfl,h6,L6⟩));go_ret2;exact ⟨_,by rw [HS3.out];rfl,hE.trans h6,by rw [HS3.out];exact Oa _⟩
  ·obtain rfl : k = n := by omega
   have hr : Hid (R = (s,0)):=by
    unfold Hid;rw [hrun.out,hnl.out,List.drop_length];rfl
   clear hrun hdr hat hR;go_wp2;go_ret2;exact ⟨_,by rw [hr.out];rfl,hE,by rw [hr.out];exact hS⟩
theorem Qiw (A A' : Option Addr) (ca cb : Nat) (c : Qf) (v : Value) (l : List Pd) (w : World) (hC : Q8 w A ca A' cb c) (hP : Yf w v l) :
  Calls Tryz.prog 73 #[.agg #[.slice A c.nk ca,.slice A' c.ny cb],v] w fun e w' => e = .returned (.tuple #[.agg #[.slice A c.nk ca,.slice A' c.ny cb],.int .i64 (c.validE l)]) ∧ Qb w w':=by
 have NO:=fun w h => Mf A A' ca cb c w h
 obtain ⟨D,cap,_,_,_,hv9,_⟩:=id hP;subst hv9;have NP:=fun w h1 h2 => Ew A A' ca cb c (.slice D l.length cap) l w h1 h2
 obtain ⟨R,hR0⟩:=Qg (c.validE l);rw [← hR0];have HR:=Lib.hid hR0;clear hR0
 go_enter Tryz.func73,Tryz.ntmps73
 go_upto_region 1 with (fail)
 obtain ⟨v,hv⟩:=Qg ((w.alloc (.cells #[.slice A c.nk ca,.slice A' c.ny cb] 25)).alloc (.cells #[.slice none 0 0,.slice none 0 0] 130));rw [← hv];have E : Qb w v:=by rw [hv];exact ((Qb.refl _).alloc _).alloc _
 have B1 : Qa v w.heap.size 25 #[.slice A c.nk ca,.slice A' c.ny cb]:=by rw [hv];exact (Qa.new _ _ _).alloc _
 have B2 : Qa v (w.heap.size + 1) 130 #[.slice none 0 0,.slice none 0 0]:=by rw [hv];exact Qa.at _ _ _ _ (by simp)
 clear hv;obtain ⟨b2,hb2⟩:=Qg (w.heap.size + 1);rw [← hb2] at B2 ⊢;obtain ⟨b1,hb1⟩:=Qg (w.heap.size);rw [← hb1] at B1 ⊢;have hbr : w.heap.size ≤ b2:=by omega
 have hbr1 : w.heap.size ≤ b1:=by omega
 have hn21 : b2 ≠ b1:=by omega
 clear hb1 hb2;obtain ⟨k0,k1⟩:=B1.c2;have lk:=B1.lt;obtain ⟨ck,hck⟩:=Qg (c.chk);simp only [← hck] at NO;replace hck:=Lib.hid hck;go_upto_region 2 with (go_at_call 64;(with_reducible refine Calls.mono (NO _ (hC.ext E)) ?_);rintro e w1 ⟨rfl,h1⟩)
 obtain ⟨v3,hv⟩:=Qg (w1.alloc (.cells #[.slice A c.nk ca,.slice A' c.ny cb] 130));rw [← hv];have h3 : Qb w1 v3:=by rw [hv];exact (Qb.refl _).alloc _
 have H3 : Qa v3 w1.heap.size 130 #[.slice A c.nk ca,.slice A' c.ny cb]:=by rw [hv];exact Qa.new _ _ _
 clear hv;generalize w1.heap.size = b9 at *;replace E:=(E.trans h1).trans h3;replace B2:=(B2.ext h1).ext h3;have C:=hC.ext E;have P:=hP.ext E;clear hC hP k0 k1 lk B1 NO h1 h3;by_cases e0 : ck = 0;rotate_left
 ·have g0 : (ck == 0) = false := beq_eq_false_iff_ne.2 e0;have g0n : (ck != 0) = true := by rw [bne, g0]; rfl
  have hr : R = ck:=by rw [HR.out,hck.out];unfold Qf.validE;rw [if_pos (by rw [← hck.out];exact e0)]
  clear HR e0 hck NP;obtain ⟨k0,k1⟩:=H3.c2;have lk:=H3.lt;have f0:=B2.frozen 0;have f1:=B2.frozen 1;obtain ⟨x0,x1⟩:=B2.c2;have lx:=B2.lt;have H4:=Qm B2 (.slice A c.nk ca) (.slice A' c.ny cb);have EF:=(E.setCell (p:=⟨b2,0,none⟩) hbr (.slice A c.nk ca)).setCell (p:=⟨b2,1,none⟩) hbr (.slice A' c.ny cb);obtain ⟨y0,y1⟩:=H4.c2;go_wp2;refine bodyPost_ret (v:=.tuple #[.agg #[.slice A c.nk ca,.slice A' c.ny cb],.int .i64 ck]) (by simp [results,Tryz.results73,go_sem,y0,y1]) rfl ⟨by rw [hr],EF⟩
 ·subst e0;have hr : Hid (R = c.persE l) := by unfold Hid; rw [HR.out]; unfold Qf.validE; rw [if_neg (by rw [← hck.out]; simp)]
  clear HR hck;go_upto_region 4 with (fail)
  refine Zb 6 [4,5] (fun x => Qb v3 x) Qo rfl ?_;intro vz hvz;have HC:=hvz;refine Qs (g:=3) [0,1,2] [_,_,_] ⟨rfl,rfl,rfl,trivial⟩ (by kernel_rfl) (by kernel_rfl) HC ?_;simp only [Qc,Qd,Qe];apply Exists.intro;refine ⟨fun u hu => ?_,?_⟩
  ·obtain ⟨k0,k1⟩:=(H3.ext hu).c2;have lk:=(H3.ext hu).lt;repeat (first | go_big_quiet_skip | (go_big_quiet_want;go_big_quiet_op;go_big_quiet_on))
   refine wpQuiet_nil ?_;rfl
  refine Ql 3 rfl (by kernel_rfl) ?_;simp only [Qc,Qd,Qe];go_wp2_with (go_at_call 107;(with_reducible refine Calls.mono (NP _ (C.ext HC) (P.ext HC)) ?_);rintro e va ⟨rfl,h4⟩);replace HC:=HC.trans h4;clear h4;refine Qh HC ?_;refine Qr 4 rfl (by kernel_rfl) ?_;simp only [Qc,Qd,Qe];replace B2:=B2.ext HC;replace E:=E.trans HC;have f0:=B2.frozen 0;have f1:=B2.frozen 1;obtain ⟨x0,x1⟩:=B2.c2;have lx:=B2.lt;have H4:=Qm B2 (.slice A c.nk ca) (.slice A' c.ny cb);have EF:=(E.setCell (p:=⟨b2,0,none⟩) hbr (.slice A c.nk ca)).setCell (p:=⟨b2,1,none⟩) hbr (.slice A' c.ny cb);obtain ⟨y0,y1⟩:=H4.c2;go_wp2;refine Qq ?_;refine Qr 5 rfl (by kernel_rfl) ?_
  simp only [Qc,Qd,Qe];go_wp2;refine Qq ?_;refine Qv (by kernel_rfl) ?_;go_wp2;refine bodyPost_ret (v:=.tuple #[.agg #[.slice A c.nk ca,.slice A' c.ny cb],.int .i64 (c.persE l)]) (by simp [results,Tryz.results73,go_sem,y0,y1]) rfl ⟨by rw [hr.out],EF⟩
theorem Qcn (A A' : Option Addr) (ca cb : Nat) (c : Qf) (p : Pd) (vo vd vc : Value) (w : World) (hC : Q8 w A ca A' cb c) (hP : Xm w p vo vd vc) :
  Calls Tryz.prog 43 #[.agg #[.slice A c.nk ca,.slice A' c.ny cb],.agg #[.string p.h,.int .i64 p.a.y,.int .i64 p.a.m,.bool p.a.s,.int .i64 p.a.d,.int .i64 p.b.y,.int .i64 p.b.m,.bool p.b.s,.int .i64 p.b.d,vo,vd,vc]] w fun e w' => ∃ v',e = .returned (.tuple #[v',.int .i64 (c.closeV p).2]) ∧ Qb w w' ∧ Zz w' v' (c.closeV p).1:=by
 obtain ⟨t1,s1,e1,_⟩:=id hP.o;subst e1;obtain ⟨t2,s2,_,e2,_⟩:=id hP.d;subst e2;obtain ⟨t3,s3,e3,_⟩:=id hP.c;subst e3;have NV:=fun w h1 v h2 => Qiw A A' ca cb c v [p] w h1 h2
 simp only [Qiv] at NV;obtain ⟨R,hR0⟩:=Qg (c.closeV p);rw [← hR0];have HR:=Lib.hid hR0;clear hR0
 go_enter Tryz.func43,Tryz.ntmps43
 go_upto_region 1 with (fail)
 obtain ⟨v,hv⟩:=Qg ((w.alloc (.cells #[.slice A c.nk ca,.slice A' c.ny cb] 25)).alloc (.cells #[.string p.h,.int .i64 p.a.y,.int .i64 p.a.m,.bool p.a.s,.int .i64 p.a.d,.int .i64 p.b.y,.int .i64 p.b.m,.bool p.b.s,.int .i64 p.b.d,.slice t1 p.o.length s1,.slice t2 p.d.length s2,.slice t3 p.c.length s3] 55));rw [← hv];have E : Qb w v:=by rw [hv];exact ((Qb.refl _).alloc _).alloc _
 have B1 : Qa v w.heap.size 25 #[.slice A c.nk ca,.slice A' c.ny cb]:=by rw [hv];exact (Qa.new _ _ _).alloc _
 have B2 : Qa v (w.heap.size + 1) 55 #[.string p.h,.int .i64 p.a.y,.int .i64 p.a.m,.bool p.a.s,.int .i64 p.a.d,.int .i64 p.b.y,.int .i64 p.b.m,.bool p.b.s,.int .i64 p.b.d,.slice t1 p.o.length s1,.slice t2 p.d.length s2,.slice t3 p.c.length s3]:=by rw [hv];exact Qa.at _ _ _ _ (by simp)
 clear hv;obtain ⟨b2,hb2⟩:=Qg (w.heap.size + 1);rw [← hb2] at B2 ⊢;obtain ⟨b1,hb1⟩:=Qg (w.heap.size);rw [← hb1] at B1 ⊢;have hbr : w.heap.size ≤ b2:=by omega
 have hbr1 : w.heap.size ≤ b1:=by omega
 have hn21 : b2 ≠ b1:=by omega
 clear hb1 hb2;have C:=hC.ext E;have P:=hP.ext E;clear hC hP;obtain ⟨k0,k1⟩:=B1.c2;have lk:=B1.lt;obtain ⟨p0,p1,p2,p3,p4,p5,p6,p7,p8,p9,p10,p11⟩:=B2.c12;have lp:=B2.lt;obtain ⟨pe,hpe⟩:=Qg (c.perE p);simp only [← hpe] at NV;replace hpe:=Lib.hid hpe;have AL:=(Qb.refl v).alloc (.cells #[.string p.h,.int .i64 p.a.y,.int .i64 p.a.m,.bool p.a.s,.int .i64 p.a.d,.int .i64 p.b.y,.int .i64 p.b.m,.bool p.b.s,.int .i64 p.b.d,.slice t1 p.o.length s1,.slice t2 p.d.length s2,.slice t3 p.c.length s3] 55);have NV1:=NV _ (C.ext AL) (.slice (some ⟨v.heap.size,0,none⟩) 1 1) (Qhf (t:=55) (Qa.new v 55 #[.string p.h,.int .i64 p.a.y,.int .i64 p.a.m,.bool p.a.s,.int .i64 p.a.d,.int .i64 p.b.y,.int .i64 p.b.m,.bool p.b.s,.int .i64 p.b.d,.slice t1 p.o.length s1,.slice t2 p.d.length s2,.slice t3 p.c.length s3]) (P.ext AL))
 go_upto_region 2 with (go_at_call 73;(with_reducible refine Calls.mono (NV1) ?_);rintro e w1 ⟨rfl,h1⟩)
 replace h1:=AL.trans h1;clear NV NV1 AL;obtain ⟨v3,hv⟩:=Qg (w1.alloc (.cells #[.slice A c.nk ca,.slice A' c.ny cb] 130));rw [← hv];have h3 : Qb w1 v3:=by rw [hv];exact (Qb.refl _).alloc _
 have H3 : Qa v3 w1.heap.size 130 #[.slice A c.nk ca,.slice A' c.ny cb]:=by rw [hv];exact Qa.new _ _ _
 clear hv;generalize w1.heap.size = b9 at *;replace h1:=h1.trans h3;replace E:=E.trans h1;replace C:=C.ext h1;replace P:=P.ext h1;replace B2:=B2.ext h1;clear h1 h3 H3 B1 k0 k1 lk p0 p1 p2 p3 p4 p5 p6 p7 p8 p9 p10 p11 lp;by_cases e0 : pe = 0;rotate_left
 ·have g0 : (pe == 0) = false := beq_eq_false_iff_ne.2 e0;have g0n : (pe != 0) = true := by rw [bne, g0]; rfl
  have hr : Hid (R = ([],pe)):=by unfold Hid;rw [HR.out,hpe.out];unfold Qf.closeV;rw [if_pos (by rw [← hpe.out];exact e0)]
  clear HR e0 hpe;go_wp2;go_ret2;exact ⟨_,by rw [hr.out];rfl,E,by rw [hr.out];exact Oa _⟩
 ·subst e0;have hr : Hid (R = J8 p.o p.d) := by unfold Hid; rw [HR.out]; unfold Qf.closeV; rw [if_neg (by rw [← hpe.out]; simp)]
  have NB:=Qbt _ _ p.o p.d v3 P.o P.d (by have:=Qhc hpe.out.symm;omega);clear HR hpe;rw [← hr.out] at NB;clear hr;obtain ⟨p0,p1,p2,p3,p4,p5,p6,p7,p8,p9,p10,p11⟩:=B2.c12;have lp:=B2.lt;go_wp2_with (go_at_call 61;(with_reducible refine Calls.mono (NB) ?_);rintro e w5 ⟨v5,rfl,h5,L5⟩);go_ret2;exact ⟨v5,rfl,E.trans h5,L5⟩
end
section
instance : DecidableEq Lt:=fun a b => if h : a.g = b.g ∧ a.n = b.n then .isTrue (by cases a;cases b;simp_all) else .isFalse (fun e => h ⟨by rw [e],by rw [e]⟩)
def Qf.behV (c : Qf) (x y : Pd) : Bool:=decide (x.h = y.h) && decide (c.numV y.a = c.numV x.b + 1)
def Ca (x y : Pd) : Pd:=⟨x.h,x.a,y.b,x.o,x.d ++ y.d,y.c⟩
def Qf.archE (c : Qf) (l : List Pd) : Int:=if c.chk ≠ 0 then c.chk else if 32 < l.length then 3 else c.persE l
def sorted (l : List Lt) : Prop:=l.Pairwise fun x y => J3 x.g y.g = true
theorem Vr {x y : ByteArray} (h : x.toList = y.toList) : x = y:=by
 have hx:=Go.Lib.toList_data x;have hy:=Go.Lib.toList_data y;rw [hx,hy] at h;cases x;cases y
 simp only [ByteArray.mk.injEq];exact Array.ext' h
end
section
open Go Go.RowKit Go.Shelf
attribute [local go_sem] Z5
theorem Qfd (f : Nat → Lt) (k : Nat) : Wu f k = !(!Zx (f k).g || ((f k).n == 0) || decide (1099511627776 < (f k).n) || decide ((f k).n < -1099511627776) || (decide (0 < k) && !J3 (f (k - 1)).g (f k).g)):=by
 rw [Cj];cases Zx (f k).g <;> cases J3 (f (k - 1)).g (f k).g <;> cases ((f k).n == 0) <;> cases decide (1099511627776 < (f k).n) <;> cases decide ((f k).n < -1099511627776) <;> cases decide (0 < k) <;> rfl
theorem Qcd (T : Option Addr) (n cap : Nat) (f : Nat → Lt) (w : World) (hT : Qp w T n 2 (Zc f)) (hcap : n ≤ cap) (hn : n ≤ 9223372036854775807) :
  Calls Tryz.prog 170 #[.slice T n cap] w fun e w' => e = .returned (.int .i64 (Jr f n)) ∧ Qb w w':=by
 have hge:=Du
 go_enter Tryz.func170,Tryz.ntmps170
 by_cases h64 : 64 < n
 ·have g1 : decide (64 < n) = true:=decide_eq_true h64;rw [Co h64];go_wp2;go_ret;exact ⟨rfl,Qb.refl _⟩
 ·have g1 : decide (64 < n) = false:=decide_eq_false h64;go_upto_region 4 with (fail)
  go_loopw [3] (fun i wr => ∃ k : Nat,k ≤ n ∧ i = .int .i64 k ∧ Hid (∀ j,j < k → Wu f j = true) ∧ Qb w wr) (fun i _ => n - (intOf i).toNat)
  case atStart => exact ⟨0,Nat.zero_le _,rfl,(fun j h => absurd h (by omega)),Qb.refl _⟩
  case round =>
   obtain ⟨k,hk,rfl,hall,hE⟩:=hrel;obtain ⟨wo,rfl⟩:=Qg wr;obtain ⟨hcwo,hfwo,hzwo⟩:=Qb.rules hE;try simp only [World.size_alloc] at hzwo
   obtain ⟨hcbwo,hfbwo,hzbwo⟩:=Qb.rules (show Qb w wo from Qj);clear hcwo hfwo;by_cases hlt : k < n
   ·obtain ⟨b, off, rfl, hb, hc⟩ := hT (by omega);have hbo : b < wo.heap.size := Nat.lt_of_lt_of_le hb hE.size;have c0 : w.cell? ⟨b, off + k * 2, none⟩ = some (.string (f k).g) := by simpa using hc k 0 _ hlt rfl
    have c1 : w.cell? ⟨b,off + k * 2 + 1,none⟩ = some (.int .i64 (f k).n):=hc k 1 _ hlt rfl
    have hd0 : 0 < k → w.cell? ⟨b,off + (IntKind.i64.wrap ((k : Int) - 1)).toNat * 2,none⟩ = some (.string (f (k - 1)).g):=fun h => by
     rw [show (IntKind.i64.wrap ((k : Int) - 1)).toNat = k - 1 from by rw [IntKind.wrap_i64];omega]
     simpa using hc (k - 1) 0 _ (by omega) rfl
    have hin : 0 < k → (0 ≤ IntKind.i64.wrap ((k : Int) - 1) ∧ IntKind.i64.wrap ((k : Int) - 1) < (n : Int)):=fun h => by rw [IntKind.wrap_i64];omega
    have HK : Hid (Wu f k = _):=Qfd f k;clear hc;go_upto_region 6 with (fail)
    refine Zd wo Qo (by kernel_rfl) Qj ?_;intro hne hrx hry;try simp only []
    try simp only [List.append_eq,List.cons_append,List.nil_append]
    skip
    repeat (first
     | go_big_quiet_skip
     | ((with_reducible apply Y2)
        ·exact rfl
        ·exact rfl
        ·exact rfl
        intro K hK
        unfold Qy;go_big_quiet_op;(with_reducible refine hK _ ?_);clear hK K)
     | ((with_reducible apply Y4)
        ·exact rfl
        ·exact rfl
        ·exact rfl
        intro K hK
        unfold Qy;go_big_quiet_op;(with_reducible refine hK _ ?_);clear hK K)
     | (go_big_quiet_want;go_big_quiet_op;go_big_quiet_on)
     | (go_big_quiet_want;go_big_quiet_op;apply Exists.intro;refine ⟨fun u => ?_,?_⟩
        ·first
          | (go_at_call 167;refine (Vg _ _).mono ?_;rintro e w' ⟨rfl,rfl⟩;exact ⟨rfl,u,rfl⟩)
        go_big_quiet_on)
     | ((with_reducible apply Y3)
        ·first | exact Zu rfl rfl rfl | exact Zt rfl rfl rfl | exact Zs rfl rfl rfl | exact Zr rfl rfl rfl
        ·exact rfl
        ·exact rfl
        ·exact rfl
        intro K hK
        unfold Qy;go_big_quiet_op;(with_reducible refine hK _ ?_);clear hK K)
     | ((with_reducible apply Y5)
        ·first | exact Zu rfl rfl rfl | exact Zt rfl rfl rfl | exact Zs rfl rfl rfl | exact Zr rfl rfl rfl
        ·exact rfl
        ·exact rfl
        ·exact rfl
        intro K hK
        unfold Qy;go_big_quiet_op;(with_reducible refine hK _ ?_);clear hK K)
     | ((with_reducible apply Yn)
        ·first | exact Zu rfl rfl rfl | exact Zt rfl rfl rfl | exact Zs rfl rfl rfl | exact Zr rfl rfl rfl
        apply Exists.intro;refine And.intro (fun hgb => ?_) ?_
        ·intro u;try simp at hgb
         go_simp
         try simp only [if_pos hsl]
         try simp only [if_pos (hin (by omega))]
         try (simp only [hd0 (by omega)];go_simp)
         try (rw [hlook _ (Qb.trans Qj u.e) (hlk0 hgb)];go_simp)
         first
          | (with_reducible exact rfl)
          | (go_at_call 167;refine (Vg _ _).mono ?_;rintro e w' ⟨rfl,rfl⟩;exact ⟨rfl,u,rfl⟩)
        intro K hK;unfold Qy;go_big_quiet_op;(with_reducible refine hK _ ?_);clear hK K))
    clear hne hry hrx;refine wpQuiet_nil ?_;intro wn hwn;obtain ⟨hcwn,hfwn,hzwn⟩:=Qb.rules hwn;try simp only [World.size_alloc] at hzwn
    obtain ⟨hcbwn,hfbwn,hzbwn⟩:=Qb.rules (show Qb wo wn from Qj);clear hcwn hfwn;generalize hg : (!Zx (f k).g || ((f k).n == 0) || decide (1099511627776 < (f k).n) || decide ((f k).n < -1099511627776) || (decide (0 < k) && !J3 (f (k - 1)).g (f k).g)) = g at *;have E2 : Qb w wn:=hE.trans hwn;cases g
    ·go_wp2
     exact ⟨⟨k + 1,by omega,by go_num,fun j hj => by
      by_cases e : j = k
      ·subst e;exact HK.out
      ·exact hall.out j (by omega),E2⟩,by simp [intOf];omega⟩
    ·go_wp2;go_ret;exact ⟨Xs (Cm hlt HK.out h64).symm,E2⟩
   ·obtain rfl : k = n := by omega
    go_wp2;go_ret;exact ⟨Xs (Cl hall.out h64).symm,hE⟩
theorem Qeq : (Tryz.prog.info? 85).map (fun i => (i.zero,i.size,i.bytes)) = some (some (.agg #[.string ⟨#[]⟩,.int .i64 0]),2,24):=by kernel_rfl
def Rt.neg (r : Rt) : Rt:=⟨-r.n,r.d⟩
section
variable {W : World} {b : Nat} {t : TypeId} {v0 v1 v2 : Value}
end
end
section
open Go Go.RowKit
attribute [local go_sem] Z5
def Xo (y : Yr) (k : Nat) : Int:=(y.mos.getD k (0,false)).1
def Xp (y : Yr) (k : Nat) : Bool:=(y.mos.getD k (0,false)).2
def moL (y : Yr) (k : Nat) : Int:=y.len (Xo y k) (Xp y k)
def Qt (y : Yr) (k : Nat) : Int:=y.lens (y.mos.take k)
theorem Qhn {y : Yr} {k : Nat} (h : k < y.mos.length) : Qt y (k + 1) = Qt y k + moL y k:=by
 unfold Qt moL Xo Xp;rw [List.take_add_one,List.getElem?_eq_getElem h,Nz,List.getD_eq_getElem?_getD,List.getElem?_eq_getElem h];simp [Yr.lens]
theorem Qhm (y : Yr) : Qt y y.mos.length = y.days:=by unfold Qt;rw [List.take_length];rfl
theorem pre_bd {y : Yr} {k : Nat} (h : k ≤ y.mos.length) : 29 * (k : Int) ≤ Qt y k ∧ Qt y k ≤ 30 * (k : Int):=by
 have:=L8 y (y.mos.take k);rw [List.length_take,Nat.min_eq_left h] at this;exact this
theorem moL_bd (y : Yr) (k : Nat) : 29 ≤ moL y k ∧ moL y k ≤ 30:=Wt _ _ _
theorem Iu (i : Nat) (y : Yr) : ∀ (l : List (Int × Bool)) (d : Int) (k : Nat),k < l.length → (Jf i y d l)[k]? = some ⟨i,(l.getD k (0,false)).1,(l.getD k (0,false)).2,d + y.lens (l.take k)⟩
 | [],_,_,h => by simp at h
 | p :: l,d,0,_ => by simp [Jf,Yr.lens]
 | p :: l,d,k + 1,h => by
  have:=Iu i y l (d + y.len p.1 p.2) k (by simpa using h);simp only [Jf,List.getElem?_cons_succ,this,List.getD_cons_succ,List.take_succ_cons,Yr.lens]
  congr 2
  omega
theorem Qe1 {c : Qf} {y k : Nat} (hy : y < c.ny) (hk : k < (c.yr y).mos.length) : c.items[(c.itemsTo y).length + k]? = some ⟨y,Xo (c.yr y) k,Xp (c.yr y) k,c.dayAt y + Qt (c.yr y) k⟩:=by
 obtain ⟨t,ht⟩:=Bw c (show y + 1 ≤ c.ny from hy);unfold Qf.items;rw [← ht]
 show ((c.itemsTo y ++ Jf y (c.yr y) (c.dayAt y) (c.yr y).mos) ++ t)[_]? = _
 have hl : ((c.itemsTo y).length + k) < (c.itemsTo y ++ Jf y (c.yr y) (c.dayAt y) (c.yr y).mos).length:=by rw [List.length_append,Hq];omega
 rw [List.getElem?_append_left hl,List.getElem?_append_right (by omega),Nat.add_sub_cancel_left];exact Iu _ _ _ _ _ hk
theorem Qey (c : Qf) (y : Nat) : (c.itemsTo (y + 1)).length = (c.itemsTo y).length + (c.yr y).mos.length:=by
 show (c.itemsTo y ++ Jf y (c.yr y) (c.dayAt y) (c.yr y).mos).length = _
 rw [List.length_append,Hq]
theorem Qgs {c : Qf} {d : Dt} {y k : Nat} (hd : c.has d = true) (hy : y < c.ny) (hk : k < (c.yr y).mos.length) (h1 : (y : Int) = d.y) (h2 : Xo (c.yr y) k = d.m) (h3 : Xp (c.yr y) k = d.s) :
  c.num d = (c.dayAt y + Qt (c.yr y) k + d.d - 1,(((c.itemsTo y).length + k : Nat) : Int) + 1):=by
 obtain ⟨i,x,hx,⟨g1,g2,g3⟩,hn,_,_⟩:=Mc hd;have hp:=Qe1 hy hk;have e : i = (c.itemsTo y).length + k:=Qez hx hp (by simp only;omega) (by simp only;rw [g2,h2]) (by simp only;rw [g3,h3]);subst e;rw [hx] at hp;obtain rfl:=Option.some.inj hp;rw [hn]
theorem Qgt {c : Qf} {n k M j : Nat} {m d X : Int} {s : Bool} {NV : Int × Int} (_hk : k < c.ny) (hj : j < (c.yr k).mos.length) (HN : Hid (∀ k,k < (c.yr n).mos.length → Xo (c.yr n) k = m → Xp (c.yr n) k = s → NV = (c.dayAt n + Qt (c.yr n) k + d - 1,(((c.itemsTo n).length + k : Nat) : Int) + 1)))
  (HX : Hid (X = c.dayAt k + d - 1)) (HM : Hid (M = (c.itemsTo k).length)) (e : k = n) (h1 : Xo (c.yr k) j = m) (h2 : Xp (c.yr k) j = s) : NV = (X + Qt (c.yr k) j,((M + j : Nat) : Int) + 1):=by
 subst e;have:=HN.out j hj h1 h2;rw [this,HX.out,HM.out]
 congr 1
 omega
theorem Qd8 {c : Qf} {n : Nat} {m d : Int} {s : Bool} (h : c.has ⟨n,m,s,d⟩ = true) : n < c.ny ∧ (∃ k,k < (c.yr n).mos.length ∧ Xo (c.yr n) k = m ∧ Xp (c.yr n) k = s) ∧ 1 ≤ d ∧ d ≤ 30:=by
 have g:=Kr.1 h;have e : c.yrI (n : Int) = c.yr n:=by unfold Qf.yrI;rw [Int.toNat_natCast]
 simp only [e] at g;obtain ⟨i,hi,he⟩:=Ad (y:=c.yr n) g.2.1.1 g.2.1.2 g.2.2.1;have:=(Wt (c.yr n) m s).2;exact ⟨by omega,⟨i,hi,by unfold Xo;rw [he],by unfold Xp;rw [he]⟩,g.2.2.2.1,by omega⟩
theorem mon_at {w : World} {A : Option Addr} {y : Yr} {i : Nat} (h : Qp w A y.mos.length 3 (Oh y)) (hi : i < y.mos.length) :
  ∃ b off,A = some ⟨b,off,none⟩ ∧ b < w.heap.size ∧ w.cell? ⟨b,off + i * 3,none⟩ = some (.int .i64 (Xo y i)) ∧ w.cell? ⟨b,off + i * 3 + 1,none⟩ = some (.bool (Xp y i)) ∧ w.cell? ⟨b,off + i * 3 + 2,none⟩ = some (.int .i64 (moL y i)):=Aa h hi
theorem Qcu (A A' : Option Addr) (ca cb : Nat) (c : Qf) (D : Dt) (w : World) (hC : Q8 w A ca A' cb c) (hv : c.valid = true) (hd : c.has D = true) :
  Calls Tryz.prog 158 #[.agg #[.slice A c.nk ca,.slice A' c.ny cb],.agg #[.int .i64 D.y,.int .i64 D.m,.bool D.s,.int .i64 D.d]] w fun e w' => e = .returned (.tuple #[.int .i64 (c.num D).1,.int .i64 (c.num D).2]) ∧ Qb w w':=by
 have hny:=Gc hv;have hlg:=Lb hv;clear hv;obtain ⟨y,m,s,d⟩:=D
 simp only
 have hy0 : 0 ≤ y:=(Kr.1 hd).1.1;obtain ⟨n,rfl⟩:=Int.eq_ofNat_of_zero_le hy0;clear hy0;obtain ⟨hn,hfind,d0,d1⟩:=Qd8 hd;have HF:=Lib.hid hfind;have HNUM:=Lib.hid (fun k hk h2 h3 => Qgs hd hn (k:=k) hk rfl h2 h3);clear hfind hd;generalize c.num ⟨n,m,s,d⟩ = NV at *
 go_enter Tryz.func158,Tryz.ntmps158
 go_upto_region 1 with (fail)
 obtain ⟨v,hv⟩:=Qg ((w.alloc (.cells #[.slice A c.nk ca,.slice A' c.ny cb] 25)).alloc (.cells #[.int .i64 (n : Int),.int .i64 m,.bool s,.int .i64 d] 51));rw [← hv];have E : Qb w v:=by rw [hv];exact ((Qb.refl _).alloc _).alloc _
 have B1 : Qa v w.heap.size 25 #[.slice A c.nk ca,.slice A' c.ny cb]:=by rw [hv];exact (Qa.new _ _ _).alloc _
 have B2 : Qa v (w.heap.size + 1) 51 #[.int .i64 (n : Int),.int .i64 m,.bool s,.int .i64 d]:=by rw [hv];exact Qa.at _ _ _ _ (by simp)
 clear hv;have C:=hC.ext E;clear hC;generalize w.heap.size = b1 at *;obtain ⟨k0,k1⟩:=B1.c2;have lk:=B1.lt;obtain ⟨p0,p1,p2,p3⟩:=B2.c4;have lp:=B2.lt;go_upto_region 3 with (fail)
 go_loopw [6,7,8,9,10] (fun dv mv yv _ _ wr => ∃ (k : Nat) (X : Int) (M : Nat),k ≤ n ∧ yv = .int .i64 k ∧ dv = .int .i64 X ∧ mv = .int .i64 (M : Int) ∧ 0 ≤ X ∧ X ≤ 156030 ∧ M ≤ 5200 ∧ Hid (X = c.dayAt k + d - 1) ∧ Hid (M = (c.itemsTo k).length) ∧ Qb v wr) (fun _ _ yv _ _ _ => n + 1 - (intOf yv).toNat)
 case atStart => exact ⟨0,d,0,Nat.zero_le _,rfl,rfl,rfl,by omega,by omega,by omega,(by show d = 1 + d - 1;omega),rfl,Qb.refl _⟩
 case round =>
  obtain ⟨k,X,M,hk,rfl,rfl,rfl,x0,x1,m1,HX,HM,hE⟩:=hrel;obtain ⟨wo,rfl⟩:=Qg wr;clear k0 k1 lk p0 p1 p2 p3 lp;replace B1:=B1.ext hE;replace B2:=B2.ext hE;replace C:=C.ext hE;obtain ⟨k0,k1⟩:=B1.c2;have lk:=B1.lt;obtain ⟨p0,p1,p2,p3⟩:=B2.c4;have lp:=B2.lt;have hkn : k < c.ny:=by omega
  have hkb : decide ((k : Int) ≤ (n : Int)) = true:=decide_eq_true (by omega);obtain ⟨yb,yo,hA',hyb,y0,y1,y2,y3⟩:=C.year hkn;subst hA';have hmo:=fun w => Ac (c.yr k) w (hlg k hkn).1 (hlg k hkn).2
  have HP:=Lib.hid (fun j hj => Qgt (c:=c) (d:=d) hkn (j:=j) hj HNUM HX HM);have HD : Hid (c.dayAt (k + 1) = c.dayAt k + (c.yr k).days):=rfl;have HB:=Lib.hid (Lu c (k + 1));have HI:=Lib.hid (Qey c k);have HIL:=Lib.hid (Lz c (k + 1));have HA:=Lib.hid (Qhm (c.yr k));have HF' : Hid (k = n → ∃ j,j < (c.yr k).mos.length ∧ Xo (c.yr k) j = m ∧ Xp (c.yr k) j = s):=fun e => by subst e;exact HF.out
  have hml:=(Og (c.yr k)).2;generalize (c.yr k).days = dys at *;generalize c.yr k = Y at *;go_upto_region 6 with (go_at_call 183;(with_reducible refine Calls.mono (hmo _) ?_);rintro e v2 ⟨mv,rfl,h,MA⟩)
  obtain ⟨MA,mcap,rfl,MM⟩:=MA;clear y0 y1 y2 y3 hyb hmo k0 k1 lk p0 p1 p2 p3 lp;replace B2:=B2.ext h;obtain ⟨p0,p1,p2,p3⟩:=B2.c4;have lp:=B2.lt;go_upto_region 7 with (fail)
  go_loopw [6,7,10] (fun dv mv iv wr => ∃ (j : Nat) (X' : Int),j ≤ Y.mos.length ∧ iv = .int .i64 j ∧ dv = .int .i64 X' ∧ mv = .int .i64 ((M + j : Nat) : Int) ∧ 0 ≤ X' ∧ X' ≤ 156500 ∧ Hid (X' = X + Qt Y j) ∧ Hid (k = n → ∀ i,i < j → ¬ (Xo Y i = m ∧ Xp Y i = s)) ∧ Qb v2 wr) (fun _ _ iv _ => Y.mos.length - (intOf iv).toNat)
  case atStart => exact ⟨0,X,Nat.zero_le _,rfl,rfl,rfl,x0,by omega,(by show X = X + 0;omega),(fun _ i hi => absurd hi (by omega)),Qb.refl _⟩
  case round =>
   obtain ⟨j,X',hj,rfl,rfl,rfl,z0,z1,HX',HN,hE2⟩:=hrel;obtain ⟨wi,rfl⟩:=Qg wr;clear p0 p1 p2 p3 lp;obtain ⟨p0,p1,p2,p3⟩:=(B2.ext hE2).c4;have lp:=(B2.ext hE2).lt;by_cases hlt : j < Y.mos.length
   ·obtain ⟨mb,mo,rfl,hmb,c0,c1,c2⟩:=mon_at (MM.ext hE2) hlt;have HPj:=HP.out j hlt;have hq:=moL_bd Y j;have HS:=Lib.hid (Qhn hlt);have HPB:=Lib.hid (pre_bd (y:=Y) (k:=j + 1) hlt)
    have HN' : Hid ((k = n → ¬ (Xo Y j = m ∧ Xp Y j = s)) → k = n → ∀ i,i < j + 1 → ¬ (Xo Y i = m ∧ Xp Y i = s)):=fun h0 e i hi => by
     by_cases e2 : i = j
     ·subst e2;exact h0 e
     ·exact HN.out e i (by omega)
    generalize Y.mos.length = L at *;generalize Xo Y j = x at *;generalize Xp Y j = z at *;generalize moL Y j = q at *;obtain ⟨q0,q1⟩:=hq;by_cases hkn : k = n
    ·have hknb : ((k : Int) == (n : Int)) = true := by rw [hkn]; exact beq_self_eq_true _
     by_cases hx : x = m
     ·have hxb : (x == m) = true := by rw [hx]; exact beq_self_eq_true _
      by_cases hz : z = s
      ·have hzb : (z == s) = true := by rw [hz]; exact beq_self_eq_true _
       have HR : Hid (NV = (X',((M + j : Nat) : Int) + 1)):=by rw [HX'.out];exact HPj hkn hx hz
       clear HPj hkn hx hz HN';go_upto_region 10 with (fail)
       refine Zd wi Qo (by kernel_rfl) Qj ?_;intro hne hrx hry;try simp only []
       try simp only [List.append_eq,List.cons_append,List.nil_append]
       skip
       repeat (first
        | go_big_quiet_skip
        | (go_big_quiet_want;go_big_quiet_op;go_big_quiet_on))
       clear hne hry hrx;refine wpQuiet_nil ?_;intro wn hwn;obtain ⟨hcwn,hfwn,hzwn⟩:=Qb.rules hwn;try simp only [World.size_alloc] at hzwn
       obtain ⟨hcbwn,hfbwn,hzbwn⟩:=Qb.rules (show Qb wi wn from Qj);clear hcwn hfwn;go_wp2;go_ret2;exact ⟨by rw [HR.out];rfl,Qj⟩
      ·have hzb : (z == s) = false:=beq_eq_false_iff_ne.2 hz;have HQ:=Lib.hid (HN'.out (fun _ g => hz g.2));clear HPj hkn hx hz HN';go_upto_region 10 with (fail)
       refine Zd wi Qo (by kernel_rfl) Qj ?_;intro hne hrx hry;try simp only []
       try simp only [List.append_eq,List.cons_append,List.nil_append]
       skip
       repeat (first
        | go_big_quiet_skip
        | (go_big_quiet_want;go_big_quiet_op;go_big_quiet_on))
       clear hne hry hrx;refine wpQuiet_nil ?_;intro wn hwn;obtain ⟨hcwn,hfwn,hzwn⟩:=Qb.rules hwn;try simp only [World.size_alloc] at hzwn
       obtain ⟨hcbwn,hfbwn,hzbwn⟩:=Qb.rules (show Qb wi wn from Qj);clear hcwn hfwn;go_wp2;have g1:=HX'.out;have g2:=HS.out;have g3:=HPB.out;exact ⟨⟨j + 1,X' + q,by omega,by go_num,by go_num,by go_num,by omega,by omega,by unfold Hid;rw [g2,g1];omega,HQ.out,Qj⟩,by simp [intOf];omega⟩
     ·have hxb : (x == m) = false:=beq_eq_false_iff_ne.2 hx;have HQ:=Lib.hid (HN'.out (fun _ g => hx g.1));clear HPj hkn hx HN';go_upto_region 10 with (fail)
      refine Zd wi Qo (by kernel_rfl) Qj ?_;intro hne hrx hry;try simp only []
      try simp only [List.append_eq,List.cons_append,List.nil_append]
      skip
      repeat (first
       | go_big_quiet_skip
       | (go_big_quiet_want;go_big_quiet_op;go_big_quiet_on))
      clear hne hry hrx;refine wpQuiet_nil ?_;intro wn hwn;obtain ⟨hcwn,hfwn,hzwn⟩:=Qb.rules hwn;try simp only [World.size_alloc] at hzwn
      obtain ⟨hcbwn,hfbwn,hzbwn⟩:=Qb.rules (show Qb wi wn from Qj);clear hcwn hfwn;go_wp2;have g1:=HX'.out;have g2:=HS.out;have g3:=HPB.out;exact ⟨⟨j + 1,X' + q,by omega,by go_num,by go_num,by go_num,by omega,by omega,by unfold Hid;rw [g2,g1];omega,HQ.out,Qj⟩,by simp [intOf];omega⟩
    ·have hknb : ((k : Int) == (n : Int)) = false:=beq_eq_false_iff_ne.2 (by omega);have HQ:=Lib.hid (HN'.out (fun g _ => hkn g));clear HPj hkn HN';go_upto_region 10 with (fail)
     refine Zd wi Qo (by kernel_rfl) Qj ?_;intro hne hrx hry;try simp only []
     try simp only [List.append_eq,List.cons_append,List.nil_append]
     skip
     repeat (first
      | go_big_quiet_skip
      | (go_big_quiet_want;go_big_quiet_op;go_big_quiet_on))
     clear hne hry hrx;refine wpQuiet_nil ?_;intro wn hwn;obtain ⟨hcwn,hfwn,hzwn⟩:=Qb.rules hwn;try simp only [World.size_alloc] at hzwn
     obtain ⟨hcbwn,hfbwn,hzbwn⟩:=Qb.rules (show Qb wi wn from Qj);clear hcwn hfwn;go_wp2;have g1:=HX'.out;have g2:=HS.out;have g3:=HPB.out;exact ⟨⟨j + 1,X' + q,by omega,by go_num,by go_num,by go_num,by omega,by omega,by unfold Hid;rw [g2,g1];omega,HQ.out,Qj⟩,by simp [intOf];omega⟩
   ·obtain rfl : j = Y.mos.length := by omega
    have hkn : k < n:=by
     rcases Nat.lt_or_ge k n with h | h
     ·exact h
     ·obtain ⟨i,hi,h1,h2⟩:=HF'.out (by omega);exact absurd ⟨h1,h2⟩ (HN.out (by omega) i hi)
    have f1:=HX'.out;have f2:=HX.out;have f3:=HD.out;have f4:=HA.out;have f5:=HM.out;have f6:=HI.out;have f7:=HB.out;have f8:=HIL.out;have G1 : Hid (X' = c.dayAt (k + 1) + d - 1 ∧ M + Y.mos.length = (c.itemsTo (k + 1)).length ∧ X' ≤ 156030 ∧ M + Y.mos.length ≤ 5200):=⟨by omega,by omega,by omega,by omega⟩;clear f1 f2 f3 f4 f5 f6 f7 f8;generalize Y.mos.length = L at *;go_wp2;obtain ⟨e1,e2,e3,e4⟩:=G1.out;exact ⟨⟨k + 1,X',M + L,by omega,by go_num,rfl,by go_num,z0,by omega,by omega,e1,e2,Qj⟩,by simp [intOf];omega⟩
end
section
open Go Go.RowKit Go.Shelf
attribute [local go_sem] Z5 Dt.val
end
section
open Go Go.RowKit
attribute [local go_sem] Z5
end
section
open Go Go.RowKit Go.Shelf
attribute [local go_sem] Z5
theorem Tw (g : Nat → Rt × Int) : ∀ m k s,s.In → (X0 g k m s).1.In
 | 0,_,_,h => h
 | m + 1,k,s,h => by
  rw [X0]
  split
  ·exact Y6
  ·split
   ·exact Y6
   ·exact Tw g m (k + 1) _ (Vz _ _)
theorem Qgc (t : Nat → Tk) (n : Nat) : (Je t n).1.In:=by
 unfold Je
 split
 ·exact Y6
 ·split
  ·exact Tw _ _ _ _ Ui
  ·exact Y6
theorem Qbq (c : Qf) (f : Nat → Cw) (n : Nat) : (c.availV f n).1.In:=by
 unfold Qf.availV
 split
 ·exact Y6
 ·split
  ·exact Tw _ _ _ _ Ui
  ·exact Y6
theorem Qdc {a b : Rt} (ha : a.nn = true) (hb : b.pos = true) (h : (J5 a b).2 = 0) : (J5 a b).1.nn = true:=by
 obtain ⟨a1,a2⟩:=Vl ha;obtain ⟨b1,b2⟩ : b.ok = true ∧ 0 < b.n:=by simpa [Rt.pos] using hb
 unfold J5 at h ⊢;rw [a1,b1] at h ⊢;simp only [Bool.and_self,if_true] at h ⊢;rw [if_neg (by omega)] at h ⊢;have hQ : 1 ≤ a.d.natAbs * b.n.natAbs:=Nat.mul_pos (by have:=J2 a1;omega) (by omega);rw [decide_eq_false (show ¬ a.n < 0 by omega),decide_eq_false (show ¬ b.n < 0 by omega)] at h ⊢;obtain ⟨o1,o2⟩:=Td hQ h;unfold Rt.nn;rw [show (false != false) = false from rfl] at o1 o2 ⊢;rw [o1,Bool.true_and,decide_eq_true_eq];rw [if_neg (by decide)] at o2;have hd:=(J2 o1).1;rcases Int.lt_or_le (Jk false (a.n.natAbs * b.d.natAbs) (a.d.natAbs * b.n.natAbs)).1.n 0 with h0 | h0
 ·have h3:=Int.mul_neg_of_neg_of_pos h0 (show (0 : Int) < ((a.d.natAbs * b.n.natAbs : Nat) : Int) by omega);have h4:=Int.mul_nonneg (show (0 : Int) ≤ ((a.n.natAbs * b.d.natAbs : Nat) : Int) from Int.natCast_nonneg _) (show 0 ≤ (Jk false (a.n.natAbs * b.d.natAbs) (a.d.natAbs * b.n.natAbs)).1.d by omega);omega
 ·exact h0
theorem Qag (g : Nat → Rt × Int) (n : Nat) (hg : ∀ i,i < n → (g i).2 = 0 → (g i).1.nn = true) : ∀ m k s,k + m = n → s.nn = true → (X0 g k m s).2 = 0 → (X0 g k m s).1.nn = true
 | 0,_,_,_,h,_ => h
 | m + 1,k,s,hk,h,h0 => by
  rw [X0] at h0 ⊢;by_cases e1 : (g k).2 ≠ 0
  ·rw [if_pos e1] at h0;exact absurd h0 e1
  ·rw [if_neg e1] at h0 ⊢;by_cases e2 : (Zn s (g k).1).2 ≠ 0
   ·rw [if_pos e2] at h0;exact absurd h0 e2
   ·rw [if_neg e2] at h0 ⊢;exact Qag g n hg m (k + 1) _ (by omega) (Qba (Decidable.not_not.1 e2) h (hg k (by omega) (Decidable.not_not.1 e1))) h0
theorem Qds (t : Nat → Tk) (n : Nat) : (Je t n).2 = 0 → (Je t n).1.nn = true:=fun h => by
 unfold Je at h ⊢;by_cases h64 : 64 < n
 ·rw [if_pos h64] at h;exact absurd h (by decide)
 ·rw [if_neg h64] at h ⊢;by_cases ha : (List.range n).all (fun i => Vq (t i)) = true
  ·rw [if_pos ha] at h ⊢;refine Qag _ n (fun i hi h0 => ?_) n 0 (Jq 0) (by omega) (Ap Qjp (by rw [Qjr];exact Rat.le_refl)) h;have hok:=List.all_eq_true.1 ha i (by simpa using hi);unfold Vq at hok;obtain ⟨o1,o2⟩:=Bool.and_eq_true_iff.1 hok;exact Qdc o1 o2 h0
  ·rw [if_neg ha] at h;exact absurd h (by decide)
theorem few_bd {c : Qf} {a b : Dt} {s : Rt} {Nn Nd : Int} (hv : c.valid = true) (hsp : (decide (0 < c.numV a) && decide (c.numV a ≤ c.numV b)) = true) (hs : s.shr = true) (h0 : s.n ≠ 0) (hN : (Rt.mk Nn Nd).nn = true) :
  (0 ≤ c.schV a b ∧ c.schV a b ≤ 1000000) ∧ (1 ≤ s.n * (c.schV a b + 1) ∧ s.n * (c.schV a b + 1) ≤ 1048577048576) ∧ 1 ≤ s.n * (c.schV a b + 1) * Nd ∧ s.n * (c.schV a b + 1) * Nd ≤ 1099512727287627776 ∧ 0 ≤ Nn * s.d ∧ Nn * s.d ≤ 1152921504606846976 ∧ True ∧ True:=by
 obtain ⟨h1,h2⟩:=Bool.and_eq_true_iff.1 hsp;have h1:=of_decide_eq_true h1;have h2:=of_decide_eq_true h2;have z1:=sch_bd hv (by omega) (by omega) h2;have z2:=I3 c a b;obtain ⟨N1,N2⟩:=Vl hN;obtain ⟨n1,n2,n3,n4,_⟩:=J2 N1
 simp only at N2 n1 n2 n3 n4
 simp only [Rt.shr,Bool.and_eq_true,decide_eq_true_eq] at hs;obtain ⟨s1,s2,s3,s4,_⟩:=J2 hs.1.1;generalize c.schV a b = z at *;have m1:=Kx (a:=s.n) (b:=z + 1) (A:=1048576) (B:=1000001) (by omega) (by omega) (by omega) (by omega);have m2:=Int.mul_pos (show 0 < s.n by omega) (show 0 < z + 1 by omega);have m3:=Kx (a:=s.n * (z + 1)) (b:=Nd) (A:=1048577048576) (B:=1048576) (by omega) (by omega) (by omega) (by omega);have m4:=Int.mul_pos m2 (show 0 < Nd by omega);have m5:=Kx (a:=Nn) (b:=s.d) (A:=1099511627776) (B:=1048576) (by omega) (by omega) (by omega) (by omega);have m6:=Int.mul_nonneg N2 (show 0 ≤ s.d by omega);exact ⟨⟨z1.1,z2.2⟩,⟨by omega,m1.2⟩,by omega,m3.2,m6,m5.2,trivial,trivial⟩
theorem Qbu (A A' : Option Addr) (ca cb : Nat) (c : Qf) (T : Option Addr) (nt capt : Nat) (t : Nat → Tk) (S : Option Addr) (n cap : Nat) (f : Nat → Cw) (w : World) (hC : Q8 w A ca A' cb c) (hint : ∀ i,i < nt → (t i).a.In ∧ (t i).r.In) (hT : Qp w T nt 4 (Yp t)) (hnt : nt ≤ 9223372036854775807) (hin : ∀ i,i < n → (f i).s.In ∧ -9223372036854775808 ≤ (f i).w ∧ (f i).w ≤ 9223372036854775807) (hS : Qp w S n 11 (Zv f)) (hn : n ≤ 9223372036854775807) (hZ : Z6 w) :
  Calls Tryz.prog 40 #[.agg #[.slice A c.nk ca,.slice A' c.ny cb],.slice T nt capt,.slice S n cap] w fun e w' => e = .returned (.tuple #[.agg #[.int .i64 (c.balV t nt f n).1.n,.int .i64 (c.balV t nt f n).1.d],.int .i64 (c.balV t nt f n).2]) ∧ Qb w w':=by
 have NO:=fun w h => Mf A A' ca cb c w h
 have NN:=fun w h z => Al T nt capt t w hint h hnt z
 have NA:=fun w h1 h2 z => Qbr A A' ca cb c S n cap f w h1 hin h2 hn z
 obtain ⟨R,hR0⟩:=Qg (c.balV t nt f n);rw [← hR0];have HR:=Lib.hid hR0;clear hR0
 go_enter Tryz.func40,Tryz.ntmps40
 go_upto_region 1 with (fail)
 obtain ⟨v,hv⟩:=Qg ((w.alloc (.cells #[.slice A c.nk ca,.slice A' c.ny cb] 25)).alloc (.cells #[.int .i64 0,.int .i64 0] 65));rw [← hv];have E : Qb w v:=by rw [hv];exact ((Qb.refl _).alloc _).alloc _
 have B1 : Qa v w.heap.size 25 #[.slice A c.nk ca,.slice A' c.ny cb]:=by rw [hv];exact (Qa.new _ _ _).alloc _
 have B2 : Qa v (w.heap.size + 1) 65 #[.int .i64 0,.int .i64 0]:=by rw [hv];exact Qa.at _ _ _ _ (by simp)
 clear hv;obtain ⟨b2,hb2⟩:=Qg (w.heap.size + 1);rw [← hb2] at B2 ⊢;obtain ⟨b1,hb1⟩:=Qg (w.heap.size);rw [← hb1] at B1 ⊢;have hbr : w.heap.size ≤ b2:=by omega
 have hbr1 : w.heap.size ≤ b1:=by omega
 have hn21 : b2 ≠ b1:=by omega
 clear hb1 hb2;have RT:=hT.ext E;have RS:=hS.ext E;have Z0:=hZ.ext E;have C:=hC.ext E;clear hT hS hZ;obtain ⟨k0,k1⟩:=B1.c2;have lk:=B1.lt;cases hv : c.valid
 ·have hr : R = (Zm, 70) := by rw [HR.out]; unfold Qf.balV; rw [hv]; rfl
  have hc : c.chk = 70:=by unfold Qf.chk;rw [hv];rfl
  simp only [hc] at NO;subst hr;clear HR hc hv NN NA;go_upto_region 2 with (go_at_call 64;(with_reducible refine Calls.mono (NO _ (hC.ext E)) ?_);rintro e w1 ⟨rfl,h1⟩)
  obtain ⟨v3,hv⟩:=Qg (w1.alloc (.cells #[.slice A c.nk ca,.slice A' c.ny cb] 130));rw [← hv];have h3 : Qb w1 v3:=by rw [hv];exact (Qb.refl _).alloc _
  have H3 : Qa v3 w1.heap.size 130 #[.slice A c.nk ca,.slice A' c.ny cb]:=by rw [hv];exact Qa.new _ _ _
  clear hv;generalize w1.heap.size = b3 at *;replace E:=(E.trans h1).trans h3;replace B2:=(B2.ext h1).ext h3;have f0:=B2.frozen 0;have f1:=B2.frozen 1;obtain ⟨x0,x1⟩:=B2.c2;have lx:=B2.lt;have H4:=Qm B2 (.int .i64 0) (.int .i64 0);have EF:=(E.setCell (p:=⟨b2,0,none⟩) hbr (.int .i64 0)).setCell (p:=⟨b2,1,none⟩) hbr (.int .i64 0);obtain ⟨y0,y1⟩:=H4.c2;go_wp2;refine bodyPost_ret (v:=.tuple #[.agg #[.int .i64 0,.int .i64 0],.int .i64 70]) (by simp [results,Tryz.results40,go_sem,y0,y1]) rfl ⟨rfl,EF⟩
 ·have hc : c.chk = 0 := by unfold Qf.chk; rw [hv]; rfl
  simp only [hc] at NO;have HR2 : Hid (R = if (Je t nt).2 ≠ 0 then (Zm,(Je t nt).2) else if (c.availV f n).2 ≠ 0 then (Zm,(c.availV f n).2) else Jg (c.availV f n).1 (Je t nt).1):=by unfold Hid;rw [HR.out];unfold Qf.balV;rw [hv];rfl
  have hni:=Qgc t nt;have hai:=Qbq c f n;clear HR hc hv;go_upto_region 4 with (go_at_call 64;(with_reducible refine Calls.mono (NO _ (hC.ext E)) ?_);rintro e w1 ⟨rfl,h1⟩)
  obtain ⟨v3,hv⟩:=Qg (w1.alloc (.cells #[.slice A c.nk ca,.slice A' c.ny cb] 130));rw [← hv];have h3 : Qb w1 v3:=by rw [hv];exact (Qb.refl _).alloc _
  have H3 : Qa v3 w1.heap.size 130 #[.slice A c.nk ca,.slice A' c.ny cb]:=by rw [hv];exact Qa.new _ _ _
  clear hv;generalize w1.heap.size = b3 at *;replace E:=(E.trans h1).trans h3;replace B2:=(B2.ext h1).ext h3;replace RT:=(RT.ext h1).ext h3;replace RS:=(RS.ext h1).ext h3;replace Z0:=(Z0.ext h1).ext h3;replace C:=(C.ext h1).ext h3;clear h1 h3 k0 k1 lk B1 NO;generalize Je t nt = N at *;obtain ⟨⟨Nn,Nd⟩,Ne⟩:=N;simp only [] at HR2 NN hni;go_upto_region 5 with (go_at_call 87;(with_reducible refine Calls.mono (NN _ RT Z0) ?_);rintro e w4 ⟨rfl,h4⟩)
  obtain ⟨v4,hv⟩:=Qg (w4.alloc (.cells #[.int .i64 Nn,.int .i64 Nd] 65));rw [← hv];have h5 : Qb w4 v4:=by rw [hv];exact (Qb.refl _).alloc _
  have H4 : Qa v4 w4.heap.size 65 #[.int .i64 Nn,.int .i64 Nd]:=by rw [hv];exact Qa.new _ _ _
  clear hv;generalize w4.heap.size = b4 at *;replace E:=(E.trans h4).trans h5;replace B2:=(B2.ext h4).ext h5;replace H3:=(H3.ext h4).ext h5;replace RS:=(RS.ext h4).ext h5;replace Z0:=(Z0.ext h4).ext h5;replace C:=(C.ext h4).ext h5;clear h4 h5 NN RT;by_cases e0 : Ne = 0;rotate_left
  ·have g0 : (Ne == 0) = false := beq_eq_false_iff_ne.2 e0;have g0n : (Ne != 0) = true := by rw [bne, g0]; rfl
   have hr:=HR2.out;rw [if_pos e0] at hr;subst hr;clear HR2 e0 NA;have f0:=B2.frozen 0;have f1:=B2.frozen 1;obtain ⟨x0,x1⟩:=B2.c2;have lx:=B2.lt;have H9:=Qm B2 (.int .i64 0) (.int .i64 0);have EF:=(E.setCell (p:=⟨b2,0,none⟩) hbr (.int .i64 0)).setCell (p:=⟨b2,1,none⟩) hbr (.int .i64 0);obtain ⟨y0,y1⟩:=H9.c2;go_wp2;refine bodyPost_ret (v:=.tuple #[.agg #[.int .i64 0,.int .i64 0],.int .i64 Ne]) (by simp [results,Tryz.results40,go_sem,y0,y1]) rfl ⟨rfl,EF⟩
  subst e0;obtain ⟨k0,k1⟩:=H3.c2;have lk:=H3.lt;generalize c.availV f n = M at *;obtain ⟨⟨Mn,Md⟩,Me⟩:=M;simp only [] at HR2 NA hai;go_upto_region 8 with (go_at_call 88;(with_reducible refine Calls.mono (NA _ C RS Z0) ?_);rintro e w6 ⟨rfl,h6⟩)
  obtain ⟨v6,hv⟩:=Qg (w6.alloc (.cells #[.int .i64 Mn,.int .i64 Md] 65));rw [← hv];have h7 : Qb w6 v6:=by rw [hv];exact (Qb.refl _).alloc _
  have H6 : Qa v6 w6.heap.size 65 #[.int .i64 Mn,.int .i64 Md]:=by rw [hv];exact Qa.new _ _ _
  clear hv;generalize w6.heap.size = b6 at *;replace E:=(E.trans h6).trans h7;replace B2:=(B2.ext h6).ext h7;replace H4:=(H4.ext h6).ext h7;replace Z0:=(Z0.ext h6).ext h7;clear h6 h7 NA RS C k0 k1 lk H3;by_cases e0 : Me = 0;rotate_left
  ·have g0 : (Me == 0) = false := beq_eq_false_iff_ne.2 e0;have g0n : (Me != 0) = true := by rw [bne, g0]; rfl
   have hr:=HR2.out;rw [if_neg (by simp),if_pos e0] at hr;subst hr;clear HR2 e0;have f0:=B2.frozen 0;have f1:=B2.frozen 1;obtain ⟨x0,x1⟩:=B2.c2;have lx:=B2.lt;have H9:=Qm B2 (.int .i64 0) (.int .i64 0);have EF:=(E.setCell (p:=⟨b2,0,none⟩) hbr (.int .i64 0)).setCell (p:=⟨b2,1,none⟩) hbr (.int .i64 0);obtain ⟨y0,y1⟩:=H9.c2;go_wp2;refine bodyPost_ret (v:=.tuple #[.agg #[.int .i64 0,.int .i64 0],.int .i64 Me]) (by simp [results,Tryz.results40,go_sem,y0,y1]) rfl ⟨rfl,EF⟩
  subst e0;have NS:=fun w z => Mr ⟨Mn,Md⟩ ⟨Nn,Nd⟩ hai hni w z
  have hr:=HR2.out;rw [if_neg (by simp),if_neg (by simp)] at hr;rw [← hr] at NS;clear HR2 hr;obtain ⟨⟨Rn,Rd⟩,Re⟩:=R;obtain ⟨k0,k1⟩:=H4.c2;have lk:=H4.lt;obtain ⟨p0,p1⟩:=H6.c2;have lp:=H6.lt;go_wp2_with (first | (go_at_call 89;(with_reducible refine Calls.mono (NS _ Z0) ?_);rintro e wt ⟨rfl,ht⟩;replace E:=E.trans ht;replace B2:=B2.ext ht;have f0:=B2.frozen 0;have f1:=B2.frozen 1;obtain ⟨x0,x1⟩:=B2.c2;have lx:=B2.lt));have H9:=Qm B2 (.int .i64 Rn) (.int .i64 Rd);have EF:=(E.setCell (p:=⟨b2,0,none⟩) hbr (.int .i64 Rn)).setCell (p:=⟨b2,1,none⟩) hbr (.int .i64 Rd);obtain ⟨y0,y1⟩:=H9.c2;go_wp2;refine bodyPost_ret (v:=.tuple #[.agg #[.int .i64 Rn,.int .i64 Rd],.int .i64 Re]) (by simp [results,Tryz.results40,go_sem,y0,y1]) rfl ⟨rfl,EF⟩
theorem Qdt (A A' : Option Addr) (ca cb : Nat) (c : Qf) (T : Option Addr) (nt capt : Nat) (t : Nat → Tk) (s : Rt) (hs : s.In) (d d2 : Dt) (w : World) (hC : Q8 w A ca A' cb c) (hint : ∀ i,i < nt → (t i).a.In ∧ (t i).r.In) (hT : Qp w T nt 4 (Yp t)) (hnt : nt ≤ 9223372036854775807) (hZ : Z6 w) :
  Calls Tryz.prog 41 #[.agg #[.slice A c.nk ca,.slice A' c.ny cb],.slice T nt capt,.agg #[.int .i64 s.n,.int .i64 s.d],.agg #[.int .i64 d.y,.int .i64 d.m,.bool d.s,.int .i64 d.d],.agg #[.int .i64 d2.y,.int .i64 d2.m,.bool d2.s,.int .i64 d2.d]] w fun e w' => e = .returned (.tuple #[.int .i64 (c.fewV t nt s d d2).1,.int .i64 (c.fewV t nt s d d2).2]) ∧ Qb w w':=by
 have NO:=fun w h => Mf A A' ca cb c w h
 have NN:=fun w h z => Al T nt capt t w hint h hnt z
 have NS:=fun w => Mq s hs w
 have NSP:=fun w h => Tt A A' ca cb c d d2 w h
 have NB:=fun w h => Mz A A' ca cb c d d2 w h
 obtain ⟨R,hR0⟩:=Qg (c.fewV t nt s d d2);rw [← hR0];have HR:=Lib.hid hR0;clear hR0
 go_enter Tryz.func41,Tryz.ntmps41
 go_upto_region 1 with (fail)
 obtain ⟨v,hv⟩:=Qg ((((w.alloc (.cells #[.slice A c.nk ca,.slice A' c.ny cb] 25)).alloc (.cells #[.int .i64 s.n,.int .i64 s.d] 65)).alloc (.cells #[.int .i64 d.y,.int .i64 d.m,.bool d.s,.int .i64 d.d] 51)).alloc (.cells #[.int .i64 d2.y,.int .i64 d2.m,.bool d2.s,.int .i64 d2.d] 51));rw [← hv];have E : Qb w v:=by rw [hv];exact ((((Qb.refl _).alloc _).alloc _).alloc _).alloc _
 have B1 : Qa v w.heap.size 25 #[.slice A c.nk ca,.slice A' c.ny cb]:=by rw [hv];exact (((Qa.new _ _ _).alloc _).alloc _).alloc _
 have B2 : Qa v (w.heap.size + 1) 65 #[.int .i64 s.n,.int .i64 s.d]:=by rw [hv];exact ((Qa.at _ _ _ _ (by simp)).alloc _).alloc _
 have B3 : Qa v (w.heap.size + 1 + 1) 51 #[.int .i64 d.y,.int .i64 d.m,.bool d.s,.int .i64 d.d]:=by rw [hv];exact (Qa.at _ _ _ _ (by simp)).alloc _
 have B4 : Qa v (w.heap.size + 1 + 1 + 1) 51 #[.int .i64 d2.y,.int .i64 d2.m,.bool d2.s,.int .i64 d2.d]:=by rw [hv];exact Qa.at _ _ _ _ (by simp)
 clear hv;obtain ⟨b4,hb4⟩:=Qg (w.heap.size + 1 + 1 + 1);rw [← hb4] at B4 ⊢;obtain ⟨b3,hb3⟩:=Qg (w.heap.size + 1 + 1);rw [← hb3] at B3 ⊢;obtain ⟨b2,hb2⟩:=Qg (w.heap.size + 1);rw [← hb2] at B2 ⊢;obtain ⟨b1,hb1⟩:=Qg (w.heap.size);rw [← hb1] at B1 ⊢;have hbr : w.heap.size ≤ b4:=by omega
 have hbr1 : w.heap.size ≤ b1:=by omega
 have hbr2 : w.heap.size ≤ b2:=by omega
 have hbr3 : w.heap.size ≤ b3:=by omega
 have hn21 : b2 ≠ b1:=by omega
 have hn31 : b3 ≠ b1:=by omega
 have hn32 : b3 ≠ b2:=by omega
 have hn41 : b4 ≠ b1:=by omega
 have hn42 : b4 ≠ b2:=by omega
 have hn43 : b4 ≠ b3:=by omega
 clear hb1 hb2 hb3 hb4;have RT:=hT.ext E;have Z0:=hZ.ext E;have C:=hC.ext E;clear hT hZ;obtain ⟨k0,k1⟩:=B1.c2;have lk:=B1.lt;cases hv : c.valid
 ·have hr : R = (0, 70) := by rw [HR.out]; unfold Qf.fewV; rw [hv]; rfl
  have hc : c.chk = 70:=by unfold Qf.chk;rw [hv];rfl
  simp only [hc] at NO;subst hr;clear HR hc hv NN;go_wp2_with (go_at_call 64;(with_reducible refine Calls.mono (NO _ (hC.ext E)) ?_);rintro e w1 ⟨rfl,h1⟩);go_ret2;exact ⟨rfl,(E.trans h1).alloc _⟩
 ·have hc : c.chk = 0 := by unfold Qf.chk; rw [hv]; rfl
  simp only [hc] at NO;have HR2 : Hid (R = if (Je t nt).2 ≠ 0 then (0,(Je t nt).2) else if s.shr && decide (s.n ≠ 0) && (decide (0 < c.numV d) && decide (c.numV d ≤ c.numV d2)) then (if 4096 < c.fewN t nt s d d2 then (0,8) else (c.fewN t nt s d d2,0)) else (0,81)):=by unfold Hid;rw [HR.out];unfold Qf.fewV;rw [hv];rfl
  have hni:=Qds t nt;clear HR hc;go_upto_region 4 with (go_at_call 64;(with_reducible refine Calls.mono (NO _ (hC.ext E)) ?_);rintro e w1 ⟨rfl,h1⟩)
  obtain ⟨v3,hv⟩:=Qg (w1.alloc (.cells #[.slice A c.nk ca,.slice A' c.ny cb] 130));rw [← hv];have h3 : Qb w1 v3:=by rw [hv];exact (Qb.refl _).alloc _
  have H3 : Qa v3 w1.heap.size 130 #[.slice A c.nk ca,.slice A' c.ny cb]:=by rw [hv];exact Qa.new _ _ _
  clear hv;generalize w1.heap.size = b3' at *;replace E:=(E.trans h1).trans h3;replace B2:=(B2.ext h1).ext h3;replace B3:=(B3.ext h1).ext h3;replace B4:=(B4.ext h1).ext h3;replace RT:=(RT.ext h1).ext h3;replace Z0:=(Z0.ext h1).ext h3;replace C:=(C.ext h1).ext h3;clear h1 h3 k0 k1 lk B1 NO;have hfn : Hid (c.fewN t nt s d d2 = ((Je t nt).1.n * s.d + s.n * (c.schV d d2 + 1) * (Je t nt).1.d - 1) / (s.n * (c.schV d d2 + 1) * (Je t nt).1.d)):=rfl;generalize c.fewN t nt s d d2 = q at *;generalize Je t nt = N at *;obtain ⟨⟨Nn,Nd⟩,Ne⟩:=N;simp only [] at HR2 NN hni hfn;go_upto_region 5 with (go_at_call 87;(with_reducible refine Calls.mono (NN _ RT Z0) ?_);rintro e w4 ⟨rfl,h4⟩)
  obtain ⟨v4,hv⟩:=Qg (w4.alloc (.cells #[.int .i64 Nn,.int .i64 Nd] 65));rw [← hv];have h5 : Qb w4 v4:=by rw [hv];exact (Qb.refl _).alloc _
  have H4 : Qa v4 w4.heap.size 65 #[.int .i64 Nn,.int .i64 Nd]:=by rw [hv];exact Qa.new _ _ _
  clear hv;generalize w4.heap.size = b4' at *;replace E:=(E.trans h4).trans h5;replace B2:=(B2.ext h4).ext h5;replace B3:=(B3.ext h4).ext h5;replace B4:=(B4.ext h4).ext h5;replace H3:=(H3.ext h4).ext h5;replace C:=(C.ext h4).ext h5;clear h4 h5 NN RT Z0;by_cases e0 : Ne = 0;rotate_left
  ·have g0 : (Ne == 0) = false := beq_eq_false_iff_ne.2 e0;have g0n : (Ne != 0) = true := by rw [bne, g0]; rfl
   have hr:=HR2.out;rw [if_pos e0] at hr;subst hr;clear HR2 e0;go_wp2;go_ret2;exact ⟨rfl,E⟩
  subst e0;have HR3 : Hid (R = if s.shr && decide (s.n ≠ 0) && (decide (0 < c.numV d) && decide (c.numV d ≤ c.numV d2)) then (if 4096 < q then (0,8) else (q,0)) else (0,81)):=by unfold Hid;rw [HR2.out,if_neg (by simp)]
  clear HR2;obtain ⟨k0,k1⟩:=H3.c2;have lk:=H3.lt;obtain ⟨s0,s1⟩:=B2.c2;have ls:=B2.lt;obtain ⟨d0,d1,d2',d3⟩:=B3.c4;have ld:=B3.lt;obtain ⟨u0,u1,u2,u3⟩:=B4.c4;have lu:=B4.lt;cases g1 : s.shr
  ·have hr:=HR3.out;rw [g1,Bool.false_and,Bool.false_and,if_neg (by decide)] at hr;simp only [g1] at NS;subst hr;clear HR3 g1;go_wp2_with (go_at_call 90;(with_reducible refine Calls.mono (NS _) ?_);rintro e w5 ⟨rfl,h5⟩;clear k0 k1 lk d0 d1 d2' d3 ld u0 u1 u2 u3 lu s0 s1 ls;obtain ⟨k0,k1⟩:=(H3.ext h5).c2;have lk:=(H3.ext h5).lt;obtain ⟨s0,s1⟩:=(B2.ext h5).c2;have ls:=(B2.ext h5).lt;obtain ⟨d0,d1,d2',d3⟩:=(B3.ext h5).c4;have ld:=(B3.ext h5).lt;obtain ⟨u0,u1,u2,u3⟩:=(B4.ext h5).c4;have lu:=(B4.ext h5).lt);go_ret2;exact ⟨rfl,E.trans h5⟩
  ·simp only [g1] at NS;by_cases g2 : s.n = 0
   ·have hr := HR3.out;rw [g1, decide_eq_false (fun h => h g2), Bool.and_false, Bool.false_and, if_neg (by decide)] at hr;subst hr;have g2b : (s.n == 0) = true := by rw [g2]; rfl
    clear HR3 g1 g2;go_wp2_with (go_at_call 90;(with_reducible refine Calls.mono (NS _) ?_);rintro e w5 ⟨rfl,h5⟩;clear k0 k1 lk d0 d1 d2' d3 ld u0 u1 u2 u3 lu s0 s1 ls;obtain ⟨k0,k1⟩:=(H3.ext h5).c2;have lk:=(H3.ext h5).lt;obtain ⟨s0,s1⟩:=(B2.ext h5).c2;have ls:=(B2.ext h5).lt;obtain ⟨d0,d1,d2',d3⟩:=(B3.ext h5).c4;have ld:=(B3.ext h5).lt;obtain ⟨u0,u1,u2,u3⟩:=(B4.ext h5).c4;have lu:=(B4.ext h5).lt);go_ret2;exact ⟨rfl,E.trans h5⟩
   ·have g2b : (s.n == 0) = false:=beq_eq_false_iff_ne.2 g2;cases hsp : (decide (0 < c.numV d) && decide (c.numV d ≤ c.numV d2))
    ·have hr:=HR3.out;rw [hsp,Bool.and_false,if_neg (by decide)] at hr;simp only [hsp] at NSP;subst hr;clear HR3 g1 g2 hsp;go_wp2_with (first | (go_at_call 90;(with_reducible refine Calls.mono (NS _) ?_);rintro e w5 ⟨rfl,h5⟩;clear k0 k1 lk d0 d1 d2' d3 ld u0 u1 u2 u3 lu s0 s1 ls;obtain ⟨k0,k1⟩:=(H3.ext h5).c2;have lk:=(H3.ext h5).lt;obtain ⟨s0,s1⟩:=(B2.ext h5).c2;have ls:=(B2.ext h5).lt;obtain ⟨d0,d1,d2',d3⟩:=(B3.ext h5).c4;have ld:=(B3.ext h5).lt;obtain ⟨u0,u1,u2,u3⟩:=(B4.ext h5).c4;have lu:=(B4.ext h5).lt) | (go_at_call 91;(with_reducible refine Calls.mono (NSP _ (C.ext h5)) ?_);rintro e w6 ⟨rfl,h6⟩));go_ret2;exact ⟨rfl,(E.trans h5).trans h6⟩
    ·have hr:=HR3.out;rw [hsp,g1,decide_eq_true g2,Bool.and_true,Bool.and_true,if_pos rfl] at hr;have hbd:=few_bd hv hsp g1 g2 (hni rfl);simp only [hsp] at NSP;clear HR3 hsp g1 hv;replace hr:=Lib.hid hr;generalize c.schV d d2 = z at *;obtain ⟨x1,x2,x3,x4,x5,x6,x7,x8⟩:=hbd;have v1 : IntKind.i64.wrap (z + 1) = z + 1:=Z2 (by omega) (by omega);have v2 : IntKind.i64.wrap (s.n * (z + 1)) = s.n * (z + 1):=Z2 (by omega) (by omega);have v3' : IntKind.i64.wrap (s.n * (z + 1) * Nd) = s.n * (z + 1) * Nd:=Z2 (by omega) (by omega);have v4' : IntKind.i64.wrap (Nn * s.d) = Nn * s.d:=Z2 (by omega) (by omega);have v5 : IntKind.i64.wrap (Nn * s.d + s.n * (z + 1) * Nd) = Nn * s.d + s.n * (z + 1) * Nd:=Z2 (by omega) (by omega)
     have v6 : IntKind.i64.wrap (Nn * s.d + s.n * (z + 1) * Nd - 1) = Nn * s.d + s.n * (z + 1) * Nd - 1:=Z2 (by omega) (by omega)
     have v7 : IntKind.i64.wrap ((Nn * s.d + s.n * (z + 1) * Nd - 1).tdiv (s.n * (z + 1) * Nd)) = q:=by
      rw [Int.tdiv_eq_ediv_of_nonneg (by omega),← hfn.out];have h1 : 0 ≤ q:=by rw [hfn.out];exact Int.ediv_nonneg (by omega) (by omega)
      have h2 : q ≤ Nn * s.d + s.n * (z + 1) * Nd - 1:=by rw [hfn.out];exact Int.ediv_le_self _ (by omega)
      exact Z2 (by omega) (by omega)
     have v8 : (s.n * (z + 1) * Nd == 0) = false:=beq_eq_false_iff_ne.2 (by omega);have v9 : s.n * (z + 1) * Nd ≠ 0:=by omega
     clear x1 x2 x3 x4 x5 x6 x7 x8 hfn hni g2;go_upto_region 9 with (first | (go_at_call 90;(with_reducible refine Calls.mono (NS _) ?_);rintro e w5 ⟨rfl,h5⟩;clear k0 k1 lk d0 d1 d2' d3 ld u0 u1 u2 u3 lu s0 s1 ls;obtain ⟨k0,k1⟩:=(H3.ext h5).c2;have lk:=(H3.ext h5).lt;obtain ⟨s0,s1⟩:=(B2.ext h5).c2;have ls:=(B2.ext h5).lt;obtain ⟨d0,d1,d2',d3⟩:=(B3.ext h5).c4;have ld:=(B3.ext h5).lt;obtain ⟨u0,u1,u2,u3⟩:=(B4.ext h5).c4;have lu:=(B4.ext h5).lt) | (go_at_call 91;(with_reducible refine Calls.mono (NSP _ (C.ext h5)) ?_);rintro e w6 ⟨rfl,h6⟩))
     replace E:=(E.trans h5).trans h6;replace C:=(C.ext h5).ext h6;replace B2:=(B2.ext h5).ext h6;replace B3:=(B3.ext h5).ext h6;replace B4:=(B4.ext h5).ext h6;replace H3:=(H3.ext h5).ext h6;replace H4:=(H4.ext h5).ext h6;clear h5 h6 k0 k1 lk s0 s1 ls d0 d1 d2' d3 ld u0 u1 u2 u3 lu NS NSP;obtain ⟨k0,k1⟩:=H3.c2;have lk:=H3.lt;obtain ⟨s0,s1⟩:=B2.c2;have ls:=B2.lt;obtain ⟨d0,d1,d2',d3⟩:=B3.c4;have ld:=B3.lt;obtain ⟨u0,u1,u2,u3⟩:=B4.c4;have lu:=B4.lt;obtain ⟨t0,t1⟩:=H4.c2;have lt:=H4.lt;refine Zd w6 Qo (by kernel_rfl) Qj ?_;intro hne hrx hry;try simp only []
     try simp only [List.append_eq,List.cons_append,List.nil_append]
     skip
     repeat (first
      | go_big_quiet_skip
      | (go_big_quiet_want;go_big_quiet_op;go_big_quiet_on)
      | (go_big_quiet_want;go_big_quiet_op;apply Exists.intro;refine ⟨fun u => ?_,?_⟩
         ·first
           | (go_at_call 92;(with_reducible refine Calls.mono (NB _ (C.ext u.e)) ?_);rintro e w' ⟨rfl,hb⟩;exact ⟨rfl,u.back hb⟩)
         go_big_quiet_on))
     clear hne hry hrx;refine wpQuiet_nil ?_;intro w7 h7;obtain ⟨hcw7,hfw7,hzw7⟩:=Qb.rules h7;try simp only [World.size_alloc] at hzw7
     obtain ⟨hcbw7,hfbw7,hzbw7⟩:=Qb.rules (show Qb w6 w7 from Qj);clear hcw7 hfw7;by_cases c1 : 4096 < q
     ·have gg : decide (4096 < q) = true:=decide_eq_true c1;have hr':=hr.out;rw [if_pos c1] at hr';subst hr';clear hr c1;go_wp2;go_ret2;exact ⟨rfl,E.trans h7⟩
     ·have gg : decide (4096 < q) = false:=decide_eq_false c1;have hr':=hr.out;rw [if_neg c1] at hr';subst hr';clear hr c1;go_wp2;go_ret2;exact ⟨rfl,E.trans h7⟩
end
end Go.Proofs.YtoflcheopfppoaaGreatDoor
