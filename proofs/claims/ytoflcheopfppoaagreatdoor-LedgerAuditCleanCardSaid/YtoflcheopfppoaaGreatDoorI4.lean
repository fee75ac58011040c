/- Walks of the program's functions and plain facts, packed; proved: the lemmas below; no conditions but those that each states. -/
import Derived.Test.YtoflcheopfppoaaGreatDoorI3
import Derived.Test.YtoflcheopfppoaaGreatDoorI1
set_option maxRecDepth 100000
set_option maxHeartbeats 4000000
namespace Go.Proofs.YtoflcheopfppoaaGreatDoor
section
open Go Go.RowKit Go.Shelf
attribute [local go_sem] Zx
def Rt.In (r : Rt) : Prop:=-9223372036854775808 ≤ r.n ∧ r.n ≤ 9223372036854775807 ∧ -9223372036854775808 ≤ r.d ∧ r.d ≤ 9223372036854775807
theorem Qbn {r : Rt} (h : r.ok = true) : r.In:=by have:=J9 h;unfold Rt.In;omega
theorem L3 {w : World} {b n sz : Nat} {t : TypeId} {f : Nat → List Value} (hf : ∀ i,(f i).length = sz) (h : Qc w b t (Q0 f n).toArray) : Qs w (some ⟨b,0,none⟩) n sz f:=fun _ => by
 refine ⟨b,0,rfl,h.lt,fun i j v hi hv => ?_⟩;have hj : j < sz:=by have:=(List.getElem?_eq_some_iff.1 hv).1;rwa [hf] at this
 rw [show (0 : Nat) + i * sz + j = i * sz + j by omega,h.cell,List.getElem?_toArray,Uv hf hi hj,hv]
theorem Fg (A : Option Addr) (n ca : Nat) (f : Nat → Rt) (w : World) (hA : Qs w A n 2 (Xj f)) (hn : n ≤ 9223372036854775807) (hin : ∀ i,i < n → (f i).In) :
  Calls Tryz.prog 70 #[.slice A n ca] w fun e w' => e = .returned (.bool ((List.range n).all fun i => (f i).nn)) ∧ Qb w w':=by
 obtain ⟨R,hR0⟩:=Qf ((List.range n).all fun i => (f i).nn);rw [← hR0];have HR:=Lib.hid hR0;clear hR0
 go_enter Tryz.func70,Tryz.ntmps70
 go_upto_region 2 with (fail)
 go_loopw [7] (fun i wr => ∃ k : Nat,k ≤ n ∧ i = .int .i64 k ∧ Hid (∀ j,j < k → (f j).nn = true) ∧ Qb w wr) (fun i _ => n - (intOf i).toNat)
 case atStart => exact ⟨0,Nat.zero_le _,rfl,(fun j h => absurd h Qa),Qb.refl _⟩
 case round =>
  obtain ⟨k,hk,rfl,hall,hE⟩:=hrel;obtain ⟨wo,rfl⟩:=Qf wr;by_cases hlt : k < n
  ·obtain ⟨b, off, rfl, hb, hc⟩ := (hA.ext hE) Qa;have c0 : wo.cell? ⟨b, off + k * 2, none⟩ = some (.int .i64 (f k).n) := by simpa [Xj] using hc k 0 _ hlt rfl
   have c1 : wo.cell? ⟨b,off + k * 2 + 1,none⟩ = some (.int .i64 (f k).d):=by simpa [Xj] using hc k 1 _ hlt rfl
   obtain ⟨h1,h2,h3,h4⟩:=hin k hlt;have NR:=fun w => Vl (f k).n (f k).d h1 h2 h3 h4 w
   have hno : Hid ((f k).nn = false → R = false):=fun h => by
    rw [HR.out];exact List.all_eq_false.2 ⟨k,by simpa using hlt,by simp [h]⟩
   have hyes : Hid ((f k).nn = true → ∀ j,j < k + 1 → (f j).nn = true):=fun h j hj => by
    by_cases e : j = k
    ·subst e;exact h
    ·exact hall.out j Qa
   have hnn : Hid ((f k).nn = (Rt.ok ⟨(f k).n,(f k).d⟩ && decide (0 ≤ (f k).n))):=rfl;clear hc hin hA h1 h2 h3 h4 hall HR;go_upto_region 4 with (fail)
   obtain ⟨v3,hv⟩:=Qf (wo.alloc (.cells #[.int .i64 (f k).n,.int .i64 (f k).d] 65));rw [← hv];have E3 : Qb wo v3:=by rw [hv];exact (Qb.refl _).alloc _
   have H3 : Qc v3 wo.heap.size 65 #[.int .i64 (f k).n,.int .i64 (f k).d]:=by rw [hv];exact Qc.new _ _ _
   clear hv c0 c1;replace hE:=hE.trans E3;generalize wo.heap.size = b3 at *;clear E3;obtain ⟨q0,q1⟩:=H3.c2;have lq:=H3.lt;generalize Rt.ok ⟨(f k).n,(f k).d⟩ = ok at *;cases ok
   ·go_wp2_with (go_at_call 121;(with_reducible refine zc (NR _) ?_);rintro e w2 ⟨rfl,h⟩);go_ret;exact ⟨by rw [hno.out (by rw [hnn.out];rfl)];rfl,hE.trans h⟩
   ·by_cases h0 : (f k).n < 0
    ·have g1 : decide ((f k).n < 0) = true:=decide_eq_true h0;have g2 : decide (0 ≤ (f k).n) = false:=decide_eq_false Qa;have hx:=hno.out (by rw [hnn.out,g2];rfl);clear h0 g2;go_wp2_with (go_at_call 121;(with_reducible refine zc (NR _) ?_);rintro e w2 ⟨rfl,h⟩;clear q0 q1 lq;obtain ⟨q0,q1⟩:=(H3.ext h).c2;have lq:=(H3.ext h).lt);go_ret;exact ⟨by rw [hx];rfl,hE.trans h⟩
    ·have g1 : decide ((f k).n < 0) = false:=decide_eq_false h0;have g2 : decide (0 ≤ (f k).n) = true:=decide_eq_true Qa;have hx:=Lib.hid (hyes.out (by rw [hnn.out,g2];rfl));clear h0 g2;go_wp2_with (go_at_call 121;(with_reducible refine zc (NR _) ?_);rintro e w2 ⟨rfl,h⟩;clear q0 q1 lq;obtain ⟨q0,q1⟩:=(H3.ext h).c2;have lq:=(H3.ext h).lt);exact ⟨⟨k + 1,by omega,by go_num,hx,hE.trans h⟩,by simp [intOf];omega⟩
  ·obtain rfl : k = n := by omega
   have hx : R = true:=by
    rw [HR.out];exact List.all_eq_true.2 fun j hj => hall.out j (by simpa using hj)
   clear HR hall hin hA;go_wp2;go_ret;exact ⟨by rw [hx];rfl,hE⟩
theorem Qb6 (A : Option Addr) (n ca : Nat) (f : Nat → Rt) (w : World) (hA : Qs w A n 2 (Xj f)) (hn0 : n ≤ 9223372036854775807) (hin : ∀ i,i < n → (f i).In) (hZ : Z6 w) :
  Calls Tryz.prog 71 #[.slice A n ca] w fun e w' => e = .returned (.tuple #[.agg #[.int .i64 (Yz f n).1.n,.int .i64 (Yz f n).1.d],.int .i64 (Yz f n).2]) ∧ Qb w w':=by
 obtain ⟨R,hR0⟩:=Qf (Yz f n);rw [← hR0];have HR:=Lib.hid hR0;clear hR0
 go_enter Tryz.func71,Tryz.ntmps71
 go_upto_region 1 with (fail)
 obtain ⟨v,b1,E,B1,hbr,hv,hb1⟩:=Yi w 65 #[.int .i64 0,.int .i64 0];rw [← hv,← hb1];clear hv hb1;have RA:=hA.ext E;have Z0:=hZ.ext E;clear hA hZ;by_cases h64 : 64 < n
 ·have g1 : decide ((64 : Int) < (n : Int)) = true:=decide_eq_true Qa;have hr:=HR.out;rw [show Yz f n = (Zk,3) by unfold Yz;rw [if_pos h64]] at hr;subst hr;clear HR;clear h64;have f0:=B1.frozen 0;have f1:=B1.frozen 1;obtain ⟨x0,x1⟩:=B1.c2;have lx:=B1.lt;have H4:=Qo B1 (.int .i64 0) (.int .i64 0);have EF:=(E.setCell (p:=⟨b1,0,none⟩) hbr (.int .i64 0)).setCell (p:=⟨b1,1,none⟩) hbr (.int .i64 0);obtain ⟨y0,y1⟩:=H4.c2;go_wp2;refine bodyPost_ret (v:=.tuple #[.agg #[.int .i64 0,.int .i64 0],.int .i64 3]) (by simp [results,Tryz.results71,go_sem,y0,y1]) rfl ⟨rfl,EF⟩
 ·have g1 : decide ((64 : Int) < (n : Int)) = false := decide_eq_false Qa;have hn : n ≤ 1000 := by omega
  go_upto_region 4 with (fail)
  go_loopw [12] (fun i wr => ∃ k : Nat,k ≤ n ∧ i = .int .i64 k ∧ Hid (∀ j,j < k → (f j).ok = true) ∧ Qb v wr) (fun i _ => n - (intOf i).toNat)
  case atStart => exact ⟨0,Nat.zero_le _,rfl,(fun j h => absurd h Qa),Qb.refl _⟩
  case round =>
   obtain ⟨k,hk,rfl,hall,hE⟩:=hrel;obtain ⟨wo,rfl⟩:=Qf wr;replace B1:=B1.ext hE;by_cases hlt : k < n
   ·obtain ⟨b, off, rfl, hb, hc⟩ := (RA.ext hE) Qa;have c0 : wo.cell? ⟨b, off + k * 2, none⟩ = some (.int .i64 (f k).n) := by simpa [Xj] using hc k 0 _ hlt rfl
    have c1 : wo.cell? ⟨b,off + k * 2 + 1,none⟩ = some (.int .i64 (f k).d):=by simpa [Xj] using hc k 1 _ hlt rfl
    obtain ⟨h1,h2,h3,h4⟩:=hin k hlt;have NR:=fun w => Vl (f k).n (f k).d h1 h2 h3 h4 w
    have hno : Hid ((f k).ok = false → R = (Zk,2)):=fun h => by
     rw [HR.out];unfold Yz;rw [if_neg h64,if_neg (by rw [Bool.not_eq_true];exact List.all_eq_false.2 ⟨k,by simpa using hlt,by simp [h]⟩)]
    have hyes : Hid ((f k).ok = true → ∀ j,j < k + 1 → (f j).ok = true):=fun h j hj => by
     by_cases e : j = k
     ·subst e;exact h
     ·exact hall.out j Qa
    have hnn : Hid ((f k).ok = Rt.ok ⟨(f k).n,(f k).d⟩):=rfl;clear hc hin RA h1 h2 h3 h4 hall HR h64;go_upto_region 6 with (fail)
    obtain ⟨v3,hv⟩:=Qf (wo.alloc (.cells #[.int .i64 (f k).n,.int .i64 (f k).d] 65));rw [← hv];have E3 : Qb wo v3:=by rw [hv];exact (Qb.refl _).alloc _
    have H3 : Qc v3 wo.heap.size 65 #[.int .i64 (f k).n,.int .i64 (f k).d]:=by rw [hv];exact Qc.new _ _ _
    clear hv c0 c1;replace hE:=hE.trans E3;replace B1:=B1.ext E3;generalize wo.heap.size = b3 at *;clear E3;obtain ⟨q0,q1⟩:=H3.c2;have lq:=H3.lt;generalize Rt.ok ⟨(f k).n,(f k).d⟩ = ok at *;cases ok
    ·have hr:=hno.out hnn.out;subst hr;clear hno hyes hnn;go_upto_region 7 with (go_at_call 121;(with_reducible refine zc (NR _) ?_);rintro e w2 ⟨rfl,h⟩)
     replace E:=(E.trans hE).trans h;replace B1:=B1.ext h;have f0:=B1.frozen 0;have f1:=B1.frozen 1;obtain ⟨x0,x1⟩:=B1.c2;have lx:=B1.lt;have H4:=Qo B1 (.int .i64 0) (.int .i64 0);have EF:=(E.setCell (p:=⟨b1,0,none⟩) hbr (.int .i64 0)).setCell (p:=⟨b1,1,none⟩) hbr (.int .i64 0);obtain ⟨y0,y1⟩:=H4.c2;go_wp2;refine bodyPost_ret (v:=.tuple #[.agg #[.int .i64 0,.int .i64 0],.int .i64 2]) (by simp [results,Tryz.results71,go_sem,y0,y1]) rfl ⟨rfl,EF⟩
    ·have hx:=Lib.hid (hyes.out hnn.out);clear hno hyes hnn;go_wp2_with (go_at_call 121;(with_reducible refine zc (NR _) ?_);rintro e w2 ⟨rfl,h⟩);exact ⟨⟨k + 1,by omega,by go_num,hx,hE.trans h⟩,by simp [intOf];omega⟩
   ·obtain rfl : k = n := by omega
    have NM:=fun w h z => Qkn A k ca f w h hn (fun i hi => hall.out i hi) z
    rw [show U0 f k = R from by rw [HR.out];unfold Yz;rw [if_neg h64,if_pos (List.all_eq_true.2 fun j hj => hall.out j (by simpa using hj))]] at NM;clear HR hall hin h64;have RB:=RA.ext hE;have Z1:=Z0.ext hE;clear RA Z0;replace E:=E.trans hE;clear hE;obtain ⟨⟨Rn,Rd⟩,Re⟩:=R;go_wp2_with (first | (go_at_call 122;(with_reducible refine zc (NM _ RB Z1) ?_);rintro e wt ⟨rfl,ht⟩;replace E:=E.trans ht;replace B1:=B1.ext ht;have f0:=B1.frozen 0;have f1:=B1.frozen 1;obtain ⟨x0,x1⟩:=B1.c2;have lx:=B1.lt));have H4:=Qo B1 (.int .i64 Rn) (.int .i64 Rd);have EF:=(E.setCell (p:=⟨b1,0,none⟩) hbr (.int .i64 Rn)).setCell (p:=⟨b1,1,none⟩) hbr (.int .i64 Rd)
    obtain ⟨y0,y1⟩:=H4.c2;go_wp2;refine bodyPost_ret (v:=.tuple #[.agg #[.int .i64 Rn,.int .i64 Rd],.int .i64 Re]) (by simp [results,Tryz.results71,go_sem,y0,y1]) rfl ⟨rfl,EF⟩
def Na (p r : Rt) : Nat → Rt
 | 0 => p
 | _ => r
theorem Px {r : Rt} : ((List.range 1).all fun _ => r.nn) = r.nn:=by simp [List.range_succ]
theorem nn_two {p r : Rt} : ((List.range 2).all fun i => (Na p r i).nn) = (p.nn && r.nn):=by simp [List.range_succ,Na]
theorem Ql5 (r : Rt) : r.pos = (r.nn && decide (0 < r.n)):=by
 unfold Rt.pos Rt.nn;by_cases h : 0 < r.n
 ·rw [decide_eq_true h,decide_eq_true (show 0 ≤ r.n by omega)];simp
 ·rw [decide_eq_false h];simp
theorem Kb {w : World} {b : Nat} {t : TypeId} {r : Rt} (h : Qc w b t #[.int .i64 r.n,.int .i64 r.d]) : Qs w (some ⟨b,0,none⟩) 1 2 (Xj fun _ => r):=L3 (f:=Xj fun _ => r) (n:=1) (fun _ => rfl) h
theorem Qcq {w : World} {b : Nat} {t : TypeId} {p r : Rt} (h : Qc w b t #[.int .i64 p.n,.int .i64 p.d,.int .i64 r.n,.int .i64 r.d]) : Qs w (some ⟨b,0,none⟩) 2 2 (Xj (Na p r)):=L3 (f:=Xj (Na p r)) (n:=2) (fun _ => rfl) h
theorem rows4 {w : World} {b : Nat} {t : TypeId} {p r : Rt} {k : Int} (h : Qc w b t #[.int .i64 p.n,.int .i64 p.d,.int .i64 r.n,.int .i64 r.d,.int .i64 k,.int .i64 1,.int .i64 1,.int .i64 360]) : Qs w (some ⟨b,0,none⟩) 4 2 (Xj (Kq p r k)):=L3 (f:=Xj (Kq p r k)) (n:=4) (fun _ => rfl) h
theorem Eh {p r : Rt} {k : Int} (hp : p.ok = true) (hr : r.ok = true) (h1 : 0 ≤ k) (h2 : k ≤ 1099511627776) : ∀ i,i < 4 → (Kq p r k i).ok = true:=fun i hi => by
 have h3 : i = 0 ∨ i = 1 ∨ i = 2 ∨ i = 3:=by omega
 rcases h3 with rfl | rfl | rfl | rfl
 ·exact hp
 ·exact hr
 ·exact Qd0 Qa h2
 ·exact (by decide : (Rt.mk 1 360).ok = true)
theorem Ql9 {f : Nat → Rt} {n : Nat} (hn : ¬ 64 < n) (h : ∀ i,i < n → (f i).ok = true) : Yz f n = U0 f n:=by
 unfold Yz;rw [if_neg hn,if_pos (List.all_eq_true.2 fun i hi => h i (by simpa using hi))]
theorem Qi3 (p r : Rt) (k : Int) : Hid (((p.nn && r.nn) = false → J3 p r k = (Zk,2)) ∧ ((p.nn && r.nn) = true → ((k < 0 ∨ 1099511627776 < k) → J3 p r k = (Zk,8)) ∧ (¬ k < 0 → ¬ 1099511627776 < k → J3 p r k = U0 (Kq p r k) 4))):=by
 refine Lib.hid ⟨fun h => ?_,fun h => ⟨fun h2 => ?_,fun h2 h3 => ?_⟩⟩
 ·unfold J3;rw [h];rfl
 ·unfold J3;rw [h,if_pos rfl,if_pos h2]
 ·unfold J3;rw [h,if_pos rfl,if_neg Qa]
theorem Wt (n : Int) (w : World) : Calls Tryz.prog 72 #[.int .i64 n] w fun e w' => e = .returned (.agg #[.int .i64 n,.int .i64 1]) ∧ Qb w w':=by
 go_enter Tryz.func72,Tryz.ntmps72
 go_wp2;refine bodyPost_ret (v:=.agg #[.int .i64 n,.int .i64 1]) (by simp [results,Tryz.results72,go_sem]) rfl ⟨rfl,Qu⟩
theorem Fs (r : Rt) (hr : r.In) (w : World) :
  Calls Tryz.prog 67 #[.agg #[.int .i64 r.n,.int .i64 r.d]] w fun e w' => e = .returned (.bool r.pos) ∧ Qb w w':=by
 have NN:=fun w b h => Fg (some ⟨b,0,none⟩) 1 1 (fun _ => r) w h (by decide) (fun i hi => hr)
 rw [Px] at NN;have HR : Hid (r.pos = (r.nn && decide (0 < r.n))):=Ql5 r;generalize r.pos = R at *;generalize r.nn = nn at *
 go_enter Tryz.func67,Tryz.ntmps67
 go_upto_region 1 with (fail)
 obtain ⟨v,b1,E,B1,hbr,hv,hb1⟩:=Yi w 65 #[.int .i64 r.n,.int .i64 r.d];rw [← hv,← hb1];clear hv hb1;obtain ⟨k0,k1⟩:=B1.c2;have lk:=B1.lt;cases nn
 ·go_wp2_with (go_at_call 70;(with_reducible refine zc (NN _ _ (Kb (Qc.new _ _ _))) ?_);rintro e w2 ⟨rfl,h⟩);go_ret;exact ⟨by rw [HR.out];rfl,(E.alloc _).trans h⟩
 ·by_cases h0 : 0 < r.n
  ·have g1 : decide (0 < r.n) = true:=decide_eq_true h0;clear h0;go_wp2_with (go_at_call 70;(with_reducible refine zc (NN _ _ (Kb (Qc.new _ _ _))) ?_);rintro e w2 ⟨rfl,h⟩;replace B1:=(B1.alloc _).ext h;clear k0 k1 lk;obtain ⟨k0,k1⟩:=B1.c2;have lk:=B1.lt);go_ret;exact ⟨by rw [HR.out,g1];rfl,(E.alloc _).trans h⟩
  ·have g1 : decide (0 < r.n) = false:=decide_eq_false h0;clear h0;go_wp2_with (go_at_call 70;(with_reducible refine zc (NN _ _ (Kb (Qc.new _ _ _))) ?_);rintro e w2 ⟨rfl,h⟩;replace B1:=(B1.alloc _).ext h;clear k0 k1 lk;obtain ⟨k0,k1⟩:=B1.c2;have lk:=B1.lt);go_ret;exact ⟨by rw [HR.out,g1];rfl,(E.alloc _).trans h⟩
theorem Hu (r : Rt) (hr : r.In) (w : World) :
  Calls Tryz.prog 90 #[.agg #[.int .i64 r.n,.int .i64 r.d]] w fun e w' => e = .returned (.bool r.shr) ∧ Qb w w':=by
 have NN:=fun w b h => Fg (some ⟨b,0,none⟩) 1 1 (fun _ => r) w h (by decide) (fun i hi => hr)
 rw [Px] at NN;have HR : Hid (r.shr = (r.nn && decide (r.n ≤ r.d))):=rfl;generalize r.shr = R at *;generalize r.nn = nn at *
 go_enter Tryz.func90,Tryz.ntmps90
 go_upto_region 1 with (fail)
 obtain ⟨v,b1,E,B1,hbr,hv,hb1⟩:=Yi w 65 #[.int .i64 r.n,.int .i64 r.d];rw [← hv,← hb1];clear hv hb1;obtain ⟨k0,k1⟩:=B1.c2;have lk:=B1.lt;cases nn
 ·go_wp2_with (go_at_call 70;(with_reducible refine zc (NN _ _ (Kb (Qc.new _ _ _))) ?_);rintro e w2 ⟨rfl,h⟩);go_ret;exact ⟨by rw [HR.out];rfl,(E.alloc _).trans h⟩
 ·by_cases h0 : r.n ≤ r.d
  ·have g1 : decide (r.n ≤ r.d) = true:=decide_eq_true h0;clear h0;go_wp2_with (go_at_call 70;(with_reducible refine zc (NN _ _ (Kb (Qc.new _ _ _))) ?_);rintro e w2 ⟨rfl,h⟩;replace B1:=(B1.alloc _).ext h;clear k0 k1 lk;obtain ⟨k0,k1⟩:=B1.c2;have lk:=B1.lt);go_ret;exact ⟨by rw [HR.out,g1];rfl,(E.alloc _).trans h⟩
  ·have g1 : decide (r.n ≤ r.d) = false:=decide_eq_false h0;clear h0;go_wp2_with (go_at_call 70;(with_reducible refine zc (NN _ _ (Kb (Qc.new _ _ _))) ?_);rintro e w2 ⟨rfl,h⟩;replace B1:=(B1.alloc _).ext h;clear k0 k1 lk;obtain ⟨k0,k1⟩:=B1.c2;have lk:=B1.lt);go_ret;exact ⟨by rw [HR.out,g1];rfl,(E.alloc _).trans h⟩
theorem Qhf (r : Rt) (hr : r.In) (w : World) :
  Calls Tryz.prog 26 #[.agg #[.int .i64 r.n,.int .i64 r.d]] w fun e w' => e = .returned (.tuple #[.int .i64 (Uc r).1,.int .i64 (Uc r).2]) ∧ Qb w w':=by
 have NP:=fun w => Fs r hr w
 cases hp : r.pos
 ·have HR : Uc r = (0, 2) := by unfold Uc; rw [hp]; rfl
  rw [HR];simp only [hp] at NP;clear hp HR
  go_enter Tryz.func26,Tryz.ntmps26
  go_upto_region 1 with (fail)
  obtain ⟨v,b1,E,B1,hbr,hv,hb1⟩:=Yi w 65 #[.int .i64 r.n,.int .i64 r.d];rw [← hv,← hb1];clear hv hb1;obtain ⟨k0,k1⟩:=B1.c2;have lk:=B1.lt;go_wp2_with (go_at_call 67;(with_reducible refine zc (NP _) ?_);rintro e w2 ⟨rfl,h⟩);go_ret2;exact ⟨rfl,E.trans h⟩
 ·have HR : Uc r = ((360 * r.d + r.n - 1) / r.n, 0) := by unfold Uc; rw [hp]; rfl
  have HB:=Lib.hid (dbl_bd hp);rw [HR] at HB ⊢;simp only [hp] at NP;obtain ⟨ho,hn⟩ : r.ok = true ∧ 0 < r.n:=by simpa [Rt.pos] using hp
  obtain ⟨d1,d2,n1,n2,_⟩:=J9 ho;have w1 : IntKind.i64.wrap (360 * r.d) = 360 * r.d:=Zy Qa Qa;have w2 : IntKind.i64.wrap (360 * r.d + r.n) = 360 * r.d + r.n:=Zy Qa Qa;have w3 : IntKind.i64.wrap (360 * r.d + r.n - 1) = 360 * r.d + r.n - 1:=Zy Qa Qa
  have w4 : IntKind.i64.wrap ((360 * r.d + r.n - 1).tdiv r.n) = (360 * r.d + r.n - 1) / r.n:=by
   rw [Int.tdiv_eq_ediv_of_nonneg Qa];have:=HB.out;exact Zy Qa Qa
  have w5 : (r.n == 0) = false:=beq_eq_false_iff_ne.2 Qa;have w6 : r.n ≠ 0:=by omega
  clear hp HR HB ho hn d1 d2 n1 n2
  go_enter Tryz.func26,Tryz.ntmps26
  go_upto_region 1 with (fail)
  obtain ⟨v,b1,E,B1,hbr,hv,hb1⟩:=Yi w 65 #[.int .i64 r.n,.int .i64 r.d];rw [← hv,← hb1];clear hv hb1;obtain ⟨k0,k1⟩:=B1.c2;have lk:=B1.lt;go_wp2_with (go_at_call 67;(with_reducible refine zc (NP _) ?_);rintro e w2 ⟨rfl,h⟩;replace B1:=B1.ext h;clear k0 k1 lk;obtain ⟨k0,k1⟩:=B1.c2;have lk:=B1.lt);go_ret2;exact ⟨rfl,E.trans h⟩
theorem Ir (p r : Rt) (k : Int) (hp : p.In) (hr : r.In) (hk1 : -9223372036854775808 ≤ k) (hk2 : k ≤ 9223372036854775807) (w : World) (hZ : Z6 w) :
  Calls Tryz.prog 28 #[.agg #[.int .i64 p.n,.int .i64 p.d],.agg #[.int .i64 r.n,.int .i64 r.d],.int .i64 k] w fun e w' => e = .returned (.tuple #[.agg #[.int .i64 (J3 p r k).1.n,.int .i64 (J3 p r k).1.d],.int .i64 (J3 p r k).2]) ∧ Qb w w':=by
 have NN:=fun w b h => Fg (some ⟨b,0,none⟩) 2 2 (Na p r) w h (by decide) (fun i hi => by unfold Na;split;exact hp;exact hr)
 rw [nn_two] at NN;have HI:=Qi3 p r k;obtain ⟨R,hR0⟩:=Qf (J3 p r k);rw [← hR0];have HR:=Lib.hid hR0;clear hR0;rw [show J3 p r k = R from HR.out.symm] at HI;clear HR
 go_enter Tryz.func28,Tryz.ntmps28
 go_upto_region 1 with (fail)
 obtain ⟨v,b1,b2,b3,E,B1,B2,B3,hbr1,hbr2,hbr,hn21,hn31,hn32,hv,hb1,hb2,hb3⟩:=Uq w 65 #[.int .i64 p.n,.int .i64 p.d] 65 #[.int .i64 r.n,.int .i64 r.d] 65 #[.int .i64 0,.int .i64 0];rw [← hv,← hb3,← hb2,← hb1];clear hv hb1 hb2 hb3;have Z0:=hZ.ext E;clear hZ;obtain ⟨k0,k1⟩:=B1.c2;have lk:=B1.lt;obtain ⟨p0,p1⟩:=B2.c2;have lp:=B2.lt;cases hnn : (p.nn && r.nn)
 ·rw [hnn] at NN HI;have hr:=HI.out.1 rfl;subst hr;clear HI hnn;go_upto_region 2 with (go_at_call 70;(with_reducible refine zc (NN _ _ (Qcq (Qc.new _ _ _))) ?_);rintro e w2 ⟨rfl,h⟩)
  replace E:=(E.alloc _).trans h;replace B3:=(B3.alloc _).ext h;have f0:=B3.frozen 0;have f1:=B3.frozen 1;obtain ⟨x0,x1⟩:=B3.c2;have lx:=B3.lt;have H4:=Qo B3 (.int .i64 0) (.int .i64 0);have EF:=(E.setCell (p:=⟨b3,0,none⟩) hbr (.int .i64 0)).setCell (p:=⟨b3,1,none⟩) hbr (.int .i64 0);obtain ⟨y0,y1⟩:=H4.c2;go_wp2;refine bodyPost_ret (v:=.tuple #[.agg #[.int .i64 0,.int .i64 0],.int .i64 2]) (by simp [results,Tryz.results28,go_sem,y0,y1]) rfl ⟨rfl,EF⟩
 ·rw [hnn] at NN HI;have hI:=Lib.hid (HI.out.2 rfl);clear HI;go_upto_region 3 with (go_at_call 70;(with_reducible refine zc (NN _ _ (Qcq (Qc.new _ _ _))) ?_);rintro e w2 ⟨rfl,h⟩)
  replace E:=(E.alloc _).trans h;replace Z0:=(Z0.ext ((Qb.refl _).alloc _)).ext h;replace B1:=(B1.alloc _).ext h;replace B2:=(B2.alloc _).ext h;replace B3:=(B3.alloc _).ext h;clear h k0 k1 lk p0 p1 lp;by_cases c1 : k < 0
  ·have g1 : decide (k < 0) = true:=decide_eq_true c1;have hr:=hI.out.1 (.inl c1);subst hr;clear hI hnn c1;have f0:=B3.frozen 0;have f1:=B3.frozen 1;obtain ⟨x0,x1⟩:=B3.c2;have lx:=B3.lt;have H4:=Qo B3 (.int .i64 0) (.int .i64 0);have EF:=(E.setCell (p:=⟨b3,0,none⟩) hbr (.int .i64 0)).setCell (p:=⟨b3,1,none⟩) hbr (.int .i64 0);obtain ⟨y0,y1⟩:=H4.c2;go_wp2;refine bodyPost_ret (v:=.tuple #[.agg #[.int .i64 0,.int .i64 0],.int .i64 8]) (by simp [results,Tryz.results28,go_sem,y0,y1]) rfl ⟨rfl,EF⟩
  ·have g1 : decide (k < 0) = false:=decide_eq_false c1;by_cases c2 : 1099511627776 < k
   ·have g2 : decide (1099511627776 < k) = true:=decide_eq_true c2;have hr:=hI.out.1 (.inr c2);subst hr;clear hI hnn c1 c2;have f0:=B3.frozen 0;have f1:=B3.frozen 1;obtain ⟨x0,x1⟩:=B3.c2;have lx:=B3.lt;have H4:=Qo B3 (.int .i64 0) (.int .i64 0);have EF:=(E.setCell (p:=⟨b3,0,none⟩) hbr (.int .i64 0)).setCell (p:=⟨b3,1,none⟩) hbr (.int .i64 0);obtain ⟨y0,y1⟩:=H4.c2;go_wp2;refine bodyPost_ret (v:=.tuple #[.agg #[.int .i64 0,.int .i64 0],.int .i64 8]) (by simp [results,Tryz.results28,go_sem,y0,y1]) rfl ⟨rfl,EF⟩
   ·have g2 : decide (1099511627776 < k) = false:=decide_eq_false c2;obtain ⟨np,nr⟩:=Bool.and_eq_true_iff.1 hnn;have hok : ∀ i,i < 4 → (Kq p r k i).ok = true:=Eh (Kw np).1 (Kw nr).1 Qa Qa;have NP:=fun w b h z => Qb6 (some ⟨b,0,none⟩) 4 4 (Kq p r k) w h (by decide) (fun i hi => Qbn (hok i hi)) z
    rw [Ql9 (by decide) hok,show U0 (Kq p r k) 4 = R from (hI.out.2 Qa Qa).symm] at NP;clear hI hnn np nr hok c1 c2;obtain ⟨⟨Rn,Rd⟩,Re⟩:=R;go_upto_region 5 with (fail)
    refine Q5 11 [9,10] (fun x => Qb w2 x) mixed rfl ?_;intro vz hvz;have HC:=hvz;refine Qr (g:=7) [0,1,2,4] HC ?_
    constructor
    refine ⟨fun u hu => ?_,?_⟩
    ·obtain ⟨k0,k1⟩:=(B1.ext hu).c2;obtain ⟨p0,p1⟩:=(B2.ext hu).c2;have lk:=(B1.ext hu).lt;have lp:=(B2.ext hu).lt;exact Qj
    refine Qk 3 ?_;go_wp2_with (go_at_call 72;(with_reducible refine zc (Wt _ _) ?_);rintro e va ⟨rfl,h4⟩);replace HC:=HC.trans h4;clear h4 hvz;refine Qe HC ?_;refine Qk 5 ?_;go_wp2;have B5:=rows4 (p:=p) (r:=r) (k:=k) (Qc.new va 65 #[.int .i64 p.n,.int .i64 p.d,.int .i64 r.n,.int .i64 r.d,.int .i64 k,.int .i64 1,.int .i64 1,.int .i64 360]);replace HC : Qb w2 (va.alloc _):=HC.alloc (.cells #[.int .i64 p.n,.int .i64 p.d,.int .i64 r.n,.int .i64 r.d,.int .i64 k,.int .i64 1,.int .i64 1,.int .i64 360] 65);generalize va.heap.size = b5 at *;generalize World.alloc va _ = vd at *;clear va;refine Qe HC ?_;refine Qk 6 ?_;go_wp2_with (go_at_call 71;(with_reducible refine zc (NP _ _ B5 (Z0.ext HC)) ?_);rintro e vb ⟨rfl,h4⟩)
    replace HC:=HC.trans h4;clear h4 B5 NP;refine Qe HC ?_;refine Qr (g:=2) [7,8] HC ?_
    constructor
    refine ⟨fun u hu => ?_,?_⟩
    ·skip
     exact Qj
    replace B3:=B3.ext HC;replace E:=E.trans HC;refine Qn 9 ?_;have f0:=B3.frozen 0;have f1:=B3.frozen 1;obtain ⟨x0,x1⟩:=B3.c2;have lx:=B3.lt;have H4:=Qo B3 (.int .i64 Rn) (.int .i64 Rd);have EF:=(E.setCell (p:=⟨b3,0,none⟩) hbr (.int .i64 Rn)).setCell (p:=⟨b3,1,none⟩) hbr (.int .i64 Rd);obtain ⟨y0,y1⟩:=H4.c2;go_wp2;refine Qm ?_;refine Qn 10 ?_;go_wp2;refine Qm ?_;refine Qt ?_;go_wp2;refine bodyPost_ret (v:=.tuple #[.agg #[.int .i64 Rn,.int .i64 Rd],.int .i64 Re]) (by simp [results,Tryz.results28,go_sem,y0,y1]) rfl ⟨rfl,EF⟩
theorem Qdt (n : Nat) : upTo (fun _ => n) 1 = n:=by show 1 * n = n;omega
theorem Qdu {w : World} {b : Nat} {t : TypeId} {n : Nat} (h : Qc w b t #[.int .u64 (n : Int)]) : Qs w (some ⟨b,0,none⟩) 1 1 (Zd fun _ => n):=L3 (f:=Zd fun _ => n) (n:=1) (fun _ => rfl) h
theorem Qcc (n d : Int) (hn1 : -9223372036854775808 ≤ n) (hn2 : n ≤ 9223372036854775807) (hd1 : -9223372036854775808 ≤ d) (hd2 : d ≤ 9223372036854775807) (w : World) (hZ : Z6 w) :
  Calls Tryz.prog 134 #[.int .i64 n,.int .i64 d] w fun e w' => e = .returned (.tuple #[.agg #[.int .i64 (J4 n d).1.n,.int .i64 (J4 n d).1.d],.int .i64 (J4 n d).2]) ∧ Qb w w':=by
 obtain ⟨R,hR0⟩:=Qf (J4 n d);rw [← hR0];have HR:=Lib.hid hR0;clear hR0
 go_enter Tryz.func134,Tryz.ntmps134
 go_upto_region 1 with (fail)
 obtain ⟨v,b1,E,B1,hbr,hv,hb1⟩:=Yi w 65 #[.int .i64 0,.int .i64 0];rw [← hv,← hb1];clear hv hb1;have Z0:=hZ.ext E;clear hZ;by_cases hd0 : d = 0
 ·have g0 : (d == 0) = true := by rw [hd0]; rfl
  have hr : R = (Zk,9):=by rw [HR.out];unfold J4;rw [if_pos hd0]
  subst hr;clear HR hd0;have f0:=B1.frozen 0;have f1:=B1.frozen 1;obtain ⟨x0,x1⟩:=B1.c2;have lx:=B1.lt;have H4:=Qo B1 (.int .i64 0) (.int .i64 0);have EF:=(E.setCell (p:=⟨b1,0,none⟩) hbr (.int .i64 0)).setCell (p:=⟨b1,1,none⟩) hbr (.int .i64 0);obtain ⟨y0,y1⟩:=H4.c2;go_wp2;refine bodyPost_ret (v:=.tuple #[.agg #[.int .i64 0,.int .i64 0],.int .i64 9]) (by simp [results,Tryz.results134,go_sem,y0,y1]) rfl ⟨rfl,EF⟩
 ·have g0 : (d == 0) = false:=beq_eq_false_iff_ne.2 hd0;by_cases hn0 : n = 0
  ·have g1 : (n == 0) = true := by rw [hn0]; rfl
   have hr : R = (⟨0,1⟩,0):=by rw [HR.out];unfold J4;rw [if_neg hd0,hn0];exact Dd Qa
   subst hr;clear HR hd0 hn0;obtain ⟨z0,z1,lz⟩:=Z0;have f0:=B1.frozen 0;have f1:=B1.frozen 1;obtain ⟨x0,x1⟩:=B1.c2;have lx:=B1.lt;have H4:=Qo B1 (.int .i64 0) (.int .i64 1);have EF:=(E.setCell (p:=⟨b1,0,none⟩) hbr (.int .i64 0)).setCell (p:=⟨b1,1,none⟩) hbr (.int .i64 1);obtain ⟨y0,y1⟩:=H4.c2;go_wp2;refine bodyPost_ret (v:=.tuple #[.agg #[.int .i64 0,.int .i64 1],.int .i64 0]) (by simp [results,Tryz.results134,go_sem,y0,y1]) rfl ⟨rfl,EF⟩
  ·have g1 : (n == 0) = false:=beq_eq_false_iff_ne.2 hn0;have NN:=fun w => Vr n hn1 hn2 w
   have ND:=fun w => Vr d hd1 hd2 w
   have NR:=fun w b b' neg (hneg : neg = (decide (n < 0) != decide (d < 0))) h h' => De (some ⟨b,0,none⟩) (some ⟨b',0,none⟩) 1 1 1 1 (fun _ => n.natAbs) (fun _ => d.natAbs) neg w h h' (fun h => by cases h) (fun h => by cases h) (by decide) (by decide) (fun i hi => by omega) (fun i hi => by omega) (fun i hi => by omega) (fun i hi => by omega)
   have hq : ∀ neg,neg = (decide (n < 0) != decide (d < 0)) → Jn neg n.natAbs d.natAbs = R:=fun neg e => by rw [e,HR.out];unfold J4;rw [if_neg hd0]
   have NR : ∀ (w : World) (b b' : Nat),Qs w (some ⟨b,0,none⟩) 1 1 (Zd fun _ => n.natAbs) → Qs w (some ⟨b',0,none⟩) 1 1 (Zd fun _ => d.natAbs) → Calls Tryz.prog 163 #[.agg #[.slice (some ⟨b,0,none⟩) 1 1,.slice (some ⟨b',0,none⟩) 1 1],.bool (!(decide (n < 0) == decide (d < 0)))] w fun e w' => e = .returned (.tuple #[.agg #[.int .i64 R.1.n,.int .i64 R.1.d],.int .i64 R.2]) ∧ Qb w w':=fun w b b' h h' => by
    have:=NR w b b' _ rfl h h';rw [Qdt,Qdt,hq _ rfl] at this;exact this
   clear hq;generalize n.natAbs = an at *;generalize d.natAbs = ad at *;clear HR hn0 hd0;obtain ⟨⟨Rn,Rd⟩,Re⟩:=R
   go_wp2_with (first
    | (go_at_call 162;(with_reducible refine zc (NN _) ?_);rintro e w1 ⟨rfl,h1⟩;have U1:=Qdu (Qc.new w1 245 #[.int .u64 (an : Int)]);have h2 : Qb w1 (w1.alloc (.cells #[.int .u64 (an : Int)] 245)):=(Qb.refl _).alloc _)
    | (go_at_call 162;(with_reducible refine zc (ND _) ?_);rintro e w3 ⟨rfl,h3⟩;have U2:=Qdu (Qc.new w3 245 #[.int .u64 (ad : Int)]);have h4 : Qb w3 (w3.alloc (.cells #[.int .u64 (ad : Int)] 245)):=(Qb.refl _).alloc _)
    | (go_at_call 163;(with_reducible refine zc (NR _ _ _ (U1.ext (h3.trans h4)) U2) ?_);rintro e wt ⟨rfl,ht⟩;replace E:=((((E.trans h1).trans h2).trans h3).trans h4).trans ht;replace B1:=((((B1.ext h1).ext h2).ext h3).ext h4).ext ht;have f0:=B1.frozen 0;have f1:=B1.frozen 1;obtain ⟨x0,x1⟩:=B1.c2;have lx:=B1.lt))
   have H4:=Qo B1 (.int .i64 Rn) (.int .i64 Rd);have EF:=(E.setCell (p:=⟨b1,0,none⟩) hbr (.int .i64 Rn)).setCell (p:=⟨b1,1,none⟩) hbr (.int .i64 Rd);obtain ⟨y0,y1⟩:=H4.c2;go_wp2;refine bodyPost_ret (v:=.tuple #[.agg #[.int .i64 Rn,.int .i64 Rd],.int .i64 Re]) (by simp [results,Tryz.results134,go_sem,y0,y1]) rfl ⟨rfl,EF⟩
theorem Qef (a b : Rt) (ha : a.ok = true) (hb : b.ok = true) (ba bb : Nat) (w : World) (hA : Qc w ba 65 #[.int .i64 a.n,.int .i64 a.d]) (hB : Qc w bb 65 #[.int .i64 b.n,.int .i64 b.d]) (hZ : Z6 w) :
  Calls Tryz.prog 133 #[.pointer (some ⟨ba,0,none⟩),.pointer (some ⟨bb,0,none⟩)] w fun e w' => e = .returned (.tuple #[.agg #[.int .i64 (J4 (a.n * b.d + b.n * a.d) (a.d * b.d)).1.n,.int .i64 (J4 (a.n * b.d + b.n * a.d) (a.d * b.d)).1.d],.int .i64 (J4 (a.n * b.d + b.n * a.d) (a.d * b.d)).2]) ∧ Qb w w':=by
 obtain ⟨m1,m2,m3,m4⟩:=Vm ha hb;obtain ⟨m5,m6,_,_⟩:=Vm hb ha;have w1 : IntKind.i64.wrap (a.n * b.d) = a.n * b.d:=Zy Qa Qa;have w2 : IntKind.i64.wrap (b.n * a.d) = b.n * a.d:=Zy Qa Qa;have w3 : IntKind.i64.wrap (a.n * b.d + b.n * a.d) = a.n * b.d + b.n * a.d:=Zy Qa Qa;have w4 : IntKind.i64.wrap (a.d * b.d) = a.d * b.d:=Zy Qa Qa;have NR:=fun w z => Qcc (a.n * b.d + b.n * a.d) (a.d * b.d) Qa Qa Qa Qa w z
 obtain ⟨R,hR0⟩:=Qf (J4 (a.n * b.d + b.n * a.d) (a.d * b.d));rw [← hR0] at NR ⊢;clear hR0 m1 m2 m3 m4 m5 m6 ha hb
 go_enter Tryz.func133,Tryz.ntmps133
 go_upto_region 1 with (fail)
 obtain ⟨v,b1,E,B1,hbr,hv,hb1⟩:=Yi w 65 #[.int .i64 0,.int .i64 0];rw [← hv,← hb1];clear hv hb1;have Z0:=hZ.ext E;replace hA:=hA.ext E;replace hB:=hB.ext E;obtain ⟨k0,k1⟩:=hA.c2;have lk:=hA.lt;obtain ⟨p0,p1⟩:=hB.c2;have lp:=hB.lt;obtain ⟨⟨Rn,Rd⟩,Re⟩:=R;go_wp2_with (first | (go_at_call 134;(with_reducible refine zc (NR _ Z0) ?_);rintro e wt ⟨rfl,ht⟩;replace E:=E.trans ht;replace B1:=B1.ext ht;have f0:=B1.frozen 0;have f1:=B1.frozen 1;obtain ⟨x0,x1⟩:=B1.c2;have lx:=B1.lt));have H4:=Qo B1 (.int .i64 Rn) (.int .i64 Rd);have EF:=(E.setCell (p:=⟨b1,0,none⟩) hbr (.int .i64 Rn)).setCell (p:=⟨b1,1,none⟩) hbr (.int .i64 Rd);obtain ⟨y0,y1⟩:=H4.c2
 go_wp2;refine bodyPost_ret (v:=.tuple #[.agg #[.int .i64 Rn,.int .i64 Rd],.int .i64 Re]) (by simp [results,Tryz.results133,go_sem,y0,y1]) rfl ⟨rfl,EF⟩
theorem Qm4 (a b : Rt) (ha : a.ok = true) (hb : b.ok = true) (ba bb : Nat) (w : World) (hA : Qc w ba 65 #[.int .i64 a.n,.int .i64 a.d]) (hB : Qc w bb 65 #[.int .i64 b.n,.int .i64 b.d]) (hZ : Z6 w) :
  Calls Tryz.prog 139 #[.pointer (some ⟨ba,0,none⟩),.pointer (some ⟨bb,0,none⟩)] w fun e w' => e = .returned (.tuple #[.agg #[.int .i64 (J4 (a.n * b.d - b.n * a.d) (a.d * b.d)).1.n,.int .i64 (J4 (a.n * b.d - b.n * a.d) (a.d * b.d)).1.d],.int .i64 (J4 (a.n * b.d - b.n * a.d) (a.d * b.d)).2]) ∧ Qb w w':=by
 obtain ⟨m1,m2,m3,m4⟩:=Vm ha hb;obtain ⟨m5,m6,_,_⟩:=Vm hb ha;have w1 : IntKind.i64.wrap (a.n * b.d) = a.n * b.d:=Zy Qa Qa;have w2 : IntKind.i64.wrap (b.n * a.d) = b.n * a.d:=Zy Qa Qa;have w3 : IntKind.i64.wrap (a.n * b.d - b.n * a.d) = a.n * b.d - b.n * a.d:=Zy Qa Qa;have w4 : IntKind.i64.wrap (a.d * b.d) = a.d * b.d:=Zy Qa Qa;have NR:=fun w z => Qcc (a.n * b.d - b.n * a.d) (a.d * b.d) Qa Qa Qa Qa w z
 obtain ⟨R,hR0⟩:=Qf (J4 (a.n * b.d - b.n * a.d) (a.d * b.d));rw [← hR0] at NR ⊢;clear hR0 m1 m2 m3 m4 m5 m6 ha hb
 go_enter Tryz.func139,Tryz.ntmps139
 go_upto_region 1 with (fail)
 obtain ⟨v,b1,E,B1,hbr,hv,hb1⟩:=Yi w 65 #[.int .i64 0,.int .i64 0];rw [← hv,← hb1];clear hv hb1;have Z0:=hZ.ext E;replace hA:=hA.ext E;replace hB:=hB.ext E;obtain ⟨k0,k1⟩:=hA.c2;have lk:=hA.lt;obtain ⟨p0,p1⟩:=hB.c2;have lp:=hB.lt;obtain ⟨⟨Rn,Rd⟩,Re⟩:=R;go_wp2_with (first | (go_at_call 134;(with_reducible refine zc (NR _ Z0) ?_);rintro e wt ⟨rfl,ht⟩;replace E:=E.trans ht;replace B1:=B1.ext ht;have f0:=B1.frozen 0;have f1:=B1.frozen 1;obtain ⟨x0,x1⟩:=B1.c2;have lx:=B1.lt));have H4:=Qo B1 (.int .i64 Rn) (.int .i64 Rd);have EF:=(E.setCell (p:=⟨b1,0,none⟩) hbr (.int .i64 Rn)).setCell (p:=⟨b1,1,none⟩) hbr (.int .i64 Rd);obtain ⟨y0,y1⟩:=H4.c2
 go_wp2;refine bodyPost_ret (v:=.tuple #[.agg #[.int .i64 Rn,.int .i64 Rd],.int .i64 Re]) (by simp [results,Tryz.results139,go_sem,y0,y1]) rfl ⟨rfl,EF⟩
theorem Qfq (a b : Rt) (hia : a.In) (hib : b.In) (ba bb : Nat) (w : World) (hA : Qc w ba 65 #[.int .i64 a.n,.int .i64 a.d]) (hB : Qc w bb 65 #[.int .i64 b.n,.int .i64 b.d]) (hZ : Z6 w) :
  Calls Tryz.prog 132 #[.agg #[.int .i64 a.n,.int .i64 a.d],.agg #[.int .i64 b.n,.int .i64 b.d],.func (.func 133) #[] #[.pointer (some ⟨ba,0,none⟩),.pointer (some ⟨bb,0,none⟩)]] w fun e w' => e = .returned (.tuple #[.agg #[.int .i64 (Zm a b).1.n,.int .i64 (Zm a b).1.d],.int .i64 (Zm a b).2]) ∧ Qb w w':=by
 have NA:=fun w => Vl a.n a.d hia.1 hia.2.1 hia.2.2.1 hia.2.2.2 w
 have NB:=fun w => Vl b.n b.d hib.1 hib.2.1 hib.2.2.1 hib.2.2.2 w
 rw [show Rt.ok ⟨a.n,a.d⟩ = a.ok from rfl] at NA;rw [show Rt.ok ⟨b.n,b.d⟩ = b.ok from rfl] at NB;have NC:=fun ha hb w h1 h2 z => Qef a b ha hb ba bb w h1 h2 z
 have HV : Hid (Zm a b = if a.ok && b.ok then J4 (a.n * b.d + b.n * a.d) (a.d * b.d) else (Zk,2)):=rfl;obtain ⟨R,hR0⟩:=Qf (Zm a b);rw [← hR0];have HR:=Lib.hid hR0;clear hR0;rw [show Zm a b = R from HR.out.symm] at HV;clear HR
 go_enter Tryz.func132,Tryz.ntmps132
 go_upto_region 1 with (fail)
 obtain ⟨v,b1,b2,b3,E,B1,B2,B3,hbr1,hbr2,hbr,hn21,hn31,hn32,hv,hb1,hb2,hb3⟩:=Uq w 65 #[.int .i64 a.n,.int .i64 a.d] 65 #[.int .i64 b.n,.int .i64 b.d] 65 #[.int .i64 0,.int .i64 0];rw [← hv,← hb3,← hb2,← hb1];clear hv hb1 hb2 hb3;obtain ⟨k0,k1⟩:=B1.c2;have lk:=B1.lt;obtain ⟨p0,p1⟩:=B2.c2;have lp:=B2.lt;cases ha : a.ok
 ·simp only [ha] at NA;have hr:=HV.out;rw [ha,Bool.false_and,if_neg (by decide)] at hr;subst hr;clear HV NC NB;go_upto_region 2 with (go_at_call 121;(with_reducible refine zc (NA _) ?_);rintro e w2 ⟨rfl,h⟩)
  replace E:=E.trans h;replace B3:=B3.ext h;have f0:=B3.frozen 0;have f1:=B3.frozen 1;obtain ⟨x0,x1⟩:=B3.c2;have lx:=B3.lt;have H4:=Qo B3 (.int .i64 0) (.int .i64 0);have EF:=(E.setCell (p:=⟨b3,0,none⟩) hbr (.int .i64 0)).setCell (p:=⟨b3,1,none⟩) hbr (.int .i64 0);obtain ⟨y0,y1⟩:=H4.c2;go_wp2;refine bodyPost_ret (v:=.tuple #[.agg #[.int .i64 0,.int .i64 0],.int .i64 2]) (by simp [results,Tryz.results132,go_sem,y0,y1]) rfl ⟨rfl,EF⟩
 ·simp only [ha] at NA;cases hb : b.ok
  ·simp only [hb] at NB;have hr:=HV.out;rw [hb,Bool.and_false,if_neg (by decide)] at hr;subst hr;clear HV NC;go_upto_region 2 with (first | (go_at_call 121;(with_reducible refine zc (NA _) ?_);rintro e w1 ⟨rfl,h1⟩;clear p0 p1 lp;obtain ⟨p0,p1⟩:=(B2.ext h1).c2;have lp:=(B2.ext h1).lt) | (go_at_call 121;(with_reducible refine zc (NB _) ?_);rintro e w2 ⟨rfl,h⟩))
   replace E:=(E.trans h1).trans h;replace B3:=(B3.ext h1).ext h;have f0:=B3.frozen 0;have f1:=B3.frozen 1;obtain ⟨x0,x1⟩:=B3.c2;have lx:=B3.lt;have H4:=Qo B3 (.int .i64 0) (.int .i64 0);have EF:=(E.setCell (p:=⟨b3,0,none⟩) hbr (.int .i64 0)).setCell (p:=⟨b3,1,none⟩) hbr (.int .i64 0);obtain ⟨y0,y1⟩:=H4.c2;go_wp2;refine bodyPost_ret (v:=.tuple #[.agg #[.int .i64 0,.int .i64 0],.int .i64 2]) (by simp [results,Tryz.results132,go_sem,y0,y1]) rfl ⟨rfl,EF⟩
  ·simp only [hb] at NB;replace NC:=NC ha hb;have hr:=HV.out;rw [ha,hb,Bool.and_true,if_pos rfl] at hr;rw [← hr] at NC;clear HV hr ha hb;obtain ⟨⟨Rn,Rd⟩,Re⟩:=R;go_upto_region 3 with (first | (go_at_call 121;(with_reducible refine zc (NA _) ?_);rintro e w1 ⟨rfl,h1⟩;clear p0 p1 lp;obtain ⟨p0,p1⟩:=(B2.ext h1).c2;have lp:=(B2.ext h1).lt) | (go_at_call 121;(with_reducible refine zc (NB _) ?_);rintro e w2 ⟨rfl,h⟩))
   have e2:=(E.trans h1).trans h;replace B3:=(B3.ext h1).ext h;replace NC:=NC w2 (hA.ext e2) (hB.ext e2) (hZ.ext e2);replace E:=e2;go_wp2_with (first | (go_at_call 133;(with_reducible refine zc (NC) ?_);rintro e wt ⟨rfl,ht⟩;replace E:=E.trans ht;replace B3:=B3.ext ht;have f0:=B3.frozen 0;have f1:=B3.frozen 1;obtain ⟨x0,x1⟩:=B3.c2;have lx:=B3.lt) | (go_at_fn 133;(with_reducible refine zc (NC) ?_);rintro e wt ⟨rfl,ht⟩;replace E:=E.trans ht;replace B3:=B3.ext ht;have f0:=B3.frozen 0;have f1:=B3.frozen 1;obtain ⟨x0,x1⟩:=B3.c2;have lx:=B3.lt));have H4:=Qo B3 (.int .i64 Rn) (.int .i64 Rd);have EF:=(E.setCell (p:=⟨b3,0,none⟩) hbr (.int .i64 Rn)).setCell (p:=⟨b3,1,none⟩) hbr (.int .i64 Rd)
   obtain ⟨y0,y1⟩:=H4.c2;go_wp2;refine bodyPost_ret (v:=.tuple #[.agg #[.int .i64 Rn,.int .i64 Rd],.int .i64 Re]) (by simp [results,Tryz.results132,go_sem,y0,y1]) rfl ⟨rfl,EF⟩
theorem Nx (a b : Rt) (hia : a.In) (hib : b.In) (w : World) (hZ : Z6 w) :
  Calls Tryz.prog 86 #[.agg #[.int .i64 a.n,.int .i64 a.d],.agg #[.int .i64 b.n,.int .i64 b.d]] w fun e w' => e = .returned (.tuple #[.agg #[.int .i64 (Zm a b).1.n,.int .i64 (Zm a b).1.d],.int .i64 (Zm a b).2]) ∧ Qb w w':=by
 have NC:=fun ba bb w h1 h2 z => Qfq a b hia hib ba bb w h1 h2 z
 obtain ⟨R,hR0⟩:=Qf (Zm a b);rw [← hR0];have HR:=Lib.hid hR0;clear hR0;rw [show Zm a b = R from HR.out.symm] at NC;clear HR
 go_enter Tryz.func86,Tryz.ntmps86
 go_upto_region 1 with (fail)
 obtain ⟨v,b1,b2,b3,E,B1,B2,B3,hbr1,hbr2,hbr,hn21,hn31,hn32,hv,hb1,hb2,hb3⟩:=Uq w 65 #[.int .i64 a.n,.int .i64 a.d] 65 #[.int .i64 b.n,.int .i64 b.d] 65 #[.int .i64 0,.int .i64 0];rw [← hv,← hb3,← hb2,← hb1];clear hv hb1 hb2 hb3;have Z0:=hZ.ext E;obtain ⟨k0,k1⟩:=B1.c2;have lk:=B1.lt;obtain ⟨p0,p1⟩:=B2.c2;have lp:=B2.lt;obtain ⟨⟨Rn,Rd⟩,Re⟩:=R;go_wp2_with (first | (go_at_call 132;(with_reducible refine zc (NC _ _ _ B1 B2 Z0) ?_);rintro e wt ⟨rfl,ht⟩;replace E:=E.trans ht;replace B3:=B3.ext ht;have f0:=B3.frozen 0;have f1:=B3.frozen 1;obtain ⟨x0,x1⟩:=B3.c2;have lx:=B3.lt));have H4:=Qo B3 (.int .i64 Rn) (.int .i64 Rd);have EF:=(E.setCell (p:=⟨b3,0,none⟩) hbr (.int .i64 Rn)).setCell (p:=⟨b3,1,none⟩) hbr (.int .i64 Rd)
 obtain ⟨y0,y1⟩:=H4.c2;go_wp2;refine bodyPost_ret (v:=.tuple #[.agg #[.int .i64 Rn,.int .i64 Rd],.int .i64 Re]) (by simp [results,Tryz.results86,go_sem,y0,y1]) rfl ⟨rfl,EF⟩
theorem Qfs (a b : Rt) (hia : a.In) (hib : b.In) (ba bb : Nat) (w : World) (hA : Qc w ba 65 #[.int .i64 a.n,.int .i64 a.d]) (hB : Qc w bb 65 #[.int .i64 b.n,.int .i64 b.d]) (hZ : Z6 w) :
  Calls Tryz.prog 132 #[.agg #[.int .i64 a.n,.int .i64 a.d],.agg #[.int .i64 b.n,.int .i64 b.d],.func (.func 139) #[] #[.pointer (some ⟨ba,0,none⟩),.pointer (some ⟨bb,0,none⟩)]] w fun e w' => e = .returned (.tuple #[.agg #[.int .i64 (Ji a b).1.n,.int .i64 (Ji a b).1.d],.int .i64 (Ji a b).2]) ∧ Qb w w':=by
 have NA:=fun w => Vl a.n a.d hia.1 hia.2.1 hia.2.2.1 hia.2.2.2 w
 have NB:=fun w => Vl b.n b.d hib.1 hib.2.1 hib.2.2.1 hib.2.2.2 w
 rw [show Rt.ok ⟨a.n,a.d⟩ = a.ok from rfl] at NA;rw [show Rt.ok ⟨b.n,b.d⟩ = b.ok from rfl] at NB;have NC:=fun ha hb w h1 h2 z => Qm4 a b ha hb ba bb w h1 h2 z
 have HV : Hid (Ji a b = if a.ok && b.ok then J4 (a.n * b.d - b.n * a.d) (a.d * b.d) else (Zk,2)):=rfl;obtain ⟨R,hR0⟩:=Qf (Ji a b);rw [← hR0];have HR:=Lib.hid hR0;clear hR0;rw [show Ji a b = R from HR.out.symm] at HV;clear HR
 go_enter Tryz.func132,Tryz.ntmps132
 go_upto_region 1 with (fail)
 obtain ⟨v,b1,b2,b3,E,B1,B2,B3,hbr1,hbr2,hbr,hn21,hn31,hn32,hv,hb1,hb2,hb3⟩:=Uq w 65 #[.int .i64 a.n,.int .i64 a.d] 65 #[.int .i64 b.n,.int .i64 b.d] 65 #[.int .i64 0,.int .i64 0];rw [← hv,← hb3,← hb2,← hb1];clear hv hb1 hb2 hb3;obtain ⟨k0,k1⟩:=B1.c2;have lk:=B1.lt;obtain ⟨p0,p1⟩:=B2.c2;have lp:=B2.lt;cases ha : a.ok
 ·simp only [ha] at NA;have hr:=HV.out;rw [ha,Bool.false_and,if_neg (by decide)] at hr;subst hr;clear HV NC NB;go_upto_region 2 with (go_at_call 121;(with_reducible refine zc (NA _) ?_);rintro e w2 ⟨rfl,h⟩)
  replace E:=E.trans h;replace B3:=B3.ext h;have f0:=B3.frozen 0;have f1:=B3.frozen 1;obtain ⟨x0,x1⟩:=B3.c2;have lx:=B3.lt;have H4:=Qo B3 (.int .i64 0) (.int .i64 0);have EF:=(E.setCell (p:=⟨b3,0,none⟩) hbr (.int .i64 0)).setCell (p:=⟨b3,1,none⟩) hbr (.int .i64 0);obtain ⟨y0,y1⟩:=H4.c2;go_wp2;refine bodyPost_ret (v:=.tuple #[.agg #[.int .i64 0,.int .i64 0],.int .i64 2]) (by simp [results,Tryz.results132,go_sem,y0,y1]) rfl ⟨rfl,EF⟩
 ·simp only [ha] at NA;cases hb : b.ok
  ·simp only [hb] at NB;have hr:=HV.out;rw [hb,Bool.and_false,if_neg (by decide)] at hr;subst hr;clear HV NC;go_upto_region 2 with (first | (go_at_call 121;(with_reducible refine zc (NA _) ?_);rintro e w1 ⟨rfl,h1⟩;clear p0 p1 lp;obtain ⟨p0,p1⟩:=(B2.ext h1).c2;have lp:=(B2.ext h1).lt) | (go_at_call 121;(with_reducible refine zc (NB _) ?_);rintro e w2 ⟨rfl,h⟩))
   replace E:=(E.trans h1).trans h;replace B3:=(B3.ext h1).ext h;have f0:=B3.frozen 0;have f1:=B3.frozen 1;obtain ⟨x0,x1⟩:=B3.c2;have lx:=B3.lt;have H4:=Qo B3 (.int .i64 0) (.int .i64 0);have EF:=(E.setCell (p:=⟨b3,0,none⟩) hbr (.int .i64 0)).setCell (p:=⟨b3,1,none⟩) hbr (.int .i64 0);obtain ⟨y0,y1⟩:=H4.c2;go_wp2;refine bodyPost_ret (v:=.tuple #[.agg #[.int .i64 0,.int .i64 0],.int .i64 2]) (by simp [results,Tryz.results132,go_sem,y0,y1]) rfl ⟨rfl,EF⟩
  ·simp only [hb] at NB;replace NC:=NC ha hb;have hr:=HV.out;rw [ha,hb,Bool.and_true,if_pos rfl] at hr;rw [← hr] at NC;clear HV hr ha hb;obtain ⟨⟨Rn,Rd⟩,Re⟩:=R;go_upto_region 3 with (first | (go_at_call 121;(with_reducible refine zc (NA _) ?_);rintro e w1 ⟨rfl,h1⟩;clear p0 p1 lp;obtain ⟨p0,p1⟩:=(B2.ext h1).c2;have lp:=(B2.ext h1).lt) | (go_at_call 121;(with_reducible refine zc (NB _) ?_);rintro e w2 ⟨rfl,h⟩))
   have e2:=(E.trans h1).trans h;replace B3:=(B3.ext h1).ext h;replace NC:=NC w2 (hA.ext e2) (hB.ext e2) (hZ.ext e2);replace E:=e2;go_wp2_with (first | (go_at_call 139;(with_reducible refine zc (NC) ?_);rintro e wt ⟨rfl,ht⟩;replace E:=E.trans ht;replace B3:=B3.ext ht;have f0:=B3.frozen 0;have f1:=B3.frozen 1;obtain ⟨x0,x1⟩:=B3.c2;have lx:=B3.lt) | (go_at_fn 139;(with_reducible refine zc (NC) ?_);rintro e wt ⟨rfl,ht⟩;replace E:=E.trans ht;replace B3:=B3.ext ht;have f0:=B3.frozen 0;have f1:=B3.frozen 1;obtain ⟨x0,x1⟩:=B3.c2;have lx:=B3.lt));have H4:=Qo B3 (.int .i64 Rn) (.int .i64 Rd);have EF:=(E.setCell (p:=⟨b3,0,none⟩) hbr (.int .i64 Rn)).setCell (p:=⟨b3,1,none⟩) hbr (.int .i64 Rd)
   obtain ⟨y0,y1⟩:=H4.c2;go_wp2;refine bodyPost_ret (v:=.tuple #[.agg #[.int .i64 Rn,.int .i64 Rd],.int .i64 Re]) (by simp [results,Tryz.results132,go_sem,y0,y1]) rfl ⟨rfl,EF⟩
theorem Hv (a b : Rt) (hia : a.In) (hib : b.In) (w : World) (hZ : Z6 w) :
  Calls Tryz.prog 89 #[.agg #[.int .i64 a.n,.int .i64 a.d],.agg #[.int .i64 b.n,.int .i64 b.d]] w fun e w' => e = .returned (.tuple #[.agg #[.int .i64 (Ji a b).1.n,.int .i64 (Ji a b).1.d],.int .i64 (Ji a b).2]) ∧ Qb w w':=by
 have NC:=fun ba bb w h1 h2 z => Qfs a b hia hib ba bb w h1 h2 z
 obtain ⟨R,hR0⟩:=Qf (Ji a b);rw [← hR0];have HR:=Lib.hid hR0;clear hR0;rw [show Ji a b = R from HR.out.symm] at NC;clear HR
 go_enter Tryz.func89,Tryz.ntmps89
 go_upto_region 1 with (fail)
 obtain ⟨v,b1,b2,b3,E,B1,B2,B3,hbr1,hbr2,hbr,hn21,hn31,hn32,hv,hb1,hb2,hb3⟩:=Uq w 65 #[.int .i64 a.n,.int .i64 a.d] 65 #[.int .i64 b.n,.int .i64 b.d] 65 #[.int .i64 0,.int .i64 0];rw [← hv,← hb3,← hb2,← hb1];clear hv hb1 hb2 hb3;have Z0:=hZ.ext E;obtain ⟨k0,k1⟩:=B1.c2;have lk:=B1.lt;obtain ⟨p0,p1⟩:=B2.c2;have lp:=B2.lt;obtain ⟨⟨Rn,Rd⟩,Re⟩:=R;go_wp2_with (first | (go_at_call 132;(with_reducible refine zc (NC _ _ _ B1 B2 Z0) ?_);rintro e wt ⟨rfl,ht⟩;replace E:=E.trans ht;replace B3:=B3.ext ht;have f0:=B3.frozen 0;have f1:=B3.frozen 1;obtain ⟨x0,x1⟩:=B3.c2;have lx:=B3.lt));have H4:=Qo B3 (.int .i64 Rn) (.int .i64 Rd);have EF:=(E.setCell (p:=⟨b3,0,none⟩) hbr (.int .i64 Rn)).setCell (p:=⟨b3,1,none⟩) hbr (.int .i64 Rd)
 obtain ⟨y0,y1⟩:=H4.c2;go_wp2;refine bodyPost_ret (v:=.tuple #[.agg #[.int .i64 Rn,.int .i64 Rd],.int .i64 Re]) (by simp [results,Tryz.results89,go_sem,y0,y1]) rfl ⟨rfl,EF⟩
theorem Qgj (a b : Rt) (hia : a.In) (hib : b.In) (w : World) :
  Calls Tryz.prog 185 #[.agg #[.int .i64 a.n,.int .i64 a.d],.agg #[.int .i64 b.n,.int .i64 b.d]] w fun e w' => e = .returned (.tuple #[.int .i64 (Ut a b).1,.int .i64 (Ut a b).2]) ∧ Qb w w':=by
 have NA:=fun w => Vl a.n a.d hia.1 hia.2.1 hia.2.2.1 hia.2.2.2 w
 have NB:=fun w => Vl b.n b.d hib.1 hib.2.1 hib.2.2.1 hib.2.2.2 w
 rw [show Rt.ok ⟨a.n,a.d⟩ = a.ok from rfl] at NA;rw [show Rt.ok ⟨b.n,b.d⟩ = b.ok from rfl] at NB;have HV : Hid (Ut a b = if a.ok && b.ok then (Mg (a.n * b.d) (b.n * a.d),0) else (0,2)):=rfl;obtain ⟨R,hR0⟩:=Qf (Ut a b);rw [← hR0] at HV ⊢;clear hR0;cases ha : a.ok
 ·simp only [ha] at NA;have hr:=HV.out;rw [ha,Bool.false_and,if_neg (by decide)] at hr;subst hr;clear HV NB
  go_enter Tryz.func185,Tryz.ntmps185
  go_upto_region 1 with (fail)
  obtain ⟨v,b1,b2,E,B1,B2,hbr1,hbr,hn21,hv,hb1,hb2⟩:=Yb w 65 #[.int .i64 a.n,.int .i64 a.d] 65 #[.int .i64 b.n,.int .i64 b.d];rw [← hv,← hb2,← hb1];clear hv hb1 hb2;obtain ⟨k0,k1⟩:=B1.c2;have lk:=B1.lt;obtain ⟨p0,p1⟩:=B2.c2;have lp:=B2.lt;go_wp2_with (go_at_call 121;(with_reducible refine zc (NA _) ?_);rintro e w2 ⟨rfl,h⟩);go_ret2;exact ⟨rfl,E.trans h⟩
 ·simp only [ha] at NA;cases hb : b.ok
  ·simp only [hb] at NB;have hr:=HV.out;rw [hb,Bool.and_false,if_neg (by decide)] at hr;subst hr;clear HV
   go_enter Tryz.func185,Tryz.ntmps185
   go_upto_region 1 with (fail)
   obtain ⟨v,b1,b2,E,B1,B2,hbr1,hbr,hn21,hv,hb1,hb2⟩:=Yb w 65 #[.int .i64 a.n,.int .i64 a.d] 65 #[.int .i64 b.n,.int .i64 b.d];rw [← hv,← hb2,← hb1];clear hv hb1 hb2;obtain ⟨k0,k1⟩:=B1.c2;have lk:=B1.lt;obtain ⟨p0,p1⟩:=B2.c2;have lp:=B2.lt;go_wp2_with (first | (go_at_call 121;(with_reducible refine zc (NA _) ?_);rintro e w1 ⟨rfl,h1⟩;clear p0 p1 lp;obtain ⟨p0,p1⟩:=(B2.ext h1).c2;have lp:=(B2.ext h1).lt) | (go_at_call 121;(with_reducible refine zc (NB _) ?_);rintro e w2 ⟨rfl,h⟩));go_ret2;exact ⟨rfl,(E.trans h1).trans h⟩
  ·simp only [hb] at NB;have hr := HV.out;rw [ha, hb, Bool.and_true, if_pos rfl] at hr;obtain ⟨m1, m2, _, _⟩ := Vm ha hb;obtain ⟨m5, m6, _, _⟩ := Vm hb ha;have v1 : IntKind.i64.wrap (a.n * b.d) = a.n * b.d := Zy Qa Qa;have v2 : IntKind.i64.wrap (b.n * a.d) = b.n * a.d := Zy Qa Qa;have hc : Hid (R.1 = Mg (a.n * b.d) (b.n * a.d) ∧ R.2 = 0) := ⟨by rw [hr], by rw [hr]⟩;clear HV hr ha hb hia hib;generalize hx : a.n * b.d = x at *;generalize hy : b.n * a.d = y at *;replace hx := Lib.hid hx;replace hy := Lib.hid hy
   go_enter Tryz.func185,Tryz.ntmps185
   go_upto_region 1 with (fail)
   obtain ⟨v,b1,b2,E,B1,B2,hbr1,hbr,hn21,hv,hb1,hb2⟩:=Yb w 65 #[.int .i64 a.n,.int .i64 a.d] 65 #[.int .i64 b.n,.int .i64 b.d];rw [← hv,← hb2,← hb1];clear hv hb1 hb2;obtain ⟨k0,k1⟩:=B1.c2;have lk:=B1.lt;obtain ⟨p0,p1⟩:=B2.c2;have lp:=B2.lt;go_upto_region 3 with (first | (go_at_call 121;(with_reducible refine zc (NA _) ?_);rintro e w1 ⟨rfl,h1⟩;clear p0 p1 lp;obtain ⟨p0,p1⟩:=(B2.ext h1).c2;have lp:=(B2.ext h1).lt) | (go_at_call 121;(with_reducible refine zc (NB _) ?_);rintro e w2 ⟨rfl,h⟩))
   replace E:=(E.trans h1).trans h;replace B1:=(B1.ext h1).ext h;replace B2:=(B2.ext h1).ext h;clear k0 k1 lk p0 p1 lp h h1;obtain ⟨k0,k1⟩:=B1.c2;have lk:=B1.lt;obtain ⟨p0,p1⟩:=B2.c2;have lp:=B2.lt;have x1:=hx.out;have y1:=hy.out;refine Zo w2 ?_;intro w3 h3;obtain ⟨hcbw3,hfbw3,hzbw3,hzw3⟩:=Zn w2 h3;clear x1 y1;by_cases c1 : x < y
   ·have g1 : decide (x < y) = true:=decide_eq_true c1;have hR : R = (-1,0):=Prod.ext (by rw [hc.out.1,Mg,if_pos c1]) hc.out.2;subst hR;clear c1 hc;go_wp2;go_ret2;exact ⟨rfl,E.trans h3⟩
   ·have g1 : decide (x < y) = false:=decide_eq_false c1;by_cases c2 : y < x
    ·have g2 : decide (y < x) = true:=decide_eq_true c2;have hR : R = (1,0):=Prod.ext (by rw [hc.out.1,Mg,if_neg c1,if_pos c2]) hc.out.2;subst hR;clear c1 c2 hc;go_wp2;go_ret2;exact ⟨rfl,E.trans h3⟩
    ·have g2 : decide (y < x) = false:=decide_eq_false c2;have hR : R = (0,0):=Prod.ext (by rw [hc.out.1,Mg,if_neg c1,if_neg c2]) hc.out.2;subst hR;clear c1 c2 hc;go_wp2;go_ret2;exact ⟨rfl,E.trans h3⟩
theorem Qac (a b : Rt) (hia : a.In) (hib : b.In) (w : World) :
  Calls Tryz.prog 160 #[.agg #[.int .i64 a.n,.int .i64 a.d],.agg #[.int .i64 b.n,.int .i64 b.d]] w fun e w' => e = .returned (.bool (decide ((Ut a b).1 < 0))) ∧ Qb w w':=by
 have NC:=fun w => Qgj a b hia hib w
 generalize Ut a b = R at *;obtain ⟨R1,R2⟩:=R
 go_enter Tryz.func160,Tryz.ntmps160
 go_upto_region 1 with (fail)
 obtain ⟨v,b1,b2,E,B1,B2,hbr1,hbr,hn21,hv,hb1,hb2⟩:=Yb w 65 #[.int .i64 a.n,.int .i64 a.d] 65 #[.int .i64 b.n,.int .i64 b.d];rw [← hv,← hb2,← hb1];clear hv hb1 hb2;obtain ⟨k0,k1⟩:=B1.c2;have lk:=B1.lt;obtain ⟨p0,p1⟩:=B2.c2;have lp:=B2.lt;go_wp2_with (go_at_call 185;(with_reducible refine zc (NC _) ?_);rintro e w2 ⟨rfl,h⟩);go_ret;exact ⟨rfl,E.trans h⟩
section
variable {W : World} {b : Nat} {t : TypeId} {v0 v1 v2 v3 v4 v5 v6 v7 : Value}
theorem Qc.c6 (h : Qc W b t #[v0,v1,v2,v3,v4,v5]) : W.cell? ⟨b,0,none⟩ = some v0 ∧ W.cell? ⟨b,1,none⟩ = some v1 ∧ W.cell? ⟨b,2,none⟩ = some v2 ∧ W.cell? ⟨b,3,none⟩ = some v3 ∧ W.cell? ⟨b,4,none⟩ = some v4 ∧ W.cell? ⟨b,5,none⟩ = some v5:=⟨h.cell 0,h.cell 1,h.cell 2,h.cell 3,h.cell 4,h.cell 5⟩
theorem Qc.c8 (h : Qc W b t #[v0,v1,v2,v3,v4,v5,v6,v7]) : W.cell? ⟨b,0,none⟩ = some v0 ∧ W.cell? ⟨b,1,none⟩ = some v1 ∧ W.cell? ⟨b,2,none⟩ = some v2 ∧ W.cell? ⟨b,3,none⟩ = some v3 ∧ W.cell? ⟨b,4,none⟩ = some v4 ∧ W.cell? ⟨b,5,none⟩ = some v5 ∧ W.cell? ⟨b,6,none⟩ = some v6 ∧ W.cell? ⟨b,7,none⟩ = some v7:=⟨h.cell 0,h.cell 1,h.cell 2,h.cell 3,h.cell 4,h.cell 5,h.cell 6,h.cell 7⟩
end
def Yp (f : Nat → J6) (i : Nat) : List Value:=[.int .i64 (f i).on.y,.int .i64 (f i).on.m,.bool (f i).on.s,.int .i64 (f i).on.d,.int .i64 (f i).n.n,.int .i64 (f i).n.d]
theorem Ov (A A' : Option Addr) (ca cb : Nat) (c : Qd) (w : World) (hC : Zg w A ca A' cb c) :
  Calls Tryz.prog 64 #[.agg #[.slice A c.nk ca,.slice A' c.ny cb]] w fun e w' => e = .returned (.tuple #[.agg #[.slice A c.nk ca,.slice A' c.ny cb],.int .i64 c.chk]) ∧ Qb w w':=by
 go_enter Tryz.func64,Tryz.ntmps64
 go_upto_region 1 with (fail)
 obtain ⟨v,b1,b2,E,B1,B2,hbr1,hbr,hn21,hv,hb1,hb2⟩:=Yb w 25 #[.slice A c.nk ca,.slice A' c.ny cb] 130 #[.slice none 0 0,.slice none 0 0];rw [← hv,← hb2,← hb1];clear hv hb1 hb2;have C:=hC.ext E;refine Q5 6 [4,5] (fun x => Qb v x) mixed rfl ?_;intro vz hvz;have HC:=hvz;refine Qr (g:=3) [0,1,2] HC ?_
 constructor
 refine ⟨fun u hu => ?_,?_⟩
 ·obtain ⟨k0,k1⟩:=(B1.ext hu).c2;have lk:=(B1.ext hu).lt;exact Qj
 refine Qk 3 ?_;go_wp2_with (go_at_call 115;(with_reducible refine zc (Qgb A A' ca cb c _ (C.ext HC)) ?_);rintro e va ⟨rfl,h4⟩);replace HC:=HC.trans h4;clear h4;refine Qe HC ?_;refine Qn 4 ?_;replace B2:=B2.ext HC;replace E:=E.trans HC;have f0:=B2.frozen 0;have f1:=B2.frozen 1;obtain ⟨x0,x1⟩:=B2.c2;have lx:=B2.lt;have H4:=Qo B2 (.slice A c.nk ca) (.slice A' c.ny cb);have EF:=(E.setCell (p:=⟨b2,0,none⟩) hbr (.slice A c.nk ca)).setCell (p:=⟨b2,1,none⟩) hbr (.slice A' c.ny cb);obtain ⟨y0,y1⟩:=H4.c2;go_wp2;refine Qm ?_;refine Qn 5 ?_;go_wp2;refine Qm ?_;refine Qt ?_;go_wp2;refine bodyPost_ret (v:=.tuple #[.agg #[.slice A c.nk ca,.slice A' c.ny cb],.int .i64 c.chk]) (by simp [results,Tryz.results64,go_sem,y0,y1]) rfl ⟨rfl,EF⟩
theorem Yy (A A' : Option Addr) (ca cb : Nat) (c : Qd) (d : Dt) (w : World) (hC : Zg w A ca A' cb c) :
  Calls Tryz.prog 48 #[.agg #[.slice A c.nk ca,.slice A' c.ny cb],.agg #[.int .i64 d.y,.int .i64 d.m,.bool d.s,.int .i64 d.d]] w fun e w' => e = .returned (.int .i64 (c.numV d)) ∧ Qb w w':=by
 have NN:=fun w h => Qld A A' ca cb c d w h
 go_enter Tryz.func48,Tryz.ntmps48
 go_upto_region 1 with (fail)
 obtain ⟨v,b1,b2,E,B1,B2,hbr1,hbr,hn21,hv,hb1,hb2⟩:=Yb w 130 #[.slice A c.nk ca,.slice A' c.ny cb] 51 #[.int .i64 d.y,.int .i64 d.m,.bool d.s,.int .i64 d.d];rw [← hv,← hb2,← hb1];clear hv hb1 hb2;have C:=hC.ext E;obtain ⟨k0,k1⟩:=B1.c2;have lk:=B1.lt;obtain ⟨p0,p1,p2,p3⟩:=B2.c4;have lp:=B2.lt;go_wp2_with (go_at_call 100;(with_reducible refine zc (NN _ C) ?_);rintro e w2 ⟨rfl,h⟩);go_ret;exact ⟨rfl,E.trans h⟩
theorem Gg (A A' : Option Addr) (ca cb : Nat) (c : Qd) (a b : Dt) (w : World) (hC : Zg w A ca A' cb c) :
  Calls Tryz.prog 92 #[.agg #[.slice A c.nk ca,.slice A' c.ny cb],.agg #[.int .i64 a.y,.int .i64 a.m,.bool a.s,.int .i64 a.d],.agg #[.int .i64 b.y,.int .i64 b.m,.bool b.s,.int .i64 b.d]] w fun e w' => e = .returned (.int .i64 (c.schV a b)) ∧ Qb w w':=by
 have NN:=fun w h => Qmt A A' ca cb c a b w h
 go_enter Tryz.func92,Tryz.ntmps92
 go_upto_region 1 with (fail)
 obtain ⟨v,b1,b2,b3,E,B1,B2,B3,hbr1,hbr2,hbr,hn21,hn31,hn32,hv,hb1,hb2,hb3⟩:=Uq w 130 #[.slice A c.nk ca,.slice A' c.ny cb] 51 #[.int .i64 a.y,.int .i64 a.m,.bool a.s,.int .i64 a.d] 51 #[.int .i64 b.y,.int .i64 b.m,.bool b.s,.int .i64 b.d];rw [← hv,← hb3,← hb2,← hb1];clear hv hb1 hb2 hb3;have C:=hC.ext E;obtain ⟨k0,k1⟩:=B1.c2;have lk:=B1.lt;obtain ⟨p0,p1,p2,p3⟩:=B2.c4;have lp:=B2.lt;obtain ⟨q0,q1,q2,q3⟩:=B3.c4;have lq:=B3.lt;go_wp2_with (go_at_call 140;(with_reducible refine zc (NN _ C) ?_);rintro e w2 ⟨rfl,h⟩);go_ret;exact ⟨rfl,E.trans h⟩
theorem Dr (A A' : Option Addr) (ca cb : Nat) (c : Qd) (a b : Dt) (w : World) (hC : Zg w A ca A' cb c) :
  Calls Tryz.prog 91 #[.agg #[.slice A c.nk ca,.slice A' c.ny cb],.agg #[.int .i64 a.y,.int .i64 a.m,.bool a.s,.int .i64 a.d],.agg #[.int .i64 b.y,.int .i64 b.m,.bool b.s,.int .i64 b.d]] w fun e w' => e = .returned (.bool (decide (0 < c.numV a) && decide (c.numV a ≤ c.numV b))) ∧ Qb w w':=by
 have N1:=fun w h => Yy A A' ca cb c a w h
 have N2:=fun w h => Yy A A' ca cb c b w h
 generalize c.numV a = x at *;generalize c.numV b = y at *;by_cases h0 : 0 < x
 ·have g0 : decide (0 < x) = true:=decide_eq_true h0
  go_enter Tryz.func91,Tryz.ntmps91
  go_upto_region 1 with (fail)
  obtain ⟨v,b1,b2,b3,E,B1,B2,B3,hbr1,hbr2,hbr,hn21,hn31,hn32,hv,hb1,hb2,hb3⟩:=Uq w 130 #[.slice A c.nk ca,.slice A' c.ny cb] 51 #[.int .i64 a.y,.int .i64 a.m,.bool a.s,.int .i64 a.d] 51 #[.int .i64 b.y,.int .i64 b.m,.bool b.s,.int .i64 b.d];rw [← hv,← hb3,← hb2,← hb1];clear hv hb1 hb2 hb3;have C:=hC.ext E;obtain ⟨k0,k1⟩:=B1.c2;have lk:=B1.lt;obtain ⟨p0,p1,p2,p3⟩:=B2.c4;have lp:=B2.lt;obtain ⟨q0,q1,q2,q3⟩:=B3.c4;have lq:=B3.lt;go_wp2_with (first | (go_at_call 48;(with_reducible refine zc (N1 _ C) ?_);rintro e w1 ⟨rfl,h1⟩;clear k0 k1 lk p0 p1 p2 p3 lp q0 q1 q2 q3 lq;obtain ⟨k0,k1⟩:=(B1.ext h1).c2;have lk:=(B1.ext h1).lt;obtain ⟨q0,q1,q2,q3⟩:=(B3.ext h1).c4;have lq:=(B3.ext h1).lt) | (go_at_call 48;(with_reducible refine zc (N2 _ (C.ext h1)) ?_);rintro e w2 ⟨rfl,h2⟩))
  go_ret;exact ⟨by rw [g0];rfl,(E.trans h1).trans h2⟩
 ·have g0 : decide (0 < x) = false:=decide_eq_false h0
  go_enter Tryz.func91,Tryz.ntmps91
  go_upto_region 1 with (fail)
  obtain ⟨v,b1,b2,b3,E,B1,B2,B3,hbr1,hbr2,hbr,hn21,hn31,hn32,hv,hb1,hb2,hb3⟩:=Uq w 130 #[.slice A c.nk ca,.slice A' c.ny cb] 51 #[.int .i64 a.y,.int .i64 a.m,.bool a.s,.int .i64 a.d] 51 #[.int .i64 b.y,.int .i64 b.m,.bool b.s,.int .i64 b.d];rw [← hv,← hb3,← hb2,← hb1];clear hv hb1 hb2 hb3;have C:=hC.ext E;obtain ⟨k0,k1⟩:=B1.c2;have lk:=B1.lt;obtain ⟨p0,p1,p2,p3⟩:=B2.c4;have lp:=B2.lt;obtain ⟨q0,q1,q2,q3⟩:=B3.c4;have lq:=B3.lt;go_wp2_with (first | (go_at_call 48;(with_reducible refine zc (N1 _ C) ?_);rintro e w1 ⟨rfl,h1⟩;clear k0 k1 lk p0 p1 p2 p3 lp q0 q1 q2 q3 lq;obtain ⟨k0,k1⟩:=(B1.ext h1).c2;have lk:=(B1.ext h1).lt;obtain ⟨q0,q1,q2,q3⟩:=(B3.ext h1).c4;have lq:=(B3.ext h1).lt))
  go_ret;exact ⟨by rw [g0];rfl,E.trans h1⟩
theorem Qjk (A A' : Option Addr) (ca cb : Nat) (c : Qd) (B : Option Addr) (n cap : Nat) (l : Ln) (f : Nat → J6) (hp : l.p.In) (hr : l.r.In) (hin : ∀ i,i < n → (f i).n.In) (w : World) (hC : Zg w A ca A' cb c) (hB : Qs w B n 6 (Yp f)) (hn : n ≤ 9223372036854775807) :
  Calls Tryz.prog 116 #[.agg #[.slice A c.nk ca,.slice A' c.ny cb],.agg #[.int .i64 l.p.n,.int .i64 l.p.d,.int .i64 l.r.n,.int .i64 l.r.d,.int .i64 l.f.y,.int .i64 l.f.m,.bool l.f.s,.int .i64 l.f.d],.slice B n cap] w fun e w' => e = .returned (.bool (c.loanOk l f n)) ∧ Qb w w':=by
 have N0:=fun w h => Yy A A' ca cb c l.f w h
 have NP:=fun w => Fs l.p hp w
 have NS:=fun w => Hu l.r hr w
 obtain ⟨R,hR0⟩:=Qf (c.loanOk l f n);rw [← hR0];have HR:=Lib.hid hR0;clear hR0
 go_enter Tryz.func116,Tryz.ntmps116
 go_upto_region 1 with (fail)
 obtain ⟨v,b1,b2,E,B1,B2,hbr1,hbr,hn21,hv,hb1,hb2⟩:=Yb w 130 #[.slice A c.nk ca,.slice A' c.ny cb] 67 #[.int .i64 l.p.n,.int .i64 l.p.d,.int .i64 l.r.n,.int .i64 l.r.d,.int .i64 l.f.y,.int .i64 l.f.m,.bool l.f.s,.int .i64 l.f.d];rw [← hv,← hb2,← hb1];clear hv hb1 hb2;have C:=hC.ext E;have RB:=hB.ext E;clear hC hB;obtain ⟨k0,k1⟩:=B1.c2;have lk:=B1.lt;obtain ⟨p0,p1,p2,p3,p4,p5,p6,p7⟩:=B2.c8;have lp:=B2.lt;go_upto_region 2 with (go_at_call 48;(with_reducible refine zc (N0 _ C) ?_);rintro e w1 ⟨rfl,h⟩)
 replace E:=E.trans h;replace C:=C.ext h;replace RB:=RB.ext h;replace B1:=B1.ext h;replace B2:=B2.ext h;clear h k0 k1 lk p0 p1 p2 p3 p4 p5 p6 p7 lp;obtain ⟨k0,k1⟩:=B1.c2;have lk:=B1.lt;obtain ⟨p0,p1,p2,p3,p4,p5,p6,p7⟩:=B2.c8;have lp:=B2.lt;cases g1 : l.p.pos
 ·have hr : R = false := by rw [HR.out]; unfold Qd.loanOk; rw [g1]; rfl
  simp only [g1] at NP;subst hr;clear HR g1;go_wp2_with (go_at_call 67;(with_reducible refine zc (NP _) ?_);rintro e w2 ⟨rfl,h2⟩;clear p0 p1 p2 p3 p4 p5 p6 p7 lp;obtain ⟨p0,p1,p2,p3,p4,p5,p6,p7⟩:=(B2.ext h2).c8;have lp:=(B2.ext h2).lt);go_ret;exact ⟨rfl,E.trans h2⟩
 ·simp only [g1] at NP;cases g2 : l.r.shr
  ·have hr : R = false := by rw [HR.out]; unfold Qd.loanOk; rw [g2, Bool.and_false]; rfl
   simp only [g2] at NS;subst hr;clear HR g1 g2;go_wp2_with (first | (go_at_call 67;(with_reducible refine zc (NP _) ?_);rintro e w2 ⟨rfl,h2⟩;clear p0 p1 p2 p3 p4 p5 p6 p7 lp;obtain ⟨p0,p1,p2,p3,p4,p5,p6,p7⟩:=(B2.ext h2).c8;have lp:=(B2.ext h2).lt) | (go_at_call 90;(with_reducible refine zc (NS _) ?_);rintro e w3 ⟨rfl,h3⟩));go_ret;exact ⟨rfl,(E.trans h2).trans h3⟩
  ·simp only [g2] at NS;by_cases g3 : c.numV l.f = 0
   ·have hr : R = false := by rw [HR.out]; unfold Qd.loanOk; rw [decide_eq_false (fun h => h g3), Bool.and_false]; rfl
    have g4 : (c.numV l.f == 0) = true:=by rw [g3];rfl
    subst hr;clear HR g1 g2 g3;generalize c.numV l.f = L0 at *;go_wp2_with (first | (go_at_call 67;(with_reducible refine zc (NP _) ?_);rintro e w2 ⟨rfl,h2⟩;clear p0 p1 p2 p3 p4 p5 p6 p7 lp;obtain ⟨p0,p1,p2,p3,p4,p5,p6,p7⟩:=(B2.ext h2).c8;have lp:=(B2.ext h2).lt) | (go_at_call 90;(with_reducible refine zc (NS _) ?_);rintro e w3 ⟨rfl,h3⟩));go_ret;exact ⟨rfl,(E.trans h2).trans h3⟩
   ·have g4 : (c.numV l.f == 0) = false:=beq_eq_false_iff_ne.2 g3
    have HR2 : Hid (R = (List.range n).all fun i => (f i).n.pos && decide (c.numV (V5 l f i) ≤ c.numV (f i).on)):=by
     unfold Hid;rw [HR.out];unfold Qd.loanOk;rw [g1,g2,decide_eq_true g3];rfl
    clear HR g1 g2 g3;go_upto_region 5 with (first | (go_at_call 67;(with_reducible refine zc (NP _) ?_);rintro e w2 ⟨rfl,h2⟩;clear p0 p1 p2 p3 p4 p5 p6 p7 lp;obtain ⟨p0,p1,p2,p3,p4,p5,p6,p7⟩:=(B2.ext h2).c8;have lp:=(B2.ext h2).lt) | (go_at_call 90;(with_reducible refine zc (NS _) ?_);rintro e w3 ⟨rfl,h3⟩))
    replace E:=(E.trans h2).trans h3;replace C:=(C.ext h2).ext h3;replace RB:=(RB.ext h2).ext h3;replace B1:=(B1.ext h2).ext h3;clear h2 h3 k0 k1 lk p0 p1 p2 p3 p4 p5 p6 p7 lp B2 NP NS N0 g4;obtain ⟨vl,rfl⟩:=Qf w3
    go_loopw [7,31] (fun lv iv wr => ∃ k : Nat,k ≤ n ∧ iv = .int .i64 k ∧ lv = .int .i64 (c.numV (V5 l f k)) ∧ Hid (∀ j,j < k → ((f j).n.pos && decide (c.numV (V5 l f j) ≤ c.numV (f j).on)) = true) ∧ Qb vl wr) (fun _ i _ => n - (intOf i).toNat)
    case atStart => exact ⟨0,Nat.zero_le _,rfl,rfl,(fun j h => absurd h Qa),Qb.refl _⟩
    case round =>
     obtain ⟨k,hk,rfl,rfl,hall,hE⟩:=hrel;obtain ⟨wo,rfl⟩:=Qf wr;by_cases hlt : k < n
     ·obtain ⟨b, off, rfl, hb, hc⟩ := (RB.ext hE) Qa;have c0 : wo.cell? ⟨b, off + k * 6, none⟩ = some (.int .i64 (f k).on.y) := by simpa [Yp] using hc k 0 _ hlt rfl
      have c1 : wo.cell? ⟨b,off + k * 6 + 1,none⟩ = some (.int .i64 (f k).on.m):=by simpa [Yp] using hc k 1 _ hlt rfl
      have c2 : wo.cell? ⟨b,off + k * 6 + 2,none⟩ = some (.bool (f k).on.s):=by simpa [Yp] using hc k 2 _ hlt rfl
      have c3 : wo.cell? ⟨b,off + k * 6 + 3,none⟩ = some (.int .i64 (f k).on.d):=by simpa [Yp] using hc k 3 _ hlt rfl
      have c4 : wo.cell? ⟨b,off + k * 6 + 4,none⟩ = some (.int .i64 (f k).n.n):=by simpa [Yp] using hc k 4 _ hlt rfl
      have c5 : wo.cell? ⟨b,off + k * 6 + 5,none⟩ = some (.int .i64 (f k).n.d):=by simpa [Yp] using hc k 5 _ hlt rfl
      have N1:=fun w h => Yy A A' ca cb c (f k).on w h
      have N2:=fun w => Fs (f k).n (hin k hlt) w
      have hno : Hid (((f k).n.pos && decide (c.numV (V5 l f k) ≤ c.numV (f k).on)) = false → R = false):=fun h => by
       rw [HR2.out];exact List.all_eq_false.2 ⟨k,by simpa using hlt,by rw [h];decide⟩
      have hyes : Hid (((f k).n.pos && decide (c.numV (V5 l f k) ≤ c.numV (f k).on)) = true → ∀ j,j < k + 1 → ((f j).n.pos && decide (c.numV (V5 l f j) ≤ c.numV (f j).on)) = true):=fun h j hj => by
       by_cases e : j = k
       ·subst e;exact h
       ·exact hall.out j Qa
      have hlo : Hid (c.numV (V5 l f (k + 1)) = c.numV (f k).on):=rfl;clear hc hin hall HR2;generalize c.numV (V5 l f k) = L0 at *;generalize c.numV (f k).on = L1 at *;generalize (f k).n.pos = pp at *;go_upto_region 7 with (fail)
      obtain ⟨v3,hv⟩:=Qf (wo.alloc (.cells #[.int .i64 (f k).on.y,.int .i64 (f k).on.m,.bool (f k).on.s,.int .i64 (f k).on.d,.int .i64 (f k).n.n,.int .i64 (f k).n.d] 78));rw [← hv];have E3 : Qb wo v3:=by rw [hv];exact (Qb.refl _).alloc _
      have H3 : Qc v3 wo.heap.size 78 #[.int .i64 (f k).on.y,.int .i64 (f k).on.m,.bool (f k).on.s,.int .i64 (f k).on.d,.int .i64 (f k).n.n,.int .i64 (f k).n.d]:=by rw [hv];exact Qc.new _ _ _
      clear hv c0 c1 c2 c3 c4 c5;replace hE:=hE.trans E3;clear E3;generalize wo.heap.size = b3 at *;obtain ⟨q0,q1,q2,q3,q4,q5⟩:=H3.c6;have lq:=H3.lt;have B1e:=B1.ext hE;obtain ⟨k0,k1⟩:=B1e.c2;have lk:=B1e.lt;go_upto_region 8 with (go_at_call 48;(with_reducible refine zc (N1 _ (C.ext hE)) ?_);rintro e w4 ⟨rfl,h4⟩)
      replace hE:=hE.trans h4;replace H3:=H3.ext h4;clear h4 q0 q1 q2 q3 q4 q5 lq k0 k1 lk B1e N1;obtain ⟨q0,q1,q2,q3,q4,q5⟩:=H3.c6;have lq:=H3.lt;cases pp
      ·have hr:=hno.out rfl;subst hr;clear hno hyes hlo;go_wp2_with (go_at_call 67;(with_reducible refine zc (N2 _) ?_);rintro e w5 ⟨rfl,h5⟩);go_ret;exact ⟨rfl,(E.trans hE).trans h5⟩
      ·by_cases hlt2 : L1 < L0
       ·have g1 : decide (L1 < L0) = true:=decide_eq_true hlt2;have hr:=hno.out (by rw [decide_eq_false Qa];rfl);subst hr;clear hno hyes hlo hlt2;go_wp2_with (go_at_call 67;(with_reducible refine zc (N2 _) ?_);rintro e w5 ⟨rfl,h5⟩);go_ret;exact ⟨rfl,(E.trans hE).trans h5⟩
       ·have g1 : decide (L1 < L0) = false:=decide_eq_false hlt2;have hx:=Lib.hid (hyes.out (by rw [decide_eq_true Qa];rfl));clear hno hyes hlt2;go_wp2_with (go_at_call 67;(with_reducible refine zc (N2 _) ?_);rintro e w5 ⟨rfl,h5⟩);exact ⟨⟨k + 1,by omega,by go_num,by rw [hlo.out],hx,hE.trans h5⟩,by simp [intOf];omega⟩
     ·obtain rfl : k = n := by omega
      have hr : R = true:=by
       rw [HR2.out];exact List.all_eq_true.2 fun j hj => hall.out j (by simpa using hj)
      clear HR2 hall hin;subst hr;go_wp2;go_ret;exact ⟨rfl,E.trans hE⟩
theorem Qf9 (A A' : Option Addr) (ca cb : Nat) (c : Qd) (B : Option Addr) (n cap : Nat) (l : Ln) (f : Nat → J6) (hp : l.p.In) (hr : l.r.In) (hin : ∀ i,i < n → (f i).n.In) (w : World) (hC : Zg w A ca A' cb c) (hB : Qs w B n 6 (Yp f)) (hn : n ≤ 9223372036854775807) (hv : c.valid = true) :
  Calls Tryz.prog 65 #[.agg #[.slice A c.nk ca,.slice A' c.ny cb],.agg #[.int .i64 l.p.n,.int .i64 l.p.d,.int .i64 l.r.n,.int .i64 l.r.d,.int .i64 l.f.y,.int .i64 l.f.m,.bool l.f.s,.int .i64 l.f.d],.slice B n cap] w fun e w' => e = .returned (.int .i64 (c.loanE l f n)) ∧ Qb w w':=by
 have NL:=fun w h1 h2 => Qjk A A' ca cb c B n cap l f hp hr hin w h1 h2 hn
 by_cases h64 : 64 < n
 ·have hr : c.loanE l f n = 3 := by unfold Qd.loanE; rw [if_pos hv, if_pos h64]
  have g1 : decide ((64 : Int) < (n : Int)) = true:=decide_eq_true Qa;rw [hr];clear hr
  go_enter Tryz.func65,Tryz.ntmps65
  go_wp2;go_ret;exact ⟨rfl,Qu⟩
 ·have hr : c.loanE l f n = if c.loanOk l f n then 0 else 80 := by unfold Qd.loanE; rw [if_pos hv, if_neg h64]
  have g1 : decide ((64 : Int) < (n : Int)) = false:=decide_eq_false Qa;rw [hr];clear hr;cases hk : c.loanOk l f n
  ·simp only [hk] at NL;clear hk
   go_enter Tryz.func65,Tryz.ntmps65
   go_upto_region 1 with (fail)
   obtain ⟨v,b1,b2,E,B1,B2,hbr1,hbr,hn21,hv,hb1,hb2⟩:=Yb w 130 #[.slice A c.nk ca,.slice A' c.ny cb] 67 #[.int .i64 l.p.n,.int .i64 l.p.d,.int .i64 l.r.n,.int .i64 l.r.d,.int .i64 l.f.y,.int .i64 l.f.m,.bool l.f.s,.int .i64 l.f.d];rw [← hv,← hb2,← hb1];clear hv hb1 hb2;obtain ⟨k0,k1⟩:=B1.c2;have lk:=B1.lt;obtain ⟨p0,p1,p2,p3,p4,p5,p6,p7⟩:=B2.c8;have lp:=B2.lt;go_wp2_with (go_at_call 116;(with_reducible refine zc (NL _ (hC.ext E) (hB.ext E)) ?_);rintro e w2 ⟨rfl,h9⟩);go_ret;exact ⟨rfl,E.trans h9⟩
  ·simp only [hk] at NL;clear hk
   go_enter Tryz.func65,Tryz.ntmps65
   go_upto_region 1 with (fail)
   obtain ⟨v,b1,b2,E,B1,B2,hbr1,hbr,hn21,hv,hb1,hb2⟩:=Yb w 130 #[.slice A c.nk ca,.slice A' c.ny cb] 67 #[.int .i64 l.p.n,.int .i64 l.p.d,.int .i64 l.r.n,.int .i64 l.r.d,.int .i64 l.f.y,.int .i64 l.f.m,.bool l.f.s,.int .i64 l.f.d];rw [← hv,← hb2,← hb1];clear hv hb1 hb2;obtain ⟨k0,k1⟩:=B1.c2;have lk:=B1.lt;obtain ⟨p0,p1,p2,p3,p4,p5,p6,p7⟩:=B2.c8;have lp:=B2.lt;go_wp2_with (go_at_call 116;(with_reducible refine zc (NL _ (hC.ext E) (hB.ext E)) ?_);rintro e w2 ⟨rfl,h9⟩);go_ret;exact ⟨rfl,E.trans h9⟩
/-- From w to w' no old block changes but those of S. -/
structure Q3 (S : List Nat) (w w' : World) : Prop where
 base : ∀ B,B ≤ w.heap.size → (∀ k,k ∈ S → B ≤ k) → Below B w w'
 keep : ∀ k,k < w.heap.size → k ∉ S → w'.heap[k]? = w.heap[k]?
 size : w.heap.size ≤ w'.heap.size
namespace Q3
variable {S T : List Nat} {a b c W : World}
theorem of_ext (h : Qb a b) : Q3 S a b:=⟨fun _ hB _ => Below.mono h hB,fun _ hk _ => h.block hk,h.size⟩
theorem refl (a : World) : Q3 S a a:=of_ext (Qb.refl a)
theorem trans (h : Q3 S a b) (k : Q3 S b c) : Q3 S a c :=
 ⟨fun B hB hS => Below.trans (h.base B hB hS) (k.base B (Nat.le_trans hB h.size) hS),fun j hj hjS => (k.keep j (Nat.lt_of_lt_of_le hj h.size) hjS).trans (h.keep j hj hjS),Nat.le_trans h.size k.size⟩
theorem set (a : World) {b : Nat} (hb : b ∈ S) (j : Nat) (u : Value) : Q3 S a (a.setCell ⟨b,j,none⟩ u) :=
 ⟨fun B hB hS => Below.setCell (Below.refl B a) (p:=⟨b,j,none⟩) (hS b hb) u,fun k _ hk => Below.heap_setCell _ _ _ k (fun e => hk (by have e' : k = b:=e;rw [e'];exact hb)),(KeepsWalks.setCell a _ u).size⟩
theorem mono (h : Q3 S a b) (hs : ∀ k,k ∈ S → k ∈ T) : Q3 T a b:=⟨fun B hB hT => h.base B hB fun k hk => hT k (hs k hk),fun k hk hkT => h.keep k hk fun h' => hkT (hs k h'),h.size⟩
theorem ext (h : Q3 S a b) (e : Qb W a) (hS : ∀ k,k ∈ S → W.heap.size ≤ k) : Qb W b:=Below.trans e (h.base W.heap.size e.size hS)
theorem held (h : Q3 S a b) {k : Nat} {t : TypeId} {cs : Array Value} (hk : Qc a k t cs) (hS : k ∉ S) : Qc b k t cs:=(h.keep k hk.lt hS).trans hk
/-- Stores into a box that is younger than a. -/
theorem far1 (h : Q3 S a b) {k : Nat} (hk : a.heap.size ≤ k) (j : Nat) (u : Value) : Q3 S a (b.setCell ⟨k,j,none⟩ u) :=
 ⟨fun B hB hS => Below.setCell (h.base B hB hS) (p:=⟨k,j,none⟩) (Nat.le_trans hB hk) u,fun i hi hiS => (Below.heap_setCell _ _ _ i (fun e => by have e' : i = k:=e;omega)).trans (h.keep i hi hiS),Nat.le_trans h.size (KeepsWalks.setCell b _ u).size⟩
theorem far (h : Q3 S a b) {k : Nat} (hk : a.heap.size ≤ k) (i j : Nat) (u v : Value) : Q3 S a ((b.setCell ⟨k,i,none⟩ u).setCell ⟨k,j,none⟩ v):=(h.far1 hk i u).far1 hk j v
end Q3
theorem X0 {W w : World} (h : Qb W w) (t : TypeId) (cs : Array Value) : ∃ b,b = w.heap.size ∧ Qc (w.alloc (.cells cs t)) b t cs ∧ Qb W (w.alloc (.cells cs t)) ∧ W.heap.size ≤ b:=⟨_,rfl,Qc.new w t cs,h.alloc _,h.size⟩
def Ap (A : Nat → Act) (S : World → Nat → Prop) : Exit → Act → World → Prop:=fun e a' w' => e = .normal ∧ ∃ r,S w' r ∧ a' = A r
theorem Yj {A : Nat → Act} {S : World → Nat → Prop} {w' : World} (r : Nat) {a' : Act} (h : S w' r) (ha : a' = A r) : Ap A S .normal a' w':=⟨rfl,r,h,ha⟩
theorem K5 {P : Program} {c : Code} {Q : Exit → Act → World → Prop} {a : Act} {w : World} {A : Nat → Act} (S : World → Nat → Prop) (h1 : c.wp P (Ap A S) a w) (h2 : ∀ r w',S w' r → Q .normal (A r) w') : c.wp P Q a w :=
 Code.wp_mono (fun e a' w' ⟨he,r,hs,ha⟩ => by subst he;subst ha;exact h2 r w' hs) h1
section
variable {W : World} {b : Nat} {t : TypeId} {v0 v1 v2 v3 v4 v5 : Value}
theorem S0 (h : Qc W b t #[v0,v1,v2,v3,v4,v5]) (u0 u1 : Value) : Qc ((W.setCell ⟨b,0,none⟩ u0).setCell ⟨b,1,none⟩ u1) b t #[u0,u1,v2,v3,v4,v5]:=by unfold Qc at h ⊢;simp [World.setCell,Array.getElem?_modify,h]
theorem Gy (h : Qc W b t #[v0,v1,v2,v3,v4,v5]) (u0 u1 : Value) : Qc ((W.setCell ⟨b,2,none⟩ u0).setCell ⟨b,3,none⟩ u1) b t #[v0,v1,u0,u1,v4,v5]:=by unfold Qc at h ⊢;simp [World.setCell,Array.getElem?_modify,h]
theorem Qie (h : Qc W b t #[v0,v1,v2,v3,v4,v5]) (u0 u1 : Value) : Qc ((W.setCell ⟨b,4,none⟩ u0).setCell ⟨b,5,none⟩ u1) b t #[v0,v1,v2,v3,u0,u1]:=by unfold Qc at h ⊢;simp [World.setCell,Array.getElem?_modify,h]
theorem Ih (h : Qc W b t #[v0,v1,v2,v3]) (u0 u1 u2 u3 : Value) : Qc ((((W.setCell ⟨b,0,none⟩ u0).setCell ⟨b,1,none⟩ u1).setCell ⟨b,2,none⟩ u2).setCell ⟨b,3,none⟩ u3) b t #[u0,u1,u2,u3]:=by unfold Qc at h ⊢;simp [World.setCell,Array.getElem?_modify,h]
end
theorem Fu {neg : Bool} {P Q : Nat} (hQ : 1 ≤ Q) : (Jn neg P Q).1.In:=by
 by_cases h : (Jn neg P Q).2 = 0
 ·exact Qbn (Dc hQ h).1
 ·unfold Jn at h ⊢;by_cases hb : P / Nat.gcd P Q ≤ 1099511627776 ∧ Q / Nat.gcd P Q ≤ 1048576
  ·rw [if_pos hb] at h;exact absurd rfl h
  ·rw [if_neg hb];unfold Rt.In Zk;decide
theorem Xh : Zk.In:=by unfold Rt.In Zk;decide
theorem Vp : (Ju 0).In:=by unfold Rt.In Ju;decide
theorem Qcb {n d : Int} (hd : 1 ≤ d) : (J4 n d).1.In:=by unfold J4;rw [if_neg Qa];exact Fu Qa
theorem Lf (a b : Rt) : (Zm a b).1.In:=by
 unfold Zm;by_cases h : a.ok && b.ok
 ·rw [if_pos h];obtain ⟨h1,h2⟩:=Bool.and_eq_true_iff.1 h;exact Qcb (Vm h1 h2).2.2.1
 ·rw [if_neg h];exact Xh
theorem Qc8 (a b : Rt) : (Ji a b).1.In:=by
 unfold Ji;by_cases h : a.ok && b.ok
 ·rw [if_pos h];obtain ⟨h1,h2⟩:=Bool.and_eq_true_iff.1 h;exact Qcb (Vm h1 h2).2.2.1
 ·rw [if_neg h];exact Xh
theorem Qi2 (p r : Rt) (k : Int) : (J3 p r k).1.In:=by
 unfold J3;by_cases h : p.nn && r.nn
 ·rw [if_pos h];obtain ⟨h1,h2⟩:=Bool.and_eq_true_iff.1 h;by_cases hk : k < 0 ∨ 1099511627776 < k
  ·rw [if_pos hk];exact Xh
  ·rw [if_neg hk];exact Fu (Nm 4 fun i hi => by have:=(J9 (Eh (k:=k) (Kw h1).1 (Kw h2).1 Qa Qa i hi)).1;omega)
 ·rw [if_neg h];exact Xh
theorem Fp {x n : Rt} : (Zj x n).1.1.In ∧ (Zj x n).1.2.In:=by
 unfold Zj
 split
 ·exact ⟨Qc8 _ _,Vp⟩
 ·exact ⟨Vp,Qc8 _ _⟩
structure Db.In (x : Db) : Prop where
 p : x.p.In
 i : x.i.In
 s : x.s.In
theorem Xw (r : Rt) (f ee : Int) (be : Nat) (w : World) (hE : Qc w be 29 #[.int .i64 ee]) :
  Calls Tryz.prog 117 #[.agg #[.int .i64 r.n,.int .i64 r.d],.int .i64 f,.pointer (some ⟨be,0,none⟩)] w fun e w' => e = .returned (.agg #[.int .i64 r.n,.int .i64 r.d]) ∧ Q3 [be] w w' ∧ Qc w' be 29 #[.int .i64 (if ee = 0 then f else ee)]:=by
 by_cases h0 : ee = 0
 ·have g1 : (ee == 0) = true := by rw [h0]; rfl
  rw [if_pos h0];subst h0
  go_enter Tryz.func117,Tryz.ntmps117
  go_upto_region 1 with (fail)
  obtain ⟨v,b1,b2,E,B1,B2,hbr1,hbr,hn21,hv,hb1,hb2⟩:=Yb w 65 #[.int .i64 r.n,.int .i64 r.d] 65 #[.int .i64 0,.int .i64 0];rw [← hv,← hb2,← hb1];clear hv hb1 hb2;have H1:=hE.ext E;have hne : b2 ≠ be:=by have:=hE.lt;omega
  obtain ⟨k0,k1⟩:=B1.c2;have lk:=B1.lt;have f9:=H1.frozen 0;have k9:=H1.c1;have l9:=H1.lt;have H5 : Qc (v.setCell ⟨be,0,none⟩ (.int .i64 f)) be 29 #[.int .i64 f]:=by unfold Qc at H1 ⊢;simp [World.setCell,Array.getElem?_modify,H1]
  have O1 : Q3 [be] w (v.setCell ⟨be,0,none⟩ (.int .i64 f)):=(Q3.of_ext E).trans (Q3.set v (List.mem_singleton.2 rfl) 0 _);have B22:=Qg B2 hne 0 (.int .i64 f);have B12:=Qg B1 (show b1 ≠ be by have:=hE.lt;have:=hbr1;omega) 0 (.int .i64 f);go_upto_region 3 with (fail)
  generalize World.setCell v _ _ = vq at *;clear f9 k9 l9 k0 k1 lk;obtain ⟨k0,k1⟩:=B12.c2;have lk:=B12.lt;have f0:=B22.frozen 0;have f1:=B22.frozen 1;obtain ⟨x0,x1⟩:=B22.c2;have lx:=B22.lt;have H4:=Qo B22 (.int .i64 r.n) (.int .i64 r.d);have HF:=Qg (Qg H5 (Ne.symm hne) 0 (.int .i64 r.n)) (Ne.symm hne) 1 (.int .i64 r.d);have OF : Q3 [be] w ((vq.setCell ⟨b2,0,none⟩ (.int .i64 r.n)).setCell ⟨b2,1,none⟩ (.int .i64 r.d)):=O1.far Qa 0 1 _ _;obtain ⟨y0,y1⟩:=H4.c2;go_wp2;refine bodyPost_ret (v:=.agg #[.int .i64 r.n,.int .i64 r.d]) (by simp [results,Tryz.results117,go_sem,y0,y1]) rfl ⟨rfl,OF,HF⟩
 ·have g1 : (ee == 0) = false:=beq_eq_false_iff_ne.2 h0;rw [if_neg h0]
  go_enter Tryz.func117,Tryz.ntmps117
  go_upto_region 1 with (fail)
  obtain ⟨v,b1,b2,E,B1,B2,hbr1,hbr,hn21,hv,hb1,hb2⟩:=Yb w 65 #[.int .i64 r.n,.int .i64 r.d] 65 #[.int .i64 0,.int .i64 0];rw [← hv,← hb2,← hb1];clear hv hb1 hb2;have H1:=hE.ext E;have hne : b2 ≠ be:=by have:=hE.lt;omega
  obtain ⟨k0,k1⟩:=B1.c2;have lk:=B1.lt;have k9:=H1.c1;have l9:=H1.lt;have O1 : Q3 [be] w v:=Q3.of_ext E;have f0:=B2.frozen 0;have f1:=B2.frozen 1;obtain ⟨x0,x1⟩:=B2.c2;have lx:=B2.lt;have H4:=Qo B2 (.int .i64 r.n) (.int .i64 r.d);have HF:=Qg (Qg H1 (Ne.symm hne) 0 (.int .i64 r.n)) (Ne.symm hne) 1 (.int .i64 r.d);have OF : Q3 [be] w ((v.setCell ⟨b2,0,none⟩ (.int .i64 r.n)).setCell ⟨b2,1,none⟩ (.int .i64 r.d)):=O1.far Qa 0 1 _ _;obtain ⟨y0,y1⟩:=H4.c2;go_wp2;refine bodyPost_ret (v:=.agg #[.int .i64 r.n,.int .i64 r.d]) (by simp [results,Tryz.results117,go_sem,y0,y1]) rfl ⟨rfl,OF,HF⟩
theorem Qlp (X : Db) (n : Rt) (hx : X.i.In) (hn : n.In) (bd : Nat) (w : World) (hD : Qc w bd 72 #[.int .i64 X.p.n,.int .i64 X.p.d,.int .i64 X.i.n,.int .i64 X.i.d,.int .i64 X.s.n,.int .i64 X.s.d]) (hZ : Z6 w) :
  Calls Tryz.prog 119 #[.pointer (some ⟨bd,2,none⟩),.agg #[.int .i64 n.n,.int .i64 n.d]] w fun e w' => e = .returned (.tuple #[.agg #[.int .i64 (Zj X.i n).1.2.n,.int .i64 (Zj X.i n).1.2.d],.int .i64 (Zj X.i n).2]) ∧ Q3 [bd] w w' ∧ Qc w' bd 72 #[.int .i64 X.p.n,.int .i64 X.p.d,.int .i64 (Zj X.i n).1.1.n,.int .i64 (Zj X.i n).1.1.d,.int .i64 X.s.n,.int .i64 X.s.d]:=by
 have NL:=fun w => Qac n X.i hn hx w
 have N1:=fun w z => Hv X.i n hx hn w z
 have N2:=fun w z => Hv n X.i hn hx w z
 have HP : Hid ((Zj X.i n) = if (Ut n X.i).1 < 0 then (((Ji X.i n).1,Ju 0),(Ji X.i n).2) else ((Ju 0,(Ji n X.i).1),(Ji n X.i).2)):=rfl;obtain ⟨R,hR0⟩:=Qf (Zj X.i n);rw [← hR0] at HP ⊢;clear hR0;obtain ⟨cb,hcb⟩:=Qf (decide ((Ut n X.i).1 < 0));rw [← hcb] at NL;replace hcb:=Lib.hid hcb
 go_enter Tryz.func119,Tryz.ntmps119
 go_upto_region 1 with (fail)
 obtain ⟨v,b1,b2,E,B1,B2,hbr1,hbr,hn21,hv,hb1,hb2⟩:=Yb w 65 #[.int .i64 n.n,.int .i64 n.d] 65 #[.int .i64 0,.int .i64 0];rw [← hv,← hb2,← hb1];clear hv hb1 hb2;have HD:=hD.ext E;have Z0:=hZ.ext E;have hdw:=hD.lt;have hdn : ∀ b,w.heap.size ≤ b → bd ≠ b:=fun b h => by omega
 obtain ⟨k0,k1⟩:=B1.c2;have lk:=B1.lt;obtain ⟨d0,d1,d2,d3,d4,d5⟩:=HD.c6;have ld:=HD.lt;go_upto_region 1 with (fail)
 have m1:=fun x : World => NL x
 refine Zo v ?_;intro w2 h2;clear m1;obtain ⟨hcbw2,hfbw2,hzbw2,hzw2⟩:=Zn v h2;replace E:=E.trans h2;replace B1:=B1.ext h2;replace B2:=B2.ext h2;replace HD:=HD.ext h2;have Z3:=Z0.ext h2;clear k0 k1 lk d0 d1 d2 d3 d4 d5 ld Z0 hD hZ NL;cases cb
 ·have hR:=HP.out;rw [if_neg (of_decide_eq_false hcb.out.symm)] at hR;clear HP hcb N1;generalize Ji n X.i = S at *;obtain ⟨⟨Sn,Sd⟩,Se⟩:=S;subst hR;go_upto_region 5 with (fail)
  apply K5 (S:=fun w' b => Qb w2 w' ∧ w2.heap.size ≤ b ∧ Qc w' b 65 #[.int .i64 Sn,.int .i64 Sd])
  ·refine Q5 11 [6,7,9,10] (fun x => Qb w2 x) mixed rfl ?_;intro vz hvz;have HC:=hvz;refine Qr (g:=7) [0,1,2,3] HC ?_
   constructor
   refine ⟨fun u hu => ?_,?_⟩
   ·obtain ⟨k0,k1⟩:=(B1.ext hu).c2;have lk:=(B1.ext hu).lt;obtain ⟨d0,d1,d2,d3,d4,d5⟩:=(HD.ext hu).c6;have ld:=(HD.ext hu).lt;exact Qj
   refine Zp 4 8 ?_ ?_
   ·go_wp2_with (go_at_call 89;(with_reducible refine zc (N2 _ (Z3.ext HC)) ?_);rintro e wa ⟨rfl,h4⟩);replace HC:=HC.trans h4;try replace Q:=Q.ext h4
    clear h4;refine Qe HC ?_;refine Qr (g:=5) [5] HC ?_
    constructor
    refine ⟨fun u hu => ?_,?_⟩
    ·obtain ⟨k0,k1⟩:=(B1.ext hu).c2;have lk:=(B1.ext hu).lt;obtain ⟨d0,d1,d2,d3,d4,d5⟩:=(HD.ext hu).c6;have ld:=(HD.ext hu).lt;exact Qj
    refine Jv (g:=3) [6,7] ?_
    constructor
    refine ⟨fun u hu => ?_,?_⟩
    ·exact Qj
    refine Qk 8 ?_;go_wp2;obtain ⟨bq,hbq,Q,HC',hge⟩:=X0 HC 65 #[.int .i64 0,.int .i64 0];rw [← hbq];clear hbq;replace HC:=HC';clear HC';refine Qe HC ?_;refine Qn 9 ?_;have f0:=Q.frozen 0;have f1:=Q.frozen 1;obtain ⟨z0,z1⟩:=Q.c2;have lz:=Q.lt;have Q2:=Qo Q (.int .i64 Sn) (.int .i64 Sd);have HE2:=(HC.setCell (p:=⟨bq,0,none⟩) hge (.int .i64 Sn)).setCell (p:=⟨bq,1,none⟩) hge (.int .i64 Sd);go_wp2;refine Qm ?_;refine Qn 10 ?_;go_wp2;refine Qm ?_;refine Qt ?_;exact Yj bq ⟨HE2,hge,Q2⟩ rfl
   ·go_wp2;obtain ⟨bq,hbq,Q,HC',hge⟩:=X0 HC 65 #[.int .i64 0,.int .i64 0];rw [← hbq];clear hbq;replace HC:=HC';clear HC';refine Qe HC ?_;refine Qk 4 ?_;go_wp2_with (go_at_call 89;(with_reducible refine zc (N2 _ (Z3.ext HC)) ?_);rintro e wa ⟨rfl,h4⟩);replace HC:=HC.trans h4;try replace Q:=Q.ext h4
    clear h4;refine Qe HC ?_;refine Qr (g:=4) [5] HC ?_
    constructor
    refine ⟨fun u hu => ?_,?_⟩
    ·obtain ⟨k0,k1⟩:=(B1.ext hu).c2;have lk:=(B1.ext hu).lt;obtain ⟨d0,d1,d2,d3,d4,d5⟩:=(HD.ext hu).c6;have ld:=(HD.ext hu).lt;exact Qj
    refine Jv (g:=2) [6,7] ?_
    constructor
    refine ⟨fun u hu => ?_,?_⟩
    ·exact Qj
    refine Qn 9 ?_;have f0:=Q.frozen 0;have f1:=Q.frozen 1;obtain ⟨z0,z1⟩:=Q.c2;have lz:=Q.lt;have Q2:=Qo Q (.int .i64 Sn) (.int .i64 Sd);have HE2:=(HC.setCell (p:=⟨bq,0,none⟩) hge (.int .i64 Sn)).setCell (p:=⟨bq,1,none⟩) hge (.int .i64 Sd);go_wp2;refine Qm ?_;refine Qn 10 ?_;go_wp2;refine Qm ?_;refine Qt ?_;exact Yj bq ⟨HE2,hge,Q2⟩ rfl
  rintro b6 w3 ⟨E3,hg6,H6⟩;have hw2:=E.size;replace HD:=HD.ext E3;replace B2:=B2.ext E3;replace E:=E.trans E3;have OD : Q3 [bd] w w3:=Q3.of_ext E;clear E3 B1 N2 Z3;obtain ⟨r0,r1⟩:=H6.c2;have lr:=H6.lt;have f0:=HD.frozen 2;have f1:=HD.frozen 3;obtain ⟨d0,d1,d2,d3,d4,d5⟩:=HD.c6;have ld:=HD.lt;have HD2:=Gy HD (.int .i64 0) (.int .i64 1);have OD2:=(OD.trans (Q3.set w3 (List.mem_singleton.2 rfl) 2 (.int .i64 0))).trans (Q3.set _ (List.mem_singleton.2 rfl) 3 (.int .i64 1));have B22:=Qg (Qg B2 (Ne.symm (hdn b2 hbr)) 2 (.int .i64 0)) (Ne.symm (hdn b2 hbr)) 3 (.int .i64 1);have H62:=Qg (Qg H6 (Ne.symm (hdn b6 Qa)) 2 (.int .i64 0)) (Ne.symm (hdn b6 Qa)) 3 (.int .i64 1)
  clear f0 f1 d0 d1 d2 d3 d4 d5 ld r0 r1 lr HD2 OD2 B22 H62;go_upto_region 6 with (fail)
  go_upto_region 7 with (go_at_call 72;(with_reducible refine zc (Wt _ _) ?_);rintro e wa ⟨rfl,h4⟩;replace HD:=HD.ext h4;replace B2:=B2.ext h4;replace H6:=H6.ext h4;replace OD:=OD.trans (Q3.of_ext h4);have HD2:=Gy HD (.int .i64 0) (.int .i64 1);have OD2:=(OD.trans (Q3.set _ (List.mem_singleton.2 rfl) 2 (.int .i64 0))).trans (Q3.set _ (List.mem_singleton.2 rfl) 3 (.int .i64 1));have B22:=Qg (Qg B2 (Ne.symm (hdn b2 hbr)) 2 (.int .i64 0)) (Ne.symm (hdn b2 hbr)) 3 (.int .i64 1);have H62:=Qg (Qg H6 (Ne.symm (hdn b6 Qa)) 2 (.int .i64 0)) (Ne.symm (hdn b6 Qa)) 3 (.int .i64 1);have f0:=HD.frozen 2;have f1:=HD.frozen 3;obtain ⟨d0,d1,d2,d3,d4,d5⟩:=HD.c6;have ld:=HD.lt)
  generalize World.setCell _ _ _ = w4 at *;clear f0 f1 d0 d1 d2 d3 d4 d5 ld B2 H6 HD OD h4;have hw4 : w.heap.size ≤ b2:=hbr;obtain ⟨r0,r1⟩:=H62.c2;have lr:=H62.lt;have f0:=B22.frozen 0;have f1:=B22.frozen 1;obtain ⟨x0,x1⟩:=B22.c2;have lx:=B22.lt;have H4:=Qo B22 (.int .i64 Sn) (.int .i64 Sd);have OF:=OD2.far hbr 0 1 (.int .i64 Sn) (.int .i64 Sd);have HF:=Qg (Qg HD2 (hdn b2 hbr) 0 (.int .i64 Sn)) (hdn b2 hbr) 1 (.int .i64 Sd);obtain ⟨y0,y1⟩:=H4.c2;go_wp2;refine bodyPost_ret (v:=.tuple #[.agg #[.int .i64 Sn,.int .i64 Sd],.int .i64 Se]) (by simp [results,Tryz.results119,go_sem,y0,y1]) rfl ⟨rfl,OF,HF⟩
 ·have hR:=HP.out;rw [if_pos (of_decide_eq_true hcb.out.symm)] at hR;clear HP hcb N2;generalize Ji X.i n = S at *;obtain ⟨⟨Sn,Sd⟩,Se⟩:=S;subst hR;go_upto_region 2 with (fail)
  apply K5 (S:=fun w' b => Qb w2 w' ∧ w2.heap.size ≤ b ∧ Qc w' b 65 #[.int .i64 Sn,.int .i64 Sd])
  ·refine Q5 11 [6,7,9,10] (fun x => Qb w2 x) mixed rfl ?_;intro vz hvz;have HC:=hvz;refine Qr (g:=7) [0,1,2,3] HC ?_
   constructor
   refine ⟨fun u hu => ?_,?_⟩
   ·obtain ⟨k0,k1⟩:=(B1.ext hu).c2;have lk:=(B1.ext hu).lt;obtain ⟨d0,d1,d2,d3,d4,d5⟩:=(HD.ext hu).c6;have ld:=(HD.ext hu).lt;exact Qj
   refine Zp 4 8 ?_ ?_
   ·go_wp2_with (go_at_call 89;(with_reducible refine zc (N1 _ (Z3.ext HC)) ?_);rintro e wa ⟨rfl,h4⟩);replace HC:=HC.trans h4;try replace Q:=Q.ext h4
    clear h4;refine Qe HC ?_;refine Qr (g:=5) [5] HC ?_
    constructor
    refine ⟨fun u hu => ?_,?_⟩
    ·obtain ⟨k0,k1⟩:=(B1.ext hu).c2;have lk:=(B1.ext hu).lt;obtain ⟨d0,d1,d2,d3,d4,d5⟩:=(HD.ext hu).c6;have ld:=(HD.ext hu).lt;exact Qj
    refine Jv (g:=3) [6,7] ?_
    constructor
    refine ⟨fun u hu => ?_,?_⟩
    ·exact Qj
    refine Qk 8 ?_;go_wp2;obtain ⟨bq,hbq,Q,HC',hge⟩:=X0 HC 65 #[.int .i64 0,.int .i64 0];rw [← hbq];clear hbq;replace HC:=HC';clear HC';refine Qe HC ?_;refine Qn 9 ?_;have f0:=Q.frozen 0;have f1:=Q.frozen 1;obtain ⟨z0,z1⟩:=Q.c2;have lz:=Q.lt;have Q2:=Qo Q (.int .i64 Sn) (.int .i64 Sd);have HE2:=(HC.setCell (p:=⟨bq,0,none⟩) hge (.int .i64 Sn)).setCell (p:=⟨bq,1,none⟩) hge (.int .i64 Sd);go_wp2;refine Qm ?_;refine Qn 10 ?_;go_wp2;refine Qm ?_;refine Qt ?_;exact Yj bq ⟨HE2,hge,Q2⟩ rfl
   ·go_wp2;obtain ⟨bq,hbq,Q,HC',hge⟩:=X0 HC 65 #[.int .i64 0,.int .i64 0];rw [← hbq];clear hbq;replace HC:=HC';clear HC';refine Qe HC ?_;refine Qk 4 ?_;go_wp2_with (go_at_call 89;(with_reducible refine zc (N1 _ (Z3.ext HC)) ?_);rintro e wa ⟨rfl,h4⟩);replace HC:=HC.trans h4;try replace Q:=Q.ext h4
    clear h4;refine Qe HC ?_;refine Qr (g:=4) [5] HC ?_
    constructor
    refine ⟨fun u hu => ?_,?_⟩
    ·obtain ⟨k0,k1⟩:=(B1.ext hu).c2;have lk:=(B1.ext hu).lt;obtain ⟨d0,d1,d2,d3,d4,d5⟩:=(HD.ext hu).c6;have ld:=(HD.ext hu).lt;exact Qj
    refine Jv (g:=2) [6,7] ?_
    constructor
    refine ⟨fun u hu => ?_,?_⟩
    ·exact Qj
    refine Qn 9 ?_;have f0:=Q.frozen 0;have f1:=Q.frozen 1;obtain ⟨z0,z1⟩:=Q.c2;have lz:=Q.lt;have Q2:=Qo Q (.int .i64 Sn) (.int .i64 Sd);have HE2:=(HC.setCell (p:=⟨bq,0,none⟩) hge (.int .i64 Sn)).setCell (p:=⟨bq,1,none⟩) hge (.int .i64 Sd);go_wp2;refine Qm ?_;refine Qn 10 ?_;go_wp2;refine Qm ?_;refine Qt ?_;exact Yj bq ⟨HE2,hge,Q2⟩ rfl
  rintro b6 w3 ⟨E3,hg6,H6⟩;have hw2:=E.size;replace HD:=HD.ext E3;replace B2:=B2.ext E3;replace E:=E.trans E3;have OD : Q3 [bd] w w3:=Q3.of_ext E;clear E3 B1 N1 Z3;obtain ⟨r0,r1⟩:=H6.c2;have lr:=H6.lt;have f0:=HD.frozen 2;have f1:=HD.frozen 3;obtain ⟨d0,d1,d2,d3,d4,d5⟩:=HD.c6;have ld:=HD.lt;have HD2:=Gy HD (.int .i64 Sn) (.int .i64 Sd);have OD2:=(OD.trans (Q3.set w3 (List.mem_singleton.2 rfl) 2 (.int .i64 Sn))).trans (Q3.set _ (List.mem_singleton.2 rfl) 3 (.int .i64 Sd));have B22:=Qg (Qg B2 (Ne.symm (hdn b2 hbr)) 2 (.int .i64 Sn)) (Ne.symm (hdn b2 hbr)) 3 (.int .i64 Sd);have H62:=Qg (Qg H6 (Ne.symm (hdn b6 Qa)) 2 (.int .i64 Sn)) (Ne.symm (hdn b6 Qa)) 3 (.int .i64 Sd)
  go_upto_region 4 with (fail)
  generalize World.setCell _ _ _ = w4 at *;clear f0 f1 d0 d1 d2 d3 d4 d5 ld r0 r1 lr B2 H6 HD OD;have hw4 : w.heap.size ≤ b2:=hbr;go_wp2_with (go_at_call 72;(with_reducible refine zc (Wt _ _) ?_);rintro e w5 ⟨rfl,h5⟩;replace OD2:=OD2.trans (Q3.of_ext h5);replace HD2:=HD2.ext h5;replace B22:=B22.ext h5;have f0:=B22.frozen 0;have f1:=B22.frozen 1;obtain ⟨x0,x1⟩:=B22.c2;have lx:=B22.lt);have H4:=Qo B22 (.int .i64 0) (.int .i64 1);have OF:=OD2.far hbr 0 1 (.int .i64 0) (.int .i64 1);have HF:=Qg (Qg HD2 (hdn b2 hbr) 0 (.int .i64 0)) (hdn b2 hbr) 1 (.int .i64 1);obtain ⟨y0,y1⟩:=H4.c2;go_wp2;refine bodyPost_ret (v:=.tuple #[.agg #[.int .i64 0,.int .i64 1],.int .i64 Se]) (by simp [results,Tryz.results119,go_sem,y0,y1]) rfl ⟨rfl,OF,HF⟩
theorem Qlq (X : Db) (n : Rt) (hx : X.p.In) (hn : n.In) (bd : Nat) (w : World) (hD : Qc w bd 72 #[.int .i64 X.p.n,.int .i64 X.p.d,.int .i64 X.i.n,.int .i64 X.i.d,.int .i64 X.s.n,.int .i64 X.s.d]) (hZ : Z6 w) :
  Calls Tryz.prog 119 #[.pointer (some ⟨bd,0,none⟩),.agg #[.int .i64 n.n,.int .i64 n.d]] w fun e w' => e = .returned (.tuple #[.agg #[.int .i64 (Zj X.p n).1.2.n,.int .i64 (Zj X.p n).1.2.d],.int .i64 (Zj X.p n).2]) ∧ Q3 [bd] w w' ∧ Qc w' bd 72 #[.int .i64 (Zj X.p n).1.1.n,.int .i64 (Zj X.p n).1.1.d,.int .i64 X.i.n,.int .i64 X.i.d,.int .i64 X.s.n,.int .i64 X.s.d]:=by
 have NL:=fun w => Qac n X.p hn hx w
 have N1:=fun w z => Hv X.p n hx hn w z
 have N2:=fun w z => Hv n X.p hn hx w z
 have HP : Hid ((Zj X.p n) = if (Ut n X.p).1 < 0 then (((Ji X.p n).1,Ju 0),(Ji X.p n).2) else ((Ju 0,(Ji n X.p).1),(Ji n X.p).2)):=rfl;obtain ⟨R,hR0⟩:=Qf (Zj X.p n);rw [← hR0] at HP ⊢;clear hR0;obtain ⟨cb,hcb⟩:=Qf (decide ((Ut n X.p).1 < 0));rw [← hcb] at NL;replace hcb:=Lib.hid hcb
 go_enter Tryz.func119,Tryz.ntmps119
 go_upto_region 1 with (fail)
 obtain ⟨v,b1,b2,E,B1,B2,hbr1,hbr,hn21,hv,hb1,hb2⟩:=Yb w 65 #[.int .i64 n.n,.int .i64 n.d] 65 #[.int .i64 0,.int .i64 0];rw [← hv,← hb2,← hb1];clear hv hb1 hb2;have HD:=hD.ext E;have Z0:=hZ.ext E;have hdw:=hD.lt;have hdn : ∀ b,w.heap.size ≤ b → bd ≠ b:=fun b h => by omega
 obtain ⟨k0,k1⟩:=B1.c2;have lk:=B1.lt;obtain ⟨d0,d1,d2,d3,d4,d5⟩:=HD.c6;have ld:=HD.lt;go_upto_region 1 with (fail)
 have m1:=fun x : World => NL x
 refine Zo v ?_;intro w2 h2;clear m1;obtain ⟨hcbw2,hfbw2,hzbw2,hzw2⟩:=Zn v h2;replace E:=E.trans h2;replace B1:=B1.ext h2;replace B2:=B2.ext h2;replace HD:=HD.ext h2;have Z3:=Z0.ext h2;clear k0 k1 lk d0 d1 d2 d3 d4 d5 ld Z0 hD hZ NL;cases cb
 ·have hR:=HP.out;rw [if_neg (of_decide_eq_false hcb.out.symm)] at hR;clear HP hcb N1;generalize Ji n X.p = S at *;obtain ⟨⟨Sn,Sd⟩,Se⟩:=S;subst hR;go_upto_region 5 with (fail)
  apply K5 (S:=fun w' b => Qb w2 w' ∧ w2.heap.size ≤ b ∧ Qc w' b 65 #[.int .i64 Sn,.int .i64 Sd])
  ·refine Q5 11 [6,7,9,10] (fun x => Qb w2 x) mixed rfl ?_;intro vz hvz;have HC:=hvz;refine Qr (g:=7) [0,1,2,3] HC ?_
   constructor
   refine ⟨fun u hu => ?_,?_⟩
   ·obtain ⟨k0,k1⟩:=(B1.ext hu).c2;have lk:=(B1.ext hu).lt;obtain ⟨d0,d1,d2,d3,d4,d5⟩:=(HD.ext hu).c6;have ld:=(HD.ext hu).lt;exact Qj
   refine Zp 4 8 ?_ ?_
   ·go_wp2_with (go_at_call 89;(with_reducible refine zc (N2 _ (Z3.ext HC)) ?_);rintro e wa ⟨rfl,h4⟩);replace HC:=HC.trans h4;try replace Q:=Q.ext h4
    clear h4;refine Qe HC ?_;refine Qr (g:=5) [5] HC ?_
    constructor
    refine ⟨fun u hu => ?_,?_⟩
    ·obtain ⟨k0,k1⟩:=(B1.ext hu).c2;have lk:=(B1.ext hu).lt;obtain ⟨d0,d1,d2,d3,d4,d5⟩:=(HD.ext hu).c6;have ld:=(HD.ext hu).lt;exact Qj
    refine Jv (g:=3) [6,7] ?_
    constructor
    refine ⟨fun u hu => ?_,?_⟩
    ·exact Qj
    refine Qk 8 ?_;go_wp2;obtain ⟨bq,hbq,Q,HC',hge⟩:=X0 HC 65 #[.int .i64 0,.int .i64 0];rw [← hbq];clear hbq;replace HC:=HC';clear HC';refine Qe HC ?_;refine Qn 9 ?_;have f0:=Q.frozen 0;have f1:=Q.frozen 1;obtain ⟨z0,z1⟩:=Q.c2;have lz:=Q.lt;have Q2:=Qo Q (.int .i64 Sn) (.int .i64 Sd);have HE2:=(HC.setCell (p:=⟨bq,0,none⟩) hge (.int .i64 Sn)).setCell (p:=⟨bq,1,none⟩) hge (.int .i64 Sd);go_wp2;refine Qm ?_;refine Qn 10 ?_;go_wp2;refine Qm ?_;refine Qt ?_;exact Yj bq ⟨HE2,hge,Q2⟩ rfl
   ·go_wp2;obtain ⟨bq,hbq,Q,HC',hge⟩:=X0 HC 65 #[.int .i64 0,.int .i64 0];rw [← hbq];clear hbq;replace HC:=HC';clear HC';refine Qe HC ?_;refine Qk 4 ?_;go_wp2_with (go_at_call 89;(with_reducible refine zc (N2 _ (Z3.ext HC)) ?_);rintro e wa ⟨rfl,h4⟩);replace HC:=HC.trans h4;try replace Q:=Q.ext h4
    clear h4;refine Qe HC ?_;refine Qr (g:=4) [5] HC ?_
    constructor
    refine ⟨fun u hu => ?_,?_⟩
    ·obtain ⟨k0,k1⟩:=(B1.ext hu).c2;have lk:=(B1.ext hu).lt;obtain ⟨d0,d1,d2,d3,d4,d5⟩:=(HD.ext hu).c6;have ld:=(HD.ext hu).lt;exact Qj
    refine Jv (g:=2) [6,7] ?_
    constructor
    refine ⟨fun u hu => ?_,?_⟩
    ·exact Qj
    refine Qn 9 ?_;have f0:=Q.frozen 0;have f1:=Q.frozen 1;obtain ⟨z0,z1⟩:=Q.c2;have lz:=Q.lt;have Q2:=Qo Q (.int .i64 Sn) (.int .i64 Sd);have HE2:=(HC.setCell (p:=⟨bq,0,none⟩) hge (.int .i64 Sn)).setCell (p:=⟨bq,1,none⟩) hge (.int .i64 Sd);go_wp2;refine Qm ?_;refine Qn 10 ?_;go_wp2;refine Qm ?_;refine Qt ?_;exact Yj bq ⟨HE2,hge,Q2⟩ rfl
  rintro b6 w3 ⟨E3,hg6,H6⟩;have hw2:=E.size;replace HD:=HD.ext E3;replace B2:=B2.ext E3;replace E:=E.trans E3;have OD : Q3 [bd] w w3:=Q3.of_ext E;clear E3 B1 N2 Z3;obtain ⟨r0,r1⟩:=H6.c2;have lr:=H6.lt;have f0:=HD.frozen 0;have f1:=HD.frozen 1;obtain ⟨d0,d1,d2,d3,d4,d5⟩:=HD.c6;have ld:=HD.lt;have HD2:=S0 HD (.int .i64 0) (.int .i64 1);have OD2:=(OD.trans (Q3.set w3 (List.mem_singleton.2 rfl) 0 (.int .i64 0))).trans (Q3.set _ (List.mem_singleton.2 rfl) 1 (.int .i64 1));have B22:=Qg (Qg B2 (Ne.symm (hdn b2 hbr)) 0 (.int .i64 0)) (Ne.symm (hdn b2 hbr)) 1 (.int .i64 1);have H62:=Qg (Qg H6 (Ne.symm (hdn b6 Qa)) 0 (.int .i64 0)) (Ne.symm (hdn b6 Qa)) 1 (.int .i64 1)
  clear f0 f1 d0 d1 d2 d3 d4 d5 ld r0 r1 lr HD2 OD2 B22 H62;go_upto_region 6 with (fail)
  go_upto_region 7 with (go_at_call 72;(with_reducible refine zc (Wt _ _) ?_);rintro e wa ⟨rfl,h4⟩;replace HD:=HD.ext h4;replace B2:=B2.ext h4;replace H6:=H6.ext h4;replace OD:=OD.trans (Q3.of_ext h4);have HD2:=S0 HD (.int .i64 0) (.int .i64 1);have OD2:=(OD.trans (Q3.set _ (List.mem_singleton.2 rfl) 0 (.int .i64 0))).trans (Q3.set _ (List.mem_singleton.2 rfl) 1 (.int .i64 1));have B22:=Qg (Qg B2 (Ne.symm (hdn b2 hbr)) 0 (.int .i64 0)) (Ne.symm (hdn b2 hbr)) 1 (.int .i64 1);have H62:=Qg (Qg H6 (Ne.symm (hdn b6 Qa)) 0 (.int .i64 0)) (Ne.symm (hdn b6 Qa)) 1 (.int .i64 1);have f0:=HD.frozen 0;have f1:=HD.frozen 1;obtain ⟨d0,d1,d2,d3,d4,d5⟩:=HD.c6;have ld:=HD.lt)
  generalize World.setCell _ _ _ = w4 at *;clear f0 f1 d0 d1 d2 d3 d4 d5 ld B2 H6 HD OD h4;have hw4 : w.heap.size ≤ b2:=hbr;obtain ⟨r0,r1⟩:=H62.c2;have lr:=H62.lt;have f0:=B22.frozen 0;have f1:=B22.frozen 1;obtain ⟨x0,x1⟩:=B22.c2;have lx:=B22.lt;have H4:=Qo B22 (.int .i64 Sn) (.int .i64 Sd);have OF:=OD2.far hbr 0 1 (.int .i64 Sn) (.int .i64 Sd);have HF:=Qg (Qg HD2 (hdn b2 hbr) 0 (.int .i64 Sn)) (hdn b2 hbr) 1 (.int .i64 Sd);obtain ⟨y0,y1⟩:=H4.c2;go_wp2;refine bodyPost_ret (v:=.tuple #[.agg #[.int .i64 Sn,.int .i64 Sd],.int .i64 Se]) (by simp [results,Tryz.results119,go_sem,y0,y1]) rfl ⟨rfl,OF,HF⟩
 ·have hR:=HP.out;rw [if_pos (of_decide_eq_true hcb.out.symm)] at hR;clear HP hcb N2;generalize Ji X.p n = S at *;obtain ⟨⟨Sn,Sd⟩,Se⟩:=S;subst hR;go_upto_region 2 with (fail)
  apply K5 (S:=fun w' b => Qb w2 w' ∧ w2.heap.size ≤ b ∧ Qc w' b 65 #[.int .i64 Sn,.int .i64 Sd])
  ·refine Q5 11 [6,7,9,10] (fun x => Qb w2 x) mixed rfl ?_;intro vz hvz;have HC:=hvz;refine Qr (g:=7) [0,1,2,3] HC ?_
   constructor
   refine ⟨fun u hu => ?_,?_⟩
   ·obtain ⟨k0,k1⟩:=(B1.ext hu).c2;have lk:=(B1.ext hu).lt;obtain ⟨d0,d1,d2,d3,d4,d5⟩:=(HD.ext hu).c6;have ld:=(HD.ext hu).lt;exact Qj
   refine Zp 4 8 ?_ ?_
   ·go_wp2_with (go_at_call 89;(with_reducible refine zc (N1 _ (Z3.ext HC)) ?_);rintro e wa ⟨rfl,h4⟩);replace HC:=HC.trans h4;try replace Q:=Q.ext h4
    clear h4;refine Qe HC ?_;refine Qr (g:=5) [5] HC ?_
    constructor
    refine ⟨fun u hu => ?_,?_⟩
    ·obtain ⟨k0,k1⟩:=(B1.ext hu).c2;have lk:=(B1.ext hu).lt;obtain ⟨d0,d1,d2,d3,d4,d5⟩:=(HD.ext hu).c6;have ld:=(HD.ext hu).lt;exact Qj
    refine Jv (g:=3) [6,7] ?_
    constructor
    refine ⟨fun u hu => ?_,?_⟩
    ·exact Qj
    refine Qk 8 ?_;go_wp2;obtain ⟨bq,hbq,Q,HC',hge⟩:=X0 HC 65 #[.int .i64 0,.int .i64 0];rw [← hbq];clear hbq;replace HC:=HC';clear HC';refine Qe HC ?_;refine Qn 9 ?_;have f0:=Q.frozen 0;have f1:=Q.frozen 1;obtain ⟨z0,z1⟩:=Q.c2;have lz:=Q.lt;have Q2:=Qo Q (.int .i64 Sn) (.int .i64 Sd);have HE2:=(HC.setCell (p:=⟨bq,0,none⟩) hge (.int .i64 Sn)).setCell (p:=⟨bq,1,none⟩) hge (.int .i64 Sd);go_wp2;refine Qm ?_;refine Qn 10 ?_;go_wp2;refine Qm ?_;refine Qt ?_;exact Yj bq ⟨HE2,hge,Q2⟩ rfl
   ·go_wp2;obtain ⟨bq,hbq,Q,HC',hge⟩:=X0 HC 65 #[.int .i64 0,.int .i64 0];rw [← hbq];clear hbq;replace HC:=HC';clear HC';refine Qe HC ?_;refine Qk 4 ?_;go_wp2_with (go_at_call 89;(with_reducible refine zc (N1 _ (Z3.ext HC)) ?_);rintro e wa ⟨rfl,h4⟩);replace HC:=HC.trans h4;try replace Q:=Q.ext h4
    clear h4;refine Qe HC ?_;refine Qr (g:=4) [5] HC ?_
    constructor
    refine ⟨fun u hu => ?_,?_⟩
    ·obtain ⟨k0,k1⟩:=(B1.ext hu).c2;have lk:=(B1.ext hu).lt;obtain ⟨d0,d1,d2,d3,d4,d5⟩:=(HD.ext hu).c6;have ld:=(HD.ext hu).lt;exact Qj
    refine Jv (g:=2) [6,7] ?_
    constructor
    refine ⟨fun u hu => ?_,?_⟩
    ·exact Qj
    refine Qn 9 ?_;have f0:=Q.frozen 0;have f1:=Q.frozen 1;obtain ⟨z0,z1⟩:=Q.c2;have lz:=Q.lt;have Q2:=Qo Q (.int .i64 Sn) (.int .i64 Sd);have HE2:=(HC.setCell (p:=⟨bq,0,none⟩) hge (.int .i64 Sn)).setCell (p:=⟨bq,1,none⟩) hge (.int .i64 Sd);go_wp2;refine Qm ?_;refine Qn 10 ?_;go_wp2;refine Qm ?_;refine Qt ?_;exact Yj bq ⟨HE2,hge,Q2⟩ rfl
  rintro b6 w3 ⟨E3,hg6,H6⟩;have hw2:=E.size;replace HD:=HD.ext E3;replace B2:=B2.ext E3;replace E:=E.trans E3;have OD : Q3 [bd] w w3:=Q3.of_ext E;clear E3 B1 N1 Z3;obtain ⟨r0,r1⟩:=H6.c2;have lr:=H6.lt;have f0:=HD.frozen 0;have f1:=HD.frozen 1;obtain ⟨d0,d1,d2,d3,d4,d5⟩:=HD.c6;have ld:=HD.lt;have HD2:=S0 HD (.int .i64 Sn) (.int .i64 Sd);have OD2:=(OD.trans (Q3.set w3 (List.mem_singleton.2 rfl) 0 (.int .i64 Sn))).trans (Q3.set _ (List.mem_singleton.2 rfl) 1 (.int .i64 Sd));have B22:=Qg (Qg B2 (Ne.symm (hdn b2 hbr)) 0 (.int .i64 Sn)) (Ne.symm (hdn b2 hbr)) 1 (.int .i64 Sd);have H62:=Qg (Qg H6 (Ne.symm (hdn b6 Qa)) 0 (.int .i64 Sn)) (Ne.symm (hdn b6 Qa)) 1 (.int .i64 Sd)
  go_upto_region 4 with (fail)
  generalize World.setCell _ _ _ = w4 at *;clear f0 f1 d0 d1 d2 d3 d4 d5 ld r0 r1 lr B2 H6 HD OD;have hw4 : w.heap.size ≤ b2:=hbr;go_wp2_with (go_at_call 72;(with_reducible refine zc (Wt _ _) ?_);rintro e w5 ⟨rfl,h5⟩;replace OD2:=OD2.trans (Q3.of_ext h5);replace HD2:=HD2.ext h5;replace B22:=B22.ext h5;have f0:=B22.frozen 0;have f1:=B22.frozen 1;obtain ⟨x0,x1⟩:=B22.c2;have lx:=B22.lt);have H4:=Qo B22 (.int .i64 0) (.int .i64 1);have OF:=OD2.far hbr 0 1 (.int .i64 0) (.int .i64 1);have HF:=Qg (Qg HD2 (hdn b2 hbr) 0 (.int .i64 0)) (hdn b2 hbr) 1 (.int .i64 1);obtain ⟨y0,y1⟩:=H4.c2;go_wp2;refine bodyPost_ret (v:=.tuple #[.agg #[.int .i64 0,.int .i64 1],.int .i64 Se]) (by simp [results,Tryz.results119,go_sem,y0,y1]) rfl ⟨rfl,OF,HF⟩
end
section
/-! ### Days and schematic days -/
theorem Qla {c : Qd} {d : Dt} (hv : c.valid = true) : c.numV d = 0 ↔ c.has d = false:=by
 unfold Qd.numV Qd.inE;rw [if_pos hv];cases h : c.has d
 ·simp
 ·have:=(Qbj h).1
  simp;omega
theorem Fk {c : Qd} {d : Dt} (hv : c.valid = true) (h : c.numV d ≠ 0) : c.has d = true ∧ c.numV d = (c.num d).1 ∧ 1 ≤ c.numV d:=by
 have hh : c.has d = true:=by
  cases e : c.has d
  ·exact absurd ((Qla hv).2 e) h
  ·rfl
 have e : c.numV d = (c.num d).1:=by unfold Qd.numV Qd.inE;rw [if_pos hv,hh];rfl
 exact ⟨hh,e,by rw [e];exact (Qbj hh).1⟩
theorem Rk {c : Qd} {a b : Dt} (hv : c.valid = true) (ha : c.has a = true) (hb : c.has b = true) : c.schV a b = 30 * ((c.num b).2 - (c.num a).2) + b.d - a.d:=by
 unfold Qd.schV Qd.in2E;rw [if_pos hv,ha,hb];rfl
theorem Qbl {c : Qd} (h : c.valid = true) : c.ny ≤ 400:=by
 simp only [Qd.valid,Bool.and_eq_true,decide_eq_true_eq] at h;exact h.1.2
theorem Kx {c : Qd} {d : Dt} (hv : c.valid = true) (h : c.has d = true) : 0 ≤ (c.num d).2 ∧ (c.num d).2 ≤ 5200 ∧ 1 ≤ d.d ∧ d.d ≤ 30:=by
 obtain ⟨i,x,hx,_,hn,h1,h2⟩:=Fl h;have hl:=G6 c c.ny;have hny:=Qbl hv;have hi:=(List.getElem?_eq_some_iff.1 hx).1;have hil : c.items.length ≤ 13 * c.ny:=hl;have:=V6 (c.yr x.y) x.n x.s;have e : x.len c = (c.yr x.y).len x.n x.s:=rfl;rw [hn]
 simp only
 omega
/-- From a day to a later one (or the same) the schematic days are no fewer than none. -/
theorem sch_bd {c : Qd} {a b : Dt} (hv : c.valid = true) (ha : c.numV a ≠ 0) (hb : c.numV b ≠ 0) (h : c.numV a ≤ c.numV b) : 0 ≤ c.schV a b ∧ c.schV a b ≤ 1099511627775:=by
 obtain ⟨ka,ea,_⟩:=Fk hv ha;obtain ⟨kb,eb,_⟩:=Fk hv hb;obtain ⟨_,_,o3,o4⟩:=W7 ka kb;have na:=Kx hv ka;have nb:=Kx hv kb;rw [Rk hv ka kb];rw [ea,eb] at h;refine ⟨?_,by omega⟩;rcases Int.lt_or_eq_of_le h with h1 | h1
 ·have:=o3 h1;omega
 ·have:=o4 h1;omega
/-! ### Ratios that exist are what comes out -/
theorem Qa8 {r : Rt} (h : r.ok = true) : 0 ≤ r.n ↔ (0 : Rat) ≤ r.val:=by
 have h1:=Hj (J9 h).1
 have e : r.val < 0 ↔ r.n < 0:=by
  unfold Rt.val;rw [Rat.div_lt_iff h1,Rat.zero_mul]
  constructor
  ·intro h;exact_mod_cast h
  ·intro h;exact_mod_cast h
 rw [← Rat.not_lt,e];omega
theorem Qof : (Ju 0).ok = true:=Qd0 (by decide) (by decide)
theorem Qoh : (Ju 0).val = 0:=by rw [Qmd];rfl
theorem Qa7 {r : Rt} (h : r.ok = true) (h2 : (0 : Rat) ≤ r.val) : r.nn = true:=by
 unfold Rt.nn;rw [h];simpa using (Qa8 h).2 h2
theorem Qa6 {r : Rt} (h : r.nn = true) : (0 : Rat) ≤ r.val:=(Qa8 (Kw h).1).1 (Kw h).2
theorem Qei {a b : Rt} (h : (Zm a b).2 = 0) (ha : a.nn = true) (hb : b.nn = true) : (Zm a b).1.nn = true:=by
 have h1:=Qa6 ha;have h2:=Qa6 hb;exact Qa7 (Bi h).2.2.1 (by rw [Qej h];grind)
structure Db.Nn (x : Db) : Prop where
 p : x.p.nn = true
 i : x.i.nn = true
 s : x.s.nn = true
/-! ### The payments, one after the other -/
theorem Qk9 {c : Qd} {d : Dt} (hv : c.valid = true) : 0 ≤ c.numV d:=by
 by_cases h : c.numV d = 0
 ·omega
 ·have:=(Fk hv h).2.2;omega
/-! ### What the laws say -/
end
end Go.Proofs.YtoflcheopfppoaaGreatDoor
