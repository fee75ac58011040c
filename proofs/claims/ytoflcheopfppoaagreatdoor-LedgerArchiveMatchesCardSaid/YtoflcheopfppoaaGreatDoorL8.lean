/- Walks of the program's functions and plain facts, packed; proved: the lemmas below; no conditions but those that each states. -/
import Derived.Test.YtoflcheopfppoaaGreatDoorL7
import Derived.Test.YtoflcheopfppoaaGreatDoorL5
import Derived.Test.YtoflcheopfppoaaGreatDoorL1
set_option maxRecDepth 100000
set_option maxHeartbeats 4000000
namespace Go.Proofs.YtoflcheopfppoaaGreatDoor
section
open Go Go.RowKit Go.Shelf
attribute [local go_sem] Z5
section
variable {W : World} {b : Nat} {t : TypeId} {v0 v1 v2 v3 v4 v5 v6 v7 v8 v9 v10 : Value}
theorem Qa.c11 (h : Qa W b t #[v0,v1,v2,v3,v4,v5,v6,v7,v8,v9,v10]) : W.cell? ⟨b,0,none⟩ = some v0 ∧ W.cell? ⟨b,1,none⟩ = some v1 ∧ W.cell? ⟨b,2,none⟩ = some v2 ∧ W.cell? ⟨b,3,none⟩ = some v3 ∧ W.cell? ⟨b,4,none⟩ = some v4 ∧ W.cell? ⟨b,5,none⟩ = some v5 ∧ W.cell? ⟨b,6,none⟩ = some v6 ∧ W.cell? ⟨b,7,none⟩ = some v7 ∧ W.cell? ⟨b,8,none⟩ = some v8 ∧ W.cell? ⟨b,9,none⟩ = some v9 ∧ W.cell? ⟨b,10,none⟩ = some v10:=⟨h.cell 0,h.cell 1,h.cell 2,h.cell 3,h.cell 4,h.cell 5,h.cell 6,h.cell 7,h.cell 8,h.cell 9,h.cell 10⟩
end
def Zv (f : Nat → Cw) (i : Nat) : List Value:=[.int .i64 (f i).w,.int .i64 (f i).s.n,.int .i64 (f i).s.d,.int .i64 (f i).f.y,.int .i64 (f i).f.m,.bool (f i).f.s,.int .i64 (f i).f.d,.int .i64 (f i).t.y,.int .i64 (f i).t.m,.bool (f i).t.s,.int .i64 (f i).t.d]
theorem I3 (c : Qf) (a b : Dt) : -1000000 ≤ c.schV a b ∧ c.schV a b ≤ 1000000:=by
 by_cases h : c.in2E a b = 0
 ·have hv : c.valid = true:=by
   rcases Ka c a b with ⟨_,hE⟩ | ⟨hv,_,_⟩ | ⟨hv,_,_⟩
   ·rw [hE] at h;exact absurd h (by decide)
   ·exact hv
   ·exact hv
  have hh : (c.has a && c.has b) = true:=by
   rcases Ka c a b with ⟨_,hE⟩ | ⟨_,_,hE⟩ | ⟨_,hh,_⟩
   ·rw [hE] at h;exact absurd h (by decide)
   ·rw [hE] at h;exact absurd h (by decide)
   ·exact hh
  obtain ⟨h1,h2⟩:=Bool.and_eq_true_iff.1 hh;rw [Hu hv h1 h2];have:=Vm hv h1;have:=Vm hv h2;omega
 ·unfold Qf.schV;rw [if_neg h];exact ⟨by decide,by decide⟩
theorem Qdr {c : Qf} {x : Cw} (hs : x.s.In) (h1 : -9223372036854775808 ≤ x.w) (h2 : x.w ≤ 9223372036854775807) (h3 : -1000000 ≤ c.schV x.f x.t ∧ c.schV x.f x.t ≤ 1000000) : ∀ i,i < 3 → (Wr c x i).In:=fun i hi => by
 have h4 : i = 0 ∨ i = 1 ∨ i = 2:=by omega
 rcases h4 with rfl | rfl | rfl
 ·show (Jq x.w).In
  unfold Rt.In Jq;simp only;omega
 ·exact hs
 ·show (Jq (c.schV x.f x.t + 1)).In
  unfold Rt.In Jq;simp only;omega
theorem rows3 {w : World} {b : Nat} {t : TypeId} {c : Qf} {x : Cw} (h : Qa w b t #[.int .i64 x.w,.int .i64 1,.int .i64 x.s.n,.int .i64 x.s.d,.int .i64 (c.schV x.f x.t + 1),.int .i64 1]) : Qp w (some ⟨b,0,none⟩) 3 2 (Y8 (Wr c x)):=Ke (f:=Y8 (Wr c x)) (n:=3) (fun _ => rfl) h
theorem Qho (f : Nat → Rt) (n : Nat) : (Ym f n).1.In:=by
 unfold Ym
 split
 ·exact Y6
 ·split
  ·rename_i h
   exact O9 (La n fun i hi => by have:=J2 (List.all_eq_true.1 h i (by simpa using hi));omega)
  ·exact Y6
theorem Qbp (A A' : Option Addr) (ca cb : Nat) (c : Qf) (T : Option Addr) (n cap : Nat) (f : Nat → Cw) (p1 p2 i : Nat) (hi : i < n) (hs : (f i).s.In) (hw1 : -9223372036854775808 ≤ (f i).w) (hw2 : (f i).w ≤ 9223372036854775807) (w : World) (hC : Q8 w A ca A' cb c) (hB : Qa w p1 113 #[.slice T n cap]) (hK : Qa w p2 130 #[.slice A c.nk ca,.slice A' c.ny cb]) (hT : Qp w T n 11 (Zv f)) (hn : n ≤ 1000000) (hZ : Z6 w) :
  Calls Tryz.prog 138 #[.int .i64 (i : Int),.pointer (some ⟨p1,0,none⟩),.pointer (some ⟨p2,0,none⟩)] w fun e w' => e = .returned (.tuple #[.agg #[.int .i64 (Ym (Wr c (f i)) 3).1.n,.int .i64 (Ym (Wr c (f i)) 3).1.d],.int .i64 (Ym (Wr c (f i)) 3).2]) ∧ Qb w w':=by
 have hsm:=I3 c (f i).f (f i).t;have NP:=fun w b h z => Ia (some ⟨b,0,none⟩) 3 3 (Wr c (f i)) w h (by decide) (Qdr hs hw1 hw2 hsm) z
 have hw : IntKind.i64.wrap (c.schV (f i).f (f i).t + 1) = c.schV (f i).f (f i).t + 1:=Z2 (by omega) (by omega);generalize Ym (Wr c (f i)) 3 = R at *;obtain ⟨⟨Rn,Rd⟩,Re⟩:=R;obtain ⟨b,off,rfl,_,_⟩:=hT (by omega);clear hsm hs hw1 hw2
 go_enter Tryz.func138,Tryz.ntmps138
 go_upto_region 1 with (fail)
 obtain ⟨v,hv⟩:=Qg (w.alloc (.cells #[.int .i64 0,.int .i64 0] 65));rw [← hv];have E : Qb w v:=by rw [hv];exact (Qb.refl _).alloc _
 have B1 : Qa v w.heap.size 65 #[.int .i64 0,.int .i64 0]:=by rw [hv];exact (Qa.new _ _ _)
 clear hv;obtain ⟨b1,hb1⟩:=Qg (w.heap.size);rw [← hb1] at B1 ⊢;have hbr : w.heap.size ≤ b1:=by omega
 clear hb1;have Z0:=hZ.ext E;have C:=hC.ext E;have HB:=hB.ext E;have HK:=hK.ext E;have RT:=hT.ext E;clear hB hT hZ hC hK;refine Zb 31 [29,30] (fun x => Qb v x) Qo rfl ?_;intro vz hvz;have HC:=hvz;refine Qs (g:=10) [0,1,2,3,4,6,7,8,9,10,11,12,13,14,15,16,17,18,19,20,21] [_,_,_,_,_,_,_,_,_,_,_,_,_,_,_,_,_,_,_,_,_] ⟨rfl,rfl,rfl,rfl,rfl,rfl,rfl,rfl,rfl,rfl,rfl,rfl,rfl,rfl,rfl,rfl,rfl,rfl,rfl,rfl,rfl,trivial⟩ (by kernel_rfl) (by kernel_rfl) HC ?_;simp only [Qc,Qd,Qe];apply Exists.intro;refine ⟨fun u hu => ?_,?_⟩
 ·have k0 := (HB.ext hu).c1;have lk := (HB.ext hu).lt;obtain ⟨p0, p1'⟩ := (HK.ext hu).c2;have lp := (HK.ext hu).lt;obtain ⟨b', off', hTe, hb, hc⟩ := (RT.ext hu) (by omega);obtain ⟨rfl, rfl⟩ : b = b' ∧ off = off' := by simpa using hTe
  have c0 : u.cell? ⟨b,off + i * 11,none⟩ = some (.int .i64 (f i).w):=by simpa [Zv] using hc i 0 _ hi rfl
  have c1 : u.cell? ⟨b,off + i * 11 + 1,none⟩ = some (.int .i64 (f i).s.n):=by simpa [Zv] using hc i 1 _ hi rfl
  have c2 : u.cell? ⟨b,off + i * 11 + 2,none⟩ = some (.int .i64 (f i).s.d):=by simpa [Zv] using hc i 2 _ hi rfl
  have c3 : u.cell? ⟨b,off + i * 11 + 3,none⟩ = some (.int .i64 (f i).f.y):=by simpa [Zv] using hc i 3 _ hi rfl
  have c4 : u.cell? ⟨b,off + i * 11 + 4,none⟩ = some (.int .i64 (f i).f.m):=by simpa [Zv] using hc i 4 _ hi rfl
  have c5 : u.cell? ⟨b,off + i * 11 + 5,none⟩ = some (.bool (f i).f.s):=by simpa [Zv] using hc i 5 _ hi rfl
  have c6 : u.cell? ⟨b,off + i * 11 + 6,none⟩ = some (.int .i64 (f i).f.d):=by simpa [Zv] using hc i 6 _ hi rfl
  have c7 : u.cell? ⟨b,off + i * 11 + 7,none⟩ = some (.int .i64 (f i).t.y):=by simpa [Zv] using hc i 7 _ hi rfl
  have c8 : u.cell? ⟨b,off + i * 11 + 8,none⟩ = some (.int .i64 (f i).t.m):=by simpa [Zv] using hc i 8 _ hi rfl
  have c9 : u.cell? ⟨b,off + i * 11 + 9,none⟩ = some (.bool (f i).t.s):=by simpa [Zv] using hc i 9 _ hi rfl
  have c10 : u.cell? ⟨b,off + i * 11 + 10,none⟩ = some (.int .i64 (f i).t.d):=by simpa [Zv] using hc i 10 _ hi rfl
  clear hc;repeat (first | go_big_quiet_skip | (go_big_quiet_want;go_big_quiet_op;go_big_quiet_on))
  refine wpQuiet_nil ?_;rfl
 refine Ql 5 rfl (by kernel_rfl) ?_;simp only [Qc,Qd,Qe];go_wp2_with (go_at_call 72;(with_reducible refine Calls.mono (Xt _ _) ?_);rintro e wa ⟨rfl,h4⟩);replace HC:=HC.trans h4;clear h4;refine Qh HC ?_;refine Ql 22 rfl (by kernel_rfl) ?_;simp only [Qc,Qd,Qe];go_wp2_with (go_at_call 92;(with_reducible refine Calls.mono (Mz A A' ca cb c (f i).f (f i).t _ (C.ext HC)) ?_);rintro e wa ⟨rfl,h4⟩);replace HC:=HC.trans h4;clear h4;refine Qh HC ?_;refine Qs (g:=7) [23] [_] ⟨rfl,trivial⟩ (by kernel_rfl) (by kernel_rfl) HC ?_;simp only [Qc,Qd,Qe];apply Exists.intro;refine ⟨fun u hu => ?_,?_⟩
 ·have k0 := (HB.ext hu).c1;have lk := (HB.ext hu).lt;obtain ⟨p0, p1'⟩ := (HK.ext hu).c2;have lp := (HK.ext hu).lt;obtain ⟨b', off', hTe, hb, hc⟩ := (RT.ext hu) (by omega);obtain ⟨rfl, rfl⟩ : b = b' ∧ off = off' := by simpa using hTe
  have c0 : u.cell? ⟨b,off + i * 11,none⟩ = some (.int .i64 (f i).w):=by simpa [Zv] using hc i 0 _ hi rfl
  have c1 : u.cell? ⟨b,off + i * 11 + 1,none⟩ = some (.int .i64 (f i).s.n):=by simpa [Zv] using hc i 1 _ hi rfl
  have c2 : u.cell? ⟨b,off + i * 11 + 2,none⟩ = some (.int .i64 (f i).s.d):=by simpa [Zv] using hc i 2 _ hi rfl
  have c3 : u.cell? ⟨b,off + i * 11 + 3,none⟩ = some (.int .i64 (f i).f.y):=by simpa [Zv] using hc i 3 _ hi rfl
  have c4 : u.cell? ⟨b,off + i * 11 + 4,none⟩ = some (.int .i64 (f i).f.m):=by simpa [Zv] using hc i 4 _ hi rfl
  have c5 : u.cell? ⟨b,off + i * 11 + 5,none⟩ = some (.bool (f i).f.s):=by simpa [Zv] using hc i 5 _ hi rfl
  have c6 : u.cell? ⟨b,off + i * 11 + 6,none⟩ = some (.int .i64 (f i).f.d):=by simpa [Zv] using hc i 6 _ hi rfl
  have c7 : u.cell? ⟨b,off + i * 11 + 7,none⟩ = some (.int .i64 (f i).t.y):=by simpa [Zv] using hc i 7 _ hi rfl
  have c8 : u.cell? ⟨b,off + i * 11 + 8,none⟩ = some (.int .i64 (f i).t.m):=by simpa [Zv] using hc i 8 _ hi rfl
  have c9 : u.cell? ⟨b,off + i * 11 + 9,none⟩ = some (.bool (f i).t.s):=by simpa [Zv] using hc i 9 _ hi rfl
  have c10 : u.cell? ⟨b,off + i * 11 + 10,none⟩ = some (.int .i64 (f i).t.d):=by simpa [Zv] using hc i 10 _ hi rfl
  clear hc;repeat (first | go_big_quiet_skip | (go_big_quiet_want;go_big_quiet_op;go_big_quiet_on))
  refine wpQuiet_nil ?_;rfl
 refine Ql 24 rfl (by kernel_rfl) ?_;simp only [Qc,Qd,Qe];go_wp2_with (go_at_call 72;(with_reducible refine Calls.mono (Xt _ _) ?_);rintro e wa ⟨rfl,h4⟩);replace HC:=HC.trans h4;clear h4;refine Qh HC ?_;refine Ql 25 rfl (by kernel_rfl) ?_;simp only [Qc,Qd,Qe];go_wp2;obtain ⟨b6,wb,hbq,hwb,Q6,HC',hx,_⟩:=Qn HC 65 #[.int .i64 (f i).w,.int .i64 1,.int .i64 (f i).s.n,.int .i64 (f i).s.d,.int .i64 (c.schV (f i).f (f i).t + 1),.int .i64 1];rw [← hbq,← hwb];clear hbq hwb hx;replace HC:=HC';clear HC';refine Qh HC ?_;refine Ql 26 rfl (by kernel_rfl) ?_;simp only [Qc,Qd,Qe];go_wp2_with (go_at_call 71;(with_reducible refine Calls.mono (NP _ _ (rows3 Q6) (Z0.ext HC)) ?_);rintro e wa ⟨rfl,h4⟩)
 replace HC:=HC.trans h4;clear h4 Q6;refine Qh HC ?_;refine Qs (g:=2) [27,28] [_,_] ⟨rfl,rfl,trivial⟩ (by kernel_rfl) (by kernel_rfl) HC ?_;simp only [Qc,Qd,Qe];apply Exists.intro;refine ⟨fun u hu => ?_,?_⟩
 ·have k0 := (HB.ext hu).c1;have lk := (HB.ext hu).lt;obtain ⟨p0, p1'⟩ := (HK.ext hu).c2;have lp := (HK.ext hu).lt;obtain ⟨b', off', hTe, hb, hc⟩ := (RT.ext hu) (by omega);obtain ⟨rfl, rfl⟩ : b = b' ∧ off = off' := by simpa using hTe
  have c0 : u.cell? ⟨b,off + i * 11,none⟩ = some (.int .i64 (f i).w):=by simpa [Zv] using hc i 0 _ hi rfl
  have c1 : u.cell? ⟨b,off + i * 11 + 1,none⟩ = some (.int .i64 (f i).s.n):=by simpa [Zv] using hc i 1 _ hi rfl
  have c2 : u.cell? ⟨b,off + i * 11 + 2,none⟩ = some (.int .i64 (f i).s.d):=by simpa [Zv] using hc i 2 _ hi rfl
  have c3 : u.cell? ⟨b,off + i * 11 + 3,none⟩ = some (.int .i64 (f i).f.y):=by simpa [Zv] using hc i 3 _ hi rfl
  have c4 : u.cell? ⟨b,off + i * 11 + 4,none⟩ = some (.int .i64 (f i).f.m):=by simpa [Zv] using hc i 4 _ hi rfl
  have c5 : u.cell? ⟨b,off + i * 11 + 5,none⟩ = some (.bool (f i).f.s):=by simpa [Zv] using hc i 5 _ hi rfl
  have c6 : u.cell? ⟨b,off + i * 11 + 6,none⟩ = some (.int .i64 (f i).f.d):=by simpa [Zv] using hc i 6 _ hi rfl
  have c7 : u.cell? ⟨b,off + i * 11 + 7,none⟩ = some (.int .i64 (f i).t.y):=by simpa [Zv] using hc i 7 _ hi rfl
  have c8 : u.cell? ⟨b,off + i * 11 + 8,none⟩ = some (.int .i64 (f i).t.m):=by simpa [Zv] using hc i 8 _ hi rfl
  have c9 : u.cell? ⟨b,off + i * 11 + 9,none⟩ = some (.bool (f i).t.s):=by simpa [Zv] using hc i 9 _ hi rfl
  have c10 : u.cell? ⟨b,off + i * 11 + 10,none⟩ = some (.int .i64 (f i).t.d):=by simpa [Zv] using hc i 10 _ hi rfl
  clear hc;repeat (first | go_big_quiet_skip | (go_big_quiet_want;go_big_quiet_op;go_big_quiet_on))
  refine wpQuiet_nil ?_;rfl
 refine Qr 29 rfl (by kernel_rfl) ?_;simp only [Qc,Qd,Qe];replace B1:=B1.ext HC;replace E:=E.trans HC;have f0:=B1.frozen 0;have f1:=B1.frozen 1;obtain ⟨x0,x1⟩:=B1.c2;have lx:=B1.lt;have H4:=Qm B1 (.int .i64 Rn) (.int .i64 Rd);have EF:=(E.setCell (p:=⟨b1,0,none⟩) hbr (.int .i64 Rn)).setCell (p:=⟨b1,1,none⟩) hbr (.int .i64 Rd);obtain ⟨y0,y1⟩:=H4.c2;go_wp2;refine Qq ?_;refine Qr 30 rfl (by kernel_rfl) ?_;simp only [Qc,Qd,Qe];go_wp2;refine Qq ?_;refine Qv (by kernel_rfl) ?_;go_wp2;refine bodyPost_ret (v:=.tuple #[.agg #[.int .i64 Rn,.int .i64 Rd],.int .i64 Re]) (by simp [results,Tryz.results138,go_sem,y0,y1]) rfl ⟨rfl,EF⟩
theorem Qbr (A A' : Option Addr) (ca cb : Nat) (c : Qf) (T : Option Addr) (n cap : Nat) (f : Nat → Cw) (w : World) (hC : Q8 w A ca A' cb c) (hin : ∀ i,i < n → (f i).s.In ∧ -9223372036854775808 ≤ (f i).w ∧ (f i).w ≤ 9223372036854775807) (hT : Qp w T n 11 (Zv f)) (hn : n ≤ 9223372036854775807) (hZ : Z6 w) :
  Calls Tryz.prog 88 #[.agg #[.slice A c.nk ca,.slice A' c.ny cb],.slice T n cap] w fun e w' => e = .returned (.tuple #[.agg #[.int .i64 (c.availV f n).1.n,.int .i64 (c.availV f n).1.d],.int .i64 (c.availV f n).2]) ∧ Qb w w':=by
 obtain ⟨R,hR0⟩:=Qg (c.availV f n);rw [← hR0];have HR:=Lib.hid hR0;clear hR0
 go_enter Tryz.func88,Tryz.ntmps88
 go_upto_region 1 with (fail)
 obtain ⟨v,hv⟩:=Qg (((w.alloc (.cells #[.slice A c.nk ca,.slice A' c.ny cb] 130)).alloc (.cells #[.slice T n cap] 113)).alloc (.cells #[.int .i64 0,.int .i64 0] 65));rw [← hv];have E : Qb w v:=by rw [hv];exact (((Qb.refl _).alloc _).alloc _).alloc _
 have B1 : Qa v w.heap.size 130 #[.slice A c.nk ca,.slice A' c.ny cb]:=by rw [hv];exact ((Qa.new _ _ _).alloc _).alloc _
 have B2 : Qa v (w.heap.size + 1) 113 #[.slice T n cap]:=by rw [hv];exact (Qa.at _ _ _ _ (by simp)).alloc _
 have B3 : Qa v (w.heap.size + 1 + 1) 65 #[.int .i64 0,.int .i64 0]:=by rw [hv];exact Qa.at _ _ _ _ (by simp)
 clear hv;obtain ⟨b3,hb3⟩:=Qg (w.heap.size + 1 + 1);rw [← hb3] at B3 ⊢;obtain ⟨b2,hb2⟩:=Qg (w.heap.size + 1);rw [← hb2] at B2 ⊢;obtain ⟨b1,hb1⟩:=Qg (w.heap.size);rw [← hb1] at B1 ⊢;have hbr : w.heap.size ≤ b3:=by omega
 have hbr1 : w.heap.size ≤ b1:=by omega
 have hbr2 : w.heap.size ≤ b2:=by omega
 have hn21 : b2 ≠ b1:=by omega
 have hn31 : b3 ≠ b1:=by omega
 have hn32 : b3 ≠ b2:=by omega
 clear hb1 hb2 hb3;have RT:=hT.ext E;have Z0:=hZ.ext E;have C:=hC.ext E;clear hT hZ hC;have s0:=B2.c1;have ls:=B2.lt;by_cases h64 : 64 < n
 ·have g1 : decide ((64 : Int) < (n : Int)) = true:=decide_eq_true (by omega);have hr:=HR.out;rw [show c.availV f n = (Zm,3) by unfold Qf.availV;rw [if_pos h64]] at hr;subst hr;clear HR;clear h64;have f0:=B3.frozen 0;have f1:=B3.frozen 1;obtain ⟨x0,x1⟩:=B3.c2;have lx:=B3.lt;have H4:=Qm B3 (.int .i64 0) (.int .i64 0);have EF:=(E.setCell (p:=⟨b3,0,none⟩) hbr (.int .i64 0)).setCell (p:=⟨b3,1,none⟩) hbr (.int .i64 0);obtain ⟨y0,y1⟩:=H4.c2;go_wp2;refine bodyPost_ret (v:=.tuple #[.agg #[.int .i64 0,.int .i64 0],.int .i64 3]) (by simp [results,Tryz.results88,go_sem,y0,y1]) rfl ⟨rfl,EF⟩
 ·have g1 : decide ((64 : Int) < (n : Int)) = false:=decide_eq_false (by omega);go_upto_region 4 with (fail)
  clear s0 ls
  go_loopw [14] (fun i wr => ∃ k : Nat,k ≤ n ∧ i = .int .i64 k ∧ Hid (∀ j,j < k → c.crewOk (f j) = true) ∧ Qb v wr) (fun i _ => n - (intOf i).toNat)
  case atStart => exact ⟨0,Nat.zero_le _,rfl,(fun j h => absurd h (by omega)),Qb.refl _⟩
  case round =>
   obtain ⟨k,hk,rfl,hall,hE⟩:=hrel;obtain ⟨wo,rfl⟩:=Qg wr;by_cases hlt : k < n
   ·obtain ⟨b, off, rfl, hb, hc⟩ := (RT.ext hE) (by omega);have c0 : wo.cell? ⟨b, off + k * 11, none⟩ = some (.int .i64 (f k).w) := by simpa [Zv] using hc k 0 _ hlt rfl
    have c1 : wo.cell? ⟨b,off + k * 11 + 1,none⟩ = some (.int .i64 (f k).s.n):=by simpa [Zv] using hc k 1 _ hlt rfl
    have c2 : wo.cell? ⟨b,off + k * 11 + 2,none⟩ = some (.int .i64 (f k).s.d):=by simpa [Zv] using hc k 2 _ hlt rfl
    have c3 : wo.cell? ⟨b,off + k * 11 + 3,none⟩ = some (.int .i64 (f k).f.y):=by simpa [Zv] using hc k 3 _ hlt rfl
    have c4 : wo.cell? ⟨b,off + k * 11 + 4,none⟩ = some (.int .i64 (f k).f.m):=by simpa [Zv] using hc k 4 _ hlt rfl
    have c5 : wo.cell? ⟨b,off + k * 11 + 5,none⟩ = some (.bool (f k).f.s):=by simpa [Zv] using hc k 5 _ hlt rfl
    have c6 : wo.cell? ⟨b,off + k * 11 + 6,none⟩ = some (.int .i64 (f k).f.d):=by simpa [Zv] using hc k 6 _ hlt rfl
    have c7 : wo.cell? ⟨b,off + k * 11 + 7,none⟩ = some (.int .i64 (f k).t.y):=by simpa [Zv] using hc k 7 _ hlt rfl
    have c8 : wo.cell? ⟨b,off + k * 11 + 8,none⟩ = some (.int .i64 (f k).t.m):=by simpa [Zv] using hc k 8 _ hlt rfl
    have c9 : wo.cell? ⟨b,off + k * 11 + 9,none⟩ = some (.bool (f k).t.s):=by simpa [Zv] using hc k 9 _ hlt rfl
    have c10 : wo.cell? ⟨b,off + k * 11 + 10,none⟩ = some (.int .i64 (f k).t.d):=by simpa [Zv] using hc k 10 _ hlt rfl
    obtain ⟨is,_⟩:=hin k hlt;have NS:=fun w => Mq (f k).s is w
    have NSP:=fun w h => Tt A A' ca cb c (f k).f (f k).t w h
    have hno : Hid (c.crewOk (f k) = false → R = (Zm,81)):=fun h => by
     rw [HR.out];unfold Qf.availV;rw [if_neg h64,if_neg (by rw [Bool.not_eq_true];exact List.all_eq_false.2 ⟨k,by simpa using hlt,by simp [h]⟩)]
    have hyes : Hid (c.crewOk (f k) = true → ∀ j,j < k + 1 → c.crewOk (f j) = true):=fun h j hj => by
     by_cases e : j = k
     ·subst e;exact h
     ·exact hall.out j (by omega)
    have hck : Hid (c.crewOk (f k) = (decide (0 ≤ (f k).w) && decide ((f k).w ≤ 4096) && (f k).s.shr && (decide (0 < c.numV (f k).f) && decide (c.numV (f k).f ≤ c.numV (f k).t)))):=rfl;clear hc hin RT hall HR h64;go_upto_region 6 with (fail)
    obtain ⟨v3,hv⟩:=Qg (wo.alloc (.cells #[.int .i64 (f k).w,.int .i64 (f k).s.n,.int .i64 (f k).s.d,.int .i64 (f k).f.y,.int .i64 (f k).f.m,.bool (f k).f.s,.int .i64 (f k).f.d,.int .i64 (f k).t.y,.int .i64 (f k).t.m,.bool (f k).t.s,.int .i64 (f k).t.d] 112));rw [← hv];have E3 : Qb wo v3:=by rw [hv];exact (Qb.refl _).alloc _
    have H3 : Qa v3 wo.heap.size 112 #[.int .i64 (f k).w,.int .i64 (f k).s.n,.int .i64 (f k).s.d,.int .i64 (f k).f.y,.int .i64 (f k).f.m,.bool (f k).f.s,.int .i64 (f k).f.d,.int .i64 (f k).t.y,.int .i64 (f k).t.m,.bool (f k).t.s,.int .i64 (f k).t.d]:=by rw [hv];exact Qa.new _ _ _
    clear hv c0 c1 c2 c3 c4 c5 c6 c7 c8 c9 c10;replace hE:=hE.trans E3;generalize wo.heap.size = b4 at *;clear E3;obtain ⟨q0,q1,q2,q3,q4,q5,q6,q7,q8,q9,q10⟩:=H3.c11;have lq:=H3.lt;obtain ⟨k0,k1⟩:=(B1.ext hE).c2;have lk:=(B1.ext hE).lt;generalize (decide (0 < c.numV (f k).f) && decide (c.numV (f k).f ≤ c.numV (f k).t)) = sp at *;generalize (f k).s.shr = sh at *;by_cases w0 : (f k).w < 0
    ·have gw : decide ((f k).w < 0) = true:=decide_eq_true w0;have hr:=hno.out (by rw [hck.out,decide_eq_false (by omega)];rfl);subst hr;clear hno hyes hck w0;replace E:=E.trans hE;replace B3:=B3.ext hE;have f0:=B3.frozen 0;have f1:=B3.frozen 1;obtain ⟨x0,x1⟩:=B3.c2;have lx:=B3.lt;have H4:=Qm B3 (.int .i64 0) (.int .i64 0);have EF:=(E.setCell (p:=⟨b3,0,none⟩) hbr (.int .i64 0)).setCell (p:=⟨b3,1,none⟩) hbr (.int .i64 0);obtain ⟨y0,y1⟩:=H4.c2;go_wp2;refine bodyPost_ret (v:=.tuple #[.agg #[.int .i64 0,.int .i64 0],.int .i64 81]) (by simp [results,Tryz.results88,go_sem,y0,y1]) rfl ⟨rfl,EF⟩
    ·have gw : decide ((f k).w < 0) = false:=decide_eq_false w0;by_cases w1 : 4096 < (f k).w
     ·have gw1 : decide (4096 < (f k).w) = true:=decide_eq_true w1;have hr:=hno.out (by rw [hck.out,decide_eq_false (show ¬ (f k).w ≤ 4096 by omega),Bool.and_false];rfl);subst hr;clear hno hyes hck w0 w1;replace E:=E.trans hE;replace B3:=B3.ext hE;have f0:=B3.frozen 0;have f1:=B3.frozen 1;obtain ⟨x0,x1⟩:=B3.c2;have lx:=B3.lt;have H4:=Qm B3 (.int .i64 0) (.int .i64 0);have EF:=(E.setCell (p:=⟨b3,0,none⟩) hbr (.int .i64 0)).setCell (p:=⟨b3,1,none⟩) hbr (.int .i64 0);obtain ⟨y0,y1⟩:=H4.c2;go_wp2;refine bodyPost_ret (v:=.tuple #[.agg #[.int .i64 0,.int .i64 0],.int .i64 81]) (by simp [results,Tryz.results88,go_sem,y0,y1]) rfl ⟨rfl,EF⟩
     ·have gw1 : decide (4096 < (f k).w) = false:=decide_eq_false w1;cases sh
      ·have hr:=hno.out (by rw [hck.out,Bool.and_false];rfl);subst hr;clear hno hyes hck w0 w1;go_upto_region 7 with (go_at_call 90;(with_reducible refine Calls.mono (NS _) ?_);rintro e w2 ⟨rfl,h2⟩;clear q0 q1 q2 q3 q4 q5 q6 q7 q8 q9 q10 lq k0 k1 lk;obtain ⟨q0,q1,q2,q3,q4,q5,q6,q7,q8,q9,q10⟩:=(H3.ext h2).c11;have lq:=(H3.ext h2).lt;obtain ⟨k0,k1⟩:=((B1.ext hE).ext h2).c2;have lk:=((B1.ext hE).ext h2).lt)
       replace E:=(E.trans hE).trans h2;replace B3:=(B3.ext hE).ext h2;have f0:=B3.frozen 0;have f1:=B3.frozen 1;obtain ⟨x0,x1⟩:=B3.c2;have lx:=B3.lt;have H4:=Qm B3 (.int .i64 0) (.int .i64 0);have EF:=(E.setCell (p:=⟨b3,0,none⟩) hbr (.int .i64 0)).setCell (p:=⟨b3,1,none⟩) hbr (.int .i64 0);obtain ⟨y0,y1⟩:=H4.c2;go_wp2;refine bodyPost_ret (v:=.tuple #[.agg #[.int .i64 0,.int .i64 0],.int .i64 81]) (by simp [results,Tryz.results88,go_sem,y0,y1]) rfl ⟨rfl,EF⟩
      ·cases sp
       ·have hr:=hno.out (by rw [hck.out,Bool.and_false]);subst hr;clear hno hyes hck w0 w1;go_upto_region 7 with (first | (go_at_call 90;(with_reducible refine Calls.mono (NS _) ?_);rintro e w2 ⟨rfl,h2⟩;clear q0 q1 q2 q3 q4 q5 q6 q7 q8 q9 q10 lq k0 k1 lk;obtain ⟨q0,q1,q2,q3,q4,q5,q6,q7,q8,q9,q10⟩:=(H3.ext h2).c11;have lq:=(H3.ext h2).lt;obtain ⟨k0,k1⟩:=((B1.ext hE).ext h2).c2;have lk:=((B1.ext hE).ext h2).lt) | (go_at_call 91;(with_reducible refine Calls.mono (NSP _ ((C.ext hE).ext h2)) ?_);rintro e w3 ⟨rfl,h3⟩))
        replace E:=((E.trans hE).trans h2).trans h3;replace B3:=((B3.ext hE).ext h2).ext h3;have f0:=B3.frozen 0;have f1:=B3.frozen 1;obtain ⟨x0,x1⟩:=B3.c2;have lx:=B3.lt;have H4:=Qm B3 (.int .i64 0) (.int .i64 0);have EF:=(E.setCell (p:=⟨b3,0,none⟩) hbr (.int .i64 0)).setCell (p:=⟨b3,1,none⟩) hbr (.int .i64 0);obtain ⟨y0,y1⟩:=H4.c2;go_wp2;refine bodyPost_ret (v:=.tuple #[.agg #[.int .i64 0,.int .i64 0],.int .i64 81]) (by simp [results,Tryz.results88,go_sem,y0,y1]) rfl ⟨rfl,EF⟩
       ·have hx:=Lib.hid (hyes.out (by rw [hck.out,decide_eq_true (show 0 ≤ (f k).w by omega),decide_eq_true (show (f k).w ≤ 4096 by omega)];rfl));clear hno hyes hck w0 w1;go_wp2_with (first | (go_at_call 90;(with_reducible refine Calls.mono (NS _) ?_);rintro e w2 ⟨rfl,h2⟩;clear q0 q1 q2 q3 q4 q5 q6 q7 q8 q9 q10 lq k0 k1 lk;obtain ⟨q0,q1,q2,q3,q4,q5,q6,q7,q8,q9,q10⟩:=(H3.ext h2).c11;have lq:=(H3.ext h2).lt;obtain ⟨k0,k1⟩:=((B1.ext hE).ext h2).c2;have lk:=((B1.ext hE).ext h2).lt) | (go_at_call 91;(with_reducible refine Calls.mono (NSP _ ((C.ext hE).ext h2)) ?_);rintro e w3 ⟨rfl,h3⟩));exact ⟨⟨k + 1,by omega,by go_num,hx,(hE.trans h2).trans h3⟩,by simp [intOf];omega⟩
   ·obtain rfl : k = n := by omega
    have B2e:=B2.ext hE;have B1e:=B1.ext hE;have RTe:=RT.ext hE;have Ze:=Z0.ext hE;have Ce:=C.ext hE;have NT:=Qik (fun i => Ym (Wr c (f i)) 3) k b2 b1 wo (fun i hi u hu => Qbp A A' ca cb c T k cap f b2 b1 i hi (hin i hi).1 (hin i hi).2.1 (hin i hi).2.2 u (Ce.ext hu) (B2e.ext hu) (B1e.ext hu) (RTe.ext hu) (by omega) (Ze.ext hu)) (fun i hi => Qho _ _) (by omega) Ze;rw [show Wg (fun i => Ym (Wr c (f i)) 3) k = R from by rw [HR.out];unfold Qf.availV;rw [if_neg h64,if_pos (List.all_eq_true.2 fun j hj => hall.out j (by simpa using hj))]] at NT;clear HR hall hin h64 RT;replace E:=E.trans hE;replace B3:=B3.ext hE;have s0:=B2e.c1;have ls:=B2e.lt
    clear hE;obtain ⟨⟨Rn,Rd⟩,Re⟩:=R;go_wp2_with (first | (go_at_call 135;(with_reducible refine Calls.mono (NT) ?_);rintro e wt ⟨rfl,ht⟩;replace E:=E.trans ht;replace B3:=B3.ext ht;have f0:=B3.frozen 0;have f1:=B3.frozen 1;obtain ⟨x0,x1⟩:=B3.c2;have lx:=B3.lt));have H4:=Qm B3 (.int .i64 Rn) (.int .i64 Rd);have EF:=(E.setCell (p:=⟨b3,0,none⟩) hbr (.int .i64 Rn)).setCell (p:=⟨b3,1,none⟩) hbr (.int .i64 Rd);obtain ⟨y0,y1⟩:=H4.c2;go_wp2;refine bodyPost_ret (v:=.tuple #[.agg #[.int .i64 Rn,.int .i64 Rd],.int .i64 Re]) (by simp [results,Tryz.results88,go_sem,y0,y1]) rfl ⟨rfl,EF⟩
theorem Jo {w w' : World} {base size n : Nat} {e : TypeId} {v : Value} {xs : List Value} (h : w.ownsRow base e size v n xs) (x : Qb w w') : w'.ownsRow base e size v n xs:=h.kept (Nr x) (by
 rcases h.2 with ⟨rfl,_⟩ | ⟨g,cap,cur,rfl,_⟩
 ·exact .inl rfl
 ·exact .inr (by simp [Value.ownBlock]))
theorem Qd1 (W : World) (b j : Nat) (v : Value) : W.grownBy (W.setCell ⟨b,j,none⟩ v) (some b) :=
 ⟨rfl,rfl,rfl,(KeepsWalks.setCell W _ v).size,fun k _ hk => Below.heap_setCell _ _ _ k (fun e => hk (by rw [e]))⟩
theorem Bm : (Tryz.prog.info? 85).map (fun i => (i.zero,i.size,i.bytes)) = some (some (.agg #[.string ⟨#[]⟩,.int .i64 0]),2,24):=by kernel_rfl
theorem Qb6 (s : ByteArray) (n : Int) : ∀ u ∈ [Value.string s,.int .i64 n],u.oneCell' = true:=by simp [Value.oneCell']
theorem Uc {w : World} {b : Nat} {t : TypeId} {cs : Array Value} (h : Qa w b t cs) : ∀ j u,cs.toList[j]? = some u → w.cell? ((⟨b,0,none⟩ : Addr).add j) = some u:=fun j u hj => by
 have e : (⟨b,0,none⟩ : Addr).add j = ⟨b,j,none⟩:=by unfold Addr.add;split <;> simp_all
 rw [e,h.cell j]
 simpa using hj
/-- What a step leaves that writes only the box bo and rows of its own from B0 on. -/
structure Xl (B0 bo : Nat) (w w' : World) : Prop where
 ext : ∀ W0 : World,Qb W0 w → W0.heap.size ≤ bo → W0.heap.size ≤ B0 → Qb W0 w'
 held : ∀ b t cs,Qa w b t cs → b ≠ bo → b < B0 → Qa w' b t cs
namespace Xl
variable {B0 bo : Nat} {w w' w'' : World}
theorem refl : Xl B0 bo w w:=⟨fun _ h _ _ => h,fun _ _ _ h _ _ => h⟩
theorem of_ext (x : Qb w w') : Xl B0 bo w w':=⟨fun _ h _ _ => h.trans x,fun _ _ _ h _ _ => h.ext x⟩
theorem trans (h : Xl B0 bo w w') (k : Xl B0 bo w' w'') : Xl B0 bo w w'':=⟨fun W0 h0 h1 h2 => k.ext W0 (h.ext W0 h0 h1 h2) h1 h2,fun b t cs h0 h1 h2 => k.held b t cs (h.held b t cs h0 h1 h2) h1 h2⟩
theorem grown {v : Value} {e : TypeId} {s n : Nat} {xs : List Value} (ho : w.ownsRow B0 e s v n xs) (hg : w.grownBy w' v.ownBlock) : Xl B0 bo w w' :=
 ⟨fun _ h0 _ h2 => h0.grown hg (fun q hq => Nat.le_trans h2 (W4 ho q hq).1),fun b _ _ h _ hb => h.kept hg (fun e => by have:=(W4 ho b e.symm).1;omega)⟩
theorem set (j : Nat) (u : Value) : Xl B0 bo w (w.setCell ⟨bo,j,none⟩ u) :=
 ⟨fun _ h0 h1 _ => h0.setCell (p:=⟨bo,j,none⟩) h1 u,fun _ _ _ h hne _ => Qi h hne j u⟩
end Xl
theorem Qel {W : World} {b : Nat} {t : TypeId} {v0 : Value} (h : Qa W b t #[v0]) (u : Value) : Qa (W.setCell ⟨b,0,none⟩ u) b t #[u]:=by unfold Qa at h ⊢;simp [World.setCell,Array.getElem?_modify,h]
theorem Z9 {W : World} {b : Nat} {t e : TypeId} {cs : Array Value} (h : Qa W b t cs) (hte : t ≠ e) {base size k : Nat} {v : Value} {xs : List Value} (hr : W.ownsRow base e size v k xs) (j : Nat) (u : Value) : (W.setCell ⟨b,j,none⟩ u).ownsRow base e size v k xs :=
 hr.kept (Qd1 W b j u) (.inr (Ne.symm (h.not_row hte hr)))
def J1 (l : Lt) : List Value:=[.string l.g,.int .i64 l.n]
theorem Qg3 (sg : Int) (x y : Lt) (B0 bs bo : Nat) (F : Option Addr) (k cap : Nat) (xs : List Value) (w : World) (HS : Qa w bs 3 #[.int .i64 sg]) (HO : Qa w bo 52 #[.slice F k cap]) (hO : w.ownsRow B0 85 2 (.slice F k cap) k xs) (hk : k ≤ 1000) (_hlen : xs.length = k * 2) (hb0 : B0 ≤ w.heap.size) (hw1 : -9223372036854775808 ≤ sg * y.n) (hw2 : sg * y.n ≤ 9223372036854775807) (hw3 : -9223372036854775808 ≤ x.n + sg * y.n) (hw4 : x.n + sg * y.n ≤ 9223372036854775807) :
  Calls Tryz.prog 113 #[.agg #[.string x.g,.int .i64 x.n],.agg #[.string y.g,.int .i64 y.n],.pointer (some ⟨bs,0,none⟩),.pointer (some ⟨bo,0,none⟩)] w fun e w' => e = .returned (.bool (Xw sg x y)) ∧ Xl B0 bo w w' ∧ (Xw sg x y = true → ∃ F' k' cap',Qa w' bo 52 #[.slice F' k' cap'] ∧ w'.ownsRow B0 85 2 (.slice F' k' cap') k' (xs ++ (Vj sg (x,y)).flatMap J1)):=by
 obtain ⟨i0,hi,hz0,hz1,hz2⟩:=info_parts Bm;obtain ⟨N,hN⟩:=Qg (Kl sg x y);have hm : IntKind.i64.wrap (sg * y.n) = sg * y.n:=Z2 hw1 hw2;have hadd : IntKind.i64.wrap (x.n + sg * y.n) = N:=by rw [hN];exact Z2 hw3 hw4
 have hxs : Hid (xs ++ (Vj sg (x,y)).flatMap J1 = if N = 0 then xs else xs ++ [.string (Ue x y),.int .i64 N]):=by
  unfold Hid Vj J1;rw [hN];by_cases h : Kl sg x y = 0
  ·rw [if_pos h,if_pos h];simp
  ·rw [if_neg h,if_neg h];simp
 have hok : Xw sg x y = !(decide (1099511627776 < N) || decide (N < -1099511627776)):=by rw [hN];rfl
 rw [hok];clear hok hN hw1 hw2 hw3 hw4
 go_enter Tryz.func113,Tryz.ntmps113
 go_upto_region 1 with (fail)
 obtain ⟨v,hv⟩:=Qg ((w.alloc (.cells #[.string x.g,.int .i64 x.n] 85)).alloc (.cells #[.string y.g,.int .i64 y.n] 85));rw [← hv];have E : Qb w v:=by rw [hv];exact ((Qb.refl _).alloc _).alloc _
 have B1 : Qa v w.heap.size 85 #[.string x.g,.int .i64 x.n]:=by rw [hv];exact (Qa.new _ _ _).alloc _
 have B2 : Qa v (w.heap.size + 1) 85 #[.string y.g,.int .i64 y.n]:=by rw [hv];exact Qa.at _ _ _ _ (by simp)
 clear hv;obtain ⟨b2,hb2⟩:=Qg (w.heap.size + 1);rw [← hb2] at B2 ⊢;obtain ⟨b1,hb1⟩:=Qg (w.heap.size);rw [← hb1] at B1 ⊢;have hbr : w.heap.size ≤ b2:=by omega
 have hbr1 : w.heap.size ≤ b1:=by omega
 have hn21 : b2 ≠ b1:=by omega
 clear hb1 hb2;have hrl : ∀ q,(Value.slice F k cap).ownBlock = some q → q < w.heap.size:=fun q h => (hO.lt q h).2
 replace HS:=HS.ext E;replace HO:=HO.ext E;replace hO:=Jo hO E;obtain ⟨p0,p1⟩:=B1.c2;have lp:=B1.lt;obtain ⟨r0,r1⟩:=B2.c2;have lr:=B2.lt;have s0:=HS.c1;have ls:=HS.lt;by_cases g1 : 1099511627776 < N
 ·have d1 : decide (1099511627776 < N) = true:=decide_eq_true g1;clear g1;go_wp2;go_ret;exact ⟨Jd (by rw [d1];rfl),.of_ext E,fun h => by rw [d1] at h;cases h⟩
 ·have d1 : decide (1099511627776 < N) = false:=decide_eq_false g1;by_cases g2 : N < -1099511627776
  ·have d2 : decide (N < -1099511627776) = true:=decide_eq_true g2;clear g1 g2;go_wp2;go_ret;exact ⟨Jd (by rw [d1,d2];rfl),.of_ext E,fun h => by rw [d1,d2] at h;cases h⟩
  ·have d2 : decide (N < -1099511627776) = false:=decide_eq_false g2;clear g1 g2;by_cases g3 : N = 0
   ·subst g3;go_wp2;go_ret;refine ⟨rfl,.of_ext E,?_⟩;exact ⟨_,_,_,HO,by rw [hxs.out,if_pos trivial];exact hO⟩
   ·have d3 : (N == 0) = false := beq_eq_false_iff_ne.2 g3;have d3n : (N != 0) = true := by rw [bne, d3]; rfl
    rw [if_neg g3] at hxs;clear g3;go_upto_region 5 with (fail)
    clear p0 p1 lp r0 r1 lr s0 ls;refine Zb 9 [8] (fun u => Qa u bo 52 #[.slice F k cap] ∧ Qa u b1 85 #[.string x.g,.int .i64 x.n] ∧ Qa u b2 85 #[.string y.g,.int .i64 y.n]) Qo rfl ?_;intro vz hvz;have HC:=hvz;replace HO:=HO.ext hvz;replace B1:=B1.ext hvz;replace B2:=B2.ext hvz;refine Qs (g:=5) [0,1,2,4] [_,_,_,_] ⟨rfl,rfl,rfl,rfl,trivial⟩ (by kernel_rfl) (by kernel_rfl) ⟨HO,B1,B2⟩ ?_;simp only [Qc,Qd,Qe];apply Exists.intro;refine ⟨fun u hu => ?_,?_⟩
    ·have o0:=hu.1.c1;have lo:=hu.1.lt;obtain ⟨p0,p1⟩:=hu.2.1.c2;have lp:=hu.2.1.lt;obtain ⟨r0,r1⟩:=hu.2.2.c2;have lr:=hu.2.2.lt;repeat (first | go_big_quiet_skip | (go_big_quiet_want;go_big_quiet_op;go_big_quiet_on))
     refine wpQuiet_nil ?_;rfl
    refine Ql 3 rfl (by kernel_rfl) ?_;simp only [Qc,Qd,Qe];go_wp2_with (go_at_call 114;(with_reducible refine Calls.mono (Qf2 x y _) ?_);rintro e wa ⟨rfl,h4⟩);replace HC:=HC.trans h4;replace HO:=HO.ext h4;replace B1:=B1.ext h4;replace B2:=B2.ext h4;clear h4;refine Qh ⟨HO,B1,B2⟩ ?_;refine Qs (g:=3) [5] [_] ⟨rfl,trivial⟩ (by kernel_rfl) (by kernel_rfl) ⟨HO,B1,B2⟩ ?_;simp only [Qc,Qd,Qe];apply Exists.intro;refine ⟨fun u hu => ?_,?_⟩
    ·have o0:=hu.1.c1;have lo:=hu.1.lt;obtain ⟨p0,p1⟩:=hu.2.1.c2;have lp:=hu.2.1.lt;obtain ⟨r0,r1⟩:=hu.2.2.c2;have lr:=hu.2.2.lt;repeat (first | go_big_quiet_skip | (go_big_quiet_want;go_big_quiet_op;go_big_quiet_on))
     refine wpQuiet_nil ?_;rfl
    refine Ql 6 rfl (by kernel_rfl) ?_;simp only [Qc,Qd,Qe];go_wp2;obtain ⟨bq,wb,hbq,hwb,Q6,HC',hx,hge⟩:=Qn HC 85 #[.string (Ue x y),.int .i64 N];rw [← hbq,← hwb];clear hbq hwb;replace HC:=HC';replace HO:=HO.ext hx;replace B1:=B1.ext hx;replace B2:=B2.ext hx;clear hx HC';refine Qh ⟨HO,B1,B2⟩ ?_;refine Ql 7 rfl (by kernel_rfl) ?_;simp only [Qc,Qd,Qe];go_wp2_with (at_builtin;refine wpList_append_own_at _ rfl _ _ 52 rfl B0 85 i0 (.agg #[.string ⟨#[]⟩,.int .i64 0]) 2 24 Tryz.underlying52 hi hz0 hz1 hz2 rfl (by decide) _ _ _ rfl (Jo hO HC) ⟨bq,0,none⟩ 1 1 [.string (Ue x y),.int .i64 N] rfl rfl (Uc Q6) (Qb6 _ _) (by unfold maxLen;omega) (by omega) (by have:=HC.size;have:=E.size;omega) ?_;intro vn wn hown hgrow _ _)
    obtain ⟨Fn,mn,rfl⟩:=Ya hown;replace B1:=B1.kept hgrow (fun e => by have:=hrl b1 e.symm;omega);replace B2:=B2.kept hgrow (fun e => by have:=hrl b2 e.symm;omega);replace HO:=HO.kept hgrow (HO.not_row (by decide) (Jo hO HC));have HP:=(Xl.of_ext (E.trans HC)).trans (Xl.grown (bo:=bo) (Jo hO HC) hgrow);clear hgrow Q6;refine Qh ⟨HO,B1,B2⟩ ?_;refine Qr 8 rfl (by kernel_rfl) ?_;simp only [Qc,Qd,Qe];have z0:=HO.frozen 0;have o0:=HO.c1;have lo:=HO.lt;go_wp2;have HP2:=HP.trans (Xl.set 0 (.slice Fn (k + 1) mn));have HO2:=Qel HO (.slice Fn (k + 1) mn);have hown2:=Z9 HO (by decide) hown 0 (.slice Fn (k + 1) mn);clear HP hown HO B1 B2
    generalize World.setCell _ _ _ = wq at *;clear z0 o0 lo;refine Qq ?_;refine Qv (by kernel_rfl) ?_;go_wp2;go_ret;refine ⟨Jd (by rw [d1,d2];rfl),HP2,fun _ => ?_⟩;exact ⟨_,_,_,HO2,by rw [hxs.out];exact hown2⟩
end
end Go.Proofs.YtoflcheopfppoaaGreatDoor
