/- Walks and plain facts, packed; no conditions but those that each states. -/
import Derived.Test.YtoflcheopfppoaaGreatDoorH2
import Derived.Test.YtoflcheopfppoaaGreatDoorShelf
import Derived.RangeFuncBox
import Derived.Laws.OwnMore
import Derived.Deep.Onto
import Derived.Maps.AppendAt
import Derived.Laws.Append
set_option maxRecDepth 100000
set_option maxHeartbeats 4000000
namespace Go.Proofs.YtoflcheopfppoaaGreatDoor
section
open Go Go.RowKit
attribute [local go_sem] Zu
theorem Cf (a b : Nat) (hb : b < 18446744073709551616) (w : World) : Calls Tryz.prog 161 #[.int .u64 (a : Int),.int .u64 (b : Int)] w fun e w' => e = .returned (.int .u64 (Nat.gcd a b : Int)) ∧ Qc w w':=by
 obtain ⟨G,hG⟩:=Qf (Nat.gcd a b);rw [← hG];have HG:=zh hG;clear hG
 go_enter Tryz.func161,Tryz.ntmps161
 go_wp2
 go_loopw [0,1] (fun av bv wr => ∃ a b : Nat,av = .int .u64 (a : Int) ∧ bv = .int .u64 (b : Int) ∧ Hid (G = Nat.gcd a b) ∧ b < 18446744073709551616 ∧ Qc w wr) (fun _ bv _ => (intOf bv).toNat)
 case atStart => exact ⟨a,b,rfl,rfl,HG,hb,Qc.refl _⟩
 case round =>
  clear HG hb;obtain ⟨x,y,rfl,rfl,hG,hy,hE⟩:=hrel;obtain ⟨wo,rfl⟩:=Qf wr;by_cases h0 : y = 0
  ·subst h0;go_wp2;go_ret;exact ⟨by rw [hG.out];simp,hE⟩
  ·have h0b : ((y : Int) != 0) = true := by rw [bne, zb Qb]; rfl
   have h0c : ((y : Int) == 0) = false:=zb Qb;go_upto_region 2 with fail
   refine Zj wo ?_;intro wn hwn;obtain ⟨_,_,_,_⟩:=Zi wo hwn;have hlt : x % y < y:=Nat.mod_lt _ Qb;go_wp2;exact ⟨⟨y,x % y,rfl,by simp,by unfold Hid;rw [hG.out,Nat.gcd_comm x y,Nat.gcd_rec];exact Nat.gcd_comm _ _,Qb,hE.trans hwn⟩,zi⟩
theorem Vb (n : Int) (h1 : -9223372036854775808 ≤ n) (h2 : n ≤ 9223372036854775807) (w : World) : Calls Tryz.prog 162 #[.int .i64 n] w fun e w' => e = .returned (.int .u64 (n.natAbs : Int)) ∧ Qc w w':=by
 by_cases h : n < 0
 ·have hb : decide (n < 0) = true:=zt h
  go_enter Tryz.func162,Tryz.ntmps162
  go_wp2;go_ret;refine ⟨?_,Qq⟩
  simp
  omega
 ·have hb : decide (n < 0) = false:=zf h
  go_enter Tryz.func162,Tryz.ntmps162
  go_wp2;go_ret;refine ⟨?_,Qq⟩
  simp
  omega
set_option maxHeartbeats 2000000 in
theorem U4 (n d : Int) (h1 : -9223372036854775808 ≤ n) (h2 : n ≤ 9223372036854775807) (h3 : -9223372036854775808 ≤ d) (h4 : d ≤ 9223372036854775807) (w : World) :
  Calls Tryz.prog 121 #[.agg #[.int .i64 n,.int .i64 d]] w fun e w' => e = .returned (.bool (Rt.ok ⟨n,d⟩)) ∧ Qc w w':=by
 have N1:=fun w => Vb n h1 h2 w
 have N2:=fun w => Vb d h3 h4 w
 have N3:=fun w => Cf n.natAbs d.natAbs Qb w
 have HR : Hid (Rt.ok ⟨n,d⟩ = (decide (1 ≤ d) && decide (d ≤ 1048576) && decide (-1099511627776 ≤ n) && decide (n ≤ 1099511627776) && decide (Nat.gcd n.natAbs d.natAbs = 1))):=rfl;generalize Rt.ok ⟨n,d⟩ = r at *;clear h1 h2 h3 h4;by_cases a1 : 1 ≤ d;rotate_left
 ·rw [zf a1] at HR;simp only [Bool.false_and] at HR;have a1b : decide (1 ≤ d) = false:=zf a1
  go_enter Tryz.func121,Tryz.ntmps121
  go_upto_region 1 with fail
  obtain ⟨v,hv⟩:=Qf (w.alloc (.cells #[.int .i64 n,.int .i64 d] 65));rw [← hv];have E : Qc w v:=by rw [hv];exact (Qc.refl _).alloc _
  have B1 : Qa v w.heap.size 65 #[.int .i64 n,.int .i64 d]:=by rw [hv];exact Qa.new _ _ _
  clear hv;generalize w.heap.size = b1 at *;obtain ⟨k0,k1,lk⟩:=Qa.d2 B1;have m1:=fun x1 => N1 x1
  have m2:=fun x1 => N2 x1
  have m3:=fun x1 => N3 x1
  refine Zj v ?_;intro w2 h;clear m1 m2 m3;obtain ⟨hcbw2,hfbw2,hzbw2,hzw2⟩:=Zi v h;go_wp2;go_ret;exact ⟨by rw [HR.out];rfl,E.trans h⟩
 have a1b : decide (1 ≤ d) = true:=zt a1;rw [a1b] at HR;by_cases a2 : d ≤ 1048576;rotate_left
 ·rw [zf a2] at HR;simp only [Bool.and_false,Bool.false_and] at HR;have a2b : decide (d ≤ 1048576) = false:=zf a2
  go_enter Tryz.func121,Tryz.ntmps121
  go_upto_region 1 with fail
  obtain ⟨v,hv⟩:=Qf (w.alloc (.cells #[.int .i64 n,.int .i64 d] 65));rw [← hv];have E : Qc w v:=by rw [hv];exact (Qc.refl _).alloc _
  have B1 : Qa v w.heap.size 65 #[.int .i64 n,.int .i64 d]:=by rw [hv];exact Qa.new _ _ _
  clear hv;generalize w.heap.size = b1 at *;obtain ⟨k0,k1,lk⟩:=Qa.d2 B1;have m1:=fun x1 => N1 x1
  have m2:=fun x1 => N2 x1
  have m3:=fun x1 => N3 x1
  refine Zj v ?_;intro w2 h;clear m1 m2 m3;obtain ⟨hcbw2,hfbw2,hzbw2,hzw2⟩:=Zi v h;go_wp2;go_ret;exact ⟨by rw [HR.out];rfl,E.trans h⟩
 have a2b : decide (d ≤ 1048576) = true:=zt a2;rw [a2b] at HR;by_cases a3 : -1099511627776 ≤ n;rotate_left
 ·rw [zf a3] at HR;simp only [Bool.and_false,Bool.false_and] at HR;have a3b : decide (-1099511627776 ≤ n) = false:=zf a3
  go_enter Tryz.func121,Tryz.ntmps121
  go_upto_region 1 with fail
  obtain ⟨v,hv⟩:=Qf (w.alloc (.cells #[.int .i64 n,.int .i64 d] 65));rw [← hv];have E : Qc w v:=by rw [hv];exact (Qc.refl _).alloc _
  have B1 : Qa v w.heap.size 65 #[.int .i64 n,.int .i64 d]:=by rw [hv];exact Qa.new _ _ _
  clear hv;generalize w.heap.size = b1 at *;obtain ⟨k0,k1,lk⟩:=Qa.d2 B1;have m1:=fun x1 => N1 x1
  have m2:=fun x1 => N2 x1
  have m3:=fun x1 => N3 x1
  refine Zj v ?_;intro w2 h;clear m1 m2 m3;obtain ⟨hcbw2,hfbw2,hzbw2,hzw2⟩:=Zi v h;go_wp2;go_ret;exact ⟨by rw [HR.out];rfl,E.trans h⟩
 have a3b : decide (-1099511627776 ≤ n) = true:=zt a3;rw [a3b] at HR;by_cases a4 : n ≤ 1099511627776;rotate_left
 ·rw [zf a4] at HR;simp only [Bool.and_false,Bool.false_and] at HR;have a4b : decide (n ≤ 1099511627776) = false:=zf a4
  go_enter Tryz.func121,Tryz.ntmps121
  go_upto_region 1 with fail
  obtain ⟨v,hv⟩:=Qf (w.alloc (.cells #[.int .i64 n,.int .i64 d] 65));rw [← hv];have E : Qc w v:=by rw [hv];exact (Qc.refl _).alloc _
  have B1 : Qa v w.heap.size 65 #[.int .i64 n,.int .i64 d]:=by rw [hv];exact Qa.new _ _ _
  clear hv;generalize w.heap.size = b1 at *;obtain ⟨k0,k1,lk⟩:=Qa.d2 B1;have m1:=fun x1 => N1 x1
  have m2:=fun x1 => N2 x1
  have m3:=fun x1 => N3 x1
  refine Zj v ?_;intro w2 h;clear m1 m2 m3;obtain ⟨hcbw2,hfbw2,hzbw2,hzw2⟩:=Zi v h;go_wp2;go_ret;exact ⟨by rw [HR.out];rfl,E.trans h⟩
 have a4b : decide (n ≤ 1099511627776) = true:=zt a4;rw [a4b] at HR;simp only [Bool.true_and] at HR;by_cases hg : Nat.gcd n.natAbs d.natAbs = 1
 ·rw [zt hg] at HR;rw [hg] at N3
  go_enter Tryz.func121,Tryz.ntmps121
  go_upto_region 1 with fail
  obtain ⟨v,hv⟩:=Qf (w.alloc (.cells #[.int .i64 n,.int .i64 d] 65));rw [← hv];have E : Qc w v:=by rw [hv];exact (Qc.refl _).alloc _
  have B1 : Qa v w.heap.size 65 #[.int .i64 n,.int .i64 d]:=by rw [hv];exact Qa.new _ _ _
  clear hv;generalize w.heap.size = b1 at *;obtain ⟨k0,k1,lk⟩:=Qa.d2 B1;have m1:=fun x1 => N1 x1
  have m2:=fun x1 => N2 x1
  have m3:=fun x1 => N3 x1
  refine Zj v ?_;intro w2 h;clear m1 m2 m3;obtain ⟨hcbw2,hfbw2,hzbw2,hzw2⟩:=Zi v h;go_wp2;go_ret;exact ⟨by rw [HR.out];rfl,E.trans h⟩
 ·rw [zf hg] at HR;have hgb : (((Nat.gcd n.natAbs d.natAbs : Nat) : Int) == 1) = false:=zb Qb;generalize Nat.gcd n.natAbs d.natAbs = gg at *
  go_enter Tryz.func121,Tryz.ntmps121
  go_upto_region 1 with fail
  obtain ⟨v,hv⟩:=Qf (w.alloc (.cells #[.int .i64 n,.int .i64 d] 65));rw [← hv];have E : Qc w v:=by rw [hv];exact (Qc.refl _).alloc _
  have B1 : Qa v w.heap.size 65 #[.int .i64 n,.int .i64 d]:=by rw [hv];exact Qa.new _ _ _
  clear hv;generalize w.heap.size = b1 at *;obtain ⟨k0,k1,lk⟩:=Qa.d2 B1;have m1:=fun x1 => N1 x1
  have m2:=fun x1 => N2 x1
  have m3:=fun x1 => N3 x1
  refine Zj v ?_;intro w2 h;clear m1 m2 m3;obtain ⟨hcbw2,hfbw2,hzbw2,hzw2⟩:=Zi v h;go_wp2;go_ret;exact ⟨by rw [HR.out];rfl,E.trans h⟩
end
section
open Go Go.RowKit Go.Shelf
attribute [local go_sem] Zu
theorem Ir (x y : Nat) (hx : x < 18446744073709551616) (hy : y < 18446744073709551616) (w : World) :
  Calls Tryz.prog 189 #[.int .u64 x,.int .u64 y] w fun e w' => e = .returned (.tuple #[.int .u64 ((x * y / 18446744073709551616 : Nat) : Int),.int .u64 ((x * y % 18446744073709551616 : Nat) : Int)]) ∧ w = w' :=
 (Tryz.bits_Mul64 x y hx hy w).mono fun _ _ ⟨h1,h2⟩ => ⟨h1,h2.symm⟩
set_option maxHeartbeats 2000000 in
theorem Qck (A : OA) (n ca : Nat) (f : Nat → Nat) (M : Nat) (hM : M < 18446744073709551616) (hM1 : 1 ≤ M) (hf : ∀ i,i < n → 1 ≤ f i) (hf2 : ∀ i,i < n → f i < 18446744073709551616) (w : World) (hA : Qo w A n 1 (fun i => [.int .u64 (f i : Int)])) (hn : n ≤ 9223372036854775807) :
  Calls Tryz.prog 187 #[.slice A n ca,.int .u64 (M : Int)] w fun e w' => e = .returned (.tuple #[.int .u64 (((if upTo f n ≤ M then upTo f n else 0) : Nat) : Int),.bool (decide (upTo f n ≤ M))]) ∧ Qc w w':=by
 obtain ⟨R,hR⟩ : ∃ R : Nat × Bool,R = (if upTo f n ≤ M then upTo f n else 0,decide (upTo f n ≤ M)):=⟨_,rfl⟩;have HR:=zh hR;rw [show (if upTo f n ≤ M then upTo f n else 0) = R.1 by rw [hR],show decide (upTo f n ≤ M) = R.2 by rw [hR]];clear hR;obtain ⟨r1,r2⟩:=R
 go_enter Tryz.func187,Tryz.ntmps187
 go_wp2
 go_loopw [6,13] (fun p i wr => ∃ k : Nat,k ≤ n ∧ i = .int .i64 k ∧ ∃ q : Nat,p = .int .u64 (q : Int) ∧ Hid (q = upTo f k) ∧ q ≤ M ∧ Qc w wr) (fun _ i _ => n - (intOf i).toNat)
 case atStart => exact ⟨0,Nat.zero_le _,rfl,1,rfl,rfl,hM1,Qc.refl _⟩
 case round =>
  obtain ⟨k,hk,rfl,q,rfl,hq,hqM,hE⟩:=hrel;obtain ⟨wo,rfl⟩:=Qf wr;obtain ⟨hcwo,hfwo,hzwo⟩:=Qc.rules hE;try simp only [World.size_alloc] at hzwo
  obtain ⟨hcbwo,hfbwo,hzbwo⟩:=Qc.rules (show Qc w wo from Qq);clear hcwo hfwo;by_cases hlt : k < n
  ·obtain ⟨b, off, rfl, hb, hc⟩ := hA Qb;have c0 : w.cell? ⟨b, off + k, none⟩ = some (.int .u64 (f k : Int)) := by simpa using hc k 0 _ hlt rfl
   have F1:=hf k hlt;have F2:=hf2 k hlt;have hs : Hid (upTo f (k + 1) = q * f k):=by unfold Hid;rw [hq.out];rfl
   have hmn:=Ql0 hf (k + 1) n Qb (Nat.le_refl _);have NM:=fun w => Ir q (f k) Qb F2 w
   have HM:=zh hmn;clear hmn hf hf2 hc hA;generalize f k = x at *;generalize q * x = z at *;go_upto_region 6 with (go_at_call 189;refine zc (NM _) ?_;rintro e w' ⟨rfl,rfl⟩)
   by_cases hbig : z ≤ M
   ·have d1 : (z : Int) / 18446744073709551616 = 0:=Qb;have d2 : (z : Int) % 18446744073709551616 = z:=Qb;simp only [d1,d2];clear d1 d2;have g1 : decide ((M : Int) < (z : Int)) = false:=zf Qb;go_wp2;exact ⟨⟨k + 1,Qb,by go_num,z,rfl,hs.out.symm,hbig,Qq⟩,zi⟩
   ·have hno : ¬ upTo f n ≤ M:=by
     have:=HM.out;rw [hs.out] at this;omega
    have hr:=HR.out;rw [if_neg hno,zf hno] at hr;obtain ⟨rfl,rfl⟩:=Prod.mk.inj hr;clear hr hno HR HM hs hq;by_cases hh : (z : Int) / 18446744073709551616 = 0
    ·have d2 : (z : Int) % 18446744073709551616 = z:=Qb;simp only [hh,d2];clear hh d2;have g1 : decide ((M : Int) < (z : Int)) = true:=zt Qb;go_wp2;go_ret2;exact ⟨rfl,Qq⟩
    ·have g0 : (((z : Int) / 18446744073709551616) != 0) = true := by rw [bne, zb hh]; rfl
     clear hh;generalize (z : Int) / 18446744073709551616 = zh at *;generalize (z : Int) % 18446744073709551616 = zl at *;go_wp2;go_ret2;exact ⟨rfl,Qq⟩
  ·obtain rfl : k = n:=Qb;go_wp2;go_ret2;have hr:=HR.out;rw [← hq.out,if_pos hqM,zt hqM] at hr;obtain ⟨rfl,rfl⟩:=Prod.mk.inj hr;exact ⟨rfl,Qq⟩
end
section
open Go Go.RowKit
section
variable {P : Program} {ops : Array Oper} {md : Region.Mode} {C : World → Prop}
theorem Qmm {Q Q' : Exit → Act → World → Prop} (hQ : ∀ e a w,e ≠ .normal → Q e a w → Q' e a w) {o : Oper} {a : Act} {w : World} {K K' : Act → World → Prop} (h : ∀ a w,K a w → K' a w)
  (hh : o.wp P a w K Q) : o.wp P a w K' Q':=by
 have hL : LetsOut Q → LetsOut Q':=fun ⟨a,w,h⟩ => ⟨a,w,hQ _ _ _ (by simp) h⟩
 unfold Oper.wp at *;generalize (execOp a.eval o).run P w = r at *
 cases r with
 | ok n w' =>
  cases n <;> simp only [Oper.upon] at hh ⊢ <;>
   first
    | exact h _ _ hh
    | exact Calls.mono hh (fun e w'' he => by cases e <;> first | exact h _ _ he | exact hL he | exact hQ _ _ _ (by simp) he)
    | exact Rows.mono hh (fun _ _ he => h _ _ he)
    | exact hh
 | halt x w' => cases x <;> simp only [Oper.upon] at hh ⊢ <;> first | exact hQ _ _ _ (by simp) hh | exact hh
end
def Zx (R : Act → World → Prop) : Exit → Act → World → Prop
 | .normal,a,w => R a w
 | _,_,_ => False
section
variable {P : Program} {ops : Array Oper} {md : Region.Mode} {C : World → Prop}
theorem Qjr {R : Act → World → Prop} {Q : Exit → Act → World → Prop} {e : Exit} {a : Act} {w : World} (he : e ≠ .normal) (h : Zx R e a w) : Q e a w:=by
 cases e <;> first | exact absurd rfl he | exact False.elim h
theorem S2 {R : Act → World → Prop} (h : LetsOut (Zx R)) : False:=by
 obtain ⟨_,_,h⟩:=h;exact h
theorem Qe {S : Act → World → Prop} {a : Act} {w : World} (h1 : C w) (h2 : S a w) : Zx (fun a' w' => C w' ∧ S a' w') .normal a w:=⟨h1,h2⟩
def Wp (P : Program) (ops : Array Oper) (C : World → Prop) (o : Oper) (v : Value) (a : Act) : Prop :=
 Region.wanted o (yielded ops a.tmps) = true ∧ ∀ w,C w → o.quietAt P a (fun w' => w' = w) w v
theorem Wp.wpOp {i : Nat} {o : Oper} {v : Value} {a : Act} (hi : ops[i]? = some o) (hy : Wp P ops C o v a) {Q : Exit → Act → World → Prop} {K : Act → World → Prop} {w : World} (hw : C w) (h : K (a.put o.dst v) w) : wpOp P ops Q i K a w:=by
 unfold Go.wpOp;simp only [hi,hy.1,if_true];refine .inl (Oper.wp_of_quiet (C:=fun w' => w' = w) (K:=fun a' => a' = a.put o.dst v) rfl (fun a' w' h1 h2 => by rw [h1,h2];exact h) ⟨v,fun w' h1 => by rw [h1];exact hy.2 w hw,rfl⟩)
theorem Wn {i : Nat} {o : Oper} {R : Act → World → Prop} {a : Act} {w : World} (hi : ops[i]? = some o) (h : wpList P ops (Zx R) [o] a w) : wpOp P ops (Zx R) i R a w:=by
 unfold Go.wpOp;simp only [hi];unfold wpList at h;by_cases hw : Region.wanted o (yielded ops a.tmps) = true
 ·rw [if_pos hw] at h ⊢;exact h.imp (Oper.wp_mono fun _ _ h => h) id
 ·rw [if_neg hw] at h ⊢;exact h
theorem Wb {i : Nat} {R : Act → World → Prop} {Q : Exit → Act → World → Prop} {K : Act → World → Prop} {a : Act} {w : World} (h : wpOp P ops (Zx R) i K a w) : wpOp P ops Q i K a w:=by
 unfold Go.wpOp at *
 split
 ·rename_i ho;simp only [ho] at h;exact h
 ·rename_i o ho
  simp only [ho] at h
  split
  ·rename_i hw
   rw [if_pos hw] at h;exact h.imp (Qmm (fun _ _ _ he h => Qjr he h) fun _ _ h => h) fun hl => (S2 hl.2).elim
  ·rename_i hw;rw [if_neg hw] at h;exact h
theorem Dc {j : Nat} {oi oj : Oper} {v : Value} (hj : ops[j]? = some oj) (hap : oi.apart ops oj = true)
  (hsi : ∀ cs b,oi.op ≠ .select cs b) (hsj : ∀ cs b,oj.op ≠ .select cs b) {K R : Act → World → Prop} {Q : Exit → Act → World → Prop} {a : Act} {w : World}
  (hy : Wp P ops C oi v a) (h : wpOp P ops (Zx R) j K (a.put oi.dst v) w) :
  wpOp P ops Q j (fun a' w' => Wp P ops C oi v a' ∧ K (a'.put oi.dst v) w') a w:=by
 obtain ⟨h1,h2,h3⟩:=Oper.apart_spec hap
 have keep : ∀ (a : Act),Wp P ops C oi v a → ∀ u,Wp P ops C oi v (a.put oj.dst u):=fun a hy u => by
  refine ⟨by rw [wanted_put oi a oj.dst u h3];exact hy.1,fun w hw => ?_⟩;have:=hy.2 w hw;unfold Oper.quietAt at *;rw [execOp_put oi hsi a oj.dst u h3];exact this
 have keepD : ∀ d,Wp P ops C oi v { a with defers:=d :: a.defers }:=fun d => ⟨hy.1,fun w hw => hy.2 w hw⟩
 unfold Go.wpOp at *;simp only [hj] at *;rw [wanted_put oj a oi.dst v h1] at h
 split
 ·rename_i hw
  rw [if_pos hw] at h;rcases h with h | hl
  case inr => exact (S2 hl.2).elim
  refine .inl ?_;unfold Oper.wp at *;rw [execOp_put oj hsj a oi.dst v h1] at h;generalize (execOp a.eval oj).run P w = r at *
  cases r with
  | ok n w' =>
   cases n <;> simp only [Oper.upon] at h ⊢
   case value u => exact ⟨keep a hy u,by rw [← Act.put_comm a v u h2];exact h⟩
   case skip => exact ⟨keep a hy _,by rw [← Act.put_comm a v undef h2];exact h⟩
   case defer d =>
    refine ⟨keep _ (keepD d) _,?_⟩;rw [← Act.put_comm _ v undef h2,← Act.put_defers];exact h
   case enter f args =>
    refine Calls.mono h fun e w'' he => ?_
    cases e with
    | returned u => exact ⟨keep a hy u,by rw [← Act.put_comm a v u h2];exact he⟩
    | panicked c => exact False.elim he
    | outgrown => exact (S2 he).elim
   case row row args => exact Rows.mono h fun u w'' he => ⟨keep a hy u,by rw [← Act.put_comm a v u h2];exact he⟩
  | halt x w' =>
   cases x <;> simp only [Oper.upon] at h ⊢
   case panic u => exact False.elim h
 ·rename_i hw
  rw [if_neg hw] at h;exact ⟨keep a hy _,by rw [← Act.put_comm a v undef h2];exact h⟩
/-! ### The orders -/
end
section
variable {P : Program} {ops : Array Oper} {md : Region.Mode} {C : World → Prop}
def Yy (P : Program) (md : Region.Mode) (ops : Array Oper) (C : World → Prop) (R : Act → World → Prop) : Nat → Array Bool → Act → World → Prop
 | 0,L,a,w => Region.ready md ops L = [] ∧ R a w
 | f + 1,L,a,w => (Region.ready md ops L = [] → R a w) ∧ ∀ i ∈ Region.ready md ops L,wpOp P ops (Zx fun _ _ => False) i (fun a' w' => C w' ∧ Yy P md ops C R f (L.setIfInBounds i true) a' w') a w
theorem Qcs {i : Nat} {Q : Exit → Act → World → Prop} {K : Act → World → Prop} {a : Act} {w : World} (h : wpOp P ops (Zx fun _ _ => False) i K a w) : wpOp P ops Q i K a w:=Wb h
theorem P7 {R : Act → World → Prop} : ∀ (f : Nat) (L : Array Bool) (a : Act) (w : World),Yy P md ops C R f L a w → wpAny P md ops (Zx R) f L a w
 | 0,_,_,_,h => h
 | f + 1,_,_,_,h => ⟨h.1,fun i hi => wpOp_mono (fun a' w' h' => P7 f _ a' w' h'.2) (Qcs (h.2 i hi))⟩
theorem Qcm {R : Act → World → Prop} {i : Nat} {oi : Oper} {v : Value} (hi : ops[i]? = some oi) (hsel : ∀ (j : Nat) (o : Oper) cs b,ops[j]? = some o → o.op ≠ .select cs b) :
  ∀ (f : Nat) (L : Array Bool) (a : Act) (w : World),
   (∀ j oj,ops[j]? = some oj → j ≠ i → L.getD j true = false → (∀ e ∈ oj.after,Region.binds md e = true → e.on ≠ i) → oi.apart ops oj = true) →
   i ∈ Region.ready md ops L → C w → Wp P ops C oi v a →
   Yy P md ops C R f (L.setIfInBounds i true) (a.put oi.dst v) w → Yy P md ops C R (f + 1) L a w:=by
 intro f
 induction f with
 | zero =>
  intro L a w _ hr hw hy H;refine ⟨fun h => (by rw [h] at hr;cases hr),fun j hj => ?_⟩;by_cases hji : j = i
  ·subst hji;exact hy.wpOp hi hw ⟨hw,H⟩
  ·have:=ready_mono hj hji;rw [H.1] at this
   cases this
 | succ f ih =>
  intro L a w hfree hr hw hy H;refine ⟨fun h => (by rw [h] at hr;cases hr),fun j hj => ?_⟩;by_cases hji : j = i
  ·subst hji;exact hy.wpOp hi hw ⟨hw,H⟩
  ·have h1:=H.2 j (ready_mono hj hji);obtain ⟨hjun,oj,hoj,hall⟩:=mem_ready.1 hj
   have hnot : ∀ e ∈ oj.after,Region.binds md e = true → e.on ≠ i:=fun e he hb heq => by
    have h1:=hall e he hb;rw [heq,getD_both (mem_ready.1 hr).1] at h1;cases h1
   have h2:=Dc (Q:=Zx fun _ _ => False) hoj (hfree j oj hoj hji hjun hnot) (fun cs b => hsel i oi cs b hi) (fun cs b => hsel j oj cs b hoj) hy h1
   have hfree' : ∀ k ok,ops[k]? = some ok → k ≠ i → (L.setIfInBounds j true).getD k true = false → (∀ e ∈ ok.after,Region.binds md e = true → e.on ≠ i) → oi.apart ops ok = true:=fun k ok hk hki hun hno => by
    refine hfree k ok hk hki ?_ hno;by_cases hjk : j = k
    ·subst hjk;exact hjun
    ·rw [getD_set_ne true hjk] at hun;exact hun
   refine wpOp_mono (fun a' w' h3 => ⟨h3.2.1,ih (L.setIfInBounds j true) a' w' hfree' (ready_mono hr (Ne.symm hji)) h3.2.1 h3.1 ?_⟩) h2;rw [Array.setIfInBounds_comm _ _ hji];exact h3.2.2
/-! ### The values of the operations that leave the world -/
def Yb : List Oper → Bool
 | [] => true
 | o :: l => o.guard.isNone && (match o.dst with | some d => l.all fun q => q.dst != some d | none => false) && Yb l
theorem G4 {A : Act} {w : World} {d : Tmp} : ∀ (l : List Oper) (a : Act),(l.all fun q => q.dst != some d) = true → wpQuiet P ops (fun w' => w' = w) (fun a' => a' = A) l a → A.tmps[d]? = a.tmps[d]?
 | [],a,_,h => by
  have h : a = A:=h
  rw [h]
 | o :: l,a,hd,h => by
  simp only [List.all_cons,Bool.and_eq_true,bne_iff_ne,ne_eq] at hd
  have keep : ∀ v,(a.put o.dst v).tmps[d]? = a.tmps[d]?:=fun v => by
   cases ho : o.dst with
   | none => rfl
   | some e =>
    have hne : e ≠ d:=fun he => hd.1 (by rw [ho,he])
    simp [Act.put,Array.getElem?_setIfInBounds_ne hne]
  unfold wpQuiet at h
  split at h
  ·obtain ⟨v,_,h2⟩:=h;rw [G4 l _ hd.2 h2,keep]
  ·rw [G4 l _ hd.2 h,keep]
theorem Qll {W : World} {A : Act} {o : Oper} {l : List Oper} {a : Act} (hb : Yb (o :: l) = true) (hz : ∀ d,o.dst = some d → d < a.tmps.size) (h : ∀ u : XW W,wpQuiet P ops (fun w' => w' = u.w) (fun a' => a' = A) (o :: l) a) :
  ∃ v,Wp P ops (Qc W) o v a ∧ ∀ u : XW W,wpQuiet P ops (fun w' => w' = u.w) (fun a' => a' = A) l (a.put o.dst v):=by
 simp only [Yb,Bool.and_eq_true] at hb;obtain ⟨⟨hg,hd⟩,_⟩:=hb
 cases ho : o.dst with
 | none => rw [ho] at hd;cases hd
 | some d =>
  rw [ho] at hd
  have hw : Region.wanted o (yielded ops a.tmps) = true:=by
   unfold Region.wanted
   cases hgo : o.guard with
   | none => rfl
   | some g => rw [hgo] at hg;cases hg
  have each : ∀ u : XW W,∃ v,o.quietAt P a (fun w' => w' = u.w) u.w v ∧ A.tmps[d]? = some v ∧ wpQuiet P ops (fun w' => w' = u.w) (fun a' => a' = A) l (a.put (some d) v):=fun u => by
   have h1:=h u;unfold wpQuiet at h1;rw [if_pos hw] at h1;obtain ⟨v,h2,h3⟩:=h1;rw [ho] at h3;refine ⟨v,h2 _ rfl,?_,h3⟩;rw [G4 l _ hd h3];simp [Act.put,hz d ho]
  obtain ⟨v,_,hv,_⟩:=each ⟨W,Qc.refl W⟩;refine ⟨v,⟨hw,fun w' e => ?_⟩,fun u => ?_⟩
  ·obtain ⟨v',h1,h2,_⟩:=each ⟨w',e⟩;rw [hv] at h2;rw [Option.some.inj h2];exact h1
  ·obtain ⟨v',_,h2,h3⟩:=each u;rw [hv] at h2;rw [Option.some.inj h2];exact h3
end
section
variable {P : Program} {ops : Array Oper} {md : Region.Mode} {C : World → Prop} {R : Act → World → Prop}
def Lf (md : Region.Mode) (ops : Array Oper) : List Nat → Array Bool → Bool
 | [],_ => true
 | k :: ks,L => (Region.ready md ops L).contains k && Region.free md ops L k && Lf md ops ks (L.setIfInBounds k true)
def Uu : List Nat → Array Bool → Array Bool
 | [],L => L
 | k :: ks,L => Uu ks (L.setIfInBounds k true)
def Xa (a : Act) (l : List Oper) : Bool:=l.all fun o => match o.dst with | some d => decide (d < a.tmps.size) | none => true
theorem Dm {W : World} {A : Act} {g : Nat} (hs : Region.noSelect ops = true) : ∀ (ks : List Nat) (l : List Oper) (L : Array Bool) (a : Act) (w : World),l.map some = ks.map (fun k => ops[k]?) → Yb l = true → Xa a l = true →
  Lf md ops ks L = true → Qc W w → (∀ u : XW W,wpQuiet P ops (fun w' => w' = u.w) (fun a' => a' = A) l a) → Yy P md ops (Qc W) R g (Uu ks L) A w → Yy P md ops (Qc W) R (l.length + g) L a w
 | [],[],L,a,w,_,_,_,_,_,h,H => by
  have e : a = A:=h ⟨W,Qc.refl W⟩;subst e;rw [List.length_nil,Nat.zero_add]
  exact H
 | k :: ks,o :: l,L,a,w,hl,hd,hz,hB,hw,h,H => by
  simp only [List.map_cons,List.cons.injEq] at hl;have h0 : ops[k]? = some o:=hl.1.symm;simp only [Lf,Bool.and_eq_true] at hB;obtain ⟨⟨hr,hf⟩,hB'⟩:=hB;have hzo:=hz;simp only [Xa,List.all_cons,Bool.and_eq_true] at hzo;obtain ⟨v,hy,hn⟩:=Qll hd (fun d he => by have:=hzo.1;rw [he] at this;simpa using this) h;have hd' : Yb l = true:=by simp only [Yb,Bool.and_eq_true] at hd;exact hd.2
  have hsz : (a.put o.dst v).tmps.size = a.tmps.size:=by cases o.dst <;> simp [Act.put]
  rw [show (o :: l).length + g = (l.length + g) + 1 by simp only [List.length_cons];omega]
  exact Qcm h0 (Region.noSelect_spec hs) _ L a w (Region.free_spec h0 hf) (by simpa using hr) hw hy
   (Dm hs ks l _ _ w hl.2 hd' (by unfold Xa;rw [hsz];exact hzo.2) hB' hw hn H)
 | [],_ :: _,_,_,_,hl,_,_,_,_,_,_ => by simp at hl
 | _ :: _,[],_,_,_,hl,_,_,_,_,_,_ => by simp at hl
def Kt (ops : Array Oper) : List Nat → List Oper → Prop
 | [],[] => True
 | k :: ks,o :: l => ops[k]? = some o ∧ Kt ops ks l
 | _,_ => False
theorem Oe : ∀ {ks : List Nat} {l : List Oper},Kt ops ks l → l.map some = ks.map (fun k => ops[k]?)
 | [],[],_ => rfl
 | k :: ks,o :: l,h => by rw [List.map_cons,List.map_cons,h.1,Oe h.2]
 | [],_ :: _,h => h.elim
 | _ :: _,[],h => h.elim
theorem Dj {W : World} {g f : Nat} {L : Array Bool} {a : Act} {w : World} (ks : List Nat) (l : List Oper) (hl : Kt ops ks l) (hB : (Region.noSelect ops && Yb l && Lf md ops ks L && decide (f = l.length + g)) = true) (hz : Xa a l = true) (hw : Qc W w)
  (h : ∃ A,(∀ u : XW W,wpQuiet P ops (fun w' => w' = u.w) (fun a' => a' = A) l a) ∧ Yy P md ops (Qc W) R g (Uu ks L) A w) : Yy P md ops (Qc W) R f L a w:=by
 obtain ⟨A,h1,h2⟩:=h;simp only [Bool.and_eq_true,decide_eq_true_eq] at hB;obtain ⟨⟨⟨hs,hd⟩,hk⟩,rfl⟩:=hB;exact Dm hs ks l L a w (Oe hl) hd hz hk hw h1 h2
theorem Ux {f : Nat} {L : Array Bool} {a : Act} {w : World} {o : Oper} (k : Nat) (ho : ops[k]? = some o) (hB : decide (Region.ready md ops L = [k]) = true)
  (h : wpList P ops (Zx fun a' w' => C w' ∧ Yy P md ops C R f (L.setIfInBounds k true) a' w') [o] a w) : Yy P md ops C R (f + 1) L a w:=by
 have hB:=of_decide_eq_true hB;refine ⟨fun h => (by rw [hB] at h;cases h),fun j hj => ?_⟩;rw [hB,List.mem_singleton] at hj;subst hj;exact Wb (Wn ho h)
theorem Qc6 {f : Nat} {L : Array Bool} {a : Act} {w : World} {o1 o2 : Oper} (k1 k2 : Nat) (h1 : ops[k1]? = some o1) (h2 : ops[k2]? = some o2) (hB : decide (Region.ready md ops L = [k1,k2]) = true)
  (ha : wpList P ops (Zx fun a' w' => C w' ∧ Yy P md ops C R f (L.setIfInBounds k1 true) a' w') [o1] a w)
  (hb : wpList P ops (Zx fun a' w' => C w' ∧ Yy P md ops C R f (L.setIfInBounds k2 true) a' w') [o2] a w) : Yy P md ops C R (f + 1) L a w:=by
 have hB:=of_decide_eq_true hB;refine ⟨fun h => (by rw [hB] at h;cases h),fun j hj => ?_⟩;rw [hB] at hj;rcases List.mem_cons.1 hj with rfl | hj
 ·exact Wb (Wn h1 ha)
 ·rw [List.mem_singleton] at hj;subst hj;exact Wb (Wn h2 hb)
theorem O5 {L : Array Bool} {a : Act} {w : World} (hB : decide (Region.ready md ops L = []) = true) (h : R a w) : Yy P md ops C R 0 L a w:=⟨of_decide_eq_true hB,h⟩
end
end
section
open Go Go.RowKit
attribute [local go_sem] Zu
end
section
theorem Td (c : Qd) {i j : Nat} (h : i ≤ j) : c.dayAt i ≤ c.dayAt j:=by
 induction j with
 | zero => obtain rfl : i = 0 := by omega
           exact Int.le_refl _
 | succ j ih =>
  rcases Nat.lt_or_ge j i with h' | h'
  ·obtain rfl : i = j + 1 := by omega
   exact Int.le_refl _
  ·have:=ih h';have:=Cm (c.yr j);rw [Qd.dayAt];omega
theorem Fe (c : Qd) (i : Nat) : ∀ (l : List (Int × Bool)) (d : Int) (x : It),x ∈ Jz i (c.yr i) d l → x.y = i ∧ d ≤ x.first ∧ x.first + x.len c ≤ d + (c.yr i).lens l
 | [],d,x,hx => by cases hx
 | p :: l,d,x,hx => by
  have h0:=Gg (c.yr i) l;have h1:=Vp (c.yr i) p.1 p.2;rw [Jz] at hx;rw [Yr.lens];rcases List.mem_cons.1 hx with rfl | hx
  ·refine ⟨rfl,Int.le_refl _,?_⟩
   show d + (c.yr i).len p.1 p.2 ≤ _
   omega
  ·have:=Fe c i l _ x hx;omega
theorem Sg (c : Qd) : ∀ (k : Nat) (x : It),x ∈ c.itemsTo k → x.y < k ∧ c.dayAt x.y ≤ x.first ∧ x.first + x.len c ≤ c.dayAt (x.y + 1)
 | 0,x,hx => by cases hx
 | k + 1,x,hx => by
  rw [Qd.itemsTo,List.mem_append] at hx;rcases hx with hx | hx
  ·have:=Sg c k x hx;omega
  ·have h:=Fe c k _ _ x hx;refine ⟨by omega,by rw [h.1];exact h.2.1,by rw [h.1];exact h.2.2⟩
theorem Eg {c : Qd} {x : It} (hx : x ∈ c.items) : 1 ≤ x.first ∧ x.first + x.len c ≤ c.dayAt c.ny:=by
 have h:=Sg c c.ny x hx;have h1:=Td c (i:=0) (j:=x.y) Qb;have h2:=Td c (i:=x.y + 1) (j:=c.ny) Qb;have h3 : c.dayAt 0 = 1:=rfl;omega
theorem Dw {c : Qd} {n : Int} {o : Dt} : ∀ {l : List It},c.atFrom n l = some o → ∃ x,x ∈ l ∧ x.first ≤ n ∧ n - x.first < x.len c ∧ o = ⟨x.y,x.n,x.s,n - x.first + 1⟩
 | x :: l,h => by
  rw [Qd.atFrom] at h
  split at h
  ·rename_i hx
   exact ⟨x,List.mem_cons_self ..,hx.1,hx.2,by simpa using h.symm⟩
  ·obtain ⟨y,hy,h1⟩:=Dw h;exact ⟨y,List.mem_cons_of_mem _ hy,h1⟩
theorem Dx {c : Qd} {n : Int} (h : n < 1 ∨ c.dayAt c.ny ≤ n) : c.at? n = none:=by
 cases ho : c.at? n with
 | none => rfl
 | some o =>
  obtain ⟨x,hx,h1,h2,_⟩:=Dw ho;have:=Eg hx;omega
theorem Qab {c : Qd} {d : Dt} (hd : c.has d = true) : ∀ (l : List It) (k : Int),(∀ x,x ∈ l → x ∈ c.items) → 0 ≤ (Yt d l k).1 ∧ (Yt d l k).1 ≤ c.dayAt c.ny - 1
 | [],k,_ => by
  have h2:=Lw c c.ny
  simp [Yt];omega
 | x :: l,k,hl => by
  rw [Yt]
  split
  ·rename_i hx
   have h1:=Eg (hl x (List.mem_cons_self ..));simp only [Qd.has,Bool.and_eq_true,decide_eq_true_eq] at hd;simp only [It.of,Bool.and_eq_true,decide_eq_true_eq,beq_iff_eq] at hx
   have e : x.len c = (c.yrI d.y).len d.m d.s:=by
    unfold It.len Qd.yrI;rw [hx.2,hx.1.2,← hx.1.1];rfl
   simp only
   omega
  ·exact Qab hd l (k + 1) (fun y hy => hl y (List.mem_cons_of_mem _ hy))
theorem Sz {c : Qd} {d : Dt} (hd : c.has d = true) : 0 ≤ (c.num d).1 ∧ (c.num d).1 ≤ c.dayAt c.ny - 1:=Qab hd c.items 0 (fun _ h => h)
theorem Qc2 {c : Qd} {d : Dt} {n : Int} (hd : c.has d = true) (hny : c.ny ≤ 400) (h : 156000 < n ∨ n < -156000) : c.at? ((c.num d).1 + n) = none:=by
 have:=Sz hd;have:=Lw c c.ny;exact Dx Qb
def It.before (x y : It) : Prop:=x.y < y.y ∨ (x.y = y.y ∧ (x.n < y.n ∨ (x.n = y.n ∧ x.s = false ∧ y.s = true)))
def Qd.ord (c : Qd) (x y : It) : Prop:=x.first + x.len c ≤ y.first ∧ x.before y
def pb (p q : Int × Bool) : Prop:=p.1 < q.1 ∨ (p.1 = q.1 ∧ p.2 = false ∧ q.2 = true)
theorem Ik (y : Yr) : ∀ (k : Nat) (p : Int × Bool),p ∈ y.moTo k → 1 ≤ p.1 ∧ p.1 ≤ (k : Int) ∧ (p.2 = true → y.db = p.1)
 | 0,_,h => by cases h
 | k + 1,p,h => by
  rw [Vs,List.mem_append,List.mem_cons] at h;rcases h with h | rfl | h
  ·have:=Ik y k p h;exact ⟨this.1,by omega,this.2.2⟩
  ·exact ⟨by simp only;omega,by simp only;omega,fun h => by cases h⟩
  ·by_cases hd : y.db = (k : Int) + 1
   ·rw [if_pos hd,List.mem_singleton] at h;subst h;exact ⟨by simp only;omega,by simp only;omega,fun _ => hd⟩
   ·rw [if_neg hd] at h;cases h
theorem Ij (y : Yr) : ∀ (k : Nat) (n : Int),1 ≤ n → n ≤ (k : Int) → (n,false) ∈ y.moTo k ∧ (y.db = n → (n,true) ∈ y.moTo k)
 | 0,n,h1,h2 => by omega
 | k + 1,n,h1,h2 => by
  rw [Vs];by_cases hn : n = (k : Int) + 1
  ·subst hn;refine ⟨by simp,fun hd => ?_⟩;rw [if_pos hd];simp
  ·have:=Ij y k n h1 Qb;exact ⟨List.mem_append_left _ this.1,fun hd => List.mem_append_left _ (this.2 hd)⟩
theorem Il (y : Yr) : ∀ k : Nat,(y.moTo k).Pairwise pb
 | 0 => by simp [Yr.moTo]
 | k + 1 => by
  rw [Vs,List.pairwise_append];refine ⟨Il y k,?_,fun p hp q hq => ?_⟩
  ·by_cases hd : y.db = (k : Int) + 1
   ·rw [if_pos hd];simp [pb]
   ·rw [if_neg hd];simp
  ·have h1:=(Ik y k p hp).2.1;rw [List.mem_cons] at hq;rcases hq with rfl | hq
   ·exact .inl (by simp only;omega)
   ·by_cases hd : y.db = (k : Int) + 1
    ·rw [if_pos hd,List.mem_singleton] at hq;subst hq;exact .inl (by simp only;omega)
    ·rw [if_neg hd] at hq;cases hq
theorem Qbj (i : Nat) (y : Yr) : ∀ (l : List (Int × Bool)) (d : Int) (x : It),x ∈ Jz i y d l → (x.n,x.s) ∈ l
 | [],_,_,h => by cases h
 | p :: l,d,x,h => by
  rw [Jz] at h;rcases List.mem_cons.1 h with rfl | h
  ·exact List.mem_cons_self ..
  ·exact List.mem_cons_of_mem _ (Qbj i y l _ x h)
theorem Qbh (i : Nat) (y : Yr) : ∀ (l : List (Int × Bool)) (d : Int) (p : Int × Bool),p ∈ l → ∃ x,x ∈ Jz i y d l ∧ x.y = i ∧ x.n = p.1 ∧ x.s = p.2
 | q :: l,d,p,h => by
  rw [Jz];rcases List.mem_cons.1 h with rfl | h
  ·exact ⟨_,List.mem_cons_self ..,rfl,rfl,rfl⟩
  ·obtain ⟨x,hx,h1⟩:=Qbh i y l (d + y.len q.1 q.2) p h;exact ⟨x,List.mem_cons_of_mem _ hx,h1⟩
theorem Qbl (c : Qd) (i : Nat) : ∀ (l : List (Int × Bool)) (d : Int),l.Pairwise pb → (Jz i (c.yr i) d l).Pairwise c.ord
 | [],_,_ => by simp [Jz]
 | p :: l,d,h => by
  rw [List.pairwise_cons] at h;rw [Jz,List.pairwise_cons];refine ⟨fun x hx => ?_,Qbl c i l _ h.2⟩;have h1:=Fe c i l _ x hx;have h2:=h.1 _ (Qbj i _ l _ x hx);refine ⟨h1.2.1,.inr ⟨h1.1.symm,?_⟩⟩;rcases h2 with h2 | h2
  ·exact .inl h2
  ·exact .inr h2
theorem Ee (c : Qd) : ∀ k : Nat,(c.itemsTo k).Pairwise c.ord
 | 0 => by simp [Qd.itemsTo]
 | k + 1 => by
  rw [Qd.itemsTo,List.pairwise_append];refine ⟨Ee c k,Qbl c k _ _ (Il _ 12),fun x hx y hy => ?_⟩;have h1:=Sg c k x hx;have h2:=Fe c k _ _ y hy;have h3:=Td c (i:=x.y + 1) (j:=k) Qb;exact ⟨by omega,.inl Qb⟩
theorem Sh {c : Qd} {i j : Nat} {x y : It} (hx : c.items[i]? = some x) (hy : c.items[j]? = some y) (h : i < j) : c.ord x y:=by
 obtain ⟨h1,rfl⟩:=List.getElem?_eq_some_iff.1 hx;obtain ⟨h2,rfl⟩:=List.getElem?_eq_some_iff.1 hy;exact List.pairwise_iff_getElem.1 (Ee c c.ny) i j h1 h2 h
theorem Be {x y : It} (h : x.before y) (h1 : x.y = y.y) (h2 : x.n = y.n) (h3 : x.s = y.s) : False:=by
 rcases h with h | ⟨_,h | ⟨_,h4,h5⟩⟩
 ·omega
 ·omega
 ·rw [h4,h5] at h3;cases h3
theorem A9 (c : Qd) {i : Nat} {x : It} (hx : x ∈ Jz i (c.yr i) (c.dayAt i) (c.yr i).mos) : ∀ k : Nat,i < k → x ∈ c.itemsTo k
 | k + 1,h => by
  rw [Qd.itemsTo,List.mem_append];by_cases hk : i = k
  ·subst hk;exact .inr hx
  ·exact .inl (A9 c hx k Qb)
theorem Qag {x : It} {d : Dt} : x.of d = true ↔ ((x.y : Int) = d.y ∧ x.n = d.m ∧ x.s = d.s):=by
 simp [It.of,and_assoc]
theorem Qgs {c : Qd} {d : Dt} : c.has d = true ↔ ((0 ≤ d.y ∧ d.y < c.ny) ∧ (1 ≤ d.m ∧ d.m ≤ 12) ∧ (d.s = true → (c.yrI d.y).db = d.m) ∧ (1 ≤ d.d ∧ d.d ≤ (c.yrI d.y).len d.m d.s)):=by
 simp only [Qd.has,Bool.and_eq_true,decide_eq_true_eq,Bool.or_eq_true,Bool.not_eq_true',and_assoc];cases d.s <;> simp
theorem Qaa (d : Dt) : ∀ (l : List It) (k : Int),(∃ x,x ∈ l ∧ x.of d = true) → ∃ (i : Nat) (x : It),l[i]? = some x ∧ x.of d = true ∧ Yt d l k = (x.first + d.d - 1,k + i + 1)
 | [],_,h => by obtain ⟨x,hx,_⟩:=h;cases hx
 | x :: l,k,h => by
  by_cases ho : x.of d = true
  ·exact ⟨0,x,rfl,ho,by rw [Yt,if_pos ho];simp⟩
  ·obtain ⟨z,hz,hzo⟩:=h
   have hz' : z ∈ l:=by
    rcases List.mem_cons.1 hz with rfl | h1
    ·exact absurd hzo ho
    ·exact h1
   obtain ⟨i,y,hy,hyo,hn⟩:=Qaa d l (k + 1) ⟨z,hz',hzo⟩;exact ⟨i + 1,y,by simpa using hy,hyo,by rw [Yt,if_neg ho,hn];congr 1;omega⟩
theorem Gq {c : Qd} {d : Dt} (h : c.has d = true) : ∃ (i : Nat) (x : It),c.items[i]? = some x ∧ ((x.y : Int) = d.y ∧ x.n = d.m ∧ x.s = d.s) ∧ c.num d = (x.first + d.d - 1,(i : Int) + 1) ∧ 1 ≤ d.d ∧ d.d ≤ x.len c:=by
 obtain ⟨⟨h1,h2⟩,⟨h3,h4⟩,h5,h6,h7⟩:=Qgs.1 h
 have hex : ∃ x,x ∈ c.items ∧ x.of d = true:=by
  have hm : (d.m,d.s) ∈ (c.yr d.y.toNat).mos:=by
   have:=Ij (c.yr d.y.toNat) 12 d.m h3 Qb;cases hs : d.s
   ·exact this.1
   ·exact this.2 (h5 hs)
  obtain ⟨x,hx,hy,hn,hs⟩:=Qbh d.y.toNat (c.yr d.y.toNat) _ (c.dayAt d.y.toNat) _ hm;exact ⟨x,A9 c hx c.ny Qb,Qag.2 ⟨by omega,hn,hs⟩⟩
 obtain ⟨i,x,hx,ho,hn⟩:=Qaa d c.items 0 hex;have ho':=Qag.1 ho;refine ⟨i,x,hx,ho',by unfold Qd.num;rw [hn];congr 1;omega,h6,?_⟩
 have e : x.len c = (c.yrI d.y).len d.m d.s:=by
  unfold It.len Qd.yrI;rw [ho'.2.1,ho'.2.2,← ho'.1];rfl
 omega
def Dt.less (a b : Dt) : Bool:=if a.y = b.y then (if a.m = b.m then (if a.s = b.s then decide (a.d < b.d) else b.s) else decide (a.m < b.m)) else decide (a.y < b.y)
theorem Qh3 {a b : Dt} (h : a.y < b.y ∨ (a.y = b.y ∧ (a.m < b.m ∨ (a.m = b.m ∧ a.s = false ∧ b.s = true)))) : a.less b = true:=by
 unfold Dt.less;rcases h with h | ⟨h1,h | ⟨h2,h3,h4⟩⟩
 ·rw [if_neg Qb];exact decide_eq_true h
 ·rw [if_pos h1,if_neg Qb];exact decide_eq_true h
 ·rw [if_pos h1,if_pos h2,h3,h4];rfl
theorem Qh2 {a b : Dt} (h : b.y < a.y ∨ (b.y = a.y ∧ (b.m < a.m ∨ (b.m = a.m ∧ b.s = false ∧ a.s = true)))) : a.less b = false:=by
 unfold Dt.less;rcases h with h | ⟨h1,h | ⟨h2,h3,h4⟩⟩
 ·rw [if_neg Qb];exact decide_eq_false Qb
 ·rw [if_pos h1.symm,if_neg Qb];exact decide_eq_false Qb
 ·rw [if_pos h1.symm,if_pos h2.symm,h3,h4];rfl
theorem Gs {c : Qd} {a b : Dt} (ha : c.has a = true) (hb : c.has b = true) : a.less b = decide ((c.num a).1 < (c.num b).1) ∧ ((c.num a).1 = (c.num b).1 ↔ a = b) ∧
  ((c.num a).1 < (c.num b).1 → 0 < 30 * ((c.num b).2 - (c.num a).2) + b.d - a.d) ∧ ((c.num a).1 = (c.num b).1 → 30 * ((c.num b).2 - (c.num a).2) + b.d - a.d = 0):=by
 obtain ⟨i,x,hx,⟨x1,x2,x3⟩,xn,xd,xl⟩:=Gq ha;obtain ⟨j,y,hy,⟨y1,y2,y3⟩,yn,yd,yl⟩:=Gq hb;have lx:=Vp (c.yr x.y) x.n x.s;have ly:=Vp (c.yr y.y) y.n y.s
 change 29 ≤ x.len c ∧ x.len c ≤ 30 at lx
 change 29 ≤ y.len c ∧ y.len c ≤ 30 at ly
 rw [xn,yn];rcases Nat.lt_trichotomy i j with h | h | h
 ·obtain ⟨o1,o2⟩:=Sh hx hy h
  have hl : a.less b = true:=Qh3 (by
   rw [← x1,← y1,← x2,← y2,← x3,← y3];rcases o2 with o | ⟨p,o⟩
   ·exact .inl Qb
   ·exact .inr ⟨by omega,o⟩)
  simp only
  refine ⟨by rw [hl];exact (decide_eq_true Qb).symm,⟨fun h => by omega,fun h => ?_⟩,fun _ => by omega,fun h => by omega⟩;subst h;exact (Be o2 Qb Qb (by rw [x3,y3])).elim
 ·subst h;obtain rfl : x = y := Option.some.inj (hx.symm.trans hy);have e1 : a.y = b.y := by omega
  have e2 : a.m = b.m:=by omega
  have e3 : a.s = b.s:=x3.symm.trans y3
  simp only
  refine ⟨?_,⟨fun h => ?_,fun h => by rw [h]⟩,fun _ => by omega,fun _ => by omega⟩
  ·unfold Dt.less;rw [if_pos e1,if_pos e2,if_pos e3];by_cases hd : a.d < b.d
   ·rw [decide_eq_true hd];exact (decide_eq_true Qb).symm
   ·rw [decide_eq_false hd];exact (decide_eq_false Qb).symm
  ·have e4 : a.d = b.d := by omega
   cases a;cases b;simp only at e1 e2 e3 e4;rw [e1,e2,e3,e4]
 ·obtain ⟨o1,o2⟩:=Sh hy hx h
  have hl : a.less b = false:=Qh2 (by
   rw [← x1,← y1,← x2,← y2,← x3,← y3];rcases o2 with o | ⟨p,o⟩
   ·exact .inl Qb
   ·exact .inr ⟨by omega,o⟩)
  simp only
  refine ⟨by rw [hl];exact (decide_eq_false Qb).symm,⟨fun h => by omega,fun h => ?_⟩,fun h => by omega,fun h => by omega⟩;subst h;exact (Be o2 Qb Qb (by rw [x3,y3])).elim
/-! ### The date of a number -/
theorem Du {c : Qd} {n : Int} {x : It} : ∀ {l : List It} {i : Nat},l[i]? = some x → x.first ≤ n → n - x.first < x.len c → (∀ (j : Nat) (y : It),j < i → l[j]? = some y → ¬ (y.first ≤ n ∧ n - y.first < y.len c)) → c.atFrom n l = some ⟨x.y,x.n,x.s,n - x.first + 1⟩
 | y :: l,0,h,h1,h2,_ => by
  obtain rfl : y = x:=by simpa using h
  rw [Qd.atFrom,if_pos ⟨h1,h2⟩]
 | y :: l,i + 1,h,h1,h2,h3 => by
  rw [Qd.atFrom,if_neg (h3 0 y Qb rfl)];exact Du (by simpa using h) h1 h2 (fun j z hj hz => h3 (j + 1) z Qb (by simpa using hz))
theorem at_num {c : Qd} {d : Dt} (h : c.has d = true) : c.at? (c.num d).1 = some d:=by
 obtain ⟨i,x,hx,⟨x1,x2,x3⟩,xn,xd,xl⟩:=Gq h;rw [xn]
 simp only
 unfold Qd.at?;rw [Du hx Qb Qb (fun j y hj hy hc => ?_)]
 ·have e : x.first + d.d - 1 - x.first + 1 = d.d := by omega
  rw [e,x1,x2,x3]
 ·have:=(Sh hy hx hj).1;omega
theorem Qae {c : Qd} {d : Dt} (h : c.has d = true) : 1 ≤ (c.num d).1 ∧ (c.num d).1 < c.dayAt c.ny:=by
 have h1:=at_num h;rcases Decidable.em ((c.num d).1 < 1 ∨ c.dayAt c.ny ≤ (c.num d).1) with h2 | h2
 ·rw [Dx h2] at h1;cases h1
 ·omega
end
section
open Go Go.RowKit Go.Shelf
attribute [local go_sem] Oper.semAt_some Zu
theorem Ap {W : World} {b : Nat} {t : TypeId} {v0 v1 v2 v3 : Value} (h : Qa W b t #[v0,v1,v2,v3]) (u0 u1 u2 u3 : Value) :
  Qa ((((W.setCell ⟨b,0,none⟩ u0).setCell ⟨b,1,none⟩ u1).setCell ⟨b,2,none⟩ u2).setCell ⟨b,3,none⟩ u3) b t #[u0,u1,u2,u3]:=by
 unfold Qa at h ⊢;simp [World.setCell,Array.getElem?_modify,h]
theorem C4 {W : World} {b b' : Nat} {t t' : TypeId} {v0 v1 v2 v3 v' : Value} (h : Qa W b t #[v0,v1,v2,v3]) (h' : Boxed W b' t' v') (hne : b ≠ b') (u0 u1 u2 u3 u' : Value) :
  Qa (((((W.setCell ⟨b,0,none⟩ u0).setCell ⟨b,1,none⟩ u1).setCell ⟨b,2,none⟩ u2).setCell ⟨b,3,none⟩ u3).setCell ⟨b',0,none⟩ u') b t #[u0,u1,u2,u3] ∧
  Boxed (((((W.setCell ⟨b,0,none⟩ u0).setCell ⟨b,1,none⟩ u1).setCell ⟨b,2,none⟩ u2).setCell ⟨b,3,none⟩ u3).setCell ⟨b',0,none⟩ u') b' t' u' ∧
  KeepsOthers W (((((W.setCell ⟨b,0,none⟩ u0).setCell ⟨b,1,none⟩ u1).setCell ⟨b,2,none⟩ u2).setCell ⟨b,3,none⟩ u3).setCell ⟨b',0,none⟩ u') ∧
  ∀ wd,Qc wd W → wd.heap.size ≤ b → wd.heap.size ≤ b' → Qc wd (((((W.setCell ⟨b,0,none⟩ u0).setCell ⟨b,1,none⟩ u1).setCell ⟨b,2,none⟩ u2).setCell ⟨b,3,none⟩ u3).setCell ⟨b',0,none⟩ u'):=by
 refine ⟨(Ap h u0 u1 u2 u3).other hne u',?_,((((KeepsOthers.setCell _ _ _).trans (KeepsOthers.setCell _ _ _)).trans (KeepsOthers.setCell _ _ _)).trans (KeepsOthers.setCell _ _ _)).trans (KeepsOthers.setCell _ _ _),fun wd e h1 h2 => ((((e.setCell h1 _).setCell h1 _).setCell h1 _).setCell h1 _).setCell h2 _⟩
 have h2 : Boxed ((((W.setCell ⟨b,0,none⟩ u0).setCell ⟨b,1,none⟩ u1).setCell ⟨b,2,none⟩ u2).setCell ⟨b,3,none⟩ u3) b' t' v':=by
  unfold Boxed at h' ⊢;rw [← h'];simp [World.setCell,Array.getElem?_modify,hne]
 exact h2.set u'
def V6 (c : Qd) (n : Int) (l : List It) : Prop:=∀ x,x ∈ l → ¬ (x.first ≤ n ∧ n - x.first < x.len c)
theorem Dv {c : Qd} {n : Int} : ∀ {l : List It},V6 c n l → c.atFrom n l = none
 | [],_ => rfl
 | x :: l,h => by rw [Qd.atFrom,if_neg (h x (List.mem_cons_self ..))];exact Dv (fun y hy => h y (List.mem_cons_of_mem _ hy))
theorem Ds {c : Qd} {n : Int} {x : It} (hx : x.first ≤ n ∧ n - x.first < x.len c) : ∀ (Qt l : List It),V6 c n Qt → c.atFrom n (Qt ++ x :: l) = some ⟨x.y,x.n,x.s,n - x.first + 1⟩
 | [],l,_ => by simp [Qd.atFrom,hx]
 | y :: Qt,l,h => by rw [List.cons_append,Qd.atFrom,if_neg (h y (List.mem_cons_self ..)),Ds hx Qt l (fun z hz => h z (List.mem_cons_of_mem _ hz))]
theorem Qdh {c : Qd} {n : Int} (h : V6 c n c.items) : c.at? n = none:=Dv h
theorem Qdg {c : Qd} {n : Int} {Qt : List It} {x : It} (hN : V6 c n Qt) (hx : x.first ≤ n ∧ n - x.first < x.len c) (hp : Qt ++ [x] <+: c.items) : c.at? n = some ⟨x.y,x.n,x.s,n - x.first + 1⟩:=by
 obtain ⟨t,ht⟩:=hp;rw [Qd.at?,← ht,List.append_assoc,List.singleton_append,Ds hx Qt t hN]
theorem I6 {c : Qd} {n : Int} {l : List It} {x : It} (h : V6 c n l) (hx : ¬ (x.first ≤ n ∧ n - x.first < x.len c)) : V6 c n (l ++ [x]):=fun y hy => by
 rcases List.mem_append.1 hy with hy | hy
 ·exact h y hy
 ·rw [List.mem_singleton.1 hy];exact hx
def Dt.val (d : Dt) : Value:=.agg #[.int .i64 d.y,.int .i64 d.m,.bool d.s,.int .i64 d.d]
def atOk (o : Option Dt) : Int:=if o.isSome then 0 else 8
def atW (A A' : OA) (ca cb : Nat) (c : Qd) (n : Int) (w : World) : World:=(w.alloc (.cells #[.slice A c.nk ca,.slice A' c.ny cb] 25)).alloc (.cells #[.int .i64 n] 3)
theorem at_any (A A' : OA) (ca cb : Nat) (c : Qd) (n : Int) (w : World) (hC : Q3 w A ca A' cb c) (hlg : ∀ i,i < c.ny → 0 ≤ (c.yr i).lg ∧ (c.yr i).lg ≤ 8191) (hny : c.ny ≤ 400) (_hn1 : -9223372036854775808 ≤ n) (hn2 : n ≤ 9223372036854775807) :
  Calls Tryz.prog 124 #[.agg #[.slice A c.nk ca,.slice A' c.ny cb],.int .i64 n] w fun e w' => e = .returned (.tuple #[((c.at? n).getD Ve).val,.int .i64 (atOk (c.at? n))]) ∧ Qc w w':=by
 refine callsIn_wide.1 (callsIn_of_wp_marks (F:=Fence.wide) (n:=9) Tryz.func124 rfl trivial (wpIn_wide.2 ?_) rfl);simp only [Tryz.ntmps124,List.size_toArray,List.length_cons,List.length_nil,Nat.reduceAdd,Nat.reduceSub,Array.replicate_succ,Array.replicate_zero,List.push_toArray,List.append_toArray,List.nil_append,List.cons_append];go_wp2_with (go_at_call 143;refine (Im _ _ _ _ c _).mono ?_;rintro e w' ⟨rfl,rfl⟩);obtain ⟨wd,hwd⟩:=Qf (atW A A' ca cb c n w);have hEd : Qc w wd:=by rw [hwd];unfold atW;exact Qq
 have hsd : wd.heap.size = w.heap.size + 1 + 1:=by rw [hwd];simp [atW]
 have hdb : Qa wd (w.heap.size + 1) 3 #[.int .i64 n]:=by rw [hwd];unfold atW;exact Je
 have hcb : Qa wd w.heap.size 25 #[.slice A c.nk ca,.slice A' c.ny cb]:=by rw [hwd];unfold atW;exact Je
 generalize hW5 : World.alloc _ _ = W5;have hE5 : Qc wd W5:=by rw [← hW5,hwd];unfold atW;exact Qq
 have hs5 : W5.heap.size = w.heap.size + 1 + 1 + 1 + 1 + 1:=by rw [← hW5];simp
 have b4 : Qa W5 (w.heap.size + 1 + 1) 51 #[.int .i64 0,.int .i64 0,.bool false,.int .i64 0]:=by rw [← hW5];exact Je
 have b5 : Boxed W5 (w.heap.size + 1 + 1 + 1) 29 (.int .i64 0):=by rw [← hW5];exact Qa.boxed Je
 have hB : W5.cell? ⟨w.heap.size + 1 + 1 + 1 + 1,1,none⟩ = some (.slice A' c.ny cb):=by rw [← hW5];exact (Qa.cell (t:=25) (cs:=#[.slice A c.nk ca,.slice A' c.ny cb]) Je 1)
 clear hW5 hwd;generalize hs : w.heap.size = s at *
 refine Eu (A:=A) (A':=A') (ca:=ca) (cb:=cb) (c:=c) (B:=s + 1 + 1 + 1 + 1) wd W5 rfl rfl (hC.ext hEd) hlg hny hE5 hB Qb
  (fun Qt W => Qc wd W ∧ Qa W (s + 1 + 1) 51 #[.int .i64 0,.int .i64 0,.bool false,.int .i64 0] ∧ Boxed W (s + 1 + 1 + 1) 29 (.int .i64 0) ∧ V6 c n (Mo.its Qt))
  (fun c' Qt W => Qc wd W ∧ ∃ p : List (Mo c) × Mo c,Qa W (s + 1 + 1) 51 #[.int .i64 (p.2.1.y : Int),.int .i64 p.2.1.n,.bool p.2.1.s,.int .i64 (n - p.2.1.first + 1)] ∧ Boxed W (s + 1 + 1 + 1) 29 (.int .i64 0) ∧
   c' = .ret ∧ Qt = p.1 ++ [p.2] ∧ V6 c n (Mo.its p.1) ∧ p.2.1.first ≤ n ∧ n - p.2.1.first < p.2.1.len c)
  (OwnFrom.and (Gw Qb) (OwnFrom.and (Pa _ _ _ _) (OwnFrom.and (Mm _ _ _ _) (ownFrom_pure _ _))))
  (fun c' => OwnFrom.and (Gw Qb) (S9 fun p => OwnFrom.and (Pa _ _ _ _) (OwnFrom.and (Mm _ _ _ _) (ownFrom_pure _ _))))
  ⟨hE5,b4,b5,fun _ h => (by cases h)⟩
  (AxM (s + 1 + 1 + 1 + 1) (fun y Bx => #[.agg #[.slice A c.nk ca,.slice A' c.ny cb],.int .i64 n,.pointer (some ⟨s,0,none⟩),.pointer (some ⟨s + 1,0,none⟩),.pointer (some ⟨s + 1 + 1,0,none⟩),.pointer (some ⟨s + 1 + 1 + 1,0,none⟩),.pointer (some ⟨Bx,0,none⟩),.int .i64 y.first,
   .agg #[.slice A c.nk ca,.slice A' c.ny cb],.func (.func 174) #[] #[.pointer (some ⟨s + 1 + 1 + 1 + 1,0,none⟩)],.agg #[.int .i64 (y.y : Int),.int .i64 y.n,.bool y.s],.int .i64 y.first,undef,undef,undef,undef,undef,undef,undef,undef,undef,undef,undef,undef,undef,undef,undef,undef,undef,undef,undef,undef,undef,undef,undef,undef])) Bc ?assign ?body ?done ?stop
 case assign =>
  intro l Qt x W K hi hK;simp only [Mo.enc]
  gi_wp2
  exact hK _ _ (Mf ((Qc.refl W).alloc _)) (Yf.of_ext ((Qc.refl W).alloc _) hi.1.size) ⟨hi.1.alloc _,hi.2.1.alloc _,hi.2.2.1.alloc _,hi.2.2.2⟩ ⟨W.heap.size,hi.2.2.1.lt,Qa.new _ _ _,rfl⟩
 case body =>
  rintro l Qt x a' W hl ⟨hE,b4,b5,hN⟩ ⟨Bx,hBx,hm,rfl⟩ hlt;have hxok:=x.2;have hx1:=hxok.f1;have hx2:=hxok.f2;have hxy:=hxok.y;have hxn:=hxok.n1;have hxn2:=hxok.n12;have hCW:=(hC.ext hEd).ext hE;have hlx:=hlg _ hxy;clear hxok;have hdW:=hdb.ext hE;have hcW:=hcb.ext hE;obtain ⟨m0,m1,m2⟩:=hm.c3;have e0:=hdW.c1;obtain ⟨k0,k1⟩:=hcW.c2;have hl1:=hm.lt;have hl2:=hdW.lt;have hl3:=hcW.lt;have HL : Hid (x.1.len c = (c.yr x.1.y).len x.1.n x.1.s):=rfl;by_cases hg : x.1.first ≤ n
  ·have hgd : decide (x.1.first ≤ n) = true := zt hg;have hsub : IntKind.i64.wrap (n - x.1.first) = n - x.1.first := by rw [IntKind.wrap_i64]; omega
   gi_upto_region 4 with (fail)
   refine P9 W mixed zK zK Qq ?_;intro hne hrx hry;try simp only []
   try simp only [List.append_eq,List.cons_append,List.nil_append]
   skip
   repeat (first
    | go_big_quiet_skip
    | (go_big_quiet_want;go_big_quiet_op;go_big_quiet_on)
    | (go_big_quiet_want;go_big_quiet_op;apply Exists.intro;refine ⟨fun u => ?_,?_⟩
       ·first
         | (go_at_call 164;refine (of_any _ _ _ _ c x.1.y _ _ _ (hCW.ext (Qc.trans Qq u.e)) hxy hxn hxn2 hlx.1 hlx.2).mono ?_;rintro e w' ⟨rfl,hb⟩;exact ⟨rfl,u.back hb⟩)
       go_big_quiet_on))
   clear hne hry hrx;refine wpQuiet_nil ?_;intro wq hq;obtain ⟨hcwq,hfwq,hzwq⟩:=Qc.rules hq;try simp only [World.size_alloc] at hzwq
   obtain ⟨hcbwq,hfbwq,hzbwq⟩:=Qc.rules (show Qc W wq from Qq);clear hcwq hfwq;by_cases hd : n - x.1.first < (c.yr x.1.y).len x.1.n x.1.s
   ·rw [zt hd];clear m0 m1 m2 e0 k0 k1;obtain ⟨m0,m1,m2⟩:=(hm.ext hq).c3;have e0:=(hdW.ext hq).c1;have hl1:=(hm.ext hq).lt;have hl2:=(hdW.ext hq).lt;have b4q:=b4.ext hq;have b5q:=Ng b5 hq;obtain ⟨w0,w1,w2,w3⟩:=b4q.c4;have f0:=b4q.frozen 0;have f1:=b4q.frozen 1;have f2:=b4q.frozen 2;have f3:=b4q.frozen 3;have w5:=b5q.cell;have f5:=b5q.frozen;clear hcbwq hfbwq;obtain ⟨g4,g5,gK,gE⟩:=C4 b4q b5q Qb (.int .i64 (x.1.y : Int)) (.int .i64 x.1.n) (.bool x.1.s) (.int .i64 (n - x.1.first + 1)) (.int .i64 0)
    gi_wp2
    exact ⟨(Mf hq).trans (gK.from _),gE _ (hE.trans hq) Qb Qb,(Qt,x),g4,g5,rfl,rfl,hN,hg,by rw [HL.out];exact hd⟩
   ·rw [zf hd];have HD:=zh hd;clear hd
    gi_wp2
    exact ⟨Mf hq,Yf.of_ext hq (by have:=hE.size;omega),hE.trans hq,b4.ext hq,Ng b5 hq,by rw [W7];exact I6 hN (fun h => by have h2:=h.2;rw [HL.out] at h2;have:=HD.out;omega)⟩
  ·have hgd : decide (x.1.first ≤ n) = false:=zf hg;have HG:=zh hg;clear hg
   gi_upto_region 4 with (fail)
   refine P9 W mixed zK zK Qq ?_;intro hne hrx hry;try simp only []
   try simp only [List.append_eq,List.cons_append,List.nil_append]
   skip
   refine zuk ?_;clear hne hry hrx;intro wq hq;obtain ⟨hcwq,hfwq,hzwq⟩:=Qc.rules hq;try simp only [World.size_alloc] at hzwq
   obtain ⟨hcbwq,hfbwq,hzbwq⟩:=Qc.rules (show Qc W wq from Qq);clear hcwq hfwq
   gi_wp2
   exact ⟨Mf hq,Yf.of_ext hq (by have:=hE.size;omega),hE.trans hq,b4.ext hq,Ng b5 hq,by rw [W7];exact I6 hN (fun h => by have:=HG.out;have:=h.1;omega)⟩
 case done =>
  rintro D xs W hD hxs ⟨hE,b4,b5,hN⟩ hK;obtain ⟨w0,w1,w2,w3⟩:=b4.c4;have f0:=b4.frozen 0;have f1:=b4.frozen 1;have f2:=b4.frozen 2;have f3:=b4.frozen 3;have w5:=b5.cell;have f5:=b5.frozen;rw [hxs] at hN;have HN:=zh (Qdh hN);clear hN hxs;obtain ⟨g4,g5,gK,gE⟩:=C4 b4 b5 Qb (.int .i64 0) (.int .i64 0) (.bool false) (.int .i64 0) (.int .i64 8);have hE2:=gE _ hE Qb Qb;have hK2:=gK.same D _ hK rfl;go_wp2;clear w0 w1 w2 w3 f0 f1 f2 f3 w5 f5 gK gE b4 b5;generalize World.setCell _ _ _ = W6 at *;obtain ⟨c0,c1,c2,c3⟩:=(show Qa (W6.putObj D (.deferred none)) _ _ _ from (grownBy_putObj' W6 D (.deferred none)).block _ g4.lt (fun e => by cases e;rw [show W6.heap[s + 1 + 1]? = _ from g4] at hK2;cases hK2) |>.trans g4).c4
  have c5:=(Lr (o':=.deferred none) (show Boxed W6 _ _ _ from g5) hK2 rfl).cell;refine Fa hK2 (v:=.tuple #[Ve.val,.int .i64 8]) (by simp [results,Tryz.results124,go_sem,c0,c1,c2,c3,c5,Dt.val,Ve]) ⟨by rw [HN.out];rfl,hEd.trans (hE2.putObj Qb _)⟩
 case stop =>
  rintro D c' Qt W hD hpre ⟨hE,⟨p,x⟩,b4,b5,rfl,rfl,hN,hg,hd⟩ hK;rw [W7] at hpre;have HN:=zh (Qdg hN ⟨hg,hd⟩ hpre);clear hN hpre hg hd;go_wp2;obtain ⟨c0,c1,c2,c3⟩:=(show Qa (W.putObj D (.deferred none)) _ _ _ from (grownBy_putObj' W D (.deferred none)).block _ b4.lt (fun e => by cases e;rw [show W.heap[s + 1 + 1]? = _ from b4] at hK;cases hK) |>.trans b4).c4;have c5:=(Lr (o':=.deferred none) b5 hK rfl).cell;refine Fa hK (v:=.tuple #[(Dt.mk x.1.y x.1.n x.1.s (n - x.1.first + 1)).val,.int .i64 0]) (by simp [results,Tryz.results124,go_sem,c0,c1,c2,c3,c5,Dt.val]) ⟨by rw [HN.out];rfl,hEd.trans (hE.putObj Qb _)⟩
theorem Fp {c : Qd} (h : c.valid = true) : c.ny ≤ 400:=by
 simp only [Qd.valid,Bool.and_eq_true,decide_eq_true_eq] at h;exact h.1.2
theorem Qa.kept {W W' : World} {row : Option Nat} {b : Nat} {t : TypeId} {cs : Array Value} (h : Qa W b t cs) (hg : W.grownBy W' row) (hne : some b ≠ row) : Qa W' b t cs:=(hg.block b h.lt hne).trans h
theorem Qa.not_row {W : World} {b : Nat} {t e : TypeId} {cs : Array Value} (h : Qa W b t cs) (hte : t ≠ e) {base size k : Nat} {v : Value} {xs : List Value} (hr : W.ownsRow base e size v k xs) : some b ≠ v.ownBlock:=by
 rcases hr.2 with ⟨rfl,_⟩ | ⟨g,cap,cur,rfl,_,hgb,_⟩
 ·simp [Value.ownBlock]
 ·intro e';obtain rfl : b = g := by simpa [Value.ownBlock] using e'
  have:=(show W.heap[b]? = _ from h).symm.trans hgb;simp at this;exact hte this.2
theorem Ut {W : World} {base size k : Nat} {e : TypeId} {v : Value} {xs : List Value} (hr : W.ownsRow base e size v k xs) : ∀ r,v.ownBlock = some r → base ≤ r ∧ ∃ cur,W.heap[r]? = some (.cells cur e (0,0)):=by
 rcases hr.2 with ⟨rfl,_⟩ | ⟨g,cap,cur,rfl,hb,hgb,_⟩
 ·intro r h;simp [Value.ownBlock] at h
 ·intro r h;obtain rfl : g = r := by simpa [Value.ownBlock] using h
  exact ⟨hb,cur,hgb⟩
namespace SpStep
variable {wd W0 W W' : World} {B0 Bo Bx : Nat} {mcs : Array Value} {L : List Sp} {v : Value}
end SpStep
def Ra (w : World) (v : Value) (l : List Sp) : Prop:=∃ A cap,v = .slice A l.length cap ∧ Qo w A l.length 2 (fun i => (l.getD i ⟨0,0⟩).cells) ∧ l.length ≤ cap ∧ cap ≤ maxLen
theorem Ra.ext {w w' : World} {v : Value} {l : List Sp} (h : Ra w v l) (e : Qc w w') : Ra w' v l:=by
 obtain ⟨A,cap,hv,hr,hc,hm⟩:=h;exact ⟨A,cap,hv,hr.ext e,hc,hm⟩
end
section
open Go Go.RowKit Go.Shelf
attribute [local go_sem] Zu
theorem Qbk {c : Qd} {i : Nat} (hi : i < c.ny) : ∀ (k : Nat),k ≤ 12 → ∀ x,x ∈ Jz i (c.yr i) (c.dayAt i) ((c.yr i).moTo k) → c.okIt x
 | 0,_,x,hx => by simp [Yr.moTo,Jz] at hx
 | k + 1,hk,x,hx => by
  rw [Vs,Oq,List.mem_append] at hx;rcases hx with hx | hx
  ·exact Qbk hi k Qb x hx
  ·by_cases h : (c.yr i).db = (k : Int) + 1
   ·rw [if_pos h] at hx;rcases List.mem_cons.1 hx with rfl | hx
    ·exact Hz hi Qb
    ·rcases List.mem_cons.1 hx with rfl | hx
     ·exact A3 hi Qb
     ·cases hx
   ·rw [if_neg h] at hx;rcases List.mem_cons.1 hx with rfl | hx
    ·exact Hz hi Qb
    ·cases hx
theorem Ed (c : Qd) : ∀ i : Nat,i ≤ c.ny → ∀ x,x ∈ c.itemsTo i → c.okIt x
 | 0,_,x,hx => by cases hx
 | i + 1,hi,x,hx => by
  rw [Qd.itemsTo,List.mem_append] at hx;rcases hx with hx | hx
  ·exact Ed c i Qb x hx
  ·exact Qbk Qb 12 Qb x hx
theorem Qhq (c : Qd) : ∀ x,x ∈ c.items → c.okIt x:=Ed c c.ny (Nat.le_refl _)
theorem Kb (c : Qd) (d : Dt) : c.checks (fun _ => d) 1 = c.inE d:=by simp [Qd.checks,Qd.inE]
def two (a b : Dt) (i : Nat) : Dt:=if i = 0 then a else b
theorem Rv (c : Qd) (a b : Dt) : c.checks (two a b) 2 = c.in2E a b:=by
 simp only [Qd.checks,Qd.in2E,show List.range 2 = [0,1] from rfl,List.all_cons,List.all_nil,Bool.and_true];rfl
theorem Aq (c : Qd) (d : Dt) : (c.valid = false ∧ c.inE d = 70) ∨ (c.valid = true ∧ c.has d = false ∧ c.inE d = 71) ∨ (c.valid = true ∧ c.has d = true ∧ c.inE d = 0):=by
 unfold Qd.inE;cases c.valid <;> cases c.has d <;> simp
theorem K7 (c : Qd) (a b : Dt) : (c.valid = false ∧ c.in2E a b = 70) ∨ (c.valid = true ∧ (c.has a && c.has b) = false ∧ c.in2E a b = 71) ∨ (c.valid = true ∧ (c.has a && c.has b) = true ∧ c.in2E a b = 0):=by
 unfold Qd.in2E;cases c.valid <;> cases c.has a <;> cases c.has b <;> simp
theorem Hu {c : Qd} {d : Dt} (h : c.has d = true) : 1 ≤ d.d ∧ d.d ≤ 30:=by
 simp only [Qd.has,Bool.and_eq_true,decide_eq_true_eq] at h;have:=Vp (c.yrI d.y) d.m d.s;omega
theorem Kn {w : World} {b : Nat} {t : TypeId} {d : Dt} (h : Qa w b t #[.int .i64 d.y,.int .i64 d.m,.bool d.s,.int .i64 d.d]) : Qo w (some ⟨b,0,none⟩) 1 4 (fun _ => Tf d):=fun _ =>
 ⟨b,0,rfl,h.lt,fun i j v hi hv => by
  obtain rfl : i = 0:=Qb;rw [show 0 + 0 * 4 + j = j by omega,h.cell j,List.getElem?_toArray];exact hv⟩
theorem Pm {w : World} {b : Nat} {t : TypeId} {x y : Dt} (h : Qa w b t #[.int .i64 x.y,.int .i64 x.m,.bool x.s,.int .i64 x.d,.int .i64 y.y,.int .i64 y.m,.bool y.s,.int .i64 y.d]) : Qo w (some ⟨b,0,none⟩) 2 4 (fun i => Tf (two x y i)):=fun _ =>
 ⟨b,0,rfl,h.lt,fun i j v hi hv => by
  have hj : j < 4:=(List.getElem?_eq_some_iff.1 hv).1;rw [Nat.zero_add,h.cell]
  match i,j,hi,hj,hv with
  | 0,0,_,_,hv => exact hv
  | 0,1,_,_,hv => exact hv
  | 0,2,_,_,hv => exact hv
  | 0,3,_,_,hv => exact hv
  | 1,0,_,_,hv => exact hv
  | 1,1,_,_,hv => exact hv
  | 1,2,_,_,hv => exact hv
  | 1,3,_,_,hv => exact hv⟩
set_option maxHeartbeats 1000000 in
theorem Qjp (A A' : OA) (ca cb : Nat) (c : Qd) (d : Dt) (w : World) (hC : Q3 w A ca A' cb c) :
  Calls Tryz.prog 100 #[.agg #[.slice A c.nk ca,.slice A' c.ny cb],.agg #[.int .i64 d.y,.int .i64 d.m,.bool d.s,.int .i64 d.d]] w fun e w' => e = .returned (.tuple #[.int .i64 (c.numV d),.int .i64 (c.inE d)]) ∧ Qc w w':=by
 rcases Aq c d with ⟨hv,hE⟩ | ⟨hv,hh,hE⟩ | ⟨hv,hh,hE⟩
 ·have HE := zh hE;have HV : Hid (c.numV d = 0) := by unfold Hid Qd.numV; rw [hE]; rfl
  clear hE hv
  go_enter Tryz.func100,Tryz.ntmps100
  go_wp2_with (go_at_call 94;refine (Ui _ _ _ _ c _ 1 1 (fun _ => d) _ (hC.ext Qq) (Kn (t:=51) Je) Qb).mono ?_;rw [Kb,HE.out];rintro e wq ⟨rfl,hq⟩);go_ret2;exact ⟨by rw [HE.out,HV.out];rfl,Qq⟩
 ·have HE := zh hE;have HV : Hid (c.numV d = 0) := by unfold Hid Qd.numV; rw [hE]; rfl
  clear hE hv
  go_enter Tryz.func100,Tryz.ntmps100
  go_wp2_with (go_at_call 94;refine (Ui _ _ _ _ c _ 1 1 (fun _ => d) _ (hC.ext Qq) (Kn (t:=51) Je) Qb).mono ?_;rw [Kb,HE.out];rintro e wq ⟨rfl,hq⟩);go_ret2;exact ⟨by rw [HE.out,HV.out];rfl,Qq⟩
 ·have HE := zh hE;have HV : Hid (c.numV d = (c.num d).1) := by unfold Hid Qd.numV; rw [hE]; rfl
  have HL:=zh (Ox hv);have HY:=zh (Fp hv);have HD:=zh (Hu hh);clear hE hv hh
  go_enter Tryz.func100,Tryz.ntmps100
  go_wp2_with (go_at_call 94;refine (Ui _ _ _ _ c _ 1 1 (fun _ => d) _ (hC.ext Qq) (Kn (t:=51) Je) Qb).mono ?_;rw [Kb,HE.out];rintro e wq ⟨rfl,hq⟩;obtain ⟨k0,k1⟩:=(Qa.ext (b:=w.heap.size) (t:=25) (cs:=#[.slice A c.nk ca,.slice A' c.ny cb]) Je hq).c2;obtain ⟨e0,e1,e2,e3⟩:=(Qa.ext (b:=w.heap.size + 1) (t:=51) (cs:=#[.int .i64 d.y,.int .i64 d.m,.bool d.s,.int .i64 d.d]) Je hq).c4);refine (Gr _ _ _ _ c d _ (hC.ext Qq) HL.out HY.out HD.out).mono ?_;rintro e wn ⟨rfl,hn⟩;go_wp2;go_ret2;exact ⟨by rw [HE.out,HV.out];rfl,Qq⟩
theorem Qad (c : Qd) (d : Dt) (h1 : 1 ≤ d.d) (h2 : d.d ≤ 30) : 0 ≤ (c.num d).1 ∧ (c.num d).1 ≤ 390 * (c.ny : Int) + 421 ∧ 0 ≤ (c.num d).2 ∧ (c.num d).2 ≤ 13 * (c.ny : Int):=by
 have hi : ∀ x,x ∈ c.items → c.okIt x:=Qhq c;have hl:=H0 c c.ny
 have h : ∀ (l : List It) (k : Int),0 ≤ k → (∀ x,x ∈ l → c.okIt x) → 0 ≤ (Yt d l k).1 ∧ (Yt d l k).1 ≤ 390 * (c.ny : Int) + 421 ∧ 0 ≤ (Yt d l k).2 ∧ (Yt d l k).2 ≤ k + l.length:=by
  intro l
  induction l with
  | nil => intro k hk _;simp [Yt];omega
  | cons x l ih =>
   intro k hk hx;have hx0:=hx x (List.mem_cons_self ..);have f1:=hx0.f1;have f2:=hx0.f2;have:=ih (k + 1) Qb (fun y hy => hx y (List.mem_cons_of_mem _ hy));rw [Yt,List.length_cons]
   split
   ·simp only;omega
   ·omega
 have:=h c.items 0 Qb hi;have e : (c.items.length : Int) ≤ 13 * (c.ny : Int):=by unfold Qd.items;omega
 unfold Qd.num;omega
set_option maxHeartbeats 2000000 in
theorem Qlb (A A' : OA) (ca cb : Nat) (c : Qd) (a b : Dt) (w : World) (hC : Q3 w A ca A' cb c) :
  Calls Tryz.prog 140 #[.agg #[.slice A c.nk ca,.slice A' c.ny cb],.agg #[.int .i64 a.y,.int .i64 a.m,.bool a.s,.int .i64 a.d],.agg #[.int .i64 b.y,.int .i64 b.m,.bool b.s,.int .i64 b.d]] w fun e w' => e = .returned (.tuple #[.int .i64 (c.schV a b),.int .i64 (c.in2E a b)]) ∧ Qc w w':=by
 rcases K7 c a b with ⟨hv,hE⟩ | ⟨hv,hh,hE⟩ | ⟨hv,hh,hE⟩
 ·have HE := zh hE;have HV : Hid (c.schV a b = 0) := by unfold Hid Qd.schV; rw [hE]; rfl
  clear hE hv
  go_enter Tryz.func140,Tryz.ntmps140
  go_wp2_with (go_at_call 94;refine (Ui _ _ _ _ c _ 2 2 (two a b) _ (hC.ext Qq) (Pm (t:=51) Je) Qb).mono ?_;rw [Rv,HE.out];rintro e wq ⟨rfl,hq⟩);go_ret2;exact ⟨by rw [HE.out,HV.out];rfl,Qq⟩
 ·have HE := zh hE;have HV : Hid (c.schV a b = 0) := by unfold Hid Qd.schV; rw [hE]; rfl
  clear hE hv
  go_enter Tryz.func140,Tryz.ntmps140
  go_wp2_with (go_at_call 94;refine (Ui _ _ _ _ c _ 2 2 (two a b) _ (hC.ext Qq) (Pm (t:=51) Je) Qb).mono ?_;rw [Rv,HE.out];rintro e wq ⟨rfl,hq⟩);go_ret2;exact ⟨by rw [HE.out,HV.out];rfl,Qq⟩
 ·have HE := zh hE;have HV : Hid (c.schV a b = 30 * ((c.num b).2 - (c.num a).2) + b.d - a.d) := by unfold Hid Qd.schV; rw [hE]; rfl
  have HL:=zh (Ox hv);have hny:=Fp hv;have HY:=zh hny;rw [Bool.and_eq_true] at hh;have hda:=Hu hh.1;have hdb:=Hu hh.2;have HDa:=zh hda;have HDb:=zh hdb;obtain ⟨hda1,hda2⟩:=hda;obtain ⟨hdb1,hdb2⟩:=hdb;have hna:=Qad c a hda1 hda2;have hnb:=Qad c b hdb1 hdb2;obtain ⟨hna1,hna2,hna3,hna4⟩:=hna;obtain ⟨hnb1,hnb2,hnb3,hnb4⟩:=hnb;clear hE hv hh
  go_enter Tryz.func140,Tryz.ntmps140
  go_wp2_with (go_at_call 94;refine (Ui _ _ _ _ c _ 2 2 (two a b) _ (hC.ext Qq) (Pm (t:=51) Je) Qb).mono ?_;rw [Rv,HE.out];rintro e wq ⟨rfl,hq⟩;have hcb:=(Qa.ext (b:=w.heap.size) (t:=25) (cs:=#[.slice A c.nk ca,.slice A' c.ny cb]) Je hq);have hab:=(Qa.ext (b:=w.heap.size + 1) (t:=51) (cs:=#[.int .i64 a.y,.int .i64 a.m,.bool a.s,.int .i64 a.d]) Je hq);have hbb:=(Qa.ext (b:=w.heap.size + 1 + 1) (t:=51) (cs:=#[.int .i64 b.y,.int .i64 b.m,.bool b.s,.int .i64 b.d]) Je hq);obtain ⟨k0,k1⟩:=hcb.c2;obtain ⟨e0,e1,e2,e3⟩:=hab.c4);refine (Gr _ _ _ _ c a _ (hC.ext Qq) HL.out HY.out HDa.out).mono ?_;rintro e wn ⟨rfl,hn⟩
  obtain ⟨k0,k1⟩:=(hcb.ext hn).c2;obtain ⟨g0,g1,g2,g3⟩:=(hbb.ext hn).c4;go_wp2_with (fail);refine (Gr _ _ _ _ c b _ (hC.ext Qq) HL.out HY.out HDb.out).mono ?_;rintro e wm ⟨rfl,hm⟩;obtain ⟨y0,y1,y2,y3⟩:=((hab.ext hn).ext hm).c4;obtain ⟨z0,z1,z2,z3⟩:=((hbb.ext hn).ext hm).c4;go_wp2;go_ret2;exact ⟨by rw [HE.out,HV.out];rfl,Qq⟩
end
section
open Go Go.RowKit
attribute [local go_sem] Zu
theorem Ls (w : World) (l : List Value) (t : TypeId) : ∀ j u,l[j]? = some u → (w.alloc (.cells l.toArray t)).cell? ((⟨w.heap.size,0,none⟩ : Addr).add j) = some u:=fun j u hj => by
 have h:=(Qa.new w t l.toArray).cell j;have e : ((⟨w.heap.size,0,none⟩ : Addr).add j) = ⟨w.heap.size,j,none⟩:=by unfold Addr.add;split <;> simp_all
 rw [e,h]
 simpa using hj
theorem Q1 {w w' : World} {base size n : Nat} {e : TypeId} {v : Value} {xs : List Value} (h : w.ownsRow base e size v n xs) (x : Qc w w') : w'.ownsRow base e size v n xs:=h.kept (L7 x) (by
 rcases h.2 with ⟨rfl,_⟩ | ⟨g,cap,cur,rfl,_⟩
 ·exact .inl rfl
 ·exact .inr (fun e => by cases e))
def mrow (y : Yr) (i : Nat) : List Value:=[.int .i64 (y.mos.getD i (0,false)).1,.bool (y.mos.getD i (0,false)).2,.int .i64 (y.len (y.mos.getD i (0,false)).1 (y.mos.getD i (0,false)).2)]
def Fz (w : World) (v : Value) (y : Yr) : Prop:=∃ A cap,v = .slice A y.mos.length cap ∧ Qo w A y.mos.length 3 (mrow y)
theorem Fz.ext {w w' : World} {v : Value} {y : Yr} (h : Fz w v y) (e : Qc w w') : Fz w' v y:=by
 obtain ⟨A,cap,hv,hr⟩:=h;exact ⟨A,cap,hv,hr.ext e⟩
theorem Qdc {P : Program} {w : World} (t ty e : TypeId) (i : TypeInfo) (z : Value) (ht : P.underlying t = some (.slice e)) (hi : P.info? e = some i) (hz : i.zero = some z) :
  (Builtin.append_ #[t,t] ty #[.slice none 0 0,.slice none 0 0]).run P w = .ok (.slice none 0 0) w:=by
 simp [Builtin.append_,run_underlying ht,sizeOf,typeInfo,zeroValue,hi,hz,Builtin.lenOf,run_firstCells_none]
theorem Qcr {P : Program} {ops : Array Oper} {rest : List Oper} {o : Oper} {a : Act} {w : World} {Q : Exit → Act → World → Prop} (hgd : o.guard = none) (s x : Operand) (t : TypeId)
  (ho : o.op = .call { callee:=.builtin .append,args:=#[s,x],argTypes:=#[t,t] })
  (base : Nat) (e : TypeId) (i : TypeInfo) (z : Value) (size bytes : Nat) (ht : P.underlying t = some (.slice e)) (hi : P.info? e = some i) (hz : i.zero = some z)
  (hsize : i.size = size) (hby : i.bytes = bytes) (hzs : z.cells.size = size) (hsz : 0 < size) (hs : a.eval s = .slice none 0 0)
  (A : OA) (m c : Nat) (news : List Value) (hx : a.eval x = .slice A m c) (hnil : A = none → m = 0 ∧ c = 0) (hl : news.length = m * size) (hnews : ∀ ad,A = some ad → ∀ j u,news[j]? = some u → w.cell? (ad.add j) = some u) (h1 : ∀ u ∈ news,u.oneCell' = true)
  (h63 : m ≤ maxLen) (hbytes : m * bytes ≤ 140737488355328) (hbase : base ≤ w.heap.size)
  (h : ∀ v' w',w'.ownsRow base e size v' m news → w.grownBy w' none → wpList P ops Q rest (a.put o.dst v') w') :
  wpList P ops Q (o :: rest) a w:=by
 cases A with
 | some ad =>
  refine wpList_append_own_at _ hgd s x t ho base e i z size bytes ht hi hz hsize hby hzs hsz (.slice none 0 0) 0 [] hs (World.ownsRow_nil w base e size) ad m c news hx hl (hnews ad rfl) h1 Qb (by rw [Nat.zero_add];exact hbytes) hbase ?_;intro v' w' g1 g2 _ _;rw [Nat.zero_add,List.nil_append] at g1
  exact h v' w' g1 g2
 | none =>
  obtain ⟨rfl,rfl⟩:=hnil rfl;have hn : news = []:=List.eq_nil_of_length_eq_zero (by simpa using hl);subst hn;refine wpList_plain hgd fun K hK => ?_
  have hr:=Qdc (P:=P) (w:=w) t o.type e i z ht hi hz;unfold Oper.wp execOp;simp only [ho,resolve,invoke,builtin,Sem.run_bind,Sem.run_pure,Result.andThen_ok,List.map_toArray,List.map_cons,List.map_nil,hs,hx,hr];exact hK _ _ (h _ w (World.ownsRow_nil w base e size) (World.grownBy.refl _ _))
def Q7 (f : Nat → List Value) (n : Nat) : List Value:=(List.range n).flatMap f
theorem U0 (f : Nat → List Value) (k : Nat) : Q7 f (k + 1) = Q7 f k ++ f k:=by simp [Q7,List.range_succ]
theorem Xz {f : Nat → List Value} {sz : Nat} (hf : ∀ i,(f i).length = sz) : ∀ k,(Q7 f k).length = k * sz
 | 0 => by simp [Q7]
 | k + 1 => by rw [U0,List.length_append,Xz hf k,hf,Nat.succ_mul]
theorem Vk {f : Nat → List Value} {sz : Nat} (hf : ∀ i,(f i).length = sz) : ∀ {k i j : Nat},i < k → j < sz → (Q7 f k)[i * sz + j]? = (f i)[j]?
 | k + 1,i,j,hi,hj => by
  rw [U0];by_cases h : i = k
  ·subst h;rw [List.getElem?_append_right (by rw [Xz hf];omega),Xz hf,Nat.add_sub_cancel_left]
  ·have hik : i < k:=Qb;have hlt : i * sz + j < k * sz:=Nat.lt_of_lt_of_le (show i * sz + j < (i + 1) * sz by rw [Nat.succ_mul];omega) (Nat.mul_le_mul_right sz hik);rw [List.getElem?_append_left (by rw [Xz hf];exact hlt)];exact Vk hf hik hj
theorem Qkc (b o j : Nat) : (⟨b,o,none⟩ : Addr).add j = ⟨b,o + j,none⟩:=by unfold Addr.add;split <;> simp_all
theorem Ly {w : World} {A : OA} {n sz : Nat} {f : Nat → List Value} (hf : ∀ i,(f i).length = sz) (hs : 0 < sz) (h : Qo w A n sz f) : ∀ ad,A = some ad → ∀ j u,(Q7 f n)[j]? = some u → w.cell? (ad.add j) = some u:=fun ad hA j u hj => by
 have hjl : j < n * sz:=by have:=(List.getElem?_eq_some_iff.1 hj).1;rwa [Xz hf] at this
 have hn : 0 < n:=Nat.pos_of_ne_zero (fun e => by subst e;omega);obtain ⟨b,o,e,_,hc⟩:=h hn;obtain rfl : ad = ⟨b,o,none⟩:=Option.some.inj (hA.symm.trans e);have hi : j / sz < n:=(Nat.div_lt_iff_lt_mul hs).2 hjl;have hm:=Nat.mod_lt j hs;have hd:=Nat.div_add_mod j sz;have he : j / sz * sz + j % sz = j:=by rw [Nat.mul_comm];exact hd
 have:=Vk hf hi hm;rw [he,hj] at this;rw [Qkc];have:=hc (j / sz) (j % sz) u hi this.symm;rw [show o + j / sz * sz + j % sz = o + j by omega] at this;exact this
theorem Vl {w : World} {base k sz : Nat} {e : TypeId} {v : Value} {f : Nat → List Value} (hf : ∀ i,(f i).length = sz) (h : w.ownsRow base e sz v k (Q7 f k)) : ∃ F c,v = .slice F k c ∧ Qo w F k sz f ∧ k ≤ c ∧ c ≤ maxLen ∧ (F = none → k = 0 ∧ c = 0) ∧ ∀ a,F = some a → base ≤ a.block:=by
 rcases h.2 with ⟨rfl,h0⟩ | ⟨q,cap,cur,rfl,hb,hq,hn,hm,_⟩
 ·exact ⟨none,0,by rw [h0],fun hp => by omega,Qb,Qb,fun _ => ⟨h0,rfl⟩,fun a h => by cases h⟩
 ·refine ⟨_, _, rfl, fun _ => ⟨q, 0, rfl, (Array.getElem?_eq_some_iff.1 hq).1, fun i j v hi hv => ?_⟩, hn, hm, (fun h => by cases h), fun a h => by cases h; exact hb⟩;have hj : j < sz := by have := (List.getElem?_eq_some_iff.1 hv).1; rwa [hf] at this
  have hlt : i * sz + j < k * sz:=Nat.lt_of_lt_of_le (show i * sz + j < (i + 1) * sz by rw [Nat.succ_mul];omega) (Nat.mul_le_mul_right sz hi);rw [Nat.zero_add,World.ownsRow.cellAt h (i * sz + j) hlt,Vk hf hi hj];exact hv
theorem C3 {f : Nat → List Value} {n : Nat} (h : ∀ i,∀ u ∈ f i,u.oneCell' = true) : ∀ u ∈ Q7 f n,u.oneCell' = true:=fun u hu => by
 obtain ⟨i,_,hi⟩:=List.mem_flatMap.1 hu;exact h i u hi
theorem Qmn {P : Program} {id : Nat} {Q : Exit → Act → World → Prop} {a : Act} {w : World} {l : List Oper} (n : Nat) (W : World) (hm : P.follows .mixedOrders = true) (hn : n = l.length) (he : Qc W w)
  (h : Nonempty (XW W) → (∀ (u : XW W) b o,b < W.heap.size → u.w.cell? ⟨b,o,none⟩ = W.cell? ⟨b,o,none⟩) →
   ∀ w',Qc w w' → Yy P .any l.toArray (Qc W) (fun a w => Q .normal a w) n (Array.replicate n false) a w') : (Code.region id l.toArray true).wp P Q a w:=by
 have H:=h (XW.some W) (fun u => u.cell) { w with drawn:=w.drawn + 1 } ⟨rfl,rfl,rfl,Nat.le_refl _,fun _ _ => rfl⟩;have _:=he;refine Code.wp_mono (Q:=Zx fun a w => Q .normal a w) (fun e a' w' h' => by cases e <;> first | exact h' | exact False.elim h') (wp_region_any hm (P7 (C:=Qc W) _ _ _ _ ?_));subst hn
 simpa using H
theorem Qbg {w : World} {A : OA} {n sz : Nat} {f : Nat → List Value} (h : Qo w A n sz f) {p : Addr} (u : Value) (hne : ∀ a,A = some a → a.block ≠ p.block) : Qo (w.setCell p u) A n sz f:=fun h0 => by
 obtain ⟨b,off,hA,hb,hc⟩:=h h0;refine ⟨b,off,hA,by simpa [World.setCell] using hb,fun i j v hi hv => ?_⟩;have hb2 : p.block ≠ b:=fun e => hne _ hA e.symm
 rw [World.cell?_setCell_other _ _ _ _ (fun e => hb2 (by rw [e]))];exact hc i j v hi hv
theorem Fc {w : World} {A : OA} {n sz : Nat} {f : Nat → List Value} {b : Nat} (h : Qo w A n sz f) (hne : ∀ a,A = some a → a.block ≠ b) (i j : Nat) (u x : Value) : Qo ((w.setCell ⟨b,i,none⟩ u).setCell ⟨b,j,none⟩ x) A n sz f:=Qbg (Qbg h u hne) x hne
theorem Qp {W : World} {b : Nat} {t : TypeId} {v0 v1 : Value} (h : Qa W b t #[v0,v1]) (u0 u1 : Value) : Qa ((W.setCell ⟨b,0,none⟩ u0).setCell ⟨b,1,none⟩ u1) b t #[u0,u1]:=by unfold Qa at h ⊢;simp [World.setCell,Array.getElem?_modify,h]
end
section
open Go Go.RowKit
section
variable {P : Program} {ops : Array Oper} {md : Region.Mode} {C : World → Prop} {R : Act → World → Prop}
theorem Ps {W : World} (hW : C W) {A : Act} {o : Oper} {l : List Oper} {a : Act} (hb : Yb (o :: l) = true) (hz : ∀ d,o.dst = some d → d < a.tmps.size) (h : ∀ u,C u → wpQuiet P ops (fun w' => w' = u) (fun a' => a' = A) (o :: l) a) :
  ∃ v,Wp P ops C o v a ∧ ∀ u,C u → wpQuiet P ops (fun w' => w' = u) (fun a' => a' = A) l (a.put o.dst v):=by
 simp only [Yb,Bool.and_eq_true] at hb;obtain ⟨⟨hg,hd⟩,_⟩:=hb
 cases ho : o.dst with
 | none => rw [ho] at hd;cases hd
 | some d =>
  rw [ho] at hd
  have hw : Region.wanted o (yielded ops a.tmps) = true:=by
   unfold Region.wanted
   cases hgo : o.guard with
   | none => rfl
   | some g => rw [hgo] at hg;cases hg
  have each : ∀ u,C u → ∃ v,o.quietAt P a (fun w' => w' = u) u v ∧ A.tmps[d]? = some v ∧ wpQuiet P ops (fun w' => w' = u) (fun a' => a' = A) l (a.put (some d) v):=fun u hu => by
   have h1:=h u hu;unfold wpQuiet at h1;rw [if_pos hw] at h1;obtain ⟨v,h2,h3⟩:=h1;rw [ho] at h3;refine ⟨v,h2 _ rfl,?_,h3⟩;rw [G4 l _ hd h3];simp [Act.put,hz d ho]
  obtain ⟨v,_,hv,_⟩:=each W hW
  have same : ∀ u,C u → o.quietAt P a (fun w' => w' = u) u v ∧ wpQuiet P ops (fun w' => w' = u) (fun a' => a' = A) l (a.put (some d) v):=fun u hu => by
   obtain ⟨v',h1,h2,h3⟩:=each u hu;have e : v' = v:=Option.some.inj (h2.symm.trans hv);subst e;exact ⟨h1,h3⟩
  exact ⟨v,⟨hw,fun w hw => (same w hw).1⟩,fun u hu => (same u hu).2⟩
theorem Dn {W : World} (hW : C W) {A : Act} {g : Nat} (hs : Region.noSelect ops = true) : ∀ (ks : List Nat) (l : List Oper) (L : Array Bool) (a : Act),l.map some = ks.map (fun k => ops[k]?) → Yb l = true → Xa a l = true →
  Lf md ops ks L = true → (∀ u,C u → wpQuiet P ops (fun w' => w' = u) (fun a' => a' = A) l a) → Yy P md ops C R g (Uu ks L) A W → Yy P md ops C R (l.length + g) L a W
 | [],[],L,a,_,_,_,_,h,H => by
  have e : a = A:=h W hW;subst e;rw [List.length_nil,Nat.zero_add]
  exact H
 | k :: ks,o :: l,L,a,hl,hd,hz,hB,h,H => by
  simp only [List.map_cons,List.cons.injEq] at hl;have h0 : ops[k]? = some o:=hl.1.symm;simp only [Lf,Bool.and_eq_true] at hB;obtain ⟨⟨hr,hf⟩,hB'⟩:=hB;have hzo:=hz;simp only [Xa,List.all_cons,Bool.and_eq_true] at hzo;obtain ⟨v,hy,hn⟩:=Ps hW hd (fun d he => by have:=hzo.1;rw [he] at this;simpa using this) h;have hd' : Yb l = true:=by simp only [Yb,Bool.and_eq_true] at hd;exact hd.2
  have hsz : (a.put o.dst v).tmps.size = a.tmps.size:=by cases o.dst <;> simp [Act.put]
  rw [show (o :: l).length + g = (l.length + g) + 1 by simp only [List.length_cons];omega]
  exact Qcm h0 (Region.noSelect_spec hs) _ L a W (Region.free_spec h0 hf) (by simpa using hr) hW hy
   (Dn hW hs ks l _ _ hl.2 hd' (by unfold Xa;rw [hsz];exact hzo.2) hB' hn H)
 | [],_ :: _,_,_,hl,_,_,_,_,_ => by simp at hl
 | _ :: _,[],_,_,hl,_,_,_,_,_ => by simp at hl
theorem Dk {g f : Nat} {L : Array Bool} {a : Act} {w : World} (ks : List Nat) (l : List Oper) (hl : Kt ops ks l) (hB : (Region.noSelect ops && Yb l && Lf md ops ks L && decide (f = l.length + g)) = true) (hz : Xa a l = true) (hw : C w)
  (h : ∃ A,(∀ u,C u → wpQuiet P ops (fun w' => w' = u) (fun a' => a' = A) l a) ∧ Yy P md ops C R g (Uu ks L) A w) : Yy P md ops C R f L a w:=by
 obtain ⟨A,h1,h2⟩:=h;simp only [Bool.and_eq_true,decide_eq_true_eq] at hB;obtain ⟨⟨⟨hs,hd⟩,hk⟩,rfl⟩:=hB;exact Dn hw hs ks l L a (Oe hl) hd hz hk h1 h2
end
theorem Qcu {P : Program} {id : Nat} {Q : Exit → Act → World → Prop} {a : Act} {w : World} {l : List Oper} (n : Nat) (C : World → Prop) (hm : P.follows .mixedOrders = true) (hn : n = l.length)
  (h : ∀ w',Qc w w' → Yy P .any l.toArray C (fun a w => Q .normal a w) n (Array.replicate n false) a w') : (Code.region id l.toArray true).wp P Q a w:=by
 have H:=h { w with drawn:=w.drawn + 1 } ⟨rfl,rfl,rfl,Nat.le_refl _,fun _ _ => rfl⟩;refine Code.wp_mono (Q:=Zx fun a w => Q .normal a w) (fun e a' w' h' => by cases e <;> first | exact h' | exact False.elim h') (wp_region_any hm (P7 (C:=C) _ _ _ _ ?_));subst hn
 simpa using H
end
section
open Go Go.RowKit Go.Shelf
attribute [local go_sem] Zu
def Zg (f : Nat → Nat) (i : Nat) : List Value:=[.int .u64 (f i : Int)]
def Vz (l : List Nat) : List Value:=l.map fun (x : Nat) => Value.int .u64 (x : Int)
theorem Qly (l : List Nat) (x : Nat) : Vz l ++ [.int .u64 (x : Int)] = Vz (l ++ [x]):=by simp [Vz]
theorem Sb : (Tryz.prog.info? 245).map (fun i => (i.zero,i.size,i.bytes)) = some (some (.int .u64 0),1,8):=by kernel_rfl
theorem Qca {w : World} {base k : Nat} {v : Value} {l : List Nat} (hk : k = l.length) (h : w.ownsRow base 245 1 v k (Vz l)) : ∃ F c,v = .slice F k c ∧ Qo w F k 1 (Zg fun i => l.getD i 0) ∧ k ≤ c ∧ c ≤ maxLen ∧ (F = none → k = 0 ∧ c = 0) ∧ ∀ a,F = some a → base ≤ a.block:=by
 have e : Vz l = Q7 (Zg fun i => l.getD i 0) k:=by
  subst hk;apply List.ext_getElem?;intro j;by_cases hj : j < l.length
  ·have:=Vk (f:=Zg fun i => l.getD i 0) (sz:=1) (fun _ => rfl) (i:=j) (j:=0) hj zD;rw [Nat.mul_one,Nat.add_zero] at this;rw [this];simp [Vz,Zg,List.getD_eq_getElem?_getD,List.getElem?_eq_getElem hj]
  ·rw [List.getElem?_eq_none (by simp [Vz];omega),List.getElem?_eq_none (by rw [Xz (f:=Zg fun i => l.getD i 0) (sz:=1) (fun _ => rfl)];omega)]
 rw [e] at h;obtain ⟨F,c,h1,h2,h3,h4,h5,h6⟩:=Vl (f:=Zg fun i => l.getD i 0) (fun _ => rfl) h;exact ⟨F,c,h1,h2,h3,h4,h5,h6⟩
set_option maxHeartbeats 2000000 in
theorem Qb4 (A : OA) (n ca : Nat) (f : Nat → Nat) (w : World) (hA : Qo w A n 1 (Zg f)) (hn : n ≤ 1000000) :
  Calls Tryz.prog 194 #[.slice A n ca] w fun e w' => ∃ v,e = .returned v ∧ Qc w w' ∧ w'.ownsRow w.heap.size 245 1 v (Zf f n).length (Vz (Zf f n)):=by
 obtain ⟨i0,hi,hz0,hz1,hz2⟩:=info_parts Sb
 go_enter Tryz.func194,Tryz.ntmps194
 go_upto_region 3 with fail
 go_loopw [3,8] (fun o i wr => ∃ k : Nat,k ≤ n ∧ i = .int .i64 k ∧ Qc w wr ∧ wr.ownsRow w.heap.size 245 1 o (Zf f k).length (Vz (Zf f k))) (fun _ i _ => n - (intOf i).toNat)
 case atStart => exact ⟨0,Nat.zero_le _,rfl,Qc.refl _,World.ownsRow_nil _ _ _ _⟩
 case round =>
  obtain ⟨k,hk,rfl,hE,hO⟩:=hrel;obtain ⟨wo,rfl⟩:=Qf wr;by_cases hlt : k < n
  ·obtain ⟨b, off, rfl, hb, hc⟩ := (hA.ext hE) Qb;have c0 : wo.cell? ⟨b, off + k, none⟩ = some (.int .u64 (f k : Int)) := by simpa using hc k 0 _ hlt rfl
   have hml:=Fl f k;have HM:=zh hml;clear hml hc hA;by_cases h1 : f k = 1
   ·have hs : Hid (Zf f (k + 1) = Zf f k) := by unfold Hid; rw [Zf, if_pos h1]
    rw [h1] at c0;clear h1;rw [← hs.out] at hO;clear hs HM;go_wp2;exact ⟨⟨k + 1,Qb,by go_num,hE,hO⟩,zi⟩
   ·have hs : Hid (Zf f (k + 1) = Zf f k ++ [f k]) := by unfold Hid; rw [Zf, if_neg h1]
    have hb1 : ((f k : Int) != 1) = true:=by rw [bne,zb Qb];rfl
    clear h1;generalize f k = x at *;go_upto_region 7 with (at_builtin;refine wpList_append_own_at _ rfl _ _ 250 rfl w.heap.size 245 i0 (.int .u64 0) 1 8 Tryz.underlying250 hi hz0 hz1 hz2 rfl zD _ _ _ rfl (hO.alloc _) ⟨wo.heap.size,0,none⟩ 1 1 [.int .u64 (x : Int)] rfl rfl (Ls _ _ _) (by simp [Value.oneCell']) (by have:=HM.out;unfold maxLen;omega) (by have:=HM.out;omega) (by have:=hE.size;simp;omega) ?_;intro o' w2 hown hgrow _ _)
    have E2 : Qc w w2:=(hE.alloc _).grown hgrow (fun q hq => (hO.lt q hq).1);rw [Qly,← hs.out] at hown;have hl4 : (Zf f k).length + 1 = (Zf f (k + 1)).length:=by rw [hs.out];simp
    rw [hl4] at hown;clear hs hgrow hl4;go_wp2;exact ⟨⟨k + 1,Qb,by go_num,E2,hown⟩,zi⟩
  ·obtain rfl : k = n:=Qb;go_wp2;go_ret;exact ⟨_,rfl,hE,hO⟩
theorem Z9 {W : World} {base size k : Nat} {e : TypeId} {v : Value} {xs : List Value} (h : W.ownsRow base e size v k xs) : ∃ F m,v = .slice F k m:=by
 rcases h.2 with ⟨rfl,h0⟩ | ⟨g,cap,cur,rfl,_⟩
 ·exact ⟨none,0,by rw [h0]⟩
 ·exact ⟨_,_,rfl⟩
theorem Qg {W : World} {b b' : Nat} {t : TypeId} {cs : Array Value} (h : Qa W b t cs) (hne : b ≠ b') (j : Nat) (u : Value) : Qa (W.setCell ⟨b',j,none⟩ u) b t cs :=
 h.kept ⟨rfl,rfl,rfl,(KeepsWalks.setCell W _ u).size,fun k _ hk => Below.heap_setCell _ _ _ k (fun e => hk (by rw [e]))⟩ (fun e => hne (by cases e;rfl))
theorem Vu {w : World} {base : Nat} {e : TypeId} {size : Nat} {v : Value} {n : Nat} {xs : List Value} (h : w.ownsRow base e size v n xs) (hn : 0 < n) : ∃ g cap,v = .slice (some ⟨g,0,none⟩) n cap ∧ base ≤ g ∧ g < w.heap.size:=by
 rcases h.2 with ⟨_,h0⟩ | ⟨g,cap,cur,hv,hb,hg,_⟩
 ·omega
 ·exact ⟨g,cap,hv,hb,(Array.getElem?_eq_some_iff.1 hg).1⟩
theorem N9 {w : World} {base : Nat} {e : TypeId} {size g c : Nat} {n m : Nat} {xs : List Value} (h : w.ownsRow base e size (.slice (some ⟨g,0,none⟩) m c) n xs) : g < w.heap.size:=by
 rcases h.2 with ⟨h',_⟩ | ⟨g',cap,cur,hv,hb,hg,_⟩
 ·cases h'
 ·cases hv;exact (Array.getElem?_eq_some_iff.1 hg).1
def Ci (A : Value → Value → Act) (S : World → Value → Value → Prop) : Exit → Act → World → Prop:=fun e a' w' => e = .normal ∧ ∃ p q,S w' p q ∧ a' = A p q
theorem Qe1 {A : Value → Value → Act} {S : World → Value → Value → Prop} {w' : World} (p q : Value) {a' : Act} (h : S w' p q) (ha : a' = A p q) : Ci A S .normal a' w':=⟨rfl,p,q,h,ha⟩
theorem Qmi {P : Program} {c : Code} {Q : Exit → Act → World → Prop} {a : Act} {w : World} {A : Value → Value → Act} (S : World → Value → Value → Prop) (h1 : c.wp P (Ci A S) a w) (h2 : ∀ p q w',S w' p q → Q .normal (A p q) w') : c.wp P Q a w :=
 Code.wp_mono (fun e a' w' ⟨he,p,q,hs,ha⟩ => by subst he;subst ha;exact h2 p q w' hs) h1
theorem Qlx (f : Nat → Nat) (n i x : Nat) (hi : i < n) : (Q7 (Zg f) n).set i (.int .u64 (x : Int)) = Q7 (Zg (Jl f i x)) n:=by
 apply List.ext_getElem?;intro j;have hl : (Q7 (Zg f) n).length = n:=by have:=Xz (f:=Zg f) (sz:=1) (fun _ => rfl) n;omega
 have hg : ∀ (g : Nat → Nat) k,k < n → (Q7 (Zg g) n)[k]? = some (.int .u64 (g k : Int)):=fun g k hk => by
  have:=Vk (f:=Zg g) (sz:=1) (fun _ => rfl) (i:=k) (j:=0) hk zD;rw [Nat.mul_one,Nat.add_zero] at this;rw [this];rfl
 rw [List.getElem?_set];by_cases e : i = j
 ·subst e;rw [if_pos rfl,if_pos Qb,hg _ _ hi];simp [Jl]
 ·rw [if_neg e];by_cases hj : j < n
  ·rw [hg _ _ hj,hg _ _ hj];simp [Jl,show j ≠ i by omega]
  ·rw [List.getElem?_eq_none Qb,List.getElem?_eq_none (by have:=Xz (f:=Zg (Jl f i x)) (sz:=1) (fun _ => rfl) n;omega)]
theorem Mw {w : World} {base g n cap : Nat} {f : Nat → Nat} (h : w.ownsRow base 245 1 (.slice (some ⟨g,0,none⟩) n cap) n (Q7 (Zg f) n)) {i : Nat} (hi : i < n) : w.cell? ⟨g,i,none⟩ = some (.int .u64 (f i : Int)):=by
 rw [World.ownsRow.cellAt h i Qb];have:=Vk (f:=Zg f) (sz:=1) (fun _ => rfl) (i:=i) (j:=0) hi zD;rw [Nat.mul_one,Nat.add_zero] at this;rw [this];rfl
theorem Py {w : World} {base g n cap : Nat} {f : Nat → Nat} (h : w.ownsRow base 245 1 (.slice (some ⟨g,0,none⟩) n cap) n (Q7 (Zg f) n)) {i : Nat} (hi : i < n) (x : Nat) :
  (w.setCell ⟨g,i,none⟩ (.int .u64 (x : Int))).ownsRow base 245 1 (.slice (some ⟨g,0,none⟩) n cap) n (Q7 (Zg (Jl f i x)) n):=by
 have:=(World.ownsRow.stored h i (.int .u64 (x : Int))).1
 rwa [Qlx f n i x hi] at this
theorem Px {w : World} {base g n cap g' i : Nat} {f : Nat → Nat} (h : w.ownsRow base 245 1 (.slice (some ⟨g,0,none⟩) n cap) n (Q7 (Zg f) n)) (hne : g ≠ g') (u : Value) :
  (w.setCell ⟨g',i,none⟩ u).ownsRow base 245 1 (.slice (some ⟨g,0,none⟩) n cap) n (Q7 (Zg f) n) :=
 h.kept ⟨rfl,rfl,rfl,(KeepsWalks.setCell w _ u).size,fun k _ hk => Below.heap_setCell _ _ _ k (fun e => hk (by rw [e]))⟩ (.inr (fun e => hne (by cases e;rfl)))
theorem Qks (A A' : OA) (n m ca cb : Nat) (fu fd : Nat → Nat) (w : World) (hA : Qo w A n 1 (Zg fu)) (hA' : Qo w A' m 1 (Zg fd)) (hnA : A = none → n = 0 ∧ ca = 0) (hnA' : A' = none → m = 0 ∧ cb = 0)
  (hn : n ≤ 1000) (hm : m ≤ 1000) (hu1 : ∀ i,i < n → 1 ≤ fu i) (hu2 : ∀ i,i < n → fu i < 18446744073709551616) (hd1 : ∀ i,i < m → 1 ≤ fd i) (hd2 : ∀ i,i < m → fd i < 18446744073709551616) :
  Calls Tryz.prog 186 #[.agg #[.slice A n ca,.slice A' m cb]] w fun e w' => ∃ U D F c F' c',We fu fd n m U D n 0 ∧ e = .returned (.agg #[.slice F (Zf U n).length c,.slice F' (Zf D m).length c']) ∧ Qc w w' ∧
   Qo w' F (Zf U n).length 1 (Zg fun i => (Zf U n).getD i 0) ∧ Qo w' F' (Zf D m).length 1 (Zg fun i => (Zf D m).getD i 0) ∧ (∀ a,F = some a → w.heap.size ≤ a.block) ∧ (∀ a,F' = some a → w.heap.size ≤ a.block):=by
 obtain ⟨i0,hi,hz0,hz1,hz2⟩:=info_parts Sb;have hlu:=Xz (f:=Zg fu) (sz:=1) (fun _ => rfl) n;have hld:=Xz (f:=Zg fd) (sz:=1) (fun _ => rfl) m;have hone : ∀ g k,∀ u ∈ Q7 (Zg g) k,u.oneCell' = true:=fun g k => C3 (f:=Zg g) (n:=k) (fun i u hu => by simp [Zg] at hu;subst hu;simp [Value.oneCell'])
 have HNU:=fun v (h : Qo v A n 1 (Zg fu)) => Ly (f:=Zg fu) (sz:=1) (fun _ => rfl) zD h
 have HND:=fun v (h : Qo v A' m 1 (Zg fd)) => Ly (f:=Zg fd) (sz:=1) (fun _ => rfl) zD h
 go_enter Tryz.func186,Tryz.ntmps186
 go_upto_region 1 with fail
 obtain ⟨v,hv⟩:=Qf ((w.alloc (.cells #[.slice A n ca,.slice A' m cb] 252)).alloc (.cells #[.slice none 0 0,.slice none 0 0] 252));rw [← hv];have E : Qc w v:=by rw [hv];exact ((Qc.refl _).alloc _).alloc _
 have B1 : Qa v w.heap.size 252 #[.slice A n ca,.slice A' m cb]:=by rw [hv];exact (Qa.new _ _ _).alloc _
 have B2 : Qa v (w.heap.size + 1) 252 #[.slice none 0 0,.slice none 0 0]:=by rw [hv];exact Qa.at _ _ _ _ (by simp)
 clear hv;have RA:=hA.ext E;have RA':=hA'.ext E;clear hA hA';have hb2 : w.heap.size ≤ w.heap.size + 1:=Nat.le_succ _;have hvs : w.heap.size + 1 < v.heap.size:=B2.lt;generalize w.heap.size + 1 = b2 at *;generalize hb1 : w.heap.size = b1 at *;replace hb1:=zh hb1;obtain ⟨k0,k1,lk⟩:=Qa.d2 B1;apply Qmi (S:=fun w' p q => Qc v w' ∧ w'.ownsRow v.heap.size 245 1 p n (Q7 (Zg fu) n) ∧ w'.ownsRow v.heap.size 245 1 q m (Q7 (Zg fd) m) ∧ ∀ x y,p.ownBlock = some x → q.ownBlock = some y → x ≠ y)
 ·refine Qmn 8 v mixed rfl (Qc.refl _) ?_;intro hne hrx v3 h3;refine Dj (g:=4) [0,1,3,4] [_,_,_,_] ⟨rfl,rfl,rfl,rfl,trivial⟩ zK zK h3 ?_;simp only [Za,Zb,Zc];apply Exists.intro;refine ⟨fun u => ?_,?_⟩
  ·exact Qi
  refine Ux 2 rfl zK ?_;simp only [Za,Zb,Zc];go_wp2_with (at_builtin;refine Qcr rfl _ _ 250 rfl v3.heap.size 245 i0 (.int .u64 0) 1 8 Tryz.underlying250 hi hz0 hz1 hz2 rfl zD rfl A n ca (Q7 (Zg fu) n) rfl hnA hlu (HNU _ (RA.ext h3)) (hone _ _) (by unfold maxLen;omega) Qb (Nat.le_refl _) ?_;intro p w4 hP hg);have h4 : Qc v3 w4:=(Qc.refl _).grown hg (fun q hq => by cases hq);clear hg;have e4:=h3.trans h4;refine Qe e4 ?_;refine Ux 5 rfl zK ?_;simp only [Za,Zb,Zc];go_wp2_with (at_builtin;refine Qcr rfl _ _ 250 rfl w4.heap.size 245 i0 (.int .u64 0) 1 8 Tryz.underlying250 hi hz0 hz1 hz2 rfl zD rfl A' m cb (Q7 (Zg fd) m) rfl hnA' hld (HND _ (RA'.ext e4)) (hone _ _) (by unfold maxLen;omega) Qb (Nat.le_refl _) ?_;intro q w5 hQ hg)
  have h5 : Qc w4 w5:=(Qc.refl _).grown hg (fun q hq => by cases hq);clear hg;have e5:=e4.trans h5;refine Qe e5 ?_;refine Dj (g:=0) [6,7] [_,_] ⟨rfl,rfl,trivial⟩ zK zK e5 ?_;simp only [Za,Zb,Zc];apply Exists.intro;refine ⟨fun u => ?_,?_⟩
  ·exact Qi
  refine O5 zK ?_;exact Qe1 p q ⟨e5,World.ownsRow.mono (Q1 hP h5) h3.size,World.ownsRow.mono hQ e4.size,fun x y h1 h2 => by have:=(hP.lt x h1).2;have:=(hQ.lt y h2).1;omega⟩ rfl
 ·rintro p q w1 ⟨E1,hP,hQ,hap⟩;obtain ⟨F1,c1,rfl⟩:=Z9 hP;obtain ⟨F2,c2,rfl⟩:=Z9 hQ;have hvw:=E1.size;clear RA RA' k0 k1 lk HNU HND hone hlu hld;go_upto_region 3 with fail
  go_loopw [16] (fun iv wr => ∃ i : Nat,i ≤ n ∧ iv = .int .i64 (i : Int) ∧ Qc v wr ∧ ∃ U D,We fu fd n m U D i 0 ∧ wr.ownsRow v.heap.size 245 1 (.slice F1 n c1) n (Q7 (Zg U) n) ∧ wr.ownsRow v.heap.size 245 1 (.slice F2 m c2) m (Q7 (Zg D) m)) (fun iv _ => n - (intOf iv).toNat)
  case atStart => exact ⟨0,Nat.zero_le _,rfl,E1,fu,fd,We.start hu1 hd1,hP,hQ⟩
  case round =>
   obtain ⟨i,hi0,rfl,hEo,Uo,Do,hRo,hPo,hQo⟩:=hrel;obtain ⟨wo,rfl⟩:=Qf wr;by_cases hlt : i < n
   ·go_upto_region 6 with fail
    go_loopw [21] (fun jv wr => ∃ j : Nat,j ≤ m ∧ jv = .int .i64 (j : Int) ∧ Qc v wr ∧ ∃ U D,We fu fd n m U D i j ∧ wr.ownsRow v.heap.size 245 1 (.slice F1 n c1) n (Q7 (Zg U) n) ∧ wr.ownsRow v.heap.size 245 1 (.slice F2 m c2) m (Q7 (Zg D) m)) (fun jv _ => m - (intOf jv).toNat)
    case atStart => exact ⟨0,Nat.zero_le _,rfl,hEo,Uo,Do,hRo,hPo,hQo⟩
    case round =>
     clear hEo hRo hPo hQo;obtain ⟨j,hj0,rfl,hE,U,D,hR,hP,hQ⟩:=hrel;obtain ⟨wo,rfl⟩:=Qf wr;by_cases hltj : j < m
     ·obtain ⟨g1, x1, hf1, hg1, hl1⟩ := Vu hP Qb;obtain ⟨g2, x2, hf2, hg2, hl2⟩ := Vu hQ Qb;obtain ⟨rfl, _, rfl⟩ : F1 = some ⟨g1, 0, none⟩ ∧ n = n ∧ c1 = x1 := by simpa using hf1
      obtain ⟨rfl,_,rfl⟩ : F2 = some ⟨g2,0,none⟩ ∧ m = m ∧ c2 = x2:=by simpa using hf2
      have hne:=hap g1 g2 rfl rfl;clear hf1 hf2;have p0:=Mw hP hlt;have q0:=Mw hQ hltj;have hRS:=hR.step hlt hltj;have hU1:=hR.up i hlt;have hD1:=hR.dn j hltj;have hu2i:=hu2 i hlt;have hd2j:=hd2 j hltj;have NC:=fun w => Cf (U i) (D j) Qb w
      have hgp : 0 < Nat.gcd (U i) (D j):=Nat.gcd_pos_of_pos_right _ hD1.1;have hP2:=fun x => Py hP hlt x
      have hQ2:=fun x => Px (i:=i) hQ (Ne.symm hne) (.int .u64 (x : Int))
      generalize hgg : Nat.gcd (U i) (D j) = g at *;go_upto_region 8 with fail
      have m1:=fun x1 => NC x1
      refine Zj wo ?_;intro w2 h2;clear m1;obtain ⟨_,_,_,_⟩:=Zi wo h2;clear p0 q0 hl1 hl2;replace hP:=Q1 hP h2;replace hQ:=Q1 hQ h2;have f0:=World.ownsRow.frozenAt hP i;have f1:=World.ownsRow.frozenAt hQ j;have p0:=Mw hP hlt;have q0:=Mw hQ hltj;have l1:=(N9 hP);have l2:=(N9 hQ);have gi0 : (g : Int) ≠ 0:=Qb;have gi1 : ((g : Int) == 0) = false:=zb gi0
      have hq1 : IntKind.u64.wrap ((U i : Int) / (g : Int)) = ((U i / g : Nat) : Int):=by
       rw [IntKind.wrap_u64,← Int.natCast_ediv];have:=Nat.div_le_self (U i) g;generalize U i / g = z at this ⊢;exact Int.emod_eq_of_lt Qb Qb
      have hq2 : IntKind.u64.wrap ((D j : Int) / (g : Int)) = ((D j / g : Nat) : Int):=by
       rw [IntKind.wrap_u64,← Int.natCast_ediv];have:=Nat.div_le_self (D j) g;generalize D j / g = z at this ⊢;exact Int.emod_eq_of_lt Qb Qb
      clear hU1 hD1 hu2i hd2j NC hP2 hQ2;generalize U i / g = x1 at *;generalize D j / g = x2 at *;have E3:=(hE.trans h2).setCell (p:=⟨g1,i,none⟩) hg1 (.int .u64 (x1 : Int));have hP3:=Py hP hlt x1;have hQ3:=Px (i:=i) hQ (Ne.symm hne) (.int .u64 (x1 : Int));go_upto_region 10 with fail
      generalize World.setCell w2 _ _ = w3 at *;clear hP hQ p0 q0 l1 l2 f0 f1;have p0:=Mw hP3 hlt;have q0:=Mw hQ3 hltj;have l1:=(N9 hP3);have l2:=(N9 hQ3);have f1:=World.ownsRow.frozenAt hQ3 j;have E4:=E3.setCell (p:=⟨g2,j,none⟩) hg2 (.int .u64 (x2 : Int));have hQ4:=Py hQ3 hltj x2;have hP4:=Px (i:=j) hP3 hne (.int .u64 (x2 : Int));go_wp2;exact ⟨⟨j + 1,Qb,by go_num,E4,_,_,hRS,hP4,hQ4⟩,zi⟩
     ·obtain rfl : j = m:=Qb;go_wp2;exact ⟨⟨i + 1,Qb,by go_num,hE,U,D,hR.row,hP,hQ⟩,zi⟩
   ·obtain rfl : i = n:=Qb;have hRU:=fun w h => Qb4 F1 i c1 Uo w h Qb
    have hRD:=fun w h => Qb4 F2 m c2 Do w h Qb
    obtain ⟨F3,c3,hf1,ra,_⟩:=Vl (f:=Zg Uo) (sz:=1) (fun _ => rfl) hPo;obtain ⟨F4,c4,hf2,rb,_⟩:=Vl (f:=Zg Do) (sz:=1) (fun _ => rfl) hQo;obtain ⟨rfl,rfl⟩ : F1 = F3 ∧ c1 = c3:=by simpa using hf1
    obtain ⟨rfl,rfl⟩ : F2 = F4 ∧ c2 = c4:=by simpa using hf2
    clear hf1 hf2
    go_wp2_with (first
     | (go_at_call 194;(with_reducible refine zc (hRU _ ra) ?_);rintro e w2 ⟨va,rfl,h2,oa⟩;obtain ⟨G1,d1,rfl,ga,_,_,_,ga6⟩:=Qca rfl oa)
     | (go_at_call 194;(with_reducible refine zc (hRD _ (rb.ext h2)) ?_);rintro e w3 ⟨vb,rfl,h3,ob⟩;obtain ⟨G2,d2,rfl,gb,_,_,_,gb6⟩:=Qca rfl ob;have B3:=B2.ext ((hEo.trans h2).trans h3);have z0:=B3.frozen 0;have z1:=B3.frozen 1;obtain ⟨y0,y1⟩:=B3.c2;have ly:=B3.lt))
    have H2:=Qp B3 (.slice G1 (Zf Uo i).length d1) (.slice G2 (Zf Do m).length d2);have E2:=((((E.trans hEo).trans h2).trans h3).setCell (p:=⟨b2,0,none⟩) (by have:=hb1.out;show w.heap.size ≤ b2;omega) (.slice G1 (Zf Uo i).length d1)).setCell (p:=⟨b2,1,none⟩) (by have:=hb1.out;show w.heap.size ≤ b2;omega) (.slice G2 (Zf Do m).length d2);have hvs1:=hEo.size;have hvs2:=h2.size;have ga2:=Fc (ga.ext h3) (b:=b2) (fun a h => by have:=ga6 a h;omega) 0 1 (.slice G1 (Zf Uo i).length d1) (.slice G2 (Zf Do m).length d2);have gb2:=Fc gb (b:=b2) (fun a h => by have:=gb6 a h;omega) 0 1 (.slice G1 (Zf Uo i).length d1) (.slice G2 (Zf Do m).length d2)
    obtain ⟨x0,x1⟩:=H2.c2;generalize (w3.setCell ⟨b2,0,none⟩ (.slice G1 (Zf Uo i).length d1)).setCell ⟨b2,1,none⟩ (.slice G2 (Zf Do m).length d2) = wf at *;clear y0 y1 z0 z1 B3 ly;go_wp2;refine bodyPost_ret (v:=.agg #[.slice G1 (Zf Uo i).length d1,.slice G2 (Zf Do m).length d2]) (by simp [results,Tryz.results186,go_sem,x0,x1]) rfl ⟨Uo,Do,G1,d1,G2,d2,hRo,rfl,E2,ga2,gb2,fun a h => by have:=ga6 a h;have:=E.size;have:=hb1.out;omega,fun a h => by have:=gb6 a h;have:=E.size;have:=hb1.out;omega⟩
theorem Fk {f : Nat → Nat} {n k : Nat} (hk : k < (Zf f n).length) : ∃ i,i < n ∧ (Zf f n).getD k 0 = f i:=by
 refine Pv f n _ ?_;rw [List.getD_eq_getElem?_getD,List.getElem?_eq_getElem hk];exact List.getElem_mem hk
theorem Zr {x : Int} (h1 : -9223372036854775808 ≤ x) (h2 : x ≤ 9223372036854775807) : IntKind.i64.wrap x = x:=by
 rw [IntKind.wrap_i64];omega
theorem Pj (A A' : OA) (n m ca cb : Nat) (fu fd : Nat → Nat) (neg : Bool) (w : World) (hA : Qo w A n 1 (Zg fu)) (hA' : Qo w A' m 1 (Zg fd)) (hnA : A = none → n = 0 ∧ ca = 0) (hnA' : A' = none → m = 0 ∧ cb = 0)
  (hn : n ≤ 1000) (hm : m ≤ 1000) (hu1 : ∀ i,i < n → 1 ≤ fu i) (hu2 : ∀ i,i < n → fu i < 18446744073709551616) (hd1 : ∀ i,i < m → 1 ≤ fd i) (hd2 : ∀ i,i < m → fd i < 18446744073709551616) :
  Calls Tryz.prog 163 #[.agg #[.slice A n ca,.slice A' m cb],.bool neg] w fun e w' => e = .returned (.tuple #[.agg #[.int .i64 (Jk neg (upTo fu n) (upTo fd m)).1.n,.int .i64 (Jk neg (upTo fu n) (upTo fd m)).1.d],.int .i64 (Jk neg (upTo fu n) (upTo fd m)).2]) ∧ Qc w w':=by
 have NR:=fun v h1 h2 => Qks A A' n m ca cb fu fd v h1 h2 hnA hnA' hn hm hu1 hu2 hd1 hd2
 obtain ⟨R,hR0⟩:=Qf (Jk neg (upTo fu n) (upTo fd m));rw [← hR0];have HR:=zh hR0;clear hR0
 go_enter Tryz.func163,Tryz.ntmps163
 go_upto_region 1 with fail
 obtain ⟨v,hv⟩:=Qf ((w.alloc (.cells #[.slice A n ca,.slice A' m cb] 252)).alloc (.cells #[.int .i64 0,.int .i64 0] 65));rw [← hv];have E : Qc w v:=by rw [hv];exact ((Qc.refl _).alloc _).alloc _
 have B1 : Qa v w.heap.size 252 #[.slice A n ca,.slice A' m cb]:=by rw [hv];exact (Qa.new _ _ _).alloc _
 have B2 : Qa v (w.heap.size + 1) 65 #[.int .i64 0,.int .i64 0]:=by rw [hv];exact Qa.at _ _ _ _ (by simp)
 clear hv;have RA:=hA.ext E;have RA':=hA'.ext E;clear hA hA';obtain ⟨b2,hb2⟩:=Qf (w.heap.size + 1);rw [← hb2] at B2 ⊢;obtain ⟨b1,hb1⟩:=Qf (w.heap.size);rw [← hb1] at B1 ⊢;have h21 : b2 ≠ b1:=Qb;have hb1':=Nat.le_of_eq hb1.symm;have hb2' : w.heap.size ≤ b2:=Qb;clear hb1 hb2;obtain ⟨k0,k1,lk⟩:=Qa.d2 B1;go_upto_region 2 with (go_at_call 186;refine zc (NR _ RA RA') ?_;rintro e w2 ⟨U,D,G1,d1,G2,d2,hRI,rfl,h2,ga,gb,ga6,gb6⟩;have B12:=B1.ext h2;obtain ⟨k0,k1⟩:=B12.c2;have lk:=B12.lt;have f0:=B12.frozen 0;have f1:=B12.frozen 1)
 have hbv:=B1.lt;have EX:=((E.trans h2).setCell (p:=⟨b1,0,none⟩) hb1' (.slice G1 (Zf U n).length d1)).setCell (p:=⟨b1,1,none⟩) hb1' (.slice G2 (Zf D m).length d2);have H1:=Qp B12 (.slice G1 (Zf U n).length d1) (.slice G2 (Zf D m).length d2);have H2:=Qg (Qg (B2.ext h2) h21 0 (.slice G1 (Zf U n).length d1)) h21 1 (.slice G2 (Zf D m).length d2);have ga2:=Fc ga (b:=b1) (fun a h => by have:=ga6 a h;omega) 0 1 (.slice G1 (Zf U n).length d1) (.slice G2 (Zf D m).length d2);have gb2:=Fc gb (b:=b1) (fun a h => by have:=gb6 a h;omega) 0 1 (.slice G1 (Zf U n).length d1) (.slice G2 (Zf D m).length d2);generalize (w2.setCell ⟨b1,0,none⟩ (.slice G1 (Zf U n).length d1)).setCell ⟨b1,1,none⟩ (.slice G2 (Zf D m).length d2) = wf at *
 clear f0 f1 k0 k1 lk ga gb ga6 gb6 B12 B1 B2 h2 E RA RA' NR hb1' hbv;have hdone:=hRI.done neg hd1;rw [← HR.out] at hdone;have hl1:=Fl U n;have hl2:=Fl D m;have NP:=fun v h => Qck G1 (Zf U n).length d1 (fun i => (Zf U n).getD i 0) 1099511627776 zD zD (fun i hi => by obtain ⟨j,hj,e⟩:=Fk hi;rw [e];exact (hRI.up j hj).1) (fun i hi => by obtain ⟨j,hj,e⟩:=Fk hi;rw [e];exact Nat.lt_of_le_of_lt (hRI.up j hj).2 (hu2 j hj)) v h Qb
 have NQ:=fun v h => Qck G2 (Zf D m).length d2 (fun i => (Zf D m).getD i 0) 1048576 zD zD (fun i hi => by obtain ⟨j,hj,e⟩:=Fk hi;rw [e];exact (hRI.dn j hj).1) (fun i hi => by obtain ⟨j,hj,e⟩:=Fk hi;rw [e];exact Nat.lt_of_le_of_lt (hRI.dn j hj).2 (hd2 j hj)) v h Qb
 rw [Qke,Pw] at NP NQ;clear hl1 hl2 hRI hu1 hu2 hd1 hd2 hnA hnA' hn hm;generalize (Zf U n).length = n1 at *;generalize (Zf D m).length = n2 at *;generalize upTo U n = p at *;generalize upTo D m = q at *;obtain ⟨k0,k1,lk⟩:=Qa.d2 H1;obtain ⟨R0,R1⟩:=R;replace hdone:=zh hdone;by_cases hp : p ≤ 1099511627776
 ·by_cases hq : q ≤ 1048576
  ·simp only [if_pos hp,zt hp] at NP;simp only [if_pos hq,zt hq] at NQ;have hd:=hdone.out;rw [if_pos ⟨hp,hq⟩] at hd;obtain ⟨rfl,rfl⟩:=Prod.mk.inj hd;have w1 : IntKind.i64.wrap (p : Int) = (p : Int):=Zr Qb Qb;have w2 : IntKind.i64.wrap (q : Int) = (q : Int):=Zr Qb Qb;have w3 : IntKind.i64.wrap (-(p : Int)) = -(p : Int):=Zr Qb Qb;clear hp hq hd hdone HR;cases neg
   ·skip
    go_upto_region 3 with (go_at_call 187;refine zc (NP _ ga2) ?_;rintro e wa ⟨rfl,ha⟩;clear k0 k1 lk;replace H1:=H1.ext ha;obtain ⟨k0,k1⟩:=H1.c2;have lk:=H1.lt)
    replace EX:=EX.trans ha;replace H2:=H2.ext ha;replace gb2:=gb2.ext ha;clear ha ga2 NP;go_upto_region 4 with (go_at_call 187;refine zc (NQ _ gb2) ?_;rintro e wb ⟨rfl,hb⟩)
    replace EX:=EX.trans hb;replace H2:=H2.ext hb;clear hb gb2 NQ k0 k1 lk;obtain ⟨f0,f1,z0,z1,lz⟩:=Qa.e2 H2;have H3:=Qp H2 (.int .i64 (p : Int)) (.int .i64 (q : Int));have EF:=(EX.setCell (p:=⟨b2,0,none⟩) hb2' (.int .i64 (p : Int))).setCell (p:=⟨b2,1,none⟩) hb2' (.int .i64 (q : Int));obtain ⟨x0,x1⟩:=H3.c2;go_wp2;refine bodyPost_ret (v:=.tuple #[.agg #[.int .i64 (p : Int),.int .i64 (q : Int)],.int .i64 0]) (by simp [results,Tryz.results163,go_sem,x0,x1]) rfl ⟨rfl,EF⟩
   ·skip
    go_upto_region 3 with (go_at_call 187;refine zc (NP _ ga2) ?_;rintro e wa ⟨rfl,ha⟩;clear k0 k1 lk;replace H1:=H1.ext ha;obtain ⟨k0,k1⟩:=H1.c2;have lk:=H1.lt)
    replace EX:=EX.trans ha;replace H2:=H2.ext ha;replace gb2:=gb2.ext ha;clear ha ga2 NP;go_upto_region 4 with (go_at_call 187;refine zc (NQ _ gb2) ?_;rintro e wb ⟨rfl,hb⟩)
    replace EX:=EX.trans hb;replace H2:=H2.ext hb;clear hb gb2 NQ k0 k1 lk;obtain ⟨f0,f1,z0,z1,lz⟩:=Qa.e2 H2;have H3:=Qp H2 (.int .i64 (-(p : Int))) (.int .i64 (q : Int));have EF:=(EX.setCell (p:=⟨b2,0,none⟩) hb2' (.int .i64 (-(p : Int)))).setCell (p:=⟨b2,1,none⟩) hb2' (.int .i64 (q : Int));obtain ⟨x0,x1⟩:=H3.c2;go_wp2;refine bodyPost_ret (v:=.tuple #[.agg #[.int .i64 (-(p : Int)),.int .i64 (q : Int)],.int .i64 0]) (by simp [results,Tryz.results163,go_sem,x0,x1]) rfl ⟨rfl,EF⟩
  ·simp only [if_pos hp,zt hp] at NP;simp only [if_neg hq,zf hq] at NQ;have hd:=hdone.out;rw [if_neg (fun h => hq h.2)] at hd;obtain ⟨rfl,rfl⟩:=Prod.mk.inj hd;clear hd hdone HR;go_upto_region 3 with (go_at_call 187;refine zc (NP _ ga2) ?_;rintro e wa ⟨rfl,ha⟩;clear k0 k1 lk;replace H1:=H1.ext ha;obtain ⟨k0,k1⟩:=H1.c2;have lk:=H1.lt)
   replace EX:=EX.trans ha;replace H2:=H2.ext ha;replace gb2:=gb2.ext ha;clear ha ga2 NP;go_upto_region 4 with (go_at_call 187;refine zc (NQ _ gb2) ?_;rintro e wb ⟨rfl,hb⟩)
   replace EX:=EX.trans hb;replace H2:=H2.ext hb;clear hb gb2 NQ k0 k1 lk;obtain ⟨f0,f1,z0,z1,lz⟩:=Qa.e2 H2;have H3:=Qp H2 (.int .i64 0) (.int .i64 0);have EF:=(EX.setCell (p:=⟨b2,0,none⟩) hb2' (.int .i64 0)).setCell (p:=⟨b2,1,none⟩) hb2' (.int .i64 0);obtain ⟨x0,x1⟩:=H3.c2;go_wp2;refine bodyPost_ret (v:=.tuple #[.agg #[.int .i64 0,.int .i64 0],.int .i64 6]) (by simp [results,Tryz.results163,go_sem,x0,x1]) rfl ⟨rfl,EF⟩
 ·simp only [if_neg hp,zf hp] at NP;have hd:=hdone.out;rw [if_neg (fun h => hp h.1)] at hd;obtain ⟨rfl,rfl⟩:=Prod.mk.inj hd;clear hd hdone HR;generalize decide (q ≤ 1048576) = bq at *;generalize (if q ≤ 1048576 then q else 0) = q' at *;cases bq
  ·skip
   go_upto_region 3 with (go_at_call 187;refine zc (NP _ ga2) ?_;rintro e wa ⟨rfl,ha⟩;clear k0 k1 lk;replace H1:=H1.ext ha;obtain ⟨k0,k1⟩:=H1.c2;have lk:=H1.lt)
   replace EX:=EX.trans ha;replace H2:=H2.ext ha;replace gb2:=gb2.ext ha;clear ha ga2 NP;go_upto_region 4 with (go_at_call 187;refine zc (NQ _ gb2) ?_;rintro e wb ⟨rfl,hb⟩)
   replace EX:=EX.trans hb;replace H2:=H2.ext hb;clear hb gb2 NQ k0 k1 lk;obtain ⟨f0,f1,z0,z1,lz⟩:=Qa.e2 H2;have H3:=Qp H2 (.int .i64 0) (.int .i64 0);have EF:=(EX.setCell (p:=⟨b2,0,none⟩) hb2' (.int .i64 0)).setCell (p:=⟨b2,1,none⟩) hb2' (.int .i64 0);obtain ⟨x0,x1⟩:=H3.c2;go_wp2;refine bodyPost_ret (v:=.tuple #[.agg #[.int .i64 0,.int .i64 0],.int .i64 6]) (by simp [results,Tryz.results163,go_sem,x0,x1]) rfl ⟨rfl,EF⟩
  ·skip
   go_upto_region 3 with (go_at_call 187;refine zc (NP _ ga2) ?_;rintro e wa ⟨rfl,ha⟩;clear k0 k1 lk;replace H1:=H1.ext ha;obtain ⟨k0,k1⟩:=H1.c2;have lk:=H1.lt)
   replace EX:=EX.trans ha;replace H2:=H2.ext ha;replace gb2:=gb2.ext ha;clear ha ga2 NP;go_upto_region 4 with (go_at_call 187;refine zc (NQ _ gb2) ?_;rintro e wb ⟨rfl,hb⟩)
   replace EX:=EX.trans hb;replace H2:=H2.ext hb;clear hb gb2 NQ k0 k1 lk;obtain ⟨f0,f1,z0,z1,lz⟩:=Qa.e2 H2;have H3:=Qp H2 (.int .i64 0) (.int .i64 0);have EF:=(EX.setCell (p:=⟨b2,0,none⟩) hb2' (.int .i64 0)).setCell (p:=⟨b2,1,none⟩) hb2' (.int .i64 0);obtain ⟨x0,x1⟩:=H3.c2;go_wp2;refine bodyPost_ret (v:=.tuple #[.agg #[.int .i64 0,.int .i64 0],.int .i64 6]) (by simp [results,Tryz.results163,go_sem,x0,x1]) rfl ⟨rfl,EF⟩
end
end Go.Proofs.YtoflcheopfppoaaGreatDoor
