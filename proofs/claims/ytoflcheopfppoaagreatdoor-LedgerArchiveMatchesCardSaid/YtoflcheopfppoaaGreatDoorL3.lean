/- Walks of the program's functions and plain facts, packed; proved: the lemmas below; no conditions but those that each states. -/
import Derived.Test.YtoflcheopfppoaaGreatDoorL2
import Derived.Test.YtoflcheopfppoaaGreatDoorL1
import Derived.Test.YtoflcheopfppoaaGreatDoorShelf
import Derived.RangeFuncBox
import Derived.Laws.OwnMore
import Derived.Deep.Onto
import Derived.Maps.AppendAt
import Derived.Laws.Append
set_option maxRecDepth 100000
set_option maxHeartbeats 4000000
namespace Go.Proofs.YtoflcheopfppoaaGreatDoor
section
open Go Go.RowKit
attribute [local go_sem] Z5
theorem P6 (a b : Nat) (hb : b < 18446744073709551616) (w : World) : Calls Tryz.prog 161 #[.int .u64 (a : Int),.int .u64 (b : Int)] w fun e w' => e = .returned (.int .u64 (Nat.gcd a b : Int)) ∧ Qb w w':=by
 obtain ⟨G,hG⟩:=Qg (Nat.gcd a b);rw [← hG];have HG:=Lib.hid hG;clear hG
 go_enter Tryz.func161,Tryz.ntmps161
 go_wp2
 go_loopw [0,1] (fun av bv wr => ∃ a b : Nat,av = .int .u64 (a : Int) ∧ bv = .int .u64 (b : Int) ∧ Hid (G = Nat.gcd a b) ∧ b < 18446744073709551616 ∧ Qb w wr) (fun _ bv _ => (intOf bv).toNat)
 case atStart => exact ⟨a,b,rfl,rfl,HG,hb,Qb.refl _⟩
 case round =>
  clear HG hb;obtain ⟨x,y,rfl,rfl,hG,hy,hE⟩:=hrel;obtain ⟨wo,rfl⟩:=Qg wr;by_cases h0 : y = 0
  ·subst h0;go_wp2;go_ret;exact ⟨by rw [hG.out];simp,hE⟩
  ·have h0b : ((y : Int) != 0) = true := by rw [bne, beq_eq_false_iff_ne.2 (by omega)]; rfl
   have h0c : ((y : Int) == 0) = false:=beq_eq_false_iff_ne.2 (by omega);go_upto_region 2 with (fail)
   refine Zd wo Qo (by kernel_rfl) Qj ?_;intro hne hrx hry;try simp only []
   try simp only [List.append_eq,List.cons_append,List.nil_append]
   skip
   repeat (first
    | go_big_quiet_skip
    | (go_big_quiet_want;go_big_quiet_op;go_big_quiet_on))
   clear hne hry hrx;refine wpQuiet_nil ?_;intro wn hwn;obtain ⟨hcwn,hfwn,hzwn⟩:=Qb.rules hwn;try simp only [World.size_alloc] at hzwn
   obtain ⟨hcbwn,hfbwn,hzbwn⟩:=Qb.rules (show Qb wo wn from Qj);clear hcwn hfwn;have hlt : x % y < y:=Nat.mod_lt _ (by omega);go_wp2;exact ⟨⟨y,x % y,rfl,by simp,by unfold Hid;rw [hG.out,Nat.gcd_comm x y,Nat.gcd_rec];exact Nat.gcd_comm _ _,by omega,hE.trans hwn⟩,by simp [intOf];omega⟩
theorem Uj (n : Int) (h1 : -9223372036854775808 ≤ n) (h2 : n ≤ 9223372036854775807) (w : World) : Calls Tryz.prog 162 #[.int .i64 n] w fun e w' => e = .returned (.int .u64 (n.natAbs : Int)) ∧ Qb w w':=by
 by_cases h : n < 0
 ·have hb : decide (n < 0) = true:=decide_eq_true h
  go_enter Tryz.func162,Tryz.ntmps162
  go_wp2;go_ret;refine ⟨?_,Qj⟩
  simp
  omega
 ·have hb : decide (n < 0) = false:=decide_eq_false h
  go_enter Tryz.func162,Tryz.ntmps162
  go_wp2;go_ret;refine ⟨?_,Qj⟩
  simp
  omega
set_option maxHeartbeats 2000000 in
theorem Ud (n d : Int) (h1 : -9223372036854775808 ≤ n) (h2 : n ≤ 9223372036854775807) (h3 : -9223372036854775808 ≤ d) (h4 : d ≤ 9223372036854775807) (w : World) :
  Calls Tryz.prog 121 #[.agg #[.int .i64 n,.int .i64 d]] w fun e w' => e = .returned (.bool (Rt.ok ⟨n,d⟩)) ∧ Qb w w':=by
 have N1:=fun w => Uj n h1 h2 w
 have N2:=fun w => Uj d h3 h4 w
 have N3:=fun w => P6 n.natAbs d.natAbs (by omega) w
 have HR : Hid (Rt.ok ⟨n,d⟩ = (decide (1 ≤ d) && decide (d ≤ 1048576) && decide (-1099511627776 ≤ n) && decide (n ≤ 1099511627776) && decide (Nat.gcd n.natAbs d.natAbs = 1))):=rfl;generalize Rt.ok ⟨n,d⟩ = r at *;clear h1 h2 h3 h4;by_cases a1 : 1 ≤ d;rotate_left
 ·rw [decide_eq_false a1] at HR;simp only [Bool.false_and] at HR;have a1b : decide (1 ≤ d) = false:=decide_eq_false a1
  go_enter Tryz.func121,Tryz.ntmps121
  go_upto_region 1 with (fail)
  obtain ⟨v,hv⟩:=Qg (w.alloc (.cells #[.int .i64 n,.int .i64 d] 65));rw [← hv];have E : Qb w v:=by rw [hv];exact (Qb.refl _).alloc _
  have B1 : Qa v w.heap.size 65 #[.int .i64 n,.int .i64 d]:=by rw [hv];exact Qa.new _ _ _
  clear hv;generalize w.heap.size = b1 at *;obtain ⟨k0,k1⟩:=B1.c2;have lk:=B1.lt;refine Zd v Qo (by kernel_rfl) Qj ?_;intro hne hrx hry;try simp only []
  try simp only [List.append_eq,List.cons_append,List.nil_append]
  skip
  repeat (first
   | go_big_quiet_skip
   | (go_big_quiet_want;go_big_quiet_op;go_big_quiet_on)
   | (go_big_quiet_want;go_big_quiet_op;apply Exists.intro;refine ⟨fun u => ?_,?_⟩
      ·first
        | (go_at_call 162;(with_reducible refine Calls.mono (N1 _) ?_);rintro e w' ⟨rfl,hb⟩;exact ⟨rfl,u.back hb⟩)
        | (go_at_call 162;(with_reducible refine Calls.mono (N2 _) ?_);rintro e w' ⟨rfl,hb⟩;exact ⟨rfl,u.back hb⟩)
        | (go_at_call 161;(with_reducible refine Calls.mono (N3 _) ?_);rintro e w' ⟨rfl,hb⟩;exact ⟨rfl,u.back hb⟩)
      go_big_quiet_on))
  clear hne hry hrx;refine wpQuiet_nil ?_;intro w2 h;obtain ⟨hcw2,hfw2,hzw2⟩:=Qb.rules h;try simp only [World.size_alloc] at hzw2
  obtain ⟨hcbw2,hfbw2,hzbw2⟩:=Qb.rules (show Qb v w2 from Qj);clear hcw2 hfw2;go_wp2;go_ret;exact ⟨by rw [HR.out];rfl,E.trans h⟩
 have a1b : decide (1 ≤ d) = true:=decide_eq_true a1;rw [a1b] at HR;by_cases a2 : d ≤ 1048576;rotate_left
 ·rw [decide_eq_false a2] at HR;simp only [Bool.and_false,Bool.false_and] at HR;have a2b : decide (d ≤ 1048576) = false:=decide_eq_false a2
  go_enter Tryz.func121,Tryz.ntmps121
  go_upto_region 1 with (fail)
  obtain ⟨v,hv⟩:=Qg (w.alloc (.cells #[.int .i64 n,.int .i64 d] 65));rw [← hv];have E : Qb w v:=by rw [hv];exact (Qb.refl _).alloc _
  have B1 : Qa v w.heap.size 65 #[.int .i64 n,.int .i64 d]:=by rw [hv];exact Qa.new _ _ _
  clear hv;generalize w.heap.size = b1 at *;obtain ⟨k0,k1⟩:=B1.c2;have lk:=B1.lt;refine Zd v Qo (by kernel_rfl) Qj ?_;intro hne hrx hry;try simp only []
  try simp only [List.append_eq,List.cons_append,List.nil_append]
  skip
  repeat (first
   | go_big_quiet_skip
   | (go_big_quiet_want;go_big_quiet_op;go_big_quiet_on)
   | (go_big_quiet_want;go_big_quiet_op;apply Exists.intro;refine ⟨fun u => ?_,?_⟩
      ·first
        | (go_at_call 162;(with_reducible refine Calls.mono (N1 _) ?_);rintro e w' ⟨rfl,hb⟩;exact ⟨rfl,u.back hb⟩)
        | (go_at_call 162;(with_reducible refine Calls.mono (N2 _) ?_);rintro e w' ⟨rfl,hb⟩;exact ⟨rfl,u.back hb⟩)
        | (go_at_call 161;(with_reducible refine Calls.mono (N3 _) ?_);rintro e w' ⟨rfl,hb⟩;exact ⟨rfl,u.back hb⟩)
      go_big_quiet_on))
  clear hne hry hrx;refine wpQuiet_nil ?_;intro w2 h;obtain ⟨hcw2,hfw2,hzw2⟩:=Qb.rules h;try simp only [World.size_alloc] at hzw2
  obtain ⟨hcbw2,hfbw2,hzbw2⟩:=Qb.rules (show Qb v w2 from Qj);clear hcw2 hfw2;go_wp2;go_ret;exact ⟨by rw [HR.out];rfl,E.trans h⟩
 have a2b : decide (d ≤ 1048576) = true:=decide_eq_true a2;rw [a2b] at HR;by_cases a3 : -1099511627776 ≤ n;rotate_left
 ·rw [decide_eq_false a3] at HR;simp only [Bool.and_false,Bool.false_and] at HR;have a3b : decide (-1099511627776 ≤ n) = false:=decide_eq_false a3
  go_enter Tryz.func121,Tryz.ntmps121
  go_upto_region 1 with (fail)
  obtain ⟨v,hv⟩:=Qg (w.alloc (.cells #[.int .i64 n,.int .i64 d] 65));rw [← hv];have E : Qb w v:=by rw [hv];exact (Qb.refl _).alloc _
  have B1 : Qa v w.heap.size 65 #[.int .i64 n,.int .i64 d]:=by rw [hv];exact Qa.new _ _ _
  clear hv;generalize w.heap.size = b1 at *;obtain ⟨k0,k1⟩:=B1.c2;have lk:=B1.lt;refine Zd v Qo (by kernel_rfl) Qj ?_;intro hne hrx hry;try simp only []
  try simp only [List.append_eq,List.cons_append,List.nil_append]
  skip
  repeat (first
   | go_big_quiet_skip
   | (go_big_quiet_want;go_big_quiet_op;go_big_quiet_on)
   | (go_big_quiet_want;go_big_quiet_op;apply Exists.intro;refine ⟨fun u => ?_,?_⟩
      ·first
        | (go_at_call 162;(with_reducible refine Calls.mono (N1 _) ?_);rintro e w' ⟨rfl,hb⟩;exact ⟨rfl,u.back hb⟩)
        | (go_at_call 162;(with_reducible refine Calls.mono (N2 _) ?_);rintro e w' ⟨rfl,hb⟩;exact ⟨rfl,u.back hb⟩)
        | (go_at_call 161;(with_reducible refine Calls.mono (N3 _) ?_);rintro e w' ⟨rfl,hb⟩;exact ⟨rfl,u.back hb⟩)
      go_big_quiet_on))
  clear hne hry hrx;refine wpQuiet_nil ?_;intro w2 h;obtain ⟨hcw2,hfw2,hzw2⟩:=Qb.rules h;try simp only [World.size_alloc] at hzw2
  obtain ⟨hcbw2,hfbw2,hzbw2⟩:=Qb.rules (show Qb v w2 from Qj);clear hcw2 hfw2;go_wp2;go_ret;exact ⟨by rw [HR.out];rfl,E.trans h⟩
 have a3b : decide (-1099511627776 ≤ n) = true:=decide_eq_true a3;rw [a3b] at HR;by_cases a4 : n ≤ 1099511627776;rotate_left
 ·rw [decide_eq_false a4] at HR;simp only [Bool.and_false,Bool.false_and] at HR;have a4b : decide (n ≤ 1099511627776) = false:=decide_eq_false a4
  go_enter Tryz.func121,Tryz.ntmps121
  go_upto_region 1 with (fail)
  obtain ⟨v,hv⟩:=Qg (w.alloc (.cells #[.int .i64 n,.int .i64 d] 65));rw [← hv];have E : Qb w v:=by rw [hv];exact (Qb.refl _).alloc _
  have B1 : Qa v w.heap.size 65 #[.int .i64 n,.int .i64 d]:=by rw [hv];exact Qa.new _ _ _
  clear hv;generalize w.heap.size = b1 at *;obtain ⟨k0,k1⟩:=B1.c2;have lk:=B1.lt;refine Zd v Qo (by kernel_rfl) Qj ?_;intro hne hrx hry;try simp only []
  try simp only [List.append_eq,List.cons_append,List.nil_append]
  skip
  repeat (first
   | go_big_quiet_skip
   | (go_big_quiet_want;go_big_quiet_op;go_big_quiet_on)
   | (go_big_quiet_want;go_big_quiet_op;apply Exists.intro;refine ⟨fun u => ?_,?_⟩
      ·first
        | (go_at_call 162;(with_reducible refine Calls.mono (N1 _) ?_);rintro e w' ⟨rfl,hb⟩;exact ⟨rfl,u.back hb⟩)
        | (go_at_call 162;(with_reducible refine Calls.mono (N2 _) ?_);rintro e w' ⟨rfl,hb⟩;exact ⟨rfl,u.back hb⟩)
        | (go_at_call 161;(with_reducible refine Calls.mono (N3 _) ?_);rintro e w' ⟨rfl,hb⟩;exact ⟨rfl,u.back hb⟩)
      go_big_quiet_on))
  clear hne hry hrx;refine wpQuiet_nil ?_;intro w2 h;obtain ⟨hcw2,hfw2,hzw2⟩:=Qb.rules h;try simp only [World.size_alloc] at hzw2
  obtain ⟨hcbw2,hfbw2,hzbw2⟩:=Qb.rules (show Qb v w2 from Qj);clear hcw2 hfw2;go_wp2;go_ret;exact ⟨by rw [HR.out];rfl,E.trans h⟩
 have a4b : decide (n ≤ 1099511627776) = true:=decide_eq_true a4;rw [a4b] at HR;simp only [Bool.true_and] at HR;by_cases hg : Nat.gcd n.natAbs d.natAbs = 1
 ·rw [decide_eq_true hg] at HR;rw [hg] at N3
  go_enter Tryz.func121,Tryz.ntmps121
  go_upto_region 1 with (fail)
  obtain ⟨v,hv⟩:=Qg (w.alloc (.cells #[.int .i64 n,.int .i64 d] 65));rw [← hv];have E : Qb w v:=by rw [hv];exact (Qb.refl _).alloc _
  have B1 : Qa v w.heap.size 65 #[.int .i64 n,.int .i64 d]:=by rw [hv];exact Qa.new _ _ _
  clear hv;generalize w.heap.size = b1 at *;obtain ⟨k0,k1⟩:=B1.c2;have lk:=B1.lt;refine Zd v Qo (by kernel_rfl) Qj ?_;intro hne hrx hry;try simp only []
  try simp only [List.append_eq,List.cons_append,List.nil_append]
  skip
  repeat (first
   | go_big_quiet_skip
   | (go_big_quiet_want;go_big_quiet_op;go_big_quiet_on)
   | (go_big_quiet_want;go_big_quiet_op;apply Exists.intro;refine ⟨fun u => ?_,?_⟩
      ·first
        | (go_at_call 162;(with_reducible refine Calls.mono (N1 _) ?_);rintro e w' ⟨rfl,hb⟩;exact ⟨rfl,u.back hb⟩)
        | (go_at_call 162;(with_reducible refine Calls.mono (N2 _) ?_);rintro e w' ⟨rfl,hb⟩;exact ⟨rfl,u.back hb⟩)
        | (go_at_call 161;(with_reducible refine Calls.mono (N3 _) ?_);rintro e w' ⟨rfl,hb⟩;exact ⟨rfl,u.back hb⟩)
      go_big_quiet_on))
  clear hne hry hrx;refine wpQuiet_nil ?_;intro w2 h;obtain ⟨hcw2,hfw2,hzw2⟩:=Qb.rules h;try simp only [World.size_alloc] at hzw2
  obtain ⟨hcbw2,hfbw2,hzbw2⟩:=Qb.rules (show Qb v w2 from Qj);clear hcw2 hfw2;go_wp2;go_ret;exact ⟨by rw [HR.out];rfl,E.trans h⟩
 ·rw [decide_eq_false hg] at HR;have hgb : (((Nat.gcd n.natAbs d.natAbs : Nat) : Int) == 1) = false:=beq_eq_false_iff_ne.2 (by omega);generalize Nat.gcd n.natAbs d.natAbs = gg at *
  go_enter Tryz.func121,Tryz.ntmps121
  go_upto_region 1 with (fail)
  obtain ⟨v,hv⟩:=Qg (w.alloc (.cells #[.int .i64 n,.int .i64 d] 65));rw [← hv];have E : Qb w v:=by rw [hv];exact (Qb.refl _).alloc _
  have B1 : Qa v w.heap.size 65 #[.int .i64 n,.int .i64 d]:=by rw [hv];exact Qa.new _ _ _
  clear hv;generalize w.heap.size = b1 at *;obtain ⟨k0,k1⟩:=B1.c2;have lk:=B1.lt;refine Zd v Qo (by kernel_rfl) Qj ?_;intro hne hrx hry;try simp only []
  try simp only [List.append_eq,List.cons_append,List.nil_append]
  skip
  repeat (first
   | go_big_quiet_skip
   | (go_big_quiet_want;go_big_quiet_op;go_big_quiet_on)
   | (go_big_quiet_want;go_big_quiet_op;apply Exists.intro;refine ⟨fun u => ?_,?_⟩
      ·first
        | (go_at_call 162;(with_reducible refine Calls.mono (N1 _) ?_);rintro e w' ⟨rfl,hb⟩;exact ⟨rfl,u.back hb⟩)
        | (go_at_call 162;(with_reducible refine Calls.mono (N2 _) ?_);rintro e w' ⟨rfl,hb⟩;exact ⟨rfl,u.back hb⟩)
        | (go_at_call 161;(with_reducible refine Calls.mono (N3 _) ?_);rintro e w' ⟨rfl,hb⟩;exact ⟨rfl,u.back hb⟩)
      go_big_quiet_on))
  clear hne hry hrx;refine wpQuiet_nil ?_;intro w2 h;obtain ⟨hcw2,hfw2,hzw2⟩:=Qb.rules h;try simp only [World.size_alloc] at hzw2
  obtain ⟨hcbw2,hfbw2,hzbw2⟩:=Qb.rules (show Qb v w2 from Qj);clear hcw2 hfw2;go_wp2;go_ret;exact ⟨by rw [HR.out];rfl,E.trans h⟩
end
section
open Go Go.RowKit Go.Shelf
attribute [local go_sem] Z5
theorem Af (x y : Nat) (hx : x < 18446744073709551616) (hy : y < 18446744073709551616) (w : World) :
  Calls Tryz.prog 189 #[.int .u64 x,.int .u64 y] w fun e w' => e = .returned (.tuple #[.int .u64 ((x * y / 18446744073709551616 : Nat) : Int),.int .u64 ((x * y % 18446744073709551616 : Nat) : Int)]) ∧ w = w' :=
 (Tryz.bits_Mul64 x y hx hy w).mono fun _ _ ⟨h1,h2⟩ => ⟨h1,h2.symm⟩
set_option maxHeartbeats 2000000 in
theorem Qaw (A : Option Addr) (n ca : Nat) (f : Nat → Nat) (M : Nat) (hM : M < 18446744073709551616) (hM1 : 1 ≤ M) (hf : ∀ i,i < n → 1 ≤ f i) (hf2 : ∀ i,i < n → f i < 18446744073709551616) (w : World) (hA : Qp w A n 1 (fun i => [.int .u64 (f i : Int)])) (hn : n ≤ 9223372036854775807) :
  Calls Tryz.prog 187 #[.slice A n ca,.int .u64 (M : Int)] w fun e w' => e = .returned (.tuple #[.int .u64 (((if upTo f n ≤ M then upTo f n else 0) : Nat) : Int),.bool (decide (upTo f n ≤ M))]) ∧ Qb w w':=by
 obtain ⟨R,hR⟩ : ∃ R : Nat × Bool,R = (if upTo f n ≤ M then upTo f n else 0,decide (upTo f n ≤ M)):=⟨_,rfl⟩;have HR:=Lib.hid hR;rw [show (if upTo f n ≤ M then upTo f n else 0) = R.1 by rw [hR],show decide (upTo f n ≤ M) = R.2 by rw [hR]];clear hR;obtain ⟨r1,r2⟩:=R
 go_enter Tryz.func187,Tryz.ntmps187
 go_wp2
 go_loopw [6,13] (fun p i wr => ∃ k : Nat,k ≤ n ∧ i = .int .i64 k ∧ ∃ q : Nat,p = .int .u64 (q : Int) ∧ Hid (q = upTo f k) ∧ q ≤ M ∧ Qb w wr) (fun _ i _ => n - (intOf i).toNat)
 case atStart => exact ⟨0,Nat.zero_le _,rfl,1,rfl,rfl,hM1,Qb.refl _⟩
 case round =>
  obtain ⟨k,hk,rfl,q,rfl,hq,hqM,hE⟩:=hrel;obtain ⟨wo,rfl⟩:=Qg wr;obtain ⟨hcwo,hfwo,hzwo⟩:=Qb.rules hE;try simp only [World.size_alloc] at hzwo
  obtain ⟨hcbwo,hfbwo,hzbwo⟩:=Qb.rules (show Qb w wo from Qj);clear hcwo hfwo;by_cases hlt : k < n
  ·obtain ⟨b, off, rfl, hb, hc⟩ := hA (by omega);have c0 : w.cell? ⟨b, off + k, none⟩ = some (.int .u64 (f k : Int)) := by simpa using hc k 0 _ hlt rfl
   have F1:=hf k hlt;have F2:=hf2 k hlt;have hs : Hid (upTo f (k + 1) = q * f k):=by unfold Hid;rw [hq.out];rfl
   have hmn:=Qiq hf (k + 1) n (by omega) (Nat.le_refl _);have NM:=fun w => Af q (f k) (by omega) F2 w
   have HM:=Lib.hid hmn;clear hmn hf hf2 hc hA;generalize f k = x at *;generalize q * x = z at *;go_upto_region 6 with (go_at_call 189;(with_reducible refine Calls.mono (NM _) ?_);rintro e w' ⟨rfl,rfl⟩)
   by_cases hbig : z ≤ M
   ·have d1 : (z : Int) / 18446744073709551616 = 0 := by omega
    have d2 : (z : Int) % 18446744073709551616 = z:=by omega
    simp only [d1,d2];clear d1 d2;have g1 : decide ((M : Int) < (z : Int)) = false:=decide_eq_false (by omega);go_wp2;exact ⟨⟨k + 1,by omega,by go_num,z,rfl,hs.out.symm,hbig,Qj⟩,by simp [intOf];omega⟩
   ·have hno : ¬ upTo f n ≤ M:=by
     have:=HM.out;rw [hs.out] at this;omega
    have hr:=HR.out;rw [if_neg hno,decide_eq_false hno] at hr;obtain ⟨rfl,rfl⟩:=Prod.mk.inj hr;clear hr hno HR HM hs hq;by_cases hh : (z : Int) / 18446744073709551616 = 0
    ·have d2 : (z : Int) % 18446744073709551616 = z := by omega
     simp only [hh,d2];clear hh d2;have g1 : decide ((M : Int) < (z : Int)) = true:=decide_eq_true (by omega);go_wp2;go_ret2;exact ⟨rfl,Qj⟩
    ·have g0 : (((z : Int) / 18446744073709551616) != 0) = true := by rw [bne, beq_eq_false_iff_ne.2 hh]; rfl
     clear hh;generalize (z : Int) / 18446744073709551616 = zh at *;generalize (z : Int) % 18446744073709551616 = zl at *;go_wp2;go_ret2;exact ⟨rfl,Qj⟩
  ·obtain rfl : k = n := by omega
   go_wp2;go_ret2;have hr:=HR.out;rw [← hq.out,if_pos hqM,decide_eq_true hqM] at hr;obtain ⟨rfl,rfl⟩:=Prod.mk.inj hr;exact ⟨rfl,Qj⟩
end
section
open Go Go.RowKit
section
variable {P : Program} {ops : Array Oper} {md : Region.Mode} {C : World → Prop}
theorem Qjj {Q Q' : Exit → Act → World → Prop} (hQ : ∀ e a w,e ≠ .normal → Q e a w → Q' e a w) {o : Oper} {a : Act} {w : World} {K K' : Act → World → Prop} (h : ∀ a w,K a w → K' a w)
  (hh : o.wp P a w K Q) : o.wp P a w K' Q':=by
 have hL : LetsOut Q → LetsOut Q':=fun ⟨a,w,h⟩ => ⟨a,w,hQ _ _ _ (by simp) h⟩
 unfold Oper.wp at *;generalize (execOp a.eval o).run P w = r at *
 cases r with
 | ok n w' =>
  cases n <;> simp only [Oper.upon] at hh ⊢ <;>
   first
    | exact h _ _ hh
    | exact Calls.mono hh (fun e w'' he => by cases e <;> first | exact h _ _ he | exact hL he | exact hQ _ _ _ (by simp) he)
    | exact Rows.mono hh (fun _ _ he => h _ _ he)
    | exact hh
 | halt x w' => cases x <;> simp only [Oper.upon] at hh ⊢ <;> first | exact hQ _ _ _ (by simp) hh | exact hh
end
/-- A post-condition that only the way on can meet. -/
def Ji (R : Act → World → Prop) : Exit → Act → World → Prop
 | .normal,a,w => R a w
 | _,_,_ => False
section
variable {P : Program} {ops : Array Oper} {md : Region.Mode} {C : World → Prop}
theorem Qgw {R : Act → World → Prop} {Q : Exit → Act → World → Prop} {e : Exit} {a : Act} {w : World} (he : e ≠ .normal) (h : Ji R e a w) : Q e a w:=by
 cases e <;> first | exact absurd rfl he | exact False.elim h
theorem R8 {R : Act → World → Prop} (h : LetsOut (Ji R)) : False:=by
 obtain ⟨_,_,h⟩:=h;exact h
theorem Qh {S : Act → World → Prop} {a : Act} {w : World} (h1 : C w) (h2 : S a w) : Ji (fun a' w' => C w' ∧ S a' w') .normal a w:=⟨h1,h2⟩
def Xv (P : Program) (ops : Array Oper) (C : World → Prop) (o : Oper) (v : Value) (a : Act) : Prop :=
 Region.wanted o (yielded ops a.tmps) = true ∧ ∀ w,C w → o.quietAt P a (fun w' => w' = w) w v
theorem Xv.wpOp {i : Nat} {o : Oper} {v : Value} {a : Act} (hi : ops[i]? = some o) (hy : Xv P ops C o v a) {Q : Exit → Act → World → Prop} {K : Act → World → Prop} {w : World} (hw : C w) (h : K (a.put o.dst v) w) : wpOp P ops Q i K a w:=by
 unfold Go.wpOp;simp only [hi,hy.1,if_true];refine .inl (Oper.wp_of_quiet (C:=fun w' => w' = w) (K:=fun a' => a' = a.put o.dst v) rfl (fun a' w' h1 h2 => by rw [h1,h2];exact h) ⟨v,fun w' h1 => by rw [h1];exact hy.2 w hw,rfl⟩)
theorem Wi {i : Nat} {o : Oper} {R : Act → World → Prop} {a : Act} {w : World} (hi : ops[i]? = some o) (h : wpList P ops (Ji R) [o] a w) : wpOp P ops (Ji R) i R a w:=by
 unfold Go.wpOp;simp only [hi];unfold wpList at h;by_cases hw : Region.wanted o (yielded ops a.tmps) = true
 ·rw [if_pos hw] at h ⊢;exact h.imp (Oper.wp_mono fun _ _ h => h) id
 ·rw [if_neg hw] at h ⊢;exact h
theorem X1 {i : Nat} {R : Act → World → Prop} {Q : Exit → Act → World → Prop} {K : Act → World → Prop} {a : Act} {w : World} (h : wpOp P ops (Ji R) i K a w) : wpOp P ops Q i K a w:=by
 unfold Go.wpOp at *
 split
 ·rename_i ho;simp only [ho] at h;exact h
 ·rename_i o ho
  simp only [ho] at h
  split
  ·rename_i hw
   rw [if_pos hw] at h;exact h.imp (Qjj (fun _ _ _ he h => Qgw he h) fun _ _ h => h) fun hl => (R8 hl.2).elim
  ·rename_i hw;rw [if_neg hw] at h;exact h
theorem Sr {j : Nat} {oi oj : Oper} {v : Value} (hj : ops[j]? = some oj) (hap : oi.apart ops oj = true)
  (hsi : ∀ cs b,oi.op ≠ .select cs b) (hsj : ∀ cs b,oj.op ≠ .select cs b) {K R : Act → World → Prop} {Q : Exit → Act → World → Prop} {a : Act} {w : World}
  (hy : Xv P ops C oi v a) (h : wpOp P ops (Ji R) j K (a.put oi.dst v) w) :
  wpOp P ops Q j (fun a' w' => Xv P ops C oi v a' ∧ K (a'.put oi.dst v) w') a w:=by
 obtain ⟨h1,h2,h3⟩:=Oper.apart_spec hap
 have keep : ∀ (a : Act),Xv P ops C oi v a → ∀ u,Xv P ops C oi v (a.put oj.dst u):=fun a hy u => by
  refine ⟨by rw [wanted_put oi a oj.dst u h3];exact hy.1,fun w hw => ?_⟩;have:=hy.2 w hw;unfold Oper.quietAt at *;rw [execOp_put oi hsi a oj.dst u h3];exact this
 have keepD : ∀ d,Xv P ops C oi v { a with defers:=d :: a.defers }:=fun d => ⟨hy.1,fun w hw => hy.2 w hw⟩
 unfold Go.wpOp at *;simp only [hj] at *;rw [wanted_put oj a oi.dst v h1] at h
 split
 ·rename_i hw
  rw [if_pos hw] at h;rcases h with h | hl
  case inr => exact (R8 hl.2).elim
  refine .inl ?_;unfold Oper.wp at *;rw [execOp_put oj hsj a oi.dst v h1] at h;generalize (execOp a.eval oj).run P w = r at *
  cases r with
  | ok n w' =>
   cases n <;> simp only [Oper.upon] at h ⊢
   case value u => exact ⟨keep a hy u,by rw [← Act.put_comm a v u h2];exact h⟩
   case skip => exact ⟨keep a hy _,by rw [← Act.put_comm a v undef h2];exact h⟩
   case defer d =>
    refine ⟨keep _ (keepD d) _,?_⟩;rw [← Act.put_comm _ v undef h2,← Act.put_defers];exact h
   case enter f args =>
    refine Calls.mono h fun e w'' he => ?_
    cases e with
    | returned u => exact ⟨keep a hy u,by rw [← Act.put_comm a v u h2];exact he⟩
    | panicked c => exact False.elim he
    | outgrown => exact (R8 he).elim
   case row row args => exact Rows.mono h fun u w'' he => ⟨keep a hy u,by rw [← Act.put_comm a v u h2];exact he⟩
  | halt x w' =>
   cases x <;> simp only [Oper.upon] at h ⊢
   case panic u => exact False.elim h
 ·rename_i hw
  rw [if_neg hw] at h;exact ⟨keep a hy _,by rw [← Act.put_comm a v undef h2];exact h⟩
/-! ### The orders -/
end
section
variable {P : Program} {ops : Array Oper} {md : Region.Mode} {C : World → Prop}
def Wh (P : Program) (md : Region.Mode) (ops : Array Oper) (C : World → Prop) (R : Act → World → Prop) : Nat → Array Bool → Act → World → Prop
 | 0,L,a,w => Region.ready md ops L = [] ∧ R a w
 | f + 1,L,a,w => (Region.ready md ops L = [] → R a w) ∧ ∀ i ∈ Region.ready md ops L,wpOp P ops (Ji fun _ _ => False) i (fun a' w' => C w' ∧ Wh P md ops C R f (L.setIfInBounds i true) a' w') a w
theorem Qa4 {i : Nat} {Q : Exit → Act → World → Prop} {K : Act → World → Prop} {a : Act} {w : World} (h : wpOp P ops (Ji fun _ _ => False) i K a w) : wpOp P ops Q i K a w:=X1 h
theorem Qa1 {R : Act → World → Prop} : ∀ (f : Nat) (L : Array Bool) (a : Act) (w : World),Wh P md ops C R f L a w → wpAny P md ops (Ji R) f L a w
 | 0,_,_,_,h => h
 | f + 1,_,_,_,h => ⟨h.1,fun i hi => wpOp_mono (fun a' w' h' => Qa1 f _ a' w' h'.2) (Qa4 (h.2 i hi))⟩
/-- An operation that leaves the world may be taken first. -/
theorem Qi9 {R : Act → World → Prop} {i : Nat} {oi : Oper} {v : Value} (hi : ops[i]? = some oi) (hsel : ∀ (j : Nat) (o : Oper) cs b,ops[j]? = some o → o.op ≠ .select cs b) :
  ∀ (f : Nat) (L : Array Bool) (a : Act) (w : World),
   (∀ j oj,ops[j]? = some oj → j ≠ i → L.getD j true = false → (∀ e ∈ oj.after,Region.binds md e = true → e.on ≠ i) → oi.apart ops oj = true) →
   i ∈ Region.ready md ops L → C w → Xv P ops C oi v a →
   Wh P md ops C R f (L.setIfInBounds i true) (a.put oi.dst v) w → Wh P md ops C R (f + 1) L a w:=by
 intro f
 induction f with
 | zero =>
  intro L a w _ hr hw hy H;refine ⟨fun h => (by rw [h] at hr;cases hr),fun j hj => ?_⟩;by_cases hji : j = i
  ·subst hji;exact hy.wpOp hi hw ⟨hw,H⟩
  ·have:=ready_mono hj hji;rw [H.1] at this
   cases this
 | succ f ih =>
  intro L a w hfree hr hw hy H;refine ⟨fun h => (by rw [h] at hr;cases hr),fun j hj => ?_⟩;by_cases hji : j = i
  ·subst hji;exact hy.wpOp hi hw ⟨hw,H⟩
  ·have h1:=H.2 j (ready_mono hj hji);obtain ⟨hjun,oj,hoj,hall⟩:=mem_ready.1 hj
   have hnot : ∀ e ∈ oj.after,Region.binds md e = true → e.on ≠ i:=fun e he hb heq => by
    have h1:=hall e he hb;rw [heq,getD_both (mem_ready.1 hr).1] at h1;cases h1
   have h2:=Sr (Q:=Ji fun _ _ => False) hoj (hfree j oj hoj hji hjun hnot) (fun cs b => hsel i oi cs b hi) (fun cs b => hsel j oj cs b hoj) hy h1
   have hfree' : ∀ k ok,ops[k]? = some ok → k ≠ i → (L.setIfInBounds j true).getD k true = false → (∀ e ∈ ok.after,Region.binds md e = true → e.on ≠ i) → oi.apart ops ok = true:=fun k ok hk hki hun hno => by
    refine hfree k ok hk hki ?_ hno;by_cases hjk : j = k
    ·subst hjk;exact hjun
    ·rw [getD_set_ne true hjk] at hun;exact hun
   refine wpOp_mono (fun a' w' h3 => ⟨h3.2.1,ih (L.setIfInBounds j true) a' w' hfree' (ready_mono hr (Ne.symm hji)) h3.2.1 h3.1 ?_⟩) h2;rw [Array.setIfInBounds_comm _ _ hji];exact h3.2.2
/-! ### The values of the operations that leave the world -/
def Yx : List Oper → Bool
 | [] => true
 | o :: l => o.guard.isNone && (match o.dst with | some d => l.all fun q => q.dst != some d | none => false) && Yx l
theorem O8 {A : Act} {w : World} {d : Tmp} : ∀ (l : List Oper) (a : Act),(l.all fun q => q.dst != some d) = true → wpQuiet P ops (fun w' => w' = w) (fun a' => a' = A) l a → A.tmps[d]? = a.tmps[d]?
 | [],a,_,h => by
  have h : a = A:=h
  rw [h]
 | o :: l,a,hd,h => by
  simp only [List.all_cons,Bool.and_eq_true,bne_iff_ne,ne_eq] at hd
  have keep : ∀ v,(a.put o.dst v).tmps[d]? = a.tmps[d]?:=fun v => by
   cases ho : o.dst with
   | none => rfl
   | some e =>
    have hne : e ≠ d:=fun he => hd.1 (by rw [ho,he])
    simp [Act.put,Array.getElem?_setIfInBounds_ne hne]
  unfold wpQuiet at h
  split at h
  ·obtain ⟨v,_,h2⟩:=h;rw [O8 l _ hd.2 h2,keep]
  ·rw [O8 l _ hd.2 h,keep]
theorem Qh9 {W : World} {A : Act} {o : Oper} {l : List Oper} {a : Act} (hb : Yx (o :: l) = true) (hz : ∀ d,o.dst = some d → d < a.tmps.size) (h : ∀ u : XW W,wpQuiet P ops (fun w' => w' = u.w) (fun a' => a' = A) (o :: l) a) :
  ∃ v,Xv P ops (Qb W) o v a ∧ ∀ u : XW W,wpQuiet P ops (fun w' => w' = u.w) (fun a' => a' = A) l (a.put o.dst v):=by
 simp only [Yx,Bool.and_eq_true] at hb;obtain ⟨⟨hg,hd⟩,_⟩:=hb
 cases ho : o.dst with
 | none => rw [ho] at hd;cases hd
 | some d =>
  rw [ho] at hd
  have hw : Region.wanted o (yielded ops a.tmps) = true:=by
   unfold Region.wanted
   cases hgo : o.guard with
   | none => rfl
   | some g => rw [hgo] at hg;cases hg
  have each : ∀ u : XW W,∃ v,o.quietAt P a (fun w' => w' = u.w) u.w v ∧ A.tmps[d]? = some v ∧ wpQuiet P ops (fun w' => w' = u.w) (fun a' => a' = A) l (a.put (some d) v):=fun u => by
   have h1:=h u;unfold wpQuiet at h1;rw [if_pos hw] at h1;obtain ⟨v,h2,h3⟩:=h1;rw [ho] at h3;refine ⟨v,h2 _ rfl,?_,h3⟩;rw [O8 l _ hd h3];simp [Act.put,hz d ho]
  obtain ⟨v,_,hv,_⟩:=each ⟨W,Qb.refl W⟩;refine ⟨v,⟨hw,fun w' e => ?_⟩,fun u => ?_⟩
  ·obtain ⟨v',h1,h2,_⟩:=each ⟨w',e⟩;rw [hv] at h2;rw [Option.some.inj h2];exact h1
  ·obtain ⟨v',_,h2,h3⟩:=each u;rw [hv] at h2;rw [Option.some.inj h2];exact h3
end
section
variable {P : Program} {ops : Array Oper} {md : Region.Mode} {C : World → Prop} {R : Act → World → Prop}
def Hv (md : Region.Mode) (ops : Array Oper) : List Nat → Array Bool → Bool
 | [],_ => true
 | k :: ks,L => (Region.ready md ops L).contains k && Region.free md ops L k && Hv md ops ks (L.setIfInBounds k true)
def Kg : List Nat → Array Bool → Array Bool
 | [],L => L
 | k :: ks,L => Kg ks (L.setIfInBounds k true)
def Wf (a : Act) (l : List Oper) : Bool:=l.all fun o => match o.dst with | some d => decide (d < a.tmps.size) | none => true
theorem S5 {W : World} {A : Act} {g : Nat} (hs : Region.noSelect ops = true) : ∀ (ks : List Nat) (l : List Oper) (L : Array Bool) (a : Act) (w : World),l.map some = ks.map (fun k => ops[k]?) → Yx l = true → Wf a l = true →
  Hv md ops ks L = true → Qb W w → (∀ u : XW W,wpQuiet P ops (fun w' => w' = u.w) (fun a' => a' = A) l a) → Wh P md ops (Qb W) R g (Kg ks L) A w → Wh P md ops (Qb W) R (l.length + g) L a w
 | [],[],L,a,w,_,_,_,_,_,h,H => by
  have e : a = A:=h ⟨W,Qb.refl W⟩;subst e;rw [List.length_nil,Nat.zero_add]
  exact H
 | k :: ks,o :: l,L,a,w,hl,hd,hz,hB,hw,h,H => by
  simp only [List.map_cons,List.cons.injEq] at hl;have h0 : ops[k]? = some o:=hl.1.symm;simp only [Hv,Bool.and_eq_true] at hB;obtain ⟨⟨hr,hf⟩,hB'⟩:=hB;have hzo:=hz;simp only [Wf,List.all_cons,Bool.and_eq_true] at hzo;obtain ⟨v,hy,hn⟩:=Qh9 hd (fun d he => by have:=hzo.1;rw [he] at this;simpa using this) h;have hd' : Yx l = true:=by simp only [Yx,Bool.and_eq_true] at hd;exact hd.2
  have hsz : (a.put o.dst v).tmps.size = a.tmps.size:=by cases o.dst <;> simp [Act.put]
  rw [show (o :: l).length + g = (l.length + g) + 1 by simp only [List.length_cons];omega]
  exact Qi9 h0 (Region.noSelect_spec hs) _ L a w (Region.free_spec h0 hf) (by simpa using hr) hw hy
   (S5 hs ks l _ _ w hl.2 hd' (by unfold Wf;rw [hsz];exact hzo.2) hB' hw hn H)
 | [],_ :: _,_,_,_,hl,_,_,_,_,_,_ => by simp at hl
 | _ :: _,[],_,_,_,hl,_,_,_,_,_,_ => by simp at hl
def Lh (ops : Array Oper) : List Nat → List Oper → Prop
 | [],[] => True
 | k :: ks,o :: l => ops[k]? = some o ∧ Lh ops ks l
 | _,_ => False
theorem Oy : ∀ {ks : List Nat} {l : List Oper},Lh ops ks l → l.map some = ks.map (fun k => ops[k]?)
 | [],[],_ => rfl
 | k :: ks,o :: l,h => by rw [List.map_cons,List.map_cons,h.1,Oy h.2]
 | [],_ :: _,h => h.elim
 | _ :: _,[],h => h.elim
theorem S4 {W : World} {g f : Nat} {L : Array Bool} {a : Act} {w : World} (ks : List Nat) (l : List Oper) (hl : Lh ops ks l) (hB : (Region.noSelect ops && Yx l && Hv md ops ks L && decide (f = l.length + g)) = true) (hz : Wf a l = true) (hw : Qb W w)
  (h : ∃ A,(∀ u : XW W,wpQuiet P ops (fun w' => w' = u.w) (fun a' => a' = A) l a) ∧ Wh P md ops (Qb W) R g (Kg ks L) A w) : Wh P md ops (Qb W) R f L a w:=by
 obtain ⟨A,h1,h2⟩:=h;simp only [Bool.and_eq_true,decide_eq_true_eq] at hB;obtain ⟨⟨⟨hs,hd⟩,hk⟩,rfl⟩:=hB;exact S5 hs ks l L a w (Oy hl) hd hz hk hw h1 h2
theorem Sz {f : Nat} {L : Array Bool} {a : Act} {w : World} {o : Oper} (k : Nat) (ho : ops[k]? = some o) (hB : decide (Region.ready md ops L = [k]) = true)
  (h : wpList P ops (Ji fun a' w' => C w' ∧ Wh P md ops C R f (L.setIfInBounds k true) a' w') [o] a w) : Wh P md ops C R (f + 1) L a w:=by
 have hB:=of_decide_eq_true hB;refine ⟨fun h => (by rw [hB] at h;cases h),fun j hj => ?_⟩;rw [hB,List.mem_singleton] at hj;subst hj;exact X1 (Wi ho h)
theorem Qbe {L : Array Bool} {a : Act} {w : World} (hB : decide (Region.ready md ops L = []) = true) (h : R a w) : Wh P md ops C R 0 L a w:=⟨of_decide_eq_true hB,h⟩
end
end
section
open Go Go.RowKit
attribute [local go_sem] Z5
end
section
theorem Fk (c : Qf) {i j : Nat} (h : i ≤ j) : c.dayAt i ≤ c.dayAt j:=by
 induction j with
 | zero => obtain rfl : i = 0 := by omega
           exact Int.le_refl _
 | succ j ih =>
  rcases Nat.lt_or_ge j i with h' | h'
  ·obtain rfl : i = j + 1 := by omega
   exact Int.le_refl _
  ·have:=ih h';have:=Dg (c.yr j);rw [Qf.dayAt];omega
theorem Ho (c : Qf) (i : Nat) : ∀ (l : List (Int × Bool)) (d : Int) (x : It),x ∈ Jf i (c.yr i) d l → x.y = i ∧ d ≤ x.first ∧ x.first + x.len c ≤ d + (c.yr i).lens l
 | [],d,x,hx => by cases hx
 | p :: l,d,x,hx => by
  have h0:=L8 (c.yr i) l;have h1:=Wt (c.yr i) p.1 p.2;rw [Jf] at hx;rw [Yr.lens];rcases List.mem_cons.1 hx with rfl | hx
  ·refine ⟨rfl,Int.le_refl _,?_⟩
   show d + (c.yr i).len p.1 p.2 ≤ _
   omega
  ·have:=Ho c i l _ x hx;omega
theorem Rl (c : Qf) : ∀ (k : Nat) (x : It),x ∈ c.itemsTo k → x.y < k ∧ c.dayAt x.y ≤ x.first ∧ x.first + x.len c ≤ c.dayAt (x.y + 1)
 | 0,x,hx => by cases hx
 | k + 1,x,hx => by
  rw [Qf.itemsTo,List.mem_append] at hx;rcases hx with hx | hx
  ·have:=Rl c k x hx;omega
  ·have h:=Ho c k _ _ x hx;refine ⟨by omega,by rw [h.1];exact h.2.1,by rw [h.1];exact h.2.2⟩
theorem B8 {c : Qf} {x : It} (hx : x ∈ c.items) : 1 ≤ x.first ∧ x.first + x.len c ≤ c.dayAt c.ny:=by
 have h:=Rl c c.ny x hx;have h1:=Fk c (i:=0) (j:=x.y) (by omega);have h2:=Fk c (i:=x.y + 1) (j:=c.ny) (by omega);have h3 : c.dayAt 0 = 1:=rfl;omega
theorem S9 {c : Qf} {n : Int} {o : Dt} : ∀ {l : List It},c.atFrom n l = some o → ∃ x,x ∈ l ∧ x.first ≤ n ∧ n - x.first < x.len c ∧ o = ⟨x.y,x.n,x.s,n - x.first + 1⟩
 | x :: l,h => by
  rw [Qf.atFrom] at h
  split at h
  ·rename_i hx
   exact ⟨x,List.mem_cons_self ..,hx.1,hx.2,by simpa using h.symm⟩
  ·obtain ⟨y,hy,h1⟩:=S9 h;exact ⟨y,List.mem_cons_of_mem _ hy,h1⟩
theorem at_out {c : Qf} {n : Int} (h : n < 1 ∨ c.dayAt c.ny ≤ n) : c.at? n = none:=by
 cases ho : c.at? n with
 | none => rfl
 | some o =>
  obtain ⟨x,hx,h1,h2,_⟩:=S9 ho;have:=B8 hx;omega
theorem Ay {c : Qf} {d : Dt} (hd : c.has d = true) : ∀ (l : List It) (k : Int),(∀ x,x ∈ l → x ∈ c.items) → 0 ≤ (Ye d l k).1 ∧ (Ye d l k).1 ≤ c.dayAt c.ny - 1
 | [],k,_ => by
  have h2:=Lu c c.ny
  simp [Ye];omega
 | x :: l,k,hl => by
  rw [Ye]
  split
  ·rename_i hx
   have h1:=B8 (hl x (List.mem_cons_self ..));simp only [Qf.has,Bool.and_eq_true,decide_eq_true_eq] at hd;simp only [It.of,Bool.and_eq_true,decide_eq_true_eq,beq_iff_eq] at hx
   have e : x.len c = (c.yrI d.y).len d.m d.s:=by
    unfold It.len Qf.yrI;rw [hx.2,hx.1.2,← hx.1.1];rfl
   simp only
   omega
  ·exact Ay hd l (k + 1) (fun y hy => hl y (List.mem_cons_of_mem _ hy))
theorem num_le {c : Qf} {d : Dt} (hd : c.has d = true) : 0 ≤ (c.num d).1 ∧ (c.num d).1 ≤ c.dayAt c.ny - 1:=Ay hd c.items 0 (fun _ h => h)
def It.before (x y : It) : Prop:=x.y < y.y ∨ (x.y = y.y ∧ (x.n < y.n ∨ (x.n = y.n ∧ x.s = false ∧ y.s = true)))
def Qf.ord (c : Qf) (x y : It) : Prop:=x.first + x.len c ≤ y.first ∧ x.before y
def pb (p q : Int × Bool) : Prop:=p.1 < q.1 ∨ (p.1 = q.1 ∧ p.2 = false ∧ q.2 = true)
theorem Rw (y : Yr) : ∀ (k : Nat) (p : Int × Bool),p ∈ y.moTo k → 1 ≤ p.1 ∧ p.1 ≤ (k : Int) ∧ (p.2 = true → y.db = p.1)
 | 0,_,h => by cases h
 | k + 1,p,h => by
  rw [Ww,List.mem_append,List.mem_cons] at h;rcases h with h | rfl | h
  ·have:=Rw y k p h;exact ⟨this.1,by omega,this.2.2⟩
  ·exact ⟨by simp only;omega,by simp only;omega,fun h => by cases h⟩
  ·by_cases hd : y.db = (k : Int) + 1
   ·rw [if_pos hd,List.mem_singleton] at h;subst h;exact ⟨by simp only;omega,by simp only;omega,fun _ => hd⟩
   ·rw [if_neg hd] at h;cases h
theorem Od (y : Yr) : ∀ (k : Nat) (n : Int),1 ≤ n → n ≤ (k : Int) → (n,false) ∈ y.moTo k ∧ (y.db = n → (n,true) ∈ y.moTo k)
 | 0,n,h1,h2 => by omega
 | k + 1,n,h1,h2 => by
  rw [Ww];by_cases hn : n = (k : Int) + 1
  ·subst hn;refine ⟨by simp,fun hd => ?_⟩;rw [if_pos hd];simp
  ·have:=Od y k n h1 (by omega);exact ⟨List.mem_append_left _ this.1,fun hd => List.mem_append_left _ (this.2 hd)⟩
theorem Cz (y : Yr) : ∀ k : Nat,(y.moTo k).Pairwise pb
 | 0 => by simp [Yr.moTo]
 | k + 1 => by
  rw [Ww,List.pairwise_append];refine ⟨Cz y k,?_,fun p hp q hq => ?_⟩
  ·by_cases hd : y.db = (k : Int) + 1
   ·rw [if_pos hd];simp [pb]
   ·rw [if_neg hd];simp
  ·have h1:=(Rw y k p hp).2.1;rw [List.mem_cons] at hq;rcases hq with rfl | hq
   ·exact .inl (by simp only;omega)
   ·by_cases hd : y.db = (k : Int) + 1
    ·rw [if_pos hd,List.mem_singleton] at hq;subst hq;exact .inl (by simp only;omega)
    ·rw [if_neg hd] at hq;cases hq
theorem Iw (i : Nat) (y : Yr) : ∀ (l : List (Int × Bool)) (d : Int) (x : It),x ∈ Jf i y d l → (x.n,x.s) ∈ l
 | [],_,_,h => by cases h
 | p :: l,d,x,h => by
  rw [Jf] at h;rcases List.mem_cons.1 h with rfl | h
  ·exact List.mem_cons_self ..
  ·exact List.mem_cons_of_mem _ (Iw i y l _ x h)
theorem Iv (i : Nat) (y : Yr) : ∀ (l : List (Int × Bool)) (d : Int) (p : Int × Bool),p ∈ l → ∃ x,x ∈ Jf i y d l ∧ x.y = i ∧ x.n = p.1 ∧ x.s = p.2
 | q :: l,d,p,h => by
  rw [Jf];rcases List.mem_cons.1 h with rfl | h
  ·exact ⟨_,List.mem_cons_self ..,rfl,rfl,rfl⟩
  ·obtain ⟨x,hx,h1⟩:=Iv i y l (d + y.len q.1 q.2) p h;exact ⟨x,List.mem_cons_of_mem _ hx,h1⟩
theorem Iz (c : Qf) (i : Nat) : ∀ (l : List (Int × Bool)) (d : Int),l.Pairwise pb → (Jf i (c.yr i) d l).Pairwise c.ord
 | [],_,_ => by simp [Jf]
 | p :: l,d,h => by
  rw [List.pairwise_cons] at h;rw [Jf,List.pairwise_cons];refine ⟨fun x hx => ?_,Iz c i l _ h.2⟩;have h1:=Ho c i l _ x hx;have h2:=h.1 _ (Iw i _ l _ x hx);refine ⟨h1.2.1,.inr ⟨h1.1.symm,?_⟩⟩;rcases h2 with h2 | h2
  ·exact .inl h2
  ·exact .inr h2
theorem Bz (c : Qf) : ∀ k : Nat,(c.itemsTo k).Pairwise c.ord
 | 0 => by simp [Qf.itemsTo]
 | k + 1 => by
  rw [Qf.itemsTo,List.pairwise_append];refine ⟨Bz c k,Iz c k _ _ (Cz _ 12),fun x hx y hy => ?_⟩;have h1:=Rl c k x hx;have h2:=Ho c k _ _ y hy;have h3:=Fk c (i:=x.y + 1) (j:=k) (by omega);exact ⟨by omega,.inl (by omega)⟩
theorem L3 {c : Qf} {i j : Nat} {x y : It} (hx : c.items[i]? = some x) (hy : c.items[j]? = some y) (h : i < j) : c.ord x y:=by
 obtain ⟨h1,rfl⟩:=List.getElem?_eq_some_iff.1 hx;obtain ⟨h2,rfl⟩:=List.getElem?_eq_some_iff.1 hy;exact List.pairwise_iff_getElem.1 (Bz c c.ny) i j h1 h2 h
theorem My {x y : It} (h : x.before y) (h1 : x.y = y.y) (h2 : x.n = y.n) (h3 : x.s = y.s) : False:=by
 rcases h with h | ⟨_,h | ⟨_,h4,h5⟩⟩
 ·omega
 ·omega
 ·rw [h4,h5] at h3;cases h3
theorem Qez {c : Qf} {i j : Nat} {x y : It} (hx : c.items[i]? = some x) (hy : c.items[j]? = some y) (h1 : x.y = y.y) (h2 : x.n = y.n) (h3 : x.s = y.s) : i = j:=by
 rcases Nat.lt_trichotomy i j with h | h | h
 ·exact (My (L3 hx hy h).2 h1 h2 h3).elim
 ·exact h
 ·exact (My (L3 hy hx h).2 h1.symm h2.symm h3.symm).elim
theorem Bu (c : Qf) {i : Nat} {x : It} (hx : x ∈ Jf i (c.yr i) (c.dayAt i) (c.yr i).mos) : ∀ k : Nat,i < k → x ∈ c.itemsTo k
 | k + 1,h => by
  rw [Qf.itemsTo,List.mem_append];by_cases hk : i = k
  ·subst hk;exact .inr hx
  ·exact .inl (Bu c hx k (by omega))
theorem Eg {x : It} {d : Dt} : x.of d = true ↔ ((x.y : Int) = d.y ∧ x.n = d.m ∧ x.s = d.s):=by
 simp [It.of,and_assoc]
theorem Kr {c : Qf} {d : Dt} : c.has d = true ↔ ((0 ≤ d.y ∧ d.y < c.ny) ∧ (1 ≤ d.m ∧ d.m ≤ 12) ∧ (d.s = true → (c.yrI d.y).db = d.m) ∧ (1 ≤ d.d ∧ d.d ≤ (c.yrI d.y).len d.m d.s)):=by
 simp only [Qf.has,Bool.and_eq_true,decide_eq_true_eq,Bool.or_eq_true,Bool.not_eq_true',and_assoc];cases d.s <;> simp
theorem Aw (d : Dt) : ∀ (l : List It) (k : Int),(∃ x,x ∈ l ∧ x.of d = true) → ∃ (i : Nat) (x : It),l[i]? = some x ∧ x.of d = true ∧ Ye d l k = (x.first + d.d - 1,k + i + 1)
 | [],_,h => by obtain ⟨x,hx,_⟩:=h;cases hx
 | x :: l,k,h => by
  by_cases ho : x.of d = true
  ·exact ⟨0,x,rfl,ho,by rw [Ye,if_pos ho];simp⟩
  ·obtain ⟨z,hz,hzo⟩:=h
   have hz' : z ∈ l:=by
    rcases List.mem_cons.1 hz with rfl | h1
    ·exact absurd hzo ho
    ·exact h1
   obtain ⟨i,y,hy,hyo,hn⟩:=Aw d l (k + 1) ⟨z,hz',hzo⟩;exact ⟨i + 1,y,by simpa using hy,hyo,by rw [Ye,if_neg ho,hn];congr 1;omega⟩
theorem Mc {c : Qf} {d : Dt} (h : c.has d = true) : ∃ (i : Nat) (x : It),c.items[i]? = some x ∧ ((x.y : Int) = d.y ∧ x.n = d.m ∧ x.s = d.s) ∧ c.num d = (x.first + d.d - 1,(i : Int) + 1) ∧ 1 ≤ d.d ∧ d.d ≤ x.len c:=by
 obtain ⟨⟨h1,h2⟩,⟨h3,h4⟩,h5,h6,h7⟩:=Kr.1 h
 have hex : ∃ x,x ∈ c.items ∧ x.of d = true:=by
  have hm : (d.m,d.s) ∈ (c.yr d.y.toNat).mos:=by
   have:=Od (c.yr d.y.toNat) 12 d.m h3 (by omega);cases hs : d.s
   ·exact this.1
   ·exact this.2 (h5 hs)
  obtain ⟨x,hx,hy,hn,hs⟩:=Iv d.y.toNat (c.yr d.y.toNat) _ (c.dayAt d.y.toNat) _ hm;exact ⟨x,Bu c hx c.ny (by omega),Eg.2 ⟨by omega,hn,hs⟩⟩
 obtain ⟨i,x,hx,ho,hn⟩:=Aw d c.items 0 hex;have ho':=Eg.1 ho;refine ⟨i,x,hx,ho',by unfold Qf.num;rw [hn];congr 1;omega,h6,?_⟩
 have e : x.len c = (c.yrI d.y).len d.m d.s:=by
  unfold It.len Qf.yrI;rw [ho'.2.1,ho'.2.2,← ho'.1];rfl
 omega
def Dt.less (a b : Dt) : Bool:=if a.y = b.y then (if a.m = b.m then (if a.s = b.s then decide (a.d < b.d) else b.s) else decide (a.m < b.m)) else decide (a.y < b.y)
theorem Qe9 {a b : Dt} (h : a.y < b.y ∨ (a.y = b.y ∧ (a.m < b.m ∨ (a.m = b.m ∧ a.s = false ∧ b.s = true)))) : a.less b = true:=by
 unfold Dt.less;rcases h with h | ⟨h1,h | ⟨h2,h3,h4⟩⟩
 ·rw [if_neg (by omega)];exact decide_eq_true h
 ·rw [if_pos h1,if_neg (by omega)];exact decide_eq_true h
 ·rw [if_pos h1,if_pos h2,h3,h4];rfl
theorem Qe8 {a b : Dt} (h : b.y < a.y ∨ (b.y = a.y ∧ (b.m < a.m ∨ (b.m = a.m ∧ b.s = false ∧ a.s = true)))) : a.less b = false:=by
 unfold Dt.less;rcases h with h | ⟨h1,h | ⟨h2,h3,h4⟩⟩
 ·rw [if_neg (by omega)];exact decide_eq_false (by omega)
 ·rw [if_pos h1.symm,if_neg (by omega)];exact decide_eq_false (by omega)
 ·rw [if_pos h1.symm,if_pos h2.symm,h3,h4];rfl
theorem Uy {c : Qf} {a b : Dt} (ha : c.has a = true) (hb : c.has b = true) : a.less b = decide ((c.num a).1 < (c.num b).1) ∧ ((c.num a).1 = (c.num b).1 ↔ a = b) ∧
  ((c.num a).1 < (c.num b).1 → 0 < 30 * ((c.num b).2 - (c.num a).2) + b.d - a.d) ∧ ((c.num a).1 = (c.num b).1 → 30 * ((c.num b).2 - (c.num a).2) + b.d - a.d = 0):=by
 obtain ⟨i,x,hx,⟨x1,x2,x3⟩,xn,xd,xl⟩:=Mc ha;obtain ⟨j,y,hy,⟨y1,y2,y3⟩,yn,yd,yl⟩:=Mc hb;have lx:=Wt (c.yr x.y) x.n x.s;have ly:=Wt (c.yr y.y) y.n y.s
 change 29 ≤ x.len c ∧ x.len c ≤ 30 at lx
 change 29 ≤ y.len c ∧ y.len c ≤ 30 at ly
 rw [xn,yn];rcases Nat.lt_trichotomy i j with h | h | h
 ·obtain ⟨o1,o2⟩:=L3 hx hy h
  have hl : a.less b = true:=Qe9 (by
   rw [← x1,← y1,← x2,← y2,← x3,← y3];rcases o2 with o | ⟨p,o⟩
   ·exact .inl (by omega)
   ·exact .inr ⟨by omega,o⟩)
  simp only
  refine ⟨by rw [hl];exact (decide_eq_true (by omega)).symm,⟨fun h => by omega,fun h => ?_⟩,fun _ => by omega,fun h => by omega⟩;subst h;exact (My o2 (by omega) (by omega) (by rw [x3,y3])).elim
 ·subst h;obtain rfl : x = y := Option.some.inj (hx.symm.trans hy);have e1 : a.y = b.y := by omega
  have e2 : a.m = b.m:=by omega
  have e3 : a.s = b.s:=x3.symm.trans y3
  simp only
  refine ⟨?_,⟨fun h => ?_,fun h => by rw [h]⟩,fun _ => by omega,fun _ => by omega⟩
  ·unfold Dt.less;rw [if_pos e1,if_pos e2,if_pos e3];by_cases hd : a.d < b.d
   ·rw [decide_eq_true hd];exact (decide_eq_true (by omega)).symm
   ·rw [decide_eq_false hd];exact (decide_eq_false (by omega)).symm
  ·have e4 : a.d = b.d := by omega
   cases a;cases b;simp only at e1 e2 e3 e4;rw [e1,e2,e3,e4]
 ·obtain ⟨o1,o2⟩:=L3 hy hx h
  have hl : a.less b = false:=Qe8 (by
   rw [← x1,← y1,← x2,← y2,← x3,← y3];rcases o2 with o | ⟨p,o⟩
   ·exact .inl (by omega)
   ·exact .inr ⟨by omega,o⟩)
  simp only
  refine ⟨by rw [hl];exact (decide_eq_false (by omega)).symm,⟨fun h => by omega,fun h => ?_⟩,fun h => by omega,fun h => by omega⟩;subst h;exact (My o2 (by omega) (by omega) (by rw [x3,y3])).elim
/-! ### The date of a number -/
theorem S8 {c : Qf} {n : Int} {x : It} : ∀ {l : List It} {i : Nat},l[i]? = some x → x.first ≤ n → n - x.first < x.len c → (∀ (j : Nat) (y : It),j < i → l[j]? = some y → ¬ (y.first ≤ n ∧ n - y.first < y.len c)) → c.atFrom n l = some ⟨x.y,x.n,x.s,n - x.first + 1⟩
 | y :: l,0,h,h1,h2,_ => by
  obtain rfl : y = x:=by simpa using h
  rw [Qf.atFrom,if_pos ⟨h1,h2⟩]
 | y :: l,i + 1,h,h1,h2,h3 => by
  rw [Qf.atFrom,if_neg (h3 0 y (by omega) rfl)];exact S8 (by simpa using h) h1 h2 (fun j z hj hz => h3 (j + 1) z (by omega) (by simpa using hz))
theorem at_num {c : Qf} {d : Dt} (h : c.has d = true) : c.at? (c.num d).1 = some d:=by
 obtain ⟨i,x,hx,⟨x1,x2,x3⟩,xn,xd,xl⟩:=Mc h;rw [xn]
 simp only
 unfold Qf.at?;rw [S8 hx (by omega) (by omega) (fun j y hj hy hc => ?_)]
 ·have e : x.first + d.d - 1 - x.first + 1 = d.d := by omega
  rw [e,x1,x2,x3]
 ·have:=(L3 hy hx hj).1;omega
theorem Ee {c : Qf} {d : Dt} (h : c.has d = true) : 1 ≤ (c.num d).1 ∧ (c.num d).1 < c.dayAt c.ny:=by
 have h1:=at_num h;rcases Decidable.em ((c.num d).1 < 1 ∨ c.dayAt c.ny ≤ (c.num d).1) with h2 | h2
 ·rw [at_out h2] at h1;cases h1
 ·omega
end
section
open Go Go.RowKit Go.Shelf
attribute [local go_sem] Oper.semAt_some Z5
def Dt.val (d : Dt) : Value:=.agg #[.int .i64 d.y,.int .i64 d.m,.bool d.s,.int .i64 d.d]
theorem Gc {c : Qf} (h : c.valid = true) : c.ny ≤ 400:=by
 simp only [Qf.valid,Bool.and_eq_true,decide_eq_true_eq] at h;exact h.1.2
theorem Qa.kept {W W' : World} {row : Option Nat} {b : Nat} {t : TypeId} {cs : Array Value} (h : Qa W b t cs) (hg : W.grownBy W' row) (hne : some b ≠ row) : Qa W' b t cs:=(hg.block b h.lt hne).trans h
theorem Qa.not_row {W : World} {b : Nat} {t e : TypeId} {cs : Array Value} (h : Qa W b t cs) (hte : t ≠ e) {base size k : Nat} {v : Value} {xs : List Value} (hr : W.ownsRow base e size v k xs) : some b ≠ v.ownBlock:=by
 rcases hr.2 with ⟨rfl,_⟩ | ⟨g,cap,cur,rfl,_,hgb,_⟩
 ·simp [Value.ownBlock]
 ·intro e';obtain rfl : b = g := by simpa [Value.ownBlock] using e'
  have:=(show W.heap[b]? = _ from h).symm.trans hgb;simp at this;exact hte this.2
theorem W4 {W : World} {base size k : Nat} {e : TypeId} {v : Value} {xs : List Value} (hr : W.ownsRow base e size v k xs) : ∀ r,v.ownBlock = some r → base ≤ r ∧ ∃ cur,W.heap[r]? = some (.cells cur e (0,0)):=by
 rcases hr.2 with ⟨rfl,_⟩ | ⟨g,cap,cur,rfl,hb,hgb,_⟩
 ·intro r h;simp [Value.ownBlock] at h
 ·intro r h;obtain rfl : g = r := by simpa [Value.ownBlock] using h
  exact ⟨hb,cur,hgb⟩
namespace SpStep
variable {wd W0 W W' : World} {B0 Bo Bx : Nat} {mcs : Array Value} {L : List Sp} {v : Value}
end SpStep
/-- A slice that reads as some spans. -/
def Gk (w : World) (v : Value) (l : List Sp) : Prop:=∃ A cap,v = .slice A l.length cap ∧ Qp w A l.length 2 (fun i => (l.getD i ⟨0,0⟩).cells) ∧ l.length ≤ cap ∧ cap ≤ maxLen
theorem Gk.ext {w w' : World} {v : Value} {l : List Sp} (h : Gk w v l) (e : Qb w w') : Gk w' v l:=by
 obtain ⟨A,cap,hv,hr,hc,hm⟩:=h;exact ⟨A,cap,hv,hr.ext e,hc,hm⟩
end
section
open Go Go.RowKit Go.Shelf
attribute [local go_sem] Z5
theorem Iy {c : Qf} {i : Nat} (hi : i < c.ny) : ∀ (k : Nat),k ≤ 12 → ∀ x,x ∈ Jf i (c.yr i) (c.dayAt i) ((c.yr i).moTo k) → c.okIt x
 | 0,_,x,hx => by simp [Yr.moTo,Jf] at hx
 | k + 1,hk,x,hx => by
  rw [Ww,Mm,List.mem_append] at hx;rcases hx with hx | hx
  ·exact Iy hi k (by omega) x hx
  ·by_cases h : (c.yr i).db = (k : Int) + 1
   ·rw [if_pos h] at hx;rcases List.mem_cons.1 hx with rfl | hx
    ·exact Nx hi (by omega)
    ·rcases List.mem_cons.1 hx with rfl | hx
     ·exact Bt hi (by omega)
     ·cases hx
   ·rw [if_neg h] at hx;rcases List.mem_cons.1 hx with rfl | hx
    ·exact Nx hi (by omega)
    ·cases hx
theorem Bv (c : Qf) : ∀ i : Nat,i ≤ c.ny → ∀ x,x ∈ c.itemsTo i → c.okIt x
 | 0,_,x,hx => by cases hx
 | i + 1,hi,x,hx => by
  rw [Qf.itemsTo,List.mem_append] at hx;rcases hx with hx | hx
  ·exact Bv c i (by omega) x hx
  ·exact Iy (by omega) 12 (by omega) x hx
theorem Qe0 (c : Qf) : ∀ x,x ∈ c.items → c.okIt x:=Bv c c.ny (Nat.le_refl _)
theorem G9 (c : Qf) (d : Dt) : c.checks (fun _ => d) 1 = c.inE d:=by simp [Qf.checks,Qf.inE]
def Vs (a b : Dt) (i : Nat) : Dt:=if i = 0 then a else b
theorem Fa (c : Qf) (a b : Dt) : c.checks (Vs a b) 2 = c.in2E a b:=by
 simp only [Qf.checks,Qf.in2E,show List.range 2 = [0,1] from rfl,List.all_cons,List.all_nil,Bool.and_true];rfl
theorem Ri (c : Qf) (d : Dt) : (c.valid = false ∧ c.inE d = 70) ∨ (c.valid = true ∧ c.has d = false ∧ c.inE d = 71) ∨ (c.valid = true ∧ c.has d = true ∧ c.inE d = 0):=by
 unfold Qf.inE;cases c.valid <;> cases c.has d <;> simp
theorem Ka (c : Qf) (a b : Dt) : (c.valid = false ∧ c.in2E a b = 70) ∨ (c.valid = true ∧ (c.has a && c.has b) = false ∧ c.in2E a b = 71) ∨ (c.valid = true ∧ (c.has a && c.has b) = true ∧ c.in2E a b = 0):=by
 unfold Qf.in2E;cases c.valid <;> cases c.has a <;> cases c.has b <;> simp
theorem Rb {c : Qf} {d : Dt} (h : c.has d = true) : 1 ≤ d.d ∧ d.d ≤ 30:=by
 simp only [Qf.has,Bool.and_eq_true,decide_eq_true_eq] at h;have:=Wt (c.yrI d.y) d.m d.s;omega
theorem Tj {w : World} {b : Nat} {t : TypeId} {d : Dt} (h : Qa w b t #[.int .i64 d.y,.int .i64 d.m,.bool d.s,.int .i64 d.d]) : Qp w (some ⟨b,0,none⟩) 1 4 (fun _ => Fo d):=fun _ =>
 ⟨b,0,rfl,h.lt,fun i j v hi hv => by
  obtain rfl : i = 0:=by omega
  rw [show 0 + 0 * 4 + j = j by omega,h.cell j,List.getElem?_toArray];exact hv⟩
theorem Tl {w : World} {b : Nat} {t : TypeId} {x y : Dt} (h : Qa w b t #[.int .i64 x.y,.int .i64 x.m,.bool x.s,.int .i64 x.d,.int .i64 y.y,.int .i64 y.m,.bool y.s,.int .i64 y.d]) : Qp w (some ⟨b,0,none⟩) 2 4 (fun i => Fo (Vs x y i)):=fun _ =>
 ⟨b,0,rfl,h.lt,fun i j v hi hv => by
  have hj : j < 4:=(List.getElem?_eq_some_iff.1 hv).1;rw [Nat.zero_add,h.cell]
  match i,j,hi,hj,hv with
  | 0,0,_,_,hv => exact hv
  | 0,1,_,_,hv => exact hv
  | 0,2,_,_,hv => exact hv
  | 0,3,_,_,hv => exact hv
  | 1,0,_,_,hv => exact hv
  | 1,1,_,_,hv => exact hv
  | 1,2,_,_,hv => exact hv
  | 1,3,_,_,hv => exact hv⟩
set_option maxHeartbeats 1000000 in
theorem Qgu (A A' : Option Addr) (ca cb : Nat) (c : Qf) (d : Dt) (w : World) (hC : Q8 w A ca A' cb c) :
  Calls Tryz.prog 100 #[.agg #[.slice A c.nk ca,.slice A' c.ny cb],.agg #[.int .i64 d.y,.int .i64 d.m,.bool d.s,.int .i64 d.d]] w fun e w' => e = .returned (.tuple #[.int .i64 (c.numV d),.int .i64 (c.inE d)]) ∧ Qb w w':=by
 rcases Ri c d with ⟨hv,hE⟩ | ⟨hv,hh,hE⟩ | ⟨hv,hh,hE⟩
 ·have HE := Lib.hid hE;have HV : Hid (c.numV d = 0) := by unfold Hid Qf.numV; rw [hE]; rfl
  clear hE hv
  go_enter Tryz.func100,Tryz.ntmps100
  go_wp2_with (go_at_call 94;refine (Kk _ _ _ _ c _ 1 1 (fun _ => d) _ (hC.ext Qj) (Tj (t:=51) (by repeat (first | (refine Qa.at _ _ _ _ ?_;(simp;done)) | refine Qa.alloc ?_ _))) (by omega)).mono ?_;rw [G9,HE.out];rintro e wq ⟨rfl,hq⟩);go_ret2;exact ⟨by rw [HE.out,HV.out];rfl,Qj⟩
 ·have HE := Lib.hid hE;have HV : Hid (c.numV d = 0) := by unfold Hid Qf.numV; rw [hE]; rfl
  clear hE hv
  go_enter Tryz.func100,Tryz.ntmps100
  go_wp2_with (go_at_call 94;refine (Kk _ _ _ _ c _ 1 1 (fun _ => d) _ (hC.ext Qj) (Tj (t:=51) (by repeat (first | (refine Qa.at _ _ _ _ ?_;(simp;done)) | refine Qa.alloc ?_ _))) (by omega)).mono ?_;rw [G9,HE.out];rintro e wq ⟨rfl,hq⟩);go_ret2;exact ⟨by rw [HE.out,HV.out];rfl,Qj⟩
 ·have HE := Lib.hid hE;have HV : Hid (c.numV d = (c.num d).1) := by unfold Hid Qf.numV; rw [hE]; rfl
  have HL:=Lib.hid (Lb hv);have HY:=Lib.hid (Gc hv);have HD:=Lib.hid (Rb hh);clear hE hv hh
  go_enter Tryz.func100,Tryz.ntmps100
  go_wp2_with (go_at_call 94;refine (Kk _ _ _ _ c _ 1 1 (fun _ => d) _ (hC.ext Qj) (Tj (t:=51) (by repeat (first | (refine Qa.at _ _ _ _ ?_;(simp;done)) | refine Qa.alloc ?_ _))) (by omega)).mono ?_;rw [G9,HE.out];rintro e wq ⟨rfl,hq⟩;obtain ⟨k0,k1⟩:=(Qa.ext (b:=w.heap.size) (t:=25) (cs:=#[.slice A c.nk ca,.slice A' c.ny cb]) (by repeat (first | (refine Qa.at _ _ _ _ ?_;(simp;done)) | refine Qa.alloc ?_ _)) hq).c2;obtain ⟨e0,e1,e2,e3⟩:=(Qa.ext (b:=w.heap.size + 1) (t:=51) (cs:=#[.int .i64 d.y,.int .i64 d.m,.bool d.s,.int .i64 d.d]) (by repeat (first | (refine Qa.at _ _ _ _ ?_;(simp;done)) | refine Qa.alloc ?_ _)) hq).c4)
  refine (R5 _ _ _ _ c d _ (hC.ext Qj) HL.out HY.out HD.out).mono ?_;rintro e wn ⟨rfl,hn⟩;go_wp2;go_ret2;exact ⟨by rw [HE.out,HV.out];rfl,Qj⟩
theorem Ed (c : Qf) (d : Dt) (h1 : 1 ≤ d.d) (h2 : d.d ≤ 30) : 0 ≤ (c.num d).1 ∧ (c.num d).1 ≤ 390 * (c.ny : Int) + 421 ∧ 0 ≤ (c.num d).2 ∧ (c.num d).2 ≤ 13 * (c.ny : Int):=by
 have hi : ∀ x,x ∈ c.items → c.okIt x:=Qe0 c;have hl:=Lz c c.ny
 have h : ∀ (l : List It) (k : Int),0 ≤ k → (∀ x,x ∈ l → c.okIt x) → 0 ≤ (Ye d l k).1 ∧ (Ye d l k).1 ≤ 390 * (c.ny : Int) + 421 ∧ 0 ≤ (Ye d l k).2 ∧ (Ye d l k).2 ≤ k + l.length:=by
  intro l
  induction l with
  | nil => intro k hk _;simp [Ye];omega
  | cons x l ih =>
   intro k hk hx;have hx0:=hx x (List.mem_cons_self ..);have f1:=hx0.f1;have f2:=hx0.f2;have:=ih (k + 1) (by omega) (fun y hy => hx y (List.mem_cons_of_mem _ hy));rw [Ye,List.length_cons]
   split
   ·simp only;omega
   ·omega
 have:=h c.items 0 (by omega) hi;have e : (c.items.length : Int) ≤ 13 * (c.ny : Int):=by unfold Qf.items;omega
 unfold Qf.num;omega
set_option maxHeartbeats 2000000 in
theorem Qh5 (A A' : Option Addr) (ca cb : Nat) (c : Qf) (a b : Dt) (w : World) (hC : Q8 w A ca A' cb c) :
  Calls Tryz.prog 140 #[.agg #[.slice A c.nk ca,.slice A' c.ny cb],.agg #[.int .i64 a.y,.int .i64 a.m,.bool a.s,.int .i64 a.d],.agg #[.int .i64 b.y,.int .i64 b.m,.bool b.s,.int .i64 b.d]] w fun e w' => e = .returned (.tuple #[.int .i64 (c.schV a b),.int .i64 (c.in2E a b)]) ∧ Qb w w':=by
 rcases Ka c a b with ⟨hv,hE⟩ | ⟨hv,hh,hE⟩ | ⟨hv,hh,hE⟩
 ·have HE := Lib.hid hE;have HV : Hid (c.schV a b = 0) := by unfold Hid Qf.schV; rw [hE]; rfl
  clear hE hv
  go_enter Tryz.func140,Tryz.ntmps140
  go_wp2_with (go_at_call 94;refine (Kk _ _ _ _ c _ 2 2 (Vs a b) _ (hC.ext Qj) (Tl (t:=51) (by repeat (first | (refine Qa.at _ _ _ _ ?_;(simp;done)) | refine Qa.alloc ?_ _))) (by omega)).mono ?_;rw [Fa,HE.out];rintro e wq ⟨rfl,hq⟩);go_ret2;exact ⟨by rw [HE.out,HV.out];rfl,Qj⟩
 ·have HE := Lib.hid hE;have HV : Hid (c.schV a b = 0) := by unfold Hid Qf.schV; rw [hE]; rfl
  clear hE hv
  go_enter Tryz.func140,Tryz.ntmps140
  go_wp2_with (go_at_call 94;refine (Kk _ _ _ _ c _ 2 2 (Vs a b) _ (hC.ext Qj) (Tl (t:=51) (by repeat (first | (refine Qa.at _ _ _ _ ?_;(simp;done)) | refine Qa.alloc ?_ _))) (by omega)).mono ?_;rw [Fa,HE.out];rintro e wq ⟨rfl,hq⟩);go_ret2;exact ⟨by rw [HE.out,HV.out];rfl,Qj⟩
 ·have HE := Lib.hid hE;have HV : Hid (c.schV a b = 30 * ((c.num b).2 - (c.num a).2) + b.d - a.d) := by unfold Hid Qf.schV; rw [hE]; rfl
  have HL:=Lib.hid (Lb hv);have hny:=Gc hv;have HY:=Lib.hid hny;rw [Bool.and_eq_true] at hh;have hda:=Rb hh.1;have hdb:=Rb hh.2;have HDa:=Lib.hid hda;have HDb:=Lib.hid hdb;obtain ⟨hda1,hda2⟩:=hda;obtain ⟨hdb1,hdb2⟩:=hdb;have hna:=Ed c a hda1 hda2;have hnb:=Ed c b hdb1 hdb2;obtain ⟨hna1,hna2,hna3,hna4⟩:=hna;obtain ⟨hnb1,hnb2,hnb3,hnb4⟩:=hnb;clear hE hv hh
  go_enter Tryz.func140,Tryz.ntmps140
  go_wp2_with (go_at_call 94;refine (Kk _ _ _ _ c _ 2 2 (Vs a b) _ (hC.ext Qj) (Tl (t:=51) (by repeat (first | (refine Qa.at _ _ _ _ ?_;(simp;done)) | refine Qa.alloc ?_ _))) (by omega)).mono ?_;rw [Fa,HE.out];rintro e wq ⟨rfl,hq⟩;have hcb:=(Qa.ext (b:=w.heap.size) (t:=25) (cs:=#[.slice A c.nk ca,.slice A' c.ny cb]) (by repeat (first | (refine Qa.at _ _ _ _ ?_;(simp;done)) | refine Qa.alloc ?_ _)) hq);have hab:=(Qa.ext (b:=w.heap.size + 1) (t:=51) (cs:=#[.int .i64 a.y,.int .i64 a.m,.bool a.s,.int .i64 a.d]) (by repeat (first | (refine Qa.at _ _ _ _ ?_;(simp;done)) | refine Qa.alloc ?_ _)) hq);have hbb:=(Qa.ext (b:=w.heap.size + 1 + 1) (t:=51) (cs:=#[.int .i64 b.y,.int .i64 b.m,.bool b.s,.int .i64 b.d]) (by repeat (first | (refine Qa.at _ _ _ _ ?_;(simp;done)) | refine Qa.alloc ?_ _)) hq);obtain ⟨k0,k1⟩:=hcb.c2;obtain ⟨e0,e1,e2,e3⟩:=hab.c4)
  refine (R5 _ _ _ _ c a _ (hC.ext Qj) HL.out HY.out HDa.out).mono ?_;rintro e wn ⟨rfl,hn⟩;obtain ⟨k0,k1⟩:=(hcb.ext hn).c2;obtain ⟨g0,g1,g2,g3⟩:=(hbb.ext hn).c4;go_wp2_with (fail);refine (R5 _ _ _ _ c b _ (hC.ext Qj) HL.out HY.out HDb.out).mono ?_;rintro e wm ⟨rfl,hm⟩;obtain ⟨y0,y1,y2,y3⟩:=((hab.ext hn).ext hm).c4;obtain ⟨z0,z1,z2,z3⟩:=((hbb.ext hn).ext hm).c4;go_wp2;go_ret2;exact ⟨by rw [HE.out,HV.out];rfl,Qj⟩
end
section
open Go Go.RowKit
attribute [local go_sem] Z5
theorem Qer : (Tryz.prog.info? 276).map (fun i => (i.zero,i.size,i.bytes)) = some (some (.agg #[.int .i64 0,.bool false,.int .i64 0]),3,24):=by kernel_rfl
theorem V0 (w : World) (l : List Value) (t : TypeId) : ∀ j u,l[j]? = some u → (w.alloc (.cells l.toArray t)).cell? ((⟨w.heap.size,0,none⟩ : Addr).add j) = some u:=fun j u hj => by
 have h:=(Qa.new w t l.toArray).cell j;have e : ((⟨w.heap.size,0,none⟩ : Addr).add j) = ⟨w.heap.size,j,none⟩:=by unfold Addr.add;split <;> simp_all
 rw [e,h]
 simpa using hj
theorem Jp {w w' : World} {base size n : Nat} {e : TypeId} {v : Value} {xs : List Value} (h : w.ownsRow base e size v n xs) (x : Qb w w') : w'.ownsRow base e size v n xs:=h.kept (Nr x) (by
 rcases h.2 with ⟨rfl,_⟩ | ⟨g,cap,cur,rfl,_⟩
 ·exact .inl rfl
 ·exact .inr (fun e => by cases e))
def Xz (y : Yr) (l : List (Int × Bool)) : List Value:=l.flatMap fun p => [.int .i64 p.1,.bool p.2,.int .i64 (y.len p.1 p.2)]
theorem Cx (y : Yr) (l l' : List (Int × Bool)) : Xz y (l ++ l') = Xz y l ++ Xz y l':=by simp [Xz]
theorem Cv (y : Yr) : ∀ (l : List (Int × Bool)) (i j : Nat) (v : Value),i < l.length → [Value.int .i64 (l.getD i (0,false)).1,.bool (l.getD i (0,false)).2,.int .i64 (y.len (l.getD i (0,false)).1 (l.getD i (0,false)).2)][j]? = some v → (Xz y l)[i * 3 + j]? = some v
 | [],i,_,_,h,_ => by simp at h
 | p :: l,0,j,v,_,h => by
  have hj : j < 3:=by have:=(List.getElem?_eq_some_iff.1 h).1;simpa using this
  show ([Value.int .i64 p.1,.bool p.2,.int .i64 (y.len p.1 p.2)] ++ Xz y l)[0 * 3 + j]? = some v
  rw [Nat.zero_mul,Nat.zero_add,List.getElem?_append_left (by simpa using hj)]
  exact h
 | p :: l,i + 1,j,v,hi,h => by
  show ([Value.int .i64 p.1,.bool p.2,.int .i64 (y.len p.1 p.2)] ++ Xz y l)[(i + 1) * 3 + j]? = some v
  rw [List.getElem?_append_right (by simp;omega)];have:=Cv y l i j v (by simpa using hi) h
  simpa [show (i + 1) * 3 + j - 3 = i * 3 + j by omega] using this
def Oh (y : Yr) (i : Nat) : List Value:=[.int .i64 (y.mos.getD i (0,false)).1,.bool (y.mos.getD i (0,false)).2,.int .i64 (y.len (y.mos.getD i (0,false)).1 (y.mos.getD i (0,false)).2)]
/-- The value v reads as the months of y. -/
def Lg (w : World) (v : Value) (y : Yr) : Prop:=∃ A cap,v = .slice A y.mos.length cap ∧ Qp w A y.mos.length 3 (Oh y)
theorem Lg.ext {w w' : World} {v : Value} {y : Yr} (h : Lg w v y) (e : Qb w w') : Lg w' v y:=by
 obtain ⟨A,cap,hv,hr⟩:=h;exact ⟨A,cap,hv,hr.ext e⟩
theorem Qfw {w : World} {base : Nat} {v : Value} {y : Yr} (h : w.ownsRow base 276 3 v y.mos.length (Xz y y.mos)) : Lg w v y:=by
 rcases h.2 with ⟨rfl,h0⟩ | ⟨q,cap,cur,rfl,hb,hq,hn,hm,_⟩
 ·exact ⟨none,0,by rw [h0],fun hp => by omega⟩
 ·refine ⟨_, _, rfl, fun _ => ⟨q, 0, rfl, (Array.getElem?_eq_some_iff.1 hq).1, fun i j v hi hv => ?_⟩⟩;have hj : j < 3 := by have := (List.getElem?_eq_some_iff.1 hv).1; simpa [Oh] using this
  rw [Nat.zero_add,World.ownsRow.cellAt h (i * 3 + j) (by omega)];exact Cv y y.mos i j v hi hv
set_option maxHeartbeats 2000000 in
theorem Ac (y : Yr) (w : World) (hl : 0 ≤ y.lg) (hl' : y.lg ≤ 8191) :
  Calls Tryz.prog 183 #[.agg #[.int .i64 y.k,.string y.nm,.int .i64 y.lg,.int .i64 y.db]] w fun e w' => ∃ v,e = .returned v ∧ Qb w w' ∧ Lg w' v y:=by
 obtain ⟨i0,hi,hz0,hz1,hz2⟩:=info_parts Qer
 go_enter Tryz.func183,Tryz.ntmps183
 go_upto_region 1 with (fail)
 obtain ⟨v,hv⟩:=Qg (w.alloc (.cells #[.int .i64 y.k,.string y.nm,.int .i64 y.lg,.int .i64 y.db] 148));rw [← hv];have E : Qb w v:=by rw [hv];exact (Qb.refl _).alloc _
 have B : Qa v w.heap.size 148 #[.int .i64 y.k,.string y.nm,.int .i64 y.lg,.int .i64 y.db]:=by rw [hv];exact Qa.new _ _ _
 clear hv;generalize w.heap.size = b at *;go_upto_region 3 with (fail)
 go_loopw [3,4] (fun o i wr => ∃ k : Nat,k ≤ 12 ∧ i = .int .i64 (k + 1) ∧ Qb v wr ∧ wr.ownsRow v.heap.size 276 3 o (y.moTo k).length (Xz y (y.moTo k))) (fun _ i _ => 13 - (intOf i).toNat)
 case atStart => exact ⟨0,by omega,rfl,Qb.refl _,⟨rfl,Or.inl ⟨rfl,rfl⟩⟩⟩
 case round =>
  obtain ⟨k,hk,rfl,hB,hO⟩:=hrel;obtain ⟨wo,rfl⟩:=Qg wr;have B1:=B.ext hB;obtain ⟨c0,c1,c2,c3⟩:=B1.c4;have lb:=B1.lt;by_cases hlt : k < 12
  ·have hlen := Oe y k;have hml : (y.moTo k).length ≤ 13 := by rw [hlen]; split <;> omega
   clear hlen;have HM:=Lib.hid hml;clear hml
   have L1 : ∀ w,Calls Tryz.prog 191 #[.agg #[.int .i64 y.k,.string y.nm,.int .i64 y.lg,.int .i64 y.db],.int .i64 k] w fun e w' => e = .returned (.int .i64 (y.len ((k : Int) + 1) false)) ∧ Qb w w':=fun w => by
    have:=Ci y k w (by omega) (by omega) hl hl'
    rwa [show Xe y.lg (k : Int).toNat = y.len ((k : Int) + 1) false by unfold Yr.len;congr 1] at this
   have L2 : ∀ w,Calls Tryz.prog 191 #[.agg #[.int .i64 y.k,.string y.nm,.int .i64 y.lg,.int .i64 y.db],.int .i64 12] w fun e w' => e = .returned (.int .i64 (y.len ((k : Int) + 1) true)) ∧ Qb w w':=fun w => Ci y 12 w (by omega) (by omega) hl hl'
   have M1 : Hid (Xz y (y.moTo k) ++ [.int .i64 ((k : Int) + 1),.bool false,.int .i64 (y.len ((k : Int) + 1) false)] = Xz y (y.moTo k ++ [((k : Int) + 1,false)])):=(Cx y (y.moTo k) [((k : Int) + 1,false)]).symm;have M2 : Hid (Xz y (y.moTo k ++ [((k : Int) + 1,false)]) ++ [.int .i64 ((k : Int) + 1),.bool true,.int .i64 (y.len ((k : Int) + 1) true)] = Xz y ((y.moTo k ++ [((k : Int) + 1,false)]) ++ [((k : Int) + 1,true)])):=(Cx y (y.moTo k ++ [((k : Int) + 1,false)]) [((k : Int) + 1,true)]).symm;generalize y.len ((k : Int) + 1) false = q1 at *;generalize y.len ((k : Int) + 1) true = q2 at *;have hkb : decide ((k : Int) + 1 ≤ 12) = true:=decide_eq_true (by omega)
   go_upto_region 6 with (first
    | (go_at_call 191;(with_reducible refine Calls.mono (L1 _) ?_);rintro e w1 ⟨rfl,h1⟩)
    | (at_builtin;refine wpList_append_own_at _ rfl _ _ 273 rfl v.heap.size 276 i0 (.agg #[.int .i64 0,.bool false,.int .i64 0]) 3 24 Tryz.underlying273 hi hz0 hz1 hz2 rfl (by decide) _ _ _ rfl ((Jp hO h1).alloc _) ⟨w1.heap.size,0,none⟩ 1 1 [.int .i64 ((k : Int) + 1),.bool false,.int .i64 q1] rfl rfl (V0 _ _ _) (by simp [Value.oneCell']) (by have:=HM.out;unfold maxLen;omega) (by have:=HM.out;omega) (by have:=hB.size;have:=h1.size;simp;omega) ?_;intro o' w2 hown hgrow _ _))
   have E2 : Qb v w2:=((hB.trans h1).alloc _).grown hgrow (fun q hq => (hO.lt q hq).1);rw [M1.out] at hown;clear hgrow h1 c0 c1 c2 c3 lb B1;have B1:=B.ext E2;obtain ⟨c0,c1,c2,c3⟩:=B1.c4;have lb:=B1.lt;clear hO;by_cases hdb : y.db = (k : Int) + 1
   ·have hdbb : (y.db == (k : Int) + 1) = true := by rw [hdb]; exact beq_self_eq_true _
    have HS : Hid ((y.moTo k ++ [((k : Int) + 1,false)]) ++ [((k : Int) + 1,true)] = y.moTo (k + 1)):=by unfold Hid;rw [Ww,if_pos hdb,List.append_assoc];rfl
    clear hdb
    go_upto_region 4 with (first
     | (go_at_call 191;(with_reducible refine Calls.mono (L2 _) ?_);rintro e w3 ⟨rfl,h3⟩)
     | (at_builtin;refine wpList_append_own_at _ rfl _ _ 273 rfl v.heap.size 276 i0 (.agg #[.int .i64 0,.bool false,.int .i64 0]) 3 24 Tryz.underlying273 hi hz0 hz1 hz2 rfl (by decide) _ _ _ rfl ((Jp hown h3).alloc _) ⟨w3.heap.size,0,none⟩ 1 1 [.int .i64 ((k : Int) + 1),.bool true,.int .i64 q2] rfl rfl (V0 _ _ _) (by simp [Value.oneCell']) (by have:=HM.out;unfold maxLen;omega) (by have:=HM.out;omega) (by have:=E2.size;have:=h3.size;simp;omega) ?_;intro o2 w4 hown2 hgrow2 _ _))
    have E4 : Qb v w4:=((E2.trans h3).alloc _).grown hgrow2 (fun q hq => (hown.lt q hq).1);rw [M2.out,HS.out] at hown2;have hl4 : (y.moTo k).length + 1 + 1 = (y.moTo (k + 1)).length:=by rw [← HS.out];simp
    rw [hl4] at hown2;clear M1 M2 HS hgrow2;go_wp2;exact ⟨⟨k + 1,by omega,by go_num,E4,hown2⟩,by simp [intOf];omega⟩
   ·have hdbb : (y.db == (k : Int) + 1) = false := beq_eq_false_iff_ne.2 hdb;have HS : Hid ((y.moTo k ++ [((k : Int) + 1, false)]) = y.moTo (k + 1)) := by unfold Hid; rw [Ww, if_neg hdb]
    clear hdb;rw [HS.out] at hown;have hl4 : (y.moTo k).length + 1 = (y.moTo (k + 1)).length:=by rw [← HS.out];simp
    rw [hl4] at hown;clear M1 M2 HS;go_wp2;exact ⟨⟨k + 1,by omega,by go_num,E2,hown⟩,by simp [intOf];omega⟩
  ·obtain rfl : k = 12 := by omega
   go_wp2;go_ret;exact ⟨_,rfl,E.trans hB,Qfw hO⟩
theorem Aa {w : World} {A : Option Addr} {y : Yr} {i : Nat} (h : Qp w A y.mos.length 3 (Oh y)) (hi : i < y.mos.length) :
  ∃ b off,A = some ⟨b,off,none⟩ ∧ b < w.heap.size ∧ w.cell? ⟨b,off + i * 3,none⟩ = some (.int .i64 (y.mos.getD i (0,false)).1) ∧ w.cell? ⟨b,off + i * 3 + 1,none⟩ = some (.bool (y.mos.getD i (0,false)).2) ∧
   w.cell? ⟨b,off + i * 3 + 2,none⟩ = some (.int .i64 (y.len (y.mos.getD i (0,false)).1 (y.mos.getD i (0,false)).2)):=by
 obtain ⟨b,off,hA,hb,hc⟩:=h (by omega);exact ⟨b,off,hA,hb,hc i 0 _ hi rfl,hc i 1 _ hi rfl,hc i 2 _ hi rfl⟩
theorem Ad {y : Yr} {m : Int} {s : Bool} (h1 : 1 ≤ m) (h2 : m ≤ 12) (h3 : s = true → y.db = m) : ∃ i,i < y.mos.length ∧ y.mos.getD i (0,false) = (m,s):=by
 have hm : (m,s) ∈ y.mos:=by
  cases s
  ·exact (Od y 12 m h1 h2).1
  ·exact (Od y 12 m h1 h2).2 (h3 rfl)
 obtain ⟨i,hi,he⟩:=List.mem_iff_getElem.1 hm;exact ⟨i,hi,by rw [List.getD_eq_getElem?_getD,List.getElem?_eq_getElem hi,Option.getD_some,he]⟩
theorem mos_of {y : Yr} {i : Nat} (h : i < y.mos.length) : 1 ≤ (y.mos.getD i (0,false)).1 ∧ (y.mos.getD i (0,false)).1 ≤ 12 ∧ ((y.mos.getD i (0,false)).2 = true → y.db = (y.mos.getD i (0,false)).1):=by
 have hm : y.mos.getD i (0,false) ∈ y.mos:=by rw [List.getD_eq_getElem?_getD,List.getElem?_eq_getElem h,Option.getD_some];exact List.getElem_mem h
 exact Rw y 12 _ hm
theorem Qd9 {c : Qf} {n : Nat} {m d : Int} {s : Bool} {i : Nat} (hn : n < c.ny) (hi : i < (c.yr n).mos.length) (h1 : ((c.yr n).mos.getD i (0,false)).1 = m) (h2 : ((c.yr n).mos.getD i (0,false)).2 = s) :
  c.has ⟨n,m,s,d⟩ = (decide (1 ≤ d) && decide (d ≤ (c.yr n).len m s)):=by
 have h:=mos_of hi;rw [h1,h2] at h;rw [Bool.eq_iff_iff,Kr,Bool.and_eq_true,decide_eq_true_eq,decide_eq_true_eq];have e : c.yrI (n : Int) = c.yr n:=by unfold Qf.yrI;rw [Int.toNat_natCast]
 simp only [e]
 constructor
 ·exact fun g => g.2.2.2
 ·exact fun g => ⟨⟨by omega,by omega⟩,⟨h.1,h.2.1⟩,h.2.2,g⟩
theorem Qea {c : Qf} {n : Nat} {m d : Int} {s : Bool} (h : ∀ i,i < (c.yr n).mos.length → ¬ (((c.yr n).mos.getD i (0,false)).1 = m ∧ ((c.yr n).mos.getD i (0,false)).2 = s)) : c.has ⟨n,m,s,d⟩ = false:=by
 rw [Bool.eq_false_iff,ne_eq,Kr];intro g;have e : c.yrI (n : Int) = c.yr n:=by unfold Qf.yrI;rw [Int.toNat_natCast]
 simp only [e] at g;obtain ⟨i,hi,he⟩:=Ad (y:=c.yr n) g.2.1.1 g.2.1.2 g.2.2.1;exact h i hi (by rw [he];exact ⟨rfl,rfl⟩)
theorem Be {c : Qf} {y m d : Int} {s : Bool} (h : y < 0 ∨ (c.ny : Int) ≤ y) : c.has ⟨y,m,s,d⟩ = false:=by
 rw [Bool.eq_false_iff,ne_eq,Kr];intro g;have:=g.1
 simp only at this
 omega
set_option maxHeartbeats 2000000 in
theorem Qd7 (A A' : Option Addr) (ca cb : Nat) (c : Qf) (D : Dt) (w : World) (hC : Q8 w A ca A' cb c) (hv : c.valid = true) :
  Calls Tryz.prog 157 #[.agg #[.slice A c.nk ca,.slice A' c.ny cb],.agg #[.int .i64 D.y,.int .i64 D.m,.bool D.s,.int .i64 D.d]] w fun e w' => e = .returned (.bool (c.has D)) ∧ Qb w w':=by
 have hny:=Gc hv;have hlg:=Lb hv;clear hv;obtain ⟨y,m,s,d⟩:=D
 simp only
 by_cases h0 : y < 0
 ·have HR:=Lib.hid (Be (c:=c) (m:=m) (d:=d) (s:=s) (.inl h0))
  go_enter Tryz.func157,Tryz.ntmps157
  go_upto_region 1 with (fail)
  obtain ⟨v,hv⟩:=Qg ((w.alloc (.cells #[.slice A c.nk ca,.slice A' c.ny cb] 25)).alloc (.cells #[.int .i64 y,.int .i64 m,.bool s,.int .i64 d] 51));rw [← hv];have E : Qb w v:=by rw [hv];exact ((Qb.refl _).alloc _).alloc _
  have B1 : Qa v w.heap.size 25 #[.slice A c.nk ca,.slice A' c.ny cb]:=by rw [hv];exact (Qa.new _ _ _).alloc _
  have B2 : Qa v (w.heap.size + 1) 51 #[.int .i64 y,.int .i64 m,.bool s,.int .i64 d]:=by rw [hv];exact Qa.at _ _ _ _ (by simp)
  clear hv;have C:=hC.ext E;clear hC;generalize w.heap.size = b1 at *;obtain ⟨k0,k1⟩:=B1.c2;have lk:=B1.lt;obtain ⟨p0,p1,p2,p3⟩:=B2.c4;have lp:=B2.lt;go_wp2;go_ret;exact ⟨by rw [HR.out];rfl,E⟩
 ·by_cases h1 : (c.ny : Int) ≤ y
  ·have HR:=Lib.hid (Be (c:=c) (m:=m) (d:=d) (s:=s) (.inr h1))
   go_enter Tryz.func157,Tryz.ntmps157
   go_upto_region 1 with (fail)
   obtain ⟨v,hv⟩:=Qg ((w.alloc (.cells #[.slice A c.nk ca,.slice A' c.ny cb] 25)).alloc (.cells #[.int .i64 y,.int .i64 m,.bool s,.int .i64 d] 51));rw [← hv];have E : Qb w v:=by rw [hv];exact ((Qb.refl _).alloc _).alloc _
   have B1 : Qa v w.heap.size 25 #[.slice A c.nk ca,.slice A' c.ny cb]:=by rw [hv];exact (Qa.new _ _ _).alloc _
   have B2 : Qa v (w.heap.size + 1) 51 #[.int .i64 y,.int .i64 m,.bool s,.int .i64 d]:=by rw [hv];exact Qa.at _ _ _ _ (by simp)
   clear hv;have C:=hC.ext E;clear hC;generalize w.heap.size = b1 at *;obtain ⟨k0,k1⟩:=B1.c2;have lk:=B1.lt;obtain ⟨p0,p1,p2,p3⟩:=B2.c4;have lp:=B2.lt;go_wp2;go_ret;exact ⟨by rw [HR.out];rfl,E⟩
  ·obtain ⟨n, rfl⟩ := Int.eq_ofNat_of_zero_le (show 0 ≤ y by omega);have hn : n < c.ny := by omega
   have hlg:=hlg n hn
   go_enter Tryz.func157,Tryz.ntmps157
   go_upto_region 1 with (fail)
   obtain ⟨v,hv⟩:=Qg ((w.alloc (.cells #[.slice A c.nk ca,.slice A' c.ny cb] 25)).alloc (.cells #[.int .i64 (n : Int),.int .i64 m,.bool s,.int .i64 d] 51));rw [← hv];have E : Qb w v:=by rw [hv];exact ((Qb.refl _).alloc _).alloc _
   have B1 : Qa v w.heap.size 25 #[.slice A c.nk ca,.slice A' c.ny cb]:=by rw [hv];exact (Qa.new _ _ _).alloc _
   have B2 : Qa v (w.heap.size + 1) 51 #[.int .i64 (n : Int),.int .i64 m,.bool s,.int .i64 d]:=by rw [hv];exact Qa.at _ _ _ _ (by simp)
   clear hv;have C:=hC.ext E;clear hC;generalize w.heap.size = b1 at *;obtain ⟨k0,k1⟩:=B1.c2;have lk:=B1.lt;obtain ⟨p0,p1,p2,p3⟩:=B2.c4;have lp:=B2.lt;obtain ⟨yb,yo,hA',hyb,y0,y1,y2,y3⟩:=C.year hn;subst hA';have hmo:=fun w => Ac (c.yr n) w hlg.1 hlg.2
   go_upto_region 4 with (go_at_call 183;(with_reducible refine Calls.mono (hmo _) ?_);rintro e v2 ⟨mv,rfl,h,MA⟩)
   obtain ⟨MA,mcap,rfl,MM⟩:=MA;clear y0 y1 y2 y3 hyb hmo;replace E:=Qb.trans E h;replace C:=C.ext h;replace B1:=B1.ext h;replace B2:=B2.ext h;clear h;clear k0 k1 lk;clear p0 p1 p2 p3 lp;obtain ⟨k0,k1⟩:=B1.c2;have lk:=B1.lt;obtain ⟨p0,p1,p2,p3⟩:=B2.c4;have lp:=B2.lt;have HH:=Lib.hid (fun i hi h1 h2 => Qd9 (c:=c) (n:=n) (m:=m) (d:=d) (s:=s) (i:=i) hn hi h1 h2);have HM:=Lib.hid (Qea (c:=c) (n:=n) (m:=m) (d:=d) (s:=s));generalize hY : c.yr n = Y at *;clear hY;have hml:=(Og Y).2;go_upto_region 5 with (fail)
   go_loopw [6] (fun i wr => ∃ k : Nat,k ≤ Y.mos.length ∧ i = .int .i64 k ∧ (∀ i,i < k → ¬ ((Y.mos.getD i (0,false)).1 = m ∧ (Y.mos.getD i (0,false)).2 = s)) ∧ Qb v2 wr) (fun i _ => Y.mos.length - (intOf i).toNat)
   case atStart => exact ⟨0,Nat.zero_le _,rfl,(fun i hi => absurd hi (by omega)),Qb.refl _⟩
   case round =>
    obtain ⟨k,hk,rfl,hno,hE⟩:=hrel;obtain ⟨wo,rfl⟩:=Qg wr;have HN:=Lib.hid hno;clear hno;clear p0 p1 p2 p3 lp k0 k1 lk;obtain ⟨p0,p1,p2,p3⟩:=(B2.ext hE).c4;have lp:=(B2.ext hE).lt;by_cases hlt : k < Y.mos.length
    ·obtain ⟨mb,mo,rfl,hmb,c0,c1,c2⟩:=Aa (MM.ext hE) hlt;have HH:=HH.out k hlt
     have HS : Hid (¬ ((Y.mos.getD k (0,false)).1 = m ∧ (Y.mos.getD k (0,false)).2 = s) → ∀ i,i < k + 1 → ¬ ((Y.mos.getD i (0,false)).1 = m ∧ (Y.mos.getD i (0,false)).2 = s)):=fun h i hi => by
      by_cases e : i = k
      ·subst e;exact h
      ·exact HN.out i (by omega)
     generalize Y.mos.length = L at *;generalize (Y.mos.getD k (0,false)).1 = x at *;generalize (Y.mos.getD k (0,false)).2 = z at *;by_cases hx : x = m
     ·have hxb : (x == m) = true := by rw [hx]; exact beq_self_eq_true _
      by_cases hz : z = s
      ·have hzb : (z == s) = true := by rw [hz]; exact beq_self_eq_true _
       replace HH:=HH hx hz;rw [show Y.len m s = Y.len x z by rw [hx,hz]] at HH;clear hx hz HS;generalize Y.len x z = q at *;by_cases g1 : 1 ≤ d
       ·by_cases g2 : d ≤ q
        ·replace HH : Hid (_ = true):=HH.trans (by rw [decide_eq_true g1,decide_eq_true g2];rfl);go_upto_region 7 with (fail)
         refine Zd wo Qo (by kernel_rfl) Qj ?_;intro hne hrx hry;try simp only []
         try simp only [List.append_eq,List.cons_append,List.nil_append]
         skip
         repeat (first
          | go_big_quiet_skip
          | (go_big_quiet_want;go_big_quiet_op;go_big_quiet_on))
         clear hne hry hrx;refine wpQuiet_nil ?_;intro wn hwn;obtain ⟨hcwn,hfwn,hzwn⟩:=Qb.rules hwn;try simp only [World.size_alloc] at hzwn
         obtain ⟨hcbwn,hfbwn,hzbwn⟩:=Qb.rules (show Qb wo wn from Qj);clear hcwn hfwn;go_upto_region 8 with (fail)
         refine Zd wo Qo (by kernel_rfl) Qj ?_;intro hne hrx hry;try simp only []
         try simp only [List.append_eq,List.cons_append,List.nil_append]
         skip
         repeat (first
          | go_big_quiet_skip
          | (go_big_quiet_want;go_big_quiet_op;go_big_quiet_on))
         clear hne hry hrx;refine wpQuiet_nil ?_;intro wp hwp;obtain ⟨hcwp,hfwp,hzwp⟩:=Qb.rules hwp;try simp only [World.size_alloc] at hzwp
         obtain ⟨hcbwp,hfbwp,hzbwp⟩:=Qb.rules (show Qb wo wp from Qj);clear hcwp hfwp;go_wp2;go_ret;exact ⟨by rw [HH.out];rfl,E.trans (hE.trans (hwn.trans hwp))⟩
        ·replace HH : Hid (_ = false):=HH.trans (by rw [decide_eq_false g2,Bool.and_false]);go_upto_region 7 with (fail)
         refine Zd wo Qo (by kernel_rfl) Qj ?_;intro hne hrx hry;try simp only []
         try simp only [List.append_eq,List.cons_append,List.nil_append]
         skip
         repeat (first
          | go_big_quiet_skip
          | (go_big_quiet_want;go_big_quiet_op;go_big_quiet_on))
         clear hne hry hrx;refine wpQuiet_nil ?_;intro wn hwn;obtain ⟨hcwn,hfwn,hzwn⟩:=Qb.rules hwn;try simp only [World.size_alloc] at hzwn
         obtain ⟨hcbwn,hfbwn,hzbwn⟩:=Qb.rules (show Qb wo wn from Qj);clear hcwn hfwn;go_upto_region 8 with (fail)
         refine Zd wo Qo (by kernel_rfl) Qj ?_;intro hne hrx hry;try simp only []
         try simp only [List.append_eq,List.cons_append,List.nil_append]
         skip
         repeat (first
          | go_big_quiet_skip
          | (go_big_quiet_want;go_big_quiet_op;go_big_quiet_on))
         clear hne hry hrx;refine wpQuiet_nil ?_;intro wp hwp;obtain ⟨hcwp,hfwp,hzwp⟩:=Qb.rules hwp;try simp only [World.size_alloc] at hzwp
         obtain ⟨hcbwp,hfbwp,hzbwp⟩:=Qb.rules (show Qb wo wp from Qj);clear hcwp hfwp;go_wp2;go_ret;exact ⟨by rw [HH.out];rfl,E.trans (hE.trans (hwn.trans hwp))⟩
       ·replace HH : Hid (_ = false):=HH.trans (by rw [decide_eq_false g1];rfl);go_upto_region 7 with (fail)
        refine Zd wo Qo (by kernel_rfl) Qj ?_;intro hne hrx hry;try simp only []
        try simp only [List.append_eq,List.cons_append,List.nil_append]
        skip
        repeat (first
         | go_big_quiet_skip
         | (go_big_quiet_want;go_big_quiet_op;go_big_quiet_on))
        clear hne hry hrx;refine wpQuiet_nil ?_;intro wn hwn;obtain ⟨hcwn,hfwn,hzwn⟩:=Qb.rules hwn;try simp only [World.size_alloc] at hzwn
        obtain ⟨hcbwn,hfbwn,hzbwn⟩:=Qb.rules (show Qb wo wn from Qj);clear hcwn hfwn;go_upto_region 8 with (fail)
        refine Zd wo Qo (by kernel_rfl) Qj ?_;intro hne hrx hry;try simp only []
        try simp only [List.append_eq,List.cons_append,List.nil_append]
        skip
        repeat (first
         | go_big_quiet_skip
         | (go_big_quiet_want;go_big_quiet_op;go_big_quiet_on))
        clear hne hry hrx;refine wpQuiet_nil ?_;intro wp hwp;obtain ⟨hcwp,hfwp,hzwp⟩:=Qb.rules hwp;try simp only [World.size_alloc] at hzwp
        obtain ⟨hcbwp,hfbwp,hzbwp⟩:=Qb.rules (show Qb wo wp from Qj);clear hcwp hfwp;go_wp2;go_ret;exact ⟨by rw [HH.out];rfl,E.trans (hE.trans (hwn.trans hwp))⟩
      ·have hzb : (z == s) = false:=beq_eq_false_iff_ne.2 hz;have HS:=Lib.hid (HS.out (fun h => hz h.2));clear HH hx hz;go_upto_region 7 with (fail)
       refine Zd wo Qo (by kernel_rfl) Qj ?_;intro hne hrx hry;try simp only []
       try simp only [List.append_eq,List.cons_append,List.nil_append]
       skip
       repeat (first
        | go_big_quiet_skip
        | (go_big_quiet_want;go_big_quiet_op;go_big_quiet_on))
       clear hne hry hrx;refine wpQuiet_nil ?_;intro wn hwn;obtain ⟨hcwn,hfwn,hzwn⟩:=Qb.rules hwn;try simp only [World.size_alloc] at hzwn
       obtain ⟨hcbwn,hfbwn,hzbwn⟩:=Qb.rules (show Qb wo wn from Qj);clear hcwn hfwn;go_wp2;exact ⟨⟨k + 1,by omega,by go_num,HS.out,hE.trans hwn⟩,by simp [intOf];omega⟩
     ·have hxb : (x == m) = false:=beq_eq_false_iff_ne.2 hx;have HS:=Lib.hid (HS.out (fun h => hx h.1));clear HH hx;go_upto_region 7 with (fail)
      refine Zd wo Qo (by kernel_rfl) Qj ?_;intro hne hrx hry;try simp only []
      try simp only [List.append_eq,List.cons_append,List.nil_append]
      skip
      repeat (first
       | go_big_quiet_skip
       | (go_big_quiet_want;go_big_quiet_op;go_big_quiet_on))
      clear hne hry hrx;refine wpQuiet_nil ?_;intro wn hwn;obtain ⟨hcwn,hfwn,hzwn⟩:=Qb.rules hwn;try simp only [World.size_alloc] at hzwn
      obtain ⟨hcbwn,hfbwn,hzbwn⟩:=Qb.rules (show Qb wo wn from Qj);clear hcwn hfwn;go_wp2;exact ⟨⟨k + 1,by omega,by go_num,HS.out,hE.trans hwn⟩,by simp [intOf];omega⟩
    ·have hkl : k = Y.mos.length := by omega
     have HR : Hid (c.has ⟨n,m,s,d⟩ = false):=HM.out (fun i hi => HN.out i (by omega));generalize Y.mos.length = L at *;subst hkl;go_wp2;go_ret;exact ⟨by rw [HR.out];rfl,E.trans hE⟩
theorem Qbl {P : Program} {w : World} (t ty e : TypeId) (i : TypeInfo) (z : Value) (ht : P.underlying t = some (.slice e)) (hi : P.info? e = some i) (hz : i.zero = some z) :
  (Builtin.append_ #[t,t] ty #[.slice none 0 0,.slice none 0 0]).run P w = .ok (.slice none 0 0) w:=by
 simp [Builtin.append_,run_underlying ht,sizeOf,typeInfo,zeroValue,hi,hz,Builtin.lenOf,run_firstCells_none]
/-- 'append(nil, x...)', x nil or not. -/
theorem So {P : Program} {ops : Array Oper} {rest : List Oper} {o : Oper} {a : Act} {w : World} {Q : Exit → Act → World → Prop} (hgd : o.guard = none) (s x : Operand) (t : TypeId)
  (ho : o.op = .call { callee:=.builtin .append,args:=#[s,x],argTypes:=#[t,t] })
  (base : Nat) (e : TypeId) (i : TypeInfo) (z : Value) (size bytes : Nat) (ht : P.underlying t = some (.slice e)) (hi : P.info? e = some i) (hz : i.zero = some z)
  (hsize : i.size = size) (hby : i.bytes = bytes) (hzs : z.cells.size = size) (hsz : 0 < size) (hs : a.eval s = .slice none 0 0)
  (A : Option Addr) (m c : Nat) (news : List Value) (hx : a.eval x = .slice A m c) (hnil : A = none → m = 0 ∧ c = 0) (hl : news.length = m * size) (hnews : ∀ ad,A = some ad → ∀ j u,news[j]? = some u → w.cell? (ad.add j) = some u) (h1 : ∀ u ∈ news,u.oneCell' = true)
  (h63 : m ≤ maxLen) (hbytes : m * bytes ≤ 140737488355328) (hbase : base ≤ w.heap.size)
  (h : ∀ v' w',w'.ownsRow base e size v' m news → w.grownBy w' none → wpList P ops Q rest (a.put o.dst v') w') :
  wpList P ops Q (o :: rest) a w:=by
 cases A with
 | some ad =>
  refine wpList_append_own_at _ hgd s x t ho base e i z size bytes ht hi hz hsize hby hzs hsz (.slice none 0 0) 0 [] hs (World.ownsRow_nil w base e size) ad m c news hx hl (hnews ad rfl) h1 (by omega) (by rw [Nat.zero_add];exact hbytes) hbase ?_;intro v' w' g1 g2 _ _;rw [Nat.zero_add,List.nil_append] at g1
  exact h v' w' g1 g2
 | none =>
  obtain ⟨rfl,rfl⟩:=hnil rfl;have hn : news = []:=List.eq_nil_of_length_eq_zero (by simpa using hl);subst hn;refine wpList_plain hgd fun K hK => ?_
  have hr:=Qbl (P:=P) (w:=w) t o.type e i z ht hi hz;unfold Oper.wp execOp;simp only [ho,resolve,invoke,builtin,Sem.run_bind,Sem.run_pure,Result.andThen_ok,List.map_toArray,List.map_cons,List.map_nil,hs,hx,hr];exact hK _ _ (h _ w (World.ownsRow_nil w base e size) (World.grownBy.refl _ _))
/-- The cells of n elements, one after the other. -/
def Zw (f : Nat → List Value) (n : Nat) : List Value:=(List.range n).flatMap f
theorem V6 (f : Nat → List Value) (k : Nat) : Zw f (k + 1) = Zw f k ++ f k:=by simp [Zw,List.range_succ]
theorem Xx {f : Nat → List Value} {sz : Nat} (hf : ∀ i,(f i).length = sz) : ∀ k,(Zw f k).length = k * sz
 | 0 => by simp [Zw]
 | k + 1 => by rw [V6,List.length_append,Xx hf k,hf,Nat.succ_mul]
theorem V5 {f : Nat → List Value} {sz : Nat} (hf : ∀ i,(f i).length = sz) : ∀ {k i j : Nat},i < k → j < sz → (Zw f k)[i * sz + j]? = (f i)[j]?
 | k + 1,i,j,hi,hj => by
  rw [V6];by_cases h : i = k
  ·subst h;rw [List.getElem?_append_right (by rw [Xx hf];omega),Xx hf,Nat.add_sub_cancel_left]
  ·have hik : i < k := by omega
   have hlt : i * sz + j < k * sz:=Nat.lt_of_lt_of_le (show i * sz + j < (i + 1) * sz by rw [Nat.succ_mul];omega) (Nat.mul_le_mul_right sz hik);rw [List.getElem?_append_left (by rw [Xx hf];exact hlt)];exact V5 hf hik hj
theorem Qhj (b o j : Nat) : (⟨b,o,none⟩ : Addr).add j = ⟨b,o + j,none⟩:=by unfold Addr.add;split <;> simp_all
theorem Nl {w : World} {A : Option Addr} {n sz : Nat} {f : Nat → List Value} (hf : ∀ i,(f i).length = sz) (hs : 0 < sz) (h : Qp w A n sz f) : ∀ ad,A = some ad → ∀ j u,(Zw f n)[j]? = some u → w.cell? (ad.add j) = some u:=fun ad hA j u hj => by
 have hjl : j < n * sz:=by have:=(List.getElem?_eq_some_iff.1 hj).1;rwa [Xx hf] at this
 have hn : 0 < n:=Nat.pos_of_ne_zero (fun e => by subst e;omega);obtain ⟨b,o,e,_,hc⟩:=h hn;obtain rfl : ad = ⟨b,o,none⟩:=Option.some.inj (hA.symm.trans e);have hi : j / sz < n:=(Nat.div_lt_iff_lt_mul hs).2 hjl;have hm:=Nat.mod_lt j hs;have hd:=Nat.div_add_mod j sz;have he : j / sz * sz + j % sz = j:=by rw [Nat.mul_comm];exact hd
 have:=V5 hf hi hm;rw [he,hj] at this;rw [Qhj];have:=hc (j / sz) (j % sz) u hi this.symm;rw [show o + j / sz * sz + j % sz = o + j by omega] at this;exact this
theorem Ve {w : World} {base k sz : Nat} {e : TypeId} {v : Value} {f : Nat → List Value} (hf : ∀ i,(f i).length = sz) (h : w.ownsRow base e sz v k (Zw f k)) : ∃ F c,v = .slice F k c ∧ Qp w F k sz f ∧ k ≤ c ∧ c ≤ maxLen ∧ (F = none → k = 0 ∧ c = 0) ∧ ∀ a,F = some a → base ≤ a.block:=by
 rcases h.2 with ⟨rfl,h0⟩ | ⟨q,cap,cur,rfl,hb,hq,hn,hm,_⟩
 ·exact ⟨none,0,by rw [h0],fun hp => by omega,by omega,by omega,fun _ => ⟨h0,rfl⟩,fun a h => by cases h⟩
 ·refine ⟨_, _, rfl, fun _ => ⟨q, 0, rfl, (Array.getElem?_eq_some_iff.1 hq).1, fun i j v hi hv => ?_⟩, hn, hm, (fun h => by cases h), fun a h => by cases h; exact hb⟩;have hj : j < sz := by have := (List.getElem?_eq_some_iff.1 hv).1; rwa [hf] at this
  have hlt : i * sz + j < k * sz:=Nat.lt_of_lt_of_le (show i * sz + j < (i + 1) * sz by rw [Nat.succ_mul];omega) (Nat.mul_le_mul_right sz hi);rw [Nat.zero_add,World.ownsRow.cellAt h (i * sz + j) hlt,V5 hf hi hj];exact hv
theorem Fx {f : Nat → List Value} {n : Nat} (h : ∀ i,∀ u ∈ f i,u.oneCell' = true) : ∀ u ∈ Zw f n,u.oneCell' = true:=fun u hu => by
 obtain ⟨i,_,hi⟩:=List.mem_flatMap.1 hu;exact h i u hi
theorem Qjk {P : Program} {id : Nat} {Q : Exit → Act → World → Prop} {a : Act} {w : World} {l : List Oper} (n : Nat) (W : World) (hm : P.follows .mixedOrders = true) (hn : n = l.length) (he : Qb W w)
  (h : Nonempty (XW W) → (∀ (u : XW W) b o,b < W.heap.size → u.w.cell? ⟨b,o,none⟩ = W.cell? ⟨b,o,none⟩) →
   ∀ w',Qb w w' → Wh P .any l.toArray (Qb W) (fun a w => Q .normal a w) n (Array.replicate n false) a w') : (Code.region id l.toArray true).wp P Q a w:=by
 have H:=h (XW.some W) (fun u => u.cell) { w with drawn:=w.drawn + 1 } ⟨rfl,rfl,rfl,Nat.le_refl _,fun _ _ => rfl⟩;have _:=he;refine Code.wp_mono (Q:=Ji fun a w => Q .normal a w) (fun e a' w' h' => by cases e <;> first | exact h' | exact False.elim h') (wp_region_any hm (Qa1 (C:=Qb W) _ _ _ _ ?_));subst hn
 simpa using H
theorem Ir {w : World} {A : Option Addr} {n sz : Nat} {f : Nat → List Value} (h : Qp w A n sz f) {p : Addr} (u : Value) (hne : ∀ a,A = some a → a.block ≠ p.block) : Qp (w.setCell p u) A n sz f:=fun h0 => by
 obtain ⟨b,off,hA,hb,hc⟩:=h h0;refine ⟨b,off,hA,by simpa [World.setCell] using hb,fun i j v hi hv => ?_⟩;have hb2 : p.block ≠ b:=fun e => hne _ hA e.symm
 rw [World.cell?_setCell_other _ _ _ _ (fun e => hb2 (by rw [e]))];exact hc i j v hi hv
theorem Hk {w : World} {A : Option Addr} {n sz : Nat} {f : Nat → List Value} {b : Nat} (h : Qp w A n sz f) (hne : ∀ a,A = some a → a.block ≠ b) (i j : Nat) (u x : Value) : Qp ((w.setCell ⟨b,i,none⟩ u).setCell ⟨b,j,none⟩ x) A n sz f:=Ir (Ir h u hne) x hne
theorem Qm {W : World} {b : Nat} {t : TypeId} {v0 v1 : Value} (h : Qa W b t #[v0,v1]) (u0 u1 : Value) : Qa ((W.setCell ⟨b,0,none⟩ u0).setCell ⟨b,1,none⟩ u1) b t #[u0,u1]:=by unfold Qa at h ⊢;simp [World.setCell,Array.getElem?_modify,h]
end
section
open Go Go.RowKit
section
variable {P : Program} {ops : Array Oper} {md : Region.Mode} {C : World → Prop} {R : Act → World → Prop}
theorem I8 {W : World} (hW : C W) {A : Act} {o : Oper} {l : List Oper} {a : Act} (hb : Yx (o :: l) = true) (hz : ∀ d,o.dst = some d → d < a.tmps.size) (h : ∀ u,C u → wpQuiet P ops (fun w' => w' = u) (fun a' => a' = A) (o :: l) a) :
  ∃ v,Xv P ops C o v a ∧ ∀ u,C u → wpQuiet P ops (fun w' => w' = u) (fun a' => a' = A) l (a.put o.dst v):=by
 simp only [Yx,Bool.and_eq_true] at hb;obtain ⟨⟨hg,hd⟩,_⟩:=hb
 cases ho : o.dst with
 | none => rw [ho] at hd;cases hd
 | some d =>
  rw [ho] at hd
  have hw : Region.wanted o (yielded ops a.tmps) = true:=by
   unfold Region.wanted
   cases hgo : o.guard with
   | none => rfl
   | some g => rw [hgo] at hg;cases hg
  have each : ∀ u,C u → ∃ v,o.quietAt P a (fun w' => w' = u) u v ∧ A.tmps[d]? = some v ∧ wpQuiet P ops (fun w' => w' = u) (fun a' => a' = A) l (a.put (some d) v):=fun u hu => by
   have h1:=h u hu;unfold wpQuiet at h1;rw [if_pos hw] at h1;obtain ⟨v,h2,h3⟩:=h1;rw [ho] at h3;refine ⟨v,h2 _ rfl,?_,h3⟩;rw [O8 l _ hd h3];simp [Act.put,hz d ho]
  obtain ⟨v,_,hv,_⟩:=each W hW
  have same : ∀ u,C u → o.quietAt P a (fun w' => w' = u) u v ∧ wpQuiet P ops (fun w' => w' = u) (fun a' => a' = A) l (a.put (some d) v):=fun u hu => by
   obtain ⟨v',h1,h2,h3⟩:=each u hu;have e : v' = v:=Option.some.inj (h2.symm.trans hv);subst e;exact ⟨h1,h3⟩
  exact ⟨v,⟨hw,fun w hw => (same w hw).1⟩,fun u hu => (same u hu).2⟩
end
end
end Go.Proofs.YtoflcheopfppoaaGreatDoor
