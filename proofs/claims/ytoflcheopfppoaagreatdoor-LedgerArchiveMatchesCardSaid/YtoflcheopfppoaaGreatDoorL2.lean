/- Walks of the program's functions and plain facts, packed; proved: the lemmas below; no conditions but those that each states. -/
import Derived.Test.YtoflcheopfppoaaGreatDoorL1
import Derived.Maps.Own
import Derived.Maps.Views
import Derived.DeepKeys4
import Derived.Sort.CutIn
import Derived.Shelf.Abstract
import Derived.Shelf.RegionOpen
set_option maxRecDepth 100000
set_option maxHeartbeats 4000000
namespace Go.Proofs.YtoflcheopfppoaaGreatDoor
section
open Go Go.RowKit
attribute [local go_sem] Z5
set_option maxHeartbeats 1000000 in
theorem Bk (A A' : Option Addr) (ca cb : Nat) (c : Qf) (d : Dt) (w : World) (hC : Q8 w A ca A' cb c) (hlg : ∀ i,i < c.ny → 0 ≤ (c.yr i).lg ∧ (c.yr i).lg ≤ 8191) :
  Calls Tryz.prog 142 #[.agg #[.slice A c.nk ca,.slice A' c.ny cb],.agg #[.int .i64 d.y,.int .i64 d.m,.bool d.s,.int .i64 d.d]] w fun e w' => e = .returned (.bool (c.has d)) ∧ Qb w w':=by
 have hny:=hC.ny_le
 have H : Hid (c.has d = (!(decide (d.y < 0) || decide ((c.ny : Int) ≤ d.y) || decide (d.m < 1) || decide (12 < d.m)) && ((!d.s || ((c.yrI d.y).db == d.m)) && decide (1 ≤ d.d) && decide (d.d ≤ (c.yrI d.y).len d.m d.s)))):=by
  unfold Hid Qf.has;rw [Bool.eq_iff_iff];cases d.s <;> simp <;> omega
 generalize c.has d = r at *
 go_enter Tryz.func142,Tryz.ntmps142
 go_upto_region 1 with (fail)
 refine Uk w Qj ?_;intro hne hrx hry;try simp only []
 try simp only [List.append_eq,List.cons_append,List.nil_append]
 have hrx0:=fun u o => hrx u (w.heap.size) o (by first | omega | (simp;done) | (simp;omega))
 have hrx1:=fun u o => hrx u (w.heap.size + 1) o (by first | omega | (simp;done) | (simp;omega))
 skip
 repeat (first
  | go_big_quiet_skip
  | ((with_reducible apply Y2)
     ·exact rfl
     ·exact rfl
     ·exact rfl
     intro K hK
     unfold Qy;go_big_quiet_op;(with_reducible refine hK _ ?_);clear hK K)
  | ((with_reducible apply Y4)
     ·exact rfl
     ·exact rfl
     ·exact rfl
     intro K hK
     unfold Qy;go_big_quiet_op;(with_reducible refine hK _ ?_);clear hK K)
  | (go_big_quiet_want;go_big_quiet_op;go_big_quiet_on)
  | ((with_reducible apply Y3)
     ·first | exact Zu rfl rfl rfl | exact Zt rfl rfl rfl | exact Zs rfl rfl rfl | exact Zr rfl rfl rfl
     ·exact rfl
     ·exact rfl
     ·exact rfl
     intro K hK
     unfold Qy;go_big_quiet_op;(with_reducible refine hK _ ?_);clear hK K)
  | ((with_reducible apply Y5)
     ·first | exact Zu rfl rfl rfl | exact Zt rfl rfl rfl | exact Zs rfl rfl rfl | exact Zr rfl rfl rfl
     ·exact rfl
     ·exact rfl
     ·exact rfl
     intro K hK
     unfold Qy;go_big_quiet_op;(with_reducible refine hK _ ?_);clear hK K)
  | ((with_reducible apply Yn)
     ·first | exact Zu rfl rfl rfl | exact Zt rfl rfl rfl | exact Zs rfl rfl rfl | exact Zr rfl rfl rfl
     apply Exists.intro;refine And.intro (fun hgb => ?_) ?_
     ·intro u;try simp at hgb
      go_simp
      try simp only [if_pos hsl]
      try simp only [if_pos (hin (by omega))]
      try (simp only [hd0 (by omega)];go_simp)
      try (rw [hlook _ (Qb.trans Qj u.e) (hlk0 hgb)];go_simp)
      first
       | (with_reducible exact rfl)
     intro K hK;unfold Qy;go_big_quiet_op;(with_reducible refine hK _ ?_);clear hK K))
 clear hne hry hrx hrx0 hrx1;refine wpQuiet_nil ?_;intro wp hp;obtain ⟨hcwp,hfwp,hzwp⟩:=Qb.rules hp;try simp only [World.size_alloc] at hzwp
 have hk0wp:=fun o => hcwp (w.heap.size) o (by first | omega | (simp;done) | (simp;omega))
 have hj0wp:=fun o => hfwp (w.heap.size) o (by first | omega | (simp;done) | (simp;omega))
 have hl0wp : w.heap.size < wp.heap.size:=(by first | omega | (simp;done) | (simp;omega));have hk1wp:=fun o => hcwp (w.heap.size + 1) o (by first | omega | (simp;done) | (simp;omega))
 have hj1wp:=fun o => hfwp (w.heap.size + 1) o (by first | omega | (simp;done) | (simp;omega))
 have hl1wp : w.heap.size + 1 < wp.heap.size:=(by first | omega | (simp;done) | (simp;omega));obtain ⟨hcbwp,hfbwp,hzbwp⟩:=Qb.rules (show Qb w wp from Qj);clear hcwp hfwp;generalize hf : (decide (d.y < 0) || decide ((c.ny : Int) ≤ d.y) || decide (d.m < 1) || decide (12 < d.m)) = f at *;cases f
 ·have hb4 : 0 ≤ d.y ∧ d.y < c.ny ∧ 1 ≤ d.m ∧ d.m ≤ 12 := by simp only [Bool.or_eq_false_iff, decide_eq_false_iff_not] at hf; omega
  obtain ⟨hy0,hy1,hm0,hm1⟩:=hb4;clear hf;obtain ⟨b,off,rfl,hb,c0,c1,c2,c3⟩:=hC.yearI hy0 hy1;obtain ⟨hl,hl'⟩ : 0 ≤ (c.yrI d.y).lg ∧ (c.yrI d.y).lg ≤ 8191:=hlg _ (by omega);clear hlg hC;generalize c.yrI d.y = yy at *;go_upto_region 4 with (fail)
  refine Zd w Qo (by kernel_rfl) Qj ?_;intro hne hrx hry;try simp only []
  try simp only [List.append_eq,List.cons_append,List.nil_append]
  have hrx0:=fun u o => hrx u (w.heap.size) o (by first | omega | (simp;done) | (simp;omega))
  have hrx1:=fun u o => hrx u (w.heap.size + 1) o (by first | omega | (simp;done) | (simp;omega))
  skip
  repeat (first
   | go_big_quiet_skip
   | ((with_reducible apply Y2)
      ·exact rfl
      ·exact rfl
      ·exact rfl
      intro K hK
      unfold Qy;go_big_quiet_op;(with_reducible refine hK _ ?_);clear hK K)
   | ((with_reducible apply Y4)
      ·exact rfl
      ·exact rfl
      ·exact rfl
      intro K hK
      unfold Qy;go_big_quiet_op;(with_reducible refine hK _ ?_);clear hK K)
   | (go_big_quiet_want;go_big_quiet_op;go_big_quiet_on)
   | (go_big_quiet_want;go_big_quiet_op;apply Exists.intro;refine ⟨fun u => ?_,?_⟩
      ·first
        | (go_at_call 173;refine (L7 yy _ _ _ hm0 hm1 hl hl').mono ?_;rintro e w' ⟨rfl,hb⟩;exact ⟨rfl,u.back hb⟩)
      go_big_quiet_on)
   | ((with_reducible apply Y3)
      ·first | exact Zu rfl rfl rfl | exact Zt rfl rfl rfl | exact Zs rfl rfl rfl | exact Zr rfl rfl rfl
      ·exact rfl
      ·exact rfl
      ·exact rfl
      intro K hK
      unfold Qy;go_big_quiet_op;(with_reducible refine hK _ ?_);clear hK K)
   | ((with_reducible apply Y5)
      ·first | exact Zu rfl rfl rfl | exact Zt rfl rfl rfl | exact Zs rfl rfl rfl | exact Zr rfl rfl rfl
      ·exact rfl
      ·exact rfl
      ·exact rfl
      intro K hK
      unfold Qy;go_big_quiet_op;(with_reducible refine hK _ ?_);clear hK K)
   | ((with_reducible apply Yn)
      ·first | exact Zu rfl rfl rfl | exact Zt rfl rfl rfl | exact Zs rfl rfl rfl | exact Zr rfl rfl rfl
      apply Exists.intro;refine And.intro (fun hgb => ?_) ?_
      ·intro u;try simp at hgb
       go_simp
       try simp only [if_pos hsl]
       try simp only [if_pos (hin (by omega))]
       try (simp only [hd0 (by omega)];go_simp)
       try (rw [hlook _ (Qb.trans Qj u.e) (hlk0 hgb)];go_simp)
       first
        | (with_reducible exact rfl)
        | (go_at_call 173;refine (L7 yy _ _ _ hm0 hm1 hl hl').mono ?_;rintro e w' ⟨rfl,hb⟩;exact ⟨rfl,u.back hb⟩)
      intro K hK;unfold Qy;go_big_quiet_op;(with_reducible refine hK _ ?_);clear hK K))
  clear hne hry hrx hrx0 hrx1;refine wpQuiet_nil ?_;intro wq hq;obtain ⟨hcwq,hfwq,hzwq⟩:=Qb.rules hq;try simp only [World.size_alloc] at hzwq
  have hk0wq:=fun o => hcwq (w.heap.size) o (by first | omega | (simp;done) | (simp;omega))
  have hj0wq:=fun o => hfwq (w.heap.size) o (by first | omega | (simp;done) | (simp;omega))
  have hl0wq : w.heap.size < wq.heap.size:=(by first | omega | (simp;done) | (simp;omega));have hk1wq:=fun o => hcwq (w.heap.size + 1) o (by first | omega | (simp;done) | (simp;omega))
  have hj1wq:=fun o => hfwq (w.heap.size + 1) o (by first | omega | (simp;done) | (simp;omega))
  have hl1wq : w.heap.size + 1 < wq.heap.size:=(by first | omega | (simp;done) | (simp;omega));obtain ⟨hcbwq,hfbwq,hzbwq⟩:=Qb.rules (show Qb w wq from Qj);clear hcwq hfwq;go_wp2;go_ret;refine ⟨Jd ?_,Qj⟩;rw [H.out];rfl
 ·go_wp2;go_ret;exact ⟨Jd (by rw [H.out];rfl),Qj⟩
/-- The first of n strings that is s; -1: none. -/
def Ws (f : Nat → ByteArray) (s : ByteArray) (n : Nat) : Int:=(((List.range n).find? (fun j => decide (f j = s))).map Int.ofNat).getD (-1)
theorem Qdu {f : Nat → ByteArray} {s : ByteArray} {n k : Nat} (hk : k < n) (h : ∀ j,j < k → f j ≠ s) (e : f k = s) : Ws f s n = k:=by
 have : (List.range n).find? (fun j => decide (f j = s)) = some k:=by
  rw [List.find?_range_eq_some];exact ⟨by simpa using e,by simpa using hk,fun j hj => by simpa using h j hj⟩
 rw [Ws,this];rfl
theorem Dp {f : Nat → ByteArray} {s : ByteArray} {n : Nat} (h : ∀ j,j < n → f j ≠ s) : Ws f s n = -1:=by
 have : (List.range n).find? (fun j => decide (f j = s)) = none:=by
  rw [List.find?_eq_none];intro j hj
  simpa using h j (by simpa using hj)
 rw [Ws,this];rfl
def U8 (f : Nat → ByteArray) (s : ByteArray) (k : Nat) : Prop:=∀ j,j < k → f j ≠ s
theorem I1 {a b : ByteArray} (h : (a.toList == b.toList) = true) : a = b:=by rw [← Mp] at h;simpa using h
theorem I0 {a b : ByteArray} (h : (a.toList == b.toList) = false) : a ≠ b:=by rw [← Mp] at h;simpa using h
set_option maxHeartbeats 1000000 in
theorem Pa (A : Option Addr) (n cap : Nat) (f : Nat → ByteArray) (s : ByteArray) (w : World) (hA : Qp w A n 1 (fun i => [.string (f i)])) (hn : n ≤ 9223372036854775807) :
  Calls Tryz.prog 168 #[.slice A n cap,.string s] w fun e w' => e = .returned (.int .i64 (Ws f s n)) ∧ w = w':=by
 generalize hr : Ws f s n = r;have H : Hid (Ws f s n = r):=hr;clear hr
 go_enter Tryz.func168,Tryz.ntmps168
 go_wp2
 go_loop [5] (fun i => ∃ k : Nat,k ≤ n ∧ i = .int .i64 k ∧ U8 f s k) (fun i => n - (intOf i).toNat)
 case atStart => exact ⟨0,Nat.zero_le _,rfl,fun j hj => absurd hj (by omega)⟩
 case round =>
  obtain ⟨k,hk,rfl,hN⟩:=hrel;by_cases hlt : k < n
  ·obtain ⟨b, off, rfl, hb, hc⟩ := hA (by omega);have c0 : w.cell? ⟨b, off + k, none⟩ = some (.string (f k)) := by simpa using hc k 0 _ hlt rfl
   clear hc hA;go_wp2
   ·go_ret;exact ⟨Xs (by rw [← H.out];exact (Qdu hlt hN (I1 ‹_›)).symm),rfl⟩
   ·have hne:=I0 (a:=f k) (b:=s) ‹_›;exact ⟨⟨k + 1,by omega,by go_num,fun j hj => by rcases Nat.lt_or_ge j k with h | h;exact hN j h;rw [show j = k from by omega];exact hne⟩,by simp [intOf];omega⟩
  ·go_wp2;go_ret;exact ⟨Xs (by rw [← H.out];exact (Dp (fun j hj => hN j (by omega))).symm),rfl⟩
def J9 (f : Nat → Yr) (y : Yr) (n : Nat) : Bool:=(List.range n).any fun j => (f j).alike y
def Ss (f : Nat → Yr) (y : Yr) (k : Nat) : Prop:=∀ j,j < k → (f j).alike y = false
theorem Qd2 {f : Nat → Yr} {y : Yr} {n : Nat} (h : Ss f y n) : J9 f y n = false:=by
 rw [J9,List.any_eq_false];intro j hj;simpa using h j (by simpa using hj)
theorem Qd3 {f : Nat → Yr} {y : Yr} {n k : Nat} (hk : k < n) (h : (f k).alike y = true) : J9 f y n = true:=by
 rw [J9,List.any_eq_true];exact ⟨k,by simpa using hk,h⟩
theorem Qbc (x y : Yr) : x.alike y = ((x.k == y.k) && (x.nm.toList == y.nm.toList)):=by
 rw [Yr.alike,Mp];rfl
set_option maxHeartbeats 1000000 in
theorem Bc (A : Option Addr) (n cap : Nat) (f : Nat → Yr) (y : Yr) (w : World) (hA : Qp w A n 4 (fun i => (f i).cells)) (hn : n ≤ 9223372036854775807) :
  Calls Tryz.prog 169 #[.slice A n cap,.agg #[.int .i64 y.k,.string y.nm,.int .i64 y.lg,.int .i64 y.db]] w fun e w' => e = .returned (.bool (J9 f y n)) ∧ Qb w w':=by
 generalize hr : J9 f y n = r;have H : Hid (J9 f y n = r):=hr;clear hr
 go_enter Tryz.func169,Tryz.ntmps169
 go_wp2
 go_loopw [5] (fun i wr => ∃ k : Nat,k ≤ n ∧ i = .int .i64 k ∧ Ss f y k ∧ Qb (w.alloc (.cells #[.int .i64 y.k,.string y.nm,.int .i64 y.lg,.int .i64 y.db] 148)) wr) (fun i _ => n - (intOf i).toNat)
 case atStart => exact ⟨0,Nat.zero_le _,rfl,fun j hj => absurd hj (by omega),Qb.refl _⟩
 case round =>
  obtain ⟨k,hk,rfl,hN,hB⟩:=hrel;by_cases hlt : k < n
  ·obtain ⟨b, off, rfl, hb, hc⟩ := hA (by omega);have c0 : w.cell? ⟨b, off + k * 4, none⟩ = some (.int .i64 (f k).k) := by simpa using hc k 0 _ hlt rfl
   have c1 : w.cell? ⟨b,off + k * 4 + 1,none⟩ = some (.string (f k).nm):=hc k 1 _ hlt rfl;have HA : Hid ((f k).alike y = _):=Qbc (f k) y;clear hc hA;obtain ⟨hcwr,hfwr,hzwr⟩:=Qb.rules hB;try simp only [World.size_alloc] at hzwr
   have hk0wr:=fun o => hcwr (w.heap.size) o (by first | omega | (simp;done) | (simp;omega))
   have hj0wr:=fun o => hfwr (w.heap.size) o (by first | omega | (simp;done) | (simp;omega))
   have hl0wr : w.heap.size < wr.heap.size:=(by first | omega | (simp;done) | (simp;omega));obtain ⟨hcbwr,hfbwr,hzbwr⟩:=Qb.rules (show Qb w wr from Qj);clear hcwr hfwr;go_upto_region 4 with (fail)
   refine Zd w Qo (by kernel_rfl) Qj ?_;intro hne hrx hry;try simp only []
   try simp only [List.append_eq,List.cons_append,List.nil_append]
   have hrx0:=fun u o => hrx u (w.heap.size) o (by first | omega | (simp;done) | (simp;omega))
   skip
   repeat (first
    | go_big_quiet_skip
    | ((with_reducible apply Y2)
       ·exact rfl
       ·exact rfl
       ·exact rfl
       intro K hK
       unfold Qy;go_big_quiet_op;(with_reducible refine hK _ ?_);clear hK K)
    | ((with_reducible apply Y4)
       ·exact rfl
       ·exact rfl
       ·exact rfl
       intro K hK
       unfold Qy;go_big_quiet_op;(with_reducible refine hK _ ?_);clear hK K)
    | (go_big_quiet_want;go_big_quiet_op;go_big_quiet_on)
    | ((with_reducible apply Y3)
       ·first | exact Zu rfl rfl rfl | exact Zt rfl rfl rfl | exact Zs rfl rfl rfl | exact Zr rfl rfl rfl
       ·exact rfl
       ·exact rfl
       ·exact rfl
       intro K hK
       unfold Qy;go_big_quiet_op;(with_reducible refine hK _ ?_);clear hK K)
    | ((with_reducible apply Y5)
       ·first | exact Zu rfl rfl rfl | exact Zt rfl rfl rfl | exact Zs rfl rfl rfl | exact Zr rfl rfl rfl
       ·exact rfl
       ·exact rfl
       ·exact rfl
       intro K hK
       unfold Qy;go_big_quiet_op;(with_reducible refine hK _ ?_);clear hK K)
    | ((with_reducible apply Yn)
       ·first | exact Zu rfl rfl rfl | exact Zt rfl rfl rfl | exact Zs rfl rfl rfl | exact Zr rfl rfl rfl
       apply Exists.intro;refine And.intro (fun hgb => ?_) ?_
       ·intro u;try simp at hgb
        go_simp
        try simp only [if_pos hsl]
        try simp only [if_pos (hin (by omega))]
        try (simp only [hd0 (by omega)];go_simp)
        try (rw [hlook _ (Qb.trans Qj u.e) (hlk0 hgb)];go_simp)
        first
         | (with_reducible exact rfl)
       intro K hK;unfold Qy;go_big_quiet_op;(with_reducible refine hK _ ?_);clear hK K))
   clear hne hry hrx hrx0;refine wpQuiet_nil ?_;intro wq hq;obtain ⟨hcwq,hfwq,hzwq⟩:=Qb.rules hq;try simp only [World.size_alloc] at hzwq
   have hk0wq:=fun o => hcwq (w.heap.size) o (by first | omega | (simp;done) | (simp;omega))
   have hj0wq:=fun o => hfwq (w.heap.size) o (by first | omega | (simp;done) | (simp;omega))
   have hl0wq : w.heap.size < wq.heap.size:=(by first | omega | (simp;done) | (simp;omega));obtain ⟨hcbwq,hfbwq,hzbwq⟩:=Qb.rules (show Qb w wq from Qj);clear hcwq hfwq;generalize hg : (((f k).k == y.k) && ((f k).nm.toList == y.nm.toList)) = g at *;cases g
   ·go_wp2;exact ⟨⟨k + 1,by omega,by go_num,fun j hj => by rcases Nat.lt_or_ge j k with h | h;exact hN j h;rw [show j = k from by omega];exact HA.out,hB.trans hq⟩,by simp [intOf];omega⟩
   ·go_wp2;go_ret;exact ⟨Jd (by rw [← H.out];exact (Qd3 hlt HA.out).symm),Qj⟩
  ·go_wp2;go_ret;exact ⟨Jd (by rw [← H.out];exact (Qd2 (fun j hj => hN j (by omega))).symm),Qj⟩
def Mu (f : Nat → ByteArray) (k : Nat) : Prop:=∀ i j,j < i → i < k → f j ≠ f i
def W9 (f : Nat → ByteArray) (k : Nat) : Bool:=(List.range k).all fun i => Zx (f i)
theorem Qe5 {c : Qf} {j k : Nat} (hk : k < c.nk) (hj : j < k) (h : c.kg j = c.kg k) : c.kingsOk = false:=by
 rw [Bool.eq_false_iff];intro hh;simp only [Qf.kingsOk,Bool.and_eq_true,List.all_eq_true,List.mem_range] at hh;have h1:=hh.2 k hk;simp only [Qf.kingOk,Bool.and_eq_true,List.all_eq_true,List.mem_range,decide_eq_true_eq] at h1;exact h1.2 j hj h
theorem Qe4 {c : Qf} (h : Mu c.kg c.nk) : c.kingsOk = (decide (1 ≤ (c.nk : Int)) && decide ((c.nk : Int) ≤ 40) && W9 c.kg c.nk):=by
 have e : (List.range c.nk).all c.kingOk = W9 c.kg c.nk:=by
  rw [W9,Bool.eq_iff_iff];simp only [List.all_eq_true,List.mem_range,Qf.kingOk,Bool.and_eq_true,decide_eq_true_eq];exact ⟨fun hh i hi => (hh i hi).1,fun hh i hi => ⟨hh i hi,fun j hj => h i j hj hi⟩⟩
 rw [Qf.kingsOk,e]
 congr 2 <;> simp <;> omega
theorem Qgn {f : Nat → ByteArray} {s : ByteArray} {k : Nat} (h : U8 f s k) (hk : f k ≠ s) : U8 f s (k + 1):=fun j hj => by
 rcases Nat.lt_or_ge j k with h' | h'
 ·exact h j h'
 ·rw [show j = k from by omega];exact hk
theorem Qgk {f : Nat → ByteArray} {k : Nat} (h : Mu f k) (hk : U8 f (f k) k) : Mu f (k + 1):=fun i j hj hi => by
 rcases Nat.lt_or_ge i k with h' | h'
 ·exact h i j hj h'
 ·obtain rfl : i = k := by omega
  exact hk j hj
theorem Qf1 (f : Nat → ByteArray) (k : Nat) : W9 f (k + 1) = (W9 f k && Zx (f k)):=by
 rw [W9,W9,List.range_succ,List.all_append];simp
set_option maxHeartbeats 1000000 in
theorem Qat (A : Option Addr) (ca : Nat) (c : Qf) (w : World) (hA : Qp w A c.nk 1 (fun i => [.string (c.kg i)])) (hn : c.nk ≤ 9223372036854775807) (hcap : c.nk ≤ ca) :
  Calls Tryz.prog 172 #[.slice A c.nk ca] w fun e w' => e = .returned (.bool c.kingsOk) ∧ Qb w w':=by
 go_enter Tryz.func172,Tryz.ntmps172
 go_upto_region 1 with (fail)
 go_step3
 go_upto_region 1 with (fail)
 refine Uk w Qj ?_;intro hne hrx hry;try simp only []
 try simp only [List.append_eq,List.cons_append,List.nil_append]
 skip
 repeat (first
  | go_big_quiet_skip
  | ((with_reducible apply Y2)
     ·exact rfl
     ·exact rfl
     ·exact rfl
     intro K hK
     unfold Qy;go_big_quiet_op;(with_reducible refine hK _ ?_);clear hK K)
  | ((with_reducible apply Y4)
     ·exact rfl
     ·exact rfl
     ·exact rfl
     intro K hK
     unfold Qy;go_big_quiet_op;(with_reducible refine hK _ ?_);clear hK K)
  | (go_big_quiet_want;go_big_quiet_op;go_big_quiet_on)
  | ((with_reducible apply Y3)
     ·first | exact Zu rfl rfl rfl | exact Zt rfl rfl rfl | exact Zs rfl rfl rfl | exact Zr rfl rfl rfl
     ·exact rfl
     ·exact rfl
     ·exact rfl
     intro K hK
     unfold Qy;go_big_quiet_op;(with_reducible refine hK _ ?_);clear hK K)
  | ((with_reducible apply Y5)
     ·first | exact Zu rfl rfl rfl | exact Zt rfl rfl rfl | exact Zs rfl rfl rfl | exact Zr rfl rfl rfl
     ·exact rfl
     ·exact rfl
     ·exact rfl
     intro K hK
     unfold Qy;go_big_quiet_op;(with_reducible refine hK _ ?_);clear hK K)
  | ((with_reducible apply Yn)
     ·first | exact Zu rfl rfl rfl | exact Zt rfl rfl rfl | exact Zs rfl rfl rfl | exact Zr rfl rfl rfl
     apply Exists.intro;refine And.intro (fun hgb => ?_) ?_
     ·intro u;try simp at hgb
      go_simp
      try simp only [if_pos hsl]
      try simp only [if_pos (hin (by omega))]
      try (simp only [hd0 (by omega)];go_simp)
      try (rw [hlook _ (Qb.trans Qj u.e) (hlk0 hgb)];go_simp)
      first
       | (with_reducible exact rfl)
     intro K hK;unfold Qy;go_big_quiet_op;(with_reducible refine hK _ ?_);clear hK K))
 clear hne hry hrx;refine wpQuiet_nil ?_;intro wq hq;obtain ⟨hcwq,hfwq,hzwq⟩:=Qb.rules hq;try simp only [World.size_alloc] at hzwq
 obtain ⟨hcbwq,hfbwq,hzbwq⟩:=Qb.rules (show Qb w wq from Qj);clear hcwq hfwq;go_wp2
 go_step3
 go_wp2
 go_loopw [3,18] (fun o i wr => ∃ k : Nat,k ≤ c.nk ∧ i = .int .i64 k ∧ o = .bool (decide (1 ≤ (c.nk : Int)) && decide ((c.nk : Int) ≤ 40) && W9 c.kg k) ∧ Mu c.kg k ∧ Qb w wr) (fun _ i _ => c.nk - (intOf i).toNat)
 case atStart => exact ⟨0,Nat.zero_le _,rfl,by simp [W9],(fun i j _ h => absurd h (by omega)),hq⟩
 case round =>
  obtain ⟨k,hk,rfl,rfl,hN,hB⟩:=hrel;clear hq hzwq hcbwq hfbwq hzbwq;obtain ⟨wo,rfl⟩:=Qg wr;obtain ⟨hcwo,hfwo,hzwo⟩:=Qb.rules hB;try simp only [World.size_alloc] at hzwo
  obtain ⟨hcbwo,hfbwo,hzbwo⟩:=Qb.rules (show Qb w wo from Qj);clear hcwo hfwo;by_cases hlt : k < c.nk
  ·obtain ⟨b, off, rfl, hb, hc⟩ := hA (by omega);have hc' : ∀ j, j < c.nk → w.cell? ⟨b, off + j, none⟩ = some (.string (c.kg j)) := fun j hj => by simpa using hc j 0 _ hj rfl
   have c0:=hc' k hlt;clear hc hA;go_wp2
   go_loop [3,27] (fun o i => ∃ j : Nat,j ≤ k ∧ i = .int .i64 j ∧ o = .bool (decide (1 ≤ (c.nk : Int)) && decide ((c.nk : Int) ≤ 40) && W9 c.kg k) ∧ U8 c.kg (c.kg k) j) (fun _ i => k - (intOf i).toNat)
   case atStart => exact ⟨0,Nat.zero_le _,rfl,rfl,fun j h => absurd h (by omega)⟩
   case round =>
    obtain ⟨j,hj,rfl,rfl,hT⟩:=hrel;by_cases hlj : j < k
    ·have c1:=hc' j (by omega);go_wp2
     ·go_ret;exact ⟨Jd (Qe5 hlt hlj (I1 ‹_›)).symm,Qj⟩
     ·have hne:=I0 (a:=c.kg j) (b:=c.kg k) ‹_›;exact ⟨⟨j + 1,by omega,by go_num,rfl,Qgn hT hne⟩,by simp [intOf];omega⟩
    ·have hTk : U8 c.kg (c.kg k) k:=fun i hi => hT i (by omega)
     go_upto_region 11 with (fail)
     refine Uk w Qj ?_;intro hne hrx hry;try simp only []
     try simp only [List.append_eq,List.cons_append,List.nil_append]
     skip
     repeat (first
      | go_big_quiet_skip
      | ((with_reducible apply Y2)
         ·exact rfl
         ·exact rfl
         ·exact rfl
         intro K hK
         unfold Qy;go_big_quiet_op;(with_reducible refine hK _ ?_);clear hK K)
      | ((with_reducible apply Y4)
         ·exact rfl
         ·exact rfl
         ·exact rfl
         intro K hK
         unfold Qy;go_big_quiet_op;(with_reducible refine hK _ ?_);clear hK K)
      | (go_big_quiet_want;go_big_quiet_op;go_big_quiet_on)
      | (go_big_quiet_want;go_big_quiet_op;apply Exists.intro;refine ⟨fun u => ?_,?_⟩
         ·first
           | (go_at_call 120;refine (Vh _ _).mono ?_;rintro e w' ⟨rfl,rfl⟩;exact ⟨rfl,u,rfl⟩)
         go_big_quiet_on)
      | ((with_reducible apply Y3)
         ·first | exact Zu rfl rfl rfl | exact Zt rfl rfl rfl | exact Zs rfl rfl rfl | exact Zr rfl rfl rfl
         ·exact rfl
         ·exact rfl
         ·exact rfl
         intro K hK
         unfold Qy;go_big_quiet_op;(with_reducible refine hK _ ?_);clear hK K)
      | ((with_reducible apply Y5)
         ·first | exact Zu rfl rfl rfl | exact Zt rfl rfl rfl | exact Zs rfl rfl rfl | exact Zr rfl rfl rfl
         ·exact rfl
         ·exact rfl
         ·exact rfl
         intro K hK
         unfold Qy;go_big_quiet_op;(with_reducible refine hK _ ?_);clear hK K)
      | ((with_reducible apply Yn)
         ·first | exact Zu rfl rfl rfl | exact Zt rfl rfl rfl | exact Zs rfl rfl rfl | exact Zr rfl rfl rfl
         apply Exists.intro;refine And.intro (fun hgb => ?_) ?_
         ·intro u;try simp at hgb
          go_simp
          try simp only [if_pos hsl]
          try simp only [if_pos (hin (by omega))]
          try (simp only [hd0 (by omega)];go_simp)
          try (rw [hlook _ (Qb.trans Qj u.e) (hlk0 hgb)];go_simp)
          first
           | (with_reducible exact rfl)
           | (go_at_call 120;refine (Vh _ _).mono ?_;rintro e w' ⟨rfl,rfl⟩;exact ⟨rfl,u,rfl⟩)
         intro K hK;unfold Qy;go_big_quiet_op;(with_reducible refine hK _ ?_);clear hK K))
     clear hne hry hrx;refine wpQuiet_nil ?_;intro wn hwn;obtain ⟨hcwn,hfwn,hzwn⟩:=Qb.rules hwn;try simp only [World.size_alloc] at hzwn
     obtain ⟨hcbwn,hfbwn,hzbwn⟩:=Qb.rules (show Qb w wn from Qj);clear hcwn hfwn;go_wp2;exact ⟨⟨k + 1,by omega,by go_num,by simp only [Qf1,Bool.and_assoc],Qgk hN hTk,Qj⟩,by simp [intOf];omega⟩
  ·go_wp2;rw [Exit.noGoto_ret];go_ret;exact ⟨Jd (by rw [Qe4 (fun i j hj hi => hN i j hj (by omega)),show c.nk = k from by omega]),Qj⟩
def Gj (c : Qf) (k : Nat) : Prop:=∀ i,i < k → c.kingOk i = true
def Wm (c : Qf) (k : Nat) : Prop:=∀ i,i < k → c.yearOk i = true
theorem Qdv {f : Nat → ByteArray} {s : ByteArray} {n : Nat} : (decide (0 ≤ Ws f s n)) = !((List.range n).all fun j => decide (f j ≠ s)):=by
 by_cases h : U8 f s n
 ·rw [Dp h]
  have : ((List.range n).all fun j => decide (f j ≠ s)) = true:=by
   simp only [List.all_eq_true,List.mem_range,decide_eq_true_eq];exact h
  rw [this];rfl
 ·have : ((List.range n).all fun j => decide (f j ≠ s)) = false:=by
   rw [Bool.eq_false_iff];intro hh;simp only [List.all_eq_true,List.mem_range,decide_eq_true_eq] at hh;exact h hh
  rw [this]
  have h2 : ((List.range n).find? (fun j => decide (f j = s))).isSome = true:=by
   rw [List.find?_isSome];unfold U8 at h;simp only [Classical.not_forall] at h;obtain ⟨j,hj,hne⟩:=h;exact ⟨j,by simpa using hj,by simpa using hne⟩
  obtain ⟨k,hk⟩:=Option.isSome_iff_exists.1 h2;rw [Ws,hk]
  simp
theorem Qe3 (c : Qf) (k : Nat) : c.kingOk k = !(!Zx (c.kg k) || decide (0 ≤ Ws c.kg (c.kg k) k)):=by
 rw [Qdv,Qf.kingOk];cases Zx (c.kg k) <;> simp
theorem Bb (c : Qf) (y : Yr) (k : Nat) : c.hadTo y k = J9 c.yr y k:=rfl
theorem Ey {c : Qf} {k : Nat} (h : Wm c k) : 0 ≤ c.prevK k ∧ (0 < k → c.prevK k = (c.yr (k - 1)).k):=by
 induction k with
 | zero => exact ⟨Int.le_refl _,fun h => absurd h (by omega)⟩
 | succ k ih =>
  have h1:=ih (fun i hi => h i (by omega));have h2:=h k (by omega);simp only [Qf.yearOk,Bool.and_eq_true,decide_eq_true_eq] at h2;refine ⟨?_,fun _ => rfl⟩
  show 0 ≤ (c.yr k).k
  omega
theorem Tp (y : Yr) : y.shapeOk = !(decide (y.db < 0) || decide (12 < y.db) || decide (y.lg < 0) || decide (8191 < y.lg) || (y.db == 0 && decide (4096 ≤ y.lg))):=by
 rw [Yr.shapeOk,Bool.eq_iff_iff];simp;omega
theorem Qjl {c : Qf} {k : Nat} (h : Wm c k) : c.yearOk k =
  !((decide ((c.yr k).k < 0) || decide ((c.nk : Int) ≤ (c.yr k).k) || (decide (0 < k) && decide ((c.yr k).k < (c.yr (k - 1)).k)) || !Zx (c.yr k).nm || J9 c.yr (c.yr k) k) || !(c.yr k).shapeOk):=by
 obtain ⟨h1,h2⟩:=Ey h;rw [Qf.yearOk,Bb,Bool.eq_iff_iff];rcases Nat.eq_zero_or_pos k with rfl | hk
 ·rw [show c.prevK 0 = 0 from rfl,show decide ((0 : Nat) < 0) = false from rfl,Bool.false_and,Bool.or_false];cases Zx (c.yr 0).nm <;> cases J9 c.yr (c.yr 0) 0 <;> cases (c.yr 0).shapeOk <;> simp <;> omega
 ·rw [h2 hk];have:=h2 hk;cases Zx (c.yr k).nm <;> cases J9 c.yr (c.yr k) k <;> cases (c.yr k).shapeOk <;> simp <;> omega
theorem Qiz {c : Qf} (h : (decide ((c.nk : Int) < 1) || decide (40 < (c.nk : Int)) || decide ((c.ny : Int) < 1) || decide (400 < (c.ny : Int))) = true) : c.valid = false:=by
 rw [Bool.eq_false_iff];intro hh;simp only [Qf.valid,Qf.kingsOk,Bool.and_eq_true,decide_eq_true_eq] at hh;simp only [Bool.or_eq_true,decide_eq_true_eq] at h;omega
theorem Qiy {c : Qf} {k : Nat} (hk : k < c.nk) (h : c.kingOk k = false) : c.valid = false:=by
 rw [Bool.eq_false_iff];intro hh;simp only [Qf.valid,Qf.kingsOk,Bool.and_eq_true,List.all_eq_true,List.mem_range] at hh;rw [hh.1.1.1.2 k hk] at h;cases h
theorem Sk {c : Qf} {k : Nat} (hk : k < c.ny) (h : c.yearOk k = false) : c.valid = false:=by
 rw [Bool.eq_false_iff];intro hh;simp only [Qf.valid,Bool.and_eq_true,List.all_eq_true,List.mem_range] at hh;rw [hh.2 k hk] at h;cases h
theorem Qi1 {c : Qf} (h : (decide ((c.nk : Int) < 1) || decide (40 < (c.nk : Int)) || decide ((c.ny : Int) < 1) || decide (400 < (c.ny : Int))) = false) (hk : Gj c c.nk) (hy : Wm c c.ny) : c.valid = true:=by
 simp only [Bool.or_eq_false_iff,decide_eq_false_iff_not] at h;simp only [Qf.valid,Qf.kingsOk,Bool.and_eq_true,List.all_eq_true,List.mem_range,decide_eq_true_eq];exact ⟨⟨⟨⟨⟨by omega,by omega⟩,hk⟩,by omega⟩,by omega⟩,hy⟩
theorem Hz {p : Nat → Bool} {k : Nat} (h : ∀ i,i < k → p i = true) (hk : p k = true) : ∀ i,i < k + 1 → p i = true:=fun i hi => by
 rcases Nat.lt_or_ge i k with h' | h'
 ·exact h i h'
 ·rw [show i = k from by omega];exact hk
theorem Qix (A A' : Option Addr) (ca cb : Nat) (c : Qf) (w : World) (hC : Q8 w A ca A' cb c) :
  Calls Tryz.prog 129 #[.agg #[.slice A c.nk ca,.slice A' c.ny cb]] w fun e w' => e = .returned (.bool c.valid) ∧ Qb w w':=by
 have hnk:=hC.nk_le;have hny:=hC.ny_le;have hcapk:=hC.nk_cap;have hcapy:=hC.ny_cap
 go_enter Tryz.func129,Tryz.ntmps129
 go_upto_region 1 with (fail)
 refine Uk w Qj ?_;intro hne hrx hry;try simp only []
 try simp only [List.append_eq,List.cons_append,List.nil_append]
 have hrx0:=fun u o => hrx u (w.heap.size) o (by first | omega | (simp;done) | (simp;omega))
 skip
 repeat (first
  | go_big_quiet_skip
  | ((with_reducible apply Y2)
     ·exact rfl
     ·exact rfl
     ·exact rfl
     intro K hK
     unfold Qy;go_big_quiet_op;(with_reducible refine hK _ ?_);clear hK K)
  | ((with_reducible apply Y4)
     ·exact rfl
     ·exact rfl
     ·exact rfl
     intro K hK
     unfold Qy;go_big_quiet_op;(with_reducible refine hK _ ?_);clear hK K)
  | (go_big_quiet_want;go_big_quiet_op;go_big_quiet_on)
  | ((with_reducible apply Y3)
     ·first | exact Zu rfl rfl rfl | exact Zt rfl rfl rfl | exact Zs rfl rfl rfl | exact Zr rfl rfl rfl
     ·exact rfl
     ·exact rfl
     ·exact rfl
     intro K hK
     unfold Qy;go_big_quiet_op;(with_reducible refine hK _ ?_);clear hK K)
  | ((with_reducible apply Y5)
     ·first | exact Zu rfl rfl rfl | exact Zt rfl rfl rfl | exact Zs rfl rfl rfl | exact Zr rfl rfl rfl
     ·exact rfl
     ·exact rfl
     ·exact rfl
     intro K hK
     unfold Qy;go_big_quiet_op;(with_reducible refine hK _ ?_);clear hK K)
  | ((with_reducible apply Yn)
     ·first | exact Zu rfl rfl rfl | exact Zt rfl rfl rfl | exact Zs rfl rfl rfl | exact Zr rfl rfl rfl
     apply Exists.intro;refine And.intro (fun hgb => ?_) ?_
     ·intro u;try simp at hgb
      go_simp
      try simp only [if_pos hsl]
      try simp only [if_pos (hin (by omega))]
      try (simp only [hd0 (by omega)];go_simp)
      try (rw [hlook _ (Qb.trans Qj u.e) (hlk0 hgb)];go_simp)
      first
       | (with_reducible exact rfl)
     intro K hK;unfold Qy;go_big_quiet_op;(with_reducible refine hK _ ?_);clear hK K))
 clear hne hry hrx hrx0;refine wpQuiet_nil ?_;intro wq hq;obtain ⟨hcwq,hfwq,hzwq⟩:=Qb.rules hq;try simp only [World.size_alloc] at hzwq
 have hk0wq:=fun o => hcwq (w.heap.size) o (by first | omega | (simp;done) | (simp;omega))
 have hj0wq:=fun o => hfwq (w.heap.size) o (by first | omega | (simp;done) | (simp;omega))
 have hl0wq : w.heap.size < wq.heap.size:=(by first | omega | (simp;done) | (simp;omega));obtain ⟨hcbwq,hfbwq,hzbwq⟩:=Qb.rules (show Qb w wq from Qj);clear hcwq hfwq;generalize hf : (decide ((c.nk : Int) < 1) || decide (40 < (c.nk : Int)) || decide ((c.ny : Int) < 1) || decide (400 < (c.ny : Int))) = f at *;have HF : Hid (_ = f):=hf;clear hf;cases f
 ·go_wp2
  go_loopw [3] (fun i wr => ∃ k : Nat,k ≤ c.nk ∧ i = .int .i64 k ∧ Gj c k ∧ Qb (w.alloc (.cells #[.slice A c.nk ca,.slice A' c.ny cb] 25)) wr) (fun i _ => c.nk - (intOf i).toNat)
  case atStart => exact ⟨0,Nat.zero_le _,rfl,(fun i h => absurd h (by omega)),hq⟩
  case round =>
   obtain ⟨k,hk,rfl,hK,hB⟩:=hrel;clear hq hzwq hk0wq hj0wq hl0wq hcbwq hfbwq hzbwq;obtain ⟨wo,rfl⟩:=Qg wr;obtain ⟨hcwo,hfwo,hzwo⟩:=Qb.rules hB;try simp only [World.size_alloc] at hzwo
   have hk0wo:=fun o => hcwo (w.heap.size) o (by first | omega | (simp;done) | (simp;omega))
   have hj0wo:=fun o => hfwo (w.heap.size) o (by first | omega | (simp;done) | (simp;omega))
   have hl0wo : w.heap.size < wo.heap.size:=(by first | omega | (simp;done) | (simp;omega));obtain ⟨hcbwo,hfbwo,hzbwo⟩:=Qb.rules (show Qb w wo from Qj);clear hcwo hfwo;by_cases hlt : k < c.nk
   ·obtain ⟨b, off, rfl, hb, c0⟩ := hC.king hlt;have HK : Hid (c.kingOk k = _) := Qe3 c k;have hsl : k ≤ ca := by omega
    go_upto_region 6 with (fail)
    refine Zd w Qo (by kernel_rfl) Qj ?_;intro hne hrx hry;try simp only []
    try simp only [List.append_eq,List.cons_append,List.nil_append]
    have hrx0:=fun u o => hrx u (w.heap.size) o (by first | omega | (simp;done) | (simp;omega))
    skip
    repeat (first
     | go_big_quiet_skip
     | ((with_reducible apply Y2)
        ·exact rfl
        ·exact rfl
        ·exact rfl
        intro K hK
        unfold Qy;go_big_quiet_op;(with_reducible refine hK _ ?_);clear hK K)
     | ((with_reducible apply Y4)
        ·exact rfl
        ·exact rfl
        ·exact rfl
        intro K hK
        unfold Qy;go_big_quiet_op;(with_reducible refine hK _ ?_);clear hK K)
     | (go_big_quiet_want;go_big_quiet_op;go_big_quiet_on)
     | (go_big_quiet_want;go_big_quiet_op;apply Exists.intro;refine ⟨fun u => ?_,?_⟩
        ·first
          | (go_at_call 167;refine (Vg _ _).mono ?_;rintro e w' ⟨rfl,rfl⟩;exact ⟨rfl,u,rfl⟩)
          | (go_at_call 168;refine (Pa _ k _ c.kg _ _ ((hC.kings.take hk).ext (Qb.trans Qj u.e)) (by omega)).mono ?_;rintro e w' ⟨rfl,rfl⟩;exact ⟨rfl,u,rfl⟩)
        go_big_quiet_on)
     | ((with_reducible apply Y3)
        ·first | exact Zu rfl rfl rfl | exact Zt rfl rfl rfl | exact Zs rfl rfl rfl | exact Zr rfl rfl rfl
        ·exact rfl
        ·exact rfl
        ·exact rfl
        intro K hK
        unfold Qy;go_big_quiet_op;(with_reducible refine hK _ ?_);clear hK K)
     | ((with_reducible apply Y5)
        ·first | exact Zu rfl rfl rfl | exact Zt rfl rfl rfl | exact Zs rfl rfl rfl | exact Zr rfl rfl rfl
        ·exact rfl
        ·exact rfl
        ·exact rfl
        intro K hK
        unfold Qy;go_big_quiet_op;(with_reducible refine hK _ ?_);clear hK K)
     | ((with_reducible apply Yn)
        ·first | exact Zu rfl rfl rfl | exact Zt rfl rfl rfl | exact Zs rfl rfl rfl | exact Zr rfl rfl rfl
        apply Exists.intro;refine And.intro (fun hgb => ?_) ?_
        ·intro u;try simp at hgb
         go_simp
         try simp only [if_pos hsl]
         try simp only [if_pos (hin (by omega))]
         try (simp only [hd0 (by omega)];go_simp)
         try (rw [hlook _ (Qb.trans Qj u.e) (hlk0 hgb)];go_simp)
         first
          | (with_reducible exact rfl)
          | (go_at_call 167;refine (Vg _ _).mono ?_;rintro e w' ⟨rfl,rfl⟩;exact ⟨rfl,u,rfl⟩)
          | (go_at_call 168;refine (Pa _ k _ c.kg _ _ ((hC.kings.take hk).ext (Qb.trans Qj u.e)) (by omega)).mono ?_;rintro e w' ⟨rfl,rfl⟩;exact ⟨rfl,u,rfl⟩)
        intro K hK;unfold Qy;go_big_quiet_op;(with_reducible refine hK _ ?_);clear hK K))
    clear hne hry hrx hrx0;refine wpQuiet_nil ?_;intro wn hwn;obtain ⟨hcwn,hfwn,hzwn⟩:=Qb.rules hwn;try simp only [World.size_alloc] at hzwn
    have hk0wn:=fun o => hcwn (w.heap.size) o (by first | omega | (simp;done) | (simp;omega))
    have hj0wn:=fun o => hfwn (w.heap.size) o (by first | omega | (simp;done) | (simp;omega))
    have hl0wn : w.heap.size < wn.heap.size:=(by first | omega | (simp;done) | (simp;omega));obtain ⟨hcbwn,hfbwn,hzbwn⟩:=Qb.rules (show Qb w wn from Qj);clear hcwn hfwn;generalize hg : (!Zx (c.kg k) || decide (0 ≤ Ws c.kg (c.kg k) k)) = g at *;cases g
    ·go_wp2;exact ⟨⟨k + 1,by omega,by go_num,Hz hK HK.out,Qj⟩,by simp [intOf];omega⟩
    ·go_wp2;go_ret;exact ⟨Jd (Qiy hlt HK.out).symm,Qj⟩
   ·have hK' : Gj c c.nk:=fun i hi => hK i (by omega)
    go_wp2
    go_loopw [4] (fun i wr => ∃ k : Nat,k ≤ c.ny ∧ i = .int .i64 k ∧ Wm c k ∧ Qb (w.alloc (.cells #[.slice A c.nk ca,.slice A' c.ny cb] 25)) wr) (fun i _ => c.ny - (intOf i).toNat)
    case atStart => exact ⟨0,Nat.zero_le _,rfl,(fun i h => absurd h (by omega)),hB⟩
    case round =>
     clear hK hlt hk hB hzwo hk0wo hj0wo hl0wo hcbwo hfbwo hzbwo;obtain ⟨k,hk,rfl,hY,hB⟩:=hrel;obtain ⟨wo,rfl⟩:=Qg wr;obtain ⟨hcwo,hfwo,hzwo⟩:=Qb.rules hB;try simp only [World.size_alloc] at hzwo
     have hk0wo:=fun o => hcwo (w.heap.size) o (by first | omega | (simp;done) | (simp;omega))
     have hj0wo:=fun o => hfwo (w.heap.size) o (by first | omega | (simp;done) | (simp;omega))
     have hl0wo : w.heap.size < wo.heap.size:=(by first | omega | (simp;done) | (simp;omega));obtain ⟨hcbwo,hfbwo,hzbwo⟩:=Qb.rules (show Qb w wo from Qj);clear hcwo hfwo;by_cases hlt : k < c.ny
     ·obtain ⟨b, off, rfl, hb, c0, c1, c2, c3⟩ := hC.year hlt;have HY : Hid (c.yearOk k = _) := Qjl hY;have hsl : k ≤ cb := by omega
      have hin : 0 < k → (0 ≤ IntKind.i64.wrap ((k : Int) - 1) ∧ IntKind.i64.wrap ((k : Int) - 1) < (c.ny : Int)):=fun h => by rw [IntKind.wrap_i64];omega
      have hbo : b < wo.heap.size:=by omega
      have hd0 : 0 < k → w.cell? ⟨b,off + (IntKind.i64.wrap ((k : Int) - 1)).toNat * 4,none⟩ = some (.int .i64 (c.yr (k - 1)).k):=fun h => by
       obtain ⟨b',off',hbb,hb',d0,-⟩:=hC.year (i:=k - 1) (by omega);obtain ⟨rfl,rfl⟩ : b' = b ∧ off' = off:=by simp at hbb;exact ⟨hbb.1.symm,hbb.2.symm⟩
       rw [show (IntKind.i64.wrap ((k : Int) - 1)).toNat = k - 1 from by rw [IntKind.wrap_i64];omega];exact d0
      go_upto_region 12 with (fail)
      refine Zd wo Qo (by kernel_rfl) Qj ?_;intro hne hrx hry;try simp only []
      try simp only [List.append_eq,List.cons_append,List.nil_append]
      have hrx0:=fun u o => hrx u (wo.heap.size) o (by first | omega | (simp;done) | (simp;omega))
      skip
      repeat (first
       | go_big_quiet_skip
       | ((with_reducible apply Y2)
          ·exact rfl
          ·exact rfl
          ·exact rfl
          intro K hK
          unfold Qy;go_big_quiet_op;(with_reducible refine hK _ ?_);clear hK K)
       | ((with_reducible apply Y4)
          ·exact rfl
          ·exact rfl
          ·exact rfl
          intro K hK
          unfold Qy;go_big_quiet_op;(with_reducible refine hK _ ?_);clear hK K)
       | (go_big_quiet_want;go_big_quiet_op;go_big_quiet_on)
       | (go_big_quiet_want;go_big_quiet_op;apply Exists.intro;refine ⟨fun u => ?_,?_⟩
          ·first
            | (go_at_call 167;refine (Vg _ _).mono ?_;rintro e w' ⟨rfl,rfl⟩;exact ⟨rfl,u,rfl⟩)
            | (go_at_call 169;refine (Bc _ _ _ c.yr _ _ ((hC.years.take hk).ext (Qb.trans Qj u.e)) (by omega)).mono ?_;rintro e w' ⟨rfl,hb⟩;exact ⟨rfl,u.back hb⟩)
          go_big_quiet_on)
       | ((with_reducible apply Y3)
          ·first | exact Zu rfl rfl rfl | exact Zt rfl rfl rfl | exact Zs rfl rfl rfl | exact Zr rfl rfl rfl
          ·exact rfl
          ·exact rfl
          ·exact rfl
          intro K hK
          unfold Qy;go_big_quiet_op;(with_reducible refine hK _ ?_);clear hK K)
       | ((with_reducible apply Y5)
          ·first | exact Zu rfl rfl rfl | exact Zt rfl rfl rfl | exact Zs rfl rfl rfl | exact Zr rfl rfl rfl
          ·exact rfl
          ·exact rfl
          ·exact rfl
          intro K hK
          unfold Qy;go_big_quiet_op;(with_reducible refine hK _ ?_);clear hK K)
       | ((with_reducible apply Yn)
          ·first | exact Zu rfl rfl rfl | exact Zt rfl rfl rfl | exact Zs rfl rfl rfl | exact Zr rfl rfl rfl
          apply Exists.intro;refine And.intro (fun hgb => ?_) ?_
          ·intro u;try simp at hgb
           go_simp
           try simp only [if_pos hsl]
           try simp only [if_pos (hin (by omega))]
           try (simp only [hd0 (by omega)];go_simp)
           try (rw [hlook _ (Qb.trans Qj u.e) (hlk0 hgb)];go_simp)
           first
            | (with_reducible exact rfl)
            | (go_at_call 167;refine (Vg _ _).mono ?_;rintro e w' ⟨rfl,rfl⟩;exact ⟨rfl,u,rfl⟩)
            | (go_at_call 169;refine (Bc _ _ _ c.yr _ _ ((hC.years.take hk).ext (Qb.trans Qj u.e)) (by omega)).mono ?_;rintro e w' ⟨rfl,hb⟩;exact ⟨rfl,u.back hb⟩)
          intro K hK;unfold Qy;go_big_quiet_op;(with_reducible refine hK _ ?_);clear hK K))
      clear hne hry hrx hrx0;refine wpQuiet_nil ?_;intro wn hwn;obtain ⟨hcwn,hfwn,hzwn⟩:=Qb.rules hwn;try simp only [World.size_alloc] at hzwn
      have hk0wn:=fun o => hcwn (wo.heap.size) o (by first | omega | (simp;done) | (simp;omega))
      have hj0wn:=fun o => hfwn (wo.heap.size) o (by first | omega | (simp;done) | (simp;omega))
      have hl0wn : wo.heap.size < wn.heap.size:=(by first | omega | (simp;done) | (simp;omega));obtain ⟨hcbwn,hfbwn,hzbwn⟩:=Qb.rules (show Qb wo wn from Qj);clear hcwn hfwn;generalize hg : (decide ((c.yr k).k < 0) || decide ((c.nk : Int) ≤ (c.yr k).k) || (decide (0 < k) && decide ((c.yr k).k < (c.yr (k - 1)).k)) || !Zx (c.yr k).nm || J9 c.yr (c.yr k) k) = g at *;cases g
      ·go_upto_region 14 with (fail)
       refine Uk wo Qj ?_;intro hne hrx hry;try simp only []
       try simp only [List.append_eq,List.cons_append,List.nil_append]
       have hrx0:=fun u o => hrx u (wo.heap.size) o (by first | omega | (simp;done) | (simp;omega))
       skip
       repeat (first
        | go_big_quiet_skip
        | ((with_reducible apply Y2)
           ·exact rfl
           ·exact rfl
           ·exact rfl
           intro K hK
           unfold Qy;go_big_quiet_op;(with_reducible refine hK _ ?_);clear hK K)
        | ((with_reducible apply Y4)
           ·exact rfl
           ·exact rfl
           ·exact rfl
           intro K hK
           unfold Qy;go_big_quiet_op;(with_reducible refine hK _ ?_);clear hK K)
        | (go_big_quiet_want;go_big_quiet_op;go_big_quiet_on)
        | ((with_reducible apply Y3)
           ·first | exact Zu rfl rfl rfl | exact Zt rfl rfl rfl | exact Zs rfl rfl rfl | exact Zr rfl rfl rfl
           ·exact rfl
           ·exact rfl
           ·exact rfl
           intro K hK
           unfold Qy;go_big_quiet_op;(with_reducible refine hK _ ?_);clear hK K)
        | ((with_reducible apply Y5)
           ·first | exact Zu rfl rfl rfl | exact Zt rfl rfl rfl | exact Zs rfl rfl rfl | exact Zr rfl rfl rfl
           ·exact rfl
           ·exact rfl
           ·exact rfl
           intro K hK
           unfold Qy;go_big_quiet_op;(with_reducible refine hK _ ?_);clear hK K)
        | ((with_reducible apply Yn)
           ·first | exact Zu rfl rfl rfl | exact Zt rfl rfl rfl | exact Zs rfl rfl rfl | exact Zr rfl rfl rfl
           apply Exists.intro;refine And.intro (fun hgb => ?_) ?_
           ·intro u;try simp at hgb
            go_simp
            try simp only [if_pos hsl]
            try simp only [if_pos (hin (by omega))]
            try (simp only [hd0 (by omega)];go_simp)
            try (rw [hlook _ (Qb.trans Qj u.e) (hlk0 hgb)];go_simp)
            first
             | (with_reducible exact rfl)
           intro K hK;unfold Qy;go_big_quiet_op;(with_reducible refine hK _ ?_);clear hK K))
       clear hne hry hrx hrx0;refine wpQuiet_nil ?_;intro wm hwm;obtain ⟨hcwm,hfwm,hzwm⟩:=Qb.rules hwm;try simp only [World.size_alloc] at hzwm
       have hk0wm:=fun o => hcwm (wo.heap.size) o (by first | omega | (simp;done) | (simp;omega))
       have hj0wm:=fun o => hfwm (wo.heap.size) o (by first | omega | (simp;done) | (simp;omega))
       have hl0wm : wo.heap.size < wm.heap.size:=(by first | omega | (simp;done) | (simp;omega));obtain ⟨hcbwm,hfbwm,hzbwm⟩:=Qb.rules (show Qb wo wm from Qj);clear hcwm hfwm;generalize hs : (decide ((c.yr k).db < 0) || decide (12 < (c.yr k).db) || decide ((c.yr k).lg < 0) || decide (8191 < (c.yr k).lg) || ((c.yr k).db == 0 && decide (4096 ≤ (c.yr k).lg))) = s at *;have HS : Hid ((c.yr k).shapeOk = !s):=by rw [← hs];exact Tp _
       clear hs;cases s
       ·go_wp2;exact ⟨⟨k + 1,by omega,by go_num,Hz hY (by rw [HY.out,HS.out];rfl),Qj⟩,by simp [intOf];omega⟩
       ·go_wp2;go_ret;exact ⟨Jd (Sk hlt (by rw [HY.out,HS.out];rfl)).symm,Qj⟩
      ·go_wp2;go_ret;exact ⟨Jd (Sk hlt (by rw [HY.out,Bool.true_or];rfl)).symm,Qj⟩
     ·have hY' : Wm c c.ny:=fun i hi => hY i (by omega)
      go_wp2;go_ret;exact ⟨Jd (Qi1 HF.out hK' hY').symm,Qj⟩
 ·go_wp2;go_ret;exact ⟨Jd (Qiz HF.out).symm,Qj⟩
end
section
open Go Go.RowKit
open Go.Maps
theorem Ak : (263 : TypeId) < Tryz.prog.types.size:=of_decide_eq_true (by kernel_rfl)
theorem Qf9 : (match Tryz.prog.underlying 263 with | some (.array _ _) | some (.struct _) => true | _ => false) = true:=by kernel_rfl
theorem Qhq : laidOutB Tryz.prog = true:=by kernel_rfl
theorem Oi : Keyed Tryz.prog 263:=Keyed.of_law (Go.deep_law_laid Qhq (m:=2) (by omega) Ak (by kernel_rfl) Qf9)
theorem Aj : Tryz.prog.underlying 261 = some (.map 263 4):=by kernel_rfl
theorem Qga (w : World) : (zeroValue 4).run Tryz.prog w = .ok (.bool false) w:=by kernel_rfl
theorem G5 : Tryz.prog.underlying 4 = some .bool:=by kernel_rfl
def Nm : Option TypeDesc → Array Field
 | some (.struct fs) => fs
 | _ => #[]
theorem Qf8 : Tryz.prog.underlying 263 = some (.struct (Nm (Tryz.prog.underlying 263))):=by kernel_rfl
theorem Qf5 : (Nm (Tryz.prog.underlying 263)).toList.map (fun f => (f.type,f.offset)) = [(3,0),(9,1)]:=by kernel_rfl
theorem Qf7 : (Nm (Tryz.prog.underlying 263)).all (·.name != "_") = true:=by kernel_rfl
theorem Ai : Tryz.prog.cellsOf 263 = 2:=by kernel_rfl
theorem Qf6 : Tryz.prog.keyType 263 = true:=by kernel_rfl
theorem Qim : ∃ m,Tryz.prog.types.size = m + 1 + 1:=by
 have h : (2 : Nat) ≤ Tryz.prog.types.size:=Nat.le_trans (show (2 : Nat) ≤ 263 by decide) (Nat.le_of_lt Ak);exact ⟨Tryz.prog.types.size - 2,by omega⟩
/-- What the pair of a king's place and a name reads as. -/
def Gg (k : Int) (nm : ByteArray) : Lit:=.string (keyBytes [.int .i64 k,.string nm.data.toList])
theorem Ny {k : Int} {nm : ByteArray} (hk : (Lit.int .i64 k).wf = true) (hn : nm.size ≤ maxLen) : keyOf Tryz.prog 263 (.agg #[.int .i64 k,.string nm]) = some (Gg k nm):=by
 obtain ⟨m,hm⟩:=Qim;have hf:=Qf5;have hN:=Qf7;have hU:=Qf8;generalize Nm (Tryz.prog.underlying 263) = fs at hf hN hU;obtain ⟨l⟩:=fs;simp only [List.map_eq_cons_iff,List.map_eq_nil_iff] at hf;obtain ⟨f0,_,rfl,e0,f1,_,rfl,e1,rfl⟩:=hf;simp only [Prod.mk.injEq] at e0 e1;unfold keyOf;simp only [hU];rw [if_pos (by simp [Qf6,Value.formed,hU,Ai]),hm];unfold Program.keyLits;simp only [hU,Value.cells];rw [if_pos ⟨by rw [Ai];rfl,hN⟩,List.mapM_cons,List.mapM_cons,List.mapM_nil];rw [e0.1,e0.2,e1.1,e1.2];have c3 : Tryz.prog.cellsOf 3 = 1:=by kernel_rfl
 have c9 : Tryz.prog.cellsOf 9 = 1:=by kernel_rfl
 simp [c3,c9,Program.keyLits,hk,hn,Gg]
/-- What the map holds after the first n years. -/
def V7 {H : Type} (f : Nat → Yr) : Nat → DataW H
 | 0 => .map []
 | n + 1 => (V7 f n).put (Gg (f n).k (f n).nm) (.lit (.bool true))
theorem Ba {H : Type} (f : Nat → Yr) : ∀ n,IsMap (V7 (H:=H) f n)
 | 0 => isMap_empty
 | n + 1 => (Ba f n).put _ _
def Uq (y : Yr) : Prop:=(Lit.int .i64 y.k).wf = true ∧ y.nm.size ≤ maxLen
theorem Dz {H : Type} {f : Nat → Yr} {y : Yr} (hy : Uq y) : ∀ n,(∀ j,j < n → Uq (f j)) → (V7 (H:=H) f n).atKey (Gg y.k y.nm) (.lit (.bool false)) = .lit (.bool (J9 f y n))
 | 0,_ => rfl
 | n + 1,h => by
  have ih:=Dz (H:=H) hy n (fun j hj => h j (by omega));have kf:=Ny (h n (by omega)).1 (h n (by omega)).2;have ky:=Ny hy.1 hy.2;have e : J9 f y (n + 1) = (J9 f y n || (f n).alike y):=by rw [J9,J9,List.range_succ,List.any_append];simp
  rw [e];by_cases he : (f n).alike y = true
  ·have h1 : (f n).k = y.k ∧ (f n).nm = y.nm := by simpa [Yr.alike] using he
   rw [he,Bool.or_true,V7,h1.1,h1.2];exact atKey_put_same (Ba f n) (Oi.key ky) _ _
  ·rw [Bool.not_eq_true] at he;rw [he,Bool.or_false,← ih,V7];refine atKey_put_other (fun hl => ?_) _ _;have h2:=Oi.inj ky (by rw [hl];exact kf);simp at h2;rw [Yr.alike,h2.1,h2.2] at he;simp at he
/-- The lookup in the walk. -/
theorem Qd4 {H : Type} {w : World} {b m n : Nat} {f : Nat → Yr} {y : Yr} (hm : w.ownsMap Tryz.prog 263 (plainElem (H:=H) Tryz.prog 4) b m (V7 f n)) (hy : Uq y) (hf : ∀ j,j < n → Uq (f j)) :
  (Instr.lookup 261 (.map (some b)) (.agg #[.int .i64 y.k,.string y.nm]) false).run Tryz.prog w = .ok (.bool (J9 f y n)) w:=by
 obtain ⟨v,ps,hrun,hv⟩:=hm.lookup Oi Aj (Qga w) (plainElem_bool G5 false) (Ny hy.1 hy.2);rw [Dz hy n hf] at hv;rw [hrun];simp only [plainElem,G5] at hv
 split at hv <;> simp_all
end
section
open Go Go.RowKit
open Go.Maps
attribute [local go_sem] Z5
theorem Ep {H : Type} {P : Program} {k : TypeId} {R : Value → Option (DataW H × List MemPlace)} {w w' : World} {b n : Nat} {D : DataW H} (h : w.ownsMap P k R b n D) (e : Qb w w') : w'.ownsMap P k R b n D:=by
 have hlt:=h.lt;obtain ⟨es,clock,hb,F,hs,hD⟩:=h;exact ⟨es,clock,(e.block hlt).trans hb,F,hs,hD⟩
theorem Cc {y : Yr} {n : Int} (h0 : 0 ≤ y.k) (h1 : y.k < n) (hn : n ≤ 9223372036854775807) (hs : Zx y.nm = true) : Uq y:=by
 refine ⟨?_,?_⟩
 ·simp [Lit.wf,IntKind.min,IntKind.max,IntKind.signed,IntKind.bits];omega
 ·simp only [Zx,Bool.and_eq_true,decide_eq_true_eq] at hs;have : maxLen = 9223372036854775807:=rfl;omega
theorem Ez {c : Qf} {k : Nat} (h : Wm c k) : 0 ≤ c.prevK k:=(Ey h).1
theorem Cd {c : Qf} {k : Nat} (h : Wm c k) (hn : c.nk ≤ 9223372036854775807) : ∀ j,j < k → Uq (c.yr j):=fun j hj => by
 have h1:=h j hj;have h2:=Ez (c:=c) (k:=j) (fun i hi => h i (by omega));simp only [Qf.yearOk,Bool.and_eq_true,decide_eq_true_eq] at h1;exact Cc (n:=c.nk) (by omega) (by omega) (by omega) (by simp_all)
theorem Qjm (c : Qf) (k : Nat) : c.yearOk k =
  !(decide ((c.yr k).k < c.prevK k) || decide ((c.nk : Int) ≤ (c.yr k).k) || !Zx (c.yr k).nm || J9 c.yr (c.yr k) k || decide ((c.yr k).db < 0) || decide (12 < (c.yr k).db) || decide ((c.yr k).lg < 0) || decide (8191 < (c.yr k).lg) || ((c.yr k).db == 0 && decide (4096 ≤ (c.yr k).lg))):=by
 rw [Qf.yearOk,Bb,Tp,Bool.eq_iff_iff];cases Zx (c.yr k).nm <;> cases J9 c.yr (c.yr k) k <;> simp <;> omega
theorem Qi0 {c : Qf} (h : (!c.kingsOk || decide ((c.ny : Int) < 1) || decide (400 < (c.ny : Int))) = true) : c.valid = false:=by
 rw [Bool.eq_false_iff];intro hh;simp only [Qf.valid,Bool.and_eq_true,decide_eq_true_eq] at hh;simp only [Bool.or_eq_true,decide_eq_true_eq,Bool.not_eq_true'] at h;rcases h with (h | h) | h
 ·rw [hh.1.1.1] at h;cases h
 ·omega
 ·omega
theorem Qi2 {c : Qf} (h : (!c.kingsOk || decide ((c.ny : Int) < 1) || decide (400 < (c.ny : Int))) = false) (hy : Wm c c.ny) : c.valid = true:=by
 simp only [Bool.or_eq_false_iff,decide_eq_false_iff_not,Bool.not_eq_false'] at h;simp only [Qf.valid,Bool.and_eq_true,List.all_eq_true,List.mem_range,decide_eq_true_eq];exact ⟨⟨⟨h.1.1,by omega⟩,by omega⟩,hy⟩
theorem Gb (A A' : Option Addr) (ca cb : Nat) (c : Qf) (w : World) (hC : Q8 w A ca A' cb c) :
  Calls Tryz.prog 141 #[.agg #[.slice A c.nk ca,.slice A' c.ny cb]] w fun e w' => e = .returned (.bool c.valid) ∧ Qb w w':=by
 have hnk:=hC.nk_le;have hny:=hC.ny_le;have hcapk:=hC.nk_cap;have hcapy:=hC.ny_cap;have hmm:=@run_makeMap Tryz.prog
 go_enter Tryz.func141,Tryz.ntmps141
 go_upto_region 1 with (fail)
 refine Uk w Qj ?_;intro hne hrx hry;try simp only []
 try simp only [List.append_eq,List.cons_append,List.nil_append]
 have hrx0:=fun u o => hrx u (w.heap.size) o (by first | omega | (simp;done) | (simp;omega))
 skip
 repeat (first
  | go_big_quiet_skip
  | ((with_reducible apply Y2)
     ·exact rfl
     ·exact rfl
     ·exact rfl
     intro K hK
     unfold Qy;go_big_quiet_op;(with_reducible refine hK _ ?_);clear hK K)
  | ((with_reducible apply Y4)
     ·exact rfl
     ·exact rfl
     ·exact rfl
     intro K hK
     unfold Qy;go_big_quiet_op;(with_reducible refine hK _ ?_);clear hK K)
  | (go_big_quiet_want;go_big_quiet_op;go_big_quiet_on)
  | (go_big_quiet_want;go_big_quiet_op;apply Exists.intro;refine ⟨fun u => ?_,?_⟩
     ·first
       | (go_at_call 172;refine (Qat _ _ c _ (hC.kings.ext (Qb.trans Qj u.e)) (by omega) (by omega)).mono ?_;rintro e w' ⟨rfl,hb⟩;exact ⟨rfl,u.back hb⟩)
     go_big_quiet_on)
  | ((with_reducible apply Y3)
     ·first | exact Zu rfl rfl rfl | exact Zt rfl rfl rfl | exact Zs rfl rfl rfl | exact Zr rfl rfl rfl
     ·exact rfl
     ·exact rfl
     ·exact rfl
     intro K hK
     unfold Qy;go_big_quiet_op;(with_reducible refine hK _ ?_);clear hK K)
  | ((with_reducible apply Y5)
     ·first | exact Zu rfl rfl rfl | exact Zt rfl rfl rfl | exact Zs rfl rfl rfl | exact Zr rfl rfl rfl
     ·exact rfl
     ·exact rfl
     ·exact rfl
     intro K hK
     unfold Qy;go_big_quiet_op;(with_reducible refine hK _ ?_);clear hK K)
  | ((with_reducible apply Yn)
     ·first | exact Zu rfl rfl rfl | exact Zt rfl rfl rfl | exact Zs rfl rfl rfl | exact Zr rfl rfl rfl
     apply Exists.intro;refine And.intro (fun hgb => ?_) ?_
     ·intro u;try simp at hgb
      go_simp
      try simp only [if_pos hsl]
      try simp only [if_pos (hin (by omega))]
      try (simp only [hd0 (by omega)];go_simp)
      try (rw [hlook _ (Qb.trans Qj u.e) (hlk0 hgb)];go_simp)
      first
       | (with_reducible exact rfl)
       | (go_at_call 172;refine (Qat _ _ c _ (hC.kings.ext (Qb.trans Qj u.e)) (by omega) (by omega)).mono ?_;rintro e w' ⟨rfl,hb⟩;exact ⟨rfl,u.back hb⟩)
     intro K hK;unfold Qy;go_big_quiet_op;(with_reducible refine hK _ ?_);clear hK K))
 clear hne hry hrx hrx0;refine wpQuiet_nil ?_;intro wq hq;obtain ⟨hcwq,hfwq,hzwq⟩:=Qb.rules hq;try simp only [World.size_alloc] at hzwq
 have hk0wq:=fun o => hcwq (w.heap.size) o (by first | omega | (simp;done) | (simp;omega))
 have hj0wq:=fun o => hfwq (w.heap.size) o (by first | omega | (simp;done) | (simp;omega))
 have hl0wq : w.heap.size < wq.heap.size:=(by first | omega | (simp;done) | (simp;omega));obtain ⟨hcbwq,hfbwq,hzbwq⟩:=Qb.rules (show Qb w wq from Qj);clear hcwq hfwq;generalize hf : (!c.kingsOk || decide ((c.ny : Int) < 1) || decide (400 < (c.ny : Int))) = f at *;have HF : Hid (_ = f):=hf;clear hf;cases f
 ·go_wp2;have hB0 : Qb (w.alloc (.cells #[.slice A c.nk ca,.slice A' c.ny cb] 25)) wq:=hq
  go_loopw [4,27] (fun kg i wr => ∃ k : Nat,k ≤ c.ny ∧ i = .int .i64 k ∧ kg = .int .i64 (c.prevK k) ∧ Wm c k ∧ Qb (w.alloc (.cells #[.slice A c.nk ca,.slice A' c.ny cb] 25)) wr ∧
   wr.ownsMap Tryz.prog 263 (plainElem (H:=Unit) Tryz.prog 4) wq.heap.size k (V7 c.yr k)) (fun _ i _ => c.ny - (intOf i).toNat)
  case atStart => exact ⟨0,Nat.zero_le _,rfl,rfl,(fun i h => absurd h (by omega)),Qb.alloc hq _,World.ownsMap_made _ _ _ _⟩
  case round =>
   obtain ⟨k,hk,rfl,rfl,hY,hB,hM⟩:=hrel;clear hzwq hk0wq hj0wq hl0wq hcbwq hfbwq hzbwq;obtain ⟨wo,rfl⟩:=Qg wr;obtain ⟨hcwo,hfwo,hzwo⟩:=Qb.rules hB;try simp only [World.size_alloc] at hzwo
   have hk0wo:=fun o => hcwo (w.heap.size) o (by first | omega | (simp;done) | (simp;omega))
   have hj0wo:=fun o => hfwo (w.heap.size) o (by first | omega | (simp;done) | (simp;omega))
   have hl0wo : w.heap.size < wo.heap.size:=(by first | omega | (simp;done) | (simp;omega));obtain ⟨hcbwo,hfbwo,hzbwo⟩:=Qb.rules (show Qb w wo from Qj);clear hcwo hfwo;by_cases hlt : k < c.ny
   ·obtain ⟨b, off, rfl, hb, c0, c1, c2, c3⟩ := hC.year hlt;have HY : Hid (c.yearOk k = _) := Qjm c k;have hbo : b < wo.heap.size := by omega
    have h0:=Ez hY
    have hlook : ∀ w',Qb wo w' → Uq (c.yr k) → (Instr.lookup 261 (.map (some wq.heap.size)) (.agg #[.int .i64 (c.yr k).k,.string (c.yr k).nm]) false).run Tryz.prog w' = .ok (.bool (J9 c.yr (c.yr k) k)) w' :=
     fun w' e hy => Qd4 (Ep hM e) hy (Cd hY hnk)
    have hlk0 : (c.prevK k ≤ (c.yr k).k ∧ (c.yr k).k < c.nk) ∧ Zx (c.yr k).nm = true → Uq (c.yr k):=fun h => Cc (by omega) h.1.2 (by omega) h.2
    go_upto_region 8 with (fail)
    refine Uk wo Qj ?_;intro hne hrx hry;try simp only []
    try simp only [List.append_eq,List.cons_append,List.nil_append]
    have hrx0:=fun u o => hrx u (wo.heap.size) o (by first | omega | (simp;done) | (simp;omega))
    skip
    repeat (first
     | go_big_quiet_skip
     | ((with_reducible apply Y2)
        ·exact rfl
        ·exact rfl
        ·exact rfl
        intro K hK
        unfold Qy;go_big_quiet_op;(with_reducible refine hK _ ?_);clear hK K)
     | ((with_reducible apply Y4)
        ·exact rfl
        ·exact rfl
        ·exact rfl
        intro K hK
        unfold Qy;go_big_quiet_op;(with_reducible refine hK _ ?_);clear hK K)
     | (go_big_quiet_want;go_big_quiet_op;go_big_quiet_on)
     | (go_big_quiet_want;go_big_quiet_op;apply Exists.intro;refine ⟨fun u => ?_,?_⟩
        ·first
          | (go_at_call 120;refine (Vh _ _).mono ?_;rintro e w' ⟨rfl,rfl⟩;exact ⟨rfl,u,rfl⟩)
        go_big_quiet_on)
     | ((with_reducible apply Y3)
        ·first | exact Zu rfl rfl rfl | exact Zt rfl rfl rfl | exact Zs rfl rfl rfl | exact Zr rfl rfl rfl
        ·exact rfl
        ·exact rfl
        ·exact rfl
        intro K hK
        unfold Qy;go_big_quiet_op;(with_reducible refine hK _ ?_);clear hK K)
     | ((with_reducible apply Y5)
        ·first | exact Zu rfl rfl rfl | exact Zt rfl rfl rfl | exact Zs rfl rfl rfl | exact Zr rfl rfl rfl
        ·exact rfl
        ·exact rfl
        ·exact rfl
        intro K hK
        unfold Qy;go_big_quiet_op;(with_reducible refine hK _ ?_);clear hK K)
     | ((with_reducible apply Yn)
        ·first | exact Zu rfl rfl rfl | exact Zt rfl rfl rfl | exact Zs rfl rfl rfl | exact Zr rfl rfl rfl
        apply Exists.intro;refine And.intro (fun hgb => ?_) ?_
        ·intro u;try simp at hgb
         go_simp
         try simp only [if_pos hsl]
         try simp only [if_pos (hin (by omega))]
         try (simp only [hd0 (by omega)];go_simp)
         try (rw [hlook _ (Qb.trans Qj u.e) (hlk0 hgb)];go_simp)
         first
          | (with_reducible exact rfl)
          | (go_at_call 120;refine (Vh _ _).mono ?_;rintro e w' ⟨rfl,rfl⟩;exact ⟨rfl,u,rfl⟩)
        intro K hK;unfold Qy;go_big_quiet_op;(with_reducible refine hK _ ?_);clear hK K))
    clear hne hry hrx hrx0;refine wpQuiet_nil ?_;intro wn hwn;obtain ⟨hcwn,hfwn,hzwn⟩:=Qb.rules hwn;try simp only [World.size_alloc] at hzwn
    have hk0wn:=fun o => hcwn (wo.heap.size) o (by first | omega | (simp;done) | (simp;omega))
    have hj0wn:=fun o => hfwn (wo.heap.size) o (by first | omega | (simp;done) | (simp;omega))
    have hl0wn : wo.heap.size < wn.heap.size:=(by first | omega | (simp;done) | (simp;omega));obtain ⟨hcbwn,hfbwn,hzbwn⟩:=Qb.rules (show Qb wo wn from Qj);clear hcwn hfwn;generalize hs : (decide ((c.yr k).k < c.prevK k) || decide ((c.nk : Int) ≤ (c.yr k).k) || !Zx (c.yr k).nm || J9 c.yr (c.yr k) k || decide ((c.yr k).db < 0) || decide (12 < (c.yr k).db) || decide ((c.yr k).lg < 0) || decide (8191 < (c.yr k).lg) || ((c.yr k).db == 0 && decide (4096 ≤ (c.yr k).lg))) = s at *;have HS : Hid (c.yearOk k = !s):=HY.out;clear hs HY;cases s
    ·have hY1 : Wm c (k + 1):=Hz hY HS.out;have hyk : Uq (c.yr k):=Cd hY1 hnk k (by omega);have hMn:=Ep hM (w':=wn) (Qb.trans Qj hwn);obtain ⟨w1,hrun1,hM1,hg1⟩:=hMn.update Oi Aj (show k < 9223372036854775807 by omega) (Ny hyk.1 hyk.2) (plainElem_bool G5 true);have hsz : (w.alloc (.cells #[.slice A c.nk ca,.slice (some ⟨b,off,none⟩) c.ny cb] 25)).heap.size ≤ wq.heap.size:=hB0.size;have hE1 : Qb (w.alloc (.cells #[.slice A c.nk ca,.slice (some ⟨b,off,none⟩) c.ny cb] 25)) w1:=Qb.grown (w:=wn) Qj hg1 (fun j hj => by cases hj;exact hsz);go_wp2;exact ⟨⟨k + 1,by omega,by go_num,rfl,hY1,hE1,hM1⟩,by simp [intOf];omega⟩
    ·go_wp2;go_ret;exact ⟨Jd (Sk hlt HS.out).symm,Qj⟩
   ·have hY' : Wm c c.ny:=fun i hi => hY i (by omega)
    go_wp2;go_ret;exact ⟨Jd (Qi2 HF.out hY').symm,Qj⟩
 ·go_wp2;go_ret;exact ⟨Jd (Qi0 HF.out).symm,Qj⟩
end
section
open Go Go.RowKit
attribute [local go_sem] Z5
theorem Qcj {c : Qf} (h : c.valid = true) : c.chk = 0:=by simp [Qf.chk,h]
theorem chk_no {c : Qf} (h : c.valid = false) : c.chk = 70:=by simp [Qf.chk,h]
set_option maxHeartbeats 1000000 in
theorem Qcf (A A' : Option Addr) (ca cb : Nat) (c : Qf) (w : World) (hC : Q8 w A ca A' cb c) :
  Calls Tryz.prog 115 #[.agg #[.slice A c.nk ca,.slice A' c.ny cb]] w fun e w' => e = .returned (.int .i64 c.chk) ∧ Qb w w':=by
 go_enter Tryz.func115,Tryz.ntmps115
 go_upto_region 1 with (fail)
 refine Uk w Qj ?_;intro hne hrx hry;try simp only []
 try simp only [List.append_eq,List.cons_append,List.nil_append]
 have hrx0:=fun u o => hrx u (w.heap.size) o (by first | omega | (simp;done) | (simp;omega))
 skip
 repeat (first
  | go_big_quiet_skip
  | ((with_reducible apply Y2)
     ·exact rfl
     ·exact rfl
     ·exact rfl
     intro K hK
     unfold Qy;go_big_quiet_op;(with_reducible refine hK _ ?_);clear hK K)
  | ((with_reducible apply Y4)
     ·exact rfl
     ·exact rfl
     ·exact rfl
     intro K hK
     unfold Qy;go_big_quiet_op;(with_reducible refine hK _ ?_);clear hK K)
  | (go_big_quiet_want;go_big_quiet_op;go_big_quiet_on)
  | (go_big_quiet_want;go_big_quiet_op;apply Exists.intro;refine ⟨fun u => ?_,?_⟩
     ·first
       | (go_at_call 141;refine (Gb _ _ _ _ c _ (hC.ext (Qb.trans Qj u.e))).mono ?_;rintro e w' ⟨rfl,hb⟩;exact ⟨rfl,u.back hb⟩)
     go_big_quiet_on)
  | ((with_reducible apply Y3)
     ·first | exact Zu rfl rfl rfl | exact Zt rfl rfl rfl | exact Zs rfl rfl rfl | exact Zr rfl rfl rfl
     ·exact rfl
     ·exact rfl
     ·exact rfl
     intro K hK
     unfold Qy;go_big_quiet_op;(with_reducible refine hK _ ?_);clear hK K)
  | ((with_reducible apply Y5)
     ·first | exact Zu rfl rfl rfl | exact Zt rfl rfl rfl | exact Zs rfl rfl rfl | exact Zr rfl rfl rfl
     ·exact rfl
     ·exact rfl
     ·exact rfl
     intro K hK
     unfold Qy;go_big_quiet_op;(with_reducible refine hK _ ?_);clear hK K)
  | ((with_reducible apply Yn)
     ·first | exact Zu rfl rfl rfl | exact Zt rfl rfl rfl | exact Zs rfl rfl rfl | exact Zr rfl rfl rfl
     apply Exists.intro;refine And.intro (fun hgb => ?_) ?_
     ·intro u;try simp at hgb
      go_simp
      try simp only [if_pos hsl]
      try simp only [if_pos (hin (by omega))]
      try (simp only [hd0 (by omega)];go_simp)
      try (rw [hlook _ (Qb.trans Qj u.e) (hlk0 hgb)];go_simp)
      first
       | (with_reducible exact rfl)
       | (go_at_call 141;refine (Gb _ _ _ _ c _ (hC.ext (Qb.trans Qj u.e))).mono ?_;rintro e w' ⟨rfl,hb⟩;exact ⟨rfl,u.back hb⟩)
     intro K hK;unfold Qy;go_big_quiet_op;(with_reducible refine hK _ ?_);clear hK K))
 clear hne hry hrx hrx0;refine wpQuiet_nil ?_;intro wq hq;obtain ⟨hcwq,hfwq,hzwq⟩:=Qb.rules hq;try simp only [World.size_alloc] at hzwq
 have hk0wq:=fun o => hcwq (w.heap.size) o (by first | omega | (simp;done) | (simp;omega))
 have hj0wq:=fun o => hfwq (w.heap.size) o (by first | omega | (simp;done) | (simp;omega))
 have hl0wq : w.heap.size < wq.heap.size:=(by first | omega | (simp;done) | (simp;omega));obtain ⟨hcbwq,hfbwq,hzbwq⟩:=Qb.rules (show Qb w wq from Qj);clear hcwq hfwq;generalize hv : c.valid = v at *;cases v
 ·go_wp2;go_ret;exact ⟨Xs (chk_no hv).symm,Qj⟩
 ·go_wp2;go_ret;exact ⟨Xs (Qcj hv).symm,Qj⟩
def Fo (d : Dt) : List Value:=[.int .i64 d.y,.int .i64 d.m,.bool d.s,.int .i64 d.d]
def InTo (c : Qf) (f : Nat → Dt) (k : Nat) : Prop:=∀ i,i < k → c.has (f i) = true
def Qf.checks (c : Qf) (f : Nat → Dt) (n : Nat) : Int:=if c.valid then (if (List.range n).all (fun i => c.has (f i)) then 0 else 71) else 70
theorem Qcg {c : Qf} {f : Nat → Dt} {n : Nat} (h : c.valid = false) : c.checks f n = 70:=by simp [Qf.checks,h]
theorem Qch {c : Qf} {f : Nat → Dt} {n k : Nat} (h : c.valid = true) (hk : k < n) (ho : c.has (f k) = false) : c.checks f n = 71:=by
 have : (List.range n).all (fun i => c.has (f i)) = false:=by
  rw [List.all_eq_false];exact ⟨k,by simpa using hk,by simp [ho]⟩
 simp only [Qf.checks,h,this];rfl
theorem Qci {c : Qf} {f : Nat → Dt} {n : Nat} (h : c.valid = true) (hI : InTo c f n) : c.checks f n = 0:=by
 have : (List.range n).all (fun i => c.has (f i)) = true:=by
  rw [List.all_eq_true];intro i hi;exact hI i (by simpa using hi)
 simp only [Qf.checks,h,this];rfl
theorem Lb {c : Qf} (h : c.valid = true) : ∀ i,i < c.ny → 0 ≤ (c.yr i).lg ∧ (c.yr i).lg ≤ 8191:=fun i hi => by
 simp only [Qf.valid,Bool.and_eq_true,List.all_eq_true,List.mem_range] at h;have h1:=h.2 i hi;simp only [Qf.yearOk,Bool.and_eq_true] at h1;have h2:=h1.2;rw [Tp] at h2;simp at h2;omega
set_option maxHeartbeats 1000000 in
theorem Kk (A A' : Option Addr) (ca cb : Nat) (c : Qf) (B : Option Addr) (n cap : Nat) (f : Nat → Dt) (w : World) (hC : Q8 w A ca A' cb c) (hD : Qp w B n 4 (fun i => Fo (f i))) (hn : n ≤ 9223372036854775807) :
  Calls Tryz.prog 94 #[.agg #[.slice A c.nk ca,.slice A' c.ny cb],.slice B n cap] w fun e w' => e = .returned (.int .i64 (c.checks f n)) ∧ Qb w w':=by
 go_enter Tryz.func94,Tryz.ntmps94
 go_upto_region 1 with (fail)
 refine Uk w Qj ?_;intro hne hrx hry;try simp only []
 try simp only [List.append_eq,List.cons_append,List.nil_append]
 have hrx0:=fun u o => hrx u (w.heap.size) o (by first | omega | (simp;done) | (simp;omega))
 skip
 repeat (first
  | go_big_quiet_skip
  | ((with_reducible apply Y2)
     ·exact rfl
     ·exact rfl
     ·exact rfl
     intro K hK
     unfold Qy;go_big_quiet_op;(with_reducible refine hK _ ?_);clear hK K)
  | ((with_reducible apply Y4)
     ·exact rfl
     ·exact rfl
     ·exact rfl
     intro K hK
     unfold Qy;go_big_quiet_op;(with_reducible refine hK _ ?_);clear hK K)
  | (go_big_quiet_want;go_big_quiet_op;go_big_quiet_on)
  | (go_big_quiet_want;go_big_quiet_op;apply Exists.intro;refine ⟨fun u => ?_,?_⟩
     ·first
       | (go_at_call 141;refine (Gb _ _ _ _ c _ (hC.ext (Qb.trans Qj u.e))).mono ?_;rintro e w' ⟨rfl,hb⟩;exact ⟨rfl,u.back hb⟩)
     go_big_quiet_on)
  | ((with_reducible apply Y3)
     ·first | exact Zu rfl rfl rfl | exact Zt rfl rfl rfl | exact Zs rfl rfl rfl | exact Zr rfl rfl rfl
     ·exact rfl
     ·exact rfl
     ·exact rfl
     intro K hK
     unfold Qy;go_big_quiet_op;(with_reducible refine hK _ ?_);clear hK K)
  | ((with_reducible apply Y5)
     ·first | exact Zu rfl rfl rfl | exact Zt rfl rfl rfl | exact Zs rfl rfl rfl | exact Zr rfl rfl rfl
     ·exact rfl
     ·exact rfl
     ·exact rfl
     intro K hK
     unfold Qy;go_big_quiet_op;(with_reducible refine hK _ ?_);clear hK K)
  | ((with_reducible apply Yn)
     ·first | exact Zu rfl rfl rfl | exact Zt rfl rfl rfl | exact Zs rfl rfl rfl | exact Zr rfl rfl rfl
     apply Exists.intro;refine And.intro (fun hgb => ?_) ?_
     ·intro u;try simp at hgb
      go_simp
      try simp only [if_pos hsl]
      try simp only [if_pos (hin (by omega))]
      try (simp only [hd0 (by omega)];go_simp)
      try (rw [hlook _ (Qb.trans Qj u.e) (hlk0 hgb)];go_simp)
      first
       | (with_reducible exact rfl)
       | (go_at_call 141;refine (Gb _ _ _ _ c _ (hC.ext (Qb.trans Qj u.e))).mono ?_;rintro e w' ⟨rfl,hb⟩;exact ⟨rfl,u.back hb⟩)
     intro K hK;unfold Qy;go_big_quiet_op;(with_reducible refine hK _ ?_);clear hK K))
 clear hne hry hrx hrx0;refine wpQuiet_nil ?_;intro wq hq;obtain ⟨hcwq,hfwq,hzwq⟩:=Qb.rules hq;try simp only [World.size_alloc] at hzwq
 have hk0wq:=fun o => hcwq (w.heap.size) o (by first | omega | (simp;done) | (simp;omega))
 have hj0wq:=fun o => hfwq (w.heap.size) o (by first | omega | (simp;done) | (simp;omega))
 have hl0wq : w.heap.size < wq.heap.size:=(by first | omega | (simp;done) | (simp;omega));obtain ⟨hcbwq,hfbwq,hzbwq⟩:=Qb.rules (show Qb w wq from Qj);clear hcwq hfwq;generalize hv : c.valid = v at *;cases v
 ·go_wp2;go_ret;exact ⟨Xs (Qcg hv).symm,Qj⟩
 ·go_wp2
  go_loopw [12] (fun i wr => ∃ k : Nat,k ≤ n ∧ i = .int .i64 k ∧ InTo c f k ∧ Qb (w.alloc (.cells #[.slice A c.nk ca,.slice A' c.ny cb] 25)) wr) (fun i _ => n - (intOf i).toNat)
  case atStart => exact ⟨0,Nat.zero_le _,rfl,(fun i h => absurd h (by omega)),hq⟩
  case round =>
   obtain ⟨k,hk,rfl,hI,hB⟩:=hrel;clear hzwq hk0wq hj0wq hl0wq hcbwq hfbwq hzbwq hq;obtain ⟨wo,rfl⟩:=Qg wr;obtain ⟨hcwo,hfwo,hzwo⟩:=Qb.rules hB;try simp only [World.size_alloc] at hzwo
   have hk0wo:=fun o => hcwo (w.heap.size) o (by first | omega | (simp;done) | (simp;omega))
   have hj0wo:=fun o => hfwo (w.heap.size) o (by first | omega | (simp;done) | (simp;omega))
   have hl0wo : w.heap.size < wo.heap.size:=(by first | omega | (simp;done) | (simp;omega));obtain ⟨hcbwo,hfbwo,hzbwo⟩:=Qb.rules (show Qb w wo from Qj);clear hcwo hfwo;by_cases hlt : k < n
   ·obtain ⟨b, off, rfl, hb, hc⟩ := hD (by omega);have c0 : w.cell? ⟨b, off + k * 4, none⟩ = some (.int .i64 (f k).y) := by simpa using hc k 0 _ hlt rfl
    have c1 : w.cell? ⟨b,off + k * 4 + 1,none⟩ = some (.int .i64 (f k).m):=hc k 1 _ hlt rfl;have c2 : w.cell? ⟨b,off + k * 4 + 2,none⟩ = some (.bool (f k).s):=hc k 2 _ hlt rfl;have c3 : w.cell? ⟨b,off + k * 4 + 3,none⟩ = some (.int .i64 (f k).d):=hc k 3 _ hlt rfl;clear hc hD;have hbo : b < wo.heap.size:=by omega
    go_upto_region 6 with (fail)
    refine Uk wo Qj ?_;intro hne hrx hry;try simp only []
    try simp only [List.append_eq,List.cons_append,List.nil_append]
    have hrx0:=fun u o => hrx u (wo.heap.size) o (by first | omega | (simp;done) | (simp;omega))
    skip
    repeat (first
     | go_big_quiet_skip
     | ((with_reducible apply Y2)
        ·exact rfl
        ·exact rfl
        ·exact rfl
        intro K hK
        unfold Qy;go_big_quiet_op;(with_reducible refine hK _ ?_);clear hK K)
     | ((with_reducible apply Y4)
        ·exact rfl
        ·exact rfl
        ·exact rfl
        intro K hK
        unfold Qy;go_big_quiet_op;(with_reducible refine hK _ ?_);clear hK K)
     | (go_big_quiet_want;go_big_quiet_op;go_big_quiet_on)
     | (go_big_quiet_want;go_big_quiet_op;apply Exists.intro;refine ⟨fun u => ?_,?_⟩
        ·first
          | (go_at_call 142;refine (Bk _ _ _ _ c (f k) _ (hC.ext (Qb.trans Qj u.e)) (Lb hv)).mono ?_;rintro e w' ⟨rfl,hb⟩;exact ⟨rfl,u.back hb⟩)
        go_big_quiet_on)
     | ((with_reducible apply Y3)
        ·first | exact Zu rfl rfl rfl | exact Zt rfl rfl rfl | exact Zs rfl rfl rfl | exact Zr rfl rfl rfl
        ·exact rfl
        ·exact rfl
        ·exact rfl
        intro K hK
        unfold Qy;go_big_quiet_op;(with_reducible refine hK _ ?_);clear hK K)
     | ((with_reducible apply Y5)
        ·first | exact Zu rfl rfl rfl | exact Zt rfl rfl rfl | exact Zs rfl rfl rfl | exact Zr rfl rfl rfl
        ·exact rfl
        ·exact rfl
        ·exact rfl
        intro K hK
        unfold Qy;go_big_quiet_op;(with_reducible refine hK _ ?_);clear hK K)
     | ((with_reducible apply Yn)
        ·first | exact Zu rfl rfl rfl | exact Zt rfl rfl rfl | exact Zs rfl rfl rfl | exact Zr rfl rfl rfl
        apply Exists.intro;refine And.intro (fun hgb => ?_) ?_
        ·intro u;try simp at hgb
         go_simp
         try simp only [if_pos hsl]
         try simp only [if_pos (hin (by omega))]
         try (simp only [hd0 (by omega)];go_simp)
         try (rw [hlook _ (Qb.trans Qj u.e) (hlk0 hgb)];go_simp)
         first
          | (with_reducible exact rfl)
          | (go_at_call 142;refine (Bk _ _ _ _ c (f k) _ (hC.ext (Qb.trans Qj u.e)) (Lb hv)).mono ?_;rintro e w' ⟨rfl,hb⟩;exact ⟨rfl,u.back hb⟩)
        intro K hK;unfold Qy;go_big_quiet_op;(with_reducible refine hK _ ?_);clear hK K))
    clear hne hry hrx hrx0;refine wpQuiet_nil ?_;intro wn hwn;obtain ⟨hcwn,hfwn,hzwn⟩:=Qb.rules hwn;try simp only [World.size_alloc] at hzwn
    have hk0wn:=fun o => hcwn (wo.heap.size) o (by first | omega | (simp;done) | (simp;omega))
    have hj0wn:=fun o => hfwn (wo.heap.size) o (by first | omega | (simp;done) | (simp;omega))
    have hl0wn : wo.heap.size < wn.heap.size:=(by first | omega | (simp;done) | (simp;omega));obtain ⟨hcbwn,hfbwn,hzbwn⟩:=Qb.rules (show Qb wo wn from Qj);clear hcwn hfwn;generalize hs : c.has (f k) = s at *;cases s
    ·go_wp2;go_ret;exact ⟨Xs (Qch hv hlt hs).symm,Qj⟩
    ·go_wp2;exact ⟨⟨k + 1,by omega,by go_num,Hz hI hs,Qj⟩,by simp [intOf];omega⟩
   ·go_wp2;go_ret;exact ⟨Xs (Qci hv (fun i hi => hI i (by omega))).symm,Qj⟩
end
section
open Go Go.RowKit Go.Shelf
attribute [local go_sem] Oper.semAt_some Z5
attribute [local go_sem high] Qdp
theorem Qb.putObj {W w : World} (h : Qb W w) {k : Nat} (hk : W.heap.size ≤ k) (o : Obj) : Qb W (w.putObj k o):=h.grown (grownBy_putObj' w k o) (fun j e => by cases e;exact hk)
theorem Em {β : Type} {B : Nat} {w₀ : World} (hB : w₀.heap.size ≤ B) : OwnFrom B (fun (_ : β) W => Qb w₀ W):=ownFrom_below (Nat.le_refl _) hB
theorem Cb {B : Nat} {W W' : World} (e : Qb W W') : KeepsFrom B W W':=⟨e.size,fun _ _ _ h _ => (e.block (Array.getElem?_eq_some_iff.1 h).1).trans h⟩
theorem Im {F : Fence} {n : Nat} {P : Program} {fn : Func} {R : Ending → World → Prop} {tmps : Array Value} {w : World} {v : Value} {D : Nat} (hK : w.heap[D]? = some (.deferred (some [])))
  (hr : (results fn tmps).run P (w.putObj D (.deferred none)) = .ok v (w.putObj D (.deferred none))) (hR : R (.returned v) (w.putObj D (.deferred none))) :
  bodyPostM F n P fn R .ret { tmps:=tmps,defers:=[{ target:=.collected D,args:=#[] }] } w:=⟨by simp,.inl ⟨_,_,rfl,run_takeDeferred hK,v,hr,hR⟩⟩
theorem M8 {W : World} {B : Nat} {t : TypeId} {v : Value} (h : Boxed W B t v) {D : Nat} {o o' : Obj} (hK : W.heap[D]? = some o) (ho : o.isCells = false) : Boxed (W.putObj D o') B t v :=
 h.kept (grownBy_putObj' W D o') (fun e => by
  cases e
  rw [show W.heap[B]? = _ from h] at hK;cases hK;cases ho)
/-- 'for m, first := range months(c)': the law of such a loop. -/
theorem Qfc {g : Operand} {ps : Array Tmp} {assign body : Code} {Q : Exit → Act → World → Prop} {a : Act} {A A' : Option Addr} {ca cb : Nat} {c : Qf} {B : Nat} (w₀ w : World)
  (hg : a.eval g = .func (.func 174) #[] #[.pointer (some ⟨B,0,none⟩)]) (hps : ps.size = 2)
  (hC : Q8 w₀ A ca A' cb c) (hlg : ∀ i,i < c.ny → 0 ≤ (c.yr i).lg ∧ (c.yr i).lg ≤ 8191) (hny : c.ny ≤ 400) (he : Qb w₀ w) (hB : w.cell? ⟨B,1,none⟩ = some (.slice A' c.ny cb)) (hBl : B < w.heap.size)
  (I : List (Mo c) → World → Prop) (Ix : Code → List (Mo c) → World → Prop) (hI : OwnFrom w.heap.size I) (hIx : ∀ c,OwnFrom w.heap.size (Ix c)) (h0 : I [] w) (Ax : Mo c → Act → World → Prop)
  (hAx : ∀ x a',OwnFrom w.heap.size (fun (_ : Unit) W => Ax x a' W))
  (hassign : ∀ (l : Nat) (Qt : List (Mo c)) (x : Mo c) (W : World) (K : Act → World → Prop),I Qt W → (∀ a' W',KeepsFrom w.heap.size W W' → Yi w₀.heap.size W W' → I Qt W' → Ax x a' W' → K a' W') →
   assign.wpIn (Fence.wide.inRound l) 7 Tryz.prog (Exit.then K (fun _ _ _ => False)) { tmps:=(ps.zip (Mo.enc x)).foldl (fun t (p,v) => t.setIfInBounds p v) a.tmps,defers:=[] } W)
  (hbody : ∀ (l : Nat) (Qt : List (Mo c)) (x : Mo c) (a' : Act) (W : World),w.heap.size ≤ l → I Qt W → Ax x a' W → Qt.length < 13 * c.ny → body.wpIn (Fence.wide.inRound l) 7 Tryz.prog (ownPostG w.heap.size (Yi w₀.heap.size) I Ix (Qt ++ [x]) W) a' W)
  (hdone : ∀ (D : Nat) (xs : List (Mo c)) (W : World),w.heap.size ≤ D → Mo.its xs = c.items → I xs W → W.heap[D]? = some (.deferred (some [])) → Q .normal { a with defers:={ target:=.collected D,args:=#[] } :: a.defers } W)
  (hstop : ∀ (D : Nat) (c' : Code) (Qt : List (Mo c)) (W : World),w.heap.size ≤ D → Mo.its Qt <+: c.items → Ix c' Qt W → W.heap[D]? = some (.deferred (some [])) → c'.wp Tryz.prog Q { a with defers:={ target:=.collected D,args:=#[] } :: a.defers } W) :
  (Code.rangeFunc g ps assign body).wp Tryz.prog Q a w:=by
 refine (wpIn_wide (n:=9)).1 (wpIn_rangeFunc_ownH rfl (by omega) hg trivial (enters_of Tryz.func174 (by kernel_rfl) rfl) (Qfx A A' ca cb c B 8 w₀ w hC hlg hny (by omega) he hB hBl)
  Yi.trans (Yi.turn he.size) (Below.refl _ _) (fun _ => hps.symm) I Ix hI hIx h0 Ax hAx hassign (fun l Qt x a' W hl _ hi hx hlt => hbody l Qt x a' W hl hi hx (Nat.lt_of_lt_of_le hlt (Lz c c.ny))) hdone
  (fun D c' Qt W hD hp hx hK => wpIn_wide.2 (hstop D c' Qt W hD hp hx hK)))
theorem El {β γ : Type} {B : Nat} {I : γ → β → World → Prop} (h : ∀ x,OwnFrom B (I x)) : OwnFrom B (fun s W => ∃ x,I x s W):=fun s X Y row ⟨x,hs⟩ hg hr => ⟨x,h x s X Y row hs hg hr⟩
theorem Ou {β : Type} (B b : Nat) (t : TypeId) (f : β → Value) : OwnFrom B (fun s W => Boxed W b t (f s)):=Own.from (boxed_own b t f) B
/-- Block b is just the cells cs. -/
def Qa (W : World) (b : Nat) (t : TypeId) (cs : Array Value) : Prop:=W.heap[b]? = some (.cells cs t (0,0))
theorem Qa.lt {W : World} {b : Nat} {t : TypeId} {cs : Array Value} (h : Qa W b t cs) : b < W.heap.size:=(Array.getElem?_eq_some_iff.1 h).1
theorem Qa.new (W : World) (t : TypeId) (cs : Array Value) : Qa (W.alloc (.cells cs t)) W.heap.size t cs:=World.alloc_heap_new W _
theorem Qa.at (W : World) (t : TypeId) (cs : Array Value) (b : Nat) (h : b = W.heap.size) : Qa (W.alloc (.cells cs t)) b t cs:=by rw [h];exact Qa.new W t cs
theorem Qa.alloc {W : World} {b : Nat} {t : TypeId} {cs : Array Value} (h : Qa W b t cs) (o : Obj) : Qa (W.alloc o) b t cs:=(Below.heap_alloc W o b h.lt).trans h
theorem Qa.boxed {W : World} {b : Nat} {t : TypeId} {v : Value} (h : Qa W b t #[v]) : Boxed W b t v:=h
theorem Qa.ext {W W' : World} {b : Nat} {t : TypeId} {cs : Array Value} (h : Qa W b t cs) (e : Qb W W') : Qa W' b t cs:=(e.block h.lt).trans h
theorem Qa.other {W : World} {b b' : Nat} {t : TypeId} {cs : Array Value} (h : Qa W b t cs) (hne : b ≠ b') (u : Value) : Qa (W.setCell ⟨b',0,none⟩ u) b t cs:=((grownBy_setCell' W b' u).block b h.lt (fun e => hne (by cases e;rfl))).trans h
theorem Qa.cell {W : World} {b : Nat} {t : TypeId} {cs : Array Value} (h : Qa W b t cs) (i : Nat) : W.cell? ⟨b,i,none⟩ = cs[i]?:=by simp [World.cell?,show W.heap[b]? = _ from h]
theorem Qa.frozen {W : World} {b : Nat} {t : TypeId} {cs : Array Value} (h : Qa W b t cs) (i : Nat) : W.frozen? ⟨b,i,none⟩ = false:=by simp [World.frozen?,show W.heap[b]? = _ from h]
section
variable {W : World} {b : Nat} {t : TypeId} {v0 v1 v2 v3 : Value}
theorem Qa.c1 (h : Qa W b t #[v0]) : W.cell? ⟨b,0,none⟩ = some v0:=h.cell 0
theorem Qa.c2 (h : Qa W b t #[v0,v1]) : W.cell? ⟨b,0,none⟩ = some v0 ∧ W.cell? ⟨b,1,none⟩ = some v1:=⟨h.cell 0,h.cell 1⟩
theorem Qa.c3 (h : Qa W b t #[v0,v1,v2]) : W.cell? ⟨b,0,none⟩ = some v0 ∧ W.cell? ⟨b,1,none⟩ = some v1 ∧ W.cell? ⟨b,2,none⟩ = some v2:=⟨h.cell 0,h.cell 1,h.cell 2⟩
theorem Qa.c4 (h : Qa W b t #[v0,v1,v2,v3]) : W.cell? ⟨b,0,none⟩ = some v0 ∧ W.cell? ⟨b,1,none⟩ = some v1 ∧ W.cell? ⟨b,2,none⟩ = some v2 ∧ W.cell? ⟨b,3,none⟩ = some v3:=⟨h.cell 0,h.cell 1,h.cell 2,h.cell 3⟩
end
theorem Qg0 {β : Type} (B b : Nat) (t : TypeId) (f : β → Array Value) : OwnFrom B (fun s W => Qa W b t (f s)):=fun s X Y row hs hg hr => (hg.block b hs.lt (fun e => by
 obtain ⟨_,o,ho,hc⟩:=hr b e.symm;rw [show X.heap[b]? = _ from hs] at ho;cases ho;cases hc)).trans hs
theorem Po {W W' : World} {b : Nat} {t : TypeId} {v : Value} (h : Boxed W b t v) (e : Qb W W') : Boxed W' b t v:=(e.block h.lt).trans h
theorem Qex (x : It) (d : Dt) : x.of d = ((x.y : Int) == d.y && (x.n == d.m && x.s == d.s)):=by rw [It.of,Bool.and_assoc];rfl
/-- What a month's box is behind the assignment, and the frame with it. -/
def AxM (L : Nat) (f : It → Nat → Array Value) {c : Qf} (x : Mo c) (a' : Act) (W : World) : Prop :=
 ∃ Bx,L ≤ Bx ∧ Qa W Bx 231 #[.int .i64 (x.1.y : Int),.int .i64 x.1.n,.bool x.1.s] ∧ a' = { tmps:=f x.1 Bx,defers:=[] }
theorem Qbs {L B : Nat} {f : It → Nat → Array Value} {c : Qf} (x : Mo c) (a' : Act) : OwnFrom B (fun (_ : Unit) W => AxM L f x a' W) :=
 El fun _ => OwnFrom.and (ownFrom_pure _ _) (OwnFrom.and (Qg0 _ _ _ _) (ownFrom_pure _ _))
theorem Qaj {W : World} {b b' : Nat} {t t' : TypeId} {v v' : Value} (h : Boxed W b t v) (h' : Boxed W b' t' v') (hne : b ≠ b') (u u' : Value) :
  Boxed ((W.setCell ⟨b,0,none⟩ u).setCell ⟨b',0,none⟩ u').drew b t u ∧ Boxed ((W.setCell ⟨b,0,none⟩ u).setCell ⟨b',0,none⟩ u').drew b' t' u' :=
 ⟨(h.set u).other hne u',(h'.other (Ne.symm hne) u).set u'⟩
/-! ### number -/
def U7 (d : Dt) (l : List It) : Prop:=∀ x,x ∈ l → x.of d = false
theorem Az {d : Dt} : ∀ {l : List It} (k : Int),U7 d l → Ye d l k = (0,0)
 | [],_,_ => rfl
 | x :: l,k,h => by
  rw [Ye,h x (List.mem_cons_self ..)];exact Az (k + 1) (fun y hy => h y (List.mem_cons_of_mem _ hy))
theorem Av {d : Dt} {x : It} (hx : x.of d = true) : ∀ (Qt l : List It) (k : Int),U7 d Qt → Ye d (Qt ++ x :: l) k = (x.first + d.d - 1,k + Qt.length + 1)
 | [],l,k,_ => by simp [Ye,hx]
 | y :: Qt,l,k,h => by
  rw [List.cons_append,Ye,h y (List.mem_cons_self ..)]
  show Ye d _ (k + 1) = _
  rw [Av hx Qt l (k + 1) (fun z hz => h z (List.mem_cons_of_mem _ hz)),List.length_cons]
  congr 1;omega
theorem Qgr {c : Qf} {d : Dt} (h : U7 d c.items) : c.num d = (0,0):=Az 0 h
theorem Qgq {c : Qf} {d : Dt} {Qt : List It} {x : It} (hN : U7 d Qt) (hx : x.of d = true) (hp : Qt ++ [x] <+: c.items) : c.num d = (x.first + d.d - 1,(Qt.length : Int) + 1):=by
 obtain ⟨t,ht⟩:=hp;rw [Qf.num,← ht,List.append_assoc,List.singleton_append,Av hx Qt t 0 hN]
 congr 1;omega
theorem Qgl {d : Dt} {l : List It} {x : It} (h : U7 d l) (hx : x.of d = false) : U7 d (l ++ [x]):=fun y hy => by
 rcases List.mem_append.1 hy with hy | hy
 ·exact h y hy
 ·rw [List.mem_singleton.1 hy];exact hx
/-- The world in which number has boxed its arguments. -/
def Mb (A A' : Option Addr) (ca cb : Nat) (c : Qf) (d : Dt) (w : World) : World:=(w.alloc (.cells #[.slice A c.nk ca,.slice A' c.ny cb] 25)).alloc (.cells #[.int .i64 d.y,.int .i64 d.m,.bool d.s,.int .i64 d.d] 51)
theorem R5 (A A' : Option Addr) (ca cb : Nat) (c : Qf) (d : Dt) (w : World) (hC : Q8 w A ca A' cb c) (hlg : ∀ i,i < c.ny → 0 ≤ (c.yr i).lg ∧ (c.yr i).lg ≤ 8191) (hny : c.ny ≤ 400) (hd : 1 ≤ d.d ∧ d.d ≤ 30) :
  Calls Tryz.prog 95 #[.agg #[.slice A c.nk ca,.slice A' c.ny cb],.agg #[.int .i64 d.y,.int .i64 d.m,.bool d.s,.int .i64 d.d]] w fun e w' => e = .returned (.tuple #[.int .i64 (c.num d).1,.int .i64 (c.num d).2]) ∧ Qb w w':=by
 refine callsIn_wide.1 (callsIn_of_wp_marks (F:=Fence.wide) (n:=9) Tryz.func95 rfl trivial (wpIn_wide.2 ?_) rfl);simp only [Tryz.ntmps95,List.size_toArray,List.length_cons,List.length_nil,Nat.reduceAdd,Nat.reduceSub,Array.replicate_succ,Array.replicate_zero,List.push_toArray,List.append_toArray,List.nil_append,List.cons_append];go_wp2_with (go_at_call 143;refine (Qfy _ _ _ _ c _).mono ?_;rintro e w' ⟨rfl,rfl⟩);obtain ⟨wd,hwd⟩:=Qg (Mb A A' ca cb c d w);have hEd : Qb w wd:=by rw [hwd];unfold Mb;exact Qj
 have hsd : wd.heap.size = w.heap.size + 1 + 1:=by rw [hwd];simp [Mb]
 have hdb : Qa wd (w.heap.size + 1) 51 #[.int .i64 d.y,.int .i64 d.m,.bool d.s,.int .i64 d.d]:=by rw [hwd];unfold Mb;exact (by repeat (first | (refine Qa.at _ _ _ _ ?_;(simp;done)) | refine Qa.alloc ?_ _))
 generalize hW5 : World.alloc _ _ = W5;have hE5 : Qb wd W5:=by rw [← hW5,hwd];unfold Mb;exact Qj
 have hs5 : W5.heap.size = w.heap.size + 1 + 1 + 1 + 1 + 1:=by rw [← hW5];simp
 have b4 : Boxed W5 (w.heap.size + 1 + 1) 3 (.int .i64 0):=by rw [← hW5];exact Qa.boxed (by repeat (first | (refine Qa.at _ _ _ _ ?_;(simp;done)) | refine Qa.alloc ?_ _))
 have b5 : Boxed W5 (w.heap.size + 1 + 1 + 1) 3 (.int .i64 0):=by rw [← hW5];exact Qa.boxed (by repeat (first | (refine Qa.at _ _ _ _ ?_;(simp;done)) | refine Qa.alloc ?_ _))
 have hB : W5.cell? ⟨w.heap.size + 1 + 1 + 1 + 1,1,none⟩ = some (.slice A' c.ny cb):=by rw [← hW5];exact (Qa.cell (t:=25) (cs:=#[.slice A c.nk ca,.slice A' c.ny cb]) (by repeat (first | (refine Qa.at _ _ _ _ ?_;(simp;done)) | refine Qa.alloc ?_ _)) 1)
 clear hW5 hwd;generalize hs : w.heap.size = s at *
 refine Qfc (A:=A) (A':=A') (ca:=ca) (cb:=cb) (c:=c) (B:=s + 1 + 1 + 1 + 1) wd W5 rfl rfl (hC.ext hEd) hlg hny hE5 hB (by omega)
  (fun Qt W => Qb wd W ∧ Boxed W (s + 1 + 1) 3 (.int .i64 0) ∧ Boxed W (s + 1 + 1 + 1) 3 (.int .i64 (Qt.length : Int)) ∧ U7 d (Mo.its Qt))
  (fun c' Qt W => Qb wd W ∧ ∃ p : List (Mo c) × Mo c,Boxed W (s + 1 + 1) 3 (.int .i64 (p.2.1.first + d.d - 1)) ∧ Boxed W (s + 1 + 1 + 1) 3 (.int .i64 (Qt.length : Int)) ∧ c' = .ret ∧ Qt = p.1 ++ [p.2] ∧ U7 d (Mo.its p.1) ∧ p.2.1.of d = true)
  (OwnFrom.and (Em (by omega)) (OwnFrom.and (Ou _ _ _ _) (OwnFrom.and (Ou _ _ _ _) (ownFrom_pure _ _))))
  (fun c' => OwnFrom.and (Em (by omega)) (El fun p => OwnFrom.and (Ou _ _ _ _) (OwnFrom.and (Ou _ _ _ _) (ownFrom_pure _ _))))
  ⟨hE5,b4,b5,fun _ h => (by cases h)⟩
  (AxM (s + 1 + 1 + 1 + 1) (fun y Bx => #[.agg #[.slice A c.nk ca,.slice A' c.ny cb],.agg #[.int .i64 d.y,.int .i64 d.m,.bool d.s,.int .i64 d.d],.pointer (some ⟨s,0,none⟩),.pointer (some ⟨s + 1,0,none⟩),.pointer (some ⟨s + 1 + 1,0,none⟩),.pointer (some ⟨s + 1 + 1 + 1,0,none⟩),.pointer (some ⟨Bx,0,none⟩),.int .i64 y.first,
   .agg #[.slice A c.nk ca,.slice A' c.ny cb],.func (.func 174) #[] #[.pointer (some ⟨s + 1 + 1 + 1 + 1,0,none⟩)],.agg #[.int .i64 (y.y : Int),.int .i64 y.n,.bool y.s],.int .i64 y.first,undef,undef,undef,undef,undef,undef,undef,undef,undef,undef,undef,undef])) Qbs ?assign ?body ?done ?stop
 case assign =>
  intro l Qt x W K hi hK;simp only [Mo.enc]
  gi_wp2
  refine hK _ _ (Cb ((Qb.refl W).alloc _)) (Yi.of_ext ((Qb.refl W).alloc _) hi.1.size) ⟨hi.1.alloc _,hi.2.1.alloc _,hi.2.2.1.alloc _,hi.2.2.2⟩ ⟨W.heap.size,hi.2.2.1.lt,Qa.new _ _ _,rfl⟩
 case body =>
  rintro l Qt x a' W hl ⟨hE,b4,b5,hN⟩ ⟨Bx,hBx,hm,rfl⟩ hlt;have hcb:=b5.cell;have hfb:=b5.frozen
  gi_wp2
  have hKp : Yi wd.heap.size W (W.setCell ⟨s + 1 + 1 + 1,0,none⟩ (.int .i64 ((Qt.length : Int) + 1))):=Yi.box b5 (by decide) (by omega) _;have hKf : KeepsFrom W5.heap.size W (W.setCell ⟨s + 1 + 1 + 1,0,none⟩ (.int .i64 ((Qt.length : Int) + 1))):=(KeepsOthers.setCell _ _ _).from _;have hE2:=hE.setCell (p:=⟨s + 1 + 1 + 1,0,none⟩) (show wd.heap.size ≤ s + 1 + 1 + 1 by omega) (.int .i64 ((Qt.length : Int) + 1));have b42:=b4.other (B':=s + 1 + 1 + 1) (by omega) (.int .i64 ((Qt.length : Int) + 1));have b52:=b5.set (.int .i64 ((Qt.length : Int) + 1));have hm2:=hm.other (b':=s + 1 + 1 + 1) (by omega) (.int .i64 ((Qt.length : Int) + 1));generalize World.setCell W _ _ = W2 at *
  clear hcb hfb b4 b5 hm hE;have hd2:=hdb.ext hE2;have m0:=hm2.cell 0;have m1:=hm2.cell 1;have m2:=hm2.cell 2;have e0:=hd2.cell 0;have e1:=hd2.cell 1;have e2:=hd2.cell 2;have e3:=hd2.cell 3;have hl1:=hm2.lt;have hl2:=hd2.lt;simp at m0 m1 m2 e0 e1 e2 e3;refine Qjc W2 Qo (by kernel_rfl) (by kernel_rfl) Qj ?_;intro hne hrx hry;try simp only []
  try simp only [List.append_eq,List.cons_append,List.nil_append]
  skip
  repeat (first
   | go_big_quiet_skip
   | ((with_reducible apply Y2)
      ·exact rfl
      ·exact rfl
      ·exact rfl
      intro K hK
      unfold Qy;go_big_quiet_op;(with_reducible refine hK _ ?_);clear hK K)
   | ((with_reducible apply Y4)
      ·exact rfl
      ·exact rfl
      ·exact rfl
      intro K hK
      unfold Qy;go_big_quiet_op;(with_reducible refine hK _ ?_);clear hK K)
   | (go_big_quiet_want;go_big_quiet_op;go_big_quiet_on)
   | (go_big_quiet_want;go_big_quiet_op;apply Exists.intro;refine ⟨fun u => ?_,?_⟩
      ·first
        | (go_at_call 144;refine (Ab d _).mono ?_;rintro e w' ⟨rfl,hb⟩;exact ⟨rfl,u.back hb⟩)
      go_big_quiet_on)
   | ((with_reducible apply Y3)
      ·first | exact Zu rfl rfl rfl | exact Zt rfl rfl rfl | exact Zs rfl rfl rfl | exact Zr rfl rfl rfl
      ·exact rfl
      ·exact rfl
      ·exact rfl
      intro K hK
      unfold Qy;go_big_quiet_op;(with_reducible refine hK _ ?_);clear hK K)
   | ((with_reducible apply Y5)
      ·first | exact Zu rfl rfl rfl | exact Zt rfl rfl rfl | exact Zs rfl rfl rfl | exact Zr rfl rfl rfl
      ·exact rfl
      ·exact rfl
      ·exact rfl
      intro K hK
      unfold Qy;go_big_quiet_op;(with_reducible refine hK _ ?_);clear hK K)
   | ((with_reducible apply Yn)
      ·first | exact Zu rfl rfl rfl | exact Zt rfl rfl rfl | exact Zs rfl rfl rfl | exact Zr rfl rfl rfl
      apply Exists.intro;refine And.intro (fun hgb => ?_) ?_
      ·intro u;try simp at hgb
       go_simp
       try simp only [if_pos hsl]
       try simp only [if_pos (hin (by omega))]
       try (simp only [hd0 (by omega)];go_simp)
       try (rw [hlook _ (Qb.trans Qj u.e) (hlk0 hgb)];go_simp)
       first
        | (with_reducible exact rfl)
        | (go_at_call 144;refine (Ab d _).mono ?_;rintro e w' ⟨rfl,hb⟩;exact ⟨rfl,u.back hb⟩)
      intro K hK;unfold Qy;go_big_quiet_op;(with_reducible refine hK _ ?_);clear hK K))
  clear hne hry hrx;refine wpQuiet_nil ?_;intro wq hq;obtain ⟨hcwq,hfwq,hzwq⟩:=Qb.rules hq;try simp only [World.size_alloc] at hzwq
  obtain ⟨hcbwq,hfbwq,hzbwq⟩:=Qb.rules (show Qb W2 wq from Qj);clear hcwq hfwq;have HO : Hid (x.1.of d = _):=Qex x.1 d;have hxok:=x.2;have hx1:=hxok.f1;have hx2:=hxok.f2;clear hxok;generalize ((x.1.y : Int) == d.y && (x.1.n == d.m && x.1.s == d.s)) = f at *;have hEq:=hE2.trans hq;have b4q:=Po b42 hq;have b5q:=Po b52 hq;have hKq:=hKp.trans (Yi.of_ext hq hE2.size);have hFq:=hKf.trans (Cb hq);clear m0 m1 m2 hl1;cases f
  ·gi_wp2
   exact ⟨hFq,hKq,hEq,b4q,by simpa using b5q,by rw [Uu];exact Qgl hN HO.out⟩
  ·have q4:=b4q.cell;have q5:=b5q.cell;have f4:=b4q.frozen;have f5:=b5q.frozen;have hdq:=hd2.ext hq;clear e0 e1 e2 e3 hd2 hcbwq hfbwq;have e3:=hdq.cell 3;simp at e3;have hl4:=b4q.lt;have hl5:=b5q.lt;have hld:=hdq.lt
   gi_upto_region 6 with (fail)
   have hmix:=Qo;have HS : Hid (IntKind.i64.wrap (IntKind.i64.wrap (x.1.first + d.d) - 1) = x.1.first + d.d - 1):=by unfold Hid;rw [IntKind.wrap_i64,IntKind.wrap_i64];omega
   have hEs:=fun u v => ((hEq.setCell (p:=⟨s + 1 + 1,0,none⟩) (show wd.heap.size ≤ s + 1 + 1 by omega) u).setCell (p:=⟨s + 1 + 1 + 1,0,none⟩) (show wd.heap.size ≤ s + 1 + 1 + 1 by omega) v).drew
   have hBs:=fun u v => Qaj b4q b5q (by omega) u v
   have hFs:=fun u v => (((hFq.trans ((KeepsOthers.setCell _ ⟨s + 1 + 1,0,none⟩ u).from _)).trans ((KeepsOthers.setCell _ ⟨s + 1 + 1 + 1,0,none⟩ v).from _)).trans ((KeepsOthers.drew _).from _))
   gi_region_with_o (fail)
   all_goals
    gi_wp2
    refine ⟨hFs _ _,hEs _ _,(Qt,x),?_,?_,rfl,rfl,hN,HO.out⟩
    ·rw [← HS.out];exact (hBs _ _).1
    ·rw [List.length_append];exact (hBs _ _).2
 case done =>
  rintro D xs W hD hxs ⟨hE,b4,b5,hN⟩ hK;have hc4:=b4.cell;have hf4:=b4.frozen;have hc5:=b5.cell;have hf5:=b5.frozen;rw [hxs] at hN;have HN:=Lib.hid (Qgr hN);clear hN hxs;go_wp2;have hK2 : ((W.setCell ⟨s + 1 + 1,0,none⟩ (.int .i64 0)).setCell ⟨s + 1 + 1 + 1,0,none⟩ (.int .i64 0)).heap[D]? = some (.deferred (some [])):=((KeepsOthers.setCell W ⟨s + 1 + 1,0,none⟩ (.int .i64 0)).trans (KeepsOthers.setCell _ ⟨s + 1 + 1 + 1,0,none⟩ (.int .i64 0))).same D _ hK rfl;have hB2:=Qaj b4 b5 (by omega) (.int .i64 0) (.int .i64 0);have hE2 : Qb wd ((W.setCell ⟨s + 1 + 1,0,none⟩ (.int .i64 0)).setCell ⟨s + 1 + 1 + 1,0,none⟩ (.int .i64 0)):=((hE.setCell (p:=⟨s + 1 + 1,0,none⟩) (show wd.heap.size ≤ s + 1 + 1 by omega) (.int .i64 0)).setCell (p:=⟨s + 1 + 1 + 1,0,none⟩) (show wd.heap.size ≤ s + 1 + 1 + 1 by omega) (.int .i64 0))
  clear hc4 hf4 hc5 hf5;generalize World.setCell _ _ _ = W6 at *;have c4:=(M8 (o':=.deferred none) (show Boxed W6 _ _ _ from hB2.1) hK2 rfl).cell;have c5:=(M8 (o':=.deferred none) (show Boxed W6 _ _ _ from hB2.2) hK2 rfl).cell;refine Im hK2 (v:=.tuple #[.int .i64 0,.int .i64 0]) (by simp [results,Tryz.results95,go_sem,c4,c5]) ⟨by rw [HN.out],hEd.trans (hE2.putObj (by omega) _)⟩
 case stop =>
  rintro D c' Qt W hD hpre ⟨hE,⟨p,x⟩,b4,b5,rfl,rfl,hN,hO⟩ hK;rw [Uu] at hpre;have HN:=Lib.hid (Qgq hN hO hpre);clear hN hpre hO;go_wp2;have c4:=(M8 (o':=.deferred none) b4 hK rfl).cell;have c5:=(M8 (o':=.deferred none) b5 hK rfl).cell;refine Im hK (v:=.tuple #[.int .i64 (x.1.first + d.d - 1),.int .i64 ((p.length : Int) + 1)]) (by simp [results,Tryz.results95,go_sem,c4,c5]) ⟨by rw [HN.out,Rm],hEd.trans (hE.putObj (by omega) _)⟩
end
end Go.Proofs.YtoflcheopfppoaaGreatDoor
