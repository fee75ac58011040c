/- Walks of the program's functions and plain facts, packed; proved: the lemmas below; no conditions but those that each states. -/
import Derived.Test.YtoflcheopfppoaaGreatDoorL10
import Derived.Laws.StructEq
import Derived.Test.YtoflcheopfppoaaGreatDoorL7
import Derived.Test.YtoflcheopfppoaaGreatDoorL1
import Derived.SizedLaws
set_option maxRecDepth 100000
set_option maxHeartbeats 4000000
namespace Go.Proofs.YtoflcheopfppoaaGreatDoor
section
open Go Go.RowKit Go.Shelf
attribute [local go_sem] Z5
theorem Fl (A A' : Option Addr) (ca cb : Nat) (c : Qf) (d : Dt) (w : World) (hC : Q8 w A ca A' cb c) (hv : c.valid = true) :
  Calls Tryz.prog 105 #[.agg #[.slice A c.nk ca,.slice A' c.ny cb],.agg #[.int .i64 d.y,.int .i64 d.m,.bool d.s,.int .i64 d.d]] w fun e w' => e = .returned (.int .i64 (c.numV d)) ∧ Qb w w':=by
 have NH:=fun v (h : Q8 v A ca A' cb c) => Qd7 A A' ca cb c d v h hv
 unfold Qf.numV;cases hh : c.has d
 ·have hE : c.inE d ≠ 0 := by rcases Ri c d with ⟨h, _⟩ | ⟨_, _, h⟩ | ⟨_, h, _⟩ <;> first | (rw [hv] at h; cases h) | (rw [h]; decide) | (rw [hh] at h; cases h)
  simp only [hh] at NH;rw [if_neg hE];clear hE hh hv
  go_enter Tryz.func105,Tryz.ntmps105
  go_upto_region 1 with (fail)
  obtain ⟨v,hv⟩:=Qg ((w.alloc (.cells #[.slice A c.nk ca,.slice A' c.ny cb] 25)).alloc (.cells #[.int .i64 d.y,.int .i64 d.m,.bool d.s,.int .i64 d.d] 51));rw [← hv];have E : Qb w v:=by rw [hv];exact ((Qb.refl _).alloc _).alloc _
  have B1 : Qa v w.heap.size 25 #[.slice A c.nk ca,.slice A' c.ny cb]:=by rw [hv];exact (Qa.new _ _ _).alloc _
  have B2 : Qa v (w.heap.size + 1) 51 #[.int .i64 d.y,.int .i64 d.m,.bool d.s,.int .i64 d.d]:=by rw [hv];exact Qa.at _ _ _ _ (by simp)
  clear hv;obtain ⟨b2,hb2⟩:=Qg (w.heap.size + 1);rw [← hb2] at B2 ⊢;obtain ⟨b1,hb1⟩:=Qg (w.heap.size);rw [← hb1] at B1 ⊢;have hbr : w.heap.size ≤ b2:=by omega
  have hbr1 : w.heap.size ≤ b1:=by omega
  have hn21 : b2 ≠ b1:=by omega
  clear hb1 hb2;have C:=hC.ext E;clear hC;obtain ⟨k0,k1⟩:=B1.c2;have kl:=B1.lt;obtain ⟨p0,p1,p2,p3⟩:=B2.c4;have pl:=B2.lt;go_wp2_with (go_at_call 157;(with_reducible refine Calls.mono (NH _ C) ?_);rintro e w1 ⟨rfl,h1⟩;replace E:=E.trans h1;replace C:=C.ext h1;replace B1:=B1.ext h1;replace B2:=B2.ext h1;clear k0 k1 kl;obtain ⟨k0,k1⟩:=B1.c2;have kl:=B1.lt;clear p0 p1 p2 p3 pl;obtain ⟨p0,p1,p2,p3⟩:=B2.c4;have pl:=B2.lt;clear h1);go_ret;exact ⟨rfl,E⟩
 ·have hE : c.inE d = 0 := by rcases Ri c d with ⟨h, _⟩ | ⟨_, h, _⟩ | ⟨_, _, h⟩ <;> first | (rw [hv] at h; cases h) | exact h | (rw [hh] at h; cases h)
  have NK:=fun v (h : Q8 v A ca A' cb c) => Qcu A A' ca cb c d v h hv hh
  simp only [hh] at NH;rw [if_pos hE];generalize c.num d = V at *;clear hE hh hv
  go_enter Tryz.func105,Tryz.ntmps105
  go_upto_region 1 with (fail)
  obtain ⟨v,hv⟩:=Qg ((w.alloc (.cells #[.slice A c.nk ca,.slice A' c.ny cb] 25)).alloc (.cells #[.int .i64 d.y,.int .i64 d.m,.bool d.s,.int .i64 d.d] 51));rw [← hv];have E : Qb w v:=by rw [hv];exact ((Qb.refl _).alloc _).alloc _
  have B1 : Qa v w.heap.size 25 #[.slice A c.nk ca,.slice A' c.ny cb]:=by rw [hv];exact (Qa.new _ _ _).alloc _
  have B2 : Qa v (w.heap.size + 1) 51 #[.int .i64 d.y,.int .i64 d.m,.bool d.s,.int .i64 d.d]:=by rw [hv];exact Qa.at _ _ _ _ (by simp)
  clear hv;obtain ⟨b2,hb2⟩:=Qg (w.heap.size + 1);rw [← hb2] at B2 ⊢;obtain ⟨b1,hb1⟩:=Qg (w.heap.size);rw [← hb1] at B1 ⊢;have hbr : w.heap.size ≤ b2:=by omega
  have hbr1 : w.heap.size ≤ b1:=by omega
  have hn21 : b2 ≠ b1:=by omega
  clear hb1 hb2;have C:=hC.ext E;clear hC;obtain ⟨k0,k1⟩:=B1.c2;have kl:=B1.lt;obtain ⟨p0,p1,p2,p3⟩:=B2.c4;have pl:=B2.lt;go_wp2_with (first | (go_at_call 157;(with_reducible refine Calls.mono (NH _ C) ?_);rintro e w1 ⟨rfl,h1⟩;replace E:=E.trans h1;replace C:=C.ext h1;replace B1:=B1.ext h1;replace B2:=B2.ext h1;clear k0 k1 kl;obtain ⟨k0,k1⟩:=B1.c2;have kl:=B1.lt;clear p0 p1 p2 p3 pl;obtain ⟨p0,p1,p2,p3⟩:=B2.c4;have pl:=B2.lt;clear h1) | (go_at_call 158;(with_reducible refine Calls.mono (NK _ C) ?_);rintro e w2 ⟨rfl,h1⟩;replace E:=E.trans h1;replace C:=C.ext h1;replace B1:=B1.ext h1;replace B2:=B2.ext h1;clear k0 k1 kl;obtain ⟨k0,k1⟩:=B1.c2;have kl:=B1.lt;clear p0 p1 p2 p3 pl;obtain ⟨p0,p1,p2,p3⟩:=B2.c4;have pl:=B2.lt;clear h1))
  go_ret;exact ⟨rfl,E⟩
theorem Rj (A A' : Option Addr) (ca cb : Nat) (c : Qf) (a b : Dt) (w : World) (hC : Q8 w A ca A' cb c) (hv : c.valid = true) :
  Calls Tryz.prog 106 #[.agg #[.slice A c.nk ca,.slice A' c.ny cb],.agg #[.int .i64 a.y,.int .i64 a.m,.bool a.s,.int .i64 a.d],.agg #[.int .i64 b.y,.int .i64 b.m,.bool b.s,.int .i64 b.d]] w fun e w' => e = .returned (.bool (decide (0 < c.numV a) && decide (c.numV a ≤ c.numV b))) ∧ Qb w w':=by
 have NA:=fun v (h : Q8 v A ca A' cb c) => Fl A A' ca cb c a v h hv
 have NB:=fun v (h : Q8 v A ca A' cb c) => Fl A A' ca cb c b v h hv
 generalize c.numV a = x at *;generalize c.numV b = y at *;clear hv
 go_enter Tryz.func106,Tryz.ntmps106
 go_upto_region 1 with (fail)
 obtain ⟨v,hv⟩:=Qg (((w.alloc (.cells #[.slice A c.nk ca,.slice A' c.ny cb] 25)).alloc (.cells #[.int .i64 a.y,.int .i64 a.m,.bool a.s,.int .i64 a.d] 51)).alloc (.cells #[.int .i64 b.y,.int .i64 b.m,.bool b.s,.int .i64 b.d] 51));rw [← hv];have E : Qb w v:=by rw [hv];exact (((Qb.refl _).alloc _).alloc _).alloc _
 have B1 : Qa v w.heap.size 25 #[.slice A c.nk ca,.slice A' c.ny cb]:=by rw [hv];exact ((Qa.new _ _ _).alloc _).alloc _
 have B2 : Qa v (w.heap.size + 1) 51 #[.int .i64 a.y,.int .i64 a.m,.bool a.s,.int .i64 a.d]:=by rw [hv];exact (Qa.at _ _ _ _ (by simp)).alloc _
 have B3 : Qa v (w.heap.size + 1 + 1) 51 #[.int .i64 b.y,.int .i64 b.m,.bool b.s,.int .i64 b.d]:=by rw [hv];exact Qa.at _ _ _ _ (by simp)
 clear hv;obtain ⟨b3,hb3⟩:=Qg (w.heap.size + 1 + 1);rw [← hb3] at B3 ⊢;obtain ⟨b2,hb2⟩:=Qg (w.heap.size + 1);rw [← hb2] at B2 ⊢;obtain ⟨b1,hb1⟩:=Qg (w.heap.size);rw [← hb1] at B1 ⊢;have hbr : w.heap.size ≤ b3:=by omega
 have hbr1 : w.heap.size ≤ b1:=by omega
 have hbr2 : w.heap.size ≤ b2:=by omega
 have hn21 : b2 ≠ b1:=by omega
 have hn31 : b3 ≠ b1:=by omega
 have hn32 : b3 ≠ b2:=by omega
 clear hb1 hb2 hb3;have C:=hC.ext E;clear hC;obtain ⟨k0,k1⟩:=B1.c2;have kl:=B1.lt;obtain ⟨p0,p1,p2,p3⟩:=B2.c4;have pl:=B2.lt;obtain ⟨q0,q1,q2,q3⟩:=B3.c4;have ql:=B3.lt;refine Zd v Qo (by kernel_rfl) Qj ?_;intro hne hrx hry;try simp only []
 try simp only [List.append_eq,List.cons_append,List.nil_append]
 skip
 repeat (first
  | go_big_quiet_skip
  | (go_big_quiet_want;go_big_quiet_op;go_big_quiet_on)
  | (go_big_quiet_want;go_big_quiet_op;apply Exists.intro;refine ⟨fun u => ?_,?_⟩
     ·first
       | (go_at_call 105;(with_reducible refine Calls.mono (NA _ (C.ext u.e)) ?_);rintro e w' ⟨rfl,hb⟩;exact ⟨rfl,u.back hb⟩)
       | (go_at_call 105;(with_reducible refine Calls.mono (NB _ (C.ext u.e)) ?_);rintro e w' ⟨rfl,hb⟩;exact ⟨rfl,u.back hb⟩)
     go_big_quiet_on))
 clear hne hry hrx;refine wpQuiet_nil ?_;intro v1 h1;obtain ⟨hcv1,hfv1,hzv1⟩:=Qb.rules h1;try simp only [World.size_alloc] at hzv1
 obtain ⟨hcbv1,hfbv1,hzbv1⟩:=Qb.rules (show Qb v v1 from Qj);clear hcv1 hfv1;clear NA NB C k0 k1 kl p0 p1 p2 p3 pl q0 q1 q2 q3 ql;replace E:=E.trans h1;clear h1;by_cases c1 : 0 < x
 ·have g1 : decide (0 < x) = true:=decide_eq_true c1;by_cases c2 : 0 < y
  ·have g2 : decide (0 < y) = true:=decide_eq_true c2;clear c1 c2;cases g3 : decide (x ≤ y)
   ·go_wp2;go_ret;exact ⟨by rw [g1];first | rfl | (rw [g3];rfl),E⟩
   ·go_wp2;go_ret;exact ⟨by rw [g1];first | rfl | (rw [g3];rfl),E⟩
  ·have g2 : decide (0 < y) = false:=decide_eq_false c2;have g3 : decide (x ≤ y) = false:=decide_eq_false (by omega);clear c1 c2;go_wp2;go_ret;exact ⟨by rw [g3,Bool.and_false];rfl,E⟩
 ·have g1 : decide (0 < x) = false:=decide_eq_false c1;clear c1;go_wp2;go_ret;exact ⟨by rw [g1];rfl,E⟩
end
section
open Go Go.RowKit
theorem Qdl (w : World) (x0 y0 : ByteArray) (x1 y1 : Int) : (Op.equalIn 10000 85 (.agg #[.string x0,.int .i64 x1]) (.agg #[.string y0,.int .i64 y1])).run Tryz.prog w = .ok ((x0.toList == y0.toList) && (x1 == y1)) w:=by
 go_simp
 by_cases h0 : x0.toList = y0.toList;rotate_left
 ·simp [h0]
 by_cases h1 : x1 = y1;rotate_left
 ·simp [h1]
 simp [h0,h1]
theorem Ry (w : World) (x0 y0 : ByteArray) (x1 y1 : Int) : (binOp .neq 85 (.agg #[.string x0,.int .i64 x1]) (.agg #[.string y0,.int .i64 y1])).run Tryz.prog w = .ok (.bool (!((x0.toList == y0.toList) && (x1 == y1)))) w:=by rw [run_neq_struct,Qdl];rfl
theorem Qdo (w : World) (x0 y0 : Int) (x1 y1 : Int) : (Op.equalIn 10000 65 (.agg #[.int .i64 x0,.int .i64 x1]) (.agg #[.int .i64 y0,.int .i64 y1])).run Tryz.prog w = .ok ((x0 == y0) && (x1 == y1)) w:=by
 go_simp
 by_cases h0 : x0 = y0;rotate_left
 ·simp [h0]
 by_cases h1 : x1 = y1;rotate_left
 ·simp [h1]
 simp [h0,h1]
theorem Qgh (w : World) (x0 y0 : Int) (x1 y1 : Int) : (binOp .neq 65 (.agg #[.int .i64 x0,.int .i64 x1]) (.agg #[.int .i64 y0,.int .i64 y1])).run Tryz.prog w = .ok (.bool (!((x0 == y0) && (x1 == y1)))) w:=by rw [run_neq_struct,Qdo];rfl
theorem Qdj (w : World) (x0 y0 : Int) (x1 y1 : Int) (x2 y2 : Int) (x3 y3 : Int) (x4 y4 : Int) (x5 y5 : Int) : (Op.equalIn 10000 72 (.agg #[.int .i64 x0,.int .i64 x1,.int .i64 x2,.int .i64 x3,.int .i64 x4,.int .i64 x5]) (.agg #[.int .i64 y0,.int .i64 y1,.int .i64 y2,.int .i64 y3,.int .i64 y4,.int .i64 y5])).run Tryz.prog w = .ok ((x0 == y0) && ((x1 == y1) && ((x2 == y2) && ((x3 == y3) && ((x4 == y4) && (x5 == y5)))))) w:=by
 go_simp
 by_cases h0 : x0 = y0;rotate_left
 ·simp [h0]
 by_cases h1 : x1 = y1;rotate_left
 ·simp [h1]
 by_cases h2 : x2 = y2;rotate_left
 ·simp [h2]
 by_cases h3 : x3 = y3;rotate_left
 ·simp [h3]
 by_cases h4 : x4 = y4;rotate_left
 ·simp [h4]
 by_cases h5 : x5 = y5;rotate_left
 ·simp [h5]
 simp [h0,h1,h2,h3,h4,h5]
theorem Qge (w : World) (x0 y0 : Int) (x1 y1 : Int) (x2 y2 : Int) (x3 y3 : Int) (x4 y4 : Int) (x5 y5 : Int) : (binOp .neq 72 (.agg #[.int .i64 x0,.int .i64 x1,.int .i64 x2,.int .i64 x3,.int .i64 x4,.int .i64 x5]) (.agg #[.int .i64 y0,.int .i64 y1,.int .i64 y2,.int .i64 y3,.int .i64 y4,.int .i64 y5])).run Tryz.prog w = .ok (.bool (!((x0 == y0) && ((x1 == y1) && ((x2 == y2) && ((x3 == y3) && ((x4 == y4) && (x5 == y5)))))))) w:=by rw [run_neq_struct,Qdj];rfl
theorem Qdk (w : World) (x0 y0 : Int) (x1 y1 : Int) (x2 y2 : Int) : (Op.equalIn 10000 116 (.agg #[.int .i64 x0,.int .i64 x1,.int .i64 x2]) (.agg #[.int .i64 y0,.int .i64 y1,.int .i64 y2])).run Tryz.prog w = .ok ((x0 == y0) && ((x1 == y1) && (x2 == y2))) w:=by
 go_simp
 by_cases h0 : x0 = y0;rotate_left
 ·simp [h0]
 by_cases h1 : x1 = y1;rotate_left
 ·simp [h1]
 by_cases h2 : x2 = y2;rotate_left
 ·simp [h2]
 simp [h0,h1,h2]
theorem Qgf (w : World) (x0 y0 : Int) (x1 y1 : Int) (x2 y2 : Int) : (binOp .neq 116 (.agg #[.int .i64 x0,.int .i64 x1,.int .i64 x2]) (.agg #[.int .i64 y0,.int .i64 y1,.int .i64 y2])).run Tryz.prog w = .ok (.bool (!((x0 == y0) && ((x1 == y1) && (x2 == y2))))) w:=by rw [run_neq_struct,Qdk];rfl
end
section
open Go Go.RowKit Go.Shelf
attribute [local go_sem] Z5
attribute [local go_sem high] Ry
theorem Tn (v1 v2 : Value) (l : List Lt) (w : World) (h1 : Zz w v1 l) (h2 : Zz w v2 l) :
  Calls Tryz.prog 53 #[v1,v2] w fun e w' => e = .returned (.bool true) ∧ Qb w w':=by
 obtain ⟨A,ca,rfl,hA,hca,hca',_⟩:=h1;obtain ⟨B,cb,rfl,hB,hcb,hcb',_⟩:=h2;have hn : l.length ≤ 9223372036854775807:=Nat.le_trans hca (Nat.le_trans hca' (by decide));clear hca hca' hcb hcb';generalize l.length = n at *;generalize Za l = f at *
 go_enter Tryz.func53,Tryz.ntmps53
 go_upto_region 4 with (fail)
 go_loopw [5] (fun i wr => ∃ k : Nat,k ≤ n ∧ i = .int .i64 k ∧ Qb w wr) (fun i _ => n - (intOf i).toNat)
 case atStart => exact ⟨0,Nat.zero_le _,rfl,Qb.refl _⟩
 case round =>
  obtain ⟨k,hk,rfl,hE⟩:=hrel;obtain ⟨wo,rfl⟩:=Qg wr;by_cases hlt : k < n
  ·obtain ⟨b, off, rfl, hb, hc⟩ := (hA.ext hE) (by omega);have c0 : wo.cell? ⟨b, off + k * 2, none⟩ = some (.string (f k).g) := by simpa [Zc] using hc k 0 _ hlt rfl
   have c1 : wo.cell? ⟨b,off + k * 2 + 1,none⟩ = some (.int .i64 (f k).n):=by simpa [Zc] using hc k 1 _ hlt rfl
   clear hc;obtain ⟨b2,off2,rfl,hb2,hc⟩:=(hB.ext hE) (by omega);have d0 : wo.cell? ⟨b2,off2 + k * 2,none⟩ = some (.string (f k).g):=by simpa [Zc] using hc k 0 _ hlt rfl
   have d1 : wo.cell? ⟨b2,off2 + k * 2 + 1,none⟩ = some (.int .i64 (f k).n):=by simpa [Zc] using hc k 1 _ hlt rfl
   clear hc hA hB;generalize (f k).g = s at *;generalize (f k).n = z at *;go_upto_region 6 with (fail)
   refine Zd wo Qo (by kernel_rfl) Qj ?_;intro hne hrx hry;try simp only []
   try simp only [List.append_eq,List.cons_append,List.nil_append]
   skip
   repeat (first
    | go_big_quiet_skip
    | (go_big_quiet_want;go_big_quiet_op;go_big_quiet_on))
   clear hne hry hrx;refine wpQuiet_nil ?_;intro w2 h2;obtain ⟨hcw2,hfw2,hzw2⟩:=Qb.rules h2;try simp only [World.size_alloc] at hzw2
   obtain ⟨hcbw2,hfbw2,hzbw2⟩:=Qb.rules (show Qb wo w2 from Qj);clear hcw2 hfw2;go_wp2;exact ⟨⟨k + 1,by omega,by go_num,hE.trans h2⟩,by simp [intOf];omega⟩
  ·obtain rfl : k = n := by omega
   go_wp2;go_ret;exact ⟨rfl,hE⟩
theorem Fh (v : Value) (l : List Lt) (w : World) (hL : Zz w v l) (hsz : l.length * 24 ≤ 140737488351232) :
  Calls Tryz.prog 77 #[v] w fun e w' => ∃ v',e = .returned v' ∧ Qb w w' ∧ w'.ownsRow w.heap.size 85 2 v' l.length (l.flatMap J1):=by
 have hfl:=Fw l;obtain ⟨T,cap,rfl,hT,hcap,hmax,hnil⟩:=hL;obtain ⟨i0,hi,hz0,hz1,hz2⟩:=info_parts Qeq;have hlen:=Xx (f:=Zc (Za l)) (sz:=2) (fun _ => rfl) l.length;have hone : ∀ u ∈ Zw (Zc (Za l)) l.length,u.oneCell' = true:=Fx (f:=Zc (Za l)) (n:=l.length) (fun i u hu => by simp [Zc] at hu;rcases hu with rfl | rfl <;> simp [Value.oneCell'])
 go_enter Tryz.func77,Tryz.ntmps77
 go_upto_region 2 with (fail)
 go_wp2_with (at_builtin;refine So rfl _ _ 52 rfl w.heap.size 85 i0 (.agg #[.string ⟨#[]⟩,.int .i64 0]) 2 24 Tryz.underlying52 hi hz0 hz1 hz2 rfl (by decide) rfl T l.length cap (Zw (Zc (Za l)) l.length) rfl hnil hlen (Nl (f:=Zc (Za l)) (sz:=2) (fun _ => rfl) (by decide) hT) hone (by unfold maxLen;omega) (by omega) (Nat.le_refl _) ?_;intro p w3 hP hgrow);have hx : Qb w w3:=(Qb.refl _).grown hgrow (fun q hq => by cases hq);clear hgrow;rw [← hfl] at hP;go_ret;exact ⟨_,rfl,hx,hP⟩
theorem Fb (v : Value) (l : List Lt) (w : World) (hL : Zz w v l) :
  Calls Tryz.prog 170 #[v] w fun e w' => e = .returned (.int .i64 (Yd l)) ∧ Qb w w':=by
 obtain ⟨T,cap,rfl,hT,hcap,hmax,_⟩:=hL;exact Qcd T l.length cap (Za l) w hT hcap (Nat.le_trans hcap (Nat.le_trans hmax (by decide)))
end
section
open Go Go.RowKit Go.Shelf
attribute [local go_sem] Z5
theorem Qee {W : World} {b : Nat} {t : TypeId} {v0 v1 v2 v3 : Value} (h : Qa W b t #[v0,v1,v2,v3]) (u0 u1 u2 u3 : Value) : Qa ((((W.setCell ⟨b,0,none⟩ u0).setCell ⟨b,1,none⟩ u1).setCell ⟨b,2,none⟩ u2).setCell ⟨b,3,none⟩ u3) b t #[u0,u1,u2,u3]:=by unfold Qa at h ⊢;simp [World.setCell,Array.getElem?_modify,h]
theorem ext4Q {w W : World} {b : Nat} (h : Qb w W) (hb : w.heap.size ≤ b) (u0 u1 u2 u3 : Value) : Qb w ((((W.setCell ⟨b,0,none⟩ u0).setCell ⟨b,1,none⟩ u1).setCell ⟨b,2,none⟩ u2).setCell ⟨b,3,none⟩ u3) :=
 (((h.setCell (p:=⟨b,0,none⟩) hb u0).setCell (p:=⟨b,1,none⟩) hb u1).setCell (p:=⟨b,2,none⟩) hb u2).setCell (p:=⟨b,3,none⟩) hb u3
def Qf.lastT (p : Pd) : Nat → Dt
 | 0 => p.a
 | k + 1 => (p.dl k).on
theorem Q4 {W : World} {b : Nat} {t : TypeId} {v0 v1 v2 v3 v4 v5 v6 : Value} (h : Qa W b t #[v0,v1,v2,v3,v4,v5,v6]) : W.cell? ⟨b,0,none⟩ = some v0 ∧ W.cell? ⟨b,1,none⟩ = some v1 ∧ W.cell? ⟨b,2,none⟩ = some v2 ∧ W.cell? ⟨b,3,none⟩ = some v3 ∧ W.cell? ⟨b,4,none⟩ = some v4 ∧ W.cell? ⟨b,5,none⟩ = some v5 ∧ W.cell? ⟨b,6,none⟩ = some v6:=⟨h.cell 0,h.cell 1,h.cell 2,h.cell 3,h.cell 4,h.cell 5,h.cell 6⟩
theorem Qbg {l : List Lt} {j : Nat} (hj : j < l.length) (h : (Za l j).n < 0) : (l.any fun x => decide (x.n < 0)) = true:=by
 rw [List.any_eq_true];exact ⟨Za l j,by rw [Kd hj];exact List.getElem_mem hj,decide_eq_true h⟩
theorem Qgm {l : List Lt} (h : ∀ i,i < l.length → 0 ≤ (Za l i).n) : (l.any fun x => decide (x.n < 0)) = false:=by
 rw [List.any_eq_false];intro x hx;obtain ⟨i,hi,rfl⟩:=List.getElem_of_mem hx;have:=h i hi;rw [Kd hi] at this
 simpa using this
theorem Qe6 (c : Qf) (p : Pd) (k : Nat) : c.numV (Qf.lastT p k) = c.lastD p k:=by cases k <;> rfl
theorem Qg8 (A A' : Option Addr) (ca cb : Nat) (c : Qf) (p : Pd) (vo vd vc : Value) (w : World) (hC : Q8 w A ca A' cb c) (hv : c.valid = true) (hP : Xm w p vo vd vc) :
  Calls Tryz.prog 130 #[.agg #[.slice A c.nk ca,.slice A' c.ny cb],.agg #[.string p.h,.int .i64 p.a.y,.int .i64 p.a.m,.bool p.a.s,.int .i64 p.a.d,.int .i64 p.b.y,.int .i64 p.b.m,.bool p.b.s,.int .i64 p.b.d,vo,vd,vc]] w fun e w' => e = .returned (.bool (c.perOk p)) ∧ Qb w w':=by
 obtain ⟨hO,hDD,hCC⟩:=hP;obtain ⟨T0,cc0,rfl,_⟩:=id hO;obtain ⟨T1,cc1,rfl,_⟩:=id hCC;obtain ⟨D,cap,vs,rfl,hD,hcap,hmax,_,hat⟩:=hDD;have hn : p.d.length ≤ 9223372036854775807:=Nat.le_trans hcap (Nat.le_trans hmax (by decide));obtain ⟨n,hnl⟩:=Qg (p.d.length);rw [← hnl] at hn hD hat hcap;replace hnl:=Lib.hid hnl;have NN:=fun w => Vg p.h w
 have NI:=fun v (h : Q8 v A ca A' cb c) => Rj A A' ca cb c p.a p.b v h hv
 have NO:=fun w h => Fb (.slice T0 p.o.length cc0) p.o w h
 have NK:=fun w h => Fb (.slice T1 p.c.length cc1) p.c w h
 obtain ⟨R,hR0⟩:=Qg (c.perOk p);rw [← hR0];replace hR0:=Lib.hid hR0;have hhd : Hid (c.perHead p = (Zx p.h && (decide (0 < c.numV p.a) && decide (c.numV p.a ≤ c.numV p.b)) && decide (Yd p.o = 0) && decide (Yd p.c = 0) && decide (n ≤ 64))):=by unfold Hid;rw [hnl.out];rfl
 have hbad : Hid (c.perHead p = false → R = false):=fun h => by rw [hR0.out];exact Ev h
 rw [← hnl.out]
 go_enter Tryz.func130,Tryz.ntmps130
 go_upto_region 1 with (fail)
 obtain ⟨v,hv⟩:=Qg ((w.alloc (.cells #[.slice A c.nk ca,.slice A' c.ny cb] 25)).alloc (.cells #[.string p.h,.int .i64 p.a.y,.int .i64 p.a.m,.bool p.a.s,.int .i64 p.a.d,.int .i64 p.b.y,.int .i64 p.b.m,.bool p.b.s,.int .i64 p.b.d,.slice T0 p.o.length cc0,.slice D n cap,.slice T1 p.c.length cc1] 55));rw [← hv];have E : Qb w v:=by rw [hv];exact ((Qb.refl _).alloc _).alloc _
 have B1 : Qa v w.heap.size 25 #[.slice A c.nk ca,.slice A' c.ny cb]:=by rw [hv];exact (Qa.new _ _ _).alloc _
 have B2 : Qa v (w.heap.size + 1) 55 #[.string p.h,.int .i64 p.a.y,.int .i64 p.a.m,.bool p.a.s,.int .i64 p.a.d,.int .i64 p.b.y,.int .i64 p.b.m,.bool p.b.s,.int .i64 p.b.d,.slice T0 p.o.length cc0,.slice D n cap,.slice T1 p.c.length cc1]:=by rw [hv];exact Qa.at _ _ _ _ (by simp)
 clear hv;obtain ⟨b2,hb2⟩:=Qg (w.heap.size + 1);rw [← hb2] at B2 ⊢;obtain ⟨b1,hb1⟩:=Qg (w.heap.size);rw [← hb1] at B1 ⊢;have hbr : w.heap.size ≤ b2:=by omega
 have hbr1 : w.heap.size ≤ b1:=by omega
 have hn21 : b2 ≠ b1:=by omega
 clear hb1 hb2;have C:=hC.ext E;have O:=hO.ext E;have K:=hCC.ext E;have DD:=hD.ext E;clear hC hO hCC;obtain ⟨j0,j1⟩:=B1.c2;have jl:=B1.lt;obtain ⟨k0,k1,k2,k3,k4,k5,k6,k7,k8,k9,k10,k11⟩:=B2.c12;have kl:=B2.lt;cases hnm : Zx p.h
 ·simp only [hnm] at NN;have hr:=hbad.out (by rw [hhd.out];simp [hnm]);subst hr;clear hbad hhd hR0;go_wp2_with (first | (go_at_call 167;(with_reducible refine Calls.mono (NN _) ?_);rintro e _ ⟨rfl,rfl⟩));go_ret;exact ⟨rfl,E⟩
 simp only [hnm] at NN;cases hsp : (decide (0 < c.numV p.a) && decide (c.numV p.a ≤ c.numV p.b))
 ·simp only [hsp] at NI;have hr:=hbad.out (by rw [hhd.out];rw [hsp];simp);subst hr;clear hbad hhd hR0;go_wp2_with (first | (go_at_call 167;(with_reducible refine Calls.mono (NN _) ?_);rintro e _ ⟨rfl,rfl⟩) | (go_at_call 106;(with_reducible refine Calls.mono (NI _ C) ?_);rintro e w2 ⟨rfl,hx⟩;replace E:=E.trans hx;replace C:=C.ext hx;replace O:=O.ext hx;replace K:=K.ext hx;replace DD:=DD.ext hx;replace B1:=B1.ext hx;replace B2:=B2.ext hx;clear hx;clear j0 j1 jl k0 k1 k2 k3 k4 k5 k6 k7 k8 k9 k10 k11 kl;obtain ⟨j0,j1⟩:=B1.c2;have jl:=B1.lt;obtain ⟨k0,k1,k2,k3,k4,k5,k6,k7,k8,k9,k10,k11⟩:=B2.c12;have kl:=B2.lt));go_ret;exact ⟨rfl,E⟩
 simp only [hsp] at NI;by_cases hlo : Yd p.o = 0;rotate_left
 ·have go : (Yd p.o == 0) = false := beq_eq_false_iff_ne.2 hlo;have gon : (Yd p.o != 0) = true := by rw [bne, go]; rfl
  have hr:=hbad.out (by rw [hhd.out];simp [hlo]);subst hr;clear hbad hhd hR0;go_wp2_with (first | (go_at_call 167;(with_reducible refine Calls.mono (NN _) ?_);rintro e _ ⟨rfl,rfl⟩) | (go_at_call 106;(with_reducible refine Calls.mono (NI _ C) ?_);rintro e w2 ⟨rfl,hx⟩;replace E:=E.trans hx;replace C:=C.ext hx;replace O:=O.ext hx;replace K:=K.ext hx;replace DD:=DD.ext hx;replace B1:=B1.ext hx;replace B2:=B2.ext hx;clear hx;clear j0 j1 jl k0 k1 k2 k3 k4 k5 k6 k7 k8 k9 k10 k11 kl;obtain ⟨j0,j1⟩:=B1.c2;have jl:=B1.lt;obtain ⟨k0,k1,k2,k3,k4,k5,k6,k7,k8,k9,k10,k11⟩:=B2.c12;have kl:=B2.lt) | (go_at_call 170;(with_reducible refine Calls.mono (NO _ O) ?_);rintro e w3 ⟨rfl,hx⟩;replace E:=E.trans hx;replace C:=C.ext hx;replace O:=O.ext hx;replace K:=K.ext hx;replace DD:=DD.ext hx;replace B1:=B1.ext hx;replace B2:=B2.ext hx;clear hx;clear j0 j1 jl k0 k1 k2 k3 k4 k5 k6 k7 k8 k9 k10 k11 kl;obtain ⟨j0,j1⟩:=B1.c2;have jl:=B1.lt;obtain ⟨k0,k1,k2,k3,k4,k5,k6,k7,k8,k9,k10,k11⟩:=B2.c12;have kl:=B2.lt))
  go_ret;exact ⟨rfl,E⟩
 rw [hlo] at NO;by_cases hlc : Yd p.c = 0;rotate_left
 ·have gc : (Yd p.c == 0) = false := beq_eq_false_iff_ne.2 hlc;have gcn : (Yd p.c != 0) = true := by rw [bne, gc]; rfl
  have hr:=hbad.out (by rw [hhd.out];simp [hlc]);subst hr;clear hbad hhd hR0;go_wp2_with (first | (go_at_call 167;(with_reducible refine Calls.mono (NN _) ?_);rintro e _ ⟨rfl,rfl⟩) | (go_at_call 106;(with_reducible refine Calls.mono (NI _ C) ?_);rintro e w2 ⟨rfl,hx⟩;replace E:=E.trans hx;replace C:=C.ext hx;replace O:=O.ext hx;replace K:=K.ext hx;replace DD:=DD.ext hx;replace B1:=B1.ext hx;replace B2:=B2.ext hx;clear hx;clear j0 j1 jl k0 k1 k2 k3 k4 k5 k6 k7 k8 k9 k10 k11 kl;obtain ⟨j0,j1⟩:=B1.c2;have jl:=B1.lt;obtain ⟨k0,k1,k2,k3,k4,k5,k6,k7,k8,k9,k10,k11⟩:=B2.c12;have kl:=B2.lt) | (go_at_call 170;(with_reducible refine Calls.mono (NO _ O) ?_);rintro e w3 ⟨rfl,hx⟩;replace E:=E.trans hx;replace C:=C.ext hx;replace O:=O.ext hx;replace K:=K.ext hx;replace DD:=DD.ext hx;replace B1:=B1.ext hx;replace B2:=B2.ext hx;clear hx;clear j0 j1 jl k0 k1 k2 k3 k4 k5 k6 k7 k8 k9 k10 k11 kl;obtain ⟨j0,j1⟩:=B1.c2;have jl:=B1.lt;obtain ⟨k0,k1,k2,k3,k4,k5,k6,k7,k8,k9,k10,k11⟩:=B2.c12;have kl:=B2.lt) | (go_at_call 170;(with_reducible refine Calls.mono (NK _ K) ?_);rintro e w4 ⟨rfl,hx⟩;replace E:=E.trans hx;replace C:=C.ext hx;replace O:=O.ext hx;replace K:=K.ext hx;replace DD:=DD.ext hx;replace B1:=B1.ext hx;replace B2:=B2.ext hx;clear hx;clear j0 j1 jl k0 k1 k2 k3 k4 k5 k6 k7 k8 k9 k10 k11 kl;obtain ⟨j0,j1⟩:=B1.c2;have jl:=B1.lt;obtain ⟨k0,k1,k2,k3,k4,k5,k6,k7,k8,k9,k10,k11⟩:=B2.c12;have kl:=B2.lt))
  go_ret;exact ⟨rfl,E⟩
 rw [hlc] at NK;by_cases h64 : 64 < n
 ·have g1 : decide (64 < n) = true := decide_eq_true h64;have h64' : ¬ n ≤ 64 := by omega
  have hr:=hbad.out (by rw [hhd.out];simp [h64']);subst hr;clear hbad hhd hR0;go_wp2_with (first | (go_at_call 167;(with_reducible refine Calls.mono (NN _) ?_);rintro e _ ⟨rfl,rfl⟩) | (go_at_call 106;(with_reducible refine Calls.mono (NI _ C) ?_);rintro e w2 ⟨rfl,hx⟩;replace E:=E.trans hx;replace C:=C.ext hx;replace O:=O.ext hx;replace K:=K.ext hx;replace DD:=DD.ext hx;replace B1:=B1.ext hx;replace B2:=B2.ext hx;clear hx;clear j0 j1 jl k0 k1 k2 k3 k4 k5 k6 k7 k8 k9 k10 k11 kl;obtain ⟨j0,j1⟩:=B1.c2;have jl:=B1.lt;obtain ⟨k0,k1,k2,k3,k4,k5,k6,k7,k8,k9,k10,k11⟩:=B2.c12;have kl:=B2.lt) | (go_at_call 170;(with_reducible refine Calls.mono (NO _ O) ?_);rintro e w3 ⟨rfl,hx⟩;replace E:=E.trans hx;replace C:=C.ext hx;replace O:=O.ext hx;replace K:=K.ext hx;replace DD:=DD.ext hx;replace B1:=B1.ext hx;replace B2:=B2.ext hx;clear hx;clear j0 j1 jl k0 k1 k2 k3 k4 k5 k6 k7 k8 k9 k10 k11 kl;obtain ⟨j0,j1⟩:=B1.c2;have jl:=B1.lt;obtain ⟨k0,k1,k2,k3,k4,k5,k6,k7,k8,k9,k10,k11⟩:=B2.c12;have kl:=B2.lt) | (go_at_call 170;(with_reducible refine Calls.mono (NK _ K) ?_);rintro e w4 ⟨rfl,hx⟩;replace E:=E.trans hx;replace C:=C.ext hx;replace O:=O.ext hx;replace K:=K.ext hx;replace DD:=DD.ext hx;replace B1:=B1.ext hx;replace B2:=B2.ext hx;clear hx;clear j0 j1 jl k0 k1 k2 k3 k4 k5 k6 k7 k8 k9 k10 k11 kl;obtain ⟨j0,j1⟩:=B1.c2;have jl:=B1.lt;obtain ⟨k0,k1,k2,k3,k4,k5,k6,k7,k8,k9,k10,k11⟩:=B2.c12;have kl:=B2.lt))
  go_ret;exact ⟨rfl,E⟩
 have g1 : decide (64 < n) = false:=decide_eq_false h64
 have hhead : c.perHead p = true:=by
  rw [hhd.out,hnm,hsp,decide_eq_true hlo,decide_eq_true hlc,decide_eq_true (show n ≤ 64 by omega)];rfl
 have hpa : 0 < c.numV (Qf.lastT p 0):=by
  have:=(Bool.and_eq_true_iff.1 hsp).1;exact of_decide_eq_true this
 clear hbad hhd hnm hsp hlo hlc;go_upto_region 4 with (first | (go_at_call 167;(with_reducible refine Calls.mono (NN _) ?_);rintro e _ ⟨rfl,rfl⟩) | (go_at_call 106;(with_reducible refine Calls.mono (NI _ C) ?_);rintro e w2 ⟨rfl,hx⟩;replace E:=E.trans hx;replace C:=C.ext hx;replace O:=O.ext hx;replace K:=K.ext hx;replace DD:=DD.ext hx;replace B1:=B1.ext hx;replace B2:=B2.ext hx;clear hx;clear j0 j1 jl k0 k1 k2 k3 k4 k5 k6 k7 k8 k9 k10 k11 kl;obtain ⟨j0,j1⟩:=B1.c2;have jl:=B1.lt;obtain ⟨k0,k1,k2,k3,k4,k5,k6,k7,k8,k9,k10,k11⟩:=B2.c12;have kl:=B2.lt) | (go_at_call 170;(with_reducible refine Calls.mono (NO _ O) ?_);rintro e w3 ⟨rfl,hx⟩;replace E:=E.trans hx;replace C:=C.ext hx;replace O:=O.ext hx;replace K:=K.ext hx;replace DD:=DD.ext hx;replace B1:=B1.ext hx;replace B2:=B2.ext hx;clear hx;clear j0 j1 jl k0 k1 k2 k3 k4 k5 k6 k7 k8 k9 k10 k11 kl;obtain ⟨j0,j1⟩:=B1.c2;have jl:=B1.lt;obtain ⟨k0,k1,k2,k3,k4,k5,k6,k7,k8,k9,k10,k11⟩:=B2.c12;have kl:=B2.lt) | (go_at_call 170;(with_reducible refine Calls.mono (NK _ K) ?_);rintro e w4 ⟨rfl,hx⟩;replace E:=E.trans hx;replace C:=C.ext hx;replace O:=O.ext hx;replace K:=K.ext hx;replace DD:=DD.ext hx;replace B1:=B1.ext hx;replace B2:=B2.ext hx;clear hx;clear j0 j1 jl k0 k1 k2 k3 k4 k5 k6 k7 k8 k9 k10 k11 kl;obtain ⟨j0,j1⟩:=B1.c2;have jl:=B1.lt;obtain ⟨k0,k1,k2,k3,k4,k5,k6,k7,k8,k9,k10,k11⟩:=B2.c12;have kl:=B2.lt))
 have hE5:=E.size;obtain ⟨v5,hv⟩:=Qg (w4.alloc (.cells #[.int .i64 p.a.y,.int .i64 p.a.m,.bool p.a.s,.int .i64 p.a.d] 51));rw [← hv];have hx : Qb w4 v5:=by rw [hv];exact (Qb.refl _).alloc _
 have BL : Qa v5 w4.heap.size 51 #[.int .i64 p.a.y,.int .i64 p.a.m,.bool p.a.s,.int .i64 p.a.d]:=by rw [hv];exact Qa.new _ _ _
 clear hv;obtain ⟨bl,hbl⟩:=Qg (w4.heap.size);rw [← hbl] at BL ⊢;replace hE5 : w4.heap.size ≤ bl:=by omega
 clear hbl;clear j0 j1 jl k0 k1 k2 k3 k4 k5 k6 k7 k8 k9 k10 k11 kl;clear NN NI NO NK;obtain ⟨g,hg⟩:=Qg (fun i => p.d.getD i Zi);have hg' : ∀ i,p.d.getD i Zi = g i:=fun i => by rw [hg]
 have hdk : Hid (∀ k,c.dealOk p k = !(decide (c.numV (g k).on < c.lastD p k) || decide (c.numV p.b < c.numV (g k).on) || !Zx (g k).w || decide ((g k).w = p.h) || !Xi (g k).l)):=fun k => by rw [← hg' k];rfl
 have hgo : Hid (∀ k,(g k).on = Qf.lastT p (k + 1)):=fun k => by rw [← hg' k];rfl
 simp only [hg'] at hD hat DD;clear hg hg';replace hat:=Lib.hid hat;have C0:=C;have A2':=B2;have A1':=B1;clear C O K B1 B2;go_upto_region 5 with (fail)
 go_loopw [6] (fun iv wr => ∃ k : Nat,k ≤ n ∧ iv = .int .i64 k ∧ Hid (∀ j,j < k → c.dealOk p j = true) ∧ 0 < c.numV (Qf.lastT p k) ∧ Qb w4 wr ∧ Qa wr bl 51 #[.int .i64 (Qf.lastT p k).y,.int .i64 (Qf.lastT p k).m,.bool (Qf.lastT p k).s,.int .i64 (Qf.lastT p k).d]) (fun iv _ => n - (intOf iv).toNat)
 case atStart => exact ⟨0,Nat.zero_le _,rfl,(fun j h => absurd h (by omega)),hpa,hx,BL⟩
 case round =>
  clear hpa hx BL;obtain ⟨k,hk,rfl,hok,hpos,hE,BL⟩:=hrel;obtain ⟨wo,rfl⟩:=Qg wr;have C:=C0.ext hE;have B1:=A1'.ext hE;have B2:=A2'.ext hE;obtain ⟨j0,j1⟩:=B1.c2;have jl:=B1.lt;obtain ⟨k0,k1,k2,k3,k4,k5,k6,k7,k8,k9,k10,k11⟩:=B2.c12;have kl:=B2.lt;obtain ⟨m0,m1,m2,m3⟩:=BL.c4;have ml:=BL.lt;by_cases hlt : k < n;rotate_left
  ·obtain rfl : k = n := by omega
   have hr : R = true:=by rw [hR0.out];exact Qg9 hhead (fun j hj => hok.out j (by rw [hnl.out];exact hj))
   subst hr;clear hok hdk hat hgo;go_wp2;go_ret;exact ⟨rfl,E.trans hE⟩
  obtain ⟨b,off,rfl,hb,hc⟩:=(DD.ext hE) (by omega);have hL:=(hat.out k hlt).ext (E.trans hE);have c0 : wo.cell? ⟨b,off + k * 7,none⟩ = some (.int .i64 (g k).on.y):=by simpa [Qz] using hc k 0 _ hlt rfl
  have c1 : wo.cell? ⟨b,off + k * 7 + 1,none⟩ = some (.int .i64 (g k).on.m):=by simpa [Qz] using hc k 1 _ hlt rfl
  have c2 : wo.cell? ⟨b,off + k * 7 + 2,none⟩ = some (.bool (g k).on.s):=by simpa [Qz] using hc k 2 _ hlt rfl
  have c3 : wo.cell? ⟨b,off + k * 7 + 3,none⟩ = some (.int .i64 (g k).on.d):=by simpa [Qz] using hc k 3 _ hlt rfl
  have c4 : wo.cell? ⟨b,off + k * 7 + 4,none⟩ = some (.bool (g k).i):=by simpa [Qz] using hc k 4 _ hlt rfl
  have c5 : wo.cell? ⟨b,off + k * 7 + 5,none⟩ = some (.string (g k).w):=by simpa [Qz] using hc k 5 _ hlt rfl
  have c6 : wo.cell? ⟨b,off + k * 7 + 6,none⟩ = some (vs k):=by simpa [Qz] using hc k 6 _ hlt rfl
  have hno : Hid (c.dealOk p k = false → R = false):=fun h => by rw [hR0.out];exact Qha (by rw [← hnl.out];exact hlt) h
  have hyes : Hid (c.dealOk p k = true → ∀ j,j < k + 1 → c.dealOk p j = true):=fun h j hj => by
   by_cases e : j = k
   ·subst e;exact h
   ·exact hok.out j (by omega)
  have hdk2:=Lib.hid (hdk.out k);have hgo2:=Lib.hid (hgo.out k);have hln:=Lib.hid (Qe6 c p k);obtain ⟨VL,hvl⟩:=Qg (vs k);rw [← hvl] at c6 hL;clear hvl hc hdk hgo hat hD DD hok;obtain ⟨TL,cl,hVL,_⟩:=id hL;subst hVL;have NI1:=fun v (h : Q8 v A ca A' cb c) => Rj A A' ca cb c (Qf.lastT p k) (g k).on v h hv
  have NI2:=fun v (h : Q8 v A ca A' cb c) => Rj A A' ca cb c (g k).on p.b v h hv
  have NNK:=fun w => Vg (g k).w w
  have NCK:=fun w h => Fb (.slice TL (g k).l.length cl) (g k).l w h
  rw [decide_eq_true hpos,Bool.true_and] at NI1;have hbs : wo.heap.size ≠ bl:=by have:=BL.lt;omega
  go_upto_region 8 with (fail)
  obtain ⟨vd1,hv⟩:=Qg (wo.alloc (.cells #[.int .i64 (g k).on.y,.int .i64 (g k).on.m,.bool (g k).on.s,.int .i64 (g k).on.d,.bool (g k).i,.string (g k).w,.slice TL (g k).l.length cl] 57));rw [← hv];have hx : Qb wo vd1:=by rw [hv];exact (Qb.refl _).alloc _
  have BD : Qa vd1 wo.heap.size 57 #[.int .i64 (g k).on.y,.int .i64 (g k).on.m,.bool (g k).on.s,.int .i64 (g k).on.d,.bool (g k).i,.string (g k).w,.slice TL (g k).l.length cl]:=by rw [hv];exact Qa.new _ _ _
  clear hv;generalize wo.heap.size = bb1 at *;clear j0 j1 jl k0 k1 k2 k3 k4 k5 k6 k7 k8 k9 k10 k11 kl m0 m1 m2 m3 ml;replace hE:=hE.trans hx;replace C:=C.ext hx;replace hL:=hL.ext hx;replace B1:=B1.ext hx;replace B2:=B2.ext hx;replace BL:=BL.ext hx;clear hx;obtain ⟨j0,j1⟩:=B1.c2;have jl:=B1.lt;obtain ⟨k0,k1,k2,k3,k4,k5,k6,k7,k8,k9,k10,k11⟩:=B2.c12;have kl:=B2.lt;obtain ⟨m0,m1,m2,m3⟩:=BL.c4;have ml:=BL.lt;obtain ⟨q0,q1,q2,q3,q4,q5,q6⟩:=Yk BD;have ql:=BD.lt;clear c0 c1 c2 c3 c4 c5 c6 hb;generalize hla : Qf.lastT p k = la at *;clear hla;by_cases h1 : c.numV la ≤ c.numV (g k).on;rotate_left
  ·rw [decide_eq_false h1] at NI1;have hr := hno.out (by rw [hdk2.out]; rw [← hln.out, decide_eq_true (show c.numV (g k).on < c.numV la by omega)]; rfl);subst hr;clear hno hyes hdk2;go_wp2_with (first | (go_at_call 106; (with_reducible refine Calls.mono (NI1 _ C) ?_); rintro e x1 ⟨rfl, hx⟩; replace hE := hE.trans hx; replace C := C.ext hx; replace hL := hL.ext hx; replace B1 := B1.ext hx; replace B2 := B2.ext hx; replace BL := BL.ext hx; replace BD := BD.ext hx; clear hx; clear j0 j1 jl k0 k1 k2 k3 k4 k5 k6 k7 k8 k9 k10 k11 kl m0 m1 m2 m3 ml q0 q1 q2 q3 q4 q5 q6 ql; obtain ⟨j0, j1⟩ := B1.c2; have jl := B1.lt; obtain ⟨k0, k1, k2, k3, k4, k5, k6, k7, k8, k9, k10, k11⟩ := B2.c12; have kl := B2.lt; obtain ⟨m0, m1, m2, m3⟩ := BL.c4; have ml := BL.lt; obtain ⟨q0, q1, q2, q3, q4, q5, q6⟩ := Yk BD; have ql := BD.lt))
   go_ret;exact ⟨rfl,E.trans hE⟩
  rw [decide_eq_true h1] at NI1;have hpk : 0 < c.numV (g k).on:=by omega
  rw [decide_eq_true hpk,Bool.true_and] at NI2;by_cases h2 : c.numV (g k).on ≤ c.numV p.b;rotate_left
  ·rw [decide_eq_false h2] at NI2;have hr := hno.out (by rw [hdk2.out]; rw [decide_eq_true (show c.numV p.b < c.numV (g k).on by omega)]; simp);subst hr;clear hno hyes hdk2;go_wp2_with (first | (go_at_call 106; (with_reducible refine Calls.mono (NI1 _ C) ?_); rintro e x1 ⟨rfl, hx⟩; replace hE := hE.trans hx; replace C := C.ext hx; replace hL := hL.ext hx; replace B1 := B1.ext hx; replace B2 := B2.ext hx; replace BL := BL.ext hx; replace BD := BD.ext hx; clear hx; clear j0 j1 jl k0 k1 k2 k3 k4 k5 k6 k7 k8 k9 k10 k11 kl m0 m1 m2 m3 ml q0 q1 q2 q3 q4 q5 q6 ql; obtain ⟨j0, j1⟩ := B1.c2; have jl := B1.lt; obtain ⟨k0, k1, k2, k3, k4, k5, k6, k7, k8, k9, k10, k11⟩ := B2.c12; have kl := B2.lt; obtain ⟨m0, m1, m2, m3⟩ := BL.c4; have ml := BL.lt; obtain ⟨q0, q1, q2, q3, q4, q5, q6⟩ := Yk BD; have ql := BD.lt) | (go_at_call 106; (with_reducible refine Calls.mono (NI2 _ C) ?_); rintro e x2 ⟨rfl, hx⟩; replace hE := hE.trans hx; replace C := C.ext hx; replace hL := hL.ext hx; replace B1 := B1.ext hx; replace B2 := B2.ext hx; replace BL := BL.ext hx; replace BD := BD.ext hx; clear hx; clear j0 j1 jl k0 k1 k2 k3 k4 k5 k6 k7 k8 k9 k10 k11 kl m0 m1 m2 m3 ml q0 q1 q2 q3 q4 q5 q6 ql; obtain ⟨j0, j1⟩ := B1.c2; have jl := B1.lt; obtain ⟨k0, k1, k2, k3, k4, k5, k6, k7, k8, k9, k10, k11⟩ := B2.c12; have kl := B2.lt; obtain ⟨m0, m1, m2, m3⟩ := BL.c4; have ml := BL.lt; obtain ⟨q0, q1, q2, q3, q4, q5, q6⟩ := Yk BD; have ql := BD.lt))
   go_ret;exact ⟨rfl,E.trans hE⟩
  rw [decide_eq_true h2] at NI2;cases h3 : Zx (g k).w
  ·simp only [h3] at NNK;have hr:=hno.out (by rw [hdk2.out];rw [h3];simp);subst hr;clear hno hyes hdk2;go_wp2_with (first | (go_at_call 106;(with_reducible refine Calls.mono (NI1 _ C) ?_);rintro e x1 ⟨rfl,hx⟩;replace hE:=hE.trans hx;replace C:=C.ext hx;replace hL:=hL.ext hx;replace B1:=B1.ext hx;replace B2:=B2.ext hx;replace BL:=BL.ext hx;replace BD:=BD.ext hx;clear hx;clear j0 j1 jl k0 k1 k2 k3 k4 k5 k6 k7 k8 k9 k10 k11 kl m0 m1 m2 m3 ml q0 q1 q2 q3 q4 q5 q6 ql;obtain ⟨j0,j1⟩:=B1.c2;have jl:=B1.lt;obtain ⟨k0,k1,k2,k3,k4,k5,k6,k7,k8,k9,k10,k11⟩:=B2.c12;have kl:=B2.lt;obtain ⟨m0,m1,m2,m3⟩:=BL.c4;have ml:=BL.lt;obtain ⟨q0,q1,q2,q3,q4,q5,q6⟩:=Yk BD;have ql:=BD.lt) | (go_at_call 106;(with_reducible refine Calls.mono (NI2 _ C) ?_);rintro e x2 ⟨rfl,hx⟩;replace hE:=hE.trans hx;replace C:=C.ext hx;replace hL:=hL.ext hx;replace B1:=B1.ext hx;replace B2:=B2.ext hx;replace BL:=BL.ext hx;replace BD:=BD.ext hx;clear hx;clear j0 j1 jl k0 k1 k2 k3 k4 k5 k6 k7 k8 k9 k10 k11 kl m0 m1 m2 m3 ml q0 q1 q2 q3 q4 q5 q6 ql;obtain ⟨j0,j1⟩:=B1.c2;have jl:=B1.lt;obtain ⟨k0,k1,k2,k3,k4,k5,k6,k7,k8,k9,k10,k11⟩:=B2.c12;have kl:=B2.lt;obtain ⟨m0,m1,m2,m3⟩:=BL.c4;have ml:=BL.lt;obtain ⟨q0,q1,q2,q3,q4,q5,q6⟩:=Yk BD;have ql:=BD.lt) | (go_at_call 167;(with_reducible refine Calls.mono (NNK _) ?_);rintro e _ ⟨rfl,rfl⟩))
   go_ret;exact ⟨rfl,E.trans hE⟩
  simp only [h3] at NNK;by_cases h4 : (g k).w = p.h
  ·have g4 : ((g k).w.toList == p.h.toList) = true := by rw [h4]; exact beq_self_eq_true _
   have hr:=hno.out (by rw [hdk2.out];rw [decide_eq_true h4];simp);subst hr;clear hno hyes hdk2;clear h4;go_wp2_with (first | (go_at_call 106;(with_reducible refine Calls.mono (NI1 _ C) ?_);rintro e x1 ⟨rfl,hx⟩;replace hE:=hE.trans hx;replace C:=C.ext hx;replace hL:=hL.ext hx;replace B1:=B1.ext hx;replace B2:=B2.ext hx;replace BL:=BL.ext hx;replace BD:=BD.ext hx;clear hx;clear j0 j1 jl k0 k1 k2 k3 k4 k5 k6 k7 k8 k9 k10 k11 kl m0 m1 m2 m3 ml q0 q1 q2 q3 q4 q5 q6 ql;obtain ⟨j0,j1⟩:=B1.c2;have jl:=B1.lt;obtain ⟨k0,k1,k2,k3,k4,k5,k6,k7,k8,k9,k10,k11⟩:=B2.c12;have kl:=B2.lt;obtain ⟨m0,m1,m2,m3⟩:=BL.c4;have ml:=BL.lt;obtain ⟨q0,q1,q2,q3,q4,q5,q6⟩:=Yk BD;have ql:=BD.lt) | (go_at_call 106;(with_reducible refine Calls.mono (NI2 _ C) ?_);rintro e x2 ⟨rfl,hx⟩;replace hE:=hE.trans hx;replace C:=C.ext hx;replace hL:=hL.ext hx;replace B1:=B1.ext hx;replace B2:=B2.ext hx;replace BL:=BL.ext hx;replace BD:=BD.ext hx;clear hx;clear j0 j1 jl k0 k1 k2 k3 k4 k5 k6 k7 k8 k9 k10 k11 kl m0 m1 m2 m3 ml q0 q1 q2 q3 q4 q5 q6 ql;obtain ⟨j0,j1⟩:=B1.c2;have jl:=B1.lt;obtain ⟨k0,k1,k2,k3,k4,k5,k6,k7,k8,k9,k10,k11⟩:=B2.c12;have kl:=B2.lt;obtain ⟨m0,m1,m2,m3⟩:=BL.c4;have ml:=BL.lt;obtain ⟨q0,q1,q2,q3,q4,q5,q6⟩:=Yk BD;have ql:=BD.lt) | (go_at_call 167;(with_reducible refine Calls.mono (NNK _) ?_);rintro e _ ⟨rfl,rfl⟩))
   go_ret;exact ⟨rfl,E.trans hE⟩
  have g4 : ((g k).w.toList == p.h.toList) = false:=beq_eq_false_iff_ne.2 fun h => h4 (Vr h)
  have hgv : Hid (Xi (g k).l = (decide (0 < (g k).l.length) && decide (Yd (g k).l = 0) && !((g k).l.any fun x => decide (x.n < 0)))):=rfl;by_cases h5 : (g k).l.length = 0
  ·have g5 : (((g k).l.length : Int) == 0) = true := by rw [h5]; rfl
   have g5' : ((g k).l.length == 0) = true:=by rw [h5];rfl
   have hr:=hno.out (by rw [hdk2.out];rw [show Xi (g k).l = false by rw [hgv.out,h5];rfl];simp);subst hr;clear hno hyes hdk2;go_wp2_with (first | (go_at_call 106;(with_reducible refine Calls.mono (NI1 _ C) ?_);rintro e x1 ⟨rfl,hx⟩;replace hE:=hE.trans hx;replace C:=C.ext hx;replace hL:=hL.ext hx;replace B1:=B1.ext hx;replace B2:=B2.ext hx;replace BL:=BL.ext hx;replace BD:=BD.ext hx;clear hx;clear j0 j1 jl k0 k1 k2 k3 k4 k5 k6 k7 k8 k9 k10 k11 kl m0 m1 m2 m3 ml q0 q1 q2 q3 q4 q5 q6 ql;obtain ⟨j0,j1⟩:=B1.c2;have jl:=B1.lt;obtain ⟨k0,k1,k2,k3,k4,k5,k6,k7,k8,k9,k10,k11⟩:=B2.c12;have kl:=B2.lt;obtain ⟨m0,m1,m2,m3⟩:=BL.c4;have ml:=BL.lt;obtain ⟨q0,q1,q2,q3,q4,q5,q6⟩:=Yk BD;have ql:=BD.lt) | (go_at_call 106;(with_reducible refine Calls.mono (NI2 _ C) ?_);rintro e x2 ⟨rfl,hx⟩;replace hE:=hE.trans hx;replace C:=C.ext hx;replace hL:=hL.ext hx;replace B1:=B1.ext hx;replace B2:=B2.ext hx;replace BL:=BL.ext hx;replace BD:=BD.ext hx;clear hx;clear j0 j1 jl k0 k1 k2 k3 k4 k5 k6 k7 k8 k9 k10 k11 kl m0 m1 m2 m3 ml q0 q1 q2 q3 q4 q5 q6 ql;obtain ⟨j0,j1⟩:=B1.c2;have jl:=B1.lt;obtain ⟨k0,k1,k2,k3,k4,k5,k6,k7,k8,k9,k10,k11⟩:=B2.c12;have kl:=B2.lt;obtain ⟨m0,m1,m2,m3⟩:=BL.c4;have ml:=BL.lt;obtain ⟨q0,q1,q2,q3,q4,q5,q6⟩:=Yk BD;have ql:=BD.lt) | (go_at_call 167;(with_reducible refine Calls.mono (NNK _) ?_);rintro e _ ⟨rfl,rfl⟩))
   go_ret;exact ⟨rfl,E.trans hE⟩
  have g5 : (((g k).l.length : Int) == 0) = false:=beq_eq_false_iff_ne.2 (by omega);have g5' : ((g k).l.length == 0) = false:=beq_eq_false_iff_ne.2 h5;by_cases h6 : Yd (g k).l = 0;rotate_left
  ·have g6 : (Yd (g k).l == 0) = false := beq_eq_false_iff_ne.2 h6;have g6n : (Yd (g k).l != 0) = true := by rw [bne, g6]; rfl
   have hr:=hno.out (by rw [hdk2.out];rw [show Xi (g k).l = false by rw [hgv.out,decide_eq_false h6];simp];simp);subst hr;clear hno hyes hdk2;go_wp2_with (first | (go_at_call 106;(with_reducible refine Calls.mono (NI1 _ C) ?_);rintro e x1 ⟨rfl,hx⟩;replace hE:=hE.trans hx;replace C:=C.ext hx;replace hL:=hL.ext hx;replace B1:=B1.ext hx;replace B2:=B2.ext hx;replace BL:=BL.ext hx;replace BD:=BD.ext hx;clear hx;clear j0 j1 jl k0 k1 k2 k3 k4 k5 k6 k7 k8 k9 k10 k11 kl m0 m1 m2 m3 ml q0 q1 q2 q3 q4 q5 q6 ql;obtain ⟨j0,j1⟩:=B1.c2;have jl:=B1.lt;obtain ⟨k0,k1,k2,k3,k4,k5,k6,k7,k8,k9,k10,k11⟩:=B2.c12;have kl:=B2.lt;obtain ⟨m0,m1,m2,m3⟩:=BL.c4;have ml:=BL.lt;obtain ⟨q0,q1,q2,q3,q4,q5,q6⟩:=Yk BD;have ql:=BD.lt) | (go_at_call 106;(with_reducible refine Calls.mono (NI2 _ C) ?_);rintro e x2 ⟨rfl,hx⟩;replace hE:=hE.trans hx;replace C:=C.ext hx;replace hL:=hL.ext hx;replace B1:=B1.ext hx;replace B2:=B2.ext hx;replace BL:=BL.ext hx;replace BD:=BD.ext hx;clear hx;clear j0 j1 jl k0 k1 k2 k3 k4 k5 k6 k7 k8 k9 k10 k11 kl m0 m1 m2 m3 ml q0 q1 q2 q3 q4 q5 q6 ql;obtain ⟨j0,j1⟩:=B1.c2;have jl:=B1.lt;obtain ⟨k0,k1,k2,k3,k4,k5,k6,k7,k8,k9,k10,k11⟩:=B2.c12;have kl:=B2.lt;obtain ⟨m0,m1,m2,m3⟩:=BL.c4;have ml:=BL.lt;obtain ⟨q0,q1,q2,q3,q4,q5,q6⟩:=Yk BD;have ql:=BD.lt) | (go_at_call 167;(with_reducible refine Calls.mono (NNK _) ?_);rintro e _ ⟨rfl,rfl⟩) | (go_at_call 170;(with_reducible refine Calls.mono (NCK _ hL) ?_);rintro e x4 ⟨rfl,hx⟩;replace hE:=hE.trans hx;replace C:=C.ext hx;replace hL:=hL.ext hx;replace B1:=B1.ext hx;replace B2:=B2.ext hx;replace BL:=BL.ext hx;replace BD:=BD.ext hx;clear hx;clear j0 j1 jl k0 k1 k2 k3 k4 k5 k6 k7 k8 k9 k10 k11 kl m0 m1 m2 m3 ml q0 q1 q2 q3 q4 q5 q6 ql;obtain ⟨j0,j1⟩:=B1.c2;have jl:=B1.lt;obtain ⟨k0,k1,k2,k3,k4,k5,k6,k7,k8,k9,k10,k11⟩:=B2.c12;have kl:=B2.lt;obtain ⟨m0,m1,m2,m3⟩:=BL.c4;have ml:=BL.lt;obtain ⟨q0,q1,q2,q3,q4,q5,q6⟩:=Yk BD;have ql:=BD.lt))
   go_ret;exact ⟨rfl,E.trans hE⟩
  rw [h6] at NCK
  have hdk3 : Hid (c.dealOk p k = !((g k).l.any fun x => decide (x.n < 0))):=by
   unfold Hid;rw [hdk2.out,← hln.out,decide_eq_false (show ¬ c.numV (g k).on < c.numV la by omega),decide_eq_false (show ¬ c.numV p.b < c.numV (g k).on by omega),h3,decide_eq_false h4,hgv.out,decide_eq_true (show 0 < (g k).l.length by omega),decide_eq_true h6]
   simp
  clear hdk2 hgv h1 h2 h3 h4 h5 h6 hln;go_upto_region 11 with (first | (go_at_call 106;(with_reducible refine Calls.mono (NI1 _ C) ?_);rintro e x1 ⟨rfl,hx⟩;replace hE:=hE.trans hx;replace C:=C.ext hx;replace hL:=hL.ext hx;replace B1:=B1.ext hx;replace B2:=B2.ext hx;replace BL:=BL.ext hx;replace BD:=BD.ext hx;clear hx;clear j0 j1 jl k0 k1 k2 k3 k4 k5 k6 k7 k8 k9 k10 k11 kl m0 m1 m2 m3 ml q0 q1 q2 q3 q4 q5 q6 ql;obtain ⟨j0,j1⟩:=B1.c2;have jl:=B1.lt;obtain ⟨k0,k1,k2,k3,k4,k5,k6,k7,k8,k9,k10,k11⟩:=B2.c12;have kl:=B2.lt;obtain ⟨m0,m1,m2,m3⟩:=BL.c4;have ml:=BL.lt;obtain ⟨q0,q1,q2,q3,q4,q5,q6⟩:=Yk BD;have ql:=BD.lt) | (go_at_call 106;(with_reducible refine Calls.mono (NI2 _ C) ?_);rintro e x2 ⟨rfl,hx⟩;replace hE:=hE.trans hx;replace C:=C.ext hx;replace hL:=hL.ext hx;replace B1:=B1.ext hx;replace B2:=B2.ext hx;replace BL:=BL.ext hx;replace BD:=BD.ext hx;clear hx;clear j0 j1 jl k0 k1 k2 k3 k4 k5 k6 k7 k8 k9 k10 k11 kl m0 m1 m2 m3 ml q0 q1 q2 q3 q4 q5 q6 ql;obtain ⟨j0,j1⟩:=B1.c2;have jl:=B1.lt;obtain ⟨k0,k1,k2,k3,k4,k5,k6,k7,k8,k9,k10,k11⟩:=B2.c12;have kl:=B2.lt;obtain ⟨m0,m1,m2,m3⟩:=BL.c4;have ml:=BL.lt;obtain ⟨q0,q1,q2,q3,q4,q5,q6⟩:=Yk BD;have ql:=BD.lt) | (go_at_call 167;(with_reducible refine Calls.mono (NNK _) ?_);rintro e _ ⟨rfl,rfl⟩) | (go_at_call 170;(with_reducible refine Calls.mono (NCK _ hL) ?_);rintro e x4 ⟨rfl,hx⟩;replace hE:=hE.trans hx;replace C:=C.ext hx;replace hL:=hL.ext hx;replace B1:=B1.ext hx;replace B2:=B2.ext hx;replace BL:=BL.ext hx;replace BD:=BD.ext hx;clear hx;clear j0 j1 jl k0 k1 k2 k3 k4 k5 k6 k7 k8 k9 k10 k11 kl m0 m1 m2 m3 ml q0 q1 q2 q3 q4 q5 q6 ql;obtain ⟨j0,j1⟩:=B1.c2;have jl:=B1.lt;obtain ⟨k0,k1,k2,k3,k4,k5,k6,k7,k8,k9,k10,k11⟩:=B2.c12;have kl:=B2.lt;obtain ⟨m0,m1,m2,m3⟩:=BL.c4;have ml:=BL.lt;obtain ⟨q0,q1,q2,q3,q4,q5,q6⟩:=Yk BD;have ql:=BD.lt))
  clear j0 j1 jl k0 k1 k2 k3 k4 k5 k6 k7 k8 k9 k10 k11 kl m0 m1 m2 m3 ml q0 q1 q2 q3 q4 q5 q6 ql;clear NI1 NI2 NNK NCK g4 g5 g5';obtain ⟨TL',cl',hTL,hTR,hcl,hclm,_⟩:=id hL;obtain ⟨rfl,rfl⟩ : TL = TL' ∧ cl = cl':=by simpa using hTL
  clear hTL;generalize g k = G at *;have hl63 : G.l.length ≤ 9223372036854775807:=Nat.le_trans hcl (Nat.le_trans hclm (by decide));have hEx:=hE
  go_loopw [8] (fun iv wr => ∃ j : Nat,j ≤ G.l.length ∧ iv = .int .i64 j ∧ Hid (∀ i,i < j → 0 ≤ (Za G.l i).n) ∧ Qb x4 wr) (fun iv _ => G.l.length - (intOf iv).toNat)
  case atStart => exact ⟨0,Nat.zero_le _,rfl,(fun i h => absurd h (by omega)),Qb.refl _⟩
  case round =>
   obtain ⟨j,hj,rfl,hnn,hEj⟩:=hrel;obtain ⟨wi,rfl⟩:=Qg wr;have BDi:=BD.ext hEj;have BLi:=BL.ext hEj;obtain ⟨q0,q1,q2,q3,q4,q5,q6⟩:=Q4 BDi;have ql:=Qa.lt BDi;by_cases hlj : j < G.l.length
   ·obtain ⟨b2, off2, rfl, hb2, hc2⟩ := (hTR.ext hEj) (by omega);have d1 : wi.cell? ⟨b2, off2 + j * 2 + 1, none⟩ = some (.int .i64 (Za G.l j).n) := by simpa [Zc] using hc2 j 1 _ hlj rfl
    have hin2 : j < G.l.length:=hlj;clear hc2;by_cases hneg : (Za G.l j).n < 0
    ·have g7 : decide ((Za G.l j).n < 0) = true:=decide_eq_true hneg;have hany : (G.l.any fun x => decide (x.n < 0)) = true:=Qbg hlj hneg;have hr:=hno.out (by rw [hdk3.out,hany];rfl);subst hr;clear hno hyes hdk3 hany hneg hnn;go_wp2;go_ret;exact ⟨rfl,E.trans (hE.trans hEj)⟩
    ·have g7 : decide ((Za G.l j).n < 0) = false:=decide_eq_false hneg
     have hnn2 : Hid (∀ i,i < j + 1 → 0 ≤ (Za G.l i).n):=fun i hi => by
      by_cases e : i = j
      ·subst e;omega
      ·exact hnn.out i (by omega)
     clear hno hyes hdk3 hneg hnn;go_wp2;exact ⟨⟨j + 1,by omega,by go_num,hnn2,hEj⟩,by simp [intOf];omega⟩
   ·obtain rfl : j = G.l.length := by omega
    have hany : (G.l.any fun x => decide (x.n < 0)) = false:=Qgm (fun i hi => hnn.out i hi);have hnx:=Lib.hid (hyes.out (by rw [hdk3.out,hany];rfl));clear hno hyes hdk3 hany hnn;obtain ⟨f0,f1,f2,f3⟩ : (_ ∧ _ ∧ _ ∧ _):=⟨BLi.frozen 0,BLi.frozen 1,BLi.frozen 2,BLi.frozen 3⟩;obtain ⟨m0,m1,m2,m3⟩:=BLi.c4;have ml:=BLi.lt;have X:=Qee BLi (.int .i64 G.on.y) (.int .i64 G.on.m) (.bool G.on.s) (.int .i64 G.on.d);have E4:=ext4Q (hE.trans hEj) hE5 (.int .i64 G.on.y) (.int .i64 G.on.m) (.bool G.on.s) (.int .i64 G.on.d);have hps : 0 < c.numV (Qf.lastT p (k + 1)):=by rw [← hgo2.out];exact hpk
    clear hpk;go_wp2;exact ⟨⟨k + 1,by omega,by go_num,hnx,hps,E4,by rw [← hgo2.out];exact X⟩,by simp [intOf];omega⟩
theorem Fu {f f' : Nat → List Value} : ∀ k,(∀ i,i < k → f i = f' i) → Zw f k = Zw f' k
 | 0,_ => rfl
 | k + 1,h => by rw [V6,V6,Fu k (fun i hi => h i (by omega)),h k (by omega)]
theorem Mh {W : World} {b b' s1 s2 k1 k2 : Nat} {e1 e2 : TypeId} {v1 v2 : Value} {x1 x2 : List Value} (h1 : W.ownsRow b e1 s1 v1 k1 x1) (h2 : W.ownsRow b' e2 s2 v2 k2 x2) (hne : e1 ≠ e2) : v1.ownBlock = none ∨ v1.ownBlock ≠ v2.ownBlock:=by
 cases hb : v1.ownBlock with
 | none => exact .inl rfl
 | some r =>
  refine .inr fun e => ?_
  obtain ⟨_,c1,g1⟩:=W4 h1 r hb;obtain ⟨_,c2,g2⟩:=W4 h2 r e.symm;rw [g1] at g2;simp at g2;exact hne g2.2
def Wk (W : World) (b : Nat) (v : Value) (l : List Lt) : Prop:=W.ownsRow b 85 2 v l.length (l.flatMap J1)
/-- Deals in an own row, each with lots in an own row. -/
def Jh (W : World) (b : Nat) (v : Value) (n : Nat) (g : Nat → Dl) : Prop:=∃ vs : Nat → Value,W.ownsRow b 57 7 v n (Zw (fun i => Qz (g i) (vs i)) n) ∧ ∀ i,i < n → Wk W b (vs i) (g i).l
theorem Qc7 (W : World) (b : Nat) (g : Nat → Dl) : Jh W b (.slice none 0 0) 0 g:=⟨fun _ => .slice none 0 0,World.ownsRow_nil _ _ _ _,fun i h => absurd h (by omega)⟩
theorem Jh.ext {W W' : World} {b n : Nat} {v : Value} {g : Nat → Dl} (h : Jh W b v n g) (x : Qb W W') : Jh W' b v n g:=by
 obtain ⟨vs,h1,h2⟩:=h;exact ⟨vs,Jp h1 x,fun i hi => Jp (h2 i hi) x⟩
theorem Jh.le {W : World} {b b' n : Nat} {v : Value} {g : Nat → Dl} (h : Jh W b v n g) (hb : b' ≤ b) : Jh W b' v n g:=by
 obtain ⟨vs,h1,h2⟩:=h;exact ⟨vs,h1.mono hb,fun i hi => World.ownsRow.mono (h2 i hi) hb⟩
theorem Qc5 {W : World} {b : Nat} {v : Value} {l : List Dl} (h : Jh W b v l.length (fun i => l.getD i Zi)) : Un W v l:=by
 obtain ⟨vs,h1,h2⟩:=h;obtain ⟨F,c,g1,g2,g3,g4,g5,_⟩:=Ve (f:=fun i => Qz (l.getD i Zi) (vs i)) (fun _ => rfl) h1;exact ⟨F,c,vs,g1,g2,g3,g4,g5,fun i hi => Kv (h2 i hi)⟩
theorem Qc8 {W w1 : World} {b k : Nat} {v v' vl : Value} {g : Nat → Dl} {vs : Nat → Value} {ob : Obj} (hO : W.ownsRow b 57 7 v k (Zw (fun i => Qz (g i) (vs i)) k)) (hL : ∀ i,i < k → Wk W b (vs i) (g i).l) (hl : Wk W b vl (g k).l)
  (hown : w1.ownsRow b 57 7 v' (k + 1) (Zw (fun i => Qz (g i) (vs i)) k ++ Qz (g k) vl)) (hgrow : (W.alloc ob).grownBy w1 v.ownBlock) : Jh w1 b v' (k + 1) g:=by
 have keep : ∀ {u : Value} {l : List Lt},Wk W b u l → Wk w1 b u l:=fun h => (World.ownsRow.alloc h ob).kept hgrow (Mh h hO (by decide))
 refine ⟨fun i => if i = k then vl else vs i,?_,fun i hi => ?_⟩
 ·rw [V6, Fu (f' := fun i => Qz (g i) (vs i)) k (fun i hi => by simp [show i ≠ k by omega])]
  simpa using hown
 ·by_cases e : i = k
  ·subst e;simpa using keep hl
  ·simpa [e] using keep (hL i (by omega))
theorem Qei {W : World} {b : Nat} {t : TypeId} {v0 v1 v2 v3 v4 v5 v6 : Value} (h : Qa W b t #[v0,v1,v2,v3,v4,v5,v6]) (u : Value) : Qa (W.setCell ⟨b,6,none⟩ u) b t #[v0,v1,v2,v3,v4,v5,u]:=by unfold Qa at h ⊢;simp [World.setCell,Array.getElem?_modify,h]
theorem Qep : (Tryz.prog.info? 57).map (fun i => (i.zero,i.size,i.bytes)) = some (some (.agg #[.int .i64 0,.int .i64 0,.bool false,.int .i64 0,.bool false,.string ⟨#[]⟩,.slice none 0 0]),7,80):=by kernel_rfl
theorem Qb4 (d : Dl) (F : Option Addr) (n m : Nat) : ∀ u ∈ Qz d (.slice F n m),u.oneCell' = true:=by simp [Qz,Value.oneCell']
theorem Qcs (v : Value) (l : List Dl) (w : World) (hDD : Un w v l) (hsz : ∀ i,i < l.length → (l.getD i Zi).l.length * 24 ≤ 140737488351232) (hsd : l.length * 80 ≤ 140737488351232) :
  Calls Tryz.prog 78 #[v] w fun e w' => ∃ v',e = .returned v' ∧ Qb w w' ∧ Jh w' w.heap.size v' l.length (fun i => l.getD i Zi):=by
 obtain ⟨i0,hi,hz0,hz1,hz2⟩:=info_parts Qep;obtain ⟨D,cap,vs,rfl,hD,hcap,hmax,_,hat⟩:=hDD;have hn : l.length ≤ 9223372036854775807:=Nat.le_trans hcap (Nat.le_trans hmax (by decide));generalize l.length = n at *;obtain ⟨g,hg⟩:=Qg (fun i => l.getD i Zi);have hg' : ∀ i,l.getD i Zi = g i:=fun i => by rw [hg]
 simp only [hg'] at hD hat hsz ⊢;clear hg hg';clear hmax
 go_enter Tryz.func78,Tryz.ntmps78
 go_upto_region 3 with (fail)
 go_loopw [3,4] (fun ov iv wr => ∃ k : Nat,k ≤ n ∧ iv = .int .i64 k ∧ Jh wr w.heap.size ov k g ∧ Qb w wr) (fun _ i _ => n - (intOf i).toNat)
 case atStart => exact ⟨0,Nat.zero_le _,rfl,Qc7 _ _ _,Qb.refl _⟩
 case round =>
  obtain ⟨k,hk,rfl,⟨vs',hO,hLo⟩,hE⟩:=hrel;obtain ⟨wo,rfl⟩:=Qg wr;obtain ⟨FO,mO,rfl⟩:=Ya hO;by_cases hlt : k < n
  ·obtain ⟨b, off, rfl, hb, hc⟩ := (hD.ext hE) (by omega);have c0 : wo.cell? ⟨b, off + k * 7, none⟩ = some (.int .i64 (g k).on.y) := by simpa [Qz] using hc k 0 _ hlt rfl
   have c1 : wo.cell? ⟨b,off + k * 7 + 1,none⟩ = some (.int .i64 (g k).on.m):=by simpa [Qz] using hc k 1 _ hlt rfl
   have c2 : wo.cell? ⟨b,off + k * 7 + 2,none⟩ = some (.bool (g k).on.s):=by simpa [Qz] using hc k 2 _ hlt rfl
   have c3 : wo.cell? ⟨b,off + k * 7 + 3,none⟩ = some (.int .i64 (g k).on.d):=by simpa [Qz] using hc k 3 _ hlt rfl
   have c4 : wo.cell? ⟨b,off + k * 7 + 4,none⟩ = some (.bool (g k).i):=by simpa [Qz] using hc k 4 _ hlt rfl
   have c5 : wo.cell? ⟨b,off + k * 7 + 5,none⟩ = some (.string (g k).w):=by simpa [Qz] using hc k 5 _ hlt rfl
   have c6 : wo.cell? ⟨b,off + k * 7 + 6,none⟩ = some (vs k):=by simpa [Qz] using hc k 6 _ hlt rfl
   have HL:=(hat k hlt).ext hE;obtain ⟨VL,hvl⟩:=Qg (vs k);rw [← hvl] at c6 HL;clear hvl hc;obtain ⟨TL,cl,hVL,_⟩:=id HL;subst hVL;have NC:=fun w h => Fh (.slice TL (g k).l.length cl) (g k).l w h (hsz k hlt)
   go_upto_region 6 with (fail)
   obtain ⟨wb,hv⟩:=Qg (wo.alloc (.cells #[.int .i64 (g k).on.y,.int .i64 (g k).on.m,.bool (g k).on.s,.int .i64 (g k).on.d,.bool (g k).i,.string (g k).w,.slice TL (g k).l.length cl] 57));rw [← hv];have hx : Qb wo wb:=by rw [hv];exact (Qb.refl _).alloc _
   have BD : Qa wb wo.heap.size 57 #[.int .i64 (g k).on.y,.int .i64 (g k).on.m,.bool (g k).on.s,.int .i64 (g k).on.d,.bool (g k).i,.string (g k).w,.slice TL (g k).l.length cl]:=by rw [hv];exact Qa.new _ _ _
   obtain ⟨bd,hbd⟩:=Qg (wo.heap.size);rw [← hbd] at BD ⊢;have hlo : wo.heap.size ≤ bd:=by omega
   clear hv c0 c1 c2 c3 c4 c5 c6 hb hbd;obtain ⟨q0,q1,q2,q3,q4,q5,q6⟩:=Q4 BD;have ql:=BD.lt;go_upto_region 7 with (go_at_call 77;(with_reducible refine Calls.mono (NC _ (HL.ext hx)) ?_);rintro e w2 ⟨vl,rfl,h2,hS⟩;obtain ⟨F0,m0,rfl⟩:=Ya hS;clear q0 q1 q2 q3 q4 q5 q6 ql;obtain ⟨q0,q1,q2,q3,q4,q5,q6⟩:=Q4 (Qa.ext BD h2);have ql:=Qa.lt (Qa.ext BD h2);have f6:=Qa.frozen (Qa.ext BD h2) 6)
   have BD3:=Qei (Qa.ext BD h2) (.slice F0 (g k).l.length m0);have hx3 : Qb wo (w2.setCell ⟨bd,6,none⟩ (.slice F0 (g k).l.length m0)):=(hx.trans h2).setCell (p:=⟨bd,6,none⟩) hlo _;have hS3 : Wk (w2.setCell ⟨bd,6,none⟩ (.slice F0 (g k).l.length m0)) w.heap.size (.slice F0 (g k).l.length m0) (g k).l:=K3 (Z9 (Qa.ext BD h2) (by decide) hS 6 _) (Nat.le_trans hE.size hx.size);generalize w2.setCell ⟨bd,6,none⟩ (.slice F0 (g k).l.length m0) = w3 at *;clear q0 q1 q2 q3 q4 q5 q6 ql f6 hS h2 BD hx NC HL;obtain ⟨q0,q1,q2,q3,q4,q5,q6⟩:=Q4 BD3;have ql:=Qa.lt BD3;replace hO:=Jp hO hx3;have hLs : ∀ i,i < k → Wk w3 w.heap.size (vs' i) (g i).l:=fun i hi => Jp (hLo i hi) hx3
   replace hE:=hE.trans hx3;have hlen:=Xx (f:=fun i => Qz (g i) (vs' i)) (sz:=7) (fun _ => rfl) k;go_wp2_with (at_builtin;refine wpList_append_own_at _ rfl _ _ 53 rfl w.heap.size 57 i0 (.agg #[.int .i64 0,.int .i64 0,.bool false,.int .i64 0,.bool false,.string ⟨#[]⟩,.slice none 0 0]) 7 80 Tryz.underlying53 hi hz0 hz1 hz2 rfl (by decide) _ _ _ rfl (hO.alloc _) ⟨w3.heap.size,0,none⟩ 1 1 (Qz (g k) (.slice F0 (g k).l.length m0)) rfl rfl (V0 _ _ _) (Qb4 _ _ _ _) (by unfold maxLen;omega) (by omega) (by have:=hE.size;simp;omega) ?_;intro o' w5 hown hgrow _ _);have E5 : Qb w w5:=(hE.alloc _).grown hgrow (fun q hq => (hO.lt q hq).1);have D5:=Qc8 hO hLs hS3 hown hgrow
   exact ⟨⟨k + 1,by omega,by go_num,D5,E5⟩,by simp [intOf];omega⟩
  ·obtain rfl : k = n := by omega
   go_wp2;go_ret;exact ⟨_,rfl,hE,vs',hO,hLo⟩
theorem Xj {W : World} {b : Nat} {t : TypeId} {cs : Array Value} (h : Qa W b t cs) (i : Nat) (u : Value) : Qa (W.setCell ⟨b,i,none⟩ u) b t (cs.setIfInBounds i u):=by unfold Qa at h ⊢;simp [World.setCell,Array.getElem?_modify,h]
theorem Dk {W : World} {b n : Nat} {v : Value} {g : Nat → Dl} (h : Jh W b v n g) : ∃ F m,v = .slice F n m:=by
 obtain ⟨_,h1,_⟩:=h;exact Ya h1
structure Yj (W : World) (b : Nat) (p : Pd) (vo vd vc : Value) : Prop where
 o : Wk W b vo p.o
 d : Jh W b vd p.d.length (fun i => p.d.getD i Zi)
 c : Wk W b vc p.c
theorem Qg6 {W : World} {b : Nat} {p : Pd} {vo vd vc : Value} (h : Yj W b p vo vd vc) : Xm W p vo vd vc:=⟨Kv h.o,Qc5 h.d,Kv h.c⟩
theorem Yj.ext {W W' : World} {b : Nat} {p : Pd} {vo vd vc : Value} (h : Yj W b p vo vd vc) (x : Qb W W') : Yj W' b p vo vd vc:=⟨Jp h.o x,h.d.ext x,Jp h.c x⟩
theorem Yj.le {W : World} {b b' : Nat} {p : Pd} {vo vd vc : Value} (h : Yj W b p vo vd vc) (hb : b' ≤ b) : Yj W b' p vo vd vc:=⟨K3 h.o hb,h.d.le hb,K3 h.c hb⟩
theorem Jh.set {W : World} {bb : Nat} {t : TypeId} {cs : Array Value} (hB : Qa W bb t cs) (h1 : t ≠ 85) (h2 : t ≠ 57) {b n : Nat} {v : Value} {g : Nat → Dl} (h : Jh W b v n g) (j : Nat) (u : Value) : Jh (W.setCell ⟨bb,j,none⟩ u) b v n g:=by
 obtain ⟨vs,g1,g2⟩:=h;exact ⟨vs,Z9 hB h2 g1 j u,fun i hi => Z9 hB h1 (g2 i hi) j u⟩
theorem Qct (p : Pd) (vo vd vc : Value) (w : World) (hP : Xm w p vo vd vc) (hso : p.o.length * 24 ≤ 140737488351232) (hsc : p.c.length * 24 ≤ 140737488351232) (hsl : ∀ i,i < p.d.length → (p.d.getD i Zi).l.length * 24 ≤ 140737488351232) (hsd : p.d.length * 80 ≤ 140737488351232) :
  Calls Tryz.prog 33 #[.agg #[.string p.h,.int .i64 p.a.y,.int .i64 p.a.m,.bool p.a.s,.int .i64 p.a.d,.int .i64 p.b.y,.int .i64 p.b.m,.bool p.b.s,.int .i64 p.b.d,vo,vd,vc]] w fun e w' => ∃ vo' vd' vc',e = .returned (.agg #[.string p.h,.int .i64 p.a.y,.int .i64 p.a.m,.bool p.a.s,.int .i64 p.a.d,.int .i64 p.b.y,.int .i64 p.b.m,.bool p.b.s,.int .i64 p.b.d,vo',vd',vc']) ∧ Qb w w' ∧ Yj w' w.heap.size p vo' vd' vc':=by
 obtain ⟨t1,s1,e1,_⟩:=id hP.o;subst e1;obtain ⟨t2,s2,_,e2,_⟩:=id hP.d;subst e2;obtain ⟨t3,s3,e3,_⟩:=id hP.c;subst e3;have NO:=fun w h => Fh (.slice t1 p.o.length s1) p.o w h hso
 have NC:=fun w h => Fh (.slice t3 p.c.length s3) p.c w h hsc
 have ND:=fun w h => Qcs (.slice t2 p.d.length s2) p.d w h hsl hsd
 go_enter Tryz.func33,Tryz.ntmps33
 go_upto_region 1 with (fail)
 obtain ⟨v,hv⟩:=Qg ((w.alloc (.cells #[.string p.h,.int .i64 p.a.y,.int .i64 p.a.m,.bool p.a.s,.int .i64 p.a.d,.int .i64 p.b.y,.int .i64 p.b.m,.bool p.b.s,.int .i64 p.b.d,.slice t1 p.o.length s1,.slice t2 p.d.length s2,.slice t3 p.c.length s3] 55)).alloc (.cells #[.string ⟨#[]⟩,.int .i64 0,.int .i64 0,.bool false,.int .i64 0,.int .i64 0,.int .i64 0,.bool false,.int .i64 0,.slice none 0 0,.slice none 0 0,.slice none 0 0] 55));rw [← hv];have E : Qb w v:=by rw [hv];exact ((Qb.refl _).alloc _).alloc _
 have B1 : Qa v w.heap.size 55 #[.string p.h,.int .i64 p.a.y,.int .i64 p.a.m,.bool p.a.s,.int .i64 p.a.d,.int .i64 p.b.y,.int .i64 p.b.m,.bool p.b.s,.int .i64 p.b.d,.slice t1 p.o.length s1,.slice t2 p.d.length s2,.slice t3 p.c.length s3]:=by rw [hv];exact (Qa.new _ _ _).alloc _
 have B2 : Qa v (w.heap.size + 1) 55 #[.string ⟨#[]⟩,.int .i64 0,.int .i64 0,.bool false,.int .i64 0,.int .i64 0,.int .i64 0,.bool false,.int .i64 0,.slice none 0 0,.slice none 0 0,.slice none 0 0]:=by rw [hv];exact Qa.at _ _ _ _ (by simp)
 clear hv;obtain ⟨b2,hb2⟩:=Qg (w.heap.size + 1);rw [← hb2] at B2 ⊢;obtain ⟨b1,hb1⟩:=Qg (w.heap.size);rw [← hb1] at B1 ⊢;have hbr : w.heap.size ≤ b2:=by omega
 have hbr1 : w.heap.size ≤ b1:=by omega
 have hn21 : b2 ≠ b1:=by omega
 clear hb1 hb2;obtain ⟨k0,k1,k2,k3,k4,k5,k6,k7,k8,k9,k10,k11⟩:=Qa.c12 B1;have kl:=Qa.lt B1;go_upto_region 2 with (go_at_call 77;(with_reducible refine Calls.mono (NO _ (hP.ext E).o) ?_);rintro e w2 ⟨vl,rfl,h2,hS⟩;obtain ⟨F1,m1,rfl⟩:=Ya hS;clear k0 k1 k2 k3 k4 k5 k6 k7 k8 k9 k10 k11 kl;obtain ⟨k0,k1,k2,k3,k4,k5,k6,k7,k8,k9,k10,k11⟩:=Qa.c12 (Qa.ext B1 h2);have kl:=Qa.lt (Qa.ext B1 h2);have ff:=Qa.frozen (Qa.ext B1 h2) 9)
 have hEs:=E.size;replace E:=(E.trans h2).setCell (p:=⟨b1,9,none⟩) hbr1 (.slice F1 p.o.length m1);have BX : Qa _ _ _ #[.string p.h,.int .i64 p.a.y,.int .i64 p.a.m,.bool p.a.s,.int .i64 p.a.d,.int .i64 p.b.y,.int .i64 p.b.m,.bool p.b.s,.int .i64 p.b.d,.slice F1 p.o.length m1,.slice t2 p.d.length s2,.slice t3 p.c.length s3]:=Xj (Qa.ext B1 h2) 9 (.slice F1 p.o.length m1);have B2X:=Qi (Qa.ext B2 h2) hn21 9 (.slice F1 p.o.length m1);have S1 : Wk (w2.setCell ⟨b1,9,none⟩ (.slice F1 p.o.length m1)) w.heap.size (.slice F1 p.o.length m1) p.o:=K3 (Z9 (Qa.ext B1 h2) (by decide) hS 9 (.slice F1 p.o.length m1)) hEs;generalize w2.setCell ⟨b1,9,none⟩ (.slice F1 p.o.length m1) = wz at *
 clear k0 k1 k2 k3 k4 k5 k6 k7 k8 k9 k10 k11 kl;clear B1 B2 h2 ff hS hEs;have B1:=BX;have B2:=B2X;clear BX B2X;obtain ⟨k0,k1,k2,k3,k4,k5,k6,k7,k8,k9,k10,k11⟩:=Qa.c12 B1;have kl:=Qa.lt B1;go_upto_region 3 with (go_at_call 77;(with_reducible refine Calls.mono (NC _ (hP.ext E).c) ?_);rintro e w2 ⟨vl,rfl,h2,hS⟩;obtain ⟨F3,m3,rfl⟩:=Ya hS;clear k0 k1 k2 k3 k4 k5 k6 k7 k8 k9 k10 k11 kl;obtain ⟨k0,k1,k2,k3,k4,k5,k6,k7,k8,k9,k10,k11⟩:=Qa.c12 (Qa.ext B1 h2);have kl:=Qa.lt (Qa.ext B1 h2);have ff:=Qa.frozen (Qa.ext B1 h2) 11)
 have hEs:=E.size;replace E:=(E.trans h2).setCell (p:=⟨b1,11,none⟩) hbr1 (.slice F3 p.c.length m3);have BX : Qa _ _ _ #[.string p.h,.int .i64 p.a.y,.int .i64 p.a.m,.bool p.a.s,.int .i64 p.a.d,.int .i64 p.b.y,.int .i64 p.b.m,.bool p.b.s,.int .i64 p.b.d,.slice F1 p.o.length m1,.slice t2 p.d.length s2,.slice F3 p.c.length m3]:=Xj (Qa.ext B1 h2) 11 (.slice F3 p.c.length m3);have B2X:=Qi (Qa.ext B2 h2) hn21 11 (.slice F3 p.c.length m3);have S3 : Wk (w2.setCell ⟨b1,11,none⟩ (.slice F3 p.c.length m3)) w.heap.size (.slice F3 p.c.length m3) p.c:=K3 (Z9 (Qa.ext B1 h2) (by decide) hS 11 (.slice F3 p.c.length m3)) hEs;replace S1:=Z9 (Qa.ext B1 h2) (by decide) (Jp S1 h2) 11 (.slice F3 p.c.length m3)
 generalize w2.setCell ⟨b1,11,none⟩ (.slice F3 p.c.length m3) = wz at *;clear k0 k1 k2 k3 k4 k5 k6 k7 k8 k9 k10 k11 kl;clear B1 B2 h2 ff hS hEs;have B1:=BX;have B2:=B2X;clear BX B2X;obtain ⟨k0,k1,k2,k3,k4,k5,k6,k7,k8,k9,k10,k11⟩:=Qa.c12 B1;have kl:=Qa.lt B1;go_upto_region 4 with (go_at_call 78;(with_reducible refine Calls.mono (ND _ (hP.ext E).d) ?_);rintro e w2 ⟨vl,rfl,h2,hS⟩;obtain ⟨F2,m2,rfl⟩:=Dk hS;clear k0 k1 k2 k3 k4 k5 k6 k7 k8 k9 k10 k11 kl;obtain ⟨k0,k1,k2,k3,k4,k5,k6,k7,k8,k9,k10,k11⟩:=Qa.c12 (Qa.ext B1 h2);have kl:=Qa.lt (Qa.ext B1 h2);have ff:=Qa.frozen (Qa.ext B1 h2) 10)
 have hEs:=E.size;replace E:=(E.trans h2).setCell (p:=⟨b1,10,none⟩) hbr1 (.slice F2 p.d.length m2);have BX : Qa _ _ _ #[.string p.h,.int .i64 p.a.y,.int .i64 p.a.m,.bool p.a.s,.int .i64 p.a.d,.int .i64 p.b.y,.int .i64 p.b.m,.bool p.b.s,.int .i64 p.b.d,.slice F1 p.o.length m1,.slice F2 p.d.length m2,.slice F3 p.c.length m3]:=Xj (Qa.ext B1 h2) 10 (.slice F2 p.d.length m2);have B2X:=Qi (Qa.ext B2 h2) hn21 10 (.slice F2 p.d.length m2);have S2 : Jh (w2.setCell ⟨b1,10,none⟩ (.slice F2 p.d.length m2)) w.heap.size (.slice F2 p.d.length m2) p.d.length (fun i => p.d.getD i Zi):=(Jh.set (Qa.ext B1 h2) (by decide) (by decide) hS 10 (.slice F2 p.d.length m2)).le hEs
 replace S1:=Z9 (Qa.ext B1 h2) (by decide) (Jp S1 h2) 10 (.slice F2 p.d.length m2);replace S3:=Z9 (Qa.ext B1 h2) (by decide) (Jp S3 h2) 10 (.slice F2 p.d.length m2);generalize w2.setCell ⟨b1,10,none⟩ (.slice F2 p.d.length m2) = wz at *;clear k0 k1 k2 k3 k4 k5 k6 k7 k8 k9 k10 k11 kl;clear B1 B2 h2 ff hS hEs;have B1:=BX;have B2:=B2X;clear BX B2X;obtain ⟨k0,k1,k2,k3,k4,k5,k6,k7,k8,k9,k10,k11⟩:=Qa.c12 B1;have kl:=Qa.lt B1;have f0:=Qa.frozen B2 0;have f1:=Qa.frozen B2 1;have f2:=Qa.frozen B2 2;have f3:=Qa.frozen B2 3;have f4:=Qa.frozen B2 4;have f5:=Qa.frozen B2 5;have f6:=Qa.frozen B2 6;have f7:=Qa.frozen B2 7
 have f8:=Qa.frozen B2 8;have f9:=Qa.frozen B2 9;have f10:=Qa.frozen B2 10;have f11:=Qa.frozen B2 11;obtain ⟨z0,z1,z2,z3,z4,z5,z6,z7,z8,z9,z10,z11⟩:=Qa.c12 B2;have zl:=Qa.lt B2;have A0:=Z9 B2 (by decide) S1 0 (.string p.h);have C0:=Z9 B2 (by decide) S3 0 (.string p.h);have D0:=Jh.set B2 (by decide) (by decide) S2 0 (.string p.h);have E0:=E.setCell (p:=⟨b2,0,none⟩) hbr (.string p.h);have T1 : Qa _ _ _ #[.string p.h,.int .i64 0,.int .i64 0,.bool false,.int .i64 0,.int .i64 0,.int .i64 0,.bool false,.int .i64 0,.slice none 0 0,.slice none 0 0,.slice none 0 0]:=Xj B2 0 (.string p.h);clear S1 S2 S3;have A1:=Z9 T1 (by decide) A0 1 (.int .i64 p.a.y)
 have C1:=Z9 T1 (by decide) C0 1 (.int .i64 p.a.y);have D1:=Jh.set T1 (by decide) (by decide) D0 1 (.int .i64 p.a.y);have E1:=E0.setCell (p:=⟨b2,1,none⟩) hbr (.int .i64 p.a.y);have T2 : Qa _ _ _ #[.string p.h,.int .i64 p.a.y,.int .i64 0,.bool false,.int .i64 0,.int .i64 0,.int .i64 0,.bool false,.int .i64 0,.slice none 0 0,.slice none 0 0,.slice none 0 0]:=Xj T1 1 (.int .i64 p.a.y);clear A0 C0 D0 E0 T1;have A2:=Z9 T2 (by decide) A1 2 (.int .i64 p.a.m);have C2:=Z9 T2 (by decide) C1 2 (.int .i64 p.a.m);have D2:=Jh.set T2 (by decide) (by decide) D1 2 (.int .i64 p.a.m);have E2:=E1.setCell (p:=⟨b2,2,none⟩) hbr (.int .i64 p.a.m)
 have T3 : Qa _ _ _ #[.string p.h,.int .i64 p.a.y,.int .i64 p.a.m,.bool false,.int .i64 0,.int .i64 0,.int .i64 0,.bool false,.int .i64 0,.slice none 0 0,.slice none 0 0,.slice none 0 0]:=Xj T2 2 (.int .i64 p.a.m);clear A1 C1 D1 E1 T2;have A3:=Z9 T3 (by decide) A2 3 (.bool p.a.s);have C3:=Z9 T3 (by decide) C2 3 (.bool p.a.s);have D3:=Jh.set T3 (by decide) (by decide) D2 3 (.bool p.a.s);have E3:=E2.setCell (p:=⟨b2,3,none⟩) hbr (.bool p.a.s);have T4 : Qa _ _ _ #[.string p.h,.int .i64 p.a.y,.int .i64 p.a.m,.bool p.a.s,.int .i64 0,.int .i64 0,.int .i64 0,.bool false,.int .i64 0,.slice none 0 0,.slice none 0 0,.slice none 0 0]:=Xj T3 3 (.bool p.a.s)
 clear A2 C2 D2 E2 T3;have A4:=Z9 T4 (by decide) A3 4 (.int .i64 p.a.d);have C4:=Z9 T4 (by decide) C3 4 (.int .i64 p.a.d);have D4:=Jh.set T4 (by decide) (by decide) D3 4 (.int .i64 p.a.d);have E4:=E3.setCell (p:=⟨b2,4,none⟩) hbr (.int .i64 p.a.d);have T5 : Qa _ _ _ #[.string p.h,.int .i64 p.a.y,.int .i64 p.a.m,.bool p.a.s,.int .i64 p.a.d,.int .i64 0,.int .i64 0,.bool false,.int .i64 0,.slice none 0 0,.slice none 0 0,.slice none 0 0]:=Xj T4 4 (.int .i64 p.a.d);clear A3 C3 D3 E3 T4;have A5:=Z9 T5 (by decide) A4 5 (.int .i64 p.b.y);have C5:=Z9 T5 (by decide) C4 5 (.int .i64 p.b.y);have D5:=Jh.set T5 (by decide) (by decide) D4 5 (.int .i64 p.b.y)
 have E5:=E4.setCell (p:=⟨b2,5,none⟩) hbr (.int .i64 p.b.y);have T6 : Qa _ _ _ #[.string p.h,.int .i64 p.a.y,.int .i64 p.a.m,.bool p.a.s,.int .i64 p.a.d,.int .i64 p.b.y,.int .i64 0,.bool false,.int .i64 0,.slice none 0 0,.slice none 0 0,.slice none 0 0]:=Xj T5 5 (.int .i64 p.b.y);clear A4 C4 D4 E4 T5;have A6:=Z9 T6 (by decide) A5 6 (.int .i64 p.b.m);have C6:=Z9 T6 (by decide) C5 6 (.int .i64 p.b.m);have D6:=Jh.set T6 (by decide) (by decide) D5 6 (.int .i64 p.b.m);have E6:=E5.setCell (p:=⟨b2,6,none⟩) hbr (.int .i64 p.b.m);have T7 : Qa _ _ _ #[.string p.h,.int .i64 p.a.y,.int .i64 p.a.m,.bool p.a.s,.int .i64 p.a.d,.int .i64 p.b.y,.int .i64 p.b.m,.bool false,.int .i64 0,.slice none 0 0,.slice none 0 0,.slice none 0 0]:=Xj T6 6 (.int .i64 p.b.m)
 clear A5 C5 D5 E5 T6;have A7:=Z9 T7 (by decide) A6 7 (.bool p.b.s);have C7:=Z9 T7 (by decide) C6 7 (.bool p.b.s);have D7:=Jh.set T7 (by decide) (by decide) D6 7 (.bool p.b.s);have E7:=E6.setCell (p:=⟨b2,7,none⟩) hbr (.bool p.b.s);have T8 : Qa _ _ _ #[.string p.h,.int .i64 p.a.y,.int .i64 p.a.m,.bool p.a.s,.int .i64 p.a.d,.int .i64 p.b.y,.int .i64 p.b.m,.bool p.b.s,.int .i64 0,.slice none 0 0,.slice none 0 0,.slice none 0 0]:=Xj T7 7 (.bool p.b.s);clear A6 C6 D6 E6 T7;have A8:=Z9 T8 (by decide) A7 8 (.int .i64 p.b.d);have C8:=Z9 T8 (by decide) C7 8 (.int .i64 p.b.d);have D8:=Jh.set T8 (by decide) (by decide) D7 8 (.int .i64 p.b.d)
 have E8:=E7.setCell (p:=⟨b2,8,none⟩) hbr (.int .i64 p.b.d);have T9 : Qa _ _ _ #[.string p.h,.int .i64 p.a.y,.int .i64 p.a.m,.bool p.a.s,.int .i64 p.a.d,.int .i64 p.b.y,.int .i64 p.b.m,.bool p.b.s,.int .i64 p.b.d,.slice none 0 0,.slice none 0 0,.slice none 0 0]:=Xj T8 8 (.int .i64 p.b.d);clear A7 C7 D7 E7 T8;have A9:=Z9 T9 (by decide) A8 9 (.slice F1 p.o.length m1);have C9:=Z9 T9 (by decide) C8 9 (.slice F1 p.o.length m1);have D9:=Jh.set T9 (by decide) (by decide) D8 9 (.slice F1 p.o.length m1);have E9:=E8.setCell (p:=⟨b2,9,none⟩) hbr (.slice F1 p.o.length m1);have T10 : Qa _ _ _ #[.string p.h,.int .i64 p.a.y,.int .i64 p.a.m,.bool p.a.s,.int .i64 p.a.d,.int .i64 p.b.y,.int .i64 p.b.m,.bool p.b.s,.int .i64 p.b.d,.slice F1 p.o.length m1,.slice none 0 0,.slice none 0 0]:=Xj T9 9 (.slice F1 p.o.length m1)
 clear A8 C8 D8 E8 T9;have A10:=Z9 T10 (by decide) A9 10 (.slice F2 p.d.length m2);have C10:=Z9 T10 (by decide) C9 10 (.slice F2 p.d.length m2);have D10:=Jh.set T10 (by decide) (by decide) D9 10 (.slice F2 p.d.length m2);have E10:=E9.setCell (p:=⟨b2,10,none⟩) hbr (.slice F2 p.d.length m2);have T11 : Qa _ _ _ #[.string p.h,.int .i64 p.a.y,.int .i64 p.a.m,.bool p.a.s,.int .i64 p.a.d,.int .i64 p.b.y,.int .i64 p.b.m,.bool p.b.s,.int .i64 p.b.d,.slice F1 p.o.length m1,.slice F2 p.d.length m2,.slice none 0 0]:=Xj T10 10 (.slice F2 p.d.length m2);clear A9 C9 D9 E9 T10;have A11:=Z9 T11 (by decide) A10 11 (.slice F3 p.c.length m3);have C11:=Z9 T11 (by decide) C10 11 (.slice F3 p.c.length m3)
 have D11:=Jh.set T11 (by decide) (by decide) D10 11 (.slice F3 p.c.length m3);have E11:=E10.setCell (p:=⟨b2,11,none⟩) hbr (.slice F3 p.c.length m3);have T12 : Qa _ _ _ #[.string p.h,.int .i64 p.a.y,.int .i64 p.a.m,.bool p.a.s,.int .i64 p.a.d,.int .i64 p.b.y,.int .i64 p.b.m,.bool p.b.s,.int .i64 p.b.d,.slice F1 p.o.length m1,.slice F2 p.d.length m2,.slice F3 p.c.length m3]:=Xj T11 11 (.slice F3 p.c.length m3);clear A10 C10 D10 E10 T11;have wq' : ∃ wq,wq = ((((((((((((wz.setCell ⟨b2,0,none⟩ (.string p.h)).setCell ⟨b2,1,none⟩ (.int .i64 p.a.y)).setCell ⟨b2,2,none⟩ (.int .i64 p.a.m)).setCell ⟨b2,3,none⟩ (.bool p.a.s)).setCell ⟨b2,4,none⟩ (.int .i64 p.a.d)).setCell ⟨b2,5,none⟩ (.int .i64 p.b.y)).setCell ⟨b2,6,none⟩ (.int .i64 p.b.m)).setCell ⟨b2,7,none⟩ (.bool p.b.s)).setCell ⟨b2,8,none⟩ (.int .i64 p.b.d)).setCell ⟨b2,9,none⟩ (.slice F1 p.o.length m1)).setCell ⟨b2,10,none⟩ (.slice F2 p.d.length m2)).setCell ⟨b2,11,none⟩ (.slice F3 p.c.length m3)):=⟨_,rfl⟩
 obtain ⟨wq,hwq⟩:=wq';go_wp2;rw [← hwq] at A11 C11 D11 E11 T12 ⊢;clear hwq;obtain ⟨y0,y1,y2,y3,y4,y5,y6,y7,y8,y9,y10,y11⟩:=Qa.c12 T12;refine bodyPost_ret (v:=.agg #[.string p.h,.int .i64 p.a.y,.int .i64 p.a.m,.bool p.a.s,.int .i64 p.a.d,.int .i64 p.b.y,.int .i64 p.b.m,.bool p.b.s,.int .i64 p.b.d,.slice F1 p.o.length m1,.slice F2 p.d.length m2,.slice F3 p.c.length m3]) (by simp [results,Tryz.results33,go_sem,y0,y1,y2,y3,y4,y5,y6,y7,y8,y9,y10,y11]) rfl ⟨_,_,_,rfl,E11,A11,D11,C11⟩
end
section
open Go Go.RowKit Go.Shelf
attribute [local go_sem] Z5
attribute [local go_sem high] Ry
theorem Cp {l1 l2 : List Lt} {k : Nat} (h : Za l1 k ≠ Za l2 k) : l1 ≠ l2:=fun e => h (by rw [e])
theorem Cn {l1 l2 : List Lt} (hl : l1.length = l2.length) (h : ∀ k,k < l1.length → Za l1 k = Za l2 k) : l1 = l2:=by
 refine List.ext_getElem hl fun i h1 h2 => ?_
 have:=h i h1
 rwa [Kd h1,Kd h2] at this
theorem Cs {x y : Lt} (h1 : x.g = y.g) (h2 : x.n = y.n) : x = y:=by cases x;cases y;simp_all
theorem Oo {c : Qf} (hv : c.valid = true) (d : Dt) : 0 ≤ c.numV d ∧ c.numV d ≤ 1000000000:=by
 refine ⟨Qgo hv,?_⟩;by_cases h : c.numV d = 0
 ·omega
 ·obtain ⟨h1,h2,_⟩:=Om hv h;have h3:=(num_le h1).2;have h4:=(Lu c c.ny).2;have h5:=Ef hv;omega
theorem Qh3 (v1 v2 : Value) (l1 l2 : List Lt) (w : World) (h1 : Zz w v1 l1) (h2 : Zz w v2 l2) :
  Calls Tryz.prog 53 #[v1,v2] w fun e w' => e = .returned (.bool (decide (l1 = l2))) ∧ Qb w w':=by
 obtain ⟨A,ca,rfl,hA,hca,hca',_⟩:=h1;obtain ⟨B,cb,rfl,hB,hcb,hcb',_⟩:=h2;have hn1 : l1.length ≤ 9223372036854775807:=Nat.le_trans hca (Nat.le_trans hca' (by decide));have hn2 : l2.length ≤ 9223372036854775807:=Nat.le_trans hcb (Nat.le_trans hcb' (by decide));clear hca hca' hcb hcb';by_cases hl : l1.length = l2.length;rotate_left
 ·have hr : decide (l1 = l2) = false:=decide_eq_false fun e => hl (by rw [e])
  rw [hr];have g1 : ((l1.length : Int) == (l2.length : Int)) = false:=beq_eq_false_iff_ne.2 (by omega);have g2 : (l1.length == l2.length) = false:=beq_eq_false_iff_ne.2 hl;clear hr hA hB;generalize l1.length = n1 at *;generalize l2.length = n2 at *
  go_enter Tryz.func53,Tryz.ntmps53
  go_wp2;go_ret;exact ⟨rfl,Qb.refl _⟩
 obtain ⟨R,hR⟩:=Qg (decide (l1 = l2));have hno : Hid (∀ k,k < l1.length → Za l1 k ≠ Za l2 k → R = false):=fun _ _ h => by rw [hR];exact decide_eq_false (Cp h)
 have hyes : Hid ((∀ k,k < l1.length → Za l1 k = Za l2 k) → R = true):=fun h => by rw [hR];exact decide_eq_true (Cn hl h)
 rw [← hR];clear hR;rw [← hl] at hB ⊢;clear hl hn2;generalize l1.length = n at *;generalize Za l1 = f at *;generalize Za l2 = g at *
 go_enter Tryz.func53,Tryz.ntmps53
 go_upto_region 4 with (fail)
 go_loopw [5] (fun i wr => ∃ k : Nat,k ≤ n ∧ i = .int .i64 k ∧ Hid (∀ j,j < k → f j = g j) ∧ Qb w wr) (fun i _ => n - (intOf i).toNat)
 case atStart => exact ⟨0,Nat.zero_le _,rfl,fun j h => absurd h (by omega),Qb.refl _⟩
 case round =>
  obtain ⟨k,hk,rfl,heq,hE⟩:=hrel;obtain ⟨wo,rfl⟩:=Qg wr;by_cases hlt : k < n
  ·obtain ⟨b, off, rfl, hb, hc⟩ := (hA.ext hE) (by omega);have c0 : wo.cell? ⟨b, off + k * 2, none⟩ = some (.string (f k).g) := by simpa [Zc] using hc k 0 _ hlt rfl
   have c1 : wo.cell? ⟨b,off + k * 2 + 1,none⟩ = some (.int .i64 (f k).n):=by simpa [Zc] using hc k 1 _ hlt rfl
   clear hc;obtain ⟨b2,off2,rfl,hb2,hc⟩:=(hB.ext hE) (by omega);have d0 : wo.cell? ⟨b2,off2 + k * 2,none⟩ = some (.string (g k).g):=by simpa [Zc] using hc k 0 _ hlt rfl
   have d1 : wo.cell? ⟨b2,off2 + k * 2 + 1,none⟩ = some (.int .i64 (g k).n):=by simpa [Zc] using hc k 1 _ hlt rfl
   clear hc hA hB;by_cases e : f k = g k
   ·have hall : Hid (∀ j,j < k + 1 → f j = g j):=fun j hj => by
     by_cases e2 : j = k
     ·subst e2;exact e
     ·exact heq.out j (by omega)
    rw [← e] at d0 d1;clear heq hno hyes e;generalize (f k).g = s at *;generalize (f k).n = z at *;go_upto_region 6 with (fail)
    refine Zd wo Qo (by kernel_rfl) Qj ?_;intro hne hrx hry;try simp only []
    try simp only [List.append_eq,List.cons_append,List.nil_append]
    skip
    repeat (first
     | go_big_quiet_skip
     | (go_big_quiet_want;go_big_quiet_op;go_big_quiet_on))
    clear hne hry hrx;refine wpQuiet_nil ?_;intro w2 h2;obtain ⟨hcw2,hfw2,hzw2⟩:=Qb.rules h2;try simp only [World.size_alloc] at hzw2
    obtain ⟨hcbw2,hfbw2,hzbw2⟩:=Qb.rules (show Qb wo w2 from Qj);clear hcw2 hfw2;go_wp2;exact ⟨⟨k + 1,by omega,by go_num,hall,hE.trans h2⟩,by simp [intOf];omega⟩
   ·obtain rfl:=hno.out k hlt e
    have hq : (((f k).g.toList == (g k).g.toList) && ((f k).n == (g k).n)) = false:=by
     rw [Bool.and_eq_false_iff];by_cases e1 : (f k).g = (g k).g
     ·exact .inr (beq_eq_false_iff_ne.2 fun e2 => e (Cs e1 e2))
     ·exact .inl (beq_eq_false_iff_ne.2 fun e2 => e1 (Vr e2))
    clear heq hno hyes e;generalize (f k).g = s at *;generalize (f k).n = z at *;generalize (g k).g = s' at *;generalize (g k).n = z' at *;generalize hq1 : (s.toList == s'.toList) = q1 at *;generalize hq2 : (z == z') = q2 at *;have hq' : (q1 = true → q2 = false):=by cases q1 <;> simp_all
    go_upto_region 6 with (fail)
    refine Zd wo Qo (by kernel_rfl) Qj ?_;intro hne hrx hry;try simp only []
    try simp only [List.append_eq,List.cons_append,List.nil_append]
    skip
    repeat (first
     | go_big_quiet_skip
     | (go_big_quiet_want;go_big_quiet_op;go_big_quiet_on))
    clear hne hry hrx;refine wpQuiet_nil ?_;intro w2 h2;obtain ⟨hcw2,hfw2,hzw2⟩:=Qb.rules h2;try simp only [World.size_alloc] at hzw2
    obtain ⟨hcbw2,hfbw2,hzbw2⟩:=Qb.rules (show Qb wo w2 from Qj);clear hcw2 hfw2;cases q1 <;> cases q2 <;> first | (exact absurd (hq' rfl) (by decide)) | (go_wp2;go_ret;exact ⟨rfl,hE.trans h2⟩)
  ·obtain rfl : k = n := by omega
   obtain rfl:=hyes.out heq.out;go_wp2;go_ret;exact ⟨rfl,hE⟩
theorem Qdq (v1 v2 : Value) (l1 l2 : List Lt) (w : World) (h1 : Zz w v1 l1) (h2 : Zz w v2 l2) :
  Calls Tryz.prog 74 #[v1,v2] w fun e w' => e = .returned (.bool (decide (l1 = l2))) ∧ Qb w w':=by
 obtain ⟨A,ca,rfl,hA,hca,hca',_⟩:=h1;obtain ⟨B,cb,rfl,hB,hcb,hcb',_⟩:=h2;have hn1 : l1.length ≤ 9223372036854775807:=Nat.le_trans hca (Nat.le_trans hca' (by decide));have hn2 : l2.length ≤ 9223372036854775807:=Nat.le_trans hcb (Nat.le_trans hcb' (by decide));clear hca hca' hcb hcb';by_cases hl : l1.length = l2.length;rotate_left
 ·have hr : decide (l1 = l2) = false:=decide_eq_false fun e => hl (by rw [e])
  rw [hr];have g1 : ((l1.length : Int) == (l2.length : Int)) = false:=beq_eq_false_iff_ne.2 (by omega);have g2 : (l1.length == l2.length) = false:=beq_eq_false_iff_ne.2 hl;clear hr hA hB;generalize l1.length = n1 at *;generalize l2.length = n2 at *
  go_enter Tryz.func74,Tryz.ntmps74
  go_wp2;go_ret;exact ⟨rfl,Qb.refl _⟩
 obtain ⟨R,hR⟩:=Qg (decide (l1 = l2));have hno : Hid (∀ k,k < l1.length → Za l1 k ≠ Za l2 k → R = false):=fun _ _ h => by rw [hR];exact decide_eq_false (Cp h)
 have hyes : Hid ((∀ k,k < l1.length → Za l1 k = Za l2 k) → R = true):=fun h => by rw [hR];exact decide_eq_true (Cn hl h)
 rw [← hR];clear hR;rw [← hl] at hB ⊢;clear hl hn2;generalize l1.length = n at *;generalize Za l1 = f at *;generalize Za l2 = g at *
 go_enter Tryz.func74,Tryz.ntmps74
 go_upto_region 4 with (fail)
 go_loopw [13] (fun i wr => ∃ k : Nat,k ≤ n ∧ i = .int .i64 k ∧ Hid (∀ j,j < k → f j = g j) ∧ Qb w wr) (fun i _ => n - (intOf i).toNat)
 case atStart => exact ⟨0,Nat.zero_le _,rfl,fun j h => absurd h (by omega),Qb.refl _⟩
 case round =>
  obtain ⟨k,hk,rfl,heq,hE⟩:=hrel;obtain ⟨wo,rfl⟩:=Qg wr;by_cases hlt : k < n
  ·obtain ⟨b, off, rfl, hb, hc⟩ := (hA.ext hE) (by omega);have c0 : wo.cell? ⟨b, off + k * 2, none⟩ = some (.string (f k).g) := by simpa [Zc] using hc k 0 _ hlt rfl
   have c1 : wo.cell? ⟨b,off + k * 2 + 1,none⟩ = some (.int .i64 (f k).n):=by simpa [Zc] using hc k 1 _ hlt rfl
   clear hc;obtain ⟨b2,off2,rfl,hb2,hc⟩:=(hB.ext hE) (by omega);have d0 : wo.cell? ⟨b2,off2 + k * 2,none⟩ = some (.string (g k).g):=by simpa [Zc] using hc k 0 _ hlt rfl
   have d1 : wo.cell? ⟨b2,off2 + k * 2 + 1,none⟩ = some (.int .i64 (g k).n):=by simpa [Zc] using hc k 1 _ hlt rfl
   clear hc hA hB;by_cases e : f k = g k
   ·have hall : Hid (∀ j,j < k + 1 → f j = g j):=fun j hj => by
     by_cases e2 : j = k
     ·subst e2;exact e
     ·exact heq.out j (by omega)
    rw [← e] at d0 d1;clear heq hno hyes e;generalize (f k).g = s at *;generalize (f k).n = z at *;go_upto_region 6 with (fail)
    refine Zd wo Qo (by kernel_rfl) Qj ?_;intro hne hrx hry;try simp only []
    try simp only [List.append_eq,List.cons_append,List.nil_append]
    skip
    repeat (first
     | go_big_quiet_skip
     | (go_big_quiet_want;go_big_quiet_op;go_big_quiet_on))
    clear hne hry hrx;refine wpQuiet_nil ?_;intro w2 h2;obtain ⟨hcw2,hfw2,hzw2⟩:=Qb.rules h2;try simp only [World.size_alloc] at hzw2
    obtain ⟨hcbw2,hfbw2,hzbw2⟩:=Qb.rules (show Qb wo w2 from Qj);clear hcw2 hfw2;go_wp2;exact ⟨⟨k + 1,by omega,by go_num,hall,hE.trans h2⟩,by simp [intOf];omega⟩
   ·obtain rfl:=hno.out k hlt e
    have hq : (((f k).g.toList == (g k).g.toList) && ((f k).n == (g k).n)) = false:=by
     rw [Bool.and_eq_false_iff];by_cases e1 : (f k).g = (g k).g
     ·exact .inr (beq_eq_false_iff_ne.2 fun e2 => e (Cs e1 e2))
     ·exact .inl (beq_eq_false_iff_ne.2 fun e2 => e1 (Vr e2))
    clear heq hno hyes e;generalize (f k).g = s at *;generalize (f k).n = z at *;generalize (g k).g = s' at *;generalize (g k).n = z' at *;generalize hq1 : (s.toList == s'.toList) = q1 at *;generalize hq2 : (z == z') = q2 at *;have hq' : (q1 = true → q2 = false):=by cases q1 <;> simp_all
    go_upto_region 6 with (fail)
    refine Zd wo Qo (by kernel_rfl) Qj ?_;intro hne hrx hry;try simp only []
    try simp only [List.append_eq,List.cons_append,List.nil_append]
    skip
    repeat (first
     | go_big_quiet_skip
     | (go_big_quiet_want;go_big_quiet_op;go_big_quiet_on))
    clear hne hry hrx;refine wpQuiet_nil ?_;intro w2 h2;obtain ⟨hcw2,hfw2,hzw2⟩:=Qb.rules h2;try simp only [World.size_alloc] at hzw2
    obtain ⟨hcbw2,hfbw2,hzbw2⟩:=Qb.rules (show Qb wo w2 from Qj);clear hcw2 hfw2;cases q1 <;> cases q2 <;> first | (exact absurd (hq' rfl) (by decide)) | (go_wp2;go_ret;exact ⟨rfl,hE.trans h2⟩)
  ·obtain rfl : k = n := by omega
   obtain rfl:=hyes.out heq.out;go_wp2;go_ret;exact ⟨rfl,hE⟩
end
section
open Go Go.RowKit Go.Shelf
attribute [local go_sem] Z5
attribute [local go_sem high] Qgd
theorem Nv {W : World} {b : Nat} {t : TypeId} {v0 v1 v2 v3 v4 v5 v6 : Value} (h : Qa W b t #[v0,v1,v2,v3,v4,v5,v6]) (u0 u1 u2 u3 u4 u5 u6 : Value) : Qa (((((((W.setCell ⟨b,0,none⟩ u0).setCell ⟨b,1,none⟩ u1).setCell ⟨b,2,none⟩ u2).setCell ⟨b,3,none⟩ u3).setCell ⟨b,4,none⟩ u4).setCell ⟨b,5,none⟩ u5).setCell ⟨b,6,none⟩ u6) b t #[u0,u1,u2,u3,u4,u5,u6]:=by unfold Qa at h ⊢;simp [World.setCell,Array.getElem?_modify,h]
theorem Nj {w W : World} {b : Nat} (h : Qb w W) (hb : w.heap.size ≤ b) (u0 u1 u2 u3 u4 u5 u6 : Value) : Qb w (((((((W.setCell ⟨b,0,none⟩ u0).setCell ⟨b,1,none⟩ u1).setCell ⟨b,2,none⟩ u2).setCell ⟨b,3,none⟩ u3).setCell ⟨b,4,none⟩ u4).setCell ⟨b,5,none⟩ u5).setCell ⟨b,6,none⟩ u6):=(((((((h.setCell (p:=⟨b,0,none⟩) hb u0).setCell (p:=⟨b,1,none⟩) hb u1).setCell (p:=⟨b,2,none⟩) hb u2).setCell (p:=⟨b,3,none⟩) hb u3).setCell (p:=⟨b,4,none⟩) hb u4).setCell (p:=⟨b,5,none⟩) hb u5).setCell (p:=⟨b,6,none⟩) hb u6)
theorem Ug {W : World} {b b' : Nat} {t : TypeId} {cs : Array Value} (h : Qa W b' t cs) (hne : b' ≠ b) (u0 u1 u2 u3 u4 u5 u6 : Value) : Qa (((((((W.setCell ⟨b,0,none⟩ u0).setCell ⟨b,1,none⟩ u1).setCell ⟨b,2,none⟩ u2).setCell ⟨b,3,none⟩ u3).setCell ⟨b,4,none⟩ u4).setCell ⟨b,5,none⟩ u5).setCell ⟨b,6,none⟩ u6) b' t cs:=(Qi (Qi (Qi (Qi (Qi (Qi (Qi h hne 0 u0) hne 1 u1) hne 2 u2) hne 3 u3) hne 4 u4) hne 5 u5) hne 6 u6)
theorem Qh4 (p : Pd) (vo1 vd1 vc1 vo2 vd2 vc2 : Value) (w : World) (hP1 : Xm w p vo1 vd1 vc1) (hP2 : Xm w p vo2 vd2 vc2) :
  Calls Tryz.prog 38 #[.agg #[.string p.h,.int .i64 p.a.y,.int .i64 p.a.m,.bool p.a.s,.int .i64 p.a.d,.int .i64 p.b.y,.int .i64 p.b.m,.bool p.b.s,.int .i64 p.b.d,vo1,vd1,vc1],.agg #[.string p.h,.int .i64 p.a.y,.int .i64 p.a.m,.bool p.a.s,.int .i64 p.a.d,.int .i64 p.b.y,.int .i64 p.b.m,.bool p.b.s,.int .i64 p.b.d,vo2,vd2,vc2]] w fun e w' => e = .returned (.bool true) ∧ Qb w w':=by
 obtain ⟨T1,c1,rfl,_⟩:=id hP1.o;obtain ⟨S1,f1,rfl,_⟩:=id hP1.c;obtain ⟨D1,e1,vs1,rfl,hD1,hcap1,hmax1,_,hat1⟩:=id hP1.d;obtain ⟨T2,c2,rfl,_⟩:=id hP2.o;obtain ⟨S2,f2,rfl,_⟩:=id hP2.c;obtain ⟨D2,e2,vs2,rfl,hD2,hcap2,hmax2,_,hat2⟩:=id hP2.d;have hn : p.d.length ≤ 9223372036854775807:=Nat.le_trans hcap1 (Nat.le_trans hmax1 (by decide));clear hcap1 hmax1 hcap2 hmax2;have NSO:=fun w h1 h2 => Tn (.slice T1 p.o.length c1) (.slice T2 p.o.length c2) p.o w h1 h2
 have NSC:=fun w h1 h2 => Tn (.slice S1 p.c.length f1) (.slice S2 p.c.length f2) p.c w h1 h2
 go_enter Tryz.func38,Tryz.ntmps38
 go_upto_region 1 with (fail)
 obtain ⟨v,hv⟩:=Qg ((w.alloc (.cells #[.string p.h,.int .i64 p.a.y,.int .i64 p.a.m,.bool p.a.s,.int .i64 p.a.d,.int .i64 p.b.y,.int .i64 p.b.m,.bool p.b.s,.int .i64 p.b.d,.slice T1 p.o.length c1,.slice D1 p.d.length e1,.slice S1 p.c.length f1] 55)).alloc (.cells #[.string p.h,.int .i64 p.a.y,.int .i64 p.a.m,.bool p.a.s,.int .i64 p.a.d,.int .i64 p.b.y,.int .i64 p.b.m,.bool p.b.s,.int .i64 p.b.d,.slice T2 p.o.length c2,.slice D2 p.d.length e2,.slice S2 p.c.length f2] 55));rw [← hv];have E : Qb w v:=by rw [hv];exact ((Qb.refl _).alloc _).alloc _
 have B1 : Qa v w.heap.size 55 #[.string p.h,.int .i64 p.a.y,.int .i64 p.a.m,.bool p.a.s,.int .i64 p.a.d,.int .i64 p.b.y,.int .i64 p.b.m,.bool p.b.s,.int .i64 p.b.d,.slice T1 p.o.length c1,.slice D1 p.d.length e1,.slice S1 p.c.length f1]:=by rw [hv];exact (Qa.new _ _ _).alloc _
 have B2 : Qa v (w.heap.size + 1) 55 #[.string p.h,.int .i64 p.a.y,.int .i64 p.a.m,.bool p.a.s,.int .i64 p.a.d,.int .i64 p.b.y,.int .i64 p.b.m,.bool p.b.s,.int .i64 p.b.d,.slice T2 p.o.length c2,.slice D2 p.d.length e2,.slice S2 p.c.length f2]:=by rw [hv];exact Qa.at _ _ _ _ (by simp)
 clear hv;obtain ⟨b2,hb2⟩:=Qg (w.heap.size + 1);rw [← hb2] at B2 ⊢;obtain ⟨b1,hb1⟩:=Qg (w.heap.size);rw [← hb1] at B1 ⊢;have hbr : w.heap.size ≤ b2:=by omega
 have hbr1 : w.heap.size ≤ b1:=by omega
 have hn21 : b2 ≠ b1:=by omega
 clear hb1 hb2;have Q1:=hP1.ext E;have Q2:=hP2.ext E;clear hP1 hP2;obtain ⟨j0,j1,j2,j3,j4,j5,j6,j7,j8,j9,j10,j11⟩:=B1.c12;have jl:=B1.lt;obtain ⟨k0,k1,k2,k3,k4,k5,k6,k7,k8,k9,k10,k11⟩:=B2.c12;have kl:=B2.lt;go_upto_region 3 with (first | (go_at_call 53;(with_reducible refine Calls.mono (NSO _ Q1.o Q2.o) ?_);rintro e w1 ⟨rfl,hx⟩;replace E:=E.trans hx;replace Q1:=Q1.ext hx;replace Q2:=Q2.ext hx;replace B1:=B1.ext hx;replace B2:=B2.ext hx;clear hx;clear j0 j1 j2 j3 j4 j5 j6 j7 j8 j9 j10 j11 jl k0 k1 k2 k3 k4 k5 k6 k7 k8 k9 k10 k11 kl;obtain ⟨j0,j1,j2,j3,j4,j5,j6,j7,j8,j9,j10,j11⟩:=B1.c12;have jl:=B1.lt;obtain ⟨k0,k1,k2,k3,k4,k5,k6,k7,k8,k9,k10,k11⟩:=B2.c12;have kl:=B2.lt) | (go_at_call 53;(with_reducible refine Calls.mono (NSC _ Q1.c Q2.c) ?_);rintro e w2 ⟨rfl,hx⟩;replace E:=E.trans hx;replace Q1:=Q1.ext hx;replace Q2:=Q2.ext hx;replace B1:=B1.ext hx;replace B2:=B2.ext hx;clear hx;clear j0 j1 j2 j3 j4 j5 j6 j7 j8 j9 j10 j11 jl k0 k1 k2 k3 k4 k5 k6 k7 k8 k9 k10 k11 kl;obtain ⟨j0,j1,j2,j3,j4,j5,j6,j7,j8,j9,j10,j11⟩:=B1.c12;have jl:=B1.lt;obtain ⟨k0,k1,k2,k3,k4,k5,k6,k7,k8,k9,k10,k11⟩:=B2.c12;have kl:=B2.lt))
 clear NSO NSC;obtain ⟨g,hg⟩:=Qg (fun i => p.d.getD i Zi);have hg' : ∀ i,p.d.getD i Zi = g i:=fun i => by rw [hg]
 simp only [hg'] at hD1 hat1 hD2 hat2;clear hg hg' Q1 Q2;replace hD1:=hD1.ext E;replace hD2:=hD2.ext E;generalize p.d.length = n at *;replace hat1:=Lib.hid (fun i hi => (hat1 i hi).ext E);replace hat2:=Lib.hid (fun i hi => (hat2 i hi).ext E);go_upto_region 4 with (fail)
 go_loopw [5] (fun iv wr => ∃ k : Nat,k ≤ n ∧ iv = .int .i64 k ∧ Qb w2 wr) (fun iv _ => n - (intOf iv).toNat)
 case atStart => exact ⟨0,Nat.zero_le _,rfl,Qb.refl _⟩
 case round =>
  obtain ⟨k,hk,rfl,hE⟩:=hrel;obtain ⟨wo,rfl⟩:=Qg wr;clear j0 j1 j2 j3 j4 j5 j6 j7 j8 j9 j10 j11 jl k0 k1 k2 k3 k4 k5 k6 k7 k8 k9 k10 k11 kl;have B1o:=B1.ext hE;have B2o:=B2.ext hE;obtain ⟨j0,j1,j2,j3,j4,j5,j6,j7,j8,j9,j10,j11⟩:=Qa.c12 B1o;have jl:=Qa.lt B1o;obtain ⟨k0,k1,k2,k3,k4,k5,k6,k7,k8,k9,k10,k11⟩:=Qa.c12 B2o;have kl:=Qa.lt B2o;by_cases hlt : k < n
  ·obtain ⟨b, off, rfl, hb, hc⟩ := (hD1.ext hE) (by omega);have c0 : wo.cell? ⟨b, off + k * 7, none⟩ = some (.int .i64 (g k).on.y) := by simpa [Qz] using hc k 0 _ hlt rfl
   have c1 : wo.cell? ⟨b,off + k * 7 + 1,none⟩ = some (.int .i64 (g k).on.m):=by simpa [Qz] using hc k 1 _ hlt rfl
   have c2 : wo.cell? ⟨b,off + k * 7 + 2,none⟩ = some (.bool (g k).on.s):=by simpa [Qz] using hc k 2 _ hlt rfl
   have c3 : wo.cell? ⟨b,off + k * 7 + 3,none⟩ = some (.int .i64 (g k).on.d):=by simpa [Qz] using hc k 3 _ hlt rfl
   have c4 : wo.cell? ⟨b,off + k * 7 + 4,none⟩ = some (.bool (g k).i):=by simpa [Qz] using hc k 4 _ hlt rfl
   have c5 : wo.cell? ⟨b,off + k * 7 + 5,none⟩ = some (.string (g k).w):=by simpa [Qz] using hc k 5 _ hlt rfl
   have c6 : wo.cell? ⟨b,off + k * 7 + 6,none⟩ = some (vs1 k):=by simpa [Qz] using hc k 6 _ hlt rfl
   clear hc;obtain ⟨b',off',rfl,hb',hc⟩:=(hD2.ext hE) (by omega);have d0 : wo.cell? ⟨b',off' + k * 7,none⟩ = some (.int .i64 (g k).on.y):=by simpa [Qz] using hc k 0 _ hlt rfl
   have d1 : wo.cell? ⟨b',off' + k * 7 + 1,none⟩ = some (.int .i64 (g k).on.m):=by simpa [Qz] using hc k 1 _ hlt rfl
   have d2 : wo.cell? ⟨b',off' + k * 7 + 2,none⟩ = some (.bool (g k).on.s):=by simpa [Qz] using hc k 2 _ hlt rfl
   have d3 : wo.cell? ⟨b',off' + k * 7 + 3,none⟩ = some (.int .i64 (g k).on.d):=by simpa [Qz] using hc k 3 _ hlt rfl
   have d4 : wo.cell? ⟨b',off' + k * 7 + 4,none⟩ = some (.bool (g k).i):=by simpa [Qz] using hc k 4 _ hlt rfl
   have d5 : wo.cell? ⟨b',off' + k * 7 + 5,none⟩ = some (.string (g k).w):=by simpa [Qz] using hc k 5 _ hlt rfl
   have d6 : wo.cell? ⟨b',off' + k * 7 + 6,none⟩ = some (vs2 k):=by simpa [Qz] using hc k 6 _ hlt rfl
   clear hc;have L1:=(hat1.out k hlt).ext hE;have L2:=(hat2.out k hlt).ext hE;obtain ⟨VL1,hv1⟩:=Qg (vs1 k);obtain ⟨VL2,hv2⟩:=Qg (vs2 k);rw [← hv1] at c6 L1;rw [← hv2] at d6 L2;clear hv1 hv2 hat1 hat2 hD1 hD2;generalize g k = G at *;obtain ⟨TL1,cl1,hVL,_⟩:=id L1;subst hVL;obtain ⟨TL2,cl2,hVL,_⟩:=id L2;subst hVL;have NSL:=fun w h1 h2 => Tn (.slice TL1 G.l.length cl1) (.slice TL2 G.l.length cl2) G.l w h1 h2
   go_upto_region 6 with (fail)
   clear j0 j1 j2 j3 j4 j5 j6 j7 j8 j9 j10 j11 jl k0 k1 k2 k3 k4 k5 k6 k7 k8 k9 k10 k11 kl;apply W8 (S:=fun w' p1 p2 => Qb wo w' ∧ p1 ≠ p2 ∧ Qa w' p1 57 #[.int .i64 G.on.y,.int .i64 G.on.m,.bool G.on.s,.int .i64 G.on.d,.bool G.i,.string G.w,.slice TL1 G.l.length cl1] ∧ Qa w' p2 57 #[.int .i64 G.on.y,.int .i64 G.on.m,.bool G.on.s,.int .i64 G.on.d,.bool G.i,.string G.w,.slice TL2 G.l.length cl2])
   ·refine Zb 14 [13] (fun x => Qb wo x) Qo rfl ?_;intro vz hvz;have HC:=hvz;refine Qs (g:=4) [0,1,2,3,4,5,6,7,8,9] [_,_,_,_,_,_,_,_,_,_] ⟨rfl,rfl,rfl,rfl,rfl,rfl,rfl,rfl,rfl,rfl,trivial⟩ (by kernel_rfl) (by kernel_rfl) HC ?_;simp only [Qc,Qd,Qe];apply Exists.intro;refine ⟨fun u hu => ?_,?_⟩
    ·obtain ⟨j0,j1,j2,j3,j4,j5,j6,j7,j8,j9,j10,j11⟩:=Qa.c12 (Qa.ext B1o hu);have jl:=Qa.lt (Qa.ext B1o hu);obtain ⟨k0,k1,k2,k3,k4,k5,k6,k7,k8,k9,k10,k11⟩:=Qa.c12 (Qa.ext B2o hu);have kl:=Qa.lt (Qa.ext B2o hu);have r0:=(hu.cell (p:=⟨b,off + k * 7,none⟩) hb).trans c0;have r1:=(hu.cell (p:=⟨b,off + k * 7 + 1,none⟩) hb).trans c1;have r2:=(hu.cell (p:=⟨b,off + k * 7 + 2,none⟩) hb).trans c2;have r3:=(hu.cell (p:=⟨b,off + k * 7 + 3,none⟩) hb).trans c3;have r4:=(hu.cell (p:=⟨b,off + k * 7 + 4,none⟩) hb).trans c4;have r5:=(hu.cell (p:=⟨b,off + k * 7 + 5,none⟩) hb).trans c5;have r6:=(hu.cell (p:=⟨b,off + k * 7 + 6,none⟩) hb).trans c6
     have s0:=(hu.cell (p:=⟨b',off' + k * 7,none⟩) hb').trans d0;have s1:=(hu.cell (p:=⟨b',off' + k * 7 + 1,none⟩) hb').trans d1;have s2:=(hu.cell (p:=⟨b',off' + k * 7 + 2,none⟩) hb').trans d2;have s3:=(hu.cell (p:=⟨b',off' + k * 7 + 3,none⟩) hb').trans d3;have s4:=(hu.cell (p:=⟨b',off' + k * 7 + 4,none⟩) hb').trans d4;have s5:=(hu.cell (p:=⟨b',off' + k * 7 + 5,none⟩) hb').trans d5;have s6:=(hu.cell (p:=⟨b',off' + k * 7 + 6,none⟩) hb').trans d6;have hbu:=Nat.lt_of_lt_of_le hb hu.size;have hbu':=Nat.lt_of_lt_of_le hb' hu.size;repeat (first | go_big_quiet_skip | (go_big_quiet_want;go_big_quiet_op;go_big_quiet_on))
     refine wpQuiet_nil ?_;rfl
    refine Zh 10 11 rfl rfl (by kernel_rfl) ?_ ?_
    ·simp only [Qc, Qd, Qe];go_wp2;obtain ⟨p1, wb, hbq, hwb, H10, HC', hx, gp1⟩ := Qn HC 57 #[.int .i64 0, .int .i64 0, .bool false, .int .i64 0, .bool false, .string ⟨#[]⟩, .slice none 0 0];rw [← hbq, ← hwb];try have ne : p2 < p1 := by have := H11.lt; omega
     replace HC:=HC';try replace H11:=H11.ext hx
     clear hbq hwb hx HC';refine Qh HC ?_;refine Ql 11 rfl (by kernel_rfl) ?_;simp only [Qc,Qd,Qe];go_wp2;obtain ⟨p2,wb,hbq,hwb,H11,HC',hx,gp2⟩:=Qn HC 57 #[.int .i64 0,.int .i64 0,.bool false,.int .i64 0,.bool false,.string ⟨#[]⟩,.slice none 0 0];rw [← hbq,← hwb];try have ne : p1 < p2:=by have:=H10.lt;omega
     replace HC:=HC';try replace H10:=H10.ext hx
     clear hbq hwb hx HC';refine Qh HC ?_;refine Ql 12 rfl (by kernel_rfl) ?_;simp only [Qc,Qd,Qe];have z0:=Qa.frozen H10 0;have z1:=Qa.frozen H10 1;have z2:=Qa.frozen H10 2;have z3:=Qa.frozen H10 3;have z4:=Qa.frozen H10 4;have z5:=Qa.frozen H10 5;have z6:=Qa.frozen H10 6;obtain ⟨x0,x1,x2,x3,x4,x5,x6⟩:=Q4 H10;have lx:=Qa.lt H10;go_wp2;have Hn:=Nv H10 (.int .i64 G.on.y) (.int .i64 G.on.m) (.bool G.on.s) (.int .i64 G.on.d) (.bool G.i) (.string G.w) (.slice TL1 G.l.length cl1);try have On:=Ug H11 (show p2 ≠ p1 by omega) (.int .i64 G.on.y) (.int .i64 G.on.m) (.bool G.on.s) (.int .i64 G.on.d) (.bool G.i) (.string G.w) (.slice TL1 G.l.length cl1)
     replace HC:=Nj HC gp1 (.int .i64 G.on.y) (.int .i64 G.on.m) (.bool G.on.s) (.int .i64 G.on.d) (.bool G.i) (.string G.w) (.slice TL1 G.l.length cl1);clear H10 z0 z1 z2 z3 z4 z5 z6 x0 x1 x2 x3 x4 x5 x6 lx;have H10:=Hn;try (replace H11:=On;clear On)
     clear Hn;generalize World.setCell _ _ _ = wq at *;refine Qh HC ?_;refine Qr 13 rfl (by kernel_rfl) ?_;simp only [Qc,Qd,Qe];have z0:=Qa.frozen H11 0;have z1:=Qa.frozen H11 1;have z2:=Qa.frozen H11 2;have z3:=Qa.frozen H11 3;have z4:=Qa.frozen H11 4;have z5:=Qa.frozen H11 5;have z6:=Qa.frozen H11 6;obtain ⟨x0,x1,x2,x3,x4,x5,x6⟩:=Q4 H11;have lx:=Qa.lt H11;go_wp2;have Hn:=Nv H11 (.int .i64 G.on.y) (.int .i64 G.on.m) (.bool G.on.s) (.int .i64 G.on.d) (.bool G.i) (.string G.w) (.slice TL2 G.l.length cl2);try have On:=Ug H10 (show p1 ≠ p2 by omega) (.int .i64 G.on.y) (.int .i64 G.on.m) (.bool G.on.s) (.int .i64 G.on.d) (.bool G.i) (.string G.w) (.slice TL2 G.l.length cl2)
     replace HC:=Nj HC gp2 (.int .i64 G.on.y) (.int .i64 G.on.m) (.bool G.on.s) (.int .i64 G.on.d) (.bool G.i) (.string G.w) (.slice TL2 G.l.length cl2);clear H11 z0 z1 z2 z3 z4 z5 z6 x0 x1 x2 x3 x4 x5 x6 lx;have H11:=Hn;try (replace H10:=On;clear On)
     clear Hn;generalize World.setCell _ _ _ = wq at *;refine Qq ?_;refine Qv (by kernel_rfl) ?_;exact Ja p1 p2 ⟨HC,by omega,H10,H11⟩ rfl
    ·simp only [Qc, Qd, Qe];go_wp2;obtain ⟨p2, wb, hbq, hwb, H11, HC', hx, gp2⟩ := Qn HC 57 #[.int .i64 0, .int .i64 0, .bool false, .int .i64 0, .bool false, .string ⟨#[]⟩, .slice none 0 0];rw [← hbq, ← hwb];try have ne : p1 < p2 := by have := H10.lt; omega
     replace HC:=HC';try replace H10:=H10.ext hx
     clear hbq hwb hx HC';refine Qh HC ?_;refine Ql 10 rfl (by kernel_rfl) ?_;simp only [Qc,Qd,Qe];go_wp2;obtain ⟨p1,wb,hbq,hwb,H10,HC',hx,gp1⟩:=Qn HC 57 #[.int .i64 0,.int .i64 0,.bool false,.int .i64 0,.bool false,.string ⟨#[]⟩,.slice none 0 0];rw [← hbq,← hwb];try have ne : p2 < p1:=by have:=H11.lt;omega
     replace HC:=HC';try replace H11:=H11.ext hx
     clear hbq hwb hx HC';refine Qh HC ?_;refine Ql 12 rfl (by kernel_rfl) ?_;simp only [Qc,Qd,Qe];have z0:=Qa.frozen H10 0;have z1:=Qa.frozen H10 1;have z2:=Qa.frozen H10 2;have z3:=Qa.frozen H10 3;have z4:=Qa.frozen H10 4;have z5:=Qa.frozen H10 5;have z6:=Qa.frozen H10 6;obtain ⟨x0,x1,x2,x3,x4,x5,x6⟩:=Q4 H10;have lx:=Qa.lt H10;go_wp2;have Hn:=Nv H10 (.int .i64 G.on.y) (.int .i64 G.on.m) (.bool G.on.s) (.int .i64 G.on.d) (.bool G.i) (.string G.w) (.slice TL1 G.l.length cl1);try have On:=Ug H11 (show p2 ≠ p1 by omega) (.int .i64 G.on.y) (.int .i64 G.on.m) (.bool G.on.s) (.int .i64 G.on.d) (.bool G.i) (.string G.w) (.slice TL1 G.l.length cl1)
     replace HC:=Nj HC gp1 (.int .i64 G.on.y) (.int .i64 G.on.m) (.bool G.on.s) (.int .i64 G.on.d) (.bool G.i) (.string G.w) (.slice TL1 G.l.length cl1);clear H10 z0 z1 z2 z3 z4 z5 z6 x0 x1 x2 x3 x4 x5 x6 lx;have H10:=Hn;try (replace H11:=On;clear On)
     clear Hn;generalize World.setCell _ _ _ = wq at *;refine Qh HC ?_;refine Qr 13 rfl (by kernel_rfl) ?_;simp only [Qc,Qd,Qe];have z0:=Qa.frozen H11 0;have z1:=Qa.frozen H11 1;have z2:=Qa.frozen H11 2;have z3:=Qa.frozen H11 3;have z4:=Qa.frozen H11 4;have z5:=Qa.frozen H11 5;have z6:=Qa.frozen H11 6;obtain ⟨x0,x1,x2,x3,x4,x5,x6⟩:=Q4 H11;have lx:=Qa.lt H11;go_wp2;have Hn:=Nv H11 (.int .i64 G.on.y) (.int .i64 G.on.m) (.bool G.on.s) (.int .i64 G.on.d) (.bool G.i) (.string G.w) (.slice TL2 G.l.length cl2);try have On:=Ug H10 (show p1 ≠ p2 by omega) (.int .i64 G.on.y) (.int .i64 G.on.m) (.bool G.on.s) (.int .i64 G.on.d) (.bool G.i) (.string G.w) (.slice TL2 G.l.length cl2)
     replace HC:=Nj HC gp2 (.int .i64 G.on.y) (.int .i64 G.on.m) (.bool G.on.s) (.int .i64 G.on.d) (.bool G.i) (.string G.w) (.slice TL2 G.l.length cl2);clear H11 z0 z1 z2 z3 z4 z5 z6 x0 x1 x2 x3 x4 x5 x6 lx;have H11:=Hn;try (replace H10:=On;clear On)
     clear Hn;generalize World.setCell _ _ _ = wq at *;refine Qq ?_;refine Qv (by kernel_rfl) ?_;exact Ja p1 p2 ⟨HC,by omega,H10,H11⟩ rfl
   rintro p1 p2 w3 ⟨h3,ne,H10,H11⟩;replace L1:=L1.ext h3;replace L2:=L2.ext h3;clear c0 c1 c2 c3 c4 c5 c6 d0 d1 d2 d3 d4 d5 d6 hb hb';obtain ⟨x0,x1,x2,x3,x4,x5,x6⟩:=Q4 H10;have xl:=Qa.lt H10;obtain ⟨y0,y1,y2,y3,y4,y5,y6⟩:=Q4 H11;have yl:=Qa.lt H11;go_wp2_with (go_at_call 53;(with_reducible refine Calls.mono (NSL _ L1 L2) ?_);rintro e w4 ⟨rfl,h4⟩);exact ⟨⟨k + 1,by omega,by go_num,(hE.trans h3).trans h4⟩,by simp [intOf];omega⟩
  ·obtain rfl : k = n := by omega
   go_wp2;go_ret;exact ⟨rfl,E.trans hE⟩
end
section
open Go Go.ChangeShapes Go.WideShapes Go.ChangeAt Go.RowKit Go.Deep
section
variable {H : Type} {enc : TypeId × Value → H} {w : World} {base : Nat} {spare : Nat → Bool} {held : Bool} {r : Reach} {b0 : Nat} {v : Value} {d : DataW H} {p : List MemPlace}
theorem Qew (hv : Value.okWide Tryz.prog w r b0 3 v) (h : DataW.Trod enc Tryz.prog w base spare held 3 v d p) : ∃ z : Int,v = .int .i64 z ∧ -9223372036854775808 ≤ z ∧ z ≤ 9223372036854775807:=by
 obtain ⟨z,rfl⟩:=okWide_int Tryz.underlying3 hv;obtain ⟨n,h⟩:=h;obtain ⟨z',e,h1⟩:=Vf (v:=.int .i64 z) ⟨_,h⟩;cases e
 exact ⟨z,rfl,h1⟩
end
section
variable {H : Type} {enc : TypeId × Value → H} {w : World} {base : Nat} {spare : Nat → Bool} {held : Bool} {r : Reach} {b0 : Nat} {v : Value} {d : DataW H} {p : List MemPlace}
theorem Qh7 {P : Program} {ts : List TypeId} {ds : List (DataW H)} {j : Nat} {t : TypeId} (h : (DataW.weightsEach P ts ds).all (· ≤ reachBytes) = true) (ht : ts[j]? = some t) (hd : ds[j]? = some d) : ∀ n ∈ d.weights P t,n ≤ reachBytes:=fun n hn => by
 have:=List.all_eq_true.1 h _ (DataW.weights_mem_each ht hd n hn)
 simpa using this
theorem K8 {P : Program} {m : Nat} {t : TypeId} {cs : List Value} {o : Nat} {xs : List (DataW H × List MemPlace)} {n i : Nat} (hi : i < xs.length) (h : DataW.trod enc P w base spare held m t ((cs.drop o).take (P.cellsOf t)) = xs[i]?) (hn : P.cellsOf t = n) :
  DataW.trod enc P w base spare held m t ((cs.drop o).take n) = some xs[i]:=by
 rw [hn] at h;rw [h,List.getElem?_eq_getElem hi]
theorem Tg : reachBytes = 140737488351232:=rfl
end
end
section
structure Yh where
 e : Int
 r : Int
 l : Int
 deriving DecidableEq
def Ku : Yh:=⟨0,0,0⟩
def nOk (n : Int) : Bool:=decide (0 ≤ n) && decide (n ≤ 1048576)
def Yh.ok (h : Yh) : Bool:=nOk h.e && nOk h.r && nOk h.l
def Zj (n : Int) (d : Rt) : Int:=n - d.n * n / d.d
def Kq (b d : Rt) (h : Yh) : Yh:=⟨Zj h.e d + (Zj h.l d + 1) / 2,Zj h.r d + Zj h.l d / 2,b.n * Zj h.e d / b.d⟩
def Kp (b d : Rt) : Nat → Yh → Yh × Int
 | 0,h => (h,0)
 | m + 1,h => if (Kq b d h).ok then Kp b d m (Kq b d h) else (Ku,6)
def Ub (h : Yh) (b d : Rt) (y : Int) : Yh × Int:=if h.ok then (if b.shr && d.shr then (if y < 0 ∨ 40 < y then (Ku,8) else Kp b d y.toNat h) else (Ku,2)) else (Ku,82)
theorem Rx {n : Int} : nOk n = true ↔ 0 ≤ n ∧ n ≤ 1048576:=by simp [nOk]
theorem Tq {r : Rt} (h : r.shr = true) : 0 ≤ r.n ∧ r.n ≤ r.d ∧ 1 ≤ r.d ∧ r.d ≤ 1048576:=by
 simp only [Rt.shr,Bool.and_eq_true,decide_eq_true_eq] at h;have:=J2 h.1.1;omega
theorem Mi {n : Int} {r : Rt} (h : r.shr = true) (h1 : 0 ≤ n) (h2 : n ≤ 1048576) : 0 ≤ r.n * n ∧ r.n * n ≤ 1099511627776 ∧ 0 ≤ r.n * n / r.d ∧ r.n * n / r.d ≤ n:=by
 obtain ⟨r1,r2,r3,r4⟩:=Tq h;have m0:=Int.mul_nonneg r1 h1;have m1:=Kx (a:=r.n) (b:=n) (A:=1048576) (B:=1048576) (by omega) (by omega) h1 h2;refine ⟨m0,by omega,Int.ediv_nonneg m0 (by omega),Int.ediv_le_of_le_mul (by omega) ?_⟩;rw [Int.mul_comm n];exact Int.mul_le_mul_of_nonneg_right r2 h1
theorem Fp {n : Int} {d : Rt} (h : d.shr = true) (h1 : 0 ≤ n) (h2 : n ≤ 1048576) : 0 ≤ Zj n d ∧ Zj n d ≤ 1048576:=by
 have:=Mi h h1 h2;unfold Zj;omega
end
end Go.Proofs.YtoflcheopfppoaaGreatDoor
