/- Walks of the program's functions and plain facts, packed; proved: the lemmas below; no conditions but those that each states. -/
import Derived.Test.YtoflcheopfppoaaGreatDoorL5
import Derived.Test.YtoflcheopfppoaaGreatDoorL11
import Derived.LaidSub
import Derived.Test.YtoflcheopfppoaaGreatDoorL10
set_option maxRecDepth 100000
set_option maxHeartbeats 4000000
namespace Go.Proofs.YtoflcheopfppoaaGreatDoor
section
open Go Go.RowKit Go.Shelf
attribute [local go_sem] Z5
def Wb (h : Yh) : Nat → Bool
 | 0 => true
 | 1 => true && (decide (0 ≤ h.e) && decide (h.e ≤ 1048576))
 | 2 => (true && (decide (0 ≤ h.e) && decide (h.e ≤ 1048576))) && (decide (0 ≤ h.r) && decide (h.r ≤ 1048576))
 | _ => ((true && (decide (0 ≤ h.e) && decide (h.e ≤ 1048576))) && (decide (0 ≤ h.r) && decide (h.r ≤ 1048576))) && (decide (0 ≤ h.l) && decide (h.l ≤ 1048576))
section
variable {W w : World} {b : Nat} {t : TypeId} {v0 v1 v2 : Value}
theorem Bg (h : Qa W b t #[v0,v1,v2]) (u : Value) : Qa (W.setCell ⟨b,0,none⟩ u) b t #[u,v1,v2]:=by unfold Qa at h ⊢;simp [World.setCell,Array.getElem?_modify,h]
theorem Bh (h : Qa W b t #[v0,v1,v2]) (u : Value) : Qa (W.setCell ⟨b,1,none⟩ u) b t #[v0,u,v2]:=by unfold Qa at h ⊢;simp [World.setCell,Array.getElem?_modify,h]
theorem Bi (h : Qa W b t #[v0,v1,v2]) (u : Value) : Qa (W.setCell ⟨b,2,none⟩ u) b t #[v0,v1,u]:=by unfold Qa at h ⊢;simp [World.setCell,Array.getElem?_modify,h]
theorem V8 (h : Qa W b t #[v0,v1,v2]) (u0 u1 u2 : Value) : Qa (((W.setCell ⟨b,0,none⟩ u0).setCell ⟨b,1,none⟩ u1).setCell ⟨b,2,none⟩ u2) b t #[u0,u1,u2]:=by unfold Qa at h ⊢;simp [World.setCell,Array.getElem?_modify,h]
theorem V3 (h : Qb w W) (hb : w.heap.size ≤ b) (u0 u1 u2 : Value) : Qb w (((W.setCell ⟨b,0,none⟩ u0).setCell ⟨b,1,none⟩ u1).setCell ⟨b,2,none⟩ u2):=((h.setCell (p:=⟨b,0,none⟩) hb u0).setCell (p:=⟨b,1,none⟩) hb u1).setCell (p:=⟨b,2,none⟩) hb u2
end
def stJ (d : Rt) (g : Yh) : Nat → Yh
 | 0 => g
 | 1 => ⟨Zj g.e d,g.r,g.l⟩
 | 2 => ⟨Zj g.e d,Zj g.r d,g.l⟩
 | _ => ⟨Zj g.e d,Zj g.r d,Zj g.l d⟩
theorem Qgv (h : Yh) : Wb h 3 = h.ok:=rfl
theorem Qem (h : Yh) (w : World) :
  Calls Tryz.prog 93 #[.agg #[.int .i64 h.e,.int .i64 h.r,.int .i64 h.l]] w fun e w' => e = .returned (.bool h.ok) ∧ Qb w w':=by
 rw [show h.ok = Wb h 3 from (Qgv h).symm];have hix0 : ∀ w,(Instr.index 225 (.agg #[.int .i64 h.e,.int .i64 h.r,.int .i64 h.l]) (.int .i64 0)).run Tryz.prog w = .ok (.int .i64 h.e) w:=fun w => by kernel_rfl
 have hix1 : ∀ w,(Instr.index 225 (.agg #[.int .i64 h.e,.int .i64 h.r,.int .i64 h.l]) (.int .i64 1)).run Tryz.prog w = .ok (.int .i64 h.r) w:=fun w => by kernel_rfl
 have hix2 : ∀ w,(Instr.index 225 (.agg #[.int .i64 h.e,.int .i64 h.r,.int .i64 h.l]) (.int .i64 2)).run Tryz.prog w = .ok (.int .i64 h.l) w:=fun w => by kernel_rfl
 go_enter Tryz.func93,Tryz.ntmps93
 go_upto_region 1 with (fail)
 obtain ⟨v,hv⟩:=Qg (w.alloc (.cells #[.int .i64 h.e,.int .i64 h.r,.int .i64 h.l] 116));rw [← hv];have E : Qb w v:=by rw [hv];exact (Qb.refl _).alloc _
 have B1 : Qa v w.heap.size 116 #[.int .i64 h.e,.int .i64 h.r,.int .i64 h.l]:=by rw [hv];exact (Qa.new _ _ _)
 clear hv;obtain ⟨b1,hb1⟩:=Qg (w.heap.size);rw [← hb1] at B1 ⊢;have hbr : w.heap.size ≤ b1:=by omega
 clear hb1;obtain ⟨k0,k1,k2⟩:=B1.c3;have lk:=B1.lt;go_upto_region 3 with (fail)
 go_loopw [3,13] (fun ov iv wr => ∃ k : Nat,k ≤ 3 ∧ iv = .int .i64 (k : Int) ∧ ov = .bool (Wb h k) ∧ Qb w wr) (fun _ iv _ => 3 - (intOf iv).toNat)
 case atStart => exact ⟨0,by decide,rfl,rfl,E⟩
 case round =>
  clear E k0 k1 k2 lk B1;obtain ⟨k,hk,rfl,rfl,hE⟩:=hrel;obtain ⟨wo,rfl⟩:=Qg wr;by_cases hlt : k < 3
  ·have h3 : k = 0 ∨ k = 1 ∨ k = 2 := by omega
   rcases h3 with rfl | rfl | rfl
   ·skip
    have hh : Hid (Wb h 1 = (Wb h 0 && (decide (0 ≤ h.e) && decide (h.e ≤ 1048576)))):=rfl;cases hq : Wb h 0
    ·rw [hq] at hh;go_wp2;exact ⟨⟨1,by decide,rfl,by rw [hh.out];rfl,hE⟩,by simp [intOf]⟩
    ·rw [hq] at hh;by_cases h1 : 0 ≤ h.e
     ·have g1 : decide (0 ≤ h.e) = true:=decide_eq_true h1;by_cases h2 : h.e ≤ 1048576
      ·have g2 : decide (h.e ≤ 1048576) = true:=decide_eq_true h2;go_wp2;exact ⟨⟨1,by decide,rfl,by rw [hh.out,g1,g2];rfl,hE⟩,by simp [intOf]⟩
      ·have g2 : decide (h.e ≤ 1048576) = false:=decide_eq_false h2;go_wp2;exact ⟨⟨1,by decide,rfl,by rw [hh.out,g1,g2];rfl,hE⟩,by simp [intOf]⟩
     ·have g1 : decide (0 ≤ h.e) = false:=decide_eq_false h1;go_wp2;exact ⟨⟨1,by decide,rfl,by rw [hh.out,g1];rfl,hE⟩,by simp [intOf]⟩
   ·skip
    have hh : Hid (Wb h 2 = (Wb h 1 && (decide (0 ≤ h.r) && decide (h.r ≤ 1048576)))):=rfl;cases hq : Wb h 1
    ·rw [hq] at hh;go_wp2;exact ⟨⟨2,by decide,rfl,by rw [hh.out];rfl,hE⟩,by simp [intOf]⟩
    ·rw [hq] at hh;by_cases h1 : 0 ≤ h.r
     ·have g1 : decide (0 ≤ h.r) = true:=decide_eq_true h1;by_cases h2 : h.r ≤ 1048576
      ·have g2 : decide (h.r ≤ 1048576) = true:=decide_eq_true h2;go_wp2;exact ⟨⟨2,by decide,rfl,by rw [hh.out,g1,g2];rfl,hE⟩,by simp [intOf]⟩
      ·have g2 : decide (h.r ≤ 1048576) = false:=decide_eq_false h2;go_wp2;exact ⟨⟨2,by decide,rfl,by rw [hh.out,g1,g2];rfl,hE⟩,by simp [intOf]⟩
     ·have g1 : decide (0 ≤ h.r) = false:=decide_eq_false h1;go_wp2;exact ⟨⟨2,by decide,rfl,by rw [hh.out,g1];rfl,hE⟩,by simp [intOf]⟩
   ·skip
    have hh : Hid (Wb h 3 = (Wb h 2 && (decide (0 ≤ h.l) && decide (h.l ≤ 1048576)))):=rfl;cases hq : Wb h 2
    ·rw [hq] at hh;go_wp2;exact ⟨⟨3,by decide,rfl,by rw [hh.out];rfl,hE⟩,by simp [intOf]⟩
    ·rw [hq] at hh;by_cases h1 : 0 ≤ h.l
     ·have g1 : decide (0 ≤ h.l) = true:=decide_eq_true h1;by_cases h2 : h.l ≤ 1048576
      ·have g2 : decide (h.l ≤ 1048576) = true:=decide_eq_true h2;go_wp2;exact ⟨⟨3,by decide,rfl,by rw [hh.out,g1,g2];rfl,hE⟩,by simp [intOf]⟩
      ·have g2 : decide (h.l ≤ 1048576) = false:=decide_eq_false h2;go_wp2;exact ⟨⟨3,by decide,rfl,by rw [hh.out,g1,g2];rfl,hE⟩,by simp [intOf]⟩
     ·have g1 : decide (0 ≤ h.l) = false:=decide_eq_false h1;go_wp2;exact ⟨⟨3,by decide,rfl,by rw [hh.out,g1];rfl,hE⟩,by simp [intOf]⟩
  ·obtain rfl : k = 3 := by omega
   go_wp2;go_ret;exact ⟨rfl,hE⟩
theorem Qd0 (h : Yh) (b d : Rt) (y : Int) (hb : b.In) (hd : d.In) (hy1 : -9223372036854775808 ≤ y) (hy2 : y ≤ 9223372036854775807) (w : World) :
  Calls Tryz.prog 42 #[.agg #[.int .i64 h.e,.int .i64 h.r,.int .i64 h.l],.agg #[.int .i64 b.n,.int .i64 b.d],.agg #[.int .i64 d.n,.int .i64 d.d],.int .i64 y] w fun e w' => e = .returned (.tuple #[.agg #[.int .i64 (Ub h b d y).1.e,.int .i64 (Ub h b d y).1.r,.int .i64 (Ub h b d y).1.l],.int .i64 (Ub h b d y).2]) ∧ Qb w w':=by
 obtain ⟨V,hV0⟩:=Qg (Ub h b d y);rw [← hV0];replace hV0:=Lib.hid hV0;have NH:=fun h w => Qem h w
 have NB:=fun w => Mq b hb w
 have ND:=fun w => Mq d hd w
 go_enter Tryz.func42,Tryz.ntmps42
 go_upto_region 1 with (fail)
 obtain ⟨v,hv⟩:=Qg ((((w.alloc (.cells #[.int .i64 h.e,.int .i64 h.r,.int .i64 h.l] 116)).alloc (.cells #[.int .i64 b.n,.int .i64 b.d] 65)).alloc (.cells #[.int .i64 d.n,.int .i64 d.d] 65)).alloc (.cells #[.int .i64 0,.int .i64 0,.int .i64 0] 116));rw [← hv];have E : Qb w v:=by rw [hv];exact ((((Qb.refl _).alloc _).alloc _).alloc _).alloc _
 have Hh : Qa v w.heap.size 116 #[.int .i64 h.e,.int .i64 h.r,.int .i64 h.l]:=by rw [hv];exact (((Qa.new _ _ _).alloc _).alloc _).alloc _
 have Hb : Qa v (w.heap.size + 1) 65 #[.int .i64 b.n,.int .i64 b.d]:=by rw [hv];exact ((Qa.at _ _ _ _ (by simp)).alloc _).alloc _
 have Hd : Qa v (w.heap.size + 1 + 1) 65 #[.int .i64 d.n,.int .i64 d.d]:=by rw [hv];exact (Qa.at _ _ _ _ (by simp)).alloc _
 have Hr : Qa v (w.heap.size + 1 + 1 + 1) 116 #[.int .i64 0,.int .i64 0,.int .i64 0]:=by rw [hv];exact Qa.at _ _ _ _ (by simp)
 clear hv;obtain ⟨b4,hb4⟩:=Qg (w.heap.size + 1 + 1 + 1);rw [← hb4] at Hr ⊢;obtain ⟨b3,hb3⟩:=Qg (w.heap.size + 1 + 1);rw [← hb3] at Hd ⊢;obtain ⟨b2,hb2⟩:=Qg (w.heap.size + 1);rw [← hb2] at Hb ⊢;obtain ⟨b1,hb1⟩:=Qg (w.heap.size);rw [← hb1] at Hh ⊢;have hbr : w.heap.size ≤ b4:=by omega
 have hbr1 : w.heap.size ≤ b1:=by omega
 have hbr2 : w.heap.size ≤ b2:=by omega
 have hbr3 : w.heap.size ≤ b3:=by omega
 have hn21 : b2 ≠ b1:=by omega
 have hn31 : b3 ≠ b1:=by omega
 have hn32 : b3 ≠ b2:=by omega
 have hn41 : b4 ≠ b1:=by omega
 have hn42 : b4 ≠ b2:=by omega
 have hn43 : b4 ≠ b3:=by omega
 clear hb1 hb2 hb3 hb4;have HE:=E;clear E;obtain ⟨k0,k1,k2⟩:=Hh.c3;have lk:=Hh.lt;obtain ⟨p0,p1⟩:=Hb.c2;have lp:=Hb.lt;obtain ⟨q0,q1⟩:=Hd.c2;have lq:=Hd.lt;have K1:=fun u (hu : Qb v u) => (Hb.ext hu).c2
 cases ho : h.ok
 ·have NH1:=fun w => NH h w
  simp only [ho] at NH1;have hr:=hV0.out;unfold Ub at hr;rw [ho,if_neg (by decide)] at hr;subst hr;clear hV0 ho NH K1;go_upto_region 2 with (go_at_call 93;(with_reducible refine Calls.mono (NH1 _) ?_);rintro e w1 ⟨rfl,h1⟩)
  replace HE:=HE.trans h1;replace Hr:=Hr.ext h1;have y0:=Hr.frozen 0;have y1:=Hr.frozen 1;have y2:=Hr.frozen 2;obtain ⟨x0,x1,x2⟩:=Hr.c3;have lx:=Hr.lt;have R3:=V8 Hr (.int .i64 0) (.int .i64 0) (.int .i64 0);have EF:=V3 HE hbr (.int .i64 0) (.int .i64 0) (.int .i64 0);obtain ⟨r0,r1,r2⟩:=R3.c3;go_wp2;refine bodyPost_ret (v:=.tuple #[.agg #[.int .i64 0,.int .i64 0,.int .i64 0],.int .i64 82]) (by simp [results,Tryz.results42,go_sem,r0,r1,r2]) rfl ⟨rfl,EF⟩
 ·have NH1:=fun w => NH h w
  simp only [ho] at NH1;clear K1;have A1 : ∀ u,Qb v u → True:=fun _ _ => trivial
  go_upto_region 3 with (go_at_call 93;(with_reducible refine Calls.mono (NH1 _) ?_);rintro e w1 ⟨rfl,h1⟩)
  replace HE:=HE.trans h1;replace Hr:=Hr.ext h1;replace Hh:=Hh.ext h1;replace Hb:=Hb.ext h1;replace Hd:=Hd.ext h1;clear h1 k0 k1 k2 lk p0 p1 lp q0 q1 lq A1 NH1;obtain ⟨p0,p1⟩:=Hb.c2;have lp:=Hb.lt;obtain ⟨q0,q1⟩:=Hd.c2;have lq:=Hd.lt;cases hbs : b.shr
  ·simp only [hbs] at NB;have hr:=hV0.out;unfold Ub at hr;rw [ho,hbs,if_pos rfl,Bool.false_and,if_neg (by decide)] at hr;subst hr;clear hV0 ho hbs;go_upto_region 4 with (go_at_call 90;(with_reducible refine Calls.mono (NB _) ?_);rintro e w2 ⟨rfl,h2⟩)
   replace HE:=HE.trans h2;replace Hr:=Hr.ext h2;have y0:=Hr.frozen 0;have y1:=Hr.frozen 1;have y2:=Hr.frozen 2;obtain ⟨x0,x1,x2⟩:=Hr.c3;have lx:=Hr.lt;have R3:=V8 Hr (.int .i64 0) (.int .i64 0) (.int .i64 0);have EF:=V3 HE hbr (.int .i64 0) (.int .i64 0) (.int .i64 0);obtain ⟨r0,r1,r2⟩:=R3.c3;go_wp2;refine bodyPost_ret (v:=.tuple #[.agg #[.int .i64 0,.int .i64 0,.int .i64 0],.int .i64 2]) (by simp [results,Tryz.results42,go_sem,r0,r1,r2]) rfl ⟨rfl,EF⟩
  ·simp only [hbs] at NB;cases hds : d.shr
   ·simp only [hds] at ND;have hr:=hV0.out;unfold Ub at hr;rw [ho,hbs,hds,if_pos rfl,Bool.and_false,if_neg (by decide)] at hr;subst hr;clear hV0 ho hbs hds;go_upto_region 4 with (first | (go_at_call 90;(with_reducible refine Calls.mono (NB _) ?_);rintro e w2 ⟨rfl,h2⟩;clear q0 q1 lq;obtain ⟨q0,q1⟩:=(Hd.ext h2).c2;have lq:=(Hd.ext h2).lt) | (go_at_call 90;(with_reducible refine Calls.mono (ND _) ?_);rintro e w3 ⟨rfl,h3⟩))
    replace HE:=(HE.trans h2).trans h3;replace Hr:=(Hr.ext h2).ext h3;have y0:=Hr.frozen 0;have y1:=Hr.frozen 1;have y2:=Hr.frozen 2;obtain ⟨x0,x1,x2⟩:=Hr.c3;have lx:=Hr.lt;have R3:=V8 Hr (.int .i64 0) (.int .i64 0) (.int .i64 0);have EF:=V3 HE hbr (.int .i64 0) (.int .i64 0) (.int .i64 0);obtain ⟨r0,r1,r2⟩:=R3.c3;go_wp2;refine bodyPost_ret (v:=.tuple #[.agg #[.int .i64 0,.int .i64 0,.int .i64 0],.int .i64 2]) (by simp [results,Tryz.results42,go_sem,r0,r1,r2]) rfl ⟨rfl,EF⟩
   ·simp only [hds] at ND
    have hV1 : Hid (V = if y < 0 ∨ 40 < y then (Ku,8) else Kp b d y.toNat h):=by
     unfold Hid;rw [hV0.out];unfold Ub;rw [ho,hbs,hds,if_pos rfl,Bool.and_self,if_pos rfl]
    clear hV0;go_upto_region 5 with (first | (go_at_call 90;(with_reducible refine Calls.mono (NB _) ?_);rintro e w2 ⟨rfl,h2⟩;clear q0 q1 lq;obtain ⟨q0,q1⟩:=(Hd.ext h2).c2;have lq:=(Hd.ext h2).lt) | (go_at_call 90;(with_reducible refine Calls.mono (ND _) ?_);rintro e w3 ⟨rfl,h3⟩))
    replace HE:=(HE.trans h2).trans h3;replace Hr:=(Hr.ext h2).ext h3;replace Hh:=(Hh.ext h2).ext h3;replace Hb:=(Hb.ext h2).ext h3;replace Hd:=(Hd.ext h2).ext h3;clear h2 h3 p0 p1 lp q0 q1 lq NB ND;by_cases y0 : y < 0
    ·have gy : decide (y < 0) = true:=decide_eq_true y0;have hr:=hV1.out;rw [if_pos (.inl y0)] at hr;subst hr;clear hV1 y0;have y0:=Hr.frozen 0;have y1:=Hr.frozen 1;have y2:=Hr.frozen 2;obtain ⟨x0,x1,x2⟩:=Hr.c3;have lx:=Hr.lt;have R3:=V8 Hr (.int .i64 0) (.int .i64 0) (.int .i64 0);have EF:=V3 HE hbr (.int .i64 0) (.int .i64 0) (.int .i64 0);obtain ⟨r0,r1,r2⟩:=R3.c3;go_wp2;refine bodyPost_ret (v:=.tuple #[.agg #[.int .i64 0,.int .i64 0,.int .i64 0],.int .i64 8]) (by simp [results,Tryz.results42,go_sem,r0,r1,r2]) rfl ⟨rfl,EF⟩
    ·have gy : decide (y < 0) = false:=decide_eq_false y0;by_cases y1 : 40 < y
     ·have gy1 : decide (40 < y) = true:=decide_eq_true y1;have hr:=hV1.out;rw [if_pos (.inr y1)] at hr;subst hr;clear hV1 y0 y1;have y0:=Hr.frozen 0;have y1:=Hr.frozen 1;have y2:=Hr.frozen 2;obtain ⟨x0,x1,x2⟩:=Hr.c3;have lx:=Hr.lt;have R3:=V8 Hr (.int .i64 0) (.int .i64 0) (.int .i64 0);have EF:=V3 HE hbr (.int .i64 0) (.int .i64 0) (.int .i64 0);obtain ⟨r0,r1,r2⟩:=R3.c3;go_wp2;refine bodyPost_ret (v:=.tuple #[.agg #[.int .i64 0,.int .i64 0,.int .i64 0],.int .i64 8]) (by simp [results,Tryz.results42,go_sem,r0,r1,r2]) rfl ⟨rfl,EF⟩
     ·have gy1 : decide (40 < y) = false := decide_eq_false y1;obtain ⟨n, rfl⟩ : ∃ n : Nat, y = (n : Int) := ⟨y.toNat, by omega⟩
      have hV2 : Hid (V = Kp b d n h):=by
       have:=hV1.out;rw [if_neg (by omega),Int.toNat_natCast] at this;exact this
      clear hV1 hb hd;replace ho:=Lib.hid ho;replace hbs:=Lib.hid hbs;replace hds:=Lib.hid hds;go_upto_region 8 with (fail)
      go_loopw [34] (fun iv wr => ∃ k : Nat,k ≤ n ∧ iv = .int .i64 (k : Int) ∧ ∃ g : Yh,Hid (g.ok = true) ∧ Qb w wr ∧ Qa wr b1 116 #[.int .i64 g.e,.int .i64 g.r,.int .i64 g.l] ∧ Qa wr b2 65 #[.int .i64 b.n,.int .i64 b.d] ∧ Qa wr b3 65 #[.int .i64 d.n,.int .i64 d.d] ∧ Qa wr b4 116 #[.int .i64 0,.int .i64 0,.int .i64 0] ∧ Hid (V = Kp b d (n - k) g)) (fun iv _ => n - (intOf iv).toNat)
      case atStart => exact ⟨0,Nat.zero_le _,rfl,h,ho,HE,Hh,Hb,Hd,Hr,hV2.out⟩
      case round =>
       clear HE Hh Hb Hd Hr hV2 ho;obtain ⟨k,hk,rfl,g,hg,HE,Hh,Hb,Hd,Hr,hV⟩:=hrel;obtain ⟨wo,rfl⟩:=Qg wr;by_cases hlt : k < n
       ·obtain ⟨m, hm⟩ : ∃ m, n - k = m + 1 := ⟨n - k - 1, by omega⟩;have hm2 : n - (k + 1) = m := by omega
        have hV' : Hid (V = if (Kq b d g).ok then Kp b d m (Kq b d g) else (Ku,6)):=by unfold Hid;rw [hV.out,hm];rfl
        clear hV hm;have hgo:=hg.out;simp only [Yh.ok,Bool.and_eq_true] at hgo;obtain ⟨g01,g02⟩:=Rx.1 hgo.1.1;obtain ⟨g11,g12⟩:=Rx.1 hgo.1.2;obtain ⟨g21,g22⟩:=Rx.1 hgo.2;clear hgo;have hds:=hds.out;have hdd:=(Tq hds);go_upto_region 10 with (fail)
        obtain ⟨v4,hv⟩:=Qg (wo.alloc (.cells #[.pointer (some ⟨b1,0,none⟩),.pointer (some ⟨b1,1,none⟩),.pointer (some ⟨b1,2,none⟩)] 180));rw [← hv];have E4 : Qb wo v4:=by rw [hv];exact (Qb.refl _).alloc _
        have Hp : Qa v4 wo.heap.size 180 #[.pointer (some ⟨b1,0,none⟩),.pointer (some ⟨b1,1,none⟩),.pointer (some ⟨b1,2,none⟩)]:=by rw [hv];exact Qa.new _ _ _
        clear hv;have hlh:=Hh.lt;obtain ⟨bp,hbp⟩:=Qg (wo.heap.size);rw [← hbp] at Hp ⊢;have hp1 : bp ≠ b1:=by omega
        clear hbp hlh;replace HE:=HE.trans E4;replace Hh:=Hh.ext E4;replace Hb:=Hb.ext E4;replace Hd:=Hd.ext E4;replace Hr:=Hr.ext E4;clear E4
        go_loopw [41] (fun jv wr => ∃ j : Nat,j ≤ 3 ∧ jv = .int .i64 (j : Int) ∧ Qb w wr ∧ Qa wr b1 116 #[.int .i64 (stJ d g j).e,.int .i64 (stJ d g j).r,.int .i64 (stJ d g j).l] ∧ Qa wr b2 65 #[.int .i64 b.n,.int .i64 b.d] ∧ Qa wr b3 65 #[.int .i64 d.n,.int .i64 d.d] ∧ Qa wr bp 180 #[.pointer (some ⟨b1,0,none⟩),.pointer (some ⟨b1,1,none⟩),.pointer (some ⟨b1,2,none⟩)] ∧ Qa wr b4 116 #[.int .i64 0,.int .i64 0,.int .i64 0]) (fun jv _ => 3 - (intOf jv).toNat)
        case atStart => exact ⟨0,by decide,rfl,HE,Hh,Hb,Hd,Hp,Hr⟩
        case round =>
         clear HE Hh Hb Hd Hp Hr;obtain ⟨j,hj,rfl,HE,Hh,Hb,Hd,Hp,Hr⟩:=hrel;obtain ⟨wi,rfl⟩:=Qg wr;by_cases hlt3 : j < 3
         ·have h3 : j = 0 ∨ j = 1 ∨ j = 2 := by omega
          rcases h3 with rfl | rfl | rfl
          ·have Hh : Qa wi b1 116 #[.int .i64 (g.e),.int .i64 (g.r),.int .i64 (g.l)]:=Hh;have pb:=Mi hds g01 g02;have v1 : IntKind.i64.wrap (d.n * g.e) = d.n * g.e:=Z2 (by omega) (by omega)
           have v2 : IntKind.i64.wrap ((d.n * g.e).tdiv d.d) = d.n * g.e / d.d:=by
            rw [Int.tdiv_eq_ediv_of_nonneg pb.1];exact Z2 (by omega) (by omega)
           have v3 : IntKind.i64.wrap (g.e - d.n * g.e / d.d) = Zj g.e d:=by
            unfold Zj;exact Z2 (by omega) (by omega)
           clear pb;obtain ⟨s0,s1,s2⟩:=Hp.c3;have ls:=Hp.lt;go_upto_region 12 with (fail)
           clear s0 s1 s2 ls;refine Zb 15 [14] (fun x => Qa x b1 116 #[.int .i64 (g.e),.int .i64 (g.r),.int .i64 (g.l)] ∧ Qa x b3 65 #[.int .i64 d.n,.int .i64 d.d]) Qo rfl ?_;intro vz hvz;replace HE:=HE.trans hvz;replace Hh:=Hh.ext hvz;replace Hd:=Hd.ext hvz;replace Hb:=Hb.ext hvz;replace Hp:=Hp.ext hvz;replace Hr:=Hr.ext hvz;clear hvz;refine Qs (g:=1) [0,1,2,3,4,5,6,7,8,9,10,11,12,13] [_,_,_,_,_,_,_,_,_,_,_,_,_,_] ⟨rfl,rfl,rfl,rfl,rfl,rfl,rfl,rfl,rfl,rfl,rfl,rfl,rfl,rfl,trivial⟩ (by kernel_rfl) (by kernel_rfl) ⟨Hh,Hd⟩ ?_;simp only [Qc,Qd,Qe];apply Exists.intro;refine ⟨fun u hu => ?_,?_⟩
           ·obtain ⟨x0,x1,x2⟩:=hu.1.c3;have lx:=hu.1.lt;obtain ⟨d0,d1⟩:=hu.2.c2;have ld:=hu.2.lt;repeat (first | go_big_quiet_skip | (go_big_quiet_want;go_big_quiet_op;go_big_quiet_on))
            refine wpQuiet_nil ?_;rfl
           refine Qr 14 rfl (by kernel_rfl) ?_;simp only [Qc,Qd,Qe];have z0:=Hh.frozen 0;obtain ⟨x0,x1,x2⟩:=Hh.c3;have lx:=Hh.lt;have Hh2:=Bg Hh (.int .i64 (Zj g.e d));have Hd:=Qi Hd hn31 0 (.int .i64 (Zj g.e d));have Hb:=Qi Hb hn21 0 (.int .i64 (Zj g.e d));have Hp:=Qi Hp hp1 0 (.int .i64 (Zj g.e d));have Hr:=Qi Hr hn41 0 (.int .i64 (Zj g.e d));have HE:=HE.setCell (p:=⟨b1,0,none⟩) hbr1 (.int .i64 (Zj g.e d));have Hh:=Hh2;go_wp2;refine Qq ?_;refine Qv (by kernel_rfl) ?_;generalize World.setCell _ _ _ = wq at *;clear z0 x0 x1 x2 lx Hh2;go_wp2;exact ⟨⟨1,by decide,rfl,HE,Hh,Hb,Hd,Hp,Hr⟩,by simp [intOf]⟩
          ·have Hh : Qa wi b1 116 #[.int .i64 (Zj g.e d),.int .i64 (g.r),.int .i64 (g.l)]:=Hh;have pb:=Mi hds g11 g12;have v1 : IntKind.i64.wrap (d.n * g.r) = d.n * g.r:=Z2 (by omega) (by omega)
           have v2 : IntKind.i64.wrap ((d.n * g.r).tdiv d.d) = d.n * g.r / d.d:=by
            rw [Int.tdiv_eq_ediv_of_nonneg pb.1];exact Z2 (by omega) (by omega)
           have v3 : IntKind.i64.wrap (g.r - d.n * g.r / d.d) = Zj g.r d:=by
            unfold Zj;exact Z2 (by omega) (by omega)
           clear pb;obtain ⟨s0,s1,s2⟩:=Hp.c3;have ls:=Hp.lt;go_upto_region 12 with (fail)
           clear s0 s1 s2 ls;refine Zb 15 [14] (fun x => Qa x b1 116 #[.int .i64 (Zj g.e d),.int .i64 (g.r),.int .i64 (g.l)] ∧ Qa x b3 65 #[.int .i64 d.n,.int .i64 d.d]) Qo rfl ?_;intro vz hvz;replace HE:=HE.trans hvz;replace Hh:=Hh.ext hvz;replace Hd:=Hd.ext hvz;replace Hb:=Hb.ext hvz;replace Hp:=Hp.ext hvz;replace Hr:=Hr.ext hvz;clear hvz;refine Qs (g:=1) [0,1,2,3,4,5,6,7,8,9,10,11,12,13] [_,_,_,_,_,_,_,_,_,_,_,_,_,_] ⟨rfl,rfl,rfl,rfl,rfl,rfl,rfl,rfl,rfl,rfl,rfl,rfl,rfl,rfl,trivial⟩ (by kernel_rfl) (by kernel_rfl) ⟨Hh,Hd⟩ ?_;simp only [Qc,Qd,Qe];apply Exists.intro;refine ⟨fun u hu => ?_,?_⟩
           ·obtain ⟨x0,x1,x2⟩:=hu.1.c3;have lx:=hu.1.lt;obtain ⟨d0,d1⟩:=hu.2.c2;have ld:=hu.2.lt;repeat (first | go_big_quiet_skip | (go_big_quiet_want;go_big_quiet_op;go_big_quiet_on))
            refine wpQuiet_nil ?_;rfl
           refine Qr 14 rfl (by kernel_rfl) ?_;simp only [Qc,Qd,Qe];have z0:=Hh.frozen 1;obtain ⟨x0,x1,x2⟩:=Hh.c3;have lx:=Hh.lt;have Hh2:=Bh Hh (.int .i64 (Zj g.r d));have Hd:=Qi Hd hn31 1 (.int .i64 (Zj g.r d));have Hb:=Qi Hb hn21 1 (.int .i64 (Zj g.r d));have Hp:=Qi Hp hp1 1 (.int .i64 (Zj g.r d));have Hr:=Qi Hr hn41 1 (.int .i64 (Zj g.r d));have HE:=HE.setCell (p:=⟨b1,1,none⟩) hbr1 (.int .i64 (Zj g.r d));have Hh:=Hh2;go_wp2;refine Qq ?_;refine Qv (by kernel_rfl) ?_;generalize World.setCell _ _ _ = wq at *;clear z0 x0 x1 x2 lx Hh2;go_wp2;exact ⟨⟨2,by decide,rfl,HE,Hh,Hb,Hd,Hp,Hr⟩,by simp [intOf]⟩
          ·have Hh : Qa wi b1 116 #[.int .i64 (Zj g.e d),.int .i64 (Zj g.r d),.int .i64 (g.l)]:=Hh;have pb:=Mi hds g21 g22;have v1 : IntKind.i64.wrap (d.n * g.l) = d.n * g.l:=Z2 (by omega) (by omega)
           have v2 : IntKind.i64.wrap ((d.n * g.l).tdiv d.d) = d.n * g.l / d.d:=by
            rw [Int.tdiv_eq_ediv_of_nonneg pb.1];exact Z2 (by omega) (by omega)
           have v3 : IntKind.i64.wrap (g.l - d.n * g.l / d.d) = Zj g.l d:=by
            unfold Zj;exact Z2 (by omega) (by omega)
           clear pb;obtain ⟨s0,s1,s2⟩:=Hp.c3;have ls:=Hp.lt;go_upto_region 12 with (fail)
           clear s0 s1 s2 ls;refine Zb 15 [14] (fun x => Qa x b1 116 #[.int .i64 (Zj g.e d),.int .i64 (Zj g.r d),.int .i64 (g.l)] ∧ Qa x b3 65 #[.int .i64 d.n,.int .i64 d.d]) Qo rfl ?_;intro vz hvz;replace HE:=HE.trans hvz;replace Hh:=Hh.ext hvz;replace Hd:=Hd.ext hvz;replace Hb:=Hb.ext hvz;replace Hp:=Hp.ext hvz;replace Hr:=Hr.ext hvz;clear hvz;refine Qs (g:=1) [0,1,2,3,4,5,6,7,8,9,10,11,12,13] [_,_,_,_,_,_,_,_,_,_,_,_,_,_] ⟨rfl,rfl,rfl,rfl,rfl,rfl,rfl,rfl,rfl,rfl,rfl,rfl,rfl,rfl,trivial⟩ (by kernel_rfl) (by kernel_rfl) ⟨Hh,Hd⟩ ?_;simp only [Qc,Qd,Qe];apply Exists.intro;refine ⟨fun u hu => ?_,?_⟩
           ·obtain ⟨x0,x1,x2⟩:=hu.1.c3;have lx:=hu.1.lt;obtain ⟨d0,d1⟩:=hu.2.c2;have ld:=hu.2.lt;repeat (first | go_big_quiet_skip | (go_big_quiet_want;go_big_quiet_op;go_big_quiet_on))
            refine wpQuiet_nil ?_;rfl
           refine Qr 14 rfl (by kernel_rfl) ?_;simp only [Qc,Qd,Qe];have z0:=Hh.frozen 2;obtain ⟨x0,x1,x2⟩:=Hh.c3;have lx:=Hh.lt;have Hh2:=Bi Hh (.int .i64 (Zj g.l d));have Hd:=Qi Hd hn31 2 (.int .i64 (Zj g.l d));have Hb:=Qi Hb hn21 2 (.int .i64 (Zj g.l d));have Hp:=Qi Hp hp1 2 (.int .i64 (Zj g.l d));have Hr:=Qi Hr hn41 2 (.int .i64 (Zj g.l d));have HE:=HE.setCell (p:=⟨b1,2,none⟩) hbr1 (.int .i64 (Zj g.l d));have Hh:=Hh2;go_wp2;refine Qq ?_;refine Qv (by kernel_rfl) ?_;generalize World.setCell _ _ _ = wq at *;clear z0 x0 x1 x2 lx Hh2;go_wp2;exact ⟨⟨3,by decide,rfl,HE,Hh,Hb,Hd,Hp,Hr⟩,by simp [intOf]⟩
         ·obtain rfl : j = 3 := by omega
          have Hh : Qa wi b1 116 #[.int .i64 (Zj g.e d),.int .i64 (Zj g.r d),.int .i64 (Zj g.l d)]:=Hh;have hbs:=hbs.out;have hbb:=Tq hbs;have de:=Fp hds g01 g02;have dr:=Fp hds g11 g12;have dl:=Fp hds g21 g22;have pb:=Mi hbs de.1 de.2;have hst : Hid (Kq b d g = ⟨Zj g.e d + (Zj g.l d + 1) / 2,Zj g.r d + Zj g.l d / 2,b.n * Zj g.e d / b.d⟩):=rfl;generalize Zj g.e d = xe at *;generalize Zj g.r d = xr at *;generalize Zj g.l d = xl at *;have v1 : IntKind.i64.wrap (b.n * xe) = b.n * xe:=Z2 (by omega) (by omega)
          have v2 : IntKind.i64.wrap ((b.n * xe).tdiv b.d) = b.n * xe / b.d:=by
           rw [Int.tdiv_eq_ediv_of_nonneg pb.1];exact Z2 (by omega) (by omega)
          have v3 : IntKind.i64.wrap (xl + 1) = xl + 1:=Z2 (by omega) (by omega)
          have v4' : IntKind.i64.wrap ((xl + 1).tdiv 2) = (xl + 1) / 2:=by
           rw [Int.tdiv_eq_ediv_of_nonneg (by omega)];exact Z2 (by omega) (by omega)
          have v5 : IntKind.i64.wrap (xe + (xl + 1) / 2) = xe + (xl + 1) / 2:=Z2 (by omega) (by omega)
          have v6 : IntKind.i64.wrap (xl.tdiv 2) = xl / 2:=by
           rw [Int.tdiv_eq_ediv_of_nonneg (by omega)];exact Z2 (by omega) (by omega)
          have v7 : IntKind.i64.wrap (xr + xl / 2) = xr + xl / 2:=Z2 (by omega) (by omega);have hb0 : (b.d == 0) = false:=beq_eq_false_iff_ne.2 (by omega);have hb1 : b.d ≠ 0:=by omega
          clear pb de dr dl hbb;generalize b.n * xe / b.d = zl at *;generalize hz1 : (xl + 1) / 2 = z1 at *;generalize hz2 : xl / 2 = z2 at *;clear hz1 hz2;obtain ⟨k0,k1,k2⟩:=Hh.c3;have lk:=Hh.lt;have f0:=Hh.frozen 0;obtain ⟨p0,p1⟩:=Hb.c2;have lp:=Hb.lt;have Ha:=Bg Hh (.int .i64 (xe + z1));have Hba:=Qi Hb hn21 0 (.int .i64 (xe + z1));have Hda:=Qi Hd hn31 0 (.int .i64 (xe + z1));have Hra:=Qi Hr hn41 0 (.int .i64 (xe + z1));have Ea:=HE.setCell (p:=⟨b1,0,none⟩) hbr1 (.int .i64 (xe + z1));go_upto_region 16 with (fail)
          generalize World.setCell _ _ _ = wa at *;clear k0 k1 k2 lk f0 p0 p1 lp Hh HE Hb Hd Hr Hp;obtain ⟨k0,k1,k2⟩:=Ha.c3;have lk:=Ha.lt;have f0:=Ha.frozen 1;have Hb':=Bh Ha (.int .i64 (xr + z2));have Hbb:=Qi Hba hn21 1 (.int .i64 (xr + z2));have Hdb:=Qi Hda hn31 1 (.int .i64 (xr + z2));have Hrb:=Qi Hra hn41 1 (.int .i64 (xr + z2));have Eb:=Ea.setCell (p:=⟨b1,1,none⟩) hbr1 (.int .i64 (xr + z2));go_upto_region 17 with (fail)
          generalize World.setCell _ _ _ = wb at *;clear k0 k1 k2 lk f0 Ha Hba Hda Hra Ea;obtain ⟨k0,k1,k2⟩:=Hb'.c3;have lk:=Hb'.lt;have f0:=Hb'.frozen 2;have Hc':=Bi Hb' (.int .i64 zl);have Hbc:=Qi Hbb hn21 2 (.int .i64 zl);have Hdc:=Qi Hdb hn31 2 (.int .i64 zl);have Hrc:=Qi Hrb hn41 2 (.int .i64 zl);have Ec:=Eb.setCell (p:=⟨b1,2,none⟩) hbr1 (.int .i64 zl);go_upto_region 18 with (fail)
          generalize World.setCell _ _ _ = wc at *;clear k0 k1 k2 lk f0 Hb' Hbb Hdb Hrb Eb v1 v2 v3 v4' v5 v6 v7 hb0 hb1;have NG:=fun w => NH ⟨xe + z1,xr + z2,zl⟩ w
          have hst2 : Hid (Kq b d g = ⟨xe + z1,xr + z2,zl⟩):=hst;obtain ⟨k0,k1,k2⟩:=Hc'.c3;have lk:=Hc'.lt;cases hgk : Yh.ok ⟨xe + z1,xr + z2,zl⟩
          ·simp only [hgk] at NG;have hr:=hV'.out;rw [hst2.out,hgk,if_neg (by decide)] at hr;subst hr;clear hV' hst hst2 hgk NH;go_upto_region 19 with (go_at_call 93;(with_reducible refine Calls.mono (NG _) ?_);rintro e w6 ⟨rfl,h6⟩)
           have HE:=Ec.trans h6;have Hr:=Hrc.ext h6;have y0:=Hr.frozen 0;have y1:=Hr.frozen 1;have y2:=Hr.frozen 2;obtain ⟨x0,x1,x2⟩:=Hr.c3;have lx:=Hr.lt;have R3:=V8 Hr (.int .i64 0) (.int .i64 0) (.int .i64 0);have EF:=V3 HE hbr (.int .i64 0) (.int .i64 0) (.int .i64 0);obtain ⟨r0,r1,r2⟩:=R3.c3;go_wp2;refine bodyPost_ret (v:=.tuple #[.agg #[.int .i64 0,.int .i64 0,.int .i64 0],.int .i64 6]) (by simp [results,Tryz.results42,go_sem,r0,r1,r2]) rfl ⟨rfl,EF⟩
          ·simp only [hgk] at NG;have hr:=hV'.out;rw [hst2.out,hgk,if_pos rfl,← hm2] at hr;replace hr:=Lib.hid hr;replace hgk:=Lib.hid hgk;clear hV' hst hst2 NH hm2;go_wp2_with (go_at_call 93;(with_reducible refine Calls.mono (NG _) ?_);rintro e w6 ⟨rfl,h6⟩);exact ⟨⟨k + 1,by omega,by go_num,⟨xe + z1,xr + z2,zl⟩,hgk,Ec.trans h6,Hc'.ext h6,Hbc.ext h6,Hdc.ext h6,Hrc.ext h6,hr⟩,by simp [intOf];omega⟩
       ·obtain rfl : k = n := by omega
        have hr:=hV.out;rw [Nat.sub_self] at hr;have hr2 : V = (g,0):=hr;subst hr2;clear hV hr;obtain ⟨k0,k1,k2⟩:=Hh.c3;have lk:=Hh.lt;have y0:=Hr.frozen 0;have y1:=Hr.frozen 1;have y2:=Hr.frozen 2;obtain ⟨x0,x1,x2⟩:=Hr.c3;have lx:=Hr.lt;have R3:=V8 Hr (.int .i64 g.e) (.int .i64 g.r) (.int .i64 g.l);have EF:=V3 HE hbr (.int .i64 g.e) (.int .i64 g.r) (.int .i64 g.l);obtain ⟨r0,r1,r2⟩:=R3.c3;go_wp2;refine bodyPost_ret (v:=.tuple #[.agg #[.int .i64 g.e,.int .i64 g.r,.int .i64 g.l],.int .i64 0]) (by simp [results,Tryz.results42,go_sem,r0,r1,r2]) rfl ⟨rfl,EF⟩
end
section
open Go Go.ChangeShapes Go.WideShapes Go.ChangeAt Go.RowKit Go.Deep
theorem Qb8 : Tryz.prog.cellsOf 65 = 2:=by kernel_rfl
theorem Qjo : Tryz.prog.globalNamed "bulla/metro.zero" = some 0:=by kernel_rfl
theorem Qjq : (Tryz.prog.globals[0]?).map (·.type) = some 65:=by kernel_rfl
theorem Qjs {W : World} (h : laidMet Tryz.prog [("bulla/metro.zero",.agg [.lit (.int .i64 0),.lit (.int .i64 1)])] W) : Z6 W:=by
 obtain ⟨ps,⟨g,t,cs,fuel,p,q,hg,ht,hvar,hd,_,_⟩,_⟩:=h;obtain rfl:=Option.some.inj (Qjo.symm.trans hg);obtain rfl:=Option.some.inj (Qjq.symm.trans ht);obtain ⟨xs,m,_,hx,hlen,hxl,hf⟩:=DataW.trod_struct Tryz.underlying65 hd;have hxl2 : xs.length = 2:=hxl;simp only [Prod.mk.injEq,DataW.agg.injEq] at hx;have hx1:=hx.1;obtain ⟨cs⟩:=cs;rw [Qb8] at hlen
 match cs,hlen,xs,hxl2 with
 | [a,b],_,[y0,y1],_ =>
  have e0:=K8 (i:=0) (by simp) (hf 0 _ rfl) Ut;have e1:=K8 (i:=1) (by simp) (hf 1 _ rfl) Ut;obtain ⟨s0,h01,h02,_⟩:=DataW.trod_int Tryz.underlying3 e0;obtain ⟨s1,h11,h12,_⟩:=DataW.trod_int Tryz.underlying3 e1;simp only [List.map_cons,List.map_nil,List.cons.injEq] at hx1;have f0 : y0.1 = .lit (.int .i64 0):=hx1.1.symm;have f1 : y1.1 = .lit (.int .i64 1):=hx1.2.1.symm;have g0 : y0.1 = .lit (.int .i64 s0):=by have:=congrArg Prod.fst h02;simpa using this
  have g1 : y1.1 = .lit (.int .i64 s1):=by have:=congrArg Prod.fst h12;simpa using this
  obtain rfl : s0 = 0:=by rw [f0] at g0;simpa using g0.symm
  obtain rfl : s1 = 1:=by rw [f1] at g1;simpa using g1.symm
  have ha : a = .int .i64 0:=by simpa using h01
  have hb : b = .int .i64 1:=by simpa using h11
  subst ha;subst hb;have c0:=World.var?_cell hg hvar 0;have c1:=World.var?_cell hg hvar 1;refine ⟨by simpa using c0,by simpa using c1,?_⟩;rcases Nat.lt_or_ge 0 W.heap.size with h1 | h1
  ·exact h1
  ·have h2 : W.heap.size = 0 := by omega
   have : W.cell? ⟨0,0,none⟩ = some (.int .i64 0):=by simpa using c0
   simp [World.cell?,Array.getElem?_eq_none (show W.heap.size ≤ 0 by omega)] at this
section
variable {H : Type} {enc : TypeId × Value → H} {w : World} {base : Nat} {spare : Nat → Bool} {held : Bool} {r : Reach} {b0 : Nat} {v : Value} {d : DataW H} {p : List MemPlace}
end
theorem Pr : Tryz.prog.cellsOf 85 = 2:=by kernel_rfl
theorem G6 : Tryz.prog.cellsOf 52 = 1:=by kernel_rfl
theorem Pq : Tryz.prog.cellsOf 57 = 7:=by kernel_rfl
theorem Qb5 : Tryz.prog.cellsOf 53 = 1:=by kernel_rfl
theorem Ps : Tryz.prog.cellsOf 55 = 12:=by kernel_rfl
theorem Qbx : Tryz.prog.bytesOf 85 = 24:=by kernel_rfl
theorem Qbw : Tryz.prog.bytesOf 57 = 80:=by kernel_rfl
theorem Cy {H : Type} {P : Program} {e : TypeId} : ∀ {l : List (DataW H)} {d : DataW H},d ∈ l → ∀ n ∈ d.weights P e,n ∈ DataW.weightsAll P e l
 | x :: r,d,h,n,hn => by
  simp only [DataW.weightsAll,List.mem_append];rcases List.mem_cons.1 h with rfl | h
  ·exact Or.inl hn
  ·exact Or.inr (Cy h n hn)
/-- What the reach says of a period's sizes. -/
structure Pd.Light (p : Pd) : Prop where
 o : p.o.length * 24 ≤ 140737488351232
 c : p.c.length * 24 ≤ 140737488351232
 l : ∀ i,i < p.d.length → (p.d.getD i Zi).l.length * 24 ≤ 140737488351232
 d : p.d.length * 80 ≤ 140737488351232
theorem R7 {α : Type} (z : α) (g : Nat → α) {n i : Nat} (h : i < n) : ((List.range n).map g).getD i z = g i:=by simp [List.getD,h]
section
variable {H : Type} {enc : TypeId × Value → H} {w : World} {base : Nat} {spare : Nat → Bool} {held : Bool} {r : Reach} {b0 : Nat} {v : Value} {d : DataW H} {p : List MemPlace}
theorem Ts {P : Program} {α : Type} {t e : TypeId} {sz m : Nat} {v : Value} {x : DataW H × List MemPlace} {f : α → List Value} {p : α → Prop} (d0 : α) (ht : P.underlying t = some (.slice e)) (hC : P.cellsOf e = sz) (hsz : 0 < sz) (hl : ∀ y,(f y).length = sz)
  (hone : ∀ n cs x,DataW.trod enc P w base spare held n e cs = some x → (∀ k ∈ x.1.weights P e,k ≤ reachBytes) → ∃ y,cs = f y ∧ p y) (h : DataW.trod enc P w base spare held m t [v] = some x) (hw : ∀ k ∈ x.1.weights P t,k ≤ reachBytes) :
  ∃ (A : Option Addr) (n cap : Nat) (g : Nat → α),v = .slice A n cap ∧ Qp w A n sz (fun i => f (g i)) ∧ n ≤ cap ∧ cap ≤ maxLen ∧ (A = none → n = 0 ∧ cap = 0) ∧ (∀ i,i < n → p (g i)) ∧ n * P.bytesOf e ≤ reachBytes:=by
 rcases open_slice ht h with ⟨hcs,_⟩ | ⟨a,len,cap,k,n,D,Pl,hcs,hb,hlc,hcm,hk,hx,hi⟩
 ·exact ⟨none,0,0,fun _ => d0,by simpa using hcs,Qp.nil,Nat.le_refl _,Nat.zero_le _,fun _ => ⟨rfl,rfl⟩,fun i hi => absurd hi (by omega),by simp⟩
 ·have hlk : len ≤ k := by rw [hk]; split <;> omega
  rw [hx] at hw
  have hbytes : len * P.bytesOf e ≤ reachBytes:=by
   have:=hw ((len + (k - len)) * P.bytesOf e) (by simp [DataW.weights,ht]);exact Nat.le_trans (Nat.mul_le_mul_right _ (Nat.le_add_right _ _)) this
  have each : ∀ i,∃ y : α,i < len → (p y ∧ ∀ j u,(f y)[j]? = some u → w.cell? (a.add (i * sz + j)) = some u):=fun i => by
   by_cases hil : i < len
   ·obtain ⟨cs',hc,htr⟩:=hi i (by omega);rw [hC] at hc
    obtain ⟨y,rfl,hp⟩:=hone _ _ _ htr (fun q hq => hw q (by
     simp only [DataW.weights,ht];exact List.mem_cons_of_mem _ (List.mem_append_left _ (Cy (List.mem_map.2 ⟨i,List.mem_range.2 hil,rfl⟩) q hq))))
    obtain ⟨_,_,hat⟩:=World.cells?_some hc;refine ⟨y,fun _ => ⟨hp,fun j u hu => ?_⟩⟩;have hj : j < sz:=by have:=(List.getElem?_eq_some_iff.1 hu).1;rw [hl] at this;exact this
    rw [← Go.Deep.add_add,hat j hj,hu]
   ·exact ⟨d0,fun h => absurd h hil⟩
  obtain ⟨g,hg⟩:=Classical.axiomOfChoice each;refine ⟨some a,len,cap,g,by simpa using hcs,fun hn => ?_,hlc,hcm,fun h => (by cases h),fun i hi => (hg i hi).1,hbytes⟩;obtain ⟨b,off,spot⟩:=a;have h00 : ((f (g 0))[0]?).isSome:=by rw [List.getElem?_eq_getElem (by rw [hl];exact hsz)];rfl
  obtain ⟨u,hu⟩:=Option.isSome_iff_exists.1 h00;have hc0:=(hg 0 hn).2 0 u hu;have hspot : spot = none:=by simpa [Addr.add] using World.cell?_spot hc0
  subst hspot;have hc0' : w.cell? ⟨b,off,none⟩ = some u:=by simpa [add_plain] using hc0
  refine ⟨b,off,rfl,?_,fun i j v hi hv => ?_⟩
  ·rcases Nat.lt_or_ge b w.heap.size with h1 | h1
   ·exact h1
   ·simp [World.cell?,Array.getElem?_eq_none h1] at hc0'
  ·have:=(hg i hi).2 j v hv;rw [add_plain,← Nat.add_assoc] at this;exact this
theorem Qfe {n : Nat} {cs : List Value} {x : DataW H × List MemPlace} (h : DataW.trod enc Tryz.prog w base spare held n 85 cs = some x) : ∃ y : Lt,cs = [.string y.g,.int .i64 y.n]:=by
 obtain ⟨xs,m,_,_,hlen,hxl,hf⟩:=DataW.trod_struct Tryz.underlying85 h;rw [Pr] at hlen
 match cs,hlen with
 | [a,b],_ =>
  obtain ⟨z0,rfl,_⟩:=Hw (Yt hxl (by decide) (hf 0 _ rfl) Lp);obtain ⟨z1,rfl,_⟩:=Vf (Yt hxl (by decide) (hf 1 _ rfl) Ut);exact ⟨⟨z0,z1⟩,rfl⟩
theorem Rq {m : Nat} {v : Value} {x : DataW H × List MemPlace} (h : DataW.trod enc Tryz.prog w base spare held m 52 [v] = some x) (hw : ∀ k ∈ x.1.weights Tryz.prog 52,k ≤ reachBytes) : ∃ l : List Lt,Zz w v l ∧ l.length * 24 ≤ 140737488351232:=by
 obtain ⟨A,n,cap,g,rfl,h1,h2,h3,h4,_,h6⟩:=Ts (f:=fun y : Lt => [.string y.g,.int .i64 y.n]) (p:=fun _ => True) Xg Tryz.underlying52 Pr (by decide) (fun _ => rfl) (fun n cs x hx _ => by
  obtain ⟨y,hy⟩:=Qfe hx;exact ⟨y,hy,trivial⟩) h hw
 rw [Qbx,Tg] at h6;refine ⟨(List.range n).map g,⟨A,cap,by simp,?_,by simpa using h2,h3,by simpa using h4⟩,by simpa using h6⟩;rw [List.length_map,List.length_range];exact h1.congr (fun i hi => by simp only [Zc,Za];rw [R7 Xg g hi])
theorem Qc4 {n : Nat} {cs : List Value} {x : DataW H × List MemPlace} (h : DataW.trod enc Tryz.prog w base spare held n 57 cs = some x) (hw : ∀ k ∈ x.1.weights Tryz.prog 57,k ≤ reachBytes) :
  ∃ y : Dl × Value,cs = Qz y.1 y.2 ∧ Zz w y.2 y.1.l ∧ y.1.l.length * 24 ≤ 140737488351232:=by
 obtain ⟨xs,m,_,hx,hlen,hxl,hf⟩:=DataW.trod_struct Tryz.underlying57 h;have hxl2 : xs.length = 4:=hxl;rw [hx] at hw
 have hw' : ∀ n ∈ DataW.weightsEach Tryz.prog [51,4,9,52] (xs.map (·.1)),n ≤ reachBytes:=fun n hn => hw n (by
  simp only [DataW.weights,Tryz.underlying57];exact hn)
 rw [Pq] at hlen
 match cs,hlen with
 | [c0,c1,c2,c3,c4,c5,c6],_ =>
  obtain ⟨_,h0⟩:=Yt hxl (by decide) (hf 0 _ rfl) Nb;obtain ⟨a,ha⟩:=Fj h0;obtain ⟨z4,rfl⟩:=Pm (Yt hxl (by decide) (hf 1 _ rfl) Pp);obtain ⟨z5,rfl,_⟩:=Hw (Yt hxl (by decide) (hf 2 _ rfl) Lp);have e3 : DataW.trod enc Tryz.prog w base spare held m 52 [c6] = some xs[3]:=K8 (by omega) (hf 3 _ rfl) (n:=1) G6;obtain ⟨l,hl,hs⟩:=Rq e3 (fun k hk => hw' k (DataW.weights_mem_each (j:=3) rfl (by rw [List.getElem?_map,List.getElem?_eq_getElem (by omega)];rfl) k hk));have ha' : [c0,c1,c2,c3] = [.int .i64 a.y,.int .i64 a.m,.bool a.s,.int .i64 a.d]:=ha;simp only [List.cons.injEq] at ha';obtain ⟨rfl,rfl,rfl,rfl,_⟩:=ha'
  exact ⟨(⟨a,z4,z5,l⟩,c6),rfl,hl,hs⟩
theorem Qc6 {m : Nat} {v : Value} {x : DataW H × List MemPlace} (h : DataW.trod enc Tryz.prog w base spare held m 53 [v] = some x) (hw : ∀ k ∈ x.1.weights Tryz.prog 53,k ≤ reachBytes) :
  ∃ l : List Dl,Un w v l ∧ (∀ i,i < l.length → (l.getD i Zi).l.length * 24 ≤ 140737488351232) ∧ l.length * 80 ≤ 140737488351232:=by
 obtain ⟨A,n,cap,g,rfl,h1,h2,h3,h4,h5,h6⟩:=Ts (f:=fun y : Dl × Value => Qz y.1 y.2) (p:=fun y => Zz w y.2 y.1.l ∧ y.1.l.length * 24 ≤ 140737488351232) (Zi,.slice none 0 0) Tryz.underlying53 Pq (by decide) (fun _ => rfl) (fun n cs x hx hk => Qc4 hx hk) h hw;rw [Qbw,Tg] at h6;have hg : ∀ i,i < n → ((List.range n).map (fun i => (g i).1)).getD i Zi = (g i).1:=fun i hi => R7 Zi _ hi
 refine ⟨(List.range n).map (fun i => (g i).1),⟨A,cap,fun i => (g i).2,by simp,?_,by simpa using h2,h3,by simpa using h4,fun i hi => ?_⟩,fun i hi => ?_,by simpa using h6⟩
 ·rw [List.length_map,List.length_range];exact h1.congr (fun i hi => by show Qz _ _ = Qz _ _;rw [hg i hi])
 ·rw [List.length_map,List.length_range] at hi;rw [hg i hi];exact (h5 i hi).1
 ·rw [List.length_map,List.length_range] at hi;rw [hg i hi];exact (h5 i hi).2
theorem Qhb {n : Nat} {cs : List Value} {x : DataW H × List MemPlace} (h : DataW.trod enc Tryz.prog w base spare held n 55 cs = some x) (hw : ∀ k ∈ x.1.weights Tryz.prog 55,k ≤ reachBytes) :
  ∃ y : Pd × Value × Value × Value,cs = Qu y.1 y.2.1 y.2.2.1 y.2.2.2 ∧ Xm w y.1 y.2.1 y.2.2.1 y.2.2.2 ∧ y.1.Light:=by
 obtain ⟨xs,m,_,hx,hlen,hxl,hf⟩:=DataW.trod_struct Tryz.underlying55 h;have hxl2 : xs.length = 6:=hxl;rw [hx] at hw
 have hw' : ∀ n ∈ DataW.weightsEach Tryz.prog [9,51,51,52,53,52] (xs.map (·.1)),n ≤ reachBytes:=fun n hn => hw n (by
  simp only [DataW.weights,Tryz.underlying55];exact hn)
 rw [Ps] at hlen
 match cs,hlen with
 | [c0,c1,c2,c3,c4,c5,c6,c7,c8,c9,c10,c11],_ =>
  obtain ⟨z0,rfl,_⟩:=Hw (Yt hxl (by decide) (hf 0 _ rfl) Lp);obtain ⟨_,h1⟩:=Yt hxl (by decide) (hf 1 _ rfl) Nb;obtain ⟨_,h2⟩:=Yt hxl (by decide) (hf 2 _ rfl) Nb;obtain ⟨a,ha⟩:=Fj h1;obtain ⟨b,hb⟩:=Fj h2;have e3 : DataW.trod enc Tryz.prog w base spare held m 52 [c9] = some xs[3]:=K8 (by omega) (hf 3 _ rfl) (n:=1) G6;have e4 : DataW.trod enc Tryz.prog w base spare held m 53 [c10] = some xs[4]:=K8 (by omega) (hf 4 _ rfl) (n:=1) Qb5;have e5 : DataW.trod enc Tryz.prog w base spare held m 52 [c11] = some xs[5]:=K8 (by omega) (hf 5 _ rfl) (n:=1) G6;obtain ⟨lo,ho,hso⟩:=Rq e3 (fun k hk => hw' k (DataW.weights_mem_each (j:=3) rfl (by rw [List.getElem?_map,List.getElem?_eq_getElem (by omega)];rfl) k hk))
  obtain ⟨ld,hd,hsl,hsd⟩:=Qc6 e4 (fun k hk => hw' k (DataW.weights_mem_each (j:=4) rfl (by rw [List.getElem?_map,List.getElem?_eq_getElem (by omega)];rfl) k hk));obtain ⟨lc,hc,hsc⟩:=Rq e5 (fun k hk => hw' k (DataW.weights_mem_each (j:=5) rfl (by rw [List.getElem?_map,List.getElem?_eq_getElem (by omega)];rfl) k hk));have ha' : [c1,c2,c3,c4] = [.int .i64 a.y,.int .i64 a.m,.bool a.s,.int .i64 a.d]:=ha;have hb' : [c5,c6,c7,c8] = [.int .i64 b.y,.int .i64 b.m,.bool b.s,.int .i64 b.d]:=hb;simp only [List.cons.injEq] at ha' hb';obtain ⟨rfl,rfl,rfl,rfl,_⟩:=ha';obtain ⟨rfl,rfl,rfl,rfl,_⟩:=hb';exact ⟨(⟨z0,a,b,lo,ld,lc⟩,c9,c10,c11),rfl,⟨ho,hd,hc⟩,⟨hso,hsc,hsl,hsd⟩⟩
theorem Qhe (hv : Value.okWide Tryz.prog w r b0 26 v) (h : DataW.Trod enc Tryz.prog w base spare held 26 v d p) (hl : ∀ n ∈ d.weights Tryz.prog 26,n ≤ reachBytes) :
  ∃ l : List Pd,Yf w v l ∧ (∀ i,i < l.length → (l.getD i Qx).Light) ∧ l.length * 152 ≤ 140737488351232:=by
 obtain ⟨a,len,cap,rfl⟩:=okWide_slice Tryz.underlying26 hv;obtain ⟨fuel,hf⟩:=h;obtain ⟨A,n,cap,g,e,h1,h2,h3,h4,h5,h6⟩:=Ts (f:=fun y : Pd × Value × Value × Value => Qu y.1 y.2.1 y.2.2.1 y.2.2.2) (p:=fun y => Xm w y.1 y.2.1 y.2.2.1 y.2.2.2 ∧ y.1.Light) (Qx,.slice none 0 0,.slice none 0 0,.slice none 0 0) Tryz.underlying26 Ps (by decide) (fun _ => rfl) (fun n cs x hx hk => Qhb hx hk) hf hl;rw [show Tryz.prog.bytesOf 55 = 152 by kernel_rfl,Tg] at h6;have hg : ∀ i,i < n → ((List.range n).map (fun i => (g i).1)).getD i Qx = (g i).1:=fun i hi => R7 Qx _ hi
 rw [e];refine ⟨(List.range n).map (fun i => (g i).1),⟨A,cap,fun i => (g i).2.1,fun i => (g i).2.2.1,fun i => (g i).2.2.2,by simp,?_,by simpa using h2,h3,by simpa using h4,fun i hi => ?_⟩,fun i hi => ?_,by simpa using h6⟩
 ·rw [List.length_map,List.length_range];exact h1.congr (fun i hi => by show Qu _ _ _ _ = Qu _ _ _ _;rw [hg i hi])
 ·rw [List.length_map,List.length_range] at hi;rw [hg i hi];exact (h5 i hi).1
 ·rw [List.length_map,List.length_range] at hi;rw [hg i hi];exact (h5 i hi).2
end
end
section
open Go Go.RowKit Go.Shelf
attribute [local go_sem] Z5
theorem Qes : (Tryz.prog.info? 55).map (fun i => (i.zero,i.size,i.bytes)) = some (some (.agg #[.string ⟨#[]⟩,.int .i64 0,.int .i64 0,.bool false,.int .i64 0,.int .i64 0,.int .i64 0,.bool false,.int .i64 0,.slice none 0 0,.slice none 0 0,.slice none 0 0]),12,152):=by kernel_rfl
theorem Qb7 (p : Pd) (F G H : Option Addr) (n1 m1 n2 m2 n3 m3 : Nat) : ∀ u ∈ Qu p (.slice F n1 m1) (.slice G n2 m2) (.slice H n3 m3),u.oneCell' = true:=by simp [Qu,Value.oneCell']
/-- Periods in an own row, each with what it holds in own rows. -/
def X6 (W : World) (b : Nat) (v : Value) (n : Nat) (g : Nat → Pd) : Prop:=∃ vo vd vc : Nat → Value,W.ownsRow b 55 12 v n (Zw (fun i => Qu (g i) (vo i) (vd i) (vc i)) n) ∧ ∀ i,i < n → Yj W b (g i) (vo i) (vd i) (vc i)
theorem Qhh (W : World) (b : Nat) (g : Nat → Pd) : X6 W b (.slice none 0 0) 0 g:=⟨fun _ => .slice none 0 0,fun _ => .slice none 0 0,fun _ => .slice none 0 0,World.ownsRow_nil _ _ _ _,fun i h => absurd h (by omega)⟩
theorem X6.ext {W W' : World} {b n : Nat} {v : Value} {g : Nat → Pd} (h : X6 W b v n g) (x : Qb W W') : X6 W' b v n g:=by
 obtain ⟨vo,vd,vc,h1,h2⟩:=h;exact ⟨vo,vd,vc,Jp h1 x,fun i hi => (h2 i hi).ext x⟩
theorem X6.le {W : World} {b b' n : Nat} {v : Value} {g : Nat → Pd} (h : X6 W b v n g) (hb : b' ≤ b) : X6 W b' v n g:=by
 obtain ⟨vo,vd,vc,h1,h2⟩:=h;exact ⟨vo,vd,vc,h1.mono hb,fun i hi => (h2 i hi).le hb⟩
theorem Qhg {W : World} {b : Nat} {v : Value} {l : List Pd} (h : X6 W b v l.length (fun i => l.getD i Qx)) : Yf W v l:=by
 obtain ⟨vo,vd,vc,h1,h2⟩:=h;obtain ⟨F,c,g1,g2,g3,g4,g5,_⟩:=Ve (f:=fun i => Qu (l.getD i Qx) (vo i) (vd i) (vc i)) (fun _ => rfl) h1;exact ⟨F,c,vo,vd,vc,g1,g2,g3,g4,g5,fun i hi => Qg6 (h2 i hi)⟩
theorem Yj.kept {W w1 : World} {b b' k : Nat} {v' vo vd vc : Value} {p : Pd} {xs : List Value} {row : Option Nat} (h : Yj W b p vo vd vc) (hr : W.ownsRow b' 55 12 v' k xs) (hg : W.grownBy w1 row) (hrow : row = v'.ownBlock) : Yj w1 b p vo vd vc:=by
 subst hrow;obtain ⟨vs,d1,d2⟩:=h.d;exact ⟨World.ownsRow.kept h.o hg (Mh h.o hr (by decide)),⟨vs,World.ownsRow.kept d1 hg (Mh d1 hr (by decide)),fun i hi => World.ownsRow.kept (d2 i hi) hg (Mh (d2 i hi) hr (by decide))⟩,World.ownsRow.kept h.c hg (Mh h.c hr (by decide))⟩
theorem Yj.alloc {W : World} {b : Nat} {vo vd vc : Value} {p : Pd} (h : Yj W b p vo vd vc) (ob : Obj) : Yj (W.alloc ob) b p vo vd vc:=h.ext ((Qb.refl _).alloc ob)
theorem Qhi {W w1 : World} {b k : Nat} {v v' uo ud uc : Value} {g : Nat → Pd} {vo vd vc : Nat → Value} {ob : Obj} (hO : W.ownsRow b 55 12 v k (Zw (fun i => Qu (g i) (vo i) (vd i) (vc i)) k)) (hL : ∀ i,i < k → Yj W b (g i) (vo i) (vd i) (vc i)) (hl : Yj W b (g k) uo ud uc)
  (hown : w1.ownsRow b 55 12 v' (k + 1) (Zw (fun i => Qu (g i) (vo i) (vd i) (vc i)) k ++ Qu (g k) uo ud uc)) (hgrow : (W.alloc ob).grownBy w1 v.ownBlock) : X6 w1 b v' (k + 1) g:=by
 refine ⟨fun i => if i = k then uo else vo i,fun i => if i = k then ud else vd i,fun i => if i = k then uc else vc i,?_,fun i hi => ?_⟩
 ·rw [V6, Fu (f' := fun i => Qu (g i) (vo i) (vd i) (vc i)) k (fun i hi => by simp [show i ≠ k by omega])]
  simpa using hown
 ·by_cases e : i = k
  ·subst e;simpa using Yj.kept (hl.alloc ob) (hO.alloc ob) hgrow rfl
  ·simpa [e] using Yj.kept ((hL i (by omega)).alloc ob) (hO.alloc ob) hgrow rfl
theorem Qh1 (v1 v2 : Value) (l : List Pd) (w : World) (h1 : Yf w v1 l) (h2 : Yf w v2 l) :
  Calls Tryz.prog 11 #[v1,v2] w fun e w' => e = .returned (.bool true) ∧ Qb w w':=by
 obtain ⟨D,cap,vo,vd,vc,rfl,hD,hcap,hmax,_,hat0⟩:=h1;obtain ⟨B,cb,uo,ud,uc,rfl,hB,hcb,hmb,_,hbt0⟩:=h2;have hn : l.length ≤ 9223372036854775807:=Nat.le_trans hcap (Nat.le_trans hmax (by decide));clear hcap hmax hcb hmb;obtain ⟨g,hg⟩:=Qg (fun i => l.getD i Qx);have hg' : ∀ i,l.getD i Qx = g i:=fun i => by rw [hg]
 simp only [hg'] at hD hat0 hB hbt0;clear hg hg';generalize l.length = n at *;have hat:=Lib.hid hat0;have hbt:=Lib.hid hbt0;clear hat0 hbt0
 go_enter Tryz.func11,Tryz.ntmps11
 go_upto_region 4 with (fail)
 go_loopw [5] (fun i wr => ∃ k : Nat,k ≤ n ∧ i = .int .i64 k ∧ Qb w wr) (fun i _ => n - (intOf i).toNat)
 case atStart => exact ⟨0,Nat.zero_le _,rfl,Qb.refl _⟩
 case round =>
  obtain ⟨k,hk,rfl,hE⟩:=hrel;obtain ⟨wo,rfl⟩:=Qg wr;by_cases hlt : k < n
  ·obtain ⟨b, off, rfl, hb, hc⟩ := (hD.ext hE) (by omega);have c0 : wo.cell? ⟨b, off + k * 12, none⟩ = some (.string (g k).h) := by simpa [Qu] using hc k 0 _ hlt rfl
   have c1 : wo.cell? ⟨b,off + k * 12 + 1,none⟩ = some (.int .i64 (g k).a.y):=by simpa [Qu] using hc k 1 _ hlt rfl
   have c2 : wo.cell? ⟨b,off + k * 12 + 2,none⟩ = some (.int .i64 (g k).a.m):=by simpa [Qu] using hc k 2 _ hlt rfl
   have c3 : wo.cell? ⟨b,off + k * 12 + 3,none⟩ = some (.bool (g k).a.s):=by simpa [Qu] using hc k 3 _ hlt rfl
   have c4 : wo.cell? ⟨b,off + k * 12 + 4,none⟩ = some (.int .i64 (g k).a.d):=by simpa [Qu] using hc k 4 _ hlt rfl
   have c5 : wo.cell? ⟨b,off + k * 12 + 5,none⟩ = some (.int .i64 (g k).b.y):=by simpa [Qu] using hc k 5 _ hlt rfl
   have c6 : wo.cell? ⟨b,off + k * 12 + 6,none⟩ = some (.int .i64 (g k).b.m):=by simpa [Qu] using hc k 6 _ hlt rfl
   have c7 : wo.cell? ⟨b,off + k * 12 + 7,none⟩ = some (.bool (g k).b.s):=by simpa [Qu] using hc k 7 _ hlt rfl
   have c8 : wo.cell? ⟨b,off + k * 12 + 8,none⟩ = some (.int .i64 (g k).b.d):=by simpa [Qu] using hc k 8 _ hlt rfl
   have c9 : wo.cell? ⟨b,off + k * 12 + 9,none⟩ = some (vo k):=by simpa [Qu] using hc k 9 _ hlt rfl
   have c10 : wo.cell? ⟨b,off + k * 12 + 10,none⟩ = some (vd k):=by simpa [Qu] using hc k 10 _ hlt rfl
   have c11 : wo.cell? ⟨b,off + k * 12 + 11,none⟩ = some (vc k):=by simpa [Qu] using hc k 11 _ hlt rfl
   clear hc;obtain ⟨b',off',rfl,hb',hc⟩:=(hB.ext hE) (by omega);have d0 : wo.cell? ⟨b',off' + k * 12,none⟩ = some (.string (g k).h):=by simpa [Qu] using hc k 0 _ hlt rfl
   have d1 : wo.cell? ⟨b',off' + k * 12 + 1,none⟩ = some (.int .i64 (g k).a.y):=by simpa [Qu] using hc k 1 _ hlt rfl
   have d2 : wo.cell? ⟨b',off' + k * 12 + 2,none⟩ = some (.int .i64 (g k).a.m):=by simpa [Qu] using hc k 2 _ hlt rfl
   have d3 : wo.cell? ⟨b',off' + k * 12 + 3,none⟩ = some (.bool (g k).a.s):=by simpa [Qu] using hc k 3 _ hlt rfl
   have d4 : wo.cell? ⟨b',off' + k * 12 + 4,none⟩ = some (.int .i64 (g k).a.d):=by simpa [Qu] using hc k 4 _ hlt rfl
   have d5 : wo.cell? ⟨b',off' + k * 12 + 5,none⟩ = some (.int .i64 (g k).b.y):=by simpa [Qu] using hc k 5 _ hlt rfl
   have d6 : wo.cell? ⟨b',off' + k * 12 + 6,none⟩ = some (.int .i64 (g k).b.m):=by simpa [Qu] using hc k 6 _ hlt rfl
   have d7 : wo.cell? ⟨b',off' + k * 12 + 7,none⟩ = some (.bool (g k).b.s):=by simpa [Qu] using hc k 7 _ hlt rfl
   have d8 : wo.cell? ⟨b',off' + k * 12 + 8,none⟩ = some (.int .i64 (g k).b.d):=by simpa [Qu] using hc k 8 _ hlt rfl
   have d9 : wo.cell? ⟨b',off' + k * 12 + 9,none⟩ = some (uo k):=by simpa [Qu] using hc k 9 _ hlt rfl
   have d10 : wo.cell? ⟨b',off' + k * 12 + 10,none⟩ = some (ud k):=by simpa [Qu] using hc k 10 _ hlt rfl
   have d11 : wo.cell? ⟨b',off' + k * 12 + 11,none⟩ = some (uc k):=by simpa [Qu] using hc k 11 _ hlt rfl
   clear hc;have P1:=(hat.out k hlt).ext hE;have P2:=(hbt.out k hlt).ext hE;clear hat hbt hD hB;generalize g k = G at *;generalize vo k = v1 at *;generalize vd k = v2 at *;generalize vc k = v3 at *;generalize uo k = u1 at *;generalize ud k = u2 at *;generalize uc k = u3 at *;obtain ⟨t1,s1,e1,_⟩:=id P1.o;subst e1;obtain ⟨t2,s2,_,e2,_⟩:=id P1.d;subst e2;obtain ⟨t3,s3,e3,_⟩:=id P1.c;subst e3;obtain ⟨t4,s4,e4,_⟩:=id P2.o;subst e4;obtain ⟨t5,s5,_,e5,_⟩:=id P2.d;subst e5;obtain ⟨t6,s6,e6,_⟩:=id P2.c;subst e6;have NS:=fun w h1 h2 => Qh4 G (.slice t1 G.o.length s1) (.slice t2 G.d.length s2) (.slice t3 G.c.length s3) (.slice t4 G.o.length s4) (.slice t5 G.d.length s5) (.slice t6 G.c.length s6) w h1 h2
   go_upto_region 6 with (fail)
   refine Zd wo Qo (by kernel_rfl) Qj ?_;intro hne hrx hry;try simp only []
   try simp only [List.append_eq,List.cons_append,List.nil_append]
   skip
   repeat (first
    | go_big_quiet_skip
    | (go_big_quiet_want;go_big_quiet_op;go_big_quiet_on)
    | (go_big_quiet_want;go_big_quiet_op;apply Exists.intro;refine ⟨fun u => ?_,?_⟩
       ·first
         | (go_at_call 38;(with_reducible refine Calls.mono (NS _ (P1.ext u.e) (P2.ext u.e)) ?_);rintro e w' ⟨rfl,hb⟩;exact ⟨rfl,u.back hb⟩)
       go_big_quiet_on))
   clear hne hry hrx;refine wpQuiet_nil ?_;intro w2 h2;obtain ⟨hcw2,hfw2,hzw2⟩:=Qb.rules h2;try simp only [World.size_alloc] at hzw2
   obtain ⟨hcbw2,hfbw2,hzbw2⟩:=Qb.rules (show Qb wo w2 from Qj);clear hcw2 hfw2;go_wp2;exact ⟨⟨k + 1,by omega,by go_num,hE.trans h2⟩,by simp [intOf];omega⟩
  ·obtain rfl : k = n := by omega
   go_wp2;go_ret;exact ⟨rfl,hE⟩
theorem Qcr (v : Value) (l : List Pd) (w : World) (h1 : Yf w v l) (hL : ∀ i,i < l.length → (l.getD i Qx).Light) (hsd : l.length * 152 ≤ 140737488351232) :
  Calls Tryz.prog 8 #[v] w fun e w' => ∃ v',e = .returned v' ∧ Qb w w' ∧ X6 w' w.heap.size v' l.length (fun i => l.getD i Qx):=by
 obtain ⟨i0,hi,hz0,hz1,hz2⟩:=info_parts Qes;obtain ⟨D,cap,vo,vd,vc,rfl,hD,hcap,hmax,_,hat0⟩:=h1;have hn : l.length ≤ 9223372036854775807:=Nat.le_trans hcap (Nat.le_trans hmax (by decide));clear hcap hmax;obtain ⟨g,hg⟩:=Qg (fun i => l.getD i Qx);have hg' : ∀ i,l.getD i Qx = g i:=fun i => by rw [hg]
 simp only [hg'] at hD hat0 hL ⊢;clear hg hg';generalize l.length = n at *;have hat:=Lib.hid hat0;replace hL:=Lib.hid hL;clear hat0
 go_enter Tryz.func8,Tryz.ntmps8
 go_upto_region 3 with (fail)
 go_loopw [3,4] (fun ov iv wr => ∃ k : Nat,k ≤ n ∧ iv = .int .i64 k ∧ X6 wr w.heap.size ov k g ∧ Qb w wr) (fun _ i _ => n - (intOf i).toNat)
 case atStart => exact ⟨0,Nat.zero_le _,rfl,Qhh _ _ _,Qb.refl _⟩
 case round =>
  obtain ⟨k,hk,rfl,⟨ro,rd,rc,hO,hLo0⟩,hE⟩:=hrel;have hLo:=Lib.hid hLo0;clear hLo0;obtain ⟨wo,rfl⟩:=Qg wr;obtain ⟨FO,mO,rfl⟩:=Ya hO;by_cases hlt : k < n
  ·obtain ⟨b, off, rfl, hb, hc⟩ := (hD.ext hE) (by omega);have c0 : wo.cell? ⟨b, off + k * 12, none⟩ = some (.string (g k).h) := by simpa [Qu] using hc k 0 _ hlt rfl
   have c1 : wo.cell? ⟨b,off + k * 12 + 1,none⟩ = some (.int .i64 (g k).a.y):=by simpa [Qu] using hc k 1 _ hlt rfl
   have c2 : wo.cell? ⟨b,off + k * 12 + 2,none⟩ = some (.int .i64 (g k).a.m):=by simpa [Qu] using hc k 2 _ hlt rfl
   have c3 : wo.cell? ⟨b,off + k * 12 + 3,none⟩ = some (.bool (g k).a.s):=by simpa [Qu] using hc k 3 _ hlt rfl
   have c4 : wo.cell? ⟨b,off + k * 12 + 4,none⟩ = some (.int .i64 (g k).a.d):=by simpa [Qu] using hc k 4 _ hlt rfl
   have c5 : wo.cell? ⟨b,off + k * 12 + 5,none⟩ = some (.int .i64 (g k).b.y):=by simpa [Qu] using hc k 5 _ hlt rfl
   have c6 : wo.cell? ⟨b,off + k * 12 + 6,none⟩ = some (.int .i64 (g k).b.m):=by simpa [Qu] using hc k 6 _ hlt rfl
   have c7 : wo.cell? ⟨b,off + k * 12 + 7,none⟩ = some (.bool (g k).b.s):=by simpa [Qu] using hc k 7 _ hlt rfl
   have c8 : wo.cell? ⟨b,off + k * 12 + 8,none⟩ = some (.int .i64 (g k).b.d):=by simpa [Qu] using hc k 8 _ hlt rfl
   have c9 : wo.cell? ⟨b,off + k * 12 + 9,none⟩ = some (vo k):=by simpa [Qu] using hc k 9 _ hlt rfl
   have c10 : wo.cell? ⟨b,off + k * 12 + 10,none⟩ = some (vd k):=by simpa [Qu] using hc k 10 _ hlt rfl
   have c11 : wo.cell? ⟨b,off + k * 12 + 11,none⟩ = some (vc k):=by simpa [Qu] using hc k 11 _ hlt rfl
   clear hc;have P1:=(hat.out k hlt).ext hE;have hLk:=hL.out k hlt;clear hat hD hL;obtain ⟨G,hG⟩:=Qg (g k);rw [← hG] at P1 hLk c0 c1 c2 c3 c4 c5 c6 c7 c8;replace hG:=Lib.hid hG;generalize vo k = v1 at *;generalize vd k = v2 at *;generalize vc k = v3 at *;obtain ⟨t1,s1,e1,_⟩:=id P1.o;subst e1;obtain ⟨t2,s2,_,e2,_⟩:=id P1.d;subst e2;obtain ⟨t3,s3,e3,_⟩:=id P1.c;subst e3;have NC:=fun w h => Qct G (.slice t1 G.o.length s1) (.slice t2 G.d.length s2) (.slice t3 G.c.length s3) w h hLk.o hLk.c hLk.l hLk.d
   have NC1:=NC wo P1;clear NC;go_wp2_with (first | (go_at_call 33;(with_reducible refine Calls.mono (NC1) ?_);rintro e w4 ⟨uo,ud,uc,rfl,h4,PO⟩;obtain ⟨F1,m1,rfl⟩:=Ya PO.o;obtain ⟨F2,m2,rfl⟩:=Dk PO.d;obtain ⟨F3,m3,rfl⟩:=Ya PO.c) | (at_builtin;refine wpList_append_own_at _ rfl _ _ 26 rfl w.heap.size 55 i0 (.agg #[.string ⟨#[]⟩,.int .i64 0,.int .i64 0,.bool false,.int .i64 0,.int .i64 0,.int .i64 0,.bool false,.int .i64 0,.slice none 0 0,.slice none 0 0,.slice none 0 0]) 12 152 Tryz.underlying26 hi hz0 hz1 hz2 rfl (by decide) _ _ _ rfl ((Jp hO h4).alloc _) ⟨w4.heap.size,0,none⟩ 1 1 (Qu G (.slice F1 G.o.length m1) (.slice F2 G.d.length m2) (.slice F3 G.c.length m3)) rfl rfl (V0 _ _ _) (Qb7 _ _ _ _ _ _ _ _ _ _) (by unfold maxLen;omega) (by omega) (by have:=(hE.trans h4).size;simp;omega) ?_;intro o' w5 hown hgrow _ _))
   have E5 : Qb w w5:=((hE.trans h4).alloc _).grown hgrow (fun q hq => (hO.lt q hq).1);have D5 : X6 w5 w.heap.size o' (k + 1) g:=Qhi (Jp hO h4) (fun i hi => (hLo.out i hi).ext h4) (by rw [← hG.out];exact PO.le hE.size) (by rw [← hG.out];exact hown) hgrow;exact ⟨⟨k + 1,by omega,by go_num,D5,E5⟩,by simp [intOf];omega⟩
  ·obtain rfl : k = n := by omega
   go_wp2;go_ret;exact ⟨_,rfl,hE,ro,rd,rc,hO,hLo.out⟩
theorem Qbn (A A' : Option Addr) (ca cb : Nat) (c : Qf) (v : Value) (l : List Pd) (w : World) (hC : Q8 w A ca A' cb c) (hP : Yf w v l) :
  Calls Tryz.prog 58 #[.agg #[.slice A c.nk ca,.slice A' c.ny cb],v] w fun e w' => e = .returned (.tuple #[.agg #[.slice A c.nk ca,.slice A' c.ny cb],.int .i64 (c.archE l)]) ∧ Qb w w':=by
 have NO:=fun w h => Mf A A' ca cb c w h
 obtain ⟨D,cap,_,_,_,hv9,_⟩:=id hP;subst hv9;have NP:=fun w h1 h2 => Ew A A' ca cb c (.slice D l.length cap) l w h1 h2
 obtain ⟨R,hR0⟩:=Qg (c.archE l);rw [← hR0];have HR:=Lib.hid hR0;clear hR0
 go_enter Tryz.func58,Tryz.ntmps58
 go_upto_region 1 with (fail)
 obtain ⟨v,hv⟩:=Qg ((w.alloc (.cells #[.slice A c.nk ca,.slice A' c.ny cb] 25)).alloc (.cells #[.slice none 0 0,.slice none 0 0] 130));rw [← hv];have E : Qb w v:=by rw [hv];exact ((Qb.refl _).alloc _).alloc _
 have B1 : Qa v w.heap.size 25 #[.slice A c.nk ca,.slice A' c.ny cb]:=by rw [hv];exact (Qa.new _ _ _).alloc _
 have B2 : Qa v (w.heap.size + 1) 130 #[.slice none 0 0,.slice none 0 0]:=by rw [hv];exact Qa.at _ _ _ _ (by simp)
 clear hv;obtain ⟨b2,hb2⟩:=Qg (w.heap.size + 1);rw [← hb2] at B2 ⊢;obtain ⟨b1,hb1⟩:=Qg (w.heap.size);rw [← hb1] at B1 ⊢;have hbr : w.heap.size ≤ b2:=by omega
 have hbr1 : w.heap.size ≤ b1:=by omega
 have hn21 : b2 ≠ b1:=by omega
 clear hb1 hb2;obtain ⟨k0,k1⟩:=B1.c2;have lk:=B1.lt;obtain ⟨ck,hck⟩:=Qg (c.chk);simp only [← hck] at NO;replace hck:=Lib.hid hck;go_upto_region 2 with (go_at_call 64;(with_reducible refine Calls.mono (NO _ (hC.ext E)) ?_);rintro e w1 ⟨rfl,h1⟩)
 obtain ⟨v3,hv⟩:=Qg (w1.alloc (.cells #[.slice A c.nk ca,.slice A' c.ny cb] 130));rw [← hv];have h3 : Qb w1 v3:=by rw [hv];exact (Qb.refl _).alloc _
 have H3 : Qa v3 w1.heap.size 130 #[.slice A c.nk ca,.slice A' c.ny cb]:=by rw [hv];exact Qa.new _ _ _
 clear hv;generalize w1.heap.size = b9 at *;replace E:=(E.trans h1).trans h3;replace B2:=(B2.ext h1).ext h3;have C:=hC.ext E;have P:=hP.ext E;clear hC hP k0 k1 lk B1 NO h1 h3;by_cases e0 : ck = 0;rotate_left
 ·have g0 : (ck == 0) = false := beq_eq_false_iff_ne.2 e0;have g0n : (ck != 0) = true := by rw [bne, g0]; rfl
  have hr : R = ck:=by rw [HR.out,hck.out];unfold Qf.archE;rw [if_pos (by rw [← hck.out];exact e0)]
  clear HR e0 hck NP;obtain ⟨k0,k1⟩:=H3.c2;have lk:=H3.lt;have f0:=B2.frozen 0;have f1:=B2.frozen 1;obtain ⟨x0,x1⟩:=B2.c2;have lx:=B2.lt;have H4:=Qm B2 (.slice A c.nk ca) (.slice A' c.ny cb);have EF:=(E.setCell (p:=⟨b2,0,none⟩) hbr (.slice A c.nk ca)).setCell (p:=⟨b2,1,none⟩) hbr (.slice A' c.ny cb);obtain ⟨y0,y1⟩:=H4.c2;go_wp2;refine bodyPost_ret (v:=.tuple #[.agg #[.slice A c.nk ca,.slice A' c.ny cb],.int .i64 ck]) (by simp [results,Tryz.results58,go_sem,y0,y1]) rfl ⟨by rw [hr],EF⟩
 ·subst e0;by_cases hlim : 32 < l.length
  ·have hr : R = 3 := by rw [HR.out]; unfold Qf.archE; rw [if_neg (by rw [← hck.out]; simp), if_pos hlim]
   have g1 : decide (32 < l.length) = true:=decide_eq_true hlim;clear HR hck NP;obtain ⟨k0,k1⟩:=H3.c2;have lk:=H3.lt;have f0:=B2.frozen 0;have f1:=B2.frozen 1;obtain ⟨x0,x1⟩:=B2.c2;have lx:=B2.lt;have H4:=Qm B2 (.slice A c.nk ca) (.slice A' c.ny cb);have EF:=(E.setCell (p:=⟨b2,0,none⟩) hbr (.slice A c.nk ca)).setCell (p:=⟨b2,1,none⟩) hbr (.slice A' c.ny cb);obtain ⟨y0,y1⟩:=H4.c2;go_wp2;refine bodyPost_ret (v:=.tuple #[.agg #[.slice A c.nk ca,.slice A' c.ny cb],.int .i64 3]) (by simp [results,Tryz.results58,go_sem,y0,y1]) rfl ⟨by rw [hr],EF⟩
  have hr : Hid (R = c.persE l):=by unfold Hid;rw [HR.out];unfold Qf.archE;rw [if_neg (by rw [← hck.out];simp),if_neg hlim]
  have g1 : decide (32 < l.length) = false:=decide_eq_false hlim;clear HR hck;obtain ⟨k0,k1⟩:=H3.c2;have lk:=H3.lt;go_upto_region 6 with (fail)
  clear k0 k1 lk;refine Zb 6 [4,5] (fun x => Qb v3 x) Qo rfl ?_;intro vz hvz;have HC:=hvz;refine Qs (g:=3) [0,1,2] [_,_,_] ⟨rfl,rfl,rfl,trivial⟩ (by kernel_rfl) (by kernel_rfl) HC ?_;simp only [Qc,Qd,Qe];apply Exists.intro;refine ⟨fun u hu => ?_,?_⟩
  ·obtain ⟨k0,k1⟩:=(H3.ext hu).c2;have lk:=(H3.ext hu).lt;repeat (first | go_big_quiet_skip | (go_big_quiet_want;go_big_quiet_op;go_big_quiet_on))
   refine wpQuiet_nil ?_;rfl
  refine Ql 3 rfl (by kernel_rfl) ?_;simp only [Qc,Qd,Qe];go_wp2_with (go_at_call 107;(with_reducible refine Calls.mono (NP _ (C.ext HC) (P.ext HC)) ?_);rintro e va ⟨rfl,h4⟩);replace HC:=HC.trans h4;clear h4;refine Qh HC ?_;refine Qr 4 rfl (by kernel_rfl) ?_;simp only [Qc,Qd,Qe];replace B2:=B2.ext HC;replace E:=E.trans HC;have f0:=B2.frozen 0;have f1:=B2.frozen 1;obtain ⟨x0,x1⟩:=B2.c2;have lx:=B2.lt;have H4:=Qm B2 (.slice A c.nk ca) (.slice A' c.ny cb);have EF:=(E.setCell (p:=⟨b2,0,none⟩) hbr (.slice A c.nk ca)).setCell (p:=⟨b2,1,none⟩) hbr (.slice A' c.ny cb);obtain ⟨y0,y1⟩:=H4.c2;go_wp2;refine Qq ?_;refine Qr 5 rfl (by kernel_rfl) ?_
  simp only [Qc,Qd,Qe];go_wp2;refine Qq ?_;refine Qv (by kernel_rfl) ?_;go_wp2;refine bodyPost_ret (v:=.tuple #[.agg #[.slice A c.nk ca,.slice A' c.ny cb],.int .i64 (c.persE l)]) (by simp [results,Tryz.results58,go_sem,y0,y1]) rfl ⟨by rw [hr.out],EF⟩
theorem Qbd (A A' : Option Addr) (ca cb : Nat) (c : Qf) (l : List Pd) (v : Value) (w : World) (hC : Q8 w A ca A' cb c) (hP : Yf w v l) :
  Calls Tryz.prog 82 #[.agg #[.slice A c.nk ca,.slice A' c.ny cb],v] w fun e w' => e = .returned (.int .i64 (c.archE l)) ∧ Qb w w':=by
 obtain ⟨D,cap,vo,vd,vc,rfl,hD,hcap,hmax,_,hat0⟩:=hP;have hn : l.length ≤ 9223372036854775807:=Nat.le_trans hcap (Nat.le_trans hmax (by decide));clear hcap hmax;obtain ⟨R,hR0⟩:=Qg (c.archE l);rw [← hR0];have HR:=Lib.hid hR0;clear hR0;have NV:=fun v (h : Q8 v A ca A' cb c) => Qix A A' ca cb c v h
 cases hv : c.valid
 ·have hr : R = 70:=by
   rw [HR.out];unfold Qf.archE Qf.chk;rw [hv];rfl
  rw [hv] at NV;clear HR hv hat0 hD
  go_enter Tryz.func82,Tryz.ntmps82
  go_upto_region 1 with (fail)
  obtain ⟨v,hv⟩:=Qg (w.alloc (.cells #[.slice A c.nk ca,.slice A' c.ny cb] 25));rw [← hv];have E : Qb w v:=by rw [hv];exact (Qb.refl _).alloc _
  have B1 : Qa v w.heap.size 25 #[.slice A c.nk ca,.slice A' c.ny cb]:=by rw [hv];exact (Qa.new _ _ _)
  clear hv;obtain ⟨b1,hb1⟩:=Qg (w.heap.size);rw [← hb1] at B1 ⊢;have hbr : w.heap.size ≤ b1:=by omega
  clear hb1;have C:=hC.ext E;clear hC;obtain ⟨k0,k1⟩:=B1.c2;have kl:=B1.lt;go_wp2_with (go_at_call 129;(with_reducible refine Calls.mono (NV _ C) ?_);rintro e w1 ⟨rfl,hx⟩);go_ret;exact ⟨by rw [hr];rfl,E.trans hx⟩
 have NP:=fun v p a b d h1 h2 => Qg8 A A' ca cb c p a b d v h1 hv h2
 have hck : c.chk = 0:=by unfold Qf.chk;rw [hv];rfl
 rw [hv] at NV;clear hv;by_cases hlim : 32 < l.length
 ·have hr : R = 3 := by rw [HR.out]; unfold Qf.archE; rw [if_neg (by rw [hck]; simp), if_pos hlim]
  have g1 : decide (32 < l.length) = true:=decide_eq_true hlim;clear HR hck NP hat0 hD
  go_enter Tryz.func82,Tryz.ntmps82
  go_upto_region 1 with (fail)
  obtain ⟨v,hv⟩:=Qg (w.alloc (.cells #[.slice A c.nk ca,.slice A' c.ny cb] 25));rw [← hv];have E : Qb w v:=by rw [hv];exact (Qb.refl _).alloc _
  have B1 : Qa v w.heap.size 25 #[.slice A c.nk ca,.slice A' c.ny cb]:=by rw [hv];exact (Qa.new _ _ _)
  clear hv;obtain ⟨b1,hb1⟩:=Qg (w.heap.size);rw [← hb1] at B1 ⊢;have hbr : w.heap.size ≤ b1:=by omega
  clear hb1;have C:=hC.ext E;clear hC;obtain ⟨k0,k1⟩:=B1.c2;have kl:=B1.lt;go_wp2_with (go_at_call 129;(with_reducible refine Calls.mono (NV _ C) ?_);rintro e w1 ⟨rfl,hx⟩);go_ret;exact ⟨by rw [hr];rfl,E.trans hx⟩
 have hR : Hid (R = c.persE l):=by unfold Hid;rw [HR.out];unfold Qf.archE;rw [if_neg (by rw [hck];simp),if_neg hlim]
 have g1 : decide (32 < l.length) = false:=decide_eq_false hlim;clear HR hck;have hno : Hid (∀ k,k < l.length → c.perOk (l.getD k Qx) = false → R = 83):=fun k hk h => by rw [hR.out];unfold Qf.persE;rw [if_neg (by rw [Sw hk h];decide)]
 have hyes : Hid ((∀ k,k < l.length → c.perOk (l.getD k Qx) = true) → R = 0):=fun h => by rw [hR.out];unfold Qf.persE;rw [if_pos (Sx h)]
 clear hR;obtain ⟨g,hg⟩:=Qg (fun i => l.getD i Qx);have hg' : ∀ i,l.getD i Qx = g i:=fun i => by rw [hg]
 simp only [hg'] at hD hat0 hno hyes;clear hg hg';generalize l.length = n at *;have hat:=Lib.hid hat0;clear hat0
 go_enter Tryz.func82,Tryz.ntmps82
 go_upto_region 1 with (fail)
 obtain ⟨v,hv⟩:=Qg (w.alloc (.cells #[.slice A c.nk ca,.slice A' c.ny cb] 25));rw [← hv];have E : Qb w v:=by rw [hv];exact (Qb.refl _).alloc _
 have B1 : Qa v w.heap.size 25 #[.slice A c.nk ca,.slice A' c.ny cb]:=by rw [hv];exact (Qa.new _ _ _)
 clear hv;obtain ⟨b1,hb1⟩:=Qg (w.heap.size);rw [← hb1] at B1 ⊢;have hbr : w.heap.size ≤ b1:=by omega
 clear hb1;have C:=hC.ext E;clear hC;obtain ⟨k0,k1⟩:=B1.c2;have kl:=B1.lt;go_upto_region 6 with (go_at_call 129;(with_reducible refine Calls.mono (NV _ C) ?_);rintro e w1 ⟨rfl,hx⟩;replace E:=E.trans hx;replace C:=C.ext hx;replace B1:=B1.ext hx;clear hx k0 k1 kl;obtain ⟨k0,k1⟩:=B1.c2;have kl:=B1.lt)
 clear NV g1
 go_loopw [5] (fun i wr => ∃ k : Nat,k ≤ n ∧ i = .int .i64 k ∧ Hid (∀ j,j < k → c.perOk (g j) = true) ∧ Qb w1 wr) (fun i _ => n - (intOf i).toNat)
 case atStart => exact ⟨0,Nat.zero_le _,rfl,fun j h => absurd h (by omega),Qb.refl _⟩
 case round =>
  obtain ⟨k,hk,rfl,hall,hE⟩:=hrel;obtain ⟨wo,rfl⟩:=Qg wr;clear k0 k1 kl;have B1o:=B1.ext hE;obtain ⟨k0,k1⟩:=B1o.c2;have kl:=B1o.lt;by_cases hlt : k < n
  ·obtain ⟨b, off, rfl, hb, hc⟩ := (hD.ext (E.trans hE)) (by omega);have c0 : wo.cell? ⟨b, off + k * 12, none⟩ = some (.string (g k).h) := by simpa [Qu] using hc k 0 _ hlt rfl
   have c1 : wo.cell? ⟨b,off + k * 12 + 1,none⟩ = some (.int .i64 (g k).a.y):=by simpa [Qu] using hc k 1 _ hlt rfl
   have c2 : wo.cell? ⟨b,off + k * 12 + 2,none⟩ = some (.int .i64 (g k).a.m):=by simpa [Qu] using hc k 2 _ hlt rfl
   have c3 : wo.cell? ⟨b,off + k * 12 + 3,none⟩ = some (.bool (g k).a.s):=by simpa [Qu] using hc k 3 _ hlt rfl
   have c4 : wo.cell? ⟨b,off + k * 12 + 4,none⟩ = some (.int .i64 (g k).a.d):=by simpa [Qu] using hc k 4 _ hlt rfl
   have c5 : wo.cell? ⟨b,off + k * 12 + 5,none⟩ = some (.int .i64 (g k).b.y):=by simpa [Qu] using hc k 5 _ hlt rfl
   have c6 : wo.cell? ⟨b,off + k * 12 + 6,none⟩ = some (.int .i64 (g k).b.m):=by simpa [Qu] using hc k 6 _ hlt rfl
   have c7 : wo.cell? ⟨b,off + k * 12 + 7,none⟩ = some (.bool (g k).b.s):=by simpa [Qu] using hc k 7 _ hlt rfl
   have c8 : wo.cell? ⟨b,off + k * 12 + 8,none⟩ = some (.int .i64 (g k).b.d):=by simpa [Qu] using hc k 8 _ hlt rfl
   have c9 : wo.cell? ⟨b,off + k * 12 + 9,none⟩ = some (vo k):=by simpa [Qu] using hc k 9 _ hlt rfl
   have c10 : wo.cell? ⟨b,off + k * 12 + 10,none⟩ = some (vd k):=by simpa [Qu] using hc k 10 _ hlt rfl
   have c11 : wo.cell? ⟨b,off + k * 12 + 11,none⟩ = some (vc k):=by simpa [Qu] using hc k 11 _ hlt rfl
   clear hc;have P1:=(hat.out k hlt).ext (E.trans hE)
   have hall' : Hid (c.perOk (g k) = true → ∀ j,j < k + 1 → c.perOk (g j) = true):=fun h j hj => by
    by_cases e2 : j = k
    ·subst e2;exact h
    ·exact hall.out j (by omega)
   have hbad:=fun h => hno.out k hlt h
   have C2:=C.ext hE;clear hat hD hno hyes hall;generalize vo k = v1 at *;generalize vd k = v2 at *;generalize vc k = v3 at *;obtain ⟨t1,s1,e1,_⟩:=id P1.o;subst e1;obtain ⟨t2,s2,_,e2,_⟩:=id P1.d;subst e2;obtain ⟨t3,s3,e3,_⟩:=id P1.c;subst e3;have NS:=fun w h1 h2 => NP w (g k) (.slice t1 (g k).o.length s1) (.slice t2 (g k).d.length s2) (.slice t3 (g k).c.length s3) h1 h2
   clear NP;cases hq : c.perOk (g k)
   ·have hr:=hbad hq;rw [hq] at NS;clear hbad hall' hq;go_upto_region 8 with (fail)
    refine Zd wo Qo (by kernel_rfl) Qj ?_;intro hne hrx hry;try simp only []
    try simp only [List.append_eq,List.cons_append,List.nil_append]
    skip
    repeat (first
     | go_big_quiet_skip
     | (go_big_quiet_want;go_big_quiet_op;go_big_quiet_on)
     | (go_big_quiet_want;go_big_quiet_op;apply Exists.intro;refine ⟨fun u => ?_,?_⟩
        ·first
          | (go_at_call 130;(with_reducible refine Calls.mono (NS _ (C2.ext u.e) (P1.ext u.e)) ?_);rintro e w' ⟨rfl,hb⟩;exact ⟨rfl,u.back hb⟩)
        go_big_quiet_on))
    clear hne hry hrx;refine wpQuiet_nil ?_;intro w2 h2;obtain ⟨hcw2,hfw2,hzw2⟩:=Qb.rules h2;try simp only [World.size_alloc] at hzw2
    obtain ⟨hcbw2,hfbw2,hzbw2⟩:=Qb.rules (show Qb wo w2 from Qj);clear hcw2 hfw2;go_wp2;go_ret;exact ⟨by rw [hr];rfl,(E.trans hE).trans h2⟩
   ·have hall2:=Lib.hid (hall'.out hq);rw [hq] at NS;clear hbad hall' hq;go_upto_region 8 with (fail)
    refine Zd wo Qo (by kernel_rfl) Qj ?_;intro hne hrx hry;try simp only []
    try simp only [List.append_eq,List.cons_append,List.nil_append]
    skip
    repeat (first
     | go_big_quiet_skip
     | (go_big_quiet_want;go_big_quiet_op;go_big_quiet_on)
     | (go_big_quiet_want;go_big_quiet_op;apply Exists.intro;refine ⟨fun u => ?_,?_⟩
        ·first
          | (go_at_call 130;(with_reducible refine Calls.mono (NS _ (C2.ext u.e) (P1.ext u.e)) ?_);rintro e w' ⟨rfl,hb⟩;exact ⟨rfl,u.back hb⟩)
        go_big_quiet_on))
    clear hne hry hrx;refine wpQuiet_nil ?_;intro w2 h2;obtain ⟨hcw2,hfw2,hzw2⟩:=Qb.rules h2;try simp only [World.size_alloc] at hzw2
    obtain ⟨hcbw2,hfbw2,hzbw2⟩:=Qb.rules (show Qb wo w2 from Qj);clear hcw2 hfw2;go_wp2;exact ⟨⟨k + 1,by omega,by go_num,hall2,hE.trans h2⟩,by simp [intOf];omega⟩
  ·obtain rfl : k = n := by omega
   have hr:=hyes.out hall.out;clear hno hyes hall hat;go_wp2;go_ret;exact ⟨by rw [hr];rfl,E.trans hE⟩
theorem Ns {W : World} {b : Nat} {t : TypeId} {v0 v1 v2 v3 v4 v5 v6 v7 v8 v9 v10 v11 : Value} (h : Qa W b t #[v0,v1,v2,v3,v4,v5,v6,v7,v8,v9,v10,v11]) (u0 u1 u2 u3 u4 u5 u6 u7 u8 u9 u10 u11 : Value) : Qa ((((((((((((W.setCell ⟨b,0,none⟩ u0).setCell ⟨b,1,none⟩ u1).setCell ⟨b,2,none⟩ u2).setCell ⟨b,3,none⟩ u3).setCell ⟨b,4,none⟩ u4).setCell ⟨b,5,none⟩ u5).setCell ⟨b,6,none⟩ u6).setCell ⟨b,7,none⟩ u7).setCell ⟨b,8,none⟩ u8).setCell ⟨b,9,none⟩ u9).setCell ⟨b,10,none⟩ u10).setCell ⟨b,11,none⟩ u11) b t #[u0,u1,u2,u3,u4,u5,u6,u7,u8,u9,u10,u11]:=by unfold Qa at h ⊢;simp [World.setCell,Array.getElem?_modify,h]
theorem Ni {w W : World} {b : Nat} (h : Qb w W) (hb : w.heap.size ≤ b) (u0 u1 u2 u3 u4 u5 u6 u7 u8 u9 u10 u11 : Value) : Qb w ((((((((((((W.setCell ⟨b,0,none⟩ u0).setCell ⟨b,1,none⟩ u1).setCell ⟨b,2,none⟩ u2).setCell ⟨b,3,none⟩ u3).setCell ⟨b,4,none⟩ u4).setCell ⟨b,5,none⟩ u5).setCell ⟨b,6,none⟩ u6).setCell ⟨b,7,none⟩ u7).setCell ⟨b,8,none⟩ u8).setCell ⟨b,9,none⟩ u9).setCell ⟨b,10,none⟩ u10).setCell ⟨b,11,none⟩ u11):=((((((((((((h.setCell (p:=⟨b,0,none⟩) hb u0).setCell (p:=⟨b,1,none⟩) hb u1).setCell (p:=⟨b,2,none⟩) hb u2).setCell (p:=⟨b,3,none⟩) hb u3).setCell (p:=⟨b,4,none⟩) hb u4).setCell (p:=⟨b,5,none⟩) hb u5).setCell (p:=⟨b,6,none⟩) hb u6).setCell (p:=⟨b,7,none⟩) hb u7).setCell (p:=⟨b,8,none⟩) hb u8).setCell (p:=⟨b,9,none⟩) hb u9).setCell (p:=⟨b,10,none⟩) hb u10).setCell (p:=⟨b,11,none⟩) hb u11)
theorem Oq {W : World} {b b' : Nat} {t : TypeId} {cs : Array Value} (h : Qa W b' t cs) (hne : b' ≠ b) (u0 u1 u2 u3 u4 u5 u6 u7 u8 u9 u10 u11 : Value) : Qa ((((((((((((W.setCell ⟨b,0,none⟩ u0).setCell ⟨b,1,none⟩ u1).setCell ⟨b,2,none⟩ u2).setCell ⟨b,3,none⟩ u3).setCell ⟨b,4,none⟩ u4).setCell ⟨b,5,none⟩ u5).setCell ⟨b,6,none⟩ u6).setCell ⟨b,7,none⟩ u7).setCell ⟨b,8,none⟩ u8).setCell ⟨b,9,none⟩ u9).setCell ⟨b,10,none⟩ u10).setCell ⟨b,11,none⟩ u11) b' t cs:=(Qi (Qi (Qi (Qi (Qi (Qi (Qi (Qi (Qi (Qi (Qi (Qi h hne 0 u0) hne 1 u1) hne 2 u2) hne 3 u3) hne 4 u4) hne 5 u5) hne 6 u6) hne 7 u7) hne 8 u8) hne 9 u9) hne 10 u10) hne 11 u11)
theorem Qa.f12 {W : World} {b : Nat} {t : TypeId} {cs : Array Value} (h : Qa W b t cs) : W.frozen? ⟨b,0,none⟩ = false ∧ W.frozen? ⟨b,1,none⟩ = false ∧ W.frozen? ⟨b,2,none⟩ = false ∧ W.frozen? ⟨b,3,none⟩ = false ∧ W.frozen? ⟨b,4,none⟩ = false ∧ W.frozen? ⟨b,5,none⟩ = false ∧ W.frozen? ⟨b,6,none⟩ = false ∧ W.frozen? ⟨b,7,none⟩ = false ∧ W.frozen? ⟨b,8,none⟩ = false ∧ W.frozen? ⟨b,9,none⟩ = false ∧ W.frozen? ⟨b,10,none⟩ = false ∧ W.frozen? ⟨b,11,none⟩ = false:=⟨h.frozen 0,h.frozen 1,h.frozen 2,h.frozen 3,h.frozen 4,h.frozen 5,h.frozen 6,h.frozen 7,h.frozen 8,h.frozen 9,h.frozen 10,h.frozen 11⟩
end
section
def Qk {α : Type} (f : Nat → α) (k : Nat) (v : α) : Nat → α:=fun x => if x = k then v else f x
theorem Z4 {α : Type} (f : Nat → α) (k : Nat) (v : α) : Qk f k v k = v:=by simp [Qk]
theorem Zl {α : Type} (f : Nat → α) {k x : Nat} (v : α) (h : x ≠ k) : Qk f k v x = f x:=by simp [Qk,h]
/-- The partners of the ins, those of the outs. -/
abbrev Mt:=(Nat → Int) × (Nat → Int)
abbrev Bl:=Nat → Bool
def Ys (s : Mt) (k i : Nat) : Mt:=(Qk s.1 k i,Qk s.2 i k)
def Zy (rec : Mt → Bl → Nat → Option Mt × Bl) (i : Nat) : List Nat → Mt → Bl → Option Mt × Bl
 | [],_,b => (none,b)
 | k :: r,m,b =>
  if b k then Zy rec i r m b
  else if m.1 k < 0 then (some (Ys m k i),Qk b k true)
  else match rec m (Qk b k true) (m.1 k).toNat with
   | (some m',b') => (some (Ys m' k i),b')
   | (none,b') => Zy rec i r m b'
def Q3 (adj : Nat → List Nat) : Nat → Mt → Bl → Nat → Option Mt × Bl
 | 0,_,b,_ => (none,b)
 | n + 1,m,b,i => Zy (Q3 adj n) i (adj i) m b
def Jn : Nat → Bl → Nat
 | 0,_ => 0
 | n + 1,b => Jn n b + (if b n then 0 else 1)
theorem Ko : ∀ (n : Nat) (b : Bl),Jn n b ≤ n
 | 0,_ => Nat.le_refl _
 | n + 1,b => by have:=Ko n b;unfold Jn;split <;> omega
theorem Nc {b b' : Bl} (h : ∀ k,b k = true → b' k = true) : ∀ n,Jn n b' ≤ Jn n b
 | 0 => Nat.le_refl _
 | n + 1 => by
  have:=Nc h n;unfold Jn;by_cases e : b n = true
  ·simp [e,h n e,this]
  ·by_cases e' : b' n = true <;> simp [e,e'] <;> omega
theorem Nf {b : Bl} {k : Nat} (hb : b k = false) : ∀ {n : Nat},k < n → Jn n (Qk b k true) + 1 = Jn n b
 | n + 1,hk => by
  unfold Jn;by_cases e : n = k
  ·subst e
   have h : Jn n (Qk b n true) = Jn n b:=by
    have : ∀ m,m ≤ n → Jn m (Qk b n true) = Jn m b:=fun m => by
     induction m with
     | zero => intro _;rfl
     | succ m ih => intro hm;unfold Jn;rw [ih (by omega),Zl b true (show m ≠ n by omega)]
    exact this n (Nat.le_refl _)
   rw [h,Z4,hb];simp
  ·have:=Nf hb (n:=n) (by omega);rw [Zl b true e];omega
theorem Ff {b : Bl} : ∀ {n : Nat},Jn n b = 0 → ∀ k,k < n → b k = true
 | n + 1,h,k,hk => by
  unfold Jn at h;by_cases e : k = n
  ·subst e;cases hb : b k
   ·rw [hb] at h;simp at h
   ·rfl
  ·exact Ff (n:=n) (by omega) k (by omega)
theorem Pb {rec : Mt → Bl → Nat → Option Mt × Bl} {i : Nat} {m : Mt} {b : Bl} : ∀ {l : List Nat},(∀ k ∈ l,b k = true) → Zy rec i l m b = (none,b)
 | [],_ => rfl
 | k :: r,h => by
  unfold Zy;rw [if_pos (h k List.mem_cons_self)];exact Pb fun x hx => h x (List.mem_cons_of_mem _ hx)
theorem Ph {adj : Nat → List Nat} {ni n : Nat} {m : Mt} {b : Bl} {i : Nat} (hi : ∀ k ∈ adj i,k < ni) (h : Jn ni b ≤ n) : Q3 adj n m b i = Zy (Q3 adj (n - 1)) i (adj i) m b:=by
 cases n with
 | zero => rw [Pb fun k hk => Ff (Nat.le_zero.1 h) k (hi k hk)];rfl
 | succ n => rfl
theorem Gw {rec : Mt → Bl → Nat → Option Mt × Bl} (hr : ∀ m b i k,b k = true → (rec m b i).2 k = true) {i : Nat} {m : Mt} : ∀ {l : List Nat} {b : Bl} {k : Nat},b k = true → (Zy rec i l m b).2 k = true
 | [],_,_,h => h
 | x :: r,b,k,h => by
  have hu : Qk b x true k = true:=by
   by_cases e : k = x
   ·subst e;exact Z4 _ _ _
   ·rw [Zl b true e];exact h
  unfold Zy
  split
  ·exact Gw hr h
  split
  ·exact hu
  ·have h1:=hr m (Qk b x true) (m.1 x).toNat k hu;generalize rec m (Qk b x true) (m.1 x).toNat = R at *;obtain ⟨o,b'⟩:=R
   cases o with
   | none => exact Gw hr h1
   | some m' => exact h1
theorem Va (adj : Nat → List Nat) : ∀ (n : Nat) (m : Mt) (b : Bl) (i k : Nat),b k = true → (Q3 adj n m b i).2 k = true
 | 0,_,_,_,_,h => h
 | n + 1,_,_,_,_,h => Gw (Va adj n) h
/-- What a search that failed has seen: it is closed. -/
def Gi (adj : Nat → List Nat) (m : Mt) (l : List Nat) (b b' : Bl) : Prop :=
 (∀ k ∈ l,b' k = true) ∧ (∀ k,b k = true → b' k = true) ∧ ∀ k,b' k = true → b k = false → 0 ≤ m.1 k ∧ ∀ k2 ∈ adj (m.1 k).toNat,b' k2 = true
theorem Gv {adj : Nat → List Nat} {ni n : Nat} {m : Mt} {i : Nat} (IH : ∀ b j b',Jn ni b ≤ n → Q3 adj n m b j = (none,b') → Gi adj m (adj j) b b') : ∀ {l : List Nat} {b b' : Bl},(∀ k ∈ l,k < ni) → Jn ni b ≤ n + 1 → Zy (Q3 adj n) i l m b = (none,b') → Gi adj m l b b'
 | [],b,b',_,_,h => by
  obtain rfl : b = b':=by simpa [Zy] using h
  exact ⟨fun k hk => absurd hk (by simp),fun k h => h,fun k h h' => by rw [h] at h';exact absurd h' (by decide)⟩
 | k :: r,b,b',hl,hc,h => by
  unfold Zy at h;have hr : ∀ x ∈ r,x < ni:=fun x hx => hl x (List.mem_cons_of_mem _ hx)
  split at h
  ·rename_i hb
   obtain ⟨h1,h2,h3⟩:=Gv IH hr hc h;refine ⟨fun x hx => ?_,h2,h3⟩;rcases List.mem_cons.1 hx with rfl | hx
   ·exact h2 _ hb
   ·exact h1 x hx
  rename_i hb
  split at h
  ·exact absurd h (by simp)
  rename_i hm
  have hb' : b k = false:=by simpa using hb
  have hcu:=Nf hb' (hl k List.mem_cons_self);have hmono:=Va adj n m (Qk b k true) (m.1 k).toNat;generalize hR : Q3 adj n m (Qk b k true) (m.1 k).toNat = R at *;obtain ⟨o,b2⟩:=R
  cases o with
  | some m' => exact absurd h (by simp)
  | none =>
   obtain ⟨g1,g2,g3⟩:=IH (Qk b k true) (m.1 k).toNat b2 (by omega) hR
   have hbb : ∀ x,b x = true → Qk b k true x = true:=fun x hx => by
    by_cases e : x = k
    ·subst e;exact Z4 _ _ _
    ·rw [Zl b true e];exact hx
   obtain ⟨h1,h2,h3⟩:=Gv IH hr (Nat.le_trans (Nc (fun x hx => g2 x (hbb x hx)) ni) hc) h;have hk : b' k = true:=h2 k (g2 k (Z4 _ _ _));refine ⟨fun x hx => ?_,fun x hx => h2 x (g2 x (hbb x hx)),fun x hx hx' => ?_⟩
   ·rcases List.mem_cons.1 hx with rfl | hx
    ·exact hk
    ·exact h1 x hx
   ·by_cases e : x = k
    ·subst e;exact ⟨by omega,fun k2 hk2 => h2 k2 (g1 k2 hk2)⟩
    ·cases e2 : b2 x
     ·exact h3 x hx e2
     ·obtain ⟨q1,q2⟩:=g3 x e2 (by rw [Zl b true e];exact hx');exact ⟨q1,fun k2 hk2 => h2 k2 (q2 k2 hk2)⟩
theorem Pj {adj : Nat → List Nat} {ni : Nat} (hadj : ∀ o,∀ k ∈ adj o,k < ni) {m : Mt} : ∀ (n : Nat) (b : Bl) (i : Nat) (b' : Bl),Jn ni b ≤ n → Q3 adj n m b i = (none,b') → Gi adj m (adj i) b b'
 | 0,b,i,b',hc,h => by
  obtain rfl : b = b':=by simpa [Q3] using h
  exact ⟨fun k hk => Ff (Nat.le_zero.1 hc) k (hadj i k hk),fun k h => h,fun k h h' => by rw [h] at h';exact absurd h' (by decide)⟩
 | n + 1,b,i,b',hc,h => Gv (fun b j b' => Pj hadj n b j b') (fun k hk => hadj i k hk) hc h
/-- Outs and ins from which no way leads out. -/
def Clo (adj : Nat → List Nat) (fx : Bl) (m : Nat → Int) (A R : Nat → Prop) : Prop:=(∀ o,A o → ∀ k ∈ adj o,R k ∨ fx k = true) ∧ ∀ k,R k → 0 ≤ m k ∧ A (m k).toNat
def Um (adj : Nat → List Nat) (fx : Bl) (m : Nat → Int) (o : Nat) : Prop:=∃ A R,Clo adj fx m A R ∧ A o
theorem Dh {adj : Nat → List Nat} {ni n : Nat} {m : Mt} {fx : Bl} {i : Nat} (hadj : ∀ o,∀ k ∈ adj o,k < ni) (hc : Jn ni fx ≤ n) (h : (Q3 adj n m fx i).1 = none) : Um adj fx m.1 i:=by
 obtain ⟨b',hb⟩ : ∃ b',Q3 adj n m fx i = (none,b'):=⟨(Q3 adj n m fx i).2,by rw [← h]⟩;obtain ⟨h1,h2,h3⟩:=Pj hadj n fx i b' hc hb;refine ⟨fun o => o = i ∨ ∃ k,b' k = true ∧ fx k = false ∧ (m.1 k).toNat = o,fun k => b' k = true ∧ fx k = false,⟨fun o ho k hk => ?_,fun k hk => ?_⟩,.inl rfl⟩
 ·have hk' : b' k = true:=by
   rcases ho with rfl | ⟨k0,g1,g2,rfl⟩
   ·exact h1 k hk
   ·exact (h3 k0 g1 g2).2 k hk
  cases e : fx k
  ·exact .inl ⟨hk',e⟩
  ·exact .inr rfl
 ·exact ⟨(h3 k hk.1 hk.2).1,.inr ⟨k,hk.1,hk.2,rfl⟩⟩
theorem Py {adj : Nat → List Nat} {fx : Bl} {m : Mt} {A R : Nat → Prop} (h : Clo adj fx m.1 A R) : ∀ (n : Nat) (b : Bl) (i : Nat),(∀ k,fx k = true → b k = true) → A i → (Q3 adj n m b i).1 = none
 | 0,_,_,_,_ => rfl
 | n + 1,b,i,hb,hi => by
  have go : ∀ (l : List Nat) (b : Bl),(∀ k ∈ l,k ∈ adj i) → (∀ k,fx k = true → b k = true) → (Zy (Q3 adj n) i l m b).1 = none:=fun l => by
   induction l with
   | nil => intro b _ _;rfl
   | cons k r ih =>
    intro b hl hb;have hr : ∀ x ∈ r,x ∈ adj i:=fun x hx => hl x (List.mem_cons_of_mem _ hx)
    unfold Zy
    split
    ·exact ih b hr hb
    rename_i hbk
    have hR : R k:=by
     rcases h.1 i hi k (hl k List.mem_cons_self) with g | g
     ·exact g
     ·exact absurd (hb k g) hbk
    obtain ⟨g1,g2⟩:=h.2 k hR;rw [if_neg (by omega)]
    have hu : ∀ x,fx x = true → Qk b k true x = true:=fun x hx => by
     by_cases e : x = k
     ·subst e;exact Z4 _ _ _
     ·rw [Zl b true e];exact hb x hx
    have hn:=Py h n (Qk b k true) (m.1 k).toNat hu g2;have hm:=fun x hx => Va adj n m (Qk b k true) (m.1 k).toNat x (hu x hx)
    generalize Q3 adj n m (Qk b k true) (m.1 k).toNat = Q at *;obtain ⟨o,b2⟩:=Q;obtain rfl : o = none:=hn;exact ih b2 hr hm
  exact go (adj i) b (fun k hk => hk) hb
theorem Px {adj : Nat → List Nat} {fx : Bl} {m : Mt} {A R : Nat → Prop} (h : Clo adj fx m.1 A R) : ∀ (n : Nat) (b : Bl) (i : Nat) (m' : Mt),(∀ k,fx k = true → b k = true) → (Q3 adj n m b i).1 = some m' → ∀ k,R k → m'.1 k = m.1 k
 | 0,_,_,_,_,hs => by simp [Q3] at hs
 | n + 1,b,i,m',hb,hs => by
  have go : ∀ (l : List Nat) (b : Bl),(∀ k,fx k = true → b k = true) → (Zy (Q3 adj n) i l m b).1 = some m' → ∀ k,R k → m'.1 k = m.1 k:=fun l => by
   induction l with
   | nil => intro b _ hs;simp [Zy] at hs
   | cons k r ih =>
    intro b hb hs;unfold Zy at hs
    split at hs
    ·exact ih b hb hs
    split at hs
    ·rename_i hm
     obtain rfl : Ys m k i = m':=by simpa using hs
     intro x hx;have:=(h.2 x hx).1;exact Zl _ _ (fun e => by subst e;omega)
    rename_i hm
    have hu : ∀ x,fx x = true → Qk b k true x = true:=fun x hx => by
     by_cases e : x = k
     ·subst e;exact Z4 _ _ _
     ·rw [Zl b true e];exact hb x hx
    have hk:=Px h n (Qk b k true) (m.1 k).toNat;have hnn:=Py h n (Qk b k true) (m.1 k).toNat hu;have hm2:=fun x hx => Va adj n m (Qk b k true) (m.1 k).toNat x (hu x hx)
    generalize Q3 adj n m (Qk b k true) (m.1 k).toNat = Q at *;obtain ⟨o,b2⟩:=Q
    cases o with
    | none => exact ih b2 hm2 hs
    | some m1 =>
     obtain rfl : Ys m1 k i = m':=by simpa using hs
     intro x hx;have h1:=hk m1 hu rfl x hx;by_cases e : x = k
     ·subst e;exact absurd (hnn (h.2 x hx).2) (by simp)
     ·exact (Zl _ _ e).trans h1
  exact go (adj i) b hb hs
theorem Qc2 {adj : Nat → List Nat} {fx : Bl} {m m' : Mt} {n i o : Nat} (hs : (Q3 adj n m fx i).1 = some m') (h : Um adj fx m.1 o) : Um adj fx m'.1 o:=by
 obtain ⟨A,R,hc,ho⟩:=h;refine ⟨A,R,⟨hc.1,fun k hk => ?_⟩,ho⟩;rw [Px hc n fx i m' (fun _ h => h) hs k hk];exact hc.2 k hk
/-- How many ins have a partner; how many have that one. -/
def Jt : Nat → (Nat → Int) → Int → Nat
 | 0,_,_ => 0
 | n + 1,m,x => Jt n m x + (if m n = x then 1 else 0)
theorem P4 {m m' : Nat → Int} {x : Int} : ∀ {n : Nat},(∀ k,k < n → m k = m' k) → Jt n m x = Jt n m' x
 | 0,_ => rfl
 | n + 1,h => by unfold Jt;rw [P4 fun k hk => h k (by omega),h n (by omega)]
theorem Ls (m : Nat → Int) {k : Nat} (v x : Int) : ∀ {n : Nat},k < n → Jt n (Qk m k v) x + (if m k = x then 1 else 0) = Jt n m x + (if v = x then 1 else 0)
 | n + 1,hk => by
  unfold Jt;by_cases e : n = k
  ·subst e;rw [P4 (m':=m) fun j hj => Zl m v (by omega),Z4];omega
  ·have:=Ls m v x (n:=n) (k:=k) (by omega);rw [Zl m v e];omega
theorem Vc {m : Nat → Int} {x : Int} : ∀ {n : Nat},0 < Jt n m x → ∃ k,k < n ∧ m k = x
 | n + 1,h => by
  unfold Jt at h;by_cases e : m n = x
  ·exact ⟨n,by omega,e⟩
  ·rw [if_neg e] at h;obtain ⟨k,h1,h2⟩:=Vc (n:=n) (by omega);exact ⟨k,by omega,h2⟩
theorem V1 {m : Nat → Int} {x : Int} {k : Nat} : ∀ {n : Nat},k < n → m k = x → 0 < Jt n m x
 | n + 1,hk,h => by
  unfold Jt;by_cases e : k = n
  ·subst e;rw [if_pos h];omega
  ·have:=V1 (n:=n) (show k < n by omega) h;omega
theorem Kn {m : Nat → Int} {x : Int} {k j : Nat} : ∀ {n : Nat},Jt n m x ≤ 1 → k < n → j < n → m k = x → m j = x → k = j
 | n + 1,h,hk,hj,h1,h2 => by
  unfold Jt at h;by_cases e : m n = x
  ·rw [if_pos e] at h;by_cases e1 : k = n
   ·by_cases e2 : j = n
    ·omega
    ·have:=V1 (n:=n) (show j < n by omega) h2;omega
   ·have:=V1 (n:=n) (show k < n by omega) h1;omega
  ·have h3 : k ≠ n:=fun e' => e (by rw [← e'];exact h1)
   have h4 : j ≠ n:=fun e' => e (by rw [← e'];exact h2)
   exact Kn (n:=n) (by omega) (by omega) (by omega) h1 h2
/-- The ins that are not fixed and have a partner. -/
def Zq : Nat → Bl → (Nat → Int) → Nat
 | 0,_,_ => 0
 | n + 1,fx,m => Zq n fx m + (if fx n = false ∧ 0 ≤ m n then 1 else 0)
theorem Hx {fx fx' : Bl} {m m' : Nat → Int} : ∀ {n : Nat},(∀ k,k < n → fx k = fx' k ∧ (fx k = false → (0 ≤ m k ↔ 0 ≤ m' k))) → Zq n fx m = Zq n fx' m'
 | 0,_ => rfl
 | n + 1,h => by
  unfold Zq;rw [Hx fun k hk => h k (by omega)];obtain ⟨h1,h2⟩:=h n (by omega);rw [← h1]
  congr 1
  by_cases e : fx n = false
  ·simp [e,h2 e]
  ·simp [e]
theorem Hy {fx : Bl} (m : Nat → Int) {k : Nat} (v : Int) (hf : fx k = false) : ∀ {n : Nat},k < n → Zq n fx (Qk m k v) + (if 0 ≤ m k then 1 else 0) = Zq n fx m + (if 0 ≤ v then 1 else 0)
 | n + 1,hk => by
  unfold Zq;by_cases e : n = k
  ·subst e;rw [Hx (fx':=fx) (m':=m) fun j hj => ⟨rfl,fun _ => by rw [Zl m v (show j ≠ n by omega)]⟩,Z4];simp [hf];omega
  ·have:=Hy m v hf (n:=n) (k:=k) (by omega);rw [Zl m v e];omega
theorem Tu {fx : Bl} {m : Nat → Int} {k : Nat} (hf : fx k = false) (hm : 0 ≤ m k) : ∀ {n : Nat},k < n → Zq n (Qk fx k true) m + 1 = Zq n fx m
 | n + 1,hk => by
  unfold Zq;by_cases e : n = k
  ·subst e;rw [Hx (fx':=fx) (m':=m) fun j hj => ⟨Zl fx true (show j ≠ n by omega),fun _ => Iff.rfl⟩,Z4];simp [hf,hm]
  ·have:=Tu hf hm (n:=n) (k:=k) (by omega);rw [Zl fx true e];omega
/-- What a search that succeeded has made. -/
structure Us (adj : Nat → List Nat) (ni : Nat) (fx : Bl) (m : Mt) (b : Bl) (i : Nat) (m' : Mt) : Prop where
 k : ∀ k,b k = true → m'.1 k = m.1 k
 a : ∀ k,m'.1 k = m.1 k ∨ (0 ≤ m'.1 k ∧ k ∈ adj (m'.1 k).toNat)
 c : ∀ x : Int,0 ≤ x → Jt ni m'.1 x = Jt ni m.1 x + (if x = i then 1 else 0)
 p : ∀ k,0 ≤ m.1 k → 0 ≤ m'.1 k
 s : Zq ni fx m'.1 = Zq ni fx m.1 + 1
theorem Qi6 {adj : Nat → List Nat} {ni : Nat} {fx b : Bl} {m : Mt} {k i : Nat} (hk : k ∈ adj i) (hn : k < ni) (hb : b k = false) (hf : ∀ x,fx x = true → b x = true) (hm : m.1 k < 0) : Us adj ni fx m b i (Ys m k i):=by
 have hfk : fx k = false:=by
  cases e : fx k
  ·rfl
  ·rw [hf k e] at hb;exact absurd hb (by decide)
 refine ⟨fun x hx => Zl _ _ (fun e => by subst e;rw [hx] at hb;exact absurd hb (by decide)),fun x => ?_,fun x hx => ?_,fun x hx => ?_,?_⟩
 ·by_cases e : x = k
  ·subst e
   right
   show 0 ≤ Qk m.1 x i x ∧ x ∈ adj (Qk m.1 x i x).toNat
   rw [Z4];exact ⟨by omega,by simpa using hk⟩
  ·exact .inl (Zl _ _ e)
 ·have := Ls m.1 (i : Int) x hn;rw [if_neg (show m.1 k ≠ x by omega)] at this
  show Jt ni (Qk m.1 k i) x = _
  by_cases e : x = i
  ·subst e;simpa using this
  ·rw [if_neg (fun e' => e e'.symm)] at this;simpa [e] using this
 ·show 0 ≤ Qk m.1 k i x
  by_cases e : x = k
  ·subst e;rw [Z4];omega
  ·rw [Zl _ _ e];exact hx
 ·have:=Hy m.1 (i : Int) hfk hn;rw [if_neg (show ¬ 0 ≤ m.1 k by omega),if_pos (show (0 : Int) ≤ i by omega)] at this;exact this
theorem Qi7 {adj : Nat → List Nat} {ni : Nat} {fx b : Bl} {m m1 : Mt} {k i : Nat} (hk : k ∈ adj i) (hn : k < ni) (hb : b k = false) (hf : ∀ x,fx x = true → b x = true) (hm : ¬ m.1 k < 0) (W : Us adj ni fx m (Qk b k true) (m.1 k).toNat m1) : Us adj ni fx m b i (Ys m1 k i):=by
 have hfk : fx k = false:=by
  cases e : fx k
  ·rfl
  ·rw [hf k e] at hb;exact absurd hb (by decide)
 have h1 : m1.1 k = m.1 k:=W.k k (Z4 _ _ _);have hp : ((m.1 k).toNat : Int) = m.1 k:=by omega
 refine ⟨fun x hx => ?_,fun x => ?_,fun x hx => ?_,fun x hx => ?_,?_⟩
 ·have e : x ≠ k := fun e => by subst e; rw [hx] at hb; exact absurd hb (by decide)
  exact (Zl _ _ e).trans (W.k x (by rw [Zl b true e];exact hx))
 ·by_cases e : x = k
  ·subst e
   right
   show 0 ≤ Qk m1.1 x i x ∧ x ∈ adj (Qk m1.1 x i x).toNat
   rw [Z4];exact ⟨by omega,by simpa using hk⟩
  ·show Qk m1.1 k i x = _ ∨ (0 ≤ Qk m1.1 k i x ∧ x ∈ adj (Qk m1.1 k i x).toNat)
   rw [Zl _ _ e];exact W.a x
 ·have h2:=Ls m1.1 (i : Int) x hn;have h3:=W.c x hx;rw [hp] at h3;rw [h1] at h2
  show Jt ni (Qk m1.1 k i) x = _
  by_cases e : x = i
  ·subst e;by_cases e2 : m.1 k = (i : Int)
   ·simp [e2] at h2 h3;simp;omega
   ·have e3 : ¬ (i : Int) = m.1 k:=fun h => e2 h.symm
    simp [e2,e3] at h2 h3;simp;omega
  ·have e' : ¬ (i : Int) = x:=fun h => e h.symm
   by_cases e2 : m.1 k = x
   ·subst e2;simp [e,e'] at h2 h3 ⊢;omega
   ·have e3 : ¬ x = m.1 k:=fun h => e2 h.symm
    simp [e,e',e2,e3] at h2 h3 ⊢;omega
 ·show 0 ≤ Qk m1.1 k i x
  by_cases e : x = k
  ·subst e;rw [Z4];omega
  ·rw [Zl _ _ e];exact W.p x hx
 ·have h2 := Hy m1.1 (i : Int) hfk hn;have h3 := W.s;rw [h1, if_pos (show 0 ≤ m.1 k by omega), if_pos (show (0 : Int) ≤ i by omega)] at h2
  show Zq ni fx (Qk m1.1 k i) = _
  omega
theorem G0 {adj : Nat → List Nat} {ni : Nat} {fx : Bl} (hadj : ∀ o,∀ k ∈ adj o,k < ni) {m : Mt} : ∀ (n : Nat) (b : Bl) (i : Nat) (m' : Mt),(∀ k,fx k = true → b k = true) → (Q3 adj n m b i).1 = some m' → Us adj ni fx m b i m'
 | 0,_,_,_,_,hs => by simp [Q3] at hs
 | n + 1,b,i,m',hb,hs => by
  have go : ∀ (l : List Nat) (b0 b : Bl),(∀ k ∈ l,k ∈ adj i) → (∀ k,fx k = true → b0 k = true) → (∀ k,b0 k = true → b k = true) → (Zy (Q3 adj n) i l m b).1 = some m' → Us adj ni fx m b0 i m':=fun l => by
   induction l with
   | nil => intro b0 b _ _ _ hs;simp [Zy] at hs
   | cons k r ih =>
    intro b0 b hl h0 hb hs;have hr : ∀ x ∈ r,x ∈ adj i:=fun x hx => hl x (List.mem_cons_of_mem _ hx)
    have hki:=hl k List.mem_cons_self;unfold Zy at hs
    split at hs
    ·exact ih b0 b hr h0 hb hs
    rename_i hbk
    have hbk' : b k = false:=by simpa using hbk
    have hbk0 : b0 k = false:=by
     cases e : b0 k
     ·rfl
     ·rw [hb k e] at hbk';exact absurd hbk' (by decide)
    have weak : ∀ {m'' : Mt},Us adj ni fx m b i m'' → Us adj ni fx m b0 i m'':=fun W => ⟨fun x hx => W.k x (hb x hx),W.a,W.c,W.p,W.s⟩
    have hfb : ∀ x,fx x = true → b x = true:=fun x hx => hb x (h0 x hx)
    split at hs
    ·rename_i hm
     obtain rfl : Ys m k i = m':=by simpa using hs
     exact weak (Qi6 hki (hadj i k hki) hbk' hfb hm)
    rename_i hm
    have hu : ∀ x,b x = true → Qk b k true x = true:=fun x hx => by
     by_cases e : x = k
     ·subst e;exact Z4 _ _ _
     ·rw [Zl b true e];exact hx
    have hk:=fun m1 => G0 (fx:=fx) hadj (m:=m) n (Qk b k true) (m.1 k).toNat m1 (fun x hx => hu x (hfb x hx))
    have hm2:=fun x hx => Va adj n m (Qk b k true) (m.1 k).toNat x (hu x hx)
    generalize Q3 adj n m (Qk b k true) (m.1 k).toNat = Q at *;obtain ⟨o,b2⟩:=Q
    cases o with
    | none => exact ih b0 b2 hr h0 (fun x hx => hm2 x (hb x hx)) hs
    | some m1 =>
     obtain rfl : Ys m1 k i = m':=by simpa using hs
     exact weak (Qi7 hki (hadj i k hki) hbk' hfb hm (hk m1 rfl))
  exact go (adj i) b b (fun k hk => hk) hb (fun _ h => h) hs
end
end Go.Proofs.YtoflcheopfppoaaGreatDoor
