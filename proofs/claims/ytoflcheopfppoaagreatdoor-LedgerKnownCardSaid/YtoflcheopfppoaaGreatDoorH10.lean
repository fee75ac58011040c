/- Walks and plain facts, packed; no conditions but those that each states. -/
import Derived.Test.YtoflcheopfppoaaGreatDoorH9
import Derived.Laws.StructEq
import Derived.Lib.Strings
import Derived.Lib.MinMax
set_option maxRecDepth 100000
set_option maxHeartbeats 4000000
namespace Go.Proofs.YtoflcheopfppoaaGreatDoor
section
open Go Go.RowKit Go.Shelf
attribute [local go_sem] Zu
def Ua (h : Yz) : Nat → Bool
 | 0 => true
 | 1 => true && (decide (0 ≤ h.e) && decide (h.e ≤ 1048576))
 | 2 => (true && (decide (0 ≤ h.e) && decide (h.e ≤ 1048576))) && (decide (0 ≤ h.r) && decide (h.r ≤ 1048576))
 | _ => ((true && (decide (0 ≤ h.e) && decide (h.e ≤ 1048576))) && (decide (0 ≤ h.r) && decide (h.r ≤ 1048576))) && (decide (0 ≤ h.l) && decide (h.l ≤ 1048576))
section
variable {W w : World} {b : Nat} {t : TypeId} {v0 v1 v2 : Value}
theorem Ae (h : Qa W b t #[v0,v1,v2]) (u : Value) : Qa (W.setCell ⟨b,0,none⟩ u) b t #[u,v1,v2]:=by unfold Qa at h ⊢;simp [World.setCell,Array.getElem?_modify,h]
theorem Af (h : Qa W b t #[v0,v1,v2]) (u : Value) : Qa (W.setCell ⟨b,1,none⟩ u) b t #[v0,u,v2]:=by unfold Qa at h ⊢;simp [World.setCell,Array.getElem?_modify,h]
theorem Ag (h : Qa W b t #[v0,v1,v2]) (u : Value) : Qa (W.setCell ⟨b,2,none⟩ u) b t #[v0,v1,u]:=by unfold Qa at h ⊢;simp [World.setCell,Array.getElem?_modify,h]
theorem K4 (h : Qa W b t #[v0,v1,v2]) (u0 u1 u2 : Value) : Qa (((W.setCell ⟨b,0,none⟩ u0).setCell ⟨b,1,none⟩ u1).setCell ⟨b,2,none⟩ u2) b t #[u0,u1,u2]:=by unfold Qa at h ⊢;simp [World.setCell,Array.getElem?_modify,h]
theorem K0 (h : Qc w W) (hb : w.heap.size ≤ b) (u0 u1 u2 : Value) : Qc w (((W.setCell ⟨b,0,none⟩ u0).setCell ⟨b,1,none⟩ u1).setCell ⟨b,2,none⟩ u2):=((h.setCell (p:=⟨b,0,none⟩) hb u0).setCell (p:=⟨b,1,none⟩) hb u1).setCell (p:=⟨b,2,none⟩) hb u2
end
def stJ (d : Rt) (g : Yz) : Nat → Yz
 | 0 => g
 | 1 => ⟨Zm g.e d,g.r,g.l⟩
 | 2 => ⟨Zm g.e d,Zm g.r d,g.l⟩
 | _ => ⟨Zm g.e d,Zm g.r d,Zm g.l d⟩
theorem Qjq (h : Yz) : Ua h 3 = h.ok:=rfl
theorem Qg2 (h : Yz) (w : World) :
  Calls Tryz.prog 93 #[.agg #[.int .i64 h.e,.int .i64 h.r,.int .i64 h.l]] w fun e w' => e = .returned (.bool h.ok) ∧ Qc w w':=by
 rw [show h.ok = Ua h 3 from (Qjq h).symm];have hix0 : ∀ w,(Instr.index 225 (.agg #[.int .i64 h.e,.int .i64 h.r,.int .i64 h.l]) (.int .i64 0)).run Tryz.prog w = .ok (.int .i64 h.e) w:=fun w => by kernel_rfl
 have hix1 : ∀ w,(Instr.index 225 (.agg #[.int .i64 h.e,.int .i64 h.r,.int .i64 h.l]) (.int .i64 1)).run Tryz.prog w = .ok (.int .i64 h.r) w:=fun w => by kernel_rfl
 have hix2 : ∀ w,(Instr.index 225 (.agg #[.int .i64 h.e,.int .i64 h.r,.int .i64 h.l]) (.int .i64 2)).run Tryz.prog w = .ok (.int .i64 h.l) w:=fun w => by kernel_rfl
 go_enter Tryz.func93,Tryz.ntmps93
 go_upto_region 1 with fail
 obtain ⟨v,b1,E,B1,hbr,hv,hb1⟩:=Ym w 116 #[.int .i64 h.e,.int .i64 h.r,.int .i64 h.l];rw [← hv,← hb1];clear hv hb1;obtain ⟨k0,k1,k2,lk⟩:=Qa.d3 B1;go_upto_region 3 with fail
 go_loopw [3,13] (fun ov iv wr => ∃ k : Nat,k ≤ 3 ∧ iv = .int .i64 (k : Int) ∧ ov = .bool (Ua h k) ∧ Qc w wr) (fun _ iv _ => 3 - (intOf iv).toNat)
 case atStart => exact ⟨0,by decide,rfl,rfl,E⟩
 case round =>
  clear E k0 k1 k2 lk B1;obtain ⟨k,hk,rfl,rfl,hE⟩:=hrel;obtain ⟨wo,rfl⟩:=Qf wr;by_cases hlt : k < 3
  ·have h3 : k = 0 ∨ k = 1 ∨ k = 2:=Qb;rcases h3 with rfl | rfl | rfl
   ·skip
    have hh : Hid (Ua h 1 = (Ua h 0 && (decide (0 ≤ h.e) && decide (h.e ≤ 1048576)))):=rfl;cases hq : Ua h 0
    ·rw [hq] at hh;go_wp2;exact ⟨⟨1,by decide,rfl,by rw [hh.out];rfl,hE⟩,by simp [intOf]⟩
    ·rw [hq] at hh;by_cases h1 : 0 ≤ h.e
     ·have g1 : decide (0 ≤ h.e) = true:=zt h1;by_cases h2 : h.e ≤ 1048576
      ·have g2 : decide (h.e ≤ 1048576) = true:=zt h2;go_wp2;exact ⟨⟨1,by decide,rfl,by rw [hh.out,g1,g2];rfl,hE⟩,by simp [intOf]⟩
      ·have g2 : decide (h.e ≤ 1048576) = false:=zf h2;go_wp2;exact ⟨⟨1,by decide,rfl,by rw [hh.out,g1,g2];rfl,hE⟩,by simp [intOf]⟩
     ·have g1 : decide (0 ≤ h.e) = false:=zf h1;go_wp2;exact ⟨⟨1,by decide,rfl,by rw [hh.out,g1];rfl,hE⟩,by simp [intOf]⟩
   ·skip
    have hh : Hid (Ua h 2 = (Ua h 1 && (decide (0 ≤ h.r) && decide (h.r ≤ 1048576)))):=rfl;cases hq : Ua h 1
    ·rw [hq] at hh;go_wp2;exact ⟨⟨2,by decide,rfl,by rw [hh.out];rfl,hE⟩,by simp [intOf]⟩
    ·rw [hq] at hh;by_cases h1 : 0 ≤ h.r
     ·have g1 : decide (0 ≤ h.r) = true:=zt h1;by_cases h2 : h.r ≤ 1048576
      ·have g2 : decide (h.r ≤ 1048576) = true:=zt h2;go_wp2;exact ⟨⟨2,by decide,rfl,by rw [hh.out,g1,g2];rfl,hE⟩,by simp [intOf]⟩
      ·have g2 : decide (h.r ≤ 1048576) = false:=zf h2;go_wp2;exact ⟨⟨2,by decide,rfl,by rw [hh.out,g1,g2];rfl,hE⟩,by simp [intOf]⟩
     ·have g1 : decide (0 ≤ h.r) = false:=zf h1;go_wp2;exact ⟨⟨2,by decide,rfl,by rw [hh.out,g1];rfl,hE⟩,by simp [intOf]⟩
   ·skip
    have hh : Hid (Ua h 3 = (Ua h 2 && (decide (0 ≤ h.l) && decide (h.l ≤ 1048576)))):=rfl;cases hq : Ua h 2
    ·rw [hq] at hh;go_wp2;exact ⟨⟨3,by decide,rfl,by rw [hh.out];rfl,hE⟩,by simp [intOf]⟩
    ·rw [hq] at hh;by_cases h1 : 0 ≤ h.l
     ·have g1 : decide (0 ≤ h.l) = true:=zt h1;by_cases h2 : h.l ≤ 1048576
      ·have g2 : decide (h.l ≤ 1048576) = true:=zt h2;go_wp2;exact ⟨⟨3,by decide,rfl,by rw [hh.out,g1,g2];rfl,hE⟩,by simp [intOf]⟩
      ·have g2 : decide (h.l ≤ 1048576) = false:=zf h2;go_wp2;exact ⟨⟨3,by decide,rfl,by rw [hh.out,g1,g2];rfl,hE⟩,by simp [intOf]⟩
     ·have g1 : decide (0 ≤ h.l) = false:=zf h1;go_wp2;exact ⟨⟨3,by decide,rfl,by rw [hh.out,g1];rfl,hE⟩,by simp [intOf]⟩
  ·obtain rfl : k = 3:=Qb;go_wp2;go_ret;exact ⟨rfl,hE⟩
theorem Qgl (h : Yz) (b d : Rt) (y : Int) (hb : b.In) (hd : d.In) (hy1 : -9223372036854775808 ≤ y) (hy2 : y ≤ 9223372036854775807) (w : World) :
  Calls Tryz.prog 42 #[.agg #[.int .i64 h.e,.int .i64 h.r,.int .i64 h.l],.agg #[.int .i64 b.n,.int .i64 b.d],.agg #[.int .i64 d.n,.int .i64 d.d],.int .i64 y] w fun e w' => e = .returned (.tuple #[.agg #[.int .i64 (U3 h b d y).1.e,.int .i64 (U3 h b d y).1.r,.int .i64 (U3 h b d y).1.l],.int .i64 (U3 h b d y).2]) ∧ Qc w w':=by
 obtain ⟨V,hV0⟩:=Qf (U3 h b d y);rw [← hV0];replace hV0:=zh hV0;have NH:=fun h w => Qg2 h w
 have NB:=fun w => Ou b hb w
 have ND:=fun w => Ou d hd w
 go_enter Tryz.func42,Tryz.ntmps42
 go_upto_region 1 with fail
 obtain ⟨v,b1,b2,b3,b4,E,Hh,Hb,Hd,Hr,hbr1,hbr2,hbr3,hbr,hn21,hn31,hn32,hn41,hn42,hn43,hv,hb1,hb2,hb3,hb4⟩:=Mz w 116 #[.int .i64 h.e,.int .i64 h.r,.int .i64 h.l] 65 #[.int .i64 b.n,.int .i64 b.d] 65 #[.int .i64 d.n,.int .i64 d.d] 116 #[.int .i64 0,.int .i64 0,.int .i64 0];rw [← hv,← hb4,← hb3,← hb2,← hb1];clear hv hb1 hb2 hb3 hb4;have HE:=E;clear E;obtain ⟨k0,k1,k2,lk⟩:=Qa.d3 Hh;obtain ⟨p0,p1,lp⟩:=Qa.d2 Hb;obtain ⟨q0,q1,lq⟩:=Qa.d2 Hd;have K1:=fun u (hu : Qc v u) => (Hb.ext hu).c2
 cases ho : h.ok
 ·have NH1:=fun w => NH h w
  simp only [ho] at NH1;have hr:=hV0.out;unfold U3 at hr;rw [ho,if_neg zD] at hr;subst hr;clear hV0 ho NH K1;go_upto_region 2 with (go_at_call 93;refine zc (NH1 _) ?_;rintro e w1 ⟨rfl,h1⟩)
  replace HE:=HE.trans h1;replace Hr:=Hr.ext h1;obtain ⟨y0,y1,y2,x0,x1,x2,lx⟩:=Qa.e3 Hr;have R3:=K4 Hr (.int .i64 0) (.int .i64 0) (.int .i64 0);have EF:=K0 HE hbr (.int .i64 0) (.int .i64 0) (.int .i64 0);obtain ⟨r0,r1,r2⟩:=R3.c3;go_wp2;refine bodyPost_ret (v:=.tuple #[.agg #[.int .i64 0,.int .i64 0,.int .i64 0],.int .i64 82]) (by simp [results,Tryz.results42,go_sem,r0,r1,r2]) rfl ⟨rfl,EF⟩
 ·have NH1:=fun w => NH h w
  simp only [ho] at NH1;clear K1;have A1 : ∀ u,Qc v u → True:=fun _ _ => trivial
  go_upto_region 3 with (go_at_call 93;refine zc (NH1 _) ?_;rintro e w1 ⟨rfl,h1⟩)
  replace HE:=HE.trans h1;replace Hr:=Hr.ext h1;replace Hh:=Hh.ext h1;replace Hb:=Hb.ext h1;replace Hd:=Hd.ext h1;clear h1 k0 k1 k2 lk p0 p1 lp q0 q1 lq A1 NH1;obtain ⟨p0,p1,lp⟩:=Qa.d2 Hb;obtain ⟨q0,q1,lq⟩:=Qa.d2 Hd;cases hbs : b.shr
  ·simp only [hbs] at NB;have hr:=hV0.out;unfold U3 at hr;rw [ho,hbs,if_pos rfl,Bool.false_and,if_neg zD] at hr;subst hr;clear hV0 ho hbs;go_upto_region 4 with (go_at_call 90;refine zc (NB _) ?_;rintro e w2 ⟨rfl,h2⟩)
   replace HE:=HE.trans h2;replace Hr:=Hr.ext h2;obtain ⟨y0,y1,y2,x0,x1,x2,lx⟩:=Qa.e3 Hr;have R3:=K4 Hr (.int .i64 0) (.int .i64 0) (.int .i64 0);have EF:=K0 HE hbr (.int .i64 0) (.int .i64 0) (.int .i64 0);obtain ⟨r0,r1,r2⟩:=R3.c3;go_wp2;refine bodyPost_ret (v:=.tuple #[.agg #[.int .i64 0,.int .i64 0,.int .i64 0],.int .i64 2]) (by simp [results,Tryz.results42,go_sem,r0,r1,r2]) rfl ⟨rfl,EF⟩
  ·simp only [hbs] at NB;cases hds : d.shr
   ·simp only [hds] at ND;have hr:=hV0.out;unfold U3 at hr;rw [ho,hbs,hds,if_pos rfl,Bool.and_false,if_neg zD] at hr;subst hr;clear hV0 ho hbs hds;go_upto_region 4 with (first | (go_at_call 90;(with_reducible refine zc (NB _) ?_);rintro e w2 ⟨rfl,h2⟩;clear q0 q1 lq;obtain ⟨q0,q1⟩:=(Hd.ext h2).c2;have lq:=(Hd.ext h2).lt) | (go_at_call 90;(with_reducible refine zc (ND _) ?_);rintro e w3 ⟨rfl,h3⟩))
    replace HE:=(HE.trans h2).trans h3;replace Hr:=(Hr.ext h2).ext h3;obtain ⟨y0,y1,y2,x0,x1,x2,lx⟩:=Qa.e3 Hr;have R3:=K4 Hr (.int .i64 0) (.int .i64 0) (.int .i64 0);have EF:=K0 HE hbr (.int .i64 0) (.int .i64 0) (.int .i64 0);obtain ⟨r0,r1,r2⟩:=R3.c3;go_wp2;refine bodyPost_ret (v:=.tuple #[.agg #[.int .i64 0,.int .i64 0,.int .i64 0],.int .i64 2]) (by simp [results,Tryz.results42,go_sem,r0,r1,r2]) rfl ⟨rfl,EF⟩
   ·simp only [hds] at ND
    have hV1 : Hid (V = if y < 0 ∨ 40 < y then (Mc,8) else Lz b d y.toNat h):=by
     unfold Hid;rw [hV0.out];unfold U3;rw [ho,hbs,hds,if_pos rfl,Bool.and_self,if_pos rfl]
    clear hV0;go_upto_region 5 with (first | (go_at_call 90;(with_reducible refine zc (NB _) ?_);rintro e w2 ⟨rfl,h2⟩;clear q0 q1 lq;obtain ⟨q0,q1⟩:=(Hd.ext h2).c2;have lq:=(Hd.ext h2).lt) | (go_at_call 90;(with_reducible refine zc (ND _) ?_);rintro e w3 ⟨rfl,h3⟩))
    replace HE:=(HE.trans h2).trans h3;replace Hr:=(Hr.ext h2).ext h3;replace Hh:=(Hh.ext h2).ext h3;replace Hb:=(Hb.ext h2).ext h3;replace Hd:=(Hd.ext h2).ext h3;clear h2 h3 p0 p1 lp q0 q1 lq NB ND;by_cases y0 : y < 0
    ·have gy : decide (y < 0) = true:=zt y0;have hr:=hV1.out;rw [if_pos (.inl y0)] at hr;subst hr;clear hV1 y0;obtain ⟨y0,y1,y2,x0,x1,x2,lx⟩:=Qa.e3 Hr;have R3:=K4 Hr (.int .i64 0) (.int .i64 0) (.int .i64 0);have EF:=K0 HE hbr (.int .i64 0) (.int .i64 0) (.int .i64 0);obtain ⟨r0,r1,r2⟩:=R3.c3;go_wp2;refine bodyPost_ret (v:=.tuple #[.agg #[.int .i64 0,.int .i64 0,.int .i64 0],.int .i64 8]) (by simp [results,Tryz.results42,go_sem,r0,r1,r2]) rfl ⟨rfl,EF⟩
    ·have gy : decide (y < 0) = false:=zf y0;by_cases y1 : 40 < y
     ·have gy1 : decide (40 < y) = true:=zt y1;have hr:=hV1.out;rw [if_pos (.inr y1)] at hr;subst hr;clear hV1 y0 y1;obtain ⟨y0,y1,y2,x0,x1,x2,lx⟩:=Qa.e3 Hr;have R3:=K4 Hr (.int .i64 0) (.int .i64 0) (.int .i64 0);have EF:=K0 HE hbr (.int .i64 0) (.int .i64 0) (.int .i64 0);obtain ⟨r0,r1,r2⟩:=R3.c3;go_wp2;refine bodyPost_ret (v:=.tuple #[.agg #[.int .i64 0,.int .i64 0,.int .i64 0],.int .i64 8]) (by simp [results,Tryz.results42,go_sem,r0,r1,r2]) rfl ⟨rfl,EF⟩
     ·have gy1 : decide (40 < y) = false:=zf y1;obtain ⟨n,rfl⟩ : ∃ n : Nat,y = (n : Int):=⟨y.toNat,Qb⟩
      have hV2 : Hid (V = Lz b d n h):=by
       have:=hV1.out;rw [if_neg Qb,Int.toNat_natCast] at this;exact this
      clear hV1 hb hd;replace ho:=zh ho;replace hbs:=zh hbs;replace hds:=zh hds;go_upto_region 8 with fail
      go_loopw [34] (fun iv wr => ∃ k : Nat,k ≤ n ∧ iv = .int .i64 (k : Int) ∧ ∃ g : Yz,Hid (g.ok = true) ∧ Qc w wr ∧ Qa wr b1 116 #[.int .i64 g.e,.int .i64 g.r,.int .i64 g.l] ∧ Qa wr b2 65 #[.int .i64 b.n,.int .i64 b.d] ∧ Qa wr b3 65 #[.int .i64 d.n,.int .i64 d.d] ∧ Qa wr b4 116 #[.int .i64 0,.int .i64 0,.int .i64 0] ∧ Hid (V = Lz b d (n - k) g)) (fun iv _ => n - (intOf iv).toNat)
      case atStart => exact ⟨0,Nat.zero_le _,rfl,h,ho,HE,Hh,Hb,Hd,Hr,hV2.out⟩
      case round =>
       clear HE Hh Hb Hd Hr hV2 ho;obtain ⟨k,hk,rfl,g,hg,HE,Hh,Hb,Hd,Hr,hV⟩:=hrel;obtain ⟨wo,rfl⟩:=Qf wr;by_cases hlt : k < n
       ·obtain ⟨m, hm⟩ : ∃ m, n - k = m + 1 := ⟨n - k - 1, Qb⟩;have hm2 : n - (k + 1) = m := Qb;have hV' : Hid (V = if (L3 b d g).ok then Lz b d m (L3 b d g) else (Mc, 6)) := by unfold Hid; rw [hV.out, hm]; rfl
        clear hV hm;have hgo:=hg.out;simp only [Yz.ok,Bool.and_eq_true] at hgo;obtain ⟨g01,g02⟩:=St.1 hgo.1.1;obtain ⟨g11,g12⟩:=St.1 hgo.1.2;obtain ⟨g21,g22⟩:=St.1 hgo.2;clear hgo;have hds:=hds.out;have hdd:=(Pp hds);go_upto_region 10 with fail
        obtain ⟨v4,hv⟩:=Qf (wo.alloc (.cells #[.pointer (some ⟨b1,0,none⟩),.pointer (some ⟨b1,1,none⟩),.pointer (some ⟨b1,2,none⟩)] 180));rw [← hv];have E4 : Qc wo v4:=by rw [hv];exact (Qc.refl _).alloc _
        have Hp : Qa v4 wo.heap.size 180 #[.pointer (some ⟨b1,0,none⟩),.pointer (some ⟨b1,1,none⟩),.pointer (some ⟨b1,2,none⟩)]:=by rw [hv];exact Qa.new _ _ _
        clear hv;have hlh:=Hh.lt;obtain ⟨bp,hbp⟩:=Qf (wo.heap.size);rw [← hbp] at Hp ⊢;have hp1 : bp ≠ b1:=Qb;clear hbp hlh;replace HE:=HE.trans E4;replace Hh:=Hh.ext E4;replace Hb:=Hb.ext E4;replace Hd:=Hd.ext E4;replace Hr:=Hr.ext E4;clear E4
        go_loopw [41] (fun jv wr => ∃ j : Nat,j ≤ 3 ∧ jv = .int .i64 (j : Int) ∧ Qc w wr ∧ Qa wr b1 116 #[.int .i64 (stJ d g j).e,.int .i64 (stJ d g j).r,.int .i64 (stJ d g j).l] ∧ Qa wr b2 65 #[.int .i64 b.n,.int .i64 b.d] ∧ Qa wr b3 65 #[.int .i64 d.n,.int .i64 d.d] ∧ Qa wr bp 180 #[.pointer (some ⟨b1,0,none⟩),.pointer (some ⟨b1,1,none⟩),.pointer (some ⟨b1,2,none⟩)] ∧ Qa wr b4 116 #[.int .i64 0,.int .i64 0,.int .i64 0]) (fun jv _ => 3 - (intOf jv).toNat)
        case atStart => exact ⟨0,by decide,rfl,HE,Hh,Hb,Hd,Hp,Hr⟩
        case round =>
         clear HE Hh Hb Hd Hp Hr;obtain ⟨j,hj,rfl,HE,Hh,Hb,Hd,Hp,Hr⟩:=hrel;obtain ⟨wi,rfl⟩:=Qf wr;by_cases hlt3 : j < 3
         ·have h3 : j = 0 ∨ j = 1 ∨ j = 2:=Qb;rcases h3 with rfl | rfl | rfl
          ·have Hh : Qa wi b1 116 #[.int .i64 (g.e),.int .i64 (g.r),.int .i64 (g.l)]:=Hh;have pb:=Oa hds g01 g02;have v1 : IntKind.i64.wrap (d.n * g.e) = d.n * g.e:=Zr Qb Qb
           have v2 : IntKind.i64.wrap ((d.n * g.e).tdiv d.d) = d.n * g.e / d.d:=by
            rw [Int.tdiv_eq_ediv_of_nonneg pb.1];exact Zr Qb Qb
           have v3 : IntKind.i64.wrap (g.e - d.n * g.e / d.d) = Zm g.e d:=by
            unfold Zm;exact Zr Qb Qb
           clear pb;obtain ⟨s0,s1,s2,ls⟩:=Qa.d3 Hp;go_upto_region 12 with fail
           clear s0 s1 s2 ls;refine Qy 15 [14] (fun x => Qa x b1 116 #[.int .i64 (g.e),.int .i64 (g.r),.int .i64 (g.l)] ∧ Qa x b3 65 #[.int .i64 d.n,.int .i64 d.d]) mixed rfl ?_;intro vz hvz;replace HE:=HE.trans hvz;replace Hh:=Hh.ext hvz;replace Hd:=Hd.ext hvz;replace Hb:=Hb.ext hvz;replace Hp:=Hp.ext hvz;replace Hr:=Hr.ext hvz;clear hvz;refine Qj (g:=1) [0,1,2,3,4,5,6,7,8,9,10,11,12,13] ⟨Hh,Hd⟩ ?_
           constructor
           refine ⟨fun u hu => ?_,?_⟩
           ·obtain ⟨x0,x1,x2,lx⟩:=Qa.d3 hu.1;obtain ⟨d0,d1,ld⟩:=Qa.d2 hu.2;exact Qi
           refine Ql 14 ?_;have z0:=Hh.frozen 0;obtain ⟨x0,x1,x2⟩:=Hh.c3;have lx:=Hh.lt;have Hh2:=Ae Hh (.int .i64 (Zm g.e d));have Hd:=Qg Hd hn31 0 (.int .i64 (Zm g.e d));have Hb:=Qg Hb hn21 0 (.int .i64 (Zm g.e d));have Hp:=Qg Hp hp1 0 (.int .i64 (Zm g.e d));have Hr:=Qg Hr hn41 0 (.int .i64 (Zm g.e d));have HE:=HE.setCell (p:=⟨b1,0,none⟩) hbr1 (.int .i64 (Zm g.e d));have Hh:=Hh2;go_wp2;refine Qk ?_;refine Qr ?_;generalize World.setCell _ _ _ = wq at *;clear z0 x0 x1 x2 lx Hh2;go_wp2;exact ⟨⟨1,by decide,rfl,HE,Hh,Hb,Hd,Hp,Hr⟩,by simp [intOf]⟩
          ·have Hh : Qa wi b1 116 #[.int .i64 (Zm g.e d),.int .i64 (g.r),.int .i64 (g.l)]:=Hh;have pb:=Oa hds g11 g12;have v1 : IntKind.i64.wrap (d.n * g.r) = d.n * g.r:=Zr Qb Qb
           have v2 : IntKind.i64.wrap ((d.n * g.r).tdiv d.d) = d.n * g.r / d.d:=by
            rw [Int.tdiv_eq_ediv_of_nonneg pb.1];exact Zr Qb Qb
           have v3 : IntKind.i64.wrap (g.r - d.n * g.r / d.d) = Zm g.r d:=by
            unfold Zm;exact Zr Qb Qb
           clear pb;obtain ⟨s0,s1,s2,ls⟩:=Qa.d3 Hp;go_upto_region 12 with fail
           clear s0 s1 s2 ls;refine Qy 15 [14] (fun x => Qa x b1 116 #[.int .i64 (Zm g.e d),.int .i64 (g.r),.int .i64 (g.l)] ∧ Qa x b3 65 #[.int .i64 d.n,.int .i64 d.d]) mixed rfl ?_;intro vz hvz;replace HE:=HE.trans hvz;replace Hh:=Hh.ext hvz;replace Hd:=Hd.ext hvz;replace Hb:=Hb.ext hvz;replace Hp:=Hp.ext hvz;replace Hr:=Hr.ext hvz;clear hvz;refine Qj (g:=1) [0,1,2,3,4,5,6,7,8,9,10,11,12,13] ⟨Hh,Hd⟩ ?_
           constructor
           refine ⟨fun u hu => ?_,?_⟩
           ·obtain ⟨x0,x1,x2,lx⟩:=Qa.d3 hu.1;obtain ⟨d0,d1,ld⟩:=Qa.d2 hu.2;exact Qi
           refine Ql 14 ?_;have z0:=Hh.frozen 1;obtain ⟨x0,x1,x2⟩:=Hh.c3;have lx:=Hh.lt;have Hh2:=Af Hh (.int .i64 (Zm g.r d));have Hd:=Qg Hd hn31 1 (.int .i64 (Zm g.r d));have Hb:=Qg Hb hn21 1 (.int .i64 (Zm g.r d));have Hp:=Qg Hp hp1 1 (.int .i64 (Zm g.r d));have Hr:=Qg Hr hn41 1 (.int .i64 (Zm g.r d));have HE:=HE.setCell (p:=⟨b1,1,none⟩) hbr1 (.int .i64 (Zm g.r d));have Hh:=Hh2;go_wp2;refine Qk ?_;refine Qr ?_;generalize World.setCell _ _ _ = wq at *;clear z0 x0 x1 x2 lx Hh2;go_wp2;exact ⟨⟨2,by decide,rfl,HE,Hh,Hb,Hd,Hp,Hr⟩,by simp [intOf]⟩
          ·have Hh : Qa wi b1 116 #[.int .i64 (Zm g.e d),.int .i64 (Zm g.r d),.int .i64 (g.l)]:=Hh;have pb:=Oa hds g21 g22;have v1 : IntKind.i64.wrap (d.n * g.l) = d.n * g.l:=Zr Qb Qb
           have v2 : IntKind.i64.wrap ((d.n * g.l).tdiv d.d) = d.n * g.l / d.d:=by
            rw [Int.tdiv_eq_ediv_of_nonneg pb.1];exact Zr Qb Qb
           have v3 : IntKind.i64.wrap (g.l - d.n * g.l / d.d) = Zm g.l d:=by
            unfold Zm;exact Zr Qb Qb
           clear pb;obtain ⟨s0,s1,s2,ls⟩:=Qa.d3 Hp;go_upto_region 12 with fail
           clear s0 s1 s2 ls;refine Qy 15 [14] (fun x => Qa x b1 116 #[.int .i64 (Zm g.e d),.int .i64 (Zm g.r d),.int .i64 (g.l)] ∧ Qa x b3 65 #[.int .i64 d.n,.int .i64 d.d]) mixed rfl ?_;intro vz hvz;replace HE:=HE.trans hvz;replace Hh:=Hh.ext hvz;replace Hd:=Hd.ext hvz;replace Hb:=Hb.ext hvz;replace Hp:=Hp.ext hvz;replace Hr:=Hr.ext hvz;clear hvz;refine Qj (g:=1) [0,1,2,3,4,5,6,7,8,9,10,11,12,13] ⟨Hh,Hd⟩ ?_
           constructor
           refine ⟨fun u hu => ?_,?_⟩
           ·obtain ⟨x0,x1,x2,lx⟩:=Qa.d3 hu.1;obtain ⟨d0,d1,ld⟩:=Qa.d2 hu.2;exact Qi
           refine Ql 14 ?_;have z0:=Hh.frozen 2;obtain ⟨x0,x1,x2⟩:=Hh.c3;have lx:=Hh.lt;have Hh2:=Ag Hh (.int .i64 (Zm g.l d));have Hd:=Qg Hd hn31 2 (.int .i64 (Zm g.l d));have Hb:=Qg Hb hn21 2 (.int .i64 (Zm g.l d));have Hp:=Qg Hp hp1 2 (.int .i64 (Zm g.l d));have Hr:=Qg Hr hn41 2 (.int .i64 (Zm g.l d));have HE:=HE.setCell (p:=⟨b1,2,none⟩) hbr1 (.int .i64 (Zm g.l d));have Hh:=Hh2;go_wp2;refine Qk ?_;refine Qr ?_;generalize World.setCell _ _ _ = wq at *;clear z0 x0 x1 x2 lx Hh2;go_wp2;exact ⟨⟨3,by decide,rfl,HE,Hh,Hb,Hd,Hp,Hr⟩,by simp [intOf]⟩
         ·obtain rfl : j = 3:=Qb;have Hh : Qa wi b1 116 #[.int .i64 (Zm g.e d),.int .i64 (Zm g.r d),.int .i64 (Zm g.l d)]:=Hh;have hbs:=hbs.out;have hbb:=Pp hbs;have de:=Th hds g01 g02;have dr:=Th hds g11 g12;have dl:=Th hds g21 g22;have pb:=Oa hbs de.1 de.2;have hst : Hid (L3 b d g = ⟨Zm g.e d + (Zm g.l d + 1) / 2,Zm g.r d + Zm g.l d / 2,b.n * Zm g.e d / b.d⟩):=rfl;generalize Zm g.e d = xe at *;generalize Zm g.r d = xr at *;generalize Zm g.l d = xl at *;have v1 : IntKind.i64.wrap (b.n * xe) = b.n * xe:=Zr Qb Qb
          have v2 : IntKind.i64.wrap ((b.n * xe).tdiv b.d) = b.n * xe / b.d:=by
           rw [Int.tdiv_eq_ediv_of_nonneg pb.1];exact Zr Qb Qb
          have v3 : IntKind.i64.wrap (xl + 1) = xl + 1:=Zr Qb Qb
          have v4' : IntKind.i64.wrap ((xl + 1).tdiv 2) = (xl + 1) / 2:=by
           rw [Int.tdiv_eq_ediv_of_nonneg Qb];exact Zr Qb Qb
          have v5 : IntKind.i64.wrap (xe + (xl + 1) / 2) = xe + (xl + 1) / 2:=Zr Qb Qb
          have v6 : IntKind.i64.wrap (xl.tdiv 2) = xl / 2:=by
           rw [Int.tdiv_eq_ediv_of_nonneg Qb];exact Zr Qb Qb
          have v7 : IntKind.i64.wrap (xr + xl / 2) = xr + xl / 2:=Zr Qb Qb;have hb0 : (b.d == 0) = false:=zb Qb;have hb1 : b.d ≠ 0:=Qb;clear pb de dr dl hbb;generalize b.n * xe / b.d = zl at *;generalize hz1 : (xl + 1) / 2 = z1 at *;generalize hz2 : xl / 2 = z2 at *;clear hz1 hz2;obtain ⟨k0,k1,k2,lk⟩:=Qa.d3 Hh;have f0:=Hh.frozen 0;obtain ⟨p0,p1,lp⟩:=Qa.d2 Hb;have Ha:=Ae Hh (.int .i64 (xe + z1));have Hba:=Qg Hb hn21 0 (.int .i64 (xe + z1));have Hda:=Qg Hd hn31 0 (.int .i64 (xe + z1));have Hra:=Qg Hr hn41 0 (.int .i64 (xe + z1));have Ea:=HE.setCell (p:=⟨b1,0,none⟩) hbr1 (.int .i64 (xe + z1));go_upto_region 16 with fail
          generalize World.setCell _ _ _ = wa at *;clear k0 k1 k2 lk f0 p0 p1 lp Hh HE Hb Hd Hr Hp;obtain ⟨k0,k1,k2,lk⟩:=Qa.d3 Ha;have f0:=Ha.frozen 1;have Hb':=Af Ha (.int .i64 (xr + z2));have Hbb:=Qg Hba hn21 1 (.int .i64 (xr + z2));have Hdb:=Qg Hda hn31 1 (.int .i64 (xr + z2));have Hrb:=Qg Hra hn41 1 (.int .i64 (xr + z2));have Eb:=Ea.setCell (p:=⟨b1,1,none⟩) hbr1 (.int .i64 (xr + z2));go_upto_region 17 with fail
          generalize World.setCell _ _ _ = wb at *;clear k0 k1 k2 lk f0 Ha Hba Hda Hra Ea;obtain ⟨k0,k1,k2,lk⟩:=Qa.d3 Hb';have f0:=Hb'.frozen 2;have Hc':=Ag Hb' (.int .i64 zl);have Hbc:=Qg Hbb hn21 2 (.int .i64 zl);have Hdc:=Qg Hdb hn31 2 (.int .i64 zl);have Hrc:=Qg Hrb hn41 2 (.int .i64 zl);have Ec:=Eb.setCell (p:=⟨b1,2,none⟩) hbr1 (.int .i64 zl);go_upto_region 18 with fail
          generalize World.setCell _ _ _ = wc at *;clear k0 k1 k2 lk f0 Hb' Hbb Hdb Hrb Eb v1 v2 v3 v4' v5 v6 v7 hb0 hb1;have NG:=fun w => NH ⟨xe + z1,xr + z2,zl⟩ w
          have hst2 : Hid (L3 b d g = ⟨xe + z1,xr + z2,zl⟩):=hst;obtain ⟨k0,k1,k2,lk⟩:=Qa.d3 Hc';cases hgk : Yz.ok ⟨xe + z1,xr + z2,zl⟩
          ·simp only [hgk] at NG;have hr:=hV'.out;rw [hst2.out,hgk,if_neg zD] at hr;subst hr;clear hV' hst hst2 hgk NH;go_upto_region 19 with (go_at_call 93;refine zc (NG _) ?_;rintro e w6 ⟨rfl,h6⟩)
           have HE:=Ec.trans h6;have Hr:=Hrc.ext h6;obtain ⟨y0,y1,y2,x0,x1,x2,lx⟩:=Qa.e3 Hr;have R3:=K4 Hr (.int .i64 0) (.int .i64 0) (.int .i64 0);have EF:=K0 HE hbr (.int .i64 0) (.int .i64 0) (.int .i64 0);obtain ⟨r0,r1,r2⟩:=R3.c3;go_wp2;refine bodyPost_ret (v:=.tuple #[.agg #[.int .i64 0,.int .i64 0,.int .i64 0],.int .i64 6]) (by simp [results,Tryz.results42,go_sem,r0,r1,r2]) rfl ⟨rfl,EF⟩
          ·simp only [hgk] at NG;have hr:=hV'.out;rw [hst2.out,hgk,if_pos rfl,← hm2] at hr;replace hr:=zh hr;replace hgk:=zh hgk;clear hV' hst hst2 NH hm2;go_wp2_with (go_at_call 93;refine zc (NG _) ?_;rintro e w6 ⟨rfl,h6⟩);exact ⟨⟨k + 1,Qb,by go_num,⟨xe + z1,xr + z2,zl⟩,hgk,Ec.trans h6,Hc'.ext h6,Hbc.ext h6,Hdc.ext h6,Hrc.ext h6,hr⟩,zi⟩
       ·obtain rfl : k = n:=Qb;have hr:=hV.out;rw [Nat.sub_self] at hr;have hr2 : V = (g,0):=hr;subst hr2;clear hV hr;obtain ⟨k0,k1,k2,lk⟩:=Qa.d3 Hh;obtain ⟨y0,y1,y2,x0,x1,x2,lx⟩:=Qa.e3 Hr;have R3:=K4 Hr (.int .i64 g.e) (.int .i64 g.r) (.int .i64 g.l);have EF:=K0 HE hbr (.int .i64 g.e) (.int .i64 g.r) (.int .i64 g.l);obtain ⟨r0,r1,r2⟩:=R3.c3;go_wp2;refine bodyPost_ret (v:=.tuple #[.agg #[.int .i64 g.e,.int .i64 g.r,.int .i64 g.l],.int .i64 0]) (by simp [results,Tryz.results42,go_sem,r0,r1,r2]) rfl ⟨rfl,EF⟩
end
section
open Go Go.RowKit
theorem Qf2 (w : World) (x0 y0 : ByteArray) (x1 y1 : Int) : (Op.equalIn 10000 85 (.agg #[.string x0,.int .i64 x1]) (.agg #[.string y0,.int .i64 y1])).run Tryz.prog w = .ok ((x0.toList == y0.toList) && (x1 == y1)) w:=by
 go_simp
 by_cases h0 : x0.toList = y0.toList;rotate_left
 ·simp [h0]
 by_cases h1 : x1 = y1;rotate_left
 ·simp [h1]
 simp [h0,h1]
theorem Sx (w : World) (x0 y0 : ByteArray) (x1 y1 : Int) : (binOp .neq 85 (.agg #[.string x0,.int .i64 x1]) (.agg #[.string y0,.int .i64 y1])).run Tryz.prog w = .ok (.bool (!((x0.toList == y0.toList) && (x1 == y1)))) w:=by rw [run_neq_struct,Qf2];rfl
theorem Qf5 (w : World) (x0 y0 : Int) (x1 y1 : Int) : (Op.equalIn 10000 65 (.agg #[.int .i64 x0,.int .i64 x1]) (.agg #[.int .i64 y0,.int .i64 y1])).run Tryz.prog w = .ok ((x0 == y0) && (x1 == y1)) w:=by
 go_simp
 by_cases h0 : x0 = y0;rotate_left
 ·simp [h0]
 by_cases h1 : x1 = y1;rotate_left
 ·simp [h1]
 simp [h0,h1]
theorem Qjf (w : World) (x0 y0 : Int) (x1 y1 : Int) : (binOp .neq 65 (.agg #[.int .i64 x0,.int .i64 x1]) (.agg #[.int .i64 y0,.int .i64 y1])).run Tryz.prog w = .ok (.bool (!((x0 == y0) && (x1 == y1)))) w:=by rw [run_neq_struct,Qf5];rfl
theorem Qfz (w : World) (x0 y0 : Int) (x1 y1 : Int) (x2 y2 : Int) (x3 y3 : Int) (x4 y4 : Int) (x5 y5 : Int) : (Op.equalIn 10000 72 (.agg #[.int .i64 x0,.int .i64 x1,.int .i64 x2,.int .i64 x3,.int .i64 x4,.int .i64 x5]) (.agg #[.int .i64 y0,.int .i64 y1,.int .i64 y2,.int .i64 y3,.int .i64 y4,.int .i64 y5])).run Tryz.prog w = .ok ((x0 == y0) && ((x1 == y1) && ((x2 == y2) && ((x3 == y3) && ((x4 == y4) && (x5 == y5)))))) w:=by
 go_simp
 by_cases h0 : x0 = y0;rotate_left
 ·simp [h0]
 by_cases h1 : x1 = y1;rotate_left
 ·simp [h1]
 by_cases h2 : x2 = y2;rotate_left
 ·simp [h2]
 by_cases h3 : x3 = y3;rotate_left
 ·simp [h3]
 by_cases h4 : x4 = y4;rotate_left
 ·simp [h4]
 by_cases h5 : x5 = y5;rotate_left
 ·simp [h5]
 simp [h0,h1,h2,h3,h4,h5]
theorem I0 (w : World) (x0 y0 : Int) (x1 y1 : Int) (x2 y2 : Int) (x3 y3 : Int) (x4 y4 : Int) (x5 y5 : Int) : (binOp .neq 72 (.agg #[.int .i64 x0,.int .i64 x1,.int .i64 x2,.int .i64 x3,.int .i64 x4,.int .i64 x5]) (.agg #[.int .i64 y0,.int .i64 y1,.int .i64 y2,.int .i64 y3,.int .i64 y4,.int .i64 y5])).run Tryz.prog w = .ok (.bool (!((x0 == y0) && ((x1 == y1) && ((x2 == y2) && ((x3 == y3) && ((x4 == y4) && (x5 == y5)))))))) w:=by rw [run_neq_struct,Qfz];rfl
theorem Qf0 (w : World) (x0 y0 : Int) (x1 y1 : Int) (x2 y2 : Int) : (Op.equalIn 10000 116 (.agg #[.int .i64 x0,.int .i64 x1,.int .i64 x2]) (.agg #[.int .i64 y0,.int .i64 y1,.int .i64 y2])).run Tryz.prog w = .ok ((x0 == y0) && ((x1 == y1) && (x2 == y2))) w:=by
 go_simp
 by_cases h0 : x0 = y0;rotate_left
 ·simp [h0]
 by_cases h1 : x1 = y1;rotate_left
 ·simp [h1]
 by_cases h2 : x2 = y2;rotate_left
 ·simp [h2]
 simp [h0,h1,h2]
theorem Qjd (w : World) (x0 y0 : Int) (x1 y1 : Int) (x2 y2 : Int) : (binOp .neq 116 (.agg #[.int .i64 x0,.int .i64 x1,.int .i64 x2]) (.agg #[.int .i64 y0,.int .i64 y1,.int .i64 y2])).run Tryz.prog w = .ok (.bool (!((x0 == y0) && ((x1 == y1) && (x2 == y2))))) w:=by rw [run_neq_struct,Qf0];rfl
end
section
open Go Go.RowKit Go.Shelf
attribute [local go_sem] Zu
attribute [local go_sem high] Sx
theorem Xj {w : World} {b : Nat} {t : TypeId} {cs : Array Value} {n sz : Nat} {f : Nat → List Value} (h : Qa w b t cs) (hf : ∀ i j v,i < n → (f i)[j]? = some v → cs[i * sz + j]? = some v) : Qo w (some ⟨b,0,none⟩) n sz f :=
 fun _ => ⟨b,0,rfl,h.lt,fun i j v hi hv => by rw [Nat.zero_add,h.cell];exact hf i j v hi hv⟩
theorem Y3 (n d : Int) (w : World) :
  Calls Tryz.prog 25 #[.int .i64 n,.int .i64 d] w fun e w' => e = .returned (.agg #[.int .i64 n,.int .i64 d]) ∧ Qc w w':=by
 go_enter Tryz.func25,Tryz.ntmps25
 go_wp2;refine bodyPost_ret (v:=.agg #[.int .i64 n,.int .i64 d]) (by simp [results,Tryz.results25,go_sem]) rfl ⟨rfl,Qq⟩
theorem Jc (y m d : Int) (w : World) :
  Calls Tryz.prog 24 #[.int .i64 y,.int .i64 m,.int .i64 d] w fun e w' => e = .returned (.agg #[.int .i64 y,.int .i64 m,.bool false,.int .i64 d]) ∧ Qc w w':=by
 go_enter Tryz.func24,Tryz.ntmps24
 go_wp2;refine bodyPost_ret (v:=.agg #[.int .i64 y,.int .i64 m,.bool false,.int .i64 d]) (by simp [results,Tryz.results24,go_sem]) rfl ⟨rfl,Qq⟩
theorem U5 (s : ByteArray) (n : Int) (w : World) :
  Calls Tryz.prog 20 #[.string s,.int .i64 n] w fun e w' => ∃ b,e = .returned (.slice (some ⟨b,0,none⟩) 1 1) ∧ Qc w w' ∧ Q9 w' (.slice (some ⟨b,0,none⟩) 1 1) [⟨s,n⟩]:=by
 go_enter Tryz.func20,Tryz.ntmps20
 go_wp2;go_ret;refine ⟨w.heap.size,rfl,Qq,some ⟨w.heap.size,0,none⟩,1,rfl,?_,Nat.le_refl _,by decide,fun h => (by cases h)⟩;refine Xj (t:=85) (cs:=#[.string s,.int .i64 n]) Je ?_;intro i j v hi hv;obtain rfl : i = 0:=by simp at hi;omega
 have hj : j < 2:=(List.getElem?_eq_some_iff.1 hv).1;rw [← hv];have : j = 0 ∨ j = 1:=Qb;rcases this with rfl | rfl <;> rfl
theorem Bh (w : World) :
  Calls Tryz.prog 21 #[] w fun e w' => ∃ A A' ca cb,e = .returned (.agg #[.slice A 1 ca,.slice A' 3 cb]) ∧ Qc w w' ∧ Q3 w' A ca A' cb Zv:=by
 go_enter Tryz.func21,Tryz.ntmps21
 go_wp2;refine bodyPost_ret (v:=.agg #[.slice (some ⟨w.heap.size + 1,0,none⟩) 1 1,.slice (some ⟨w.heap.size + 1 + 1,0,none⟩) 3 3]) (by simp [results,Tryz.results21,go_sem]) rfl ⟨_,_,_,_,rfl,Qq,⟨?_,?_,by decide,by decide,by decide,by decide⟩⟩
 ·refine Xj (t:=9) (cs:=#[.string sU8]) Je ?_;intro i j v hi hv;have hi : i < 1:=hi;have hj : j < 1:=(List.getElem?_eq_some_iff.1 hv).1;rw [← hv];obtain rfl : i = 0:=Qb;obtain rfl : j = 0:=Qb;rfl
 ·refine Xj (t:=148) (cs:=#[.int .i64 0,.string sA,.int .i64 4095,.int .i64 0,.int .i64 0,.string sB,.int .i64 4095,.int .i64 0,.int .i64 0,.string sC,.int .i64 4095,.int .i64 0]) Je ?_;intro i j v hi hv;have hi : i < 3:=hi;have hj : j < 4:=(List.getElem?_eq_some_iff.1 hv).1;rw [← hv];have h1 : i = 0 ∨ i = 1 ∨ i = 2:=Qb;have h2 : j = 0 ∨ j = 1 ∨ j = 2 ∨ j = 3:=Qb;rcases h1 with rfl | rfl | rfl <;> rcases h2 with rfl | rfl | rfl | rfl <;> rfl
theorem Ai {W : World} {b : Nat} {t : TypeId} {v0 v1 v2 v3 v4 v5 v6 v7 : Value} (h : Qa W b t #[v0,v1,v2,v3,v4,v5,v6,v7]) (u0 u1 u2 u3 u4 u5 u6 u7 : Value) : Qa ((((((((W.setCell ⟨b,0,none⟩ u0).setCell ⟨b,1,none⟩ u1).setCell ⟨b,2,none⟩ u2).setCell ⟨b,3,none⟩ u3).setCell ⟨b,4,none⟩ u4).setCell ⟨b,5,none⟩ u5).setCell ⟨b,6,none⟩ u6).setCell ⟨b,7,none⟩ u7) b t #[u0,u1,u2,u3,u4,u5,u6,u7]:=by unfold Qa at h ⊢;simp [World.setCell,Array.getElem?_modify,h]
theorem ext8 {W0 W : World} {b : Nat} (h : Qc W0 W) (hb : W0.heap.size ≤ b) (u0 u1 u2 u3 u4 u5 u6 u7 : Value) : Qc W0 ((((((((W.setCell ⟨b,0,none⟩ u0).setCell ⟨b,1,none⟩ u1).setCell ⟨b,2,none⟩ u2).setCell ⟨b,3,none⟩ u3).setCell ⟨b,4,none⟩ u4).setCell ⟨b,5,none⟩ u5).setCell ⟨b,6,none⟩ u6).setCell ⟨b,7,none⟩ u7) :=
 (((((((h.setCell (p:=⟨b,0,none⟩) hb u0).setCell (p:=⟨b,1,none⟩) hb u1).setCell (p:=⟨b,2,none⟩) hb u2).setCell (p:=⟨b,3,none⟩) hb u3).setCell (p:=⟨b,4,none⟩) hb u4).setCell (p:=⟨b,5,none⟩) hb u5).setCell (p:=⟨b,6,none⟩) hb u6).setCell (p:=⟨b,7,none⟩) hb u7
theorem Aj {W : World} {b b' : Nat} {t : TypeId} {cs : Array Value} (h : Qa W b t cs) (hne : b ≠ b') (u0 u1 u2 u3 u4 u5 u6 u7 : Value) : Qa ((((((((W.setCell ⟨b',0,none⟩ u0).setCell ⟨b',1,none⟩ u1).setCell ⟨b',2,none⟩ u2).setCell ⟨b',3,none⟩ u3).setCell ⟨b',4,none⟩ u4).setCell ⟨b',5,none⟩ u5).setCell ⟨b',6,none⟩ u6).setCell ⟨b',7,none⟩ u7) b t cs :=
 Qg (Qg (Qg (Qg (Qg (Qg (Qg (Qg h hne 0 u0) hne 1 u1) hne 2 u2) hne 3 u3) hne 4 u4) hne 5 u5) hne 6 u6) hne 7 u7
theorem Qh4 (w : World) :
  Calls Tryz.prog 22 #[] w fun e w' => ∃ b,e = .returned (.tuple #[.agg #[.int .i64 60,.int .i64 1,.int .i64 1,.int .i64 5,.int .i64 0,.int .i64 1,.bool false,.int .i64 1],.slice (some ⟨b,0,none⟩) 1 1]) ∧ Qc w w' ∧ Qo w' (some ⟨b,0,none⟩) 1 6 (J8 p8):=by
 go_enter Tryz.func22,Tryz.ntmps22
 go_upto_region 1 with fail
 obtain ⟨v,hv⟩:=Qf (w.alloc (.cells #[.int .i64 0,.int .i64 0,.int .i64 0,.int .i64 0,.int .i64 0,.int .i64 0,.bool false,.int .i64 0] 67));rw [← hv];have E : Qc w v:=by rw [hv];exact (Qc.refl _).alloc _
 have B1 : Qa v w.heap.size 67 #[.int .i64 0,.int .i64 0,.int .i64 0,.int .i64 0,.int .i64 0,.int .i64 0,.bool false,.int .i64 0]:=by rw [hv];exact Qa.new _ _ _
 clear hv;obtain ⟨b1,hb1⟩:=Qf (w.heap.size);rw [← hb1] at B1 ⊢;have hbr : w.heap.size ≤ b1:=Qb;clear hb1;go_wp2_with (first | (go_at_call 25;(with_reducible refine zc (Y3 10 1 _) ?_);rintro e wa ⟨rfl,hx⟩;replace E:=E.trans hx;replace B1:=B1.ext hx;clear hx;have BA:=B1.alloc (.cells #[.int .i64 0,.int .i64 7,.bool false,.int .i64 1,.int .i64 10,.int .i64 1] 78);have z0:=BA.frozen 0;have z1:=BA.frozen 1;have z2:=BA.frozen 2;have z3:=BA.frozen 3;have z4:=BA.frozen 4;have z5:=BA.frozen 5;have z6:=BA.frozen 6;have z7:=BA.frozen 7;obtain ⟨x0,x1,x2,x3,x4,x5,x6,x7⟩:=BA.c8;have lx:=BA.lt) | (go_at_call 25;(with_reducible refine zc (Y3 _ _ _) ?_);rintro e wa ⟨rfl,hx⟩;replace E:=E.trans hx;replace B1:=B1.ext hx;clear hx) | (go_at_call 24;refine zc (Jc _ _ _ _) ?_;rintro e wa ⟨rfl,hx⟩;replace E:=E.trans hx;replace B1:=B1.ext hx;clear hx))
 have H8:=Ai (B1.alloc (.cells #[.int .i64 0,.int .i64 7,.bool false,.int .i64 1,.int .i64 10,.int .i64 1] 78)) (.int .i64 60) (.int .i64 1) (.int .i64 1) (.int .i64 5) (.int .i64 0) (.int .i64 1) (.bool false) (.int .i64 1);have E8:=ext8 (E.alloc (.cells #[.int .i64 0,.int .i64 7,.bool false,.int .i64 1,.int .i64 10,.int .i64 1] 78)) hbr (.int .i64 60) (.int .i64 1) (.int .i64 1) (.int .i64 5) (.int .i64 0) (.int .i64 1) (.bool false) (.int .i64 1);have P8:=Aj (Qa.new wa 78 #[.int .i64 0,.int .i64 7,.bool false,.int .i64 1,.int .i64 10,.int .i64 1]) (show wa.heap.size ≠ b1 by have:=B1.lt;omega) (.int .i64 60) (.int .i64 1) (.int .i64 1) (.int .i64 5) (.int .i64 0) (.int .i64 1) (.bool false) (.int .i64 1)
 obtain ⟨y0,y1,y2,y3,y4,y5,y6,y7⟩:=H8.c8;refine bodyPost_ret (v:=.tuple #[.agg #[.int .i64 60,.int .i64 1,.int .i64 1,.int .i64 5,.int .i64 0,.int .i64 1,.bool false,.int .i64 1],.slice (some ⟨wa.heap.size,0,none⟩) 1 1]) (by simp [results,Tryz.results22,go_sem,y0,y1,y2,y3,y4,y5,y6,y7]) rfl ⟨_,rfl,E8,?_⟩;refine Xj P8 ?_;intro i j v hi hv;obtain rfl : i = 0:=Qb;have hj : j < 6:=(List.getElem?_eq_some_iff.1 hv).1;rw [← hv];have : j = 0 ∨ j = 1 ∨ j = 2 ∨ j = 3 ∨ j = 4 ∨ j = 5:=Qb;rcases this with rfl | rfl | rfl | rfl | rfl | rfl <;> rfl
theorem Qbm (v1 v2 : Value) (a b : List Lt) (w : World) (h1 : Q9 w v1 a) (h2 : Q9 w v2 b) :
  Calls Tryz.prog 29 #[v1,v2] w fun e w' => e = .returned (.bool (decide (a = b))) ∧ Qc w w':=by
 obtain ⟨A,ca,rfl,hA,hca,hca',_⟩:=h1;obtain ⟨B,cb,rfl,hB,hcb,hcb',_⟩:=h2;obtain ⟨R,hR0⟩:=Qf (decide (a = b));rw [← hR0];have HR:=zh hR0;clear hR0;by_cases hn : a.length = b.length
 ·have HL:=zh hn;obtain ⟨n,hnl⟩:=Qf (a.length);rw [← hn] at hcb hB ⊢;rw [← hnl] at hca hcb hA hB ⊢;have h63 : n ≤ 9223372036854775807:=Nat.le_trans hca (Nat.le_trans hca' zD);replace hnl:=zh hnl
  have hno : Hid (∀ k,k < n → Qz a k ≠ Qz b k → R = false):=fun k hk h => by
   rw [HR.out];exact zf fun e => h (by rw [e])
  have hyes : Hid ((∀ k,k < n → Qz a k = Qz b k) → R = true):=fun h => by
   rw [HR.out];refine zt (List.ext_getElem HL.out fun i h1 h2 => ?_);have:=h i (by rw [hnl.out];exact h1)
   rwa [U7 h1,U7 h2] at this
  clear HR HL hn hnl hca' hcb' hca hcb;generalize Qz a = f at *;generalize Qz b = g at *
  go_enter Tryz.func29,Tryz.ntmps29
  go_wp2
  go_loopw [5] (fun i wr => ∃ k : Nat,k ≤ n ∧ i = .int .i64 k ∧ Hid (∀ j,j < k → f j = g j) ∧ Qc w wr) (fun i _ => n - (intOf i).toNat)
  case atStart => exact ⟨0,Nat.zero_le _,rfl,(fun i hi => absurd hi Qb),Qc.refl _⟩
  case round =>
   obtain ⟨k,hk,rfl,hp,hE⟩:=hrel;obtain ⟨wo,rfl⟩:=Qf wr;by_cases hlt : k < n
   ·obtain ⟨b1, o1, rfl, hb, hc⟩ := (hA.ext hE) Qb;obtain ⟨b2, o2, rfl, hb', hd⟩ := (hB.ext hE) Qb;have c0 : wo.cell? ⟨b1, o1 + k * 2, none⟩ = some (.string (f k).g) := by simpa [Zs] using hc k 0 _ hlt rfl
    have c1 : wo.cell? ⟨b1,o1 + k * 2 + 1,none⟩ = some (.int .i64 (f k).n):=by simpa [Zs] using hc k 1 _ hlt rfl
    have d0 : wo.cell? ⟨b2,o2 + k * 2,none⟩ = some (.string (g k).g):=by simpa [Zs] using hd k 0 _ hlt rfl
    have d1 : wo.cell? ⟨b2,o2 + k * 2 + 1,none⟩ = some (.int .i64 (g k).n):=by simpa [Zs] using hd k 1 _ hlt rfl
    have hq : Hid ((((f k).g.toList == (g k).g.toList) && ((f k).n == (g k).n)) = decide (f k = g k)):=by
     unfold Hid;rw [← Ot,Bool.eq_iff_iff];simp only [Bool.and_eq_true,decide_eq_true_eq,beq_iff_eq]
     constructor
     ·rintro ⟨e1,e2⟩;cases hf : f k;cases hg : g k
      rw [hf,hg] at e1 e2
      simp_all
     ·intro e;rw [e];exact ⟨rfl,rfl⟩
    have hs : Hid (f k = g k → ∀ j,j < k + 1 → f j = g j):=fun e j hj => by
     by_cases h : j = k
     ·subst h;exact e
     ·exact hp.out j Qb
    have hnk:=zh (hno.out k hlt);clear hc hd hA hB hp;generalize f k = x at *;generalize g k = y at *;go_upto_region 6 with fail
    clear hno hyes;generalize hg1 : (x.g.toList == y.g.toList) = e1 at *;generalize hg2 : (x.n == y.n) = e2 at *;by_cases hxy : x = y
    ·obtain ⟨rfl,rfl⟩ : e1 = true ∧ e2 = true:=by
      have h:=hq.out;rw [zt hxy] at h
      simpa using h
     have hp':=zh (hs.out hxy);clear hs hq hnk hxy;refine Zj wo ?_;intro wn hwn;obtain ⟨hcbwn,hfbwn,hzbwn,hzwn⟩:=Zi wo hwn;go_wp2;exact ⟨⟨k + 1,Qb,by go_num,hp',hE.trans hwn⟩,zi⟩
    ·have hr:=hnk.out hxy
     have h : e1 = false ∨ (e1 = true ∧ e2 = false):=by
      have h:=hq.out;rw [zf hxy] at h;cases e1 <;> simp_all
     clear hs hq hnk hxy;rcases h with rfl | ⟨rfl,rfl⟩
     ·skip
      refine Zj wo ?_;intro wn hwn;obtain ⟨hcbwn,hfbwn,hzbwn,hzwn⟩:=Zi wo hwn;go_wp2;go_ret;exact ⟨by rw [hr];rfl,hE.trans hwn⟩
     ·skip
      refine Zj wo ?_;intro wn hwn;obtain ⟨hcbwn,hfbwn,hzbwn,hzwn⟩:=Zi wo hwn;go_wp2;go_ret;exact ⟨by rw [hr];rfl,hE.trans hwn⟩
   ·obtain rfl : k = n:=Qb;have hr:=hyes.out hp.out;clear hyes hno;go_wp2;go_ret;exact ⟨by rw [hr];rfl,hE⟩
 ·have hne : ((a.length : Int) == (b.length : Int)) = false := zb Qb;have hnn : ((a.length : Int) != (b.length : Int)) = true := by rw [bne, hne]; rfl
  have hr : R = false:=by rw [HR.out];exact zf fun e => hn (by rw [e])
  clear hn HR
  go_enter Tryz.func29,Tryz.ntmps29
  go_wp2;go_ret;exact ⟨by rw [hr];rfl,Qc.refl _⟩
end
section
open Go Go.RowKit Go.Shelf
attribute [local go_sem] Zu
attribute [local go_sem high] Qjf I0 Qjd
theorem Qkz {w : World} {b : Nat} (h : Qa w b 108 #[.int .i64 10,.int .i64 1,.int .i64 1,.int .i64 3,.int .i64 5,.int .i64 1,.int .i64 1,.int .i64 1]) : Qo w (some ⟨b,0,none⟩) 2 4 (Y4 t8):=by
 refine Xj h ?_;intro i j v hi hv;have hj : j < 4:=(List.getElem?_eq_some_iff.1 hv).1;rw [← hv];have h1 : i = 0 ∨ i = 1:=Qb;have h2 : j = 0 ∨ j = 1 ∨ j = 2 ∨ j = 3:=Qb;rcases h1 with rfl | rfl <;> rcases h2 with rfl | rfl | rfl | rfl <;> rfl
theorem Ms {w : World} {b : Nat} (h : Qa w b 112 #[.int .i64 2,.int .i64 1,.int .i64 2,.int .i64 0,.int .i64 1,.bool false,.int .i64 1,.int .i64 0,.int .i64 1,.bool false,.int .i64 30]) : Qo w (some ⟨b,0,none⟩) 1 11 (Zq w8):=by
 refine Xj h ?_;intro i j v hi hv;obtain rfl : i = 0:=Qb;have hj : j < 11:=(List.getElem?_eq_some_iff.1 hv).1;rw [← hv];have : j = 0 ∨ j = 1 ∨ j = 2 ∨ j = 3 ∨ j = 4 ∨ j = 5 ∨ j = 6 ∨ j = 7 ∨ j = 8 ∨ j = 9 ∨ j = 10:=Qb;rcases this with rfl | rfl | rfl | rfl | rfl | rfl | rfl | rfl | rfl | rfl | rfl <;> rfl
theorem P5 {A A' : OA} {ca cb : Nat} {w : World} (hC : Q3 w A ca A' cb Zv) {bp : Nat} (hB : Qo w (some ⟨bp,0,none⟩) 1 6 (J8 p8)) (hZ : Zw w) : Calls Tryz.prog 23 #[.agg #[.slice A 1 ca,.slice A' 3 cb],.agg #[.int .i64 60,.int .i64 1,.int .i64 1,.int .i64 5,.int .i64 0,.int .i64 1,.bool false,.int .i64 1],.slice (some ⟨bp,0,none⟩) 1 1,.agg #[.int .i64 1,.int .i64 7,.bool false,.int .i64 1]] w fun e w' => e = .returned (.tuple #[.agg #[.int .i64 56,.int .i64 1,.int .i64 56,.int .i64 5,.int .i64 0,.int .i64 1],.int .i64 0]) ∧ Qc w w':=by
 have:=Gv A A' ca cb Zv (some ⟨bp,0,none⟩) 1 1 l8 p8 (by unfold Rt.In;decide) (by unfold Rt.In;decide) (fun i _ => show (Rt.mk 10 1).In by unfold Rt.In;decide) w hC hB zD hZ d8;rw [Qfw] at this;exact this
theorem P6 {A A' : OA} {ca cb : Nat} {w : World} (hC : Q3 w A ca A' cb Zv) {bp : Nat} (hB : Qo w (some ⟨bp,0,none⟩) 1 6 (J8 p8)) (hZ : Zw w) : Calls Tryz.prog 39 #[.agg #[.slice A 1 ca,.slice A' 3 cb],.agg #[.int .i64 60,.int .i64 1,.int .i64 1,.int .i64 5,.int .i64 0,.int .i64 1,.bool false,.int .i64 1],.slice (some ⟨bp,0,none⟩) 1 1,.agg #[.int .i64 1,.int .i64 7,.bool false,.int .i64 1]] w fun e w' => e = .returned (.tuple #[.agg #[.int .i64 336,.int .i64 5],.int .i64 0]) ∧ Qc w w':=by
 have:=Qlc A A' ca cb Zv (some ⟨bp,0,none⟩) 1 1 l8 p8 (by unfold Rt.In;decide) (by unfold Rt.In;decide) (fun i _ => show (Rt.mk 10 1).In by unfold Rt.In;decide) w hC hB zD hZ d8;rw [Qfx] at this;exact this
theorem Qb1 : ∀ i,i < 2 → (t8 i).a.In ∧ (t8 i).r.In:=fun i hi => by
 have : i = 0 ∨ i = 1:=Qb;rcases this with rfl | rfl <;> (unfold Rt.In;decide)
theorem My {A A' : OA} {ca cb : Nat} {w : World} (hC : Q3 w A ca A' cb Zv) {bt bc : Nat} (hT : Qo w (some ⟨bt,0,none⟩) 2 4 (Y4 t8)) (hS : Qo w (some ⟨bc,0,none⟩) 1 11 (Zq w8)) (hZ : Zw w) : Calls Tryz.prog 40 #[.agg #[.slice A 1 ca,.slice A' 3 cb],.slice (some ⟨bt,0,none⟩) 2 2,.slice (some ⟨bc,0,none⟩) 1 1] w fun e w' => e = .returned (.tuple #[.agg #[.int .i64 (-5),.int .i64 1],.int .i64 0]) ∧ Qc w w':=by
 have:=Qds A A' ca cb Zv (some ⟨bt,0,none⟩) 2 2 t8 (some ⟨bc,0,none⟩) 1 1 w8 w hC Qb1 hT zD (fun i _ => ⟨show (Rt.mk 1 2).In by unfold Rt.In;decide,show (-9223372036854775808 : Int) ≤ 2 by decide,show (2 : Int) ≤ 9223372036854775807 by decide⟩) hS zD hZ;rw [e8_bal] at this;exact this
theorem w8_few {A A' : OA} {ca cb : Nat} {w : World} (hC : Q3 w A ca A' cb Zv) {bt : Nat} (hT : Qo w (some ⟨bt,0,none⟩) 2 4 (Y4 t8)) (hZ : Zw w) : Calls Tryz.prog 41 #[.agg #[.slice A 1 ca,.slice A' 3 cb],.slice (some ⟨bt,0,none⟩) 2 2,.agg #[.int .i64 1,.int .i64 2],.agg #[.int .i64 0,.int .i64 1,.bool false,.int .i64 1],.agg #[.int .i64 0,.int .i64 1,.bool false,.int .i64 30]] w fun e w' => e = .returned (.tuple #[.int .i64 3,.int .i64 0]) ∧ Qc w w':=by
 have:=Qgc A A' ca cb Zv (some ⟨bt,0,none⟩) 2 2 t8 ⟨1,2⟩ (by unfold Rt.In;decide) f8 u8' w hC Qb1 hT zD hZ;rw [e8_few] at this;exact this
theorem Ql9 (w : World) : Calls Tryz.prog 42 #[.agg #[.int .i64 10,.int .i64 2,.int .i64 5],.agg #[.int .i64 4,.int .i64 5],.agg #[.int .i64 1,.int .i64 10],.int .i64 1] w fun e w' => e = .returned (.tuple #[.agg #[.int .i64 12,.int .i64 4,.int .i64 7],.int .i64 0]) ∧ Qc w w':=by
 have:=Qgl h8 ⟨4,5⟩ ⟨1,10⟩ 1 (by unfold Rt.In;decide) (by unfold Rt.In;decide) zD zD w;rw [Qfv] at this;exact this
theorem Ql8 {A A' : OA} {ca cb : Nat} {w : World} (hC : Q3 w A ca A' cb Zv) {o x y d : Nat} (hO : Q9 w (.slice (some ⟨o,0,none⟩) 1 1) [⟨Yd,10⟩]) (hX : Q9 w (.slice (some ⟨x,0,none⟩) 1 1) [⟨Yd,5⟩]) (hY : Q9 w (.slice (some ⟨y,0,none⟩) 1 1) [⟨Yd,20⟩]) (hD : Qa w d 57 #[.int .i64 0,.int .i64 1,.bool false,.int .i64 2,.bool true,.string ⟨#[98]⟩,.slice (some ⟨x,0,none⟩) 1 1,.int .i64 0,.int .i64 1,.bool false,.int .i64 2,.bool false,.string ⟨#[98]⟩,.slice (some ⟨y,0,none⟩) 1 1]) :
  Calls Tryz.prog 43 #[.agg #[.slice A 1 ca,.slice A' 3 cb],.agg #[.string ⟨#[97]⟩,.int .i64 0,.int .i64 1,.bool false,.int .i64 1,.int .i64 0,.int .i64 1,.bool false,.int .i64 30,.slice (some ⟨o,0,none⟩) 1 1,.slice (some ⟨d,0,none⟩) 2 2,.slice none 0 0]] w fun e w' => ∃ v,e = .returned (.tuple #[v,.int .i64 0]) ∧ Qc w w' ∧ Q9 w' v [⟨Yd,-5⟩]:=by
 have hDl : Ja w (.slice (some ⟨d,0,none⟩) 2 2) pd8.d:=by
  refine ⟨some ⟨d,0,none⟩,2,fun i => if i = 0 then .slice (some ⟨x,0,none⟩) 1 1 else .slice (some ⟨y,0,none⟩) 1 1,rfl,?_,Nat.le_refl _,by decide,fun h => (by cases h),?_⟩
  ·refine Xj hD ?_;intro i j v hi hv;have hi : i < 2:=hi;have hj : j < 7:=(List.getElem?_eq_some_iff.1 hv).1;rw [← hv];have h1 : i = 0 ∨ i = 1:=Qb;have h2 : j = 0 ∨ j = 1 ∨ j = 2 ∨ j = 3 ∨ j = 4 ∨ j = 5 ∨ j = 6:=Qb;rcases h1 with rfl | rfl <;> rcases h2 with rfl | rfl | rfl | rfl | rfl | rfl | rfl <;> rfl
  ·intro i hi;have hi : i < 2:=hi;have h1 : i = 0 ∨ i = 1:=Qb;rcases h1 with rfl | rfl
   ·exact hX
   ·exact hY
 have:=Qeo A A' ca cb Zv pd8 _ _ _ w hC ⟨hO,hDl,Jn w⟩;rw [Qfu] at this;exact this
theorem Qme (w : World) (hZ : Zw w) :
  Calls Tryz.prog 12 #[] w fun e w' => e = .returned (.bool true) ∧ Qc w w':=by
 go_enter Tryz.func12,Tryz.ntmps12
 go_upto_region 2 with (go_at_call 21;refine zc (Bh _) ?_;rintro e w1 ⟨A,A',ca,cb,rfl,h1,C⟩)
 obtain ⟨v1,hv⟩:=Qf (w1.alloc (.cells #[.slice A 1 ca,.slice A' 3 cb] 25));rw [← hv];have h2 : Qc w1 v1:=by rw [hv];exact (Qc.refl _).alloc _
 have B1 : Qa v1 w1.heap.size 25 #[.slice A 1 ca,.slice A' 3 cb]:=by rw [hv];exact Qa.new _ _ _
 clear hv;generalize w1.heap.size = b1 at *;have E:=h1.trans h2;replace C:=C.ext h2;have Z:=hZ.ext E;clear h1 h2 hZ;have NI:=fun w hz => Hw ⟨60,1⟩ ⟨1,5⟩ 180 (by unfold Rt.In;decide) (by unfold Rt.In;decide) zD zD w hz
 simp only [e8_int] at NI;go_upto_region 3 with (first | (go_at_call 25;refine zc (Y3 _ _ _) ?_;rintro e wa ⟨rfl,hx⟩;replace E:=E.trans hx;replace C:=C.ext hx;replace Z:=Z.ext hx;replace B1:=B1.ext hx;clear hx) | (go_at_call 28;refine zc (NI _ Z) ?_;rintro e w2 ⟨rfl,hx⟩;replace E:=E.trans hx;replace C:=C.ext hx;replace Z:=Z.ext hx;replace B1:=B1.ext hx;clear hx))
 obtain ⟨v2,hv⟩:=Qf (w2.alloc (.cells #[.int .i64 6,.int .i64 1] 65));rw [← hv];have h2 : Qc w2 v2:=by rw [hv];exact (Qc.refl _).alloc _
 have B2 : Qa v2 w2.heap.size 65 #[.int .i64 6,.int .i64 1]:=by rw [hv];exact Qa.new _ _ _
 clear hv;generalize w2.heap.size = b2 at *;replace E:=E.trans h2;replace C:=C.ext h2;replace Z:=Z.ext h2;replace B1:=B1.ext h2;clear h2;have ND:=fun w => Cp ⟨1,3⟩ (by unfold Rt.In;decide) w
 simp only [e8_dbl] at ND;clear NI;go_upto_region 4 with (first | (go_at_call 25;refine zc (Y3 _ _ _) ?_;rintro e wa ⟨rfl,hx⟩;replace E:=E.trans hx;replace C:=C.ext hx;replace Z:=Z.ext hx;replace B1:=B1.ext hx;replace B2:=B2.ext hx;clear hx) | (go_at_call 26;refine zc (ND _) ?_;rintro e w3 ⟨rfl,hx⟩;replace E:=E.trans hx;replace C:=C.ext hx;replace Z:=Z.ext hx;replace B1:=B1.ext hx;replace B2:=B2.ext hx;clear hx))
 clear ND;go_upto_region 5 with (go_at_call 22;refine zc (Qh4 _) ?_;rintro e w4 ⟨bp,rfl,hx,PR⟩;replace E:=E.trans hx;replace C:=C.ext hx;replace Z:=Z.ext hx;replace B1:=B1.ext hx;replace B2:=B2.ext hx;clear hx)
 obtain ⟨v4,hv⟩:=Qf (w4.alloc (.cells #[.int .i64 60,.int .i64 1,.int .i64 1,.int .i64 5,.int .i64 0,.int .i64 1,.bool false,.int .i64 1] 67));rw [← hv];have h2 : Qc w4 v4:=by rw [hv];exact (Qc.refl _).alloc _
 have B4 : Qa v4 w4.heap.size 67 #[.int .i64 60,.int .i64 1,.int .i64 1,.int .i64 5,.int .i64 0,.int .i64 1,.bool false,.int .i64 1]:=by rw [hv];exact Qa.new _ _ _
 clear hv;generalize w4.heap.size = b4 at *;replace E:=E.trans h2;replace PR:=PR.ext h2;replace C:=C.ext h2;replace Z:=Z.ext h2;replace B1:=B1.ext h2;replace B2:=B2.ext h2;clear h2;go_upto_region 5 with fail
 apply V0 (S:=fun w' r => Qc v4 w' ∧ Qa w' r 72 #[.int .i64 56,.int .i64 1,.int .i64 56,.int .i64 5,.int .i64 0,.int .i64 1])
 ·refine Qy 11 [6,7,9,10] (fun x => Qc v4 x) mixed rfl ?_;intro vz hvz;have HC:=hvz;refine Qj (g:=8) [0,1,2] HC ?_
  constructor
  refine ⟨fun u hu => ?_,?_⟩
  ·obtain ⟨k0,k1,lk⟩:=Qa.d2 (B1.ext hu);obtain ⟨p0,p1,p2,p3,p4,p5,p6,p7,lp⟩:=Qa.d8 (B4.ext hu);exact Qi
  refine Zd 3 8 ?_ ?_
  ·go_wp2_with (go_at_call 24;refine zc (Jc _ _ _ _) ?_;rintro e wa ⟨rfl,hx⟩);replace HC:=HC.trans hx;clear hx;refine Qe HC ?_;refine Zd 4 8 ?_ ?_
   ·go_wp2_with (go_at_call 23;refine zc (P5 (C.ext HC) (PR.ext HC) (Z.ext HC)) ?_;rintro e wa ⟨rfl,hx⟩);replace HC:=HC.trans hx;clear hx;refine Qe HC ?_;refine Qj (g:=5) [5] HC ?_
    constructor
    refine ⟨fun u hu => ?_,?_⟩
    ·obtain ⟨k0,k1,lk⟩:=Qa.d2 (B1.ext hu);obtain ⟨p0,p1,p2,p3,p4,p5,p6,p7,lp⟩:=Qa.d8 (B4.ext hu);exact Qi
    refine Jf (g:=3) [6,7] ?_
    constructor
    refine ⟨fun u hu => ?_,?_⟩
    ·exact Qi
    refine Qh 8 ?_;go_wp2;obtain ⟨b9,wb,hbq,hwb,H5,HC',hx,g5⟩:=Qm HC 72 #[.int .i64 0,.int .i64 0,.int .i64 0,.int .i64 0,.int .i64 0,.int .i64 0];rw [← hbq,← hwb];replace HC:=HC';clear hbq hwb hx HC';refine Qe HC ?_;refine Ql 9 ?_;obtain ⟨z0,z1,z2,z3,z4,z5,x0,x1,x2,x3,x4,x5,lx⟩:=Qa.e6 H5;go_wp2;have H6:=Ys H5 (.int .i64 56) (.int .i64 1) (.int .i64 56) (.int .i64 5) (.int .i64 0) (.int .i64 1);replace HC:=Yq HC g5 (.int .i64 56) (.int .i64 1) (.int .i64 56) (.int .i64 5) (.int .i64 0) (.int .i64 1);clear z0 x0 z1 x1 z2 x2 z3 x3 z4 x4 z5 x5 lx H5;generalize World.setCell _ _ _ = wq at *;refine Qk ?_;refine Ql 10 ?_;go_wp2;refine Qk ?_
    refine Qr ?_;exact J5 b9 ⟨HC,H6⟩ rfl
   ·go_wp2;obtain ⟨b9,wb,hbq,hwb,H5,HC',hx,g5⟩:=Qm HC 72 #[.int .i64 0,.int .i64 0,.int .i64 0,.int .i64 0,.int .i64 0,.int .i64 0];rw [← hbq,← hwb];replace HC:=HC';clear hbq hwb hx HC';refine Qe HC ?_;refine Qh 4 ?_;go_wp2_with (go_at_call 23;refine zc (P5 (C.ext HC) (PR.ext HC) (Z.ext HC)) ?_;rintro e wa ⟨rfl,hx⟩);replace HC:=HC.trans hx;try replace H5:=H5.ext hx
    clear hx;refine Qe HC ?_;refine Qj (g:=4) [5] HC ?_
    constructor
    refine ⟨fun u hu => ?_,?_⟩
    ·obtain ⟨k0,k1,lk⟩:=Qa.d2 (B1.ext hu);obtain ⟨p0,p1,p2,p3,p4,p5,p6,p7,lp⟩:=Qa.d8 (B4.ext hu);exact Qi
    refine Jf (g:=2) [6,7] ?_
    constructor
    refine ⟨fun u hu => ?_,?_⟩
    ·exact Qi
    refine Ql 9 ?_;obtain ⟨z0,z1,z2,z3,z4,z5,x0,x1,x2,x3,x4,x5,lx⟩:=Qa.e6 H5;go_wp2;have H6:=Ys H5 (.int .i64 56) (.int .i64 1) (.int .i64 56) (.int .i64 5) (.int .i64 0) (.int .i64 1);replace HC:=Yq HC g5 (.int .i64 56) (.int .i64 1) (.int .i64 56) (.int .i64 5) (.int .i64 0) (.int .i64 1);clear z0 x0 z1 x1 z2 x2 z3 x3 z4 x4 z5 x5 lx H5;generalize World.setCell _ _ _ = wq at *;refine Qk ?_;refine Ql 10 ?_;go_wp2;refine Qk ?_;refine Qr ?_;exact J5 b9 ⟨HC,H6⟩ rfl
  ·go_wp2;obtain ⟨b9,wb,hbq,hwb,H5,HC',hx,g5⟩:=Qm HC 72 #[.int .i64 0,.int .i64 0,.int .i64 0,.int .i64 0,.int .i64 0,.int .i64 0];rw [← hbq,← hwb];replace HC:=HC';clear hbq hwb hx HC';refine Qe HC ?_;refine Qh 3 ?_;go_wp2_with (go_at_call 24;refine zc (Jc _ _ _ _) ?_;rintro e wa ⟨rfl,hx⟩);replace HC:=HC.trans hx;try replace H5:=H5.ext hx
   clear hx;refine Qe HC ?_;refine Qh 4 ?_;go_wp2_with (go_at_call 23;refine zc (P5 (C.ext HC) (PR.ext HC) (Z.ext HC)) ?_;rintro e wa ⟨rfl,hx⟩);replace HC:=HC.trans hx;try replace H5:=H5.ext hx
   clear hx;refine Qe HC ?_;refine Qj (g:=4) [5] HC ?_
   constructor
   refine ⟨fun u hu => ?_,?_⟩
   ·obtain ⟨k0,k1,lk⟩:=Qa.d2 (B1.ext hu);obtain ⟨p0,p1,p2,p3,p4,p5,p6,p7,lp⟩:=Qa.d8 (B4.ext hu);exact Qi
   refine Jf (g:=2) [6,7] ?_
   constructor
   refine ⟨fun u hu => ?_,?_⟩
   ·exact Qi
   refine Ql 9 ?_;obtain ⟨z0,z1,z2,z3,z4,z5,x0,x1,x2,x3,x4,x5,lx⟩:=Qa.e6 H5;go_wp2;have H6:=Ys H5 (.int .i64 56) (.int .i64 1) (.int .i64 56) (.int .i64 5) (.int .i64 0) (.int .i64 1);replace HC:=Yq HC g5 (.int .i64 56) (.int .i64 1) (.int .i64 56) (.int .i64 5) (.int .i64 0) (.int .i64 1);clear z0 x0 z1 x1 z2 x2 z3 x3 z4 x4 z5 x5 lx H5;generalize World.setCell _ _ _ = wq at *;refine Qk ?_;refine Ql 10 ?_;go_wp2;refine Qk ?_;refine Qr ?_;exact J5 b9 ⟨HC,H6⟩ rfl
 rintro b5 v5 ⟨h2,B5⟩;replace E:=E.trans h2;replace C:=C.ext h2;replace Z:=Z.ext h2;replace B1:=B1.ext h2;replace B2:=B2.ext h2;replace PR:=PR.ext h2;replace B4:=B4.ext h2;clear h2;go_upto_region 6 with fail
 apply V0 (S:=fun w' r => Qc v5 w' ∧ Qa w' r 65 #[.int .i64 336,.int .i64 5])
 ·refine Qy 11 [6,7,9,10] (fun x => Qc v5 x) mixed rfl ?_;intro vz hvz;have HC:=hvz;refine Qj (g:=8) [0,1,2] HC ?_
  constructor
  refine ⟨fun u hu => ?_,?_⟩
  ·obtain ⟨k0,k1,lk⟩:=Qa.d2 (B1.ext hu);obtain ⟨p0,p1,p2,p3,p4,p5,p6,p7,lp⟩:=Qa.d8 (B4.ext hu);exact Qi
  refine Zd 3 8 ?_ ?_
  ·go_wp2_with (go_at_call 24;refine zc (Jc _ _ _ _) ?_;rintro e wa ⟨rfl,hx⟩);replace HC:=HC.trans hx;clear hx;refine Qe HC ?_;refine Zd 4 8 ?_ ?_
   ·go_wp2_with (go_at_call 39;refine zc (P6 (C.ext HC) (PR.ext HC) (Z.ext HC)) ?_;rintro e wa ⟨rfl,hx⟩);replace HC:=HC.trans hx;clear hx;refine Qe HC ?_;refine Qj (g:=5) [5] HC ?_
    constructor
    refine ⟨fun u hu => ?_,?_⟩
    ·obtain ⟨k0,k1,lk⟩:=Qa.d2 (B1.ext hu);obtain ⟨p0,p1,p2,p3,p4,p5,p6,p7,lp⟩:=Qa.d8 (B4.ext hu);exact Qi
    refine Jf (g:=3) [6,7] ?_
    constructor
    refine ⟨fun u hu => ?_,?_⟩
    ·exact Qi
    refine Qh 8 ?_;go_wp2;obtain ⟨b9,wb,hbq,hwb,H5,HC',hx,g5⟩:=Qm HC 65 #[.int .i64 0,.int .i64 0];rw [← hbq,← hwb];replace HC:=HC';clear hbq hwb hx HC';refine Qe HC ?_;refine Ql 9 ?_;obtain ⟨z0,z1,x0,x1,lx⟩:=Qa.e2 H5;go_wp2;have H6:=Qp H5 (.int .i64 336) (.int .i64 5);replace HC:=(HC.setCell (p:=⟨b9,0,none⟩) g5 (.int .i64 336)).setCell (p:=⟨b9,1,none⟩) g5 (.int .i64 5);clear z0 x0 z1 x1 lx H5;generalize World.setCell _ _ _ = wq at *;refine Qk ?_;refine Ql 10 ?_;go_wp2;refine Qk ?_;refine Qr ?_;exact J5 b9 ⟨HC,H6⟩ rfl
   ·go_wp2;obtain ⟨b9,wb,hbq,hwb,H5,HC',hx,g5⟩:=Qm HC 65 #[.int .i64 0,.int .i64 0];rw [← hbq,← hwb];replace HC:=HC';clear hbq hwb hx HC';refine Qe HC ?_;refine Qh 4 ?_;go_wp2_with (go_at_call 39;refine zc (P6 (C.ext HC) (PR.ext HC) (Z.ext HC)) ?_;rintro e wa ⟨rfl,hx⟩);replace HC:=HC.trans hx;try replace H5:=H5.ext hx
    clear hx;refine Qe HC ?_;refine Qj (g:=4) [5] HC ?_
    constructor
    refine ⟨fun u hu => ?_,?_⟩
    ·obtain ⟨k0,k1,lk⟩:=Qa.d2 (B1.ext hu);obtain ⟨p0,p1,p2,p3,p4,p5,p6,p7,lp⟩:=Qa.d8 (B4.ext hu);exact Qi
    refine Jf (g:=2) [6,7] ?_
    constructor
    refine ⟨fun u hu => ?_,?_⟩
    ·exact Qi
    refine Ql 9 ?_;obtain ⟨z0,z1,x0,x1,lx⟩:=Qa.e2 H5;go_wp2;have H6:=Qp H5 (.int .i64 336) (.int .i64 5);replace HC:=(HC.setCell (p:=⟨b9,0,none⟩) g5 (.int .i64 336)).setCell (p:=⟨b9,1,none⟩) g5 (.int .i64 5);clear z0 x0 z1 x1 lx H5;generalize World.setCell _ _ _ = wq at *;refine Qk ?_;refine Ql 10 ?_;go_wp2;refine Qk ?_;refine Qr ?_;exact J5 b9 ⟨HC,H6⟩ rfl
  ·go_wp2;obtain ⟨b9,wb,hbq,hwb,H5,HC',hx,g5⟩:=Qm HC 65 #[.int .i64 0,.int .i64 0];rw [← hbq,← hwb];replace HC:=HC';clear hbq hwb hx HC';refine Qe HC ?_;refine Qh 3 ?_;go_wp2_with (go_at_call 24;refine zc (Jc _ _ _ _) ?_;rintro e wa ⟨rfl,hx⟩);replace HC:=HC.trans hx;try replace H5:=H5.ext hx
   clear hx;refine Qe HC ?_;refine Qh 4 ?_;go_wp2_with (go_at_call 39;refine zc (P6 (C.ext HC) (PR.ext HC) (Z.ext HC)) ?_;rintro e wa ⟨rfl,hx⟩);replace HC:=HC.trans hx;try replace H5:=H5.ext hx
   clear hx;refine Qe HC ?_;refine Qj (g:=4) [5] HC ?_
   constructor
   refine ⟨fun u hu => ?_,?_⟩
   ·obtain ⟨k0,k1,lk⟩:=Qa.d2 (B1.ext hu);obtain ⟨p0,p1,p2,p3,p4,p5,p6,p7,lp⟩:=Qa.d8 (B4.ext hu);exact Qi
   refine Jf (g:=2) [6,7] ?_
   constructor
   refine ⟨fun u hu => ?_,?_⟩
   ·exact Qi
   refine Ql 9 ?_;obtain ⟨z0,z1,x0,x1,lx⟩:=Qa.e2 H5;go_wp2;have H6:=Qp H5 (.int .i64 336) (.int .i64 5);replace HC:=(HC.setCell (p:=⟨b9,0,none⟩) g5 (.int .i64 336)).setCell (p:=⟨b9,1,none⟩) g5 (.int .i64 5);clear z0 x0 z1 x1 lx H5;generalize World.setCell _ _ _ = wq at *;refine Qk ?_;refine Ql 10 ?_;go_wp2;refine Qk ?_;refine Qr ?_;exact J5 b9 ⟨HC,H6⟩ rfl
 rintro b6 v6 ⟨h2,B6⟩;replace E:=E.trans h2;replace C:=C.ext h2;replace Z:=Z.ext h2;replace B1:=B1.ext h2;replace B2:=B2.ext h2;replace PR:=PR.ext h2;replace B4:=B4.ext h2;replace B5:=B5.ext h2;clear h2;clear PR B4;go_upto_region 7 with fail
 obtain ⟨k0,k1,lk⟩:=Qa.d2 B2;obtain ⟨x0,x1,x2,x3,x4,x5,lx⟩:=Qa.d6 B5;obtain ⟨y0,y1,ly⟩:=Qa.d2 B6;have m1:=fun x1 x2 x3 => Y3 x1 x2 x3
 refine Zj v6 ?_;intro v7 h2;clear m1;obtain ⟨_,_,_,_⟩:=Zi v6 h2;replace E:=E.trans h2;replace C:=C.ext h2;replace Z:=Z.ext h2;replace B1:=B1.ext h2;replace B2:=B2.ext h2;replace B5:=B5.ext h2;replace B6:=B6.ext h2;clear h2;clear k0 k1 lk x0 x1 x2 x3 x4 x5 lx y0 y1 ly B2 B5 B6;go_upto_region 10 with (go_at_call 25;refine zc (Y3 _ _ _) ?_;rintro e wa ⟨rfl,hx⟩;replace E:=E.trans hx;replace C:=C.ext hx;replace Z:=Z.ext hx;replace B1:=B1.ext hx;clear hx)
 obtain ⟨v9,hv⟩:=Qf (wa.alloc (.cells #[.int .i64 10,.int .i64 1,.int .i64 1,.int .i64 3,.int .i64 5,.int .i64 1,.int .i64 1,.int .i64 1] 108));rw [← hv];have h2 : Qc wa v9:=by rw [hv];exact (Qc.refl _).alloc _
 have B7 : Qa v9 wa.heap.size 108 #[.int .i64 10,.int .i64 1,.int .i64 1,.int .i64 3,.int .i64 5,.int .i64 1,.int .i64 1,.int .i64 1]:=by rw [hv];exact Qa.new _ _ _
 clear hv;generalize wa.heap.size = b7 at *;have PT:=Qkz B7;clear B7;replace E:=E.trans h2;replace C:=C.ext h2;replace Z:=Z.ext h2;replace B1:=B1.ext h2;clear h2;go_upto_region 10 with fail
 apply V1 (S:=fun w' r _ => Qc v9 w' ∧ Qa w' r 65 #[.int .i64 (-5),.int .i64 1])
 ·refine Qy 14 [9,10,12,13] (fun x => Qc v9 x) mixed rfl ?_;intro vz hvz;have HC:=hvz;refine Qj (g:=12) [0,1] HC ?_
  constructor
  refine ⟨fun u hu => ?_,?_⟩
  ·obtain ⟨k0,k1,lk⟩:=Qa.d2 (B1.ext hu);exact Qi
  refine Zd 2 11 ?_ ?_
  ·go_wp2_with (go_at_call 25;refine zc (Y3 _ _ _) ?_;rintro e wa ⟨rfl,hx⟩);replace HC:=HC.trans hx;clear hx;refine Qe HC ?_;refine Zd 3 11 ?_ ?_
   ·go_wp2_with (go_at_call 24;refine zc (Jc _ _ _ _) ?_;rintro e wa ⟨rfl,hx⟩);replace HC:=HC.trans hx;clear hx;refine Qe HC ?_;refine Zd 4 11 ?_ ?_
    ·go_wp2_with (go_at_call 24;refine zc (Jc _ _ _ _) ?_;rintro e wa ⟨rfl,hx⟩);replace HC:=HC.trans hx;clear hx;refine Qe HC ?_;refine Qj (g:=8) [5] HC ?_
     constructor
     refine ⟨fun u hu => ?_,?_⟩
     ·obtain ⟨k0,k1,lk⟩:=Qa.d2 (B1.ext hu);exact Qi
     refine Zd 6 11 ?_ ?_
     ·go_wp2;obtain ⟨bc,wb,hbq,hwb,HCW,HC',hx,_⟩:=Qm HC 112 #[.int .i64 2,.int .i64 1,.int .i64 2,.int .i64 0,.int .i64 1,.bool false,.int .i64 1,.int .i64 0,.int .i64 1,.bool false,.int .i64 30];rw [← hbq,← hwb];replace HC:=HC';clear hbq hwb hx HC';refine Qe HC ?_;refine Zd 7 11 ?_ ?_
      ·go_wp2_with (go_at_call 40;refine zc (My (C.ext HC) (PT.ext HC) (Ms HCW) (Z.ext HC)) ?_;rintro e wa ⟨rfl,hx⟩);replace HC:=HC.trans hx;clear hx;refine Qe HC ?_;refine Qj (g:=5) [8] HC ?_
       constructor
       refine ⟨fun u hu => ?_,?_⟩
       ·obtain ⟨k0,k1,lk⟩:=Qa.d2 (B1.ext hu);exact Qi
       refine Jf (g:=3) [9,10] ?_
       constructor
       refine ⟨fun u hu => ?_,?_⟩
       ·exact Qi
       refine Qh 11 ?_;go_wp2;obtain ⟨b9,wb,hbq,hwb,H5,HC',hx,g5⟩:=Qm HC 65 #[.int .i64 0,.int .i64 0];rw [← hbq,← hwb];replace HC:=HC';try replace HCW:=HCW.ext hx
       clear hbq hwb hx HC';refine Qe HC ?_;refine Ql 12 ?_;obtain ⟨z0,z1,x0,x1,lx⟩:=Qa.e2 H5;go_wp2;have H6:=Qp H5 (.int .i64 (-5)) (.int .i64 1);replace HC:=(HC.setCell (p:=⟨b9,0,none⟩) g5 (.int .i64 (-5))).setCell (p:=⟨b9,1,none⟩) g5 (.int .i64 1);clear z0 x0 z1 x1 lx H5;generalize World.setCell _ _ _ = wq at *;refine Qk ?_;refine Ql 13 ?_;go_wp2;refine Qk ?_;refine Qr ?_;exact Ji b9 bc ⟨HC,H6⟩ rfl
      ·go_wp2;obtain ⟨b9,wb,hbq,hwb,H5,HC',hx,g5⟩:=Qm HC 65 #[.int .i64 0,.int .i64 0];rw [← hbq,← hwb];replace HC:=HC';try replace HCW:=HCW.ext hx
       clear hbq hwb hx HC';refine Qe HC ?_;refine Qh 7 ?_;go_wp2_with (go_at_call 40;refine zc (My (C.ext HC) (PT.ext HC) (Ms HCW) (Z.ext HC)) ?_;rintro e wa ⟨rfl,hx⟩);replace HC:=HC.trans hx;try replace H5:=H5.ext hx
       clear hx;refine Qe HC ?_;refine Qj (g:=4) [8] HC ?_
       constructor
       refine ⟨fun u hu => ?_,?_⟩
       ·obtain ⟨k0,k1,lk⟩:=Qa.d2 (B1.ext hu);exact Qi
       refine Jf (g:=2) [9,10] ?_
       constructor
       refine ⟨fun u hu => ?_,?_⟩
       ·exact Qi
       refine Ql 12 ?_;obtain ⟨z0,z1,x0,x1,lx⟩:=Qa.e2 H5;go_wp2;have H6:=Qp H5 (.int .i64 (-5)) (.int .i64 1);replace HC:=(HC.setCell (p:=⟨b9,0,none⟩) g5 (.int .i64 (-5))).setCell (p:=⟨b9,1,none⟩) g5 (.int .i64 1);clear z0 x0 z1 x1 lx H5;generalize World.setCell _ _ _ = wq at *;refine Qk ?_;refine Ql 13 ?_;go_wp2;refine Qk ?_;refine Qr ?_;exact Ji b9 bc ⟨HC,H6⟩ rfl
     ·go_wp2;obtain ⟨b9,wb,hbq,hwb,H5,HC',hx,g5⟩:=Qm HC 65 #[.int .i64 0,.int .i64 0];rw [← hbq,← hwb];replace HC:=HC';clear hbq hwb hx HC';refine Qe HC ?_;refine Qh 6 ?_;go_wp2;obtain ⟨bc,wb,hbq,hwb,HCW,HC',hx,_⟩:=Qm HC 112 #[.int .i64 2,.int .i64 1,.int .i64 2,.int .i64 0,.int .i64 1,.bool false,.int .i64 1,.int .i64 0,.int .i64 1,.bool false,.int .i64 30];rw [← hbq,← hwb];replace HC:=HC';try replace H5:=H5.ext hx
      clear hbq hwb hx HC';refine Qe HC ?_;refine Qh 7 ?_;go_wp2_with (go_at_call 40;refine zc (My (C.ext HC) (PT.ext HC) (Ms HCW) (Z.ext HC)) ?_;rintro e wa ⟨rfl,hx⟩);replace HC:=HC.trans hx;try replace H5:=H5.ext hx
      clear hx;refine Qe HC ?_;refine Qj (g:=4) [8] HC ?_
      constructor
      refine ⟨fun u hu => ?_,?_⟩
      ·obtain ⟨k0,k1,lk⟩:=Qa.d2 (B1.ext hu);exact Qi
      refine Jf (g:=2) [9,10] ?_
      constructor
      refine ⟨fun u hu => ?_,?_⟩
      ·exact Qi
      refine Ql 12 ?_;obtain ⟨z0,z1,x0,x1,lx⟩:=Qa.e2 H5;go_wp2;have H6:=Qp H5 (.int .i64 (-5)) (.int .i64 1);replace HC:=(HC.setCell (p:=⟨b9,0,none⟩) g5 (.int .i64 (-5))).setCell (p:=⟨b9,1,none⟩) g5 (.int .i64 1);clear z0 x0 z1 x1 lx H5;generalize World.setCell _ _ _ = wq at *;refine Qk ?_;refine Ql 13 ?_;go_wp2;refine Qk ?_;refine Qr ?_;exact Ji b9 bc ⟨HC,H6⟩ rfl
    ·go_wp2;obtain ⟨b9,wb,hbq,hwb,H5,HC',hx,g5⟩:=Qm HC 65 #[.int .i64 0,.int .i64 0];rw [← hbq,← hwb];replace HC:=HC';clear hbq hwb hx HC';refine Qe HC ?_;refine Qh 4 ?_;go_wp2_with (go_at_call 24;refine zc (Jc _ _ _ _) ?_;rintro e wa ⟨rfl,hx⟩);replace HC:=HC.trans hx;try replace H5:=H5.ext hx
     clear hx;refine Qe HC ?_;refine Qj (g:=7) [5] HC ?_
     constructor
     refine ⟨fun u hu => ?_,?_⟩
     ·obtain ⟨k0,k1,lk⟩:=Qa.d2 (B1.ext hu);exact Qi
     refine Qh 6 ?_;go_wp2;obtain ⟨bc,wb,hbq,hwb,HCW,HC',hx,_⟩:=Qm HC 112 #[.int .i64 2,.int .i64 1,.int .i64 2,.int .i64 0,.int .i64 1,.bool false,.int .i64 1,.int .i64 0,.int .i64 1,.bool false,.int .i64 30];rw [← hbq,← hwb];replace HC:=HC';try replace H5:=H5.ext hx
     clear hbq hwb hx HC';refine Qe HC ?_;refine Qh 7 ?_;go_wp2_with (go_at_call 40;refine zc (My (C.ext HC) (PT.ext HC) (Ms HCW) (Z.ext HC)) ?_;rintro e wa ⟨rfl,hx⟩);replace HC:=HC.trans hx;try replace H5:=H5.ext hx
     clear hx;refine Qe HC ?_;refine Qj (g:=4) [8] HC ?_
     constructor
     refine ⟨fun u hu => ?_,?_⟩
     ·obtain ⟨k0,k1,lk⟩:=Qa.d2 (B1.ext hu);exact Qi
     refine Jf (g:=2) [9,10] ?_
     constructor
     refine ⟨fun u hu => ?_,?_⟩
     ·exact Qi
     refine Ql 12 ?_;obtain ⟨z0,z1,x0,x1,lx⟩:=Qa.e2 H5;go_wp2;have H6:=Qp H5 (.int .i64 (-5)) (.int .i64 1);replace HC:=(HC.setCell (p:=⟨b9,0,none⟩) g5 (.int .i64 (-5))).setCell (p:=⟨b9,1,none⟩) g5 (.int .i64 1);clear z0 x0 z1 x1 lx H5;generalize World.setCell _ _ _ = wq at *;refine Qk ?_;refine Ql 13 ?_;go_wp2;refine Qk ?_;refine Qr ?_;exact Ji b9 bc ⟨HC,H6⟩ rfl
   ·go_wp2;obtain ⟨b9,wb,hbq,hwb,H5,HC',hx,g5⟩:=Qm HC 65 #[.int .i64 0,.int .i64 0];rw [← hbq,← hwb];replace HC:=HC';clear hbq hwb hx HC';refine Qe HC ?_;refine Qh 3 ?_;go_wp2_with (go_at_call 24;refine zc (Jc _ _ _ _) ?_;rintro e wa ⟨rfl,hx⟩);replace HC:=HC.trans hx;try replace H5:=H5.ext hx
    clear hx;refine Qe HC ?_;refine Qh 4 ?_;go_wp2_with (go_at_call 24;refine zc (Jc _ _ _ _) ?_;rintro e wa ⟨rfl,hx⟩);replace HC:=HC.trans hx;try replace H5:=H5.ext hx
    clear hx;refine Qe HC ?_;refine Qj (g:=7) [5] HC ?_
    constructor
    refine ⟨fun u hu => ?_,?_⟩
    ·obtain ⟨k0,k1,lk⟩:=Qa.d2 (B1.ext hu);exact Qi
    refine Qh 6 ?_;go_wp2;obtain ⟨bc,wb,hbq,hwb,HCW,HC',hx,_⟩:=Qm HC 112 #[.int .i64 2,.int .i64 1,.int .i64 2,.int .i64 0,.int .i64 1,.bool false,.int .i64 1,.int .i64 0,.int .i64 1,.bool false,.int .i64 30];rw [← hbq,← hwb];replace HC:=HC';try replace H5:=H5.ext hx
    clear hbq hwb hx HC';refine Qe HC ?_;refine Qh 7 ?_;go_wp2_with (go_at_call 40;refine zc (My (C.ext HC) (PT.ext HC) (Ms HCW) (Z.ext HC)) ?_;rintro e wa ⟨rfl,hx⟩);replace HC:=HC.trans hx;try replace H5:=H5.ext hx
    clear hx;refine Qe HC ?_;refine Qj (g:=4) [8] HC ?_
    constructor
    refine ⟨fun u hu => ?_,?_⟩
    ·obtain ⟨k0,k1,lk⟩:=Qa.d2 (B1.ext hu);exact Qi
    refine Jf (g:=2) [9,10] ?_
    constructor
    refine ⟨fun u hu => ?_,?_⟩
    ·exact Qi
    refine Ql 12 ?_;obtain ⟨z0,z1,x0,x1,lx⟩:=Qa.e2 H5;go_wp2;have H6:=Qp H5 (.int .i64 (-5)) (.int .i64 1);replace HC:=(HC.setCell (p:=⟨b9,0,none⟩) g5 (.int .i64 (-5))).setCell (p:=⟨b9,1,none⟩) g5 (.int .i64 1);clear z0 x0 z1 x1 lx H5;generalize World.setCell _ _ _ = wq at *;refine Qk ?_;refine Ql 13 ?_;go_wp2;refine Qk ?_;refine Qr ?_;exact Ji b9 bc ⟨HC,H6⟩ rfl
  ·go_wp2;obtain ⟨b9,wb,hbq,hwb,H5,HC',hx,g5⟩:=Qm HC 65 #[.int .i64 0,.int .i64 0];rw [← hbq,← hwb];replace HC:=HC';clear hbq hwb hx HC';refine Qe HC ?_;refine Qh 2 ?_;go_wp2_with (go_at_call 25;refine zc (Y3 _ _ _) ?_;rintro e wa ⟨rfl,hx⟩);replace HC:=HC.trans hx;try replace H5:=H5.ext hx
   clear hx;refine Qe HC ?_;refine Qh 3 ?_;go_wp2_with (go_at_call 24;refine zc (Jc _ _ _ _) ?_;rintro e wa ⟨rfl,hx⟩);replace HC:=HC.trans hx;try replace H5:=H5.ext hx
   clear hx;refine Qe HC ?_;refine Qh 4 ?_;go_wp2_with (go_at_call 24;refine zc (Jc _ _ _ _) ?_;rintro e wa ⟨rfl,hx⟩);replace HC:=HC.trans hx;try replace H5:=H5.ext hx
   clear hx;refine Qe HC ?_;refine Qj (g:=7) [5] HC ?_
   constructor
   refine ⟨fun u hu => ?_,?_⟩
   ·obtain ⟨k0,k1,lk⟩:=Qa.d2 (B1.ext hu);exact Qi
   refine Qh 6 ?_;go_wp2;obtain ⟨bc,wb,hbq,hwb,HCW,HC',hx,_⟩:=Qm HC 112 #[.int .i64 2,.int .i64 1,.int .i64 2,.int .i64 0,.int .i64 1,.bool false,.int .i64 1,.int .i64 0,.int .i64 1,.bool false,.int .i64 30];rw [← hbq,← hwb];replace HC:=HC';try replace H5:=H5.ext hx
   clear hbq hwb hx HC';refine Qe HC ?_;refine Qh 7 ?_;go_wp2_with (go_at_call 40;refine zc (My (C.ext HC) (PT.ext HC) (Ms HCW) (Z.ext HC)) ?_;rintro e wa ⟨rfl,hx⟩);replace HC:=HC.trans hx;try replace H5:=H5.ext hx
   clear hx;refine Qe HC ?_;refine Qj (g:=4) [8] HC ?_
   constructor
   refine ⟨fun u hu => ?_,?_⟩
   ·obtain ⟨k0,k1,lk⟩:=Qa.d2 (B1.ext hu);exact Qi
   refine Jf (g:=2) [9,10] ?_
   constructor
   refine ⟨fun u hu => ?_,?_⟩
   ·exact Qi
   refine Ql 12 ?_;obtain ⟨z0,z1,x0,x1,lx⟩:=Qa.e2 H5;go_wp2;have H6:=Qp H5 (.int .i64 (-5)) (.int .i64 1);replace HC:=(HC.setCell (p:=⟨b9,0,none⟩) g5 (.int .i64 (-5))).setCell (p:=⟨b9,1,none⟩) g5 (.int .i64 1);clear z0 x0 z1 x1 lx H5;generalize World.setCell _ _ _ = wq at *;refine Qk ?_;refine Ql 13 ?_;go_wp2;refine Qk ?_;refine Qr ?_;exact Ji b9 bc ⟨HC,H6⟩ rfl
 rintro b10 bc v10 ⟨h2,B10⟩;replace E:=E.trans h2;replace C:=C.ext h2;replace Z:=Z.ext h2;replace B1:=B1.ext h2;replace PT:=PT.ext h2;clear h2;go_upto_region 11 with fail
 obtain ⟨k0,k1,lk⟩:=Qa.d2 B1;have m1:=fun x1 x2 x3 => Y3 x1 x2 x3
 have m2:=fun x1 x2 x3 x4 => Jc x1 x2 x3 x4
 have n1:=fun u : XW _ => w8_few (C.ext u.e) (PT.ext u.e) (Z.ext u.e)
 refine Zj v10 ?_;intro v11 h2;clear m1 m2 n1;obtain ⟨_,_,_,_⟩:=Zi v10 h2;replace E:=E.trans h2;replace C:=C.ext h2;replace Z:=Z.ext h2;replace B1:=B1.ext h2;replace PT:=PT.ext h2;replace B10:=B10.ext h2;clear h2;clear k0 k1 lk PT;go_upto_region 13 with (first | (go_at_call 25;refine zc (Y3 _ _ _) ?_;rintro e wa ⟨rfl,hx⟩;replace E:=E.trans hx;replace C:=C.ext hx;replace Z:=Z.ext hx;replace B1:=B1.ext hx;replace B10:=B10.ext hx;clear hx) | (go_at_call 42;refine zc (Ql9 _) ?_;rintro e w12 ⟨rfl,hx⟩;replace E:=E.trans hx;replace C:=C.ext hx;replace Z:=Z.ext hx;replace B1:=B1.ext hx;replace B10:=B10.ext hx;clear hx))
 obtain ⟨v12,hv⟩:=Qf (w12.alloc (.cells #[.int .i64 12,.int .i64 4,.int .i64 7] 116));rw [← hv];have h2 : Qc w12 v12:=by rw [hv];exact (Qc.refl _).alloc _
 have B12 : Qa v12 w12.heap.size 116 #[.int .i64 12,.int .i64 4,.int .i64 7]:=by rw [hv];exact Qa.new _ _ _
 clear hv;generalize w12.heap.size = b12 at *;replace E:=E.trans h2;replace C:=C.ext h2;replace Z:=Z.ext h2;replace B1:=B1.ext h2;replace B10:=B10.ext h2;clear h2;obtain ⟨x0,x1,lx⟩:=Qa.d2 B10;obtain ⟨y0,y1,y2,ly⟩:=Qa.d3 B12;have m1:=fun x1 x2 x3 => Y3 x1 x2 x3
 refine Zj v12 ?_;intro v13 h2;clear m1;obtain ⟨_,_,_,_⟩:=Zi v12 h2;clear x0 x1 lx y0 y1 y2 ly B10 B12;replace E:=E.trans h2;replace C:=C.ext h2;replace Z:=Z.ext h2;replace B1:=B1.ext h2;clear h2;go_upto_region 15 with fail
 refine Qy 18 [14,15,16,17] (fun x => Qc v13 x) mixed rfl ?_;intro vz hvz;have HC:=hvz;refine Qj (g:=17) [0] HC ?_
 constructor
 refine ⟨fun u hu => ?_,?_⟩
 ·obtain ⟨k0,k1,lk⟩:=Qa.d2 (B1.ext hu);exact Qi
 refine Qh 1 ?_;go_wp2_with (go_at_call 24;refine zc (Jc _ _ _ _) ?_;rintro e wa ⟨rfl,hx⟩);replace HC:=HC.trans hx;clear hx;refine Qe HC ?_;refine Qh 2 ?_;go_wp2_with (go_at_call 24;refine zc (Jc _ _ _ _) ?_;rintro e wa ⟨rfl,hx⟩);replace HC:=HC.trans hx;clear hx;refine Qe HC ?_;refine Qh 3 ?_;go_wp2_with (go_at_call 20;refine zc (U5 _ _ _) ?_;rintro e wa ⟨bo,rfl,hx,LO⟩);replace HC:=HC.trans hx;clear hx;refine Qe HC ?_;refine Qh 4 ?_;go_wp2_with (go_at_call 24;refine zc (Jc _ _ _ _) ?_;rintro e wa ⟨rfl,hx⟩);replace HC:=HC.trans hx;try replace LO:=LO.ext hx
 clear hx;refine Qe HC ?_;refine Qh 5 ?_;go_wp2_with (go_at_call 20;refine zc (U5 _ _ _) ?_;rintro e wa ⟨bx,rfl,hx,LX⟩);replace HC:=HC.trans hx;try replace LO:=LO.ext hx
 clear hx;refine Qe HC ?_;refine Qj (g:=11) [6] HC ?_
 constructor
 refine ⟨fun u hu => ?_,?_⟩
 ·obtain ⟨k0,k1,lk⟩:=Qa.d2 (B1.ext hu);exact Qi
 refine Qh 7 ?_;go_wp2_with (go_at_call 24;refine zc (Jc _ _ _ _) ?_;rintro e wa ⟨rfl,hx⟩);replace HC:=HC.trans hx;try replace LO:=LO.ext hx
 try replace LX:=LX.ext hx
 clear hx;refine Qe HC ?_;refine Qh 8 ?_;go_wp2_with (go_at_call 20;refine zc (U5 _ _ _) ?_;rintro e wa ⟨by',rfl,hx,LY⟩);replace HC:=HC.trans hx;try replace LO:=LO.ext hx
 try replace LX:=LX.ext hx
 clear hx;refine Qe HC ?_;refine Qj (g:=8) [9] HC ?_
 constructor
 refine ⟨fun u hu => ?_,?_⟩
 ·obtain ⟨k0,k1,lk⟩:=Qa.d2 (B1.ext hu);exact Qi
 refine Qh 10 ?_;go_wp2;obtain ⟨bd,wb,hbq,hwb,HD,HC',hx,_⟩:=Qm HC 57 #[.int .i64 0,.int .i64 1,.bool false,.int .i64 2,.bool true,.string ⟨#[98]⟩,.slice (some ⟨bx,0,none⟩) 1 1,.int .i64 0,.int .i64 1,.bool false,.int .i64 2,.bool false,.string ⟨#[98]⟩,.slice (some ⟨by',0,none⟩) 1 1];rw [← hbq,← hwb];replace HC:=HC';try replace LO:=LO.ext hx
 try replace LX:=LX.ext hx
 try replace LY:=LY.ext hx
 clear hbq hwb hx HC';refine Qe HC ?_;refine Qj (g:=6) [11] HC ?_
 constructor
 refine ⟨fun u hu => ?_,?_⟩
 ·obtain ⟨k0,k1,lk⟩:=Qa.d2 (B1.ext hu);exact Qi
 refine Qh 12 ?_;have NC:=Ql8 (C.ext HC) LO LX LY HD;go_wp2_with (go_at_call 43;refine zc (NC) ?_;rintro e wa ⟨v16,rfl,hx,L16⟩);replace HC:=HC.trans hx;clear hx NC;refine Qe HC ?_;refine Qj (g:=4) [13] HC ?_
 constructor
 refine ⟨fun u hu => ?_,?_⟩
 ·obtain ⟨k0,k1,lk⟩:=Qa.d2 (B1.ext hu);exact Qi
 refine Jf (g:=2) [14,15] ?_
 constructor
 refine ⟨fun u hu => ?_,?_⟩
 ·exact Qi
 refine Ql 16 ?_;go_wp2;refine Qk ?_;refine Ql 17 ?_;go_wp2;refine Qk ?_;refine Qr ?_;replace E:=E.trans HC;clear HC LO LX LY HD;go_wp2_with (first | (go_at_call 20;refine zc (U5 _ _ _) ?_;rintro e wa ⟨bl,rfl,hx,LL⟩;have NS:=Qbm _ _ [⟨Yd,-5⟩] [⟨Yd,-5⟩] _ (L16.ext hx) LL;rw [zt (rfl : ([⟨Yd,-5⟩] : List Lt) = [⟨Yd,-5⟩])] at NS) | (go_at_call 29;refine zc (NS) ?_;rintro e wz ⟨rfl,hz⟩));go_ret;exact ⟨rfl,(E.trans hx).trans hz⟩
end
section
def sorted (l : List Lt) : Prop:=l.Pairwise fun x y => Yv x.g y.g = true
theorem Fj {x y : ByteArray} (h : x.toList = y.toList) : x = y:=by
 have hx:=Go.Lib.toList_data x;have hy:=Go.Lib.toList_data y;rw [hx,hy] at h;cases x;cases y
 simp only [ByteArray.mk.injEq];exact Array.ext' h
end
section
open Go Go.RowKit Go.Shelf
attribute [local go_sem] Zu
theorem Qhc : (Tryz.prog.info? 85).map (fun i => (i.zero,i.size,i.bytes)) = some (some (.agg #[.string ⟨#[]⟩,.int .i64 0]),2,24):=by kernel_rfl
theorem Qh1 (l : List Lt) (s : ByteArray) (z : Int) : l.flatMap Jj ++ [.string s,.int .i64 z] = (l ++ [Lt.mk s z]).flatMap Jj:=by rw [List.flatMap_append];rfl
theorem Qd9 (s : ByteArray) (z : Int) : ∀ u ∈ [Value.string s,.int .i64 z],u.oneCell' = true:=by simp [Value.oneCell']
theorem Qla (v : Value) (l : List Lt) (k : Int) (hk1 : -1319413953331200 ≤ k) (hk2 : k ≤ 1319413953331200) (w : World) (hL : Q9 w v l) :
  Calls Tryz.prog 69 #[v,.int .i64 k] w fun e w' => ∃ F n c,e = .returned (.tuple #[.slice F n c,.int .i64 (Ye l k)]) ∧ Qc w w' ∧ Q9 w' (.slice F n c) (Yl l k):=by
 obtain ⟨i0,hi,hz0,hz1,hz2⟩:=info_parts Qhc;obtain ⟨T,cap,rfl,hT,hcap,hmax,_⟩:=hL;have hmx : l.length ≤ 9223372036854775807:=Nat.le_trans hcap (Nat.le_trans hmax zD);have N1:=fun w h => Kz T l.length cap (Qz l) w h hcap hmx
 obtain ⟨q,hq⟩:=Qf (Jo (Qz l) l.length);simp only [← hq] at N1;replace hq:=zh hq;clear hmax hcap hmx
 go_enter Tryz.func69,Tryz.ntmps69
 by_cases e0 : q = 0;rotate_left
 ·have g0 : (q == 0) = false := zb e0;have g0n : (q != 0) = true := by rw [bne, g0]; rfl
  have HS:=zh (Qk8 (k:=k) hq.out.symm e0);clear e0 hq hk1 hk2;go_wp2_with (go_at_call 68;refine zc (N1 _ hT) ?_;rintro e w1 ⟨rfl,h1⟩);go_ret2;exact ⟨none,0,0,by rw [HS.out.1];rfl,h1,by rw [HS.out.2];exact Jn _⟩
 subst e0;have bf:=zh (Qid hq.out.symm);obtain ⟨n64,_⟩:=Gi hq.out.symm;by_cases k0 : k = 0
 ·subst k0;have HS:=zh (Qk9 (l:=l) hq.out.symm);clear hq bf hk1 hk2;go_wp2_with (go_at_call 68;refine zc (N1 _ hT) ?_;rintro e w1 ⟨rfl,h1⟩);go_ret2;exact ⟨none,0,0,by rw [HS.out.1];rfl,h1,by rw [HS.out.2];exact Jn _⟩
 have gk : (k == 0) = false:=zb k0;go_upto_region 8 with (go_at_call 68;refine zc (N1 _ hT) ?_;rintro e w1 ⟨rfl,h1⟩)
 clear N1;have hall0 : Hid (∀ j,j < 0 → Ud k (Qz l j) = false):=fun j h => absurd h Qb
 go_loopw [7,21] (fun ov iv wr => ∃ i : Nat,i ≤ l.length ∧ iv = .int .i64 i ∧ Qc w1 wr ∧ wr.ownsRow w1.heap.size 85 2 ov i (((l.take i).map (Ko k)).flatMap Jj) ∧ Hid (∀ j,j < i → Ud k (Qz l j) = false)) (fun _ iv _ => l.length - (intOf iv).toNat)
 case atStart => exact ⟨0,Nat.zero_le _,rfl,Qc.refl _,World.ownsRow_nil _ _ _ _,hall0⟩
 case round =>
  clear hall0;obtain ⟨i,hi1,rfl,hE,hO,hall⟩:=hrel;obtain ⟨wo,rfl⟩:=Qf wr;by_cases hlt : i < l.length;rotate_left
  ·obtain rfl : i = l.length := Qb;have HS := zh (Qk7 hq.out.symm k0 hall.out);clear hq bf hall;obtain ⟨F5, m5, rfl⟩ := Z9 hO;have hL5 := Wi hO;have hl5 : ((l.take l.length).map (Ko k)).length = l.length := by simp
   go_wp2;go_ret2;exact ⟨F5,_,m5,by rw [HS.out.1];rfl,h1.trans hE,by rw [HS.out.2];simpa using hL5⟩
  obtain ⟨b,off,rfl,hb,hc⟩:=((hT.ext h1).ext hE) Qb;have c0 : wo.cell? ⟨b,off + i * 2,none⟩ = some (.string (Qz l i).g):=by simpa using hc i 0 _ hlt rfl
  have c1 : wo.cell? ⟨b,off + i * 2 + 1,none⟩ = some (.int .i64 (Qz l i).n):=hc i 1 _ hlt rfl;clear hc;have ht:=zh (Qls l k hlt);obtain ⟨xz,xu,xd⟩:=bf.out i hlt;have hbd:=zh (fun h => scl_bd (k:=k) (x:=Qz l i) xz h);have hbad:=zh (fun h => Qk6 hq.out.symm k0 hlt h);obtain ⟨X,hX0⟩:=Qf (Qz l i);rw [← hX0] at c0 c1 ht xz xu xd hbd hbad;have hX:=zh hX0;clear hX0;obtain ⟨s,xn⟩:=X
  simp only at c0 c1 xz xu xd
  have v0 : IntKind.i64.wrap (-xn) = -xn:=Zr Qb Qb;have a0:=Dd xz;have aU:=abs_le xu xd;have hB0 : Ud k ⟨s,xn⟩ = decide (1099511627776 / J3 xn < J3 k):=rfl;have hbk:=zh hB0;clear hB0 xz xu xd;have vm : max xn (-xn) = J3 xn:=rfl;obtain ⟨a,ha⟩:=Qf (J3 xn);rw [← ha] at vm a0 aU hbk;clear ha;have z1 : (a == 0) = false:=zb Qb;have z2 : a ≠ 0:=Qb;have m0 : 0 ≤ 1099511627776 / a:=Int.ediv_nonneg zD Qb;have m1 : 1099511627776 / a ≤ 1099511627776:=Int.ediv_le_self _ zD
  have vq : IntKind.i64.wrap ((1099511627776 : Int).tdiv a) = 1099511627776 / a:=by
   rw [Int.tdiv_eq_ediv_of_nonneg zD];exact Zr Qb Qb
  generalize 1099511627776 / a = M at *;clear a0 aU;go_upto_region 10 with fail
  obtain ⟨v3,hv⟩:=Qf (wo.alloc (.cells #[.string s,.int .i64 xn] 85));rw [← hv];have h3 : Qc wo v3:=by rw [hv];exact (Qc.refl _).alloc _
  have H9 : Qa v3 wo.heap.size 85 #[.string s,.int .i64 xn]:=by rw [hv];exact Qa.new _ _ _
  clear hv;generalize wo.heap.size = b9 at *;replace hE:=hE.trans h3;replace hO:=Q1 hO h3;clear h3 c0 c1 hb;obtain ⟨x0,x1,xl⟩:=Qa.d2 H9;by_cases g : M < k
  ·have g1 : decide (M < k) = true:=zt g;have HS:=zh (hbad.out (by rw [hbk.out];exact zt (by unfold J3;omega)));clear hbad hbd hbk hq bf hall ht hX;go_wp2;go_ret2;exact ⟨none,0,0,by rw [HS.out.1];rfl,h1.trans hE,by rw [HS.out.2];exact Jn _⟩
  have g1 : decide (M < k) = false:=zf g;have vM : IntKind.i64.wrap (-M) = -M:=Zr Qb Qb;by_cases g' : k < -M
  ·have g2 : decide (k < -M) = true:=zt g';have HS:=zh (hbad.out (by rw [hbk.out];exact zt (by unfold J3;omega)));clear hbad hbd hbk hq bf hall ht hX;go_wp2;go_ret2;exact ⟨none,0,0,by rw [HS.out.1];rfl,h1.trans hE,by rw [HS.out.2];exact Jn _⟩
  have g2 : decide (k < -M) = false:=zf g';have nb : Ud k ⟨s,xn⟩ = false:=by rw [hbk.out];exact zf (by unfold J3;omega)
  obtain ⟨_,p1,p2⟩:=hbd.out nb;have vp : IntKind.i64.wrap (xn * k) = xn * k:=by exact Zr (by simpa using Int.le_trans zD p1) (by simpa using Int.le_trans p2 zD)
  have hall2 : Hid (∀ j,j < i + 1 → Ud k (Qz l j) = false):=fun j hj => by
   by_cases e : j = i
   ·subst e;rw [← hX.out];exact nb
   ·exact hall.out j Qb
  clear nb p1 p2 hbad hbd hbk bf hall hX;obtain ⟨F5,m5,rfl⟩:=Z9 hO;go_upto_region 15 with (at_builtin;refine wpList_append_own_at _ rfl _ _ 52 rfl w1.heap.size 85 i0 (.agg #[.string ⟨#[]⟩,.int .i64 0]) 2 24 Tryz.underlying52 hi hz0 hz1 hz2 rfl zD _ _ _ rfl (hO.alloc _) ⟨v3.heap.size,0,none⟩ 1 1 [.string s,.int .i64 (xn * k)] rfl rfl (Ls _ _ _) (Qd9 _ _) (by unfold maxLen;omega) Qb (by have:=hE.size;simp;omega) ?_;intro o' w5 hown hgrow _ _)
  have E5 : Qc w1 w5:=(hE.alloc _).grown hgrow (fun q hq => (hO.lt q hq).1);rw [show (((l.take i).map (Ko k)).flatMap Jj ++ [Value.string s,.int .i64 (xn * k)]) = ((l.take (i + 1)).map (Ko k)).flatMap Jj by rw [ht.out];exact Qh1 _ _ _] at hown;clear hgrow hO hE ht;go_wp2;exact ⟨⟨i + 1,Qb,by go_num,E5,hown,hall2⟩,zi⟩
def Rt.neg (r : Rt) : Rt:=⟨-r.n,r.d⟩
section
variable {W : World} {b : Nat} {t : TypeId} {v0 v1 v2 : Value}
end
end
section
open Go Go.RowKit
attribute [local go_sem] Zu
def Qt (y : Yr) (k : Nat) : Int:=y.lens (y.mos.take k)
end
section
open Go Go.RowKit Go.Shelf
attribute [local go_sem] Zu Dt.val
theorem Nq {W : World} {b : Nat} {t : TypeId} {v0 v1 v2 v3 : Value} (h : Qa W b t #[v0,v1,v2,v3]) (u0 u1 u2 u3 : Value) :
  ((((((W.setCell ⟨b,0,none⟩ u0).setCell ⟨b,1,none⟩ u1).setCell ⟨b,2,none⟩ u2).setCell ⟨b,3,none⟩ u3).cell? ⟨b,0,none⟩ = some u0) ∧ (((((W.setCell ⟨b,0,none⟩ u0).setCell ⟨b,1,none⟩ u1).setCell ⟨b,2,none⟩ u2).setCell ⟨b,3,none⟩ u3).cell? ⟨b,1,none⟩ = some u1) ∧
   (((((W.setCell ⟨b,0,none⟩ u0).setCell ⟨b,1,none⟩ u1).setCell ⟨b,2,none⟩ u2).setCell ⟨b,3,none⟩ u3).cell? ⟨b,2,none⟩ = some u2) ∧ (((((W.setCell ⟨b,0,none⟩ u0).setCell ⟨b,1,none⟩ u1).setCell ⟨b,2,none⟩ u2).setCell ⟨b,3,none⟩ u3).cell? ⟨b,3,none⟩ = some u3)) ∧
  ∀ wd,Qc wd W → wd.heap.size ≤ b → Qc wd ((((W.setCell ⟨b,0,none⟩ u0).setCell ⟨b,1,none⟩ u1).setCell ⟨b,2,none⟩ u2).setCell ⟨b,3,none⟩ u3) :=
 ⟨(Ap h u0 u1 u2 u3).c4,fun _ e h1 => (((e.setCell h1 _).setCell h1 _).setCell h1 _).setCell h1 _⟩
set_option maxHeartbeats 2000000 in
theorem Qc1 (A A' : OA) (ca cb : Nat) (c : Qd) (d : Dt) (n : Int) (w : World) (hC : Q3 w A ca A' cb c) :
  Calls Tryz.prog 76 #[.agg #[.slice A c.nk ca,.slice A' c.ny cb],.agg #[.int .i64 d.y,.int .i64 d.m,.bool d.s,.int .i64 d.d],.int .i64 n] w fun e w' => e = .returned (.tuple #[(c.addV d n).val,.int .i64 (c.addE d n)]) ∧ Qc w w':=by
 rcases Aq c d with ⟨hv,hE⟩ | ⟨hv,hh,hE⟩ | ⟨hv,hh,hE⟩
 ·have HE := zh hE;have HV : Hid (c.addV d n = Ve) := by unfold Hid Qd.addV; rw [hE]; rfl
  have HR : Hid (c.addE d n = 70):=by unfold Hid Qd.addE;rw [hE];rfl
  clear hE hv
  go_enter Tryz.func76,Tryz.ntmps76
  go_wp2_with (go_at_call 94;refine (Ui _ _ _ _ c _ 1 1 (fun _ => d) _ (hC.ext Qq) (Kn (t:=51) Je) Qb).mono ?_;rw [Kb,HE.out];rintro e wq ⟨rfl,hq⟩;have hrb:=(Qa.ext (b:=w.heap.size + 1 + 1) (t:=51) (cs:=#[.int .i64 0,.int .i64 0,.bool false,.int .i64 0]) Je hq);obtain ⟨r0,r1,r2,r3⟩:=hrb.c4;have f0:=hrb.frozen 0;have f1:=hrb.frozen 1;have f2:=hrb.frozen 2;have f3:=hrb.frozen 3);obtain ⟨⟨c0,c1,c2,c3⟩,gE⟩:=Nq hrb (.int .i64 0) (.int .i64 0) (.bool false) (.int .i64 0);refine bodyPost_ret (v:=.tuple #[.agg #[.int .i64 0,.int .i64 0,.bool false,.int .i64 0],.int .i64 70]) (by simp [results,Tryz.results76,go_sem,c0,c1,c2,c3]) rfl ⟨by rw [HV.out,HR.out];rfl,gE w Qq Qb⟩
 ·have HE := zh hE;have HV : Hid (c.addV d n = Ve) := by unfold Hid Qd.addV; rw [hE]; rfl
  have HR : Hid (c.addE d n = 71):=by unfold Hid Qd.addE;rw [hE];rfl
  clear hE hv
  go_enter Tryz.func76,Tryz.ntmps76
  go_wp2_with (go_at_call 94;refine (Ui _ _ _ _ c _ 1 1 (fun _ => d) _ (hC.ext Qq) (Kn (t:=51) Je) Qb).mono ?_;rw [Kb,HE.out];rintro e wq ⟨rfl,hq⟩;have hrb:=(Qa.ext (b:=w.heap.size + 1 + 1) (t:=51) (cs:=#[.int .i64 0,.int .i64 0,.bool false,.int .i64 0]) Je hq);obtain ⟨r0,r1,r2,r3⟩:=hrb.c4;have f0:=hrb.frozen 0;have f1:=hrb.frozen 1;have f2:=hrb.frozen 2;have f3:=hrb.frozen 3);obtain ⟨⟨c0,c1,c2,c3⟩,gE⟩:=Nq hrb (.int .i64 0) (.int .i64 0) (.bool false) (.int .i64 0);refine bodyPost_ret (v:=.tuple #[.agg #[.int .i64 0,.int .i64 0,.bool false,.int .i64 0],.int .i64 71]) (by simp [results,Tryz.results76,go_sem,c0,c1,c2,c3]) rfl ⟨by rw [HV.out,HR.out];rfl,gE w Qq Qb⟩
 ·have HE:=zh hE;by_cases hr : 156000 < n ∨ n < -156000
  ·have hno := Qc2 hh (Fp hv) hr;have HV : Hid (c.addV d n = Ve) := by unfold Hid Qd.addV; rw [hE, hno]; rfl
   have HR : Hid (c.addE d n = 8):=by unfold Hid Qd.addE;rw [hE,hno];rfl
   clear hE hv hh hno;by_cases h1 : 156000 < n
   ·have hb : decide (156000 < n) = true:=zt h1;clear hr
    go_enter Tryz.func76,Tryz.ntmps76
    go_wp2_with (go_at_call 94;refine (Ui _ _ _ _ c _ 1 1 (fun _ => d) _ (hC.ext Qq) (Kn (t:=51) Je) Qb).mono ?_;rw [Kb,HE.out];rintro e wq ⟨rfl,hq⟩;have hrb:=(Qa.ext (b:=w.heap.size + 1 + 1) (t:=51) (cs:=#[.int .i64 0,.int .i64 0,.bool false,.int .i64 0]) Je hq);obtain ⟨r0,r1,r2,r3⟩:=hrb.c4;have f0:=hrb.frozen 0;have f1:=hrb.frozen 1;have f2:=hrb.frozen 2;have f3:=hrb.frozen 3);obtain ⟨⟨c0,c1,c2,c3⟩,gE⟩:=Nq hrb (.int .i64 0) (.int .i64 0) (.bool false) (.int .i64 0);refine bodyPost_ret (v:=.tuple #[.agg #[.int .i64 0,.int .i64 0,.bool false,.int .i64 0],.int .i64 8]) (by simp [results,Tryz.results76,go_sem,c0,c1,c2,c3]) rfl ⟨by rw [HV.out,HR.out];rfl,gE w Qq Qb⟩
   ·have hb : decide (156000 < n) = false:=zf h1;have hb2 : decide (n < -156000) = true:=zt Qb;clear hr h1
    go_enter Tryz.func76,Tryz.ntmps76
    go_wp2_with (go_at_call 94;refine (Ui _ _ _ _ c _ 1 1 (fun _ => d) _ (hC.ext Qq) (Kn (t:=51) Je) Qb).mono ?_;rw [Kb,HE.out];rintro e wq ⟨rfl,hq⟩;have hrb:=(Qa.ext (b:=w.heap.size + 1 + 1) (t:=51) (cs:=#[.int .i64 0,.int .i64 0,.bool false,.int .i64 0]) Je hq);obtain ⟨r0,r1,r2,r3⟩:=hrb.c4;have f0:=hrb.frozen 0;have f1:=hrb.frozen 1;have f2:=hrb.frozen 2;have f3:=hrb.frozen 3);obtain ⟨⟨c0,c1,c2,c3⟩,gE⟩:=Nq hrb (.int .i64 0) (.int .i64 0) (.bool false) (.int .i64 0);refine bodyPost_ret (v:=.tuple #[.agg #[.int .i64 0,.int .i64 0,.bool false,.int .i64 0],.int .i64 8]) (by simp [results,Tryz.results76,go_sem,c0,c1,c2,c3]) rfl ⟨by rw [HV.out,HR.out];rfl,gE w Qq Qb⟩
  ·have h1 : n ≤ 156000 := Qb;have h2 : -156000 ≤ n := Qb;have hb : decide (156000 < n) = false := zf Qb;have hb2 : decide (n < -156000) = false := zf Qb;have HL := zh (Ox hv);have hny := Fp hv;have HY := zh hny;have hnm := Sz hh;have hda := Lw c c.ny;obtain ⟨hn1, hn2⟩ := hnm;have hn3 : (c.num d).1 ≤ 156000 := Qb;have HD := zh (Hu hh);have HV : Hid (c.addV d n = (c.at? ((c.num d).1 + n)).getD Ve) := by unfold Hid Qd.addV; rw [hE]; rfl
   have HR : Hid (c.addE d n = atOk (c.at? ((c.num d).1 + n))):=by unfold Hid Qd.addE;rw [hE];rfl
   clear hE hv hh hr hn2 hda
   go_enter Tryz.func76,Tryz.ntmps76
   go_wp2_with (go_at_call 94;refine (Ui _ _ _ _ c _ 1 1 (fun _ => d) _ (hC.ext Qq) (Kn (t:=51) Je) Qb).mono ?_;rw [Kb,HE.out];rintro e wq ⟨rfl,hq⟩;have hcb:=(Qa.ext (b:=w.heap.size) (t:=25) (cs:=#[.slice A c.nk ca,.slice A' c.ny cb]) Je hq);obtain ⟨k0,k1⟩:=hcb.c2;obtain ⟨e0,e1,e2,e3⟩:=(Qa.ext (b:=w.heap.size + 1) (t:=51) (cs:=#[.int .i64 d.y,.int .i64 d.m,.bool d.s,.int .i64 d.d]) Je hq).c4;have hrb:=(Qa.ext (b:=w.heap.size + 1 + 1) (t:=51) (cs:=#[.int .i64 0,.int .i64 0,.bool false,.int .i64 0]) Je hq);obtain ⟨r0,r1,r2,r3⟩:=hrb.c4;have f0:=hrb.frozen 0;have f1:=hrb.frozen 1;have f2:=hrb.frozen 2;have f3:=hrb.frozen 3)
   refine (Gr _ _ _ _ c d _ (hC.ext Qq) HL.out HY.out HD.out).mono ?_;rintro e wn ⟨rfl,hn⟩;obtain ⟨k0,k1⟩:=(hcb.ext hn).c2;generalize (c.num d).1 = nn at *;go_wp2_with (fail);refine (at_any _ _ _ _ c (nn + n) _ (hC.ext Qq) HL.out HY.out Qb Qb).mono ?_;rintro e wm ⟨rfl,hm⟩;clear r0 r1 r2 r3 f0 f1 f2 f3;have hrb:=(hrb.ext hn).ext hm;obtain ⟨r0,r1,r2,r3⟩:=hrb.c4;have f0:=hrb.frozen 0;have f1:=hrb.frozen 1;have f2:=hrb.frozen 2;have f3:=hrb.frozen 3;generalize (c.at? (nn + n)).getD Ve = dd at *;generalize atOk (c.at? (nn + n)) = ee at *;go_wp2;obtain ⟨⟨c0,c1,c2,c3⟩,gE⟩:=Nq hrb (.int .i64 dd.y) (.int .i64 dd.m) (.bool dd.s) (.int .i64 dd.d);refine bodyPost_ret (v:=.tuple #[.agg #[.int .i64 dd.y,.int .i64 dd.m,.bool dd.s,.int .i64 dd.d],.int .i64 ee]) (by simp [results,Tryz.results76,go_sem,c0,c1,c2,c3]) rfl ⟨by rw [HV.out,HR.out];rfl,gE w Qq Qb⟩
end
section
open Go Go.RowKit
attribute [local go_sem] Zu
end
section
open Go Go.RowKit Go.Shelf
attribute [local go_sem] Zu
end
section
open Go Go.RowKit Go.Shelf
attribute [local go_sem] Zu
attribute [local go_sem high] Sx
end
end Go.Proofs.YtoflcheopfppoaaGreatDoor
