/- Walks and plain facts, packed; no conditions but those that each states. -/
import Derived.Test.YtoflcheopfppoaaGreatDoorK10
import Derived.LaidSub
set_option maxRecDepth 100000
set_option maxHeartbeats 4000000
namespace Go.Proofs.YtoflcheopfppoaaGreatDoor
section
open Go Go.RowKit Go.Shelf
attribute [local go_sem] Z8
def Uh (h : Y3) : Nat → Bool
 | 0 => true
 | 1 => true && (decide (0 ≤ h.e) && decide (h.e ≤ 1048576))
 | 2 => (true && (decide (0 ≤ h.e) && decide (h.e ≤ 1048576))) && (decide (0 ≤ h.r) && decide (h.r ≤ 1048576))
 | _ => ((true && (decide (0 ≤ h.e) && decide (h.e ≤ 1048576))) && (decide (0 ≤ h.r) && decide (h.r ≤ 1048576))) && (decide (0 ≤ h.l) && decide (h.l ≤ 1048576))
section
variable {W w : World} {b : Nat} {t : TypeId} {v0 v1 v2 : Value}
theorem I9 (h : Qb W b t #[v0,v1,v2]) (u : Value) : Qb (W.setCell ⟨b,0,none⟩ u) b t #[u,v1,v2]:=by unfold Qb at h ⊢;simp [World.setCell,Array.getElem?_modify,h]
theorem Qaa (h : Qb W b t #[v0,v1,v2]) (u : Value) : Qb (W.setCell ⟨b,1,none⟩ u) b t #[v0,u,v2]:=by unfold Qb at h ⊢;simp [World.setCell,Array.getElem?_modify,h]
theorem Qab (h : Qb W b t #[v0,v1,v2]) (u : Value) : Qb (W.setCell ⟨b,2,none⟩ u) b t #[v0,v1,u]:=by unfold Qb at h ⊢;simp [World.setCell,Array.getElem?_modify,h]
theorem Lk (h : Qb W b t #[v0,v1,v2]) (u0 u1 u2 : Value) : Qb (((W.setCell ⟨b,0,none⟩ u0).setCell ⟨b,1,none⟩ u1).setCell ⟨b,2,none⟩ u2) b t #[u0,u1,u2]:=by unfold Qb at h ⊢;simp [World.setCell,Array.getElem?_modify,h]
theorem Lg (h : Qc w W) (hb : w.heap.size ≤ b) (u0 u1 u2 : Value) : Qc w (((W.setCell ⟨b,0,none⟩ u0).setCell ⟨b,1,none⟩ u1).setCell ⟨b,2,none⟩ u2):=((h.setCell (p:=⟨b,0,none⟩) hb u0).setCell (p:=⟨b,1,none⟩) hb u1).setCell (p:=⟨b,2,none⟩) hb u2
end
def stJ (d : Rt) (g : Y3) : Nat → Y3
 | 0 => g
 | 1 => ⟨Zn g.e d,g.r,g.l⟩
 | 2 => ⟨Zn g.e d,Zn g.r d,g.l⟩
 | _ => ⟨Zn g.e d,Zn g.r d,Zn g.l d⟩
theorem Qlx (h : Y3) : Uh h 3 = h.ok:=rfl
theorem Qi7 (h : Y3) (w : World) :
  Calls Tryz.prog 93 #[.agg #[.int .i64 h.e,.int .i64 h.r,.int .i64 h.l]] w fun e w' => e = .returned (.bool h.ok) ∧ Qc w w':=by
 rw [show h.ok = Uh h 3 from (Qlx h).symm];have hix0 : ∀ w,(Instr.index 225 (.agg #[.int .i64 h.e,.int .i64 h.r,.int .i64 h.l]) (.int .i64 0)).run Tryz.prog w = .ok (.int .i64 h.e) w:=fun w => by kernel_rfl
 have hix1 : ∀ w,(Instr.index 225 (.agg #[.int .i64 h.e,.int .i64 h.r,.int .i64 h.l]) (.int .i64 1)).run Tryz.prog w = .ok (.int .i64 h.r) w:=fun w => by kernel_rfl
 have hix2 : ∀ w,(Instr.index 225 (.agg #[.int .i64 h.e,.int .i64 h.r,.int .i64 h.l]) (.int .i64 2)).run Tryz.prog w = .ok (.int .i64 h.l) w:=fun w => by kernel_rfl
 go_enter Tryz.func93,Tryz.ntmps93
 go_upto_region 1 with fail
 obtain ⟨v,b1,E,B1,hbr,hv,hb1⟩:=J4 w 116 #[.int .i64 h.e,.int .i64 h.r,.int .i64 h.l];rw [← hv,← hb1];clear hv hb1;obtain ⟨k0,k1,k2,lk⟩:=Qb.d3 B1;go_upto_region 3 with fail
 go_loopw [3,13] (fun ov iv wr => ∃ k : Nat,k ≤ 3 ∧ iv = .int .i64 (k : Int) ∧ ov = .bool (Uh h k) ∧ Qc w wr) (fun _ iv _ => 3 - (intOf iv).toNat)
 case atStart => exact ⟨0,by decide,rfl,rfl,E⟩
 case round =>
  clear E k0 k1 k2 lk B1;obtain ⟨k,hk,rfl,rfl,hE⟩:=hrel;obtain ⟨wo,rfl⟩:=Qe wr;by_cases hlt : k < 3
  ·have h3 : k = 0 ∨ k = 1 ∨ k = 2:=Qa;rcases h3 with rfl | rfl | rfl
   ·skip
    have hh : Hid (Uh h 1 = (Uh h 0 && (decide (0 ≤ h.e) && decide (h.e ≤ 1048576)))):=rfl;cases hq : Uh h 0
    ·rw [hq] at hh;go_wp2;exact ⟨⟨1,by decide,rfl,by rw [hh.out];rfl,hE⟩,by simp [intOf]⟩
    ·rw [hq] at hh;by_cases h1 : 0 ≤ h.e
     ·have g1 : decide (0 ≤ h.e) = true:=zt h1;by_cases h2 : h.e ≤ 1048576
      ·have g2 : decide (h.e ≤ 1048576) = true:=zt h2;go_wp2;exact ⟨⟨1,by decide,rfl,by rw [hh.out,g1,g2];rfl,hE⟩,by simp [intOf]⟩
      ·have g2 : decide (h.e ≤ 1048576) = false:=zf h2;go_wp2;exact ⟨⟨1,by decide,rfl,by rw [hh.out,g1,g2];rfl,hE⟩,by simp [intOf]⟩
     ·have g1 : decide (0 ≤ h.e) = false:=zf h1;go_wp2;exact ⟨⟨1,by decide,rfl,by rw [hh.out,g1];rfl,hE⟩,by simp [intOf]⟩
   ·skip
    have hh : Hid (Uh h 2 = (Uh h 1 && (decide (0 ≤ h.r) && decide (h.r ≤ 1048576)))):=rfl;cases hq : Uh h 1
    ·rw [hq] at hh;go_wp2;exact ⟨⟨2,by decide,rfl,by rw [hh.out];rfl,hE⟩,by simp [intOf]⟩
    ·rw [hq] at hh;by_cases h1 : 0 ≤ h.r
     ·have g1 : decide (0 ≤ h.r) = true:=zt h1;by_cases h2 : h.r ≤ 1048576
      ·have g2 : decide (h.r ≤ 1048576) = true:=zt h2;go_wp2;exact ⟨⟨2,by decide,rfl,by rw [hh.out,g1,g2];rfl,hE⟩,by simp [intOf]⟩
      ·have g2 : decide (h.r ≤ 1048576) = false:=zf h2;go_wp2;exact ⟨⟨2,by decide,rfl,by rw [hh.out,g1,g2];rfl,hE⟩,by simp [intOf]⟩
     ·have g1 : decide (0 ≤ h.r) = false:=zf h1;go_wp2;exact ⟨⟨2,by decide,rfl,by rw [hh.out,g1];rfl,hE⟩,by simp [intOf]⟩
   ·skip
    have hh : Hid (Uh h 3 = (Uh h 2 && (decide (0 ≤ h.l) && decide (h.l ≤ 1048576)))):=rfl;cases hq : Uh h 2
    ·rw [hq] at hh;go_wp2;exact ⟨⟨3,by decide,rfl,by rw [hh.out];rfl,hE⟩,by simp [intOf]⟩
    ·rw [hq] at hh;by_cases h1 : 0 ≤ h.l
     ·have g1 : decide (0 ≤ h.l) = true:=zt h1;by_cases h2 : h.l ≤ 1048576
      ·have g2 : decide (h.l ≤ 1048576) = true:=zt h2;go_wp2;exact ⟨⟨3,by decide,rfl,by rw [hh.out,g1,g2];rfl,hE⟩,by simp [intOf]⟩
      ·have g2 : decide (h.l ≤ 1048576) = false:=zf h2;go_wp2;exact ⟨⟨3,by decide,rfl,by rw [hh.out,g1,g2];rfl,hE⟩,by simp [intOf]⟩
     ·have g1 : decide (0 ≤ h.l) = false:=zf h1;go_wp2;exact ⟨⟨3,by decide,rfl,by rw [hh.out,g1];rfl,hE⟩,by simp [intOf]⟩
  ·obtain rfl : k = 3:=Qa;go_wp2;go_ret;exact ⟨rfl,hE⟩
theorem Qih (h : Y3) (b d : Rt) (y : Int) (hb : b.In) (hd : d.In) (hy1 : -9223372036854775808 ≤ y) (hy2 : y ≤ 9223372036854775807) (w : World) :
  Calls Tryz.prog 42 #[.agg #[.int .i64 h.e,.int .i64 h.r,.int .i64 h.l],.agg #[.int .i64 b.n,.int .i64 b.d],.agg #[.int .i64 d.n,.int .i64 d.d],.int .i64 y] w fun e w' => e = .returned (.tuple #[.agg #[.int .i64 (Ve h b d y).1.e,.int .i64 (Ve h b d y).1.r,.int .i64 (Ve h b d y).1.l],.int .i64 (Ve h b d y).2]) ∧ Qc w w':=by
 obtain ⟨V,hV0⟩:=Qe (Ve h b d y);rw [← hV0];replace hV0:=zh hV0;have NH:=fun h w => Qi7 h w
 have NB:=fun w => Gc b hb w
 have ND:=fun w => Gc d hd w
 go_enter Tryz.func42,Tryz.ntmps42
 go_upto_region 1 with fail
 obtain ⟨v,b1,b2,b3,b4,E,Hh,Hb,Hd,Hr,hbr1,hbr2,hbr3,hbr,hn21,hn31,hn32,hn41,hn42,hn43,hv,hb1,hb2,hb3,hb4⟩:=Gi w 116 #[.int .i64 h.e,.int .i64 h.r,.int .i64 h.l] 65 #[.int .i64 b.n,.int .i64 b.d] 65 #[.int .i64 d.n,.int .i64 d.d] 116 #[.int .i64 0,.int .i64 0,.int .i64 0];rw [← hv,← hb4,← hb3,← hb2,← hb1];clear hv hb1 hb2 hb3 hb4;have HE:=E;clear E;obtain ⟨k0,k1,k2,lk⟩:=Qb.d3 Hh;obtain ⟨p0,p1,lp⟩:=Qb.d2 Hb;obtain ⟨q0,q1,lq⟩:=Qb.d2 Hd;have K1:=fun u (hu : Qc v u) => (Hb.ext hu).c2
 cases ho : h.ok
 ·have NH1:=fun w => NH h w
  simp only [ho] at NH1;have hr:=hV0.out;unfold Ve at hr;rw [ho,if_neg zD] at hr;subst hr;clear hV0 ho NH K1;go_upto_region 2 with (go_at_call 93;refine zc (NH1 _) ?_;rintro e w1 ⟨rfl,h1⟩)
  replace HE:=HE.trans h1;replace Hr:=Hr.ext h1;obtain ⟨y0,y1,y2,x0,x1,x2,lx⟩:=Qb.e3 Hr;have R3:=Lk Hr (.int .i64 0) (.int .i64 0) (.int .i64 0);have EF:=Lg HE hbr (.int .i64 0) (.int .i64 0) (.int .i64 0);obtain ⟨r0,r1,r2⟩:=R3.c3;go_wp2;refine bodyPost_ret (v:=.tuple #[.agg #[.int .i64 0,.int .i64 0,.int .i64 0],.int .i64 82]) (by simp [results,Tryz.results42,go_sem,r0,r1,r2]) rfl ⟨rfl,EF⟩
 ·have NH1:=fun w => NH h w
  simp only [ho] at NH1;clear K1;have A1 : ∀ u,Qc v u → True:=fun _ _ => trivial
  go_upto_region 3 with (go_at_call 93;refine zc (NH1 _) ?_;rintro e w1 ⟨rfl,h1⟩)
  replace HE:=HE.trans h1;replace Hr:=Hr.ext h1;replace Hh:=Hh.ext h1;replace Hb:=Hb.ext h1;replace Hd:=Hd.ext h1;clear h1 k0 k1 k2 lk p0 p1 lp q0 q1 lq A1 NH1;obtain ⟨p0,p1,lp⟩:=Qb.d2 Hb;obtain ⟨q0,q1,lq⟩:=Qb.d2 Hd;cases hbs : b.shr
  ·simp only [hbs] at NB;have hr:=hV0.out;unfold Ve at hr;rw [ho,hbs,if_pos rfl,Bool.false_and,if_neg zD] at hr;subst hr;clear hV0 ho hbs;go_upto_region 4 with (go_at_call 90;refine zc (NB _) ?_;rintro e w2 ⟨rfl,h2⟩)
   replace HE:=HE.trans h2;replace Hr:=Hr.ext h2;obtain ⟨y0,y1,y2,x0,x1,x2,lx⟩:=Qb.e3 Hr;have R3:=Lk Hr (.int .i64 0) (.int .i64 0) (.int .i64 0);have EF:=Lg HE hbr (.int .i64 0) (.int .i64 0) (.int .i64 0);obtain ⟨r0,r1,r2⟩:=R3.c3;go_wp2;refine bodyPost_ret (v:=.tuple #[.agg #[.int .i64 0,.int .i64 0,.int .i64 0],.int .i64 2]) (by simp [results,Tryz.results42,go_sem,r0,r1,r2]) rfl ⟨rfl,EF⟩
  ·simp only [hbs] at NB;cases hds : d.shr
   ·simp only [hds] at ND;have hr:=hV0.out;unfold Ve at hr;rw [ho,hbs,hds,if_pos rfl,Bool.and_false,if_neg zD] at hr;subst hr;clear hV0 ho hbs hds;go_upto_region 4 with (first | (go_at_call 90;(with_reducible refine zc (NB _) ?_);rintro e w2 ⟨rfl,h2⟩;clear q0 q1 lq;obtain ⟨q0,q1⟩:=(Hd.ext h2).c2;have lq:=(Hd.ext h2).lt) | (go_at_call 90;(with_reducible refine zc (ND _) ?_);rintro e w3 ⟨rfl,h3⟩))
    replace HE:=(HE.trans h2).trans h3;replace Hr:=(Hr.ext h2).ext h3;obtain ⟨y0,y1,y2,x0,x1,x2,lx⟩:=Qb.e3 Hr;have R3:=Lk Hr (.int .i64 0) (.int .i64 0) (.int .i64 0);have EF:=Lg HE hbr (.int .i64 0) (.int .i64 0) (.int .i64 0);obtain ⟨r0,r1,r2⟩:=R3.c3;go_wp2;refine bodyPost_ret (v:=.tuple #[.agg #[.int .i64 0,.int .i64 0,.int .i64 0],.int .i64 2]) (by simp [results,Tryz.results42,go_sem,r0,r1,r2]) rfl ⟨rfl,EF⟩
   ·simp only [hds] at ND
    have hV1 : Hid (V = if y < 0 ∨ 40 < y then (Mr,8) else Mj b d y.toNat h):=by
     unfold Hid;rw [hV0.out];unfold Ve;rw [ho,hbs,hds,if_pos rfl,Bool.and_self,if_pos rfl]
    clear hV0;go_upto_region 5 with (first | (go_at_call 90;(with_reducible refine zc (NB _) ?_);rintro e w2 ⟨rfl,h2⟩;clear q0 q1 lq;obtain ⟨q0,q1⟩:=(Hd.ext h2).c2;have lq:=(Hd.ext h2).lt) | (go_at_call 90;(with_reducible refine zc (ND _) ?_);rintro e w3 ⟨rfl,h3⟩))
    replace HE:=(HE.trans h2).trans h3;replace Hr:=(Hr.ext h2).ext h3;replace Hh:=(Hh.ext h2).ext h3;replace Hb:=(Hb.ext h2).ext h3;replace Hd:=(Hd.ext h2).ext h3;clear h2 h3 p0 p1 lp q0 q1 lq NB ND;by_cases y0 : y < 0
    ·have gy : decide (y < 0) = true:=zt y0;have hr:=hV1.out;rw [if_pos (.inl y0)] at hr;subst hr;clear hV1 y0;obtain ⟨y0,y1,y2,x0,x1,x2,lx⟩:=Qb.e3 Hr;have R3:=Lk Hr (.int .i64 0) (.int .i64 0) (.int .i64 0);have EF:=Lg HE hbr (.int .i64 0) (.int .i64 0) (.int .i64 0);obtain ⟨r0,r1,r2⟩:=R3.c3;go_wp2;refine bodyPost_ret (v:=.tuple #[.agg #[.int .i64 0,.int .i64 0,.int .i64 0],.int .i64 8]) (by simp [results,Tryz.results42,go_sem,r0,r1,r2]) rfl ⟨rfl,EF⟩
    ·have gy : decide (y < 0) = false:=zf y0;by_cases y1 : 40 < y
     ·have gy1 : decide (40 < y) = true:=zt y1;have hr:=hV1.out;rw [if_pos (.inr y1)] at hr;subst hr;clear hV1 y0 y1;obtain ⟨y0,y1,y2,x0,x1,x2,lx⟩:=Qb.e3 Hr;have R3:=Lk Hr (.int .i64 0) (.int .i64 0) (.int .i64 0);have EF:=Lg HE hbr (.int .i64 0) (.int .i64 0) (.int .i64 0);obtain ⟨r0,r1,r2⟩:=R3.c3;go_wp2;refine bodyPost_ret (v:=.tuple #[.agg #[.int .i64 0,.int .i64 0,.int .i64 0],.int .i64 8]) (by simp [results,Tryz.results42,go_sem,r0,r1,r2]) rfl ⟨rfl,EF⟩
     ·have gy1 : decide (40 < y) = false:=zf y1;obtain ⟨n,rfl⟩ : ∃ n : Nat,y = (n : Int):=⟨y.toNat,Qa⟩
      have hV2 : Hid (V = Mj b d n h):=by
       have:=hV1.out;rw [if_neg Qa,Int.toNat_natCast] at this;exact this
      clear hV1 hb hd;replace ho:=zh ho;replace hbs:=zh hbs;replace hds:=zh hds;go_upto_region 8 with fail
      go_loopw [34] (fun iv wr => ∃ k : Nat,k ≤ n ∧ iv = .int .i64 (k : Int) ∧ ∃ g : Y3,Hid (g.ok = true) ∧ Qc w wr ∧ Qb wr b1 116 #[.int .i64 g.e,.int .i64 g.r,.int .i64 g.l] ∧ Qb wr b2 65 #[.int .i64 b.n,.int .i64 b.d] ∧ Qb wr b3 65 #[.int .i64 d.n,.int .i64 d.d] ∧ Qb wr b4 116 #[.int .i64 0,.int .i64 0,.int .i64 0] ∧ Hid (V = Mj b d (n - k) g)) (fun iv _ => n - (intOf iv).toNat)
      case atStart => exact ⟨0,Nat.zero_le _,rfl,h,ho,HE,Hh,Hb,Hd,Hr,hV2.out⟩
      case round =>
       clear HE Hh Hb Hd Hr hV2 ho;obtain ⟨k,hk,rfl,g,hg,HE,Hh,Hb,Hd,Hr,hV⟩:=hrel;obtain ⟨wo,rfl⟩:=Qe wr;by_cases hlt : k < n
       ·obtain ⟨m, hm⟩ : ∃ m, n - k = m + 1 := ⟨n - k - 1, Qa⟩;have hm2 : n - (k + 1) = m := Qa;have hV' : Hid (V = if (Mk b d g).ok then Mj b d m (Mk b d g) else (Mr, 6)) := by unfold Hid; rw [hV.out, hm]; rfl
        clear hV hm;have hgo:=hg.out;simp only [Y3.ok,Bool.and_eq_true] at hgo;obtain ⟨g01,g02⟩:=P9.1 hgo.1.1;obtain ⟨g11,g12⟩:=P9.1 hgo.1.2;obtain ⟨g21,g22⟩:=P9.1 hgo.2;clear hgo;have hds:=hds.out;have hdd:=(Bf hds);go_upto_region 10 with fail
        obtain ⟨v4,hv⟩:=Qe (wo.alloc (.cells #[.pointer (some ⟨b1,0,none⟩),.pointer (some ⟨b1,1,none⟩),.pointer (some ⟨b1,2,none⟩)] 180));rw [← hv];have E4 : Qc wo v4:=by rw [hv];exact (Qc.refl _).alloc _
        have Hp : Qb v4 wo.heap.size 180 #[.pointer (some ⟨b1,0,none⟩),.pointer (some ⟨b1,1,none⟩),.pointer (some ⟨b1,2,none⟩)]:=by rw [hv];exact Qb.new _ _ _
        clear hv;have hlh:=Hh.lt;obtain ⟨bp,hbp⟩:=Qe (wo.heap.size);rw [← hbp] at Hp ⊢;have hp1 : bp ≠ b1:=Qa;clear hbp hlh;replace HE:=HE.trans E4;replace Hh:=Hh.ext E4;replace Hb:=Hb.ext E4;replace Hd:=Hd.ext E4;replace Hr:=Hr.ext E4;clear E4
        go_loopw [41] (fun jv wr => ∃ j : Nat,j ≤ 3 ∧ jv = .int .i64 (j : Int) ∧ Qc w wr ∧ Qb wr b1 116 #[.int .i64 (stJ d g j).e,.int .i64 (stJ d g j).r,.int .i64 (stJ d g j).l] ∧ Qb wr b2 65 #[.int .i64 b.n,.int .i64 b.d] ∧ Qb wr b3 65 #[.int .i64 d.n,.int .i64 d.d] ∧ Qb wr bp 180 #[.pointer (some ⟨b1,0,none⟩),.pointer (some ⟨b1,1,none⟩),.pointer (some ⟨b1,2,none⟩)] ∧ Qb wr b4 116 #[.int .i64 0,.int .i64 0,.int .i64 0]) (fun jv _ => 3 - (intOf jv).toNat)
        case atStart => exact ⟨0,by decide,rfl,HE,Hh,Hb,Hd,Hp,Hr⟩
        case round =>
         clear HE Hh Hb Hd Hp Hr;obtain ⟨j,hj,rfl,HE,Hh,Hb,Hd,Hp,Hr⟩:=hrel;obtain ⟨wi,rfl⟩:=Qe wr;by_cases hlt3 : j < 3
         ·have h3 : j = 0 ∨ j = 1 ∨ j = 2:=Qa;rcases h3 with rfl | rfl | rfl
          ·have Hh : Qb wi b1 116 #[.int .i64 (g.e),.int .i64 (g.r),.int .i64 (g.l)]:=Hh;have pb:=Hu hds g01 g02;have v1 : IntKind.i64.wrap (d.n * g.e) = d.n * g.e:=Z6 Qa Qa
           have v2 : IntKind.i64.wrap ((d.n * g.e).tdiv d.d) = d.n * g.e / d.d:=by
            rw [Int.tdiv_eq_ediv_of_nonneg pb.1];exact Z6 Qa Qa
           have v3 : IntKind.i64.wrap (g.e - d.n * g.e / d.d) = Zn g.e d:=by
            unfold Zn;exact Z6 Qa Qa
           clear pb;obtain ⟨s0,s1,s2,ls⟩:=Qb.d3 Hp;go_upto_region 12 with fail
           clear s0 s1 s2 ls;refine Zc 15 [14] (fun x => Qb x b1 116 #[.int .i64 (g.e),.int .i64 (g.r),.int .i64 (g.l)] ∧ Qb x b3 65 #[.int .i64 d.n,.int .i64 d.d]) mixed rfl ?_;intro vz hvz;replace HE:=HE.trans hvz;replace Hh:=Hh.ext hvz;replace Hd:=Hd.ext hvz;replace Hb:=Hb.ext hvz;replace Hp:=Hp.ext hvz;replace Hr:=Hr.ext hvz;clear hvz;refine Qs (g:=1) [0,1,2,3,4,5,6,7,8,9,10,11,12,13] ⟨Hh,Hd⟩ ?_
           constructor
           refine ⟨fun u hu => ?_,?_⟩
           ·obtain ⟨x0,x1,x2,lx⟩:=Qb.d3 hu.1;obtain ⟨d0,d1,ld⟩:=Qb.d2 hu.2;exact Qk
           refine Qr 14 ?_;have z0:=Hh.frozen 0;obtain ⟨x0,x1,x2⟩:=Hh.c3;have lx:=Hh.lt;have Hh2:=I9 Hh (.int .i64 (Zn g.e d));have Hd:=Qg Hd hn31 0 (.int .i64 (Zn g.e d));have Hb:=Qg Hb hn21 0 (.int .i64 (Zn g.e d));have Hp:=Qg Hp hp1 0 (.int .i64 (Zn g.e d));have Hr:=Qg Hr hn41 0 (.int .i64 (Zn g.e d));have HE:=HE.setCell (p:=⟨b1,0,none⟩) hbr1 (.int .i64 (Zn g.e d));have Hh:=Hh2;go_wp2;refine Qq ?_;refine Qx ?_;generalize World.setCell _ _ _ = wq at *;clear z0 x0 x1 x2 lx Hh2;go_wp2;exact ⟨⟨1,by decide,rfl,HE,Hh,Hb,Hd,Hp,Hr⟩,by simp [intOf]⟩
          ·have Hh : Qb wi b1 116 #[.int .i64 (Zn g.e d),.int .i64 (g.r),.int .i64 (g.l)]:=Hh;have pb:=Hu hds g11 g12;have v1 : IntKind.i64.wrap (d.n * g.r) = d.n * g.r:=Z6 Qa Qa
           have v2 : IntKind.i64.wrap ((d.n * g.r).tdiv d.d) = d.n * g.r / d.d:=by
            rw [Int.tdiv_eq_ediv_of_nonneg pb.1];exact Z6 Qa Qa
           have v3 : IntKind.i64.wrap (g.r - d.n * g.r / d.d) = Zn g.r d:=by
            unfold Zn;exact Z6 Qa Qa
           clear pb;obtain ⟨s0,s1,s2,ls⟩:=Qb.d3 Hp;go_upto_region 12 with fail
           clear s0 s1 s2 ls;refine Zc 15 [14] (fun x => Qb x b1 116 #[.int .i64 (Zn g.e d),.int .i64 (g.r),.int .i64 (g.l)] ∧ Qb x b3 65 #[.int .i64 d.n,.int .i64 d.d]) mixed rfl ?_;intro vz hvz;replace HE:=HE.trans hvz;replace Hh:=Hh.ext hvz;replace Hd:=Hd.ext hvz;replace Hb:=Hb.ext hvz;replace Hp:=Hp.ext hvz;replace Hr:=Hr.ext hvz;clear hvz;refine Qs (g:=1) [0,1,2,3,4,5,6,7,8,9,10,11,12,13] ⟨Hh,Hd⟩ ?_
           constructor
           refine ⟨fun u hu => ?_,?_⟩
           ·obtain ⟨x0,x1,x2,lx⟩:=Qb.d3 hu.1;obtain ⟨d0,d1,ld⟩:=Qb.d2 hu.2;exact Qk
           refine Qr 14 ?_;have z0:=Hh.frozen 1;obtain ⟨x0,x1,x2⟩:=Hh.c3;have lx:=Hh.lt;have Hh2:=Qaa Hh (.int .i64 (Zn g.r d));have Hd:=Qg Hd hn31 1 (.int .i64 (Zn g.r d));have Hb:=Qg Hb hn21 1 (.int .i64 (Zn g.r d));have Hp:=Qg Hp hp1 1 (.int .i64 (Zn g.r d));have Hr:=Qg Hr hn41 1 (.int .i64 (Zn g.r d));have HE:=HE.setCell (p:=⟨b1,1,none⟩) hbr1 (.int .i64 (Zn g.r d));have Hh:=Hh2;go_wp2;refine Qq ?_;refine Qx ?_;generalize World.setCell _ _ _ = wq at *;clear z0 x0 x1 x2 lx Hh2;go_wp2;exact ⟨⟨2,by decide,rfl,HE,Hh,Hb,Hd,Hp,Hr⟩,by simp [intOf]⟩
          ·have Hh : Qb wi b1 116 #[.int .i64 (Zn g.e d),.int .i64 (Zn g.r d),.int .i64 (g.l)]:=Hh;have pb:=Hu hds g21 g22;have v1 : IntKind.i64.wrap (d.n * g.l) = d.n * g.l:=Z6 Qa Qa
           have v2 : IntKind.i64.wrap ((d.n * g.l).tdiv d.d) = d.n * g.l / d.d:=by
            rw [Int.tdiv_eq_ediv_of_nonneg pb.1];exact Z6 Qa Qa
           have v3 : IntKind.i64.wrap (g.l - d.n * g.l / d.d) = Zn g.l d:=by
            unfold Zn;exact Z6 Qa Qa
           clear pb;obtain ⟨s0,s1,s2,ls⟩:=Qb.d3 Hp;go_upto_region 12 with fail
           clear s0 s1 s2 ls;refine Zc 15 [14] (fun x => Qb x b1 116 #[.int .i64 (Zn g.e d),.int .i64 (Zn g.r d),.int .i64 (g.l)] ∧ Qb x b3 65 #[.int .i64 d.n,.int .i64 d.d]) mixed rfl ?_;intro vz hvz;replace HE:=HE.trans hvz;replace Hh:=Hh.ext hvz;replace Hd:=Hd.ext hvz;replace Hb:=Hb.ext hvz;replace Hp:=Hp.ext hvz;replace Hr:=Hr.ext hvz;clear hvz;refine Qs (g:=1) [0,1,2,3,4,5,6,7,8,9,10,11,12,13] ⟨Hh,Hd⟩ ?_
           constructor
           refine ⟨fun u hu => ?_,?_⟩
           ·obtain ⟨x0,x1,x2,lx⟩:=Qb.d3 hu.1;obtain ⟨d0,d1,ld⟩:=Qb.d2 hu.2;exact Qk
           refine Qr 14 ?_;have z0:=Hh.frozen 2;obtain ⟨x0,x1,x2⟩:=Hh.c3;have lx:=Hh.lt;have Hh2:=Qab Hh (.int .i64 (Zn g.l d));have Hd:=Qg Hd hn31 2 (.int .i64 (Zn g.l d));have Hb:=Qg Hb hn21 2 (.int .i64 (Zn g.l d));have Hp:=Qg Hp hp1 2 (.int .i64 (Zn g.l d));have Hr:=Qg Hr hn41 2 (.int .i64 (Zn g.l d));have HE:=HE.setCell (p:=⟨b1,2,none⟩) hbr1 (.int .i64 (Zn g.l d));have Hh:=Hh2;go_wp2;refine Qq ?_;refine Qx ?_;generalize World.setCell _ _ _ = wq at *;clear z0 x0 x1 x2 lx Hh2;go_wp2;exact ⟨⟨3,by decide,rfl,HE,Hh,Hb,Hd,Hp,Hr⟩,by simp [intOf]⟩
         ·obtain rfl : j = 3:=Qa;have Hh : Qb wi b1 116 #[.int .i64 (Zn g.e d),.int .i64 (Zn g.r d),.int .i64 (Zn g.l d)]:=Hh;have hbs:=hbs.out;have hbb:=Bf hbs;have de:=S0 hds g01 g02;have dr:=S0 hds g11 g12;have dl:=S0 hds g21 g22;have pb:=Hu hbs de.1 de.2;have hst : Hid (Mk b d g = ⟨Zn g.e d + (Zn g.l d + 1) / 2,Zn g.r d + Zn g.l d / 2,b.n * Zn g.e d / b.d⟩):=rfl;generalize Zn g.e d = xe at *;generalize Zn g.r d = xr at *;generalize Zn g.l d = xl at *;have v1 : IntKind.i64.wrap (b.n * xe) = b.n * xe:=Z6 Qa Qa
          have v2 : IntKind.i64.wrap ((b.n * xe).tdiv b.d) = b.n * xe / b.d:=by
           rw [Int.tdiv_eq_ediv_of_nonneg pb.1];exact Z6 Qa Qa
          have v3 : IntKind.i64.wrap (xl + 1) = xl + 1:=Z6 Qa Qa
          have v4' : IntKind.i64.wrap ((xl + 1).tdiv 2) = (xl + 1) / 2:=by
           rw [Int.tdiv_eq_ediv_of_nonneg Qa];exact Z6 Qa Qa
          have v5 : IntKind.i64.wrap (xe + (xl + 1) / 2) = xe + (xl + 1) / 2:=Z6 Qa Qa
          have v6 : IntKind.i64.wrap (xl.tdiv 2) = xl / 2:=by
           rw [Int.tdiv_eq_ediv_of_nonneg Qa];exact Z6 Qa Qa
          have v7 : IntKind.i64.wrap (xr + xl / 2) = xr + xl / 2:=Z6 Qa Qa;have hb0 : (b.d == 0) = false:=zb Qa;have hb1 : b.d ≠ 0:=Qa;clear pb de dr dl hbb;generalize b.n * xe / b.d = zl at *;generalize hz1 : (xl + 1) / 2 = z1 at *;generalize hz2 : xl / 2 = z2 at *;clear hz1 hz2;obtain ⟨k0,k1,k2,lk⟩:=Qb.d3 Hh;have f0:=Hh.frozen 0;obtain ⟨p0,p1,lp⟩:=Qb.d2 Hb;have Ha:=I9 Hh (.int .i64 (xe + z1));have Hba:=Qg Hb hn21 0 (.int .i64 (xe + z1));have Hda:=Qg Hd hn31 0 (.int .i64 (xe + z1));have Hra:=Qg Hr hn41 0 (.int .i64 (xe + z1));have Ea:=HE.setCell (p:=⟨b1,0,none⟩) hbr1 (.int .i64 (xe + z1));go_upto_region 16 with fail
          generalize World.setCell _ _ _ = wa at *;clear k0 k1 k2 lk f0 p0 p1 lp Hh HE Hb Hd Hr Hp;obtain ⟨k0,k1,k2,lk⟩:=Qb.d3 Ha;have f0:=Ha.frozen 1;have Hb':=Qaa Ha (.int .i64 (xr + z2));have Hbb:=Qg Hba hn21 1 (.int .i64 (xr + z2));have Hdb:=Qg Hda hn31 1 (.int .i64 (xr + z2));have Hrb:=Qg Hra hn41 1 (.int .i64 (xr + z2));have Eb:=Ea.setCell (p:=⟨b1,1,none⟩) hbr1 (.int .i64 (xr + z2));go_upto_region 17 with fail
          generalize World.setCell _ _ _ = wb at *;clear k0 k1 k2 lk f0 Ha Hba Hda Hra Ea;obtain ⟨k0,k1,k2,lk⟩:=Qb.d3 Hb';have f0:=Hb'.frozen 2;have Hc':=Qab Hb' (.int .i64 zl);have Hbc:=Qg Hbb hn21 2 (.int .i64 zl);have Hdc:=Qg Hdb hn31 2 (.int .i64 zl);have Hrc:=Qg Hrb hn41 2 (.int .i64 zl);have Ec:=Eb.setCell (p:=⟨b1,2,none⟩) hbr1 (.int .i64 zl);go_upto_region 18 with fail
          generalize World.setCell _ _ _ = wc at *;clear k0 k1 k2 lk f0 Hb' Hbb Hdb Hrb Eb v1 v2 v3 v4' v5 v6 v7 hb0 hb1;have NG:=fun w => NH ⟨xe + z1,xr + z2,zl⟩ w
          have hst2 : Hid (Mk b d g = ⟨xe + z1,xr + z2,zl⟩):=hst;obtain ⟨k0,k1,k2,lk⟩:=Qb.d3 Hc';cases hgk : Y3.ok ⟨xe + z1,xr + z2,zl⟩
          ·simp only [hgk] at NG;have hr:=hV'.out;rw [hst2.out,hgk,if_neg zD] at hr;subst hr;clear hV' hst hst2 hgk NH;go_upto_region 19 with (go_at_call 93;refine zc (NG _) ?_;rintro e w6 ⟨rfl,h6⟩)
           have HE:=Ec.trans h6;have Hr:=Hrc.ext h6;obtain ⟨y0,y1,y2,x0,x1,x2,lx⟩:=Qb.e3 Hr;have R3:=Lk Hr (.int .i64 0) (.int .i64 0) (.int .i64 0);have EF:=Lg HE hbr (.int .i64 0) (.int .i64 0) (.int .i64 0);obtain ⟨r0,r1,r2⟩:=R3.c3;go_wp2;refine bodyPost_ret (v:=.tuple #[.agg #[.int .i64 0,.int .i64 0,.int .i64 0],.int .i64 6]) (by simp [results,Tryz.results42,go_sem,r0,r1,r2]) rfl ⟨rfl,EF⟩
          ·simp only [hgk] at NG;have hr:=hV'.out;rw [hst2.out,hgk,if_pos rfl,← hm2] at hr;replace hr:=zh hr;replace hgk:=zh hgk;clear hV' hst hst2 NH hm2;go_wp2_with (go_at_call 93;refine zc (NG _) ?_;rintro e w6 ⟨rfl,h6⟩);exact ⟨⟨k + 1,Qa,by go_num,⟨xe + z1,xr + z2,zl⟩,hgk,Ec.trans h6,Hc'.ext h6,Hbc.ext h6,Hdc.ext h6,Hrc.ext h6,hr⟩,zi⟩
       ·obtain rfl : k = n:=Qa;have hr:=hV.out;rw [Nat.sub_self] at hr;have hr2 : V = (g,0):=hr;subst hr2;clear hV hr;obtain ⟨k0,k1,k2,lk⟩:=Qb.d3 Hh;obtain ⟨y0,y1,y2,x0,x1,x2,lx⟩:=Qb.e3 Hr;have R3:=Lk Hr (.int .i64 g.e) (.int .i64 g.r) (.int .i64 g.l);have EF:=Lg HE hbr (.int .i64 g.e) (.int .i64 g.r) (.int .i64 g.l);obtain ⟨r0,r1,r2⟩:=R3.c3;go_wp2;refine bodyPost_ret (v:=.tuple #[.agg #[.int .i64 g.e,.int .i64 g.r,.int .i64 g.l],.int .i64 0]) (by simp [results,Tryz.results42,go_sem,r0,r1,r2]) rfl ⟨rfl,EF⟩
end
section
open Go Go.ChangeShapes Go.WideShapes Go.ChangeAt Go.RowKit Go.Deep
theorem Qgg : Tryz.prog.cellsOf 65 = 2:=by kernel_rfl
theorem Qpa : Tryz.prog.globalNamed "bulla/metro.zero" = some 0:=by kernel_rfl
theorem Qpd : (Tryz.prog.globals[0]?).map (·.type) = some 65:=by kernel_rfl
theorem Qpf {W : World} (h : laidMet Tryz.prog [("bulla/metro.zero",.agg [.lit (.int .i64 0),.lit (.int .i64 1)])] W) : Jc W:=by
 obtain ⟨ps,⟨g,t,cs,fuel,p,q,hg,ht,hvar,hd,_,_⟩,_⟩:=h;obtain rfl:=Option.some.inj (Qpa.symm.trans hg);obtain rfl:=Option.some.inj (Qpd.symm.trans ht);obtain ⟨xs,m,_,hx,hlen,hxl,hf⟩:=DataW.trod_struct Tryz.underlying65 hd;have hxl2 : xs.length = 2:=hxl;simp only [Prod.mk.injEq,DataW.agg.injEq] at hx;have hx1:=hx.1;obtain ⟨cs⟩:=cs;rw [Qgg] at hlen
 match cs,hlen,xs,hxl2 with
 | [a,b],_,[y0,y1],_ =>
  have e0:=Np (i:=0) (by simp) (hf 0 _ rfl) Vy;have e1:=Np (i:=1) (by simp) (hf 1 _ rfl) Vy;obtain ⟨s0,h01,h02,_⟩:=DataW.trod_int Tryz.underlying3 e0;obtain ⟨s1,h11,h12,_⟩:=DataW.trod_int Tryz.underlying3 e1;simp only [List.map_cons,List.map_nil,List.cons.injEq] at hx1;have f0 : y0.1 = .lit (.int .i64 0):=hx1.1.symm;have f1 : y1.1 = .lit (.int .i64 1):=hx1.2.1.symm;have g0 : y0.1 = .lit (.int .i64 s0):=by have:=congrArg Prod.fst h02;simpa using this
  have g1 : y1.1 = .lit (.int .i64 s1):=by have:=congrArg Prod.fst h12;simpa using this
  obtain rfl : s0 = 0:=by rw [f0] at g0;simpa using g0.symm
  obtain rfl : s1 = 1:=by rw [f1] at g1;simpa using g1.symm
  have ha : a = .int .i64 0:=by simpa using h01
  have hb : b = .int .i64 1:=by simpa using h11
  subst ha;subst hb;have c0:=World.var?_cell hg hvar 0;have c1:=World.var?_cell hg hvar 1;refine ⟨by simpa using c0,by simpa using c1,?_⟩;rcases Nat.lt_or_ge 0 W.heap.size with h1 | h1
  ·exact h1
  ·have h2 : W.heap.size = 0 := Qa;have : W.cell? ⟨0, 0, none⟩ = some (.int .i64 0) := by simpa using c0
   simp [World.cell?,Array.getElem?_eq_none (show W.heap.size ≤ 0 by omega)] at this
section
variable {H : Type} {enc : TypeId × Value → H} {w : World} {base : Nat} {spare : Nat → Bool} {held : Bool} {r : Reach} {b0 : Nat} {v : Value} {d : DataW H} {p : List MemPlace}
end
theorem Aw : Tryz.prog.cellsOf 85 = 2:=by kernel_rfl
theorem Sj : Tryz.prog.cellsOf 52 = 1:=by kernel_rfl
theorem Av : Tryz.prog.cellsOf 57 = 7:=by kernel_rfl
theorem Qgc : Tryz.prog.cellsOf 53 = 1:=by kernel_rfl
theorem Ay : Tryz.prog.cellsOf 55 = 12:=by kernel_rfl
theorem Qf4 : Tryz.prog.bytesOf 85 = 24:=by kernel_rfl
theorem Qf3 : Tryz.prog.bytesOf 57 = 80:=by kernel_rfl
theorem Qbr {H : Type} {P : Program} {e : TypeId} : ∀ {l : List (DataW H)} {d : DataW H},d ∈ l → ∀ n ∈ d.weights P e,n ∈ DataW.weightsAll P e l
 | x :: r,d,h,n,hn => by
  simp only [DataW.weightsAll,List.mem_append];rcases List.mem_cons.1 h with rfl | h
  ·exact Or.inl hn
  ·exact Or.inr (Qbr h n hn)
structure Pd.Light (p : Pd) : Prop where
 o : p.o.length * 24 ≤ 140737488351232
 c : p.c.length * 24 ≤ 140737488351232
 l : ∀ i,i < p.d.length → (p.d.getD i Zd).l.length * 24 ≤ 140737488351232
 d : p.d.length * 80 ≤ 140737488351232
theorem De {α : Type} (z : α) (g : Nat → α) {n i : Nat} (h : i < n) : ((List.range n).map g).getD i z = g i:=by simp [List.getD,h]
section
variable {H : Type} {enc : TypeId × Value → H} {w : World} {base : Nat} {spare : Nat → Bool} {held : Bool} {r : Reach} {b0 : Nat} {v : Value} {d : DataW H} {p : List MemPlace}
theorem Bg {P : Program} {α : Type} {t e : TypeId} {sz m : Nat} {v : Value} {x : DataW H × List MemPlace} {f : α → List Value} {p : α → Prop} (d0 : α) (ht : P.underlying t = some (.slice e)) (hC : P.cellsOf e = sz) (hsz : 0 < sz) (hl : ∀ y,(f y).length = sz)
  (hone : ∀ n cs x,DataW.trod enc P w base spare held n e cs = some x → (∀ k ∈ x.1.weights P e,k ≤ reachBytes) → ∃ y,cs = f y ∧ p y) (h : DataW.trod enc P w base spare held m t [v] = some x) (hw : ∀ k ∈ x.1.weights P t,k ≤ reachBytes) :
  ∃ (A : OA) (n cap : Nat) (g : Nat → α),v = .slice A n cap ∧ Qm w A n sz (fun i => f (g i)) ∧ n ≤ cap ∧ cap ≤ maxLen ∧ (A = none → n = 0 ∧ cap = 0) ∧ (∀ i,i < n → p (g i)) ∧ n * P.bytesOf e ≤ reachBytes:=by
 rcases open_slice ht h with ⟨hcs,_⟩ | ⟨a,len,cap,k,n,D,Pl,hcs,hb,hlc,hcm,hk,hx,hi⟩
 ·exact ⟨none,0,0,fun _ => d0,by simpa using hcs,Qm.nil,Nat.le_refl _,Nat.zero_le _,fun _ => ⟨rfl,rfl⟩,fun i hi => absurd hi Qa,by simp⟩
 ·have hlk : len ≤ k := by rw [hk]; split <;> omega
  rw [hx] at hw
  have hbytes : len * P.bytesOf e ≤ reachBytes:=by
   have:=hw ((len + (k - len)) * P.bytesOf e) (by simp [DataW.weights,ht]);exact Nat.le_trans (Nat.mul_le_mul_right _ (Nat.le_add_right _ _)) this
  have each : ∀ i,∃ y : α,i < len → (p y ∧ ∀ j u,(f y)[j]? = some u → w.cell? (a.add (i * sz + j)) = some u):=fun i => by
   by_cases hil : i < len
   ·obtain ⟨cs',hc,htr⟩:=hi i Qa;rw [hC] at hc
    obtain ⟨y,rfl,hp⟩:=hone _ _ _ htr (fun q hq => hw q (by
     simp only [DataW.weights,ht];exact List.mem_cons_of_mem _ (List.mem_append_left _ (Qbr (List.mem_map.2 ⟨i,List.mem_range.2 hil,rfl⟩) q hq))))
    obtain ⟨_,_,hat⟩:=World.cells?_some hc;refine ⟨y,fun _ => ⟨hp,fun j u hu => ?_⟩⟩;have hj : j < sz:=by have:=(List.getElem?_eq_some_iff.1 hu).1;rw [hl] at this;exact this
    rw [← Go.Deep.add_add,hat j hj,hu]
   ·exact ⟨d0,fun h => absurd h hil⟩
  obtain ⟨g,hg⟩:=Classical.axiomOfChoice each;refine ⟨some a,len,cap,g,by simpa using hcs,fun hn => ?_,hlc,hcm,fun h => (by cases h),fun i hi => (hg i hi).1,hbytes⟩;obtain ⟨b,off,spot⟩:=a;have h00 : ((f (g 0))[0]?).isSome:=by rw [List.getElem?_eq_getElem (by rw [hl];exact hsz)];rfl
  obtain ⟨u,hu⟩:=Option.isSome_iff_exists.1 h00;have hc0:=(hg 0 hn).2 0 u hu;have hspot : spot = none:=by simpa [Addr.add] using World.cell?_spot hc0
  subst hspot;have hc0' : w.cell? ⟨b,off,none⟩ = some u:=by simpa [add_plain] using hc0
  refine ⟨b,off,rfl,?_,fun i j v hi hv => ?_⟩
  ·rcases Nat.lt_or_ge b w.heap.size with h1 | h1
   ·exact h1
   ·simp [World.cell?,Array.getElem?_eq_none h1] at hc0'
  ·have:=(hg i hi).2 j v hv;rw [add_plain,← Nat.add_assoc] at this;exact this
theorem Qkc {n : Nat} {cs : List Value} {x : DataW H × List MemPlace} (h : DataW.trod enc Tryz.prog w base spare held n 85 cs = some x) : ∃ y : Lt,cs = [.string y.g,.int .i64 y.n]:=by
 obtain ⟨xs,m,_,_,hlen,hxl,hf⟩:=DataW.trod_struct Tryz.underlying85 h;rw [Aw] at hlen
 match cs,hlen with
 | [a,b],_ =>
  obtain ⟨z0,rfl,_⟩:=Ta (Xi hxl zD (hf 0 _ rfl) Ob);obtain ⟨z1,rfl,_⟩:=Ko (Xi hxl zD (hf 1 _ rfl) Vy);exact ⟨⟨z0,z1⟩,rfl⟩
theorem Pz {m : Nat} {v : Value} {x : DataW H × List MemPlace} (h : DataW.trod enc Tryz.prog w base spare held m 52 [v] = some x) (hw : ∀ k ∈ x.1.weights Tryz.prog 52,k ≤ reachBytes) : ∃ l : List Lt,Zl w v l ∧ l.length * 24 ≤ 140737488351232:=by
 obtain ⟨A,n,cap,g,rfl,h1,h2,h3,h4,_,h6⟩:=Bg (f:=fun y : Lt => [.string y.g,.int .i64 y.n]) (p:=fun _ => True) Y2 Tryz.underlying52 Aw zD (fun _ => rfl) (fun n cs x hx _ => by
  obtain ⟨y,hy⟩:=Qkc hx;exact ⟨y,hy,trivial⟩) h hw
 rw [Qf4,Ds] at h6;refine ⟨(List.range n).map g,⟨A,cap,by simp,?_,by simpa using h2,h3,by simpa using h4⟩,by simpa using h6⟩;rw [List.length_map,List.length_range];exact h1.congr (fun i hi => by simp only [Q5,Q8];rw [De Y2 g hi])
theorem Qhh {n : Nat} {cs : List Value} {x : DataW H × List MemPlace} (h : DataW.trod enc Tryz.prog w base spare held n 57 cs = some x) (hw : ∀ k ∈ x.1.weights Tryz.prog 57,k ≤ reachBytes) :
  ∃ y : Dl × Value,cs = Zm y.1 y.2 ∧ Zl w y.2 y.1.l ∧ y.1.l.length * 24 ≤ 140737488351232:=by
 obtain ⟨xs,m,_,hx,hlen,hxl,hf⟩:=DataW.trod_struct Tryz.underlying57 h;have hxl2 : xs.length = 4:=hxl;rw [hx] at hw
 have hw' : ∀ n ∈ DataW.weightsEach Tryz.prog [51,4,9,52] (xs.map (·.1)),n ≤ reachBytes:=fun n hn => hw n (by
  simp only [DataW.weights,Tryz.underlying57];exact hn)
 rw [Av] at hlen
 match cs,hlen with
 | [c0,c1,c2,c3,c4,c5,c6],_ =>
  obtain ⟨_,h0⟩:=Xi hxl zD (hf 0 _ rfl) Gy;obtain ⟨a,ha⟩:=Sw h0;obtain ⟨z4,rfl⟩:=Ao (Xi hxl zD (hf 1 _ rfl) Au);obtain ⟨z5,rfl,_⟩:=Ta (Xi hxl zD (hf 2 _ rfl) Ob);have e3 : DataW.trod enc Tryz.prog w base spare held m 52 [c6] = some xs[3]:=Np Qa (hf 3 _ rfl) (n:=1) Sj;obtain ⟨l,hl,hs⟩:=Pz e3 (fun k hk => hw' k (DataW.weights_mem_each (j:=3) rfl (by rw [List.getElem?_map,List.getElem?_eq_getElem Qa];rfl) k hk));have ha' : [c0,c1,c2,c3] = [.int .i64 a.y,.int .i64 a.m,.bool a.s,.int .i64 a.d]:=ha;simp only [List.cons.injEq] at ha';obtain ⟨rfl,rfl,rfl,rfl,_⟩:=ha';exact ⟨(⟨a,z4,z5,l⟩,c6),rfl,hl,hs⟩
theorem Qhj {m : Nat} {v : Value} {x : DataW H × List MemPlace} (h : DataW.trod enc Tryz.prog w base spare held m 53 [v] = some x) (hw : ∀ k ∈ x.1.weights Tryz.prog 53,k ≤ reachBytes) :
  ∃ l : List Dl,Va w v l ∧ (∀ i,i < l.length → (l.getD i Zd).l.length * 24 ≤ 140737488351232) ∧ l.length * 80 ≤ 140737488351232:=by
 obtain ⟨A,n,cap,g,rfl,h1,h2,h3,h4,h5,h6⟩:=Bg (f:=fun y : Dl × Value => Zm y.1 y.2) (p:=fun y => Zl w y.2 y.1.l ∧ y.1.l.length * 24 ≤ 140737488351232) (Zd,.slice none 0 0) Tryz.underlying53 Av zD (fun _ => rfl) (fun n cs x hx hk => Qhh hx hk) h hw;rw [Qf3,Ds] at h6;have hg : ∀ i,i < n → ((List.range n).map (fun i => (g i).1)).getD i Zd = (g i).1:=fun i hi => De Zd _ hi
 refine ⟨(List.range n).map (fun i => (g i).1),⟨A,cap,fun i => (g i).2,by simp,?_,by simpa using h2,h3,by simpa using h4,fun i hi => ?_⟩,fun i hi => ?_,by simpa using h6⟩
 ·rw [List.length_map,List.length_range];exact h1.congr (fun i hi => by show Zm _ _ = Zm _ _;rw [hg i hi])
 ·rw [List.length_map,List.length_range] at hi;rw [hg i hi];exact (h5 i hi).1
 ·rw [List.length_map,List.length_range] at hi;rw [hg i hi];exact (h5 i hi).2
theorem Qmg {n : Nat} {cs : List Value} {x : DataW H × List MemPlace} (h : DataW.trod enc Tryz.prog w base spare held n 55 cs = some x) (hw : ∀ k ∈ x.1.weights Tryz.prog 55,k ≤ reachBytes) :
  ∃ y : Pd × Value × Value × Value,cs = Qi y.1 y.2.1 y.2.2.1 y.2.2.2 ∧ Wb w y.1 y.2.1 y.2.2.1 y.2.2.2 ∧ y.1.Light:=by
 obtain ⟨xs,m,_,hx,hlen,hxl,hf⟩:=DataW.trod_struct Tryz.underlying55 h;have hxl2 : xs.length = 6:=hxl;rw [hx] at hw
 have hw' : ∀ n ∈ DataW.weightsEach Tryz.prog [9,51,51,52,53,52] (xs.map (·.1)),n ≤ reachBytes:=fun n hn => hw n (by
  simp only [DataW.weights,Tryz.underlying55];exact hn)
 rw [Ay] at hlen
 match cs,hlen with
 | [c0,c1,c2,c3,c4,c5,c6,c7,c8,c9,c10,c11],_ =>
  obtain ⟨z0,rfl,_⟩:=Ta (Xi hxl zD (hf 0 _ rfl) Ob);obtain ⟨_,h1⟩:=Xi hxl zD (hf 1 _ rfl) Gy;obtain ⟨_,h2⟩:=Xi hxl zD (hf 2 _ rfl) Gy;obtain ⟨a,ha⟩:=Sw h1;obtain ⟨b,hb⟩:=Sw h2;have e3 : DataW.trod enc Tryz.prog w base spare held m 52 [c9] = some xs[3]:=Np Qa (hf 3 _ rfl) (n:=1) Sj;have e4 : DataW.trod enc Tryz.prog w base spare held m 53 [c10] = some xs[4]:=Np Qa (hf 4 _ rfl) (n:=1) Qgc;have e5 : DataW.trod enc Tryz.prog w base spare held m 52 [c11] = some xs[5]:=Np Qa (hf 5 _ rfl) (n:=1) Sj;obtain ⟨lo,ho,hso⟩:=Pz e3 (fun k hk => hw' k (DataW.weights_mem_each (j:=3) rfl (by rw [List.getElem?_map,List.getElem?_eq_getElem Qa];rfl) k hk))
  obtain ⟨ld,hd,hsl,hsd⟩:=Qhj e4 (fun k hk => hw' k (DataW.weights_mem_each (j:=4) rfl (by rw [List.getElem?_map,List.getElem?_eq_getElem Qa];rfl) k hk));obtain ⟨lc,hc,hsc⟩:=Pz e5 (fun k hk => hw' k (DataW.weights_mem_each (j:=5) rfl (by rw [List.getElem?_map,List.getElem?_eq_getElem Qa];rfl) k hk));have ha' : [c1,c2,c3,c4] = [.int .i64 a.y,.int .i64 a.m,.bool a.s,.int .i64 a.d]:=ha;have hb' : [c5,c6,c7,c8] = [.int .i64 b.y,.int .i64 b.m,.bool b.s,.int .i64 b.d]:=hb;simp only [List.cons.injEq] at ha' hb';obtain ⟨rfl,rfl,rfl,rfl,_⟩:=ha';obtain ⟨rfl,rfl,rfl,rfl,_⟩:=hb';exact ⟨(⟨z0,a,b,lo,ld,lc⟩,c9,c10,c11),rfl,⟨ho,hd,hc⟩,⟨hso,hsc,hsl,hsd⟩⟩
theorem Qmj (hv : Value.okWide Tryz.prog w r b0 26 v) (h : DataW.Trod enc Tryz.prog w base spare held 26 v d p) (hl : ∀ n ∈ d.weights Tryz.prog 26,n ≤ reachBytes) :
  ∃ l : List Pd,J9 w v l ∧ (∀ i,i < l.length → (l.getD i Qp).Light) ∧ l.length * 152 ≤ 140737488351232:=by
 obtain ⟨a,len,cap,rfl⟩:=okWide_slice Tryz.underlying26 hv;obtain ⟨fuel,hf⟩:=h;obtain ⟨A,n,cap,g,e,h1,h2,h3,h4,h5,h6⟩:=Bg (f:=fun y : Pd × Value × Value × Value => Qi y.1 y.2.1 y.2.2.1 y.2.2.2) (p:=fun y => Wb w y.1 y.2.1 y.2.2.1 y.2.2.2 ∧ y.1.Light) (Qp,.slice none 0 0,.slice none 0 0,.slice none 0 0) Tryz.underlying26 Ay zD (fun _ => rfl) (fun n cs x hx hk => Qmg hx hk) hf hl;rw [show Tryz.prog.bytesOf 55 = 152 by kernel_rfl,Ds] at h6;have hg : ∀ i,i < n → ((List.range n).map (fun i => (g i).1)).getD i Qp = (g i).1:=fun i hi => De Qp _ hi
 rw [e];refine ⟨(List.range n).map (fun i => (g i).1),⟨A,cap,fun i => (g i).2.1,fun i => (g i).2.2.1,fun i => (g i).2.2.2,by simp,?_,by simpa using h2,h3,by simpa using h4,fun i hi => ?_⟩,fun i hi => ?_,by simpa using h6⟩
 ·rw [List.length_map,List.length_range];exact h1.congr (fun i hi => by show Qi _ _ _ _ = Qi _ _ _ _;rw [hg i hi])
 ·rw [List.length_map,List.length_range] at hi;rw [hg i hi];exact (h5 i hi).1
 ·rw [List.length_map,List.length_range] at hi;rw [hg i hi];exact (h5 i hi).2
end
end
section
open Go Go.RowKit Go.Shelf
attribute [local go_sem] Z8
theorem Qjj : (Tryz.prog.info? 55).map (fun i => (i.zero,i.size,i.bytes)) = some (some (.agg #[.string ⟨#[]⟩,.int .i64 0,.int .i64 0,.bool false,.int .i64 0,.int .i64 0,.int .i64 0,.bool false,.int .i64 0,.slice none 0 0,.slice none 0 0,.slice none 0 0]),12,152):=by kernel_rfl
theorem Qgf (p : Pd) (F G H : OA) (n1 m1 n2 m2 n3 m3 : Nat) : ∀ u ∈ Qi p (.slice F n1 m1) (.slice G n2 m2) (.slice H n3 m3),u.oneCell' = true:=by simp [Qi,Value.oneCell']
def Uc (W : World) (b : Nat) (v : Value) (n : Nat) (g : Nat → Pd) : Prop:=∃ vo vd vc : Nat → Value,W.ownsRow b 55 12 v n (Z2 (fun i => Qi (g i) (vo i) (vd i) (vc i)) n) ∧ ∀ i,i < n → Y5 W b (g i) (vo i) (vd i) (vc i)
theorem Qmm (W : World) (b : Nat) (g : Nat → Pd) : Uc W b (.slice none 0 0) 0 g:=⟨fun _ => .slice none 0 0,fun _ => .slice none 0 0,fun _ => .slice none 0 0,World.ownsRow_nil _ _ _ _,fun i h => absurd h Qa⟩
theorem Uc.ext {W W' : World} {b n : Nat} {v : Value} {g : Nat → Pd} (h : Uc W b v n g) (x : Qc W W') : Uc W' b v n g:=by
 obtain ⟨vo,vd,vc,h1,h2⟩:=h;exact ⟨vo,vd,vc,Jf h1 x,fun i hi => (h2 i hi).ext x⟩
theorem Uc.le {W : World} {b b' n : Nat} {v : Value} {g : Nat → Pd} (h : Uc W b v n g) (hb : b' ≤ b) : Uc W b' v n g:=by
 obtain ⟨vo,vd,vc,h1,h2⟩:=h;exact ⟨vo,vd,vc,h1.mono hb,fun i hi => (h2 i hi).le hb⟩
theorem Qml {W : World} {b : Nat} {v : Value} {l : List Pd} (h : Uc W b v l.length (fun i => l.getD i Qp)) : J9 W v l:=by
 obtain ⟨vo,vd,vc,h1,h2⟩:=h;obtain ⟨F,c,g1,g2,g3,g4,g5,_⟩:=Vz (f:=fun i => Qi (l.getD i Qp) (vo i) (vd i) (vc i)) (fun _ => rfl) h1;exact ⟨F,c,vo,vd,vc,g1,g2,g3,g4,g5,fun i hi => Qmb (h2 i hi)⟩
theorem Y5.kept {W w1 : World} {b b' k : Nat} {v' vo vd vc : Value} {p : Pd} {xs : List Value} {row : Option Nat} (h : Y5 W b p vo vd vc) (hr : W.ownsRow b' 55 12 v' k xs) (hg : W.grownBy w1 row) (hrow : row = v'.ownBlock) : Y5 w1 b p vo vd vc:=by
 subst hrow;obtain ⟨vs,d1,d2⟩:=h.d;exact ⟨World.ownsRow.kept h.o hg (Hq h.o hr zD),⟨vs,World.ownsRow.kept d1 hg (Hq d1 hr zD),fun i hi => World.ownsRow.kept (d2 i hi) hg (Hq (d2 i hi) hr zD)⟩,World.ownsRow.kept h.c hg (Hq h.c hr zD)⟩
theorem Y5.alloc {W : World} {b : Nat} {vo vd vc : Value} {p : Pd} (h : Y5 W b p vo vd vc) (ob : Obj) : Y5 (W.alloc ob) b p vo vd vc:=h.ext ((Qc.refl _).alloc ob)
theorem Qmn {W w1 : World} {b k : Nat} {v v' uo ud uc : Value} {g : Nat → Pd} {vo vd vc : Nat → Value} {ob : Obj} (hO : W.ownsRow b 55 12 v k (Z2 (fun i => Qi (g i) (vo i) (vd i) (vc i)) k)) (hL : ∀ i,i < k → Y5 W b (g i) (vo i) (vd i) (vc i)) (hl : Y5 W b (g k) uo ud uc)
  (hown : w1.ownsRow b 55 12 v' (k + 1) (Z2 (fun i => Qi (g i) (vo i) (vd i) (vc i)) k ++ Qi (g k) uo ud uc)) (hgrow : (W.alloc ob).grownBy w1 v.ownBlock) : Uc w1 b v' (k + 1) g:=by
 refine ⟨fun i => if i = k then uo else vo i,fun i => if i = k then ud else vd i,fun i => if i = k then uc else vc i,?_,fun i hi => ?_⟩
 ·rw [Lh, Pc (f' := fun i => Qi (g i) (vo i) (vd i) (vc i)) k (fun i hi => by simp [show i ≠ k by omega])]
  simpa using hown
 ·by_cases e : i = k
  ·subst e;simpa using Y5.kept (hl.alloc ob) (hO.alloc ob) hgrow rfl
  ·simpa [e] using Y5.kept ((hL i Qa).alloc ob) (hO.alloc ob) hgrow rfl
theorem Qne (v1 v2 : Value) (l : List Pd) (w : World) (h1 : J9 w v1 l) (h2 : J9 w v2 l) :
  Calls Tryz.prog 11 #[v1,v2] w fun e w' => e = .returned (.bool true) ∧ Qc w w':=by
 obtain ⟨D,cap,vo,vd,vc,rfl,hD,hcap,hmax,_,hat0⟩:=h1;obtain ⟨B,cb,uo,ud,uc,rfl,hB,hcb,hmb,_,hbt0⟩:=h2;have hn : l.length ≤ 9223372036854775807:=Nat.le_trans hcap (Nat.le_trans hmax zD);clear hcap hmax hcb hmb;obtain ⟨g,hg⟩:=Qe (fun i => l.getD i Qp);have hg' : ∀ i,l.getD i Qp = g i:=fun i => by rw [hg]
 simp only [hg'] at hD hat0 hB hbt0;clear hg hg';generalize l.length = n at *;have hat:=zh hat0;have hbt:=zh hbt0;clear hat0 hbt0
 go_enter Tryz.func11,Tryz.ntmps11
 go_upto_region 4 with fail
 go_loopw [5] (fun i wr => ∃ k : Nat,k ≤ n ∧ i = .int .i64 k ∧ Qc w wr) (fun i _ => n - (intOf i).toNat)
 case atStart => exact ⟨0,Nat.zero_le _,rfl,Qc.refl _⟩
 case round =>
  obtain ⟨k,hk,rfl,hE⟩:=hrel;obtain ⟨wo,rfl⟩:=Qe wr;by_cases hlt : k < n
  ·obtain ⟨b,off,rfl,hb,hc⟩:=(hD.ext hE) Qa;obtain ⟨c0,c1,c2,c3,c4,c5,c6,c7,c8,c9,c10,c11⟩:=L4 hc hlt;clear hc;obtain ⟨b',off',rfl,hb',hc⟩:=(hB.ext hE) Qa;obtain ⟨d0,d1,d2,d3,d4,d5,d6,d7,d8,d9,d10,d11⟩:=L4 hc hlt;clear hc;have P1:=(hat.out k hlt).ext hE;have P2:=(hbt.out k hlt).ext hE;clear hat hbt hD hB;generalize g k = G at *;generalize vo k = v1 at *;generalize vd k = v2 at *;generalize vc k = v3 at *;generalize uo k = u1 at *;generalize ud k = u2 at *;generalize uc k = u3 at *;obtain ⟨t1,s1,e1,_⟩:=id P1.o;subst e1;obtain ⟨t2,s2,_,e2,_⟩:=id P1.d;subst e2;obtain ⟨t3,s3,e3,_⟩:=id P1.c;subst e3;obtain ⟨t4,s4,e4,_⟩:=id P2.o;subst e4
   obtain ⟨t5,s5,_,e5,_⟩:=id P2.d;subst e5;obtain ⟨t6,s6,e6,_⟩:=id P2.c;subst e6;have NS:=fun w h1 h2 => Qng G (.slice t1 G.o.length s1) (.slice t2 G.d.length s2) (.slice t3 G.c.length s3) (.slice t4 G.o.length s4) (.slice t5 G.d.length s5) (.slice t6 G.c.length s6) w h1 h2
   go_upto_region 6 with fail
   have n1:=fun u : XW _ => NS _ (P1.ext u.e) (P2.ext u.e)
   refine Qy wo ?_;intro w2 h2;clear n1;obtain ⟨_,_,_,_⟩:=Qv wo h2;go_wp2;exact ⟨⟨k + 1,Qa,by go_num,hE.trans h2⟩,zi⟩
  ·obtain rfl : k = n:=Qa;go_wp2;go_ret;exact ⟨rfl,hE⟩
theorem Qg3 (v : Value) (l : List Pd) (w : World) (h1 : J9 w v l) (hL : ∀ i,i < l.length → (l.getD i Qp).Light) (hsd : l.length * 152 ≤ 140737488351232) :
  Calls Tryz.prog 8 #[v] w fun e w' => ∃ v',e = .returned v' ∧ Qc w w' ∧ Uc w' w.heap.size v' l.length (fun i => l.getD i Qp):=by
 obtain ⟨i0,hi,hz0,hz1,hz2⟩:=info_parts Qjj;obtain ⟨D,cap,vo,vd,vc,rfl,hD,hcap,hmax,_,hat0⟩:=h1;have hn : l.length ≤ 9223372036854775807:=Nat.le_trans hcap (Nat.le_trans hmax zD);clear hcap hmax;obtain ⟨g,hg⟩:=Qe (fun i => l.getD i Qp);have hg' : ∀ i,l.getD i Qp = g i:=fun i => by rw [hg]
 simp only [hg'] at hD hat0 hL ⊢;clear hg hg';generalize l.length = n at *;have hat:=zh hat0;replace hL:=zh hL;clear hat0
 go_enter Tryz.func8,Tryz.ntmps8
 go_upto_region 3 with fail
 go_loopw [3,4] (fun ov iv wr => ∃ k : Nat,k ≤ n ∧ iv = .int .i64 k ∧ Uc wr w.heap.size ov k g ∧ Qc w wr) (fun _ i _ => n - (intOf i).toNat)
 case atStart => exact ⟨0,Nat.zero_le _,rfl,Qmm _ _ _,Qc.refl _⟩
 case round =>
  obtain ⟨k,hk,rfl,⟨ro,rd,rc,hO,hLo0⟩,hE⟩:=hrel;have hLo:=zh hLo0;clear hLo0;obtain ⟨wo,rfl⟩:=Qe wr;obtain ⟨FO,mO,rfl⟩:=Jn hO;by_cases hlt : k < n
  ·obtain ⟨b,off,rfl,hb,hc⟩:=(hD.ext hE) Qa;obtain ⟨c0,c1,c2,c3,c4,c5,c6,c7,c8,c9,c10,c11⟩:=L4 hc hlt;clear hc;have P1:=(hat.out k hlt).ext hE;have hLk:=hL.out k hlt;clear hat hD hL;obtain ⟨G,hG⟩:=Qe (g k);rw [← hG] at P1 hLk c0 c1 c2 c3 c4 c5 c6 c7 c8;replace hG:=zh hG;generalize vo k = v1 at *;generalize vd k = v2 at *;generalize vc k = v3 at *;obtain ⟨t1,s1,e1,_⟩:=id P1.o;subst e1;obtain ⟨t2,s2,_,e2,_⟩:=id P1.d;subst e2;obtain ⟨t3,s3,e3,_⟩:=id P1.c;subst e3;have NC:=fun w h => Qg5 G (.slice t1 G.o.length s1) (.slice t2 G.d.length s2) (.slice t3 G.c.length s3) w h hLk.o hLk.c hLk.l hLk.d
   have NC1:=NC wo P1;clear NC;go_wp2_with (first | (go_at_call 33;refine zc (NC1) ?_;rintro e w4 ⟨uo,ud,uc,rfl,h4,PO⟩;obtain ⟨F1,m1,rfl⟩:=Jn PO.o;obtain ⟨F2,m2,rfl⟩:=Ii PO.d;obtain ⟨F3,m3,rfl⟩:=Jn PO.c) | (at_builtin;refine wpList_append_own_at _ rfl _ _ 26 rfl w.heap.size 55 i0 (.agg #[.string ⟨#[]⟩,.int .i64 0,.int .i64 0,.bool false,.int .i64 0,.int .i64 0,.int .i64 0,.bool false,.int .i64 0,.slice none 0 0,.slice none 0 0,.slice none 0 0]) 12 152 Tryz.underlying26 hi hz0 hz1 hz2 rfl zD _ _ _ rfl ((Jf hO h4).alloc _) ⟨w4.heap.size,0,none⟩ 1 1 (Qi G (.slice F1 G.o.length m1) (.slice F2 G.d.length m2) (.slice F3 G.c.length m3)) rfl rfl (W4 _ _ _) (Qgf _ _ _ _ _ _ _ _ _ _) (by unfold maxLen;omega) Qa (by have:=(hE.trans h4).size;simp;omega) ?_;intro o' w5 hown hgrow _ _))
   have E5 : Qc w w5:=((hE.trans h4).alloc _).grown hgrow (fun q hq => (hO.lt q hq).1);have D5 : Uc w5 w.heap.size o' (k + 1) g:=Qmn (Jf hO h4) (fun i hi => (hLo.out i hi).ext h4) (by rw [← hG.out];exact PO.le hE.size) (by rw [← hG.out];exact hown) hgrow;exact ⟨⟨k + 1,Qa,by go_num,D5,E5⟩,zi⟩
  ·obtain rfl : k = n:=Qa;go_wp2;go_ret;exact ⟨_,rfl,hE,ro,rd,rc,hO,hLo.out⟩
theorem Qfl (A A' : OA) (ca cb : Nat) (c : Qd) (v : Value) (l : List Pd) (w : World) (hC : Za w A ca A' cb c) (hP : J9 w v l) :
  Calls Tryz.prog 58 #[.agg #[.slice A c.nk ca,.slice A' c.ny cb],v] w fun e w' => e = .returned (.tuple #[.agg #[.slice A c.nk ca,.slice A' c.ny cb],.int .i64 (c.archE l)]) ∧ Qc w w':=by
 have NO:=fun w h => Hm A A' ca cb c w h
 obtain ⟨D,cap,_,_,_,hv9,_⟩:=id hP;subst hv9;have NP:=fun w h1 h2 => Qc1 A A' ca cb c (.slice D l.length cap) l w h1 h2
 obtain ⟨R,hR0⟩:=Qe (c.archE l);rw [← hR0];have HR:=zh hR0;clear hR0
 go_enter Tryz.func58,Tryz.ntmps58
 go_upto_region 1 with fail
 obtain ⟨v,b1,b2,E,B1,B2,hbr1,hbr,hn21,hv,hb1,hb2⟩:=Jy w 25 #[.slice A c.nk ca,.slice A' c.ny cb] 130 #[.slice none 0 0,.slice none 0 0];rw [← hv,← hb2,← hb1];clear hv hb1 hb2;obtain ⟨k0,k1,lk⟩:=Qb.d2 B1;obtain ⟨ck,hck⟩:=Qe (c.chk);simp only [← hck] at NO;replace hck:=zh hck;go_upto_region 2 with (go_at_call 64;refine zc (NO _ (hC.ext E)) ?_;rintro e w1 ⟨rfl,h1⟩)
 obtain ⟨v3,hv⟩:=Qe (w1.alloc (.cells #[.slice A c.nk ca,.slice A' c.ny cb] 130));rw [← hv];have h3 : Qc w1 v3:=by rw [hv];exact (Qc.refl _).alloc _
 have H3 : Qb v3 w1.heap.size 130 #[.slice A c.nk ca,.slice A' c.ny cb]:=by rw [hv];exact Qb.new _ _ _
 clear hv;generalize w1.heap.size = b9 at *;replace E:=(E.trans h1).trans h3;replace B2:=(B2.ext h1).ext h3;have C:=hC.ext E;have P:=hP.ext E;clear hC hP k0 k1 lk B1 NO h1 h3;by_cases e0 : ck = 0;rotate_left
 ·have g0 : (ck == 0) = false := zb e0;have g0n : (ck != 0) = true := by rw [bne, g0]; rfl
  have hr : R = ck:=by rw [HR.out,hck.out];unfold Qd.archE;rw [if_pos (by rw [← hck.out];exact e0)]
  clear HR e0 hck NP;obtain ⟨k0,k1,lk⟩:=Qb.d2 H3;obtain ⟨f0,f1,x0,x1,lx⟩:=Qb.e2 B2;have H4:=Qo B2 (.slice A c.nk ca) (.slice A' c.ny cb);have EF:=(E.setCell (p:=⟨b2,0,none⟩) hbr (.slice A c.nk ca)).setCell (p:=⟨b2,1,none⟩) hbr (.slice A' c.ny cb);obtain ⟨y0,y1⟩:=H4.c2;go_wp2;refine bodyPost_ret (v:=.tuple #[.agg #[.slice A c.nk ca,.slice A' c.ny cb],.int .i64 ck]) Zf rfl ⟨by rw [hr],EF⟩
 ·subst e0;by_cases hlim : 32 < l.length
  ·have hr : R = 3 := by rw [HR.out]; unfold Qd.archE; rw [if_neg (by rw [← hck.out]; simp), if_pos hlim]
   have g1 : decide (32 < l.length) = true:=zt hlim;clear HR hck NP;obtain ⟨k0,k1,lk⟩:=Qb.d2 H3;obtain ⟨f0,f1,x0,x1,lx⟩:=Qb.e2 B2;have H4:=Qo B2 (.slice A c.nk ca) (.slice A' c.ny cb);have EF:=(E.setCell (p:=⟨b2,0,none⟩) hbr (.slice A c.nk ca)).setCell (p:=⟨b2,1,none⟩) hbr (.slice A' c.ny cb);obtain ⟨y0,y1⟩:=H4.c2;go_wp2;refine bodyPost_ret (v:=.tuple #[.agg #[.slice A c.nk ca,.slice A' c.ny cb],.int .i64 3]) Zf rfl ⟨by rw [hr],EF⟩
  have hr : Hid (R = c.persE l):=by unfold Hid;rw [HR.out];unfold Qd.archE;rw [if_neg (by rw [← hck.out];simp),if_neg hlim]
  have g1 : decide (32 < l.length) = false:=zf hlim;clear HR hck;obtain ⟨k0,k1,lk⟩:=Qb.d2 H3;go_upto_region 6 with fail
  clear k0 k1 lk;refine Zc 6 [4,5] (fun x => Qc v3 x) mixed rfl ?_;intro vz hvz;have HC:=hvz;refine Qs (g:=3) [0,1,2] HC ?_
  constructor
  refine ⟨fun u hu => ?_,?_⟩
  ·obtain ⟨k0,k1,lk⟩:=Qb.d2 (H3.ext hu);exact Qk
  refine Qj 3 ?_;go_wp2_with (go_at_call 107;refine zc (NP _ (C.ext HC) (P.ext HC)) ?_;rintro e va ⟨rfl,h4⟩);replace HC:=HC.trans h4;clear h4;refine Qf HC ?_;refine Qr 4 ?_;replace B2:=B2.ext HC;replace E:=E.trans HC;obtain ⟨f0,f1,x0,x1,lx⟩:=Qb.e2 B2;have H4:=Qo B2 (.slice A c.nk ca) (.slice A' c.ny cb);have EF:=(E.setCell (p:=⟨b2,0,none⟩) hbr (.slice A c.nk ca)).setCell (p:=⟨b2,1,none⟩) hbr (.slice A' c.ny cb);obtain ⟨y0,y1⟩:=H4.c2;go_wp2;refine Qq ?_;refine Qr 5 ?_;go_wp2;refine Qq ?_;refine Qx ?_;go_wp2;refine bodyPost_ret (v:=.tuple #[.agg #[.slice A c.nk ca,.slice A' c.ny cb],.int .i64 (c.persE l)]) Zf rfl ⟨by rw [hr.out],EF⟩
theorem Qfa (A A' : OA) (ca cb : Nat) (c : Qd) (l : List Pd) (v : Value) (w : World) (hC : Za w A ca A' cb c) (hP : J9 w v l) :
  Calls Tryz.prog 82 #[.agg #[.slice A c.nk ca,.slice A' c.ny cb],v] w fun e w' => e = .returned (.int .i64 (c.archE l)) ∧ Qc w w':=by
 obtain ⟨D,cap,vo,vd,vc,rfl,hD,hcap,hmax,_,hat0⟩:=hP;have hn : l.length ≤ 9223372036854775807:=Nat.le_trans hcap (Nat.le_trans hmax zD);clear hcap hmax;obtain ⟨R,hR0⟩:=Qe (c.archE l);rw [← hR0];have HR:=zh hR0;clear hR0;have NV:=fun v (h : Za v A ca A' cb c) => Qoi A A' ca cb c v h
 cases hv : c.valid
 ·have hr : R = 70:=by
   rw [HR.out];unfold Qd.archE Qd.chk;rw [hv];rfl
  rw [hv] at NV;clear HR hv hat0 hD
  go_enter Tryz.func82,Tryz.ntmps82
  go_upto_region 1 with fail
  obtain ⟨v,b1,E,B1,hbr,hv,hb1⟩:=J4 w 25 #[.slice A c.nk ca,.slice A' c.ny cb];rw [← hv,← hb1];clear hv hb1;have C:=hC.ext E;clear hC;obtain ⟨k0,k1,kl⟩:=Qb.d2 B1;go_wp2_with (go_at_call 129;refine zc (NV _ C) ?_;rintro e w1 ⟨rfl,hx⟩);go_ret;exact ⟨by rw [hr];rfl,E.trans hx⟩
 have NP:=fun v p a b d h1 h2 => Qmd A A' ca cb c p a b d v h1 hv h2
 have hck : c.chk = 0:=by unfold Qd.chk;rw [hv];rfl
 rw [hv] at NV;clear hv;by_cases hlim : 32 < l.length
 ·have hr : R = 3 := by rw [HR.out]; unfold Qd.archE; rw [if_neg (by rw [hck]; simp), if_pos hlim]
  have g1 : decide (32 < l.length) = true:=zt hlim;clear HR hck NP hat0 hD
  go_enter Tryz.func82,Tryz.ntmps82
  go_upto_region 1 with fail
  obtain ⟨v,b1,E,B1,hbr,hv,hb1⟩:=J4 w 25 #[.slice A c.nk ca,.slice A' c.ny cb];rw [← hv,← hb1];clear hv hb1;have C:=hC.ext E;clear hC;obtain ⟨k0,k1,kl⟩:=Qb.d2 B1;go_wp2_with (go_at_call 129;refine zc (NV _ C) ?_;rintro e w1 ⟨rfl,hx⟩);go_ret;exact ⟨by rw [hr];rfl,E.trans hx⟩
 have hR : Hid (R = c.persE l):=by unfold Hid;rw [HR.out];unfold Qd.archE;rw [if_neg (by rw [hck];simp),if_neg hlim]
 have g1 : decide (32 < l.length) = false:=zf hlim;clear HR hck;have hno : Hid (∀ k,k < l.length → c.perOk (l.getD k Qp) = false → R = 83):=fun k hk h => by rw [hR.out];unfold Qd.persE;rw [if_neg (by rw [Co hk h];decide)]
 have hyes : Hid ((∀ k,k < l.length → c.perOk (l.getD k Qp) = true) → R = 0):=fun h => by rw [hR.out];unfold Qd.persE;rw [if_pos (Cp h)]
 clear hR;obtain ⟨g,hg⟩:=Qe (fun i => l.getD i Qp);have hg' : ∀ i,l.getD i Qp = g i:=fun i => by rw [hg]
 simp only [hg'] at hD hat0 hno hyes;clear hg hg';generalize l.length = n at *;have hat:=zh hat0;clear hat0
 go_enter Tryz.func82,Tryz.ntmps82
 go_upto_region 1 with fail
 obtain ⟨v,b1,E,B1,hbr,hv,hb1⟩:=J4 w 25 #[.slice A c.nk ca,.slice A' c.ny cb];rw [← hv,← hb1];clear hv hb1;have C:=hC.ext E;clear hC;obtain ⟨k0,k1,kl⟩:=Qb.d2 B1;go_upto_region 6 with (go_at_call 129;refine zc (NV _ C) ?_;rintro e w1 ⟨rfl,hx⟩;replace E:=E.trans hx;replace C:=C.ext hx;replace B1:=B1.ext hx;clear hx k0 k1 kl;obtain ⟨k0,k1⟩:=B1.c2;have kl:=B1.lt)
 clear NV g1
 go_loopw [5] (fun i wr => ∃ k : Nat,k ≤ n ∧ i = .int .i64 k ∧ Hid (∀ j,j < k → c.perOk (g j) = true) ∧ Qc w1 wr) (fun i _ => n - (intOf i).toNat)
 case atStart => exact ⟨0,Nat.zero_le _,rfl,fun j h => absurd h Qa,Qc.refl _⟩
 case round =>
  obtain ⟨k,hk,rfl,hall,hE⟩:=hrel;obtain ⟨wo,rfl⟩:=Qe wr;clear k0 k1 kl;have B1o:=B1.ext hE;obtain ⟨k0,k1,kl⟩:=Qb.d2 B1o;by_cases hlt : k < n
  ·obtain ⟨b,off,rfl,hb,hc⟩:=(hD.ext (E.trans hE)) Qa;obtain ⟨c0,c1,c2,c3,c4,c5,c6,c7,c8,c9,c10,c11⟩:=L4 hc hlt;clear hc;have P1:=(hat.out k hlt).ext (E.trans hE)
   have hall' : Hid (c.perOk (g k) = true → ∀ j,j < k + 1 → c.perOk (g j) = true):=fun h j hj => by
    by_cases e2 : j = k
    ·subst e2;exact h
    ·exact hall.out j Qa
   have hbad:=fun h => hno.out k hlt h
   have C2:=C.ext hE;clear hat hD hno hyes hall;generalize vo k = v1 at *;generalize vd k = v2 at *;generalize vc k = v3 at *;obtain ⟨t1,s1,e1,_⟩:=id P1.o;subst e1;obtain ⟨t2,s2,_,e2,_⟩:=id P1.d;subst e2;obtain ⟨t3,s3,e3,_⟩:=id P1.c;subst e3;have NS:=fun w h1 h2 => NP w (g k) (.slice t1 (g k).o.length s1) (.slice t2 (g k).d.length s2) (.slice t3 (g k).c.length s3) h1 h2
   clear NP;cases hq : c.perOk (g k)
   ·have hr:=hbad hq;rw [hq] at NS;clear hbad hall' hq;go_upto_region 8 with fail
    have n1:=fun u : XW _ => NS _ (C2.ext u.e) (P1.ext u.e)
    refine Qy wo ?_;intro w2 h2;clear n1;obtain ⟨hcbw2,hfbw2,hzbw2,hzw2⟩:=Qv wo h2;go_wp2;go_ret;exact ⟨by rw [hr];rfl,(E.trans hE).trans h2⟩
   ·have hall2:=zh (hall'.out hq);rw [hq] at NS;clear hbad hall' hq;go_upto_region 8 with fail
    have n1:=fun u : XW _ => NS _ (C2.ext u.e) (P1.ext u.e)
    refine Qy wo ?_;intro w2 h2;clear n1;obtain ⟨hcbw2,hfbw2,hzbw2,hzw2⟩:=Qv wo h2;go_wp2;exact ⟨⟨k + 1,Qa,by go_num,hall2,hE.trans h2⟩,zi⟩
  ·obtain rfl : k = n:=Qa;have hr:=hyes.out hall.out;clear hno hyes hall hat;go_wp2;go_ret;exact ⟨by rw [hr];rfl,E.trans hE⟩
theorem Ft {w : World} {base k : Nat} {v : Value} {l : List Lt} (h : w.ownsRow base 85 2 v k (l.flatMap Jq)) : Yh w base v l:=by
 have hk:=h.1;rw [Fk] at hk;obtain rfl : k = l.length:=Qa;exact h
theorem Fs (w : World) (b : Nat) : Yh w b (.slice none 0 0) []:=World.ownsRow_nil _ _ _ _
theorem Qe5 (v1 v2 : Value) (a b : List Lt) (w : World) (h1 : Zl w v1 a) (h2 : Zl w v2 b) :
  Calls Tryz.prog 19 #[v1,v2] w fun e w' => ∃ F k m,e = .returned (.tuple #[.slice F k m,.int .i64 (Jh 1 a b)]) ∧ Qc w w' ∧ Yh w' w.heap.size (.slice F k m) (Yj 1 a b):=by
 obtain ⟨T,cap,rfl,hT,hcap,hmax,_⟩:=h1;obtain ⟨S,cm,rfl,hS,hcm,hmm,_⟩:=h2;refine zc (Ck T a.length cap (Q8 a) S b.length cm (Q8 b) w hT hcap (Nat.le_trans hcap (Nat.le_trans hmax zD)) hS hcm (Nat.le_trans hcm (Nat.le_trans hmm zD))) ?_;rintro e w' ⟨F,k,c,rfl,hx,ho⟩;exact ⟨F,k,c,rfl,hx,Ft ho⟩
theorem Qnw (v1 v2 : Value) (a b : List Lt) (w : World) (h1 : Zl w v1 a) (h2 : Zl w v2 b) :
  Calls Tryz.prog 108 #[v1,v2] w fun e w' => ∃ F k m,e = .returned (.tuple #[.slice F k m,.int .i64 (Jh (-1) a b)]) ∧ Qc w w' ∧ Yh w' w.heap.size (.slice F k m) (Yj (-1) a b):=by
 obtain ⟨T,cap,rfl,hT,hcap,hmax,_⟩:=h1;obtain ⟨S,cm,rfl,hS,hcm,hmm,_⟩:=h2;refine zc (Qd0 T a.length cap (Q8 a) S b.length cm (Q8 b) w hT hcap (Nat.le_trans hcap (Nat.le_trans hmax zD)) hS hcm (Nat.le_trans hcm (Nat.le_trans hmm zD))) ?_;rintro e w' ⟨F,k,c,rfl,hx,ho⟩;exact ⟨F,k,c,rfl,hx,Ft ho⟩
theorem Qfx (vo vd : Value) (o : List Lt) (d : List Dl) (w : World) (hO : Zl w vo o) (hD : Va w vd d) (ho : o.length ≤ 1000000) :
  Calls Tryz.prog 61 #[vo,vd] w fun e w' => ∃ v',e = .returned (.tuple #[v',.int .i64 (Zw o d).2]) ∧ Qc w w' ∧ Yh w' w.heap.size v' (Zw o d).1:=by
 obtain ⟨D,cap,vs,rfl,hD,hcap,hmax,_,hat⟩:=hD;have hn : d.length ≤ 9223372036854775807:=Nat.le_trans hcap (Nat.le_trans hmax zD);have NC:=El vo o w hO ho;obtain ⟨A0,cc0,rfl,_⟩:=id hO;obtain ⟨R,hR⟩:=Qe (Zw o d);rw [← hR];replace hR:=zh hR
 go_enter Tryz.func61,Tryz.ntmps61
 go_upto_region 2 with (go_at_call 59;refine zc (NC) ?_;rintro e w1 ⟨v0,rfl,h1,hown⟩)
 have hS0 : Yh w1 w.heap.size v0 o:=hown;obtain ⟨F0,m0,rfl⟩:=Jn hown;clear NC hown hO;go_upto_region 3 with fail
 obtain ⟨n,hnl⟩:=Qe (d.length);rw [← hnl] at hn hD hat hcap ⊢;replace hnl:=zh hnl;obtain ⟨g,hg⟩:=Qe (fun i => d.getD i Zd);have hg' : ∀ i,d.getD i Zd = g i:=fun i => by rw [hg]
 have hdr : Hid (∀ s k,k < n → Zw s (d.drop k) = if Jh (Xg (g k).i) s (g k).l ≠ 0 then ([],Jh (Xg (g k).i) s (g k).l) else Zw (Yj (Xg (g k).i) s (g k).l) (d.drop (k + 1))):=fun s k hk => by
  rw [Bj s (by rw [← hnl.out];exact hk),hg']
 simp only [hg'] at hD hat;clear hg hg';replace hat:=zh hat;have hD1:=hD.ext h1
 go_loopw [6,16] (fun sv iv wr => ∃ (k : Nat) (s : List Lt),k ≤ n ∧ iv = .int .i64 k ∧ Yh wr w.heap.size sv s ∧ Hid (R = Zw s (d.drop k)) ∧ Qc w wr) (fun _ i _ => n - (intOf i).toNat)
 case atStart => exact ⟨0,o,Nat.zero_le _,rfl,hS0,by unfold Hid;rw [hR.out];rfl,h1⟩
 case round =>
  clear hS0;obtain ⟨k,s,hk,rfl,hS,hrun,hE⟩:=hrel;obtain ⟨wo,rfl⟩:=Qe wr;by_cases hlt : k < n
  ·obtain ⟨b,off,rfl,hb,hc⟩:=(hD.ext hE) Qa;have hL:=(hat.out k hlt).ext hE;obtain ⟨c0,c1,c2,c3,c4,c5,c6⟩:=zp7 hc hlt;have HS:=zh (hdr.out s k hlt);obtain ⟨VL,hvl⟩:=Qe (vs k);rw [← hvl] at c6 hL;clear hvl hc hdr hat hR hD hD1;obtain ⟨TL,cl,hVL,_⟩:=id hL;subst hVL;obtain ⟨AS,cs,hsv⟩:=Jn hS;subst hsv;obtain ⟨SD,hSD⟩:=Qe (Zw s (d.drop k));rw [← hSD] at HS hrun;clear hSD;go_upto_region 5 with fail
   obtain ⟨v3,hv⟩:=Qe (wo.alloc (.cells #[.int .i64 (g k).on.y,.int .i64 (g k).on.m,.bool (g k).on.s,.int .i64 (g k).on.d,.bool (g k).i,.string (g k).w,.slice TL (g k).l.length cl] 57));rw [← hv];have E3 : Qc wo v3:=by rw [hv];exact (Qc.refl _).alloc _
   have H3 : Qb v3 wo.heap.size 57 #[.int .i64 (g k).on.y,.int .i64 (g k).on.m,.bool (g k).on.s,.int .i64 (g k).on.d,.bool (g k).i,.string (g k).w,.slice TL (g k).l.length cl]:=by rw [hv];exact Qb.new _ _ _
   clear hv;generalize wo.heap.size = b3 at *;clear c0 c1 c2 c3 c4 c5 c6;replace hL:=hL.ext E3;replace hS : Yh v3 w.heap.size _ s:=Jf hS E3;replace hE:=hE.trans E3;clear E3;have NA:=fun h1 h2 => Qe5 (.slice AS s.length cs) (.slice TL (g k).l.length cl) s (g k).l v3 h1 h2
   have NB:=fun h1 h2 => Qnw (.slice AS s.length cs) (.slice TL (g k).l.length cl) s (g k).l v3 h1 h2
   obtain ⟨q0,q1,q2,q3,q4,q5,q6,lq⟩:=Qb.d7 H3;cases hi : (g k).i
   ·have NX:=NB (Uy hS) hL;rw [hi] at HS;have HS2 : Hid (SD = if Jh (-1) s (g k).l ≠ 0 then ([],Jh (-1) s (g k).l) else Zw (Yj (-1) s (g k).l) (d.drop (k + 1))):=HS;rw [hi] at q4;clear HS hi;generalize hce : Jh (-1) s (g k).l = E1 at *;generalize Yj (-1) s (g k).l = L1 at *;by_cases e0 : E1 = 0
    ·subst e0;have HS3:=zh (HS2.out.trans (if_neg (by simp)));clear HS2 hce;go_wp2_with (first | (go_at_call 108;(with_reducible refine zc (NX) ?_);rintro e w6 ⟨F6,k6,m6,rfl,h6,L6⟩) | (go_at_fn 108;(with_reducible refine zc (NX) ?_);rintro e w6 ⟨F6,k6,m6,rfl,h6,L6⟩));exact ⟨⟨k + 1,L1,Qa,by go_num,U4 L6 hE.size,zh (hrun.out.trans HS3.out),hE.trans h6⟩,zi⟩
    ·have g0 : (E1 == 0) = false := zb e0;have g0n : (E1 != 0) = true := by rw [bne, g0]; rfl
     have HS3:=zh (hrun.out.trans (HS2.out.trans (if_pos e0)));clear HS2 hrun hce e0;go_wp2_with (first | (go_at_call 108;(with_reducible refine zc (NX) ?_);rintro e w6 ⟨F6,k6,m6,rfl,h6,L6⟩) | (go_at_fn 108;(with_reducible refine zc (NX) ?_);rintro e w6 ⟨F6,k6,m6,rfl,h6,L6⟩));go_ret2;exact ⟨_,by rw [HS3.out];rfl,hE.trans h6,by rw [HS3.out];exact Fs _ _⟩
   ·have NX:=NA (Uy hS) hL;rw [hi] at HS;have HS2 : Hid (SD = if Jh 1 s (g k).l ≠ 0 then ([],Jh 1 s (g k).l) else Zw (Yj 1 s (g k).l) (d.drop (k + 1))):=HS;rw [hi] at q4;clear HS hi;generalize hce : Jh 1 s (g k).l = E1 at *;generalize Yj 1 s (g k).l = L1 at *;by_cases e0 : E1 = 0
    ·subst e0;have HS3:=zh (HS2.out.trans (if_neg (by simp)));clear HS2 hce;go_wp2_with (first | (go_at_call 19;(with_reducible refine zc (NX) ?_);rintro e w6 ⟨F6,k6,m6,rfl,h6,L6⟩) | (go_at_fn 19;(with_reducible refine zc (NX) ?_);rintro e w6 ⟨F6,k6,m6,rfl,h6,L6⟩));exact ⟨⟨k + 1,L1,Qa,by go_num,U4 L6 hE.size,zh (hrun.out.trans HS3.out),hE.trans h6⟩,zi⟩
    ·have g0 : (E1 == 0) = false := zb e0;have g0n : (E1 != 0) = true := by rw [bne, g0]; rfl
     have HS3:=zh (hrun.out.trans (HS2.out.trans (if_pos e0)));clear HS2 hrun hce e0;go_wp2_with (first | (go_at_call 19;(with_reducible refine zc (NX) ?_);rintro e w6 ⟨F6,k6,m6,rfl,h6,L6⟩) | (go_at_fn 19;(with_reducible refine zc (NX) ?_);rintro e w6 ⟨F6,k6,m6,rfl,h6,L6⟩));go_ret2;exact ⟨_,by rw [HS3.out];rfl,hE.trans h6,by rw [HS3.out];exact Fs _ _⟩
  ·obtain rfl : k = n:=Qa
   have hr : Hid (R = (s,0)):=by
    unfold Hid;rw [hrun.out,hnl.out,List.drop_length];rfl
   clear hrun hdr hat hR;go_wp2;go_ret2;exact ⟨_,by rw [hr.out];rfl,hE,by rw [hr.out];exact hS⟩
theorem Qe4 (v1 v2 : Value) (a b : List Lt) (w : World) (h1 : Zl w v1 a) (h2 : Zl w v2 b) :
  Calls Tryz.prog 103 #[v1,v2] w fun e w' => ∃ F k m,e = .returned (.tuple #[.slice F k m,.int .i64 (Jh 1 a b)]) ∧ Qc w w' ∧ Yh w' w.heap.size (.slice F k m) (Yj 1 a b):=by
 obtain ⟨T,cap,rfl,hT,hcap,hmax,_⟩:=h1;obtain ⟨S,cm,rfl,hS,hcm,hmm,_⟩:=h2;refine zc (Qe6 T a.length cap (Q8 a) S b.length cm (Q8 b) w hT hcap (Nat.le_trans hcap (Nat.le_trans hmax zD)) hS hcm (Nat.le_trans hcm (Nat.le_trans hmm zD))) ?_;rintro e w' ⟨F,k,c,rfl,hx,ho⟩;exact ⟨F,k,c,rfl,hx,Ft ho⟩
theorem Qnv (v1 v2 : Value) (a b : List Lt) (w : World) (h1 : Zl w v1 a) (h2 : Zl w v2 b) :
  Calls Tryz.prog 104 #[v1,v2] w fun e w' => ∃ F k m,e = .returned (.tuple #[.slice F k m,.int .i64 (Jh (-1) a b)]) ∧ Qc w w' ∧ Yh w' w.heap.size (.slice F k m) (Yj (-1) a b):=by
 obtain ⟨T,cap,rfl,hT,hcap,hmax,_⟩:=h1;obtain ⟨S,cm,rfl,hS,hcm,hmm,_⟩:=h2;refine zc (Qnx T a.length cap (Q8 a) S b.length cm (Q8 b) w hT hcap (Nat.le_trans hcap (Nat.le_trans hmax zD)) hS hcm (Nat.le_trans hcm (Nat.le_trans hmm zD))) ?_;rintro e w' ⟨F,k,c,rfl,hx,ho⟩;exact ⟨F,k,c,rfl,hx,Ft ho⟩
theorem Qfv (p : Pd) (vo vd vc : Value) (w : World) (hP : Wb w p vo vd vc) (hsz : p.o.length * 24 ≤ 140737488351232) :
  Calls Tryz.prog 52 #[.agg #[.string p.h,.int .i64 p.a.y,.int .i64 p.a.m,.bool p.a.s,.int .i64 p.a.d,.int .i64 p.b.y,.int .i64 p.b.m,.bool p.b.s,.int .i64 p.b.d,vo,vd,vc]] w fun e w' => ∃ v',e = .returned (.tuple #[v',.int .i64 (Zw p.o p.d).2]) ∧ Qc w w' ∧ Yh w' w.heap.size v' (Zw p.o p.d).1:=by
 obtain ⟨hO,hDD,hCC⟩:=hP;obtain ⟨T0,cc0,rfl,_⟩:=id hO;obtain ⟨T1,cc1,rfl,_⟩:=id hCC;obtain ⟨D,cap,vs,rfl,hD,hcap,hmax,_,hat⟩:=hDD;have hn : p.d.length ≤ 9223372036854775807:=Nat.le_trans hcap (Nat.le_trans hmax zD);obtain ⟨n,hnl⟩:=Qe (p.d.length);rw [← hnl] at hn hD hat hcap;replace hnl:=zh hnl;obtain ⟨R,hR⟩:=Qe (Zw p.o p.d);rw [← hR];replace hR:=zh hR;have NC:=fun w h => G5 (.slice T0 p.o.length cc0) p.o w h hsz
 rw [← hnl.out]
 go_enter Tryz.func52,Tryz.ntmps52
 go_upto_region 1 with fail
 obtain ⟨v,b1,E,B1,hbr,hv,hb1⟩:=J4 w 55 #[.string p.h,.int .i64 p.a.y,.int .i64 p.a.m,.bool p.a.s,.int .i64 p.a.d,.int .i64 p.b.y,.int .i64 p.b.m,.bool p.b.s,.int .i64 p.b.d,.slice T0 p.o.length cc0,.slice D n cap,.slice T1 p.c.length cc1];rw [← hv,← hb1];clear hv hb1;obtain ⟨k0,k1,k2,k3,k4,k5,k6,k7,k8,k9,k10,k11,kl⟩:=Qb.d12 B1;have O1:=hO.ext E;go_upto_region 2 with (go_at_call 77;refine zc (NC _ O1) ?_;rintro e w1 ⟨v0,rfl,h1,hS0⟩)
 replace hS0 : Yh w1 w.heap.size v0 p.o:=U4 hS0 E.size;obtain ⟨F0,m0,hv0⟩:=Jn hS0;subst hv0;clear k0 k1 k2 k3 k4 k5 k6 k7 k8 k9 k10 k11 kl;replace E:=E.trans h1;replace B1:=B1.ext h1;clear h1 NC O1 hO hCC;obtain ⟨g,hg⟩:=Qe (fun i => p.d.getD i Zd);have hg' : ∀ i,p.d.getD i Zd = g i:=fun i => by rw [hg]
 have hdr : Hid (∀ s k,k < n → Zw s (p.d.drop k) = if Jh (Xg (g k).i) s (g k).l ≠ 0 then ([],Jh (Xg (g k).i) s (g k).l) else Zw (Yj (Xg (g k).i) s (g k).l) (p.d.drop (k + 1))):=fun s k hk => by
  rw [Bj s (by rw [← hnl.out];exact hk),hg']
 simp only [hg'] at hD hat;clear hg hg';replace hat:=zh hat;have hD1:=hD.ext E;go_upto_region 3 with fail
 go_loopw [4,5] (fun sv iv wr => ∃ (k : Nat) (s : List Lt),k ≤ n ∧ iv = .int .i64 k ∧ Yh wr w.heap.size sv s ∧ Hid (R = Zw s (p.d.drop k)) ∧ Qc w1 wr) (fun _ i _ => n - (intOf i).toNat)
 case atStart => exact ⟨0,p.o,Nat.zero_le _,rfl,hS0,by unfold Hid;rw [hR.out];rfl,Qc.refl _⟩
 case round =>
  clear hS0;obtain ⟨k,s,hk,rfl,hS,hrun,hE⟩:=hrel;obtain ⟨wo,rfl⟩:=Qe wr;have B:=B1.ext hE;obtain ⟨k0,k1,k2,k3,k4,k5,k6,k7,k8,k9,k10,k11,kl⟩:=Qb.d12 B;obtain ⟨AS,cs,hsv⟩:=Jn hS;subst hsv;by_cases hlt : k < n
  ·obtain ⟨b, off, rfl, hb, hc⟩ := (hD1.ext hE) Qa;have hL := (hat.out k hlt).ext (E.trans hE);have c4 : wo.cell? ⟨b, off + k * 7 + 4, none⟩ = some (.bool (g k).i) := by simpa [Zm] using hc k 4 _ hlt rfl
   have c6 : wo.cell? ⟨b,off + k * 7 + 6,none⟩ = some (vs k):=by simpa [Zm] using hc k 6 _ hlt rfl
   have HS:=zh (hdr.out s k hlt);obtain ⟨VL,hvl⟩:=Qe (vs k);rw [← hvl] at c6 hL;clear hvl hc hdr hat hR hD hD1;obtain ⟨TL,cl,hVL,_⟩:=id hL;subst hVL;obtain ⟨SD,hSD⟩:=Qe (Zw s (p.d.drop k));rw [← hSD] at HS hrun;clear hSD;have hSA:=Uy hS;cases hi : (g k).i
   ·skip
    have NX:=fun w h1 h2 => Qnv (.slice AS s.length cs) (.slice TL (g k).l.length cl) s (g k).l w h1 h2
    rw [hi] at HS;have HS2 : Hid (SD = if Jh (-1) s (g k).l ≠ 0 then ([],Jh (-1) s (g k).l) else Zw (Yj (-1) s (g k).l) (p.d.drop (k + 1))):=HS;rw [hi] at c4;clear HS hi;generalize hce : Jh (-1) s (g k).l = E1 at *;generalize Yj (-1) s (g k).l = L1 at *;by_cases e0 : E1 = 0
    ·subst e0;have HS3:=zh (HS2.out.trans (if_neg (by simp)));clear HS2 hce;go_wp2_with (go_at_call 104;refine zc (NX _ hSA hL) ?_;rintro e w6 ⟨F6,k6',m6,rfl,h6,L6⟩);exact ⟨⟨k + 1,L1,Qa,by go_num,U4 L6 (Nat.le_trans E.size hE.size),zh (hrun.out.trans HS3.out),hE.trans h6⟩,zi⟩
    ·have g0 : (E1 == 0) = false := zb e0;have g0n : (E1 != 0) = true := by rw [bne, g0]; rfl
     have HS3:=zh (hrun.out.trans (HS2.out.trans (if_pos e0)));clear HS2 hrun hce e0;go_wp2_with (go_at_call 104;refine zc (NX _ hSA hL) ?_;rintro e w6 ⟨F6,k6',m6,rfl,h6,L6⟩);go_ret2;exact ⟨_,by rw [HS3.out];rfl,E.trans (hE.trans h6),by rw [HS3.out];exact Fs _ _⟩
   ·skip
    have NX:=fun w h1 h2 => Qe4 (.slice AS s.length cs) (.slice TL (g k).l.length cl) s (g k).l w h1 h2
    rw [hi] at HS;have HS2 : Hid (SD = if Jh (1) s (g k).l ≠ 0 then ([],Jh (1) s (g k).l) else Zw (Yj (1) s (g k).l) (p.d.drop (k + 1))):=HS;rw [hi] at c4;clear HS hi;generalize hce : Jh (1) s (g k).l = E1 at *;generalize Yj (1) s (g k).l = L1 at *;by_cases e0 : E1 = 0
    ·subst e0;have HS3:=zh (HS2.out.trans (if_neg (by simp)));clear HS2 hce;go_wp2_with (go_at_call 103;refine zc (NX _ hSA hL) ?_;rintro e w6 ⟨F6,k6',m6,rfl,h6,L6⟩);exact ⟨⟨k + 1,L1,Qa,by go_num,U4 L6 (Nat.le_trans E.size hE.size),zh (hrun.out.trans HS3.out),hE.trans h6⟩,zi⟩
    ·have g0 : (E1 == 0) = false := zb e0;have g0n : (E1 != 0) = true := by rw [bne, g0]; rfl
     have HS3:=zh (hrun.out.trans (HS2.out.trans (if_pos e0)));clear HS2 hrun hce e0;go_wp2_with (go_at_call 103;refine zc (NX _ hSA hL) ?_;rintro e w6 ⟨F6,k6',m6,rfl,h6,L6⟩);go_ret2;exact ⟨_,by rw [HS3.out];rfl,E.trans (hE.trans h6),by rw [HS3.out];exact Fs _ _⟩
  ·obtain rfl : k = n:=Qa
   have hr : Hid (R = (s,0)):=by
    unfold Hid;rw [hrun.out,hnl.out,List.drop_length];rfl
   clear hrun hdr hat hR;go_wp2;go_ret2;exact ⟨_,by rw [hr.out];rfl,E.trans hE,by rw [hr.out];exact hS⟩
theorem Po {W : World} {b : Nat} {t : TypeId} {v0 v1 v2 v3 v4 v5 v6 v7 v8 v9 v10 v11 : Value} (h : Qb W b t #[v0,v1,v2,v3,v4,v5,v6,v7,v8,v9,v10,v11]) (u0 u1 u2 u3 u4 u5 u6 u7 u8 u9 u10 u11 : Value) : Qb ((((((((((((W.setCell ⟨b,0,none⟩ u0).setCell ⟨b,1,none⟩ u1).setCell ⟨b,2,none⟩ u2).setCell ⟨b,3,none⟩ u3).setCell ⟨b,4,none⟩ u4).setCell ⟨b,5,none⟩ u5).setCell ⟨b,6,none⟩ u6).setCell ⟨b,7,none⟩ u7).setCell ⟨b,8,none⟩ u8).setCell ⟨b,9,none⟩ u9).setCell ⟨b,10,none⟩ u10).setCell ⟨b,11,none⟩ u11) b t #[u0,u1,u2,u3,u4,u5,u6,u7,u8,u9,u10,u11]:=by unfold Qb at h ⊢;simp [World.setCell,Array.getElem?_modify,h]
theorem S9 {w W : World} {b : Nat} (h : Qc w W) (hb : w.heap.size ≤ b) (u0 u1 u2 u3 u4 u5 u6 u7 u8 u9 u10 u11 : Value) : Qc w ((((((((((((W.setCell ⟨b,0,none⟩ u0).setCell ⟨b,1,none⟩ u1).setCell ⟨b,2,none⟩ u2).setCell ⟨b,3,none⟩ u3).setCell ⟨b,4,none⟩ u4).setCell ⟨b,5,none⟩ u5).setCell ⟨b,6,none⟩ u6).setCell ⟨b,7,none⟩ u7).setCell ⟨b,8,none⟩ u8).setCell ⟨b,9,none⟩ u9).setCell ⟨b,10,none⟩ u10).setCell ⟨b,11,none⟩ u11):=((((((((((((h.setCell (p:=⟨b,0,none⟩) hb u0).setCell (p:=⟨b,1,none⟩) hb u1).setCell (p:=⟨b,2,none⟩) hb u2).setCell (p:=⟨b,3,none⟩) hb u3).setCell (p:=⟨b,4,none⟩) hb u4).setCell (p:=⟨b,5,none⟩) hb u5).setCell (p:=⟨b,6,none⟩) hb u6).setCell (p:=⟨b,7,none⟩) hb u7).setCell (p:=⟨b,8,none⟩) hb u8).setCell (p:=⟨b,9,none⟩) hb u9).setCell (p:=⟨b,10,none⟩) hb u10).setCell (p:=⟨b,11,none⟩) hb u11)
theorem Qcn {W : World} {b b' : Nat} {t : TypeId} {cs : Array Value} (h : Qb W b' t cs) (hne : b' ≠ b) (u0 u1 u2 u3 u4 u5 u6 u7 u8 u9 u10 u11 : Value) : Qb ((((((((((((W.setCell ⟨b,0,none⟩ u0).setCell ⟨b,1,none⟩ u1).setCell ⟨b,2,none⟩ u2).setCell ⟨b,3,none⟩ u3).setCell ⟨b,4,none⟩ u4).setCell ⟨b,5,none⟩ u5).setCell ⟨b,6,none⟩ u6).setCell ⟨b,7,none⟩ u7).setCell ⟨b,8,none⟩ u8).setCell ⟨b,9,none⟩ u9).setCell ⟨b,10,none⟩ u10).setCell ⟨b,11,none⟩ u11) b' t cs:=(Qg (Qg (Qg (Qg (Qg (Qg (Qg (Qg (Qg (Qg (Qg (Qg h hne 0 u0) hne 1 u1) hne 2 u2) hne 3 u3) hne 4 u4) hne 5 u5) hne 6 u6) hne 7 u7) hne 8 u8) hne 9 u9) hne 10 u10) hne 11 u11)
end
section
def Qh {α : Type} (f : Nat → α) (k : Nat) (v : α) : Nat → α:=fun x => if x = k then v else f x
theorem Z9 {α : Type} (f : Nat → α) (k : Nat) (v : α) : Qh f k v k = v:=by simp [Qh]
theorem Zp {α : Type} (f : Nat → α) {k x : Nat} (v : α) (h : x ≠ k) : Qh f k v x = f x:=by simp [Qh,h]
abbrev Mt:=(Nat → Int) × (Nat → Int)
abbrev Bl:=Nat → Bool
def Xf (s : Mt) (k i : Nat) : Mt:=(Qh s.1 k i,Qh s.2 i k)
def Z4 (rec : Mt → Bl → Nat → Option Mt × Bl) (i : Nat) : List Nat → Mt → Bl → Option Mt × Bl
 | [],_,b => (none,b)
 | k :: r,m,b =>
  if b k then Z4 rec i r m b
  else if m.1 k < 0 then (some (Xf m k i),Qh b k true)
  else match rec m (Qh b k true) (m.1 k).toNat with
   | (some m',b') => (some (Xf m' k i),b')
   | (none,b') => Z4 rec i r m b'
def Q4 (adj : Nat → List Nat) : Nat → Mt → Bl → Nat → Option Mt × Bl
 | 0,_,b,_ => (none,b)
 | n + 1,m,b,i => Z4 (Q4 adj n) i (adj i) m b
def J7 : Nat → Bl → Nat
 | 0,_ => 0
 | n + 1,b => J7 n b + (if b n then 0 else 1)
theorem Mf : ∀ (n : Nat) (b : Bl),J7 n b ≤ n
 | 0,_ => Nat.le_refl _
 | n + 1,b => by have:=Mf n b;unfold J7;split <;> omega
theorem G3 {b b' : Bl} (h : ∀ k,b k = true → b' k = true) : ∀ n,J7 n b' ≤ J7 n b
 | 0 => Nat.le_refl _
 | n + 1 => by
  have:=G3 h n;unfold J7;by_cases e : b n = true
  ·simp [e,h n e,this]
  ·by_cases e' : b' n = true <;> simp [e,e'] <;> omega
theorem G4 {b : Bl} {k : Nat} (hb : b k = false) : ∀ {n : Nat},k < n → J7 n (Qh b k true) + 1 = J7 n b
 | n + 1,hk => by
  unfold J7;by_cases e : n = k
  ·subst e
   have h : J7 n (Qh b n true) = J7 n b:=by
    have : ∀ m,m ≤ n → J7 m (Qh b n true) = J7 m b:=fun m => by
     induction m with
     | zero => intro _;rfl
     | succ m ih => intro hm;unfold J7;rw [ih Qa,Zp b true (show m ≠ n by omega)]
    exact this n (Nat.le_refl _)
   rw [h,Z9,hb];simp
  ·have:=G4 hb (n:=n) Qa;rw [Zp b true e];omega
theorem Su {b : Bl} : ∀ {n : Nat},J7 n b = 0 → ∀ k,k < n → b k = true
 | n + 1,h,k,hk => by
  unfold J7 at h;by_cases e : k = n
  ·subst e;cases hb : b k
   ·rw [hb] at h;simp at h
   ·rfl
  ·exact Su (n:=n) Qa k Qa
theorem Af {rec : Mt → Bl → Nat → Option Mt × Bl} {i : Nat} {m : Mt} {b : Bl} : ∀ {l : List Nat},(∀ k ∈ l,b k = true) → Z4 rec i l m b = (none,b)
 | [],_ => rfl
 | k :: r,h => by
  unfold Z4;rw [if_pos (h k List.mem_cons_self)];exact Af fun x hx => h x (List.mem_cons_of_mem _ hx)
theorem Ak {adj : Nat → List Nat} {ni n : Nat} {m : Mt} {b : Bl} {i : Nat} (hi : ∀ k ∈ adj i,k < ni) (h : J7 ni b ≤ n) : Q4 adj n m b i = Z4 (Q4 adj (n - 1)) i (adj i) m b:=by
 cases n with
 | zero => rw [Af fun k hk => Su (Nat.le_zero.1 h) k (hi k hk)];rfl
 | succ n => rfl
theorem Ty {rec : Mt → Bl → Nat → Option Mt × Bl} (hr : ∀ m b i k,b k = true → (rec m b i).2 k = true) {i : Nat} {m : Mt} : ∀ {l : List Nat} {b : Bl} {k : Nat},b k = true → (Z4 rec i l m b).2 k = true
 | [],_,_,h => h
 | x :: r,b,k,h => by
  have hu : Qh b x true k = true:=by
   by_cases e : k = x
   ·subst e;exact Z9 _ _ _
   ·rw [Zp b true e];exact h
  unfold Z4
  split
  ·exact Ty hr h
  split
  ·exact hu
  ·have h1:=hr m (Qh b x true) (m.1 x).toNat k hu;generalize rec m (Qh b x true) (m.1 x).toNat = R at *;obtain ⟨o,b'⟩:=R
   cases o with
   | none => exact Ty hr h1
   | some m' => exact h1
theorem Kg (adj : Nat → List Nat) : ∀ (n : Nat) (m : Mt) (b : Bl) (i k : Nat),b k = true → (Q4 adj n m b i).2 k = true
 | 0,_,_,_,_,h => h
 | n + 1,_,_,_,_,h => Ty (Kg adj n) h
def Tn (adj : Nat → List Nat) (m : Mt) (l : List Nat) (b b' : Bl) : Prop :=
 (∀ k ∈ l,b' k = true) ∧ (∀ k,b k = true → b' k = true) ∧ ∀ k,b' k = true → b k = false → 0 ≤ m.1 k ∧ ∀ k2 ∈ adj (m.1 k).toNat,b' k2 = true
theorem Tx {adj : Nat → List Nat} {ni n : Nat} {m : Mt} {i : Nat} (IH : ∀ b j b',J7 ni b ≤ n → Q4 adj n m b j = (none,b') → Tn adj m (adj j) b b') : ∀ {l : List Nat} {b b' : Bl},(∀ k ∈ l,k < ni) → J7 ni b ≤ n + 1 → Z4 (Q4 adj n) i l m b = (none,b') → Tn adj m l b b'
 | [],b,b',_,_,h => by
  obtain rfl : b = b':=by simpa [Z4] using h
  exact ⟨fun k hk => absurd hk (by simp),fun k h => h,fun k h h' => by rw [h] at h';exact absurd h' (by decide)⟩
 | k :: r,b,b',hl,hc,h => by
  unfold Z4 at h;have hr : ∀ x ∈ r,x < ni:=fun x hx => hl x (List.mem_cons_of_mem _ hx)
  split at h
  ·rename_i hb
   obtain ⟨h1,h2,h3⟩:=Tx IH hr hc h;refine ⟨fun x hx => ?_,h2,h3⟩;rcases List.mem_cons.1 hx with rfl | hx
   ·exact h2 _ hb
   ·exact h1 x hx
  rename_i hb
  split at h
  ·exact absurd h (by simp)
  rename_i hm
  have hb' : b k = false:=by simpa using hb
  have hcu:=G4 hb' (hl k List.mem_cons_self);have hmono:=Kg adj n m (Qh b k true) (m.1 k).toNat;generalize hR : Q4 adj n m (Qh b k true) (m.1 k).toNat = R at *;obtain ⟨o,b2⟩:=R
  cases o with
  | some m' => exact absurd h (by simp)
  | none =>
   obtain ⟨g1,g2,g3⟩:=IH (Qh b k true) (m.1 k).toNat b2 Qa hR
   have hbb : ∀ x,b x = true → Qh b k true x = true:=fun x hx => by
    by_cases e : x = k
    ·subst e;exact Z9 _ _ _
    ·rw [Zp b true e];exact hx
   obtain ⟨h1,h2,h3⟩:=Tx IH hr (Nat.le_trans (G3 (fun x hx => g2 x (hbb x hx)) ni) hc) h;have hk : b' k = true:=h2 k (g2 k (Z9 _ _ _));refine ⟨fun x hx => ?_,fun x hx => h2 x (g2 x (hbb x hx)),fun x hx hx' => ?_⟩
   ·rcases List.mem_cons.1 hx with rfl | hx
    ·exact hk
    ·exact h1 x hx
   ·by_cases e : x = k
    ·subst e;exact ⟨by omega,fun k2 hk2 => h2 k2 (g1 k2 hk2)⟩
    ·cases e2 : b2 x
     ·exact h3 x hx e2
     ·obtain ⟨q1,q2⟩:=g3 x e2 (by rw [Zp b true e];exact hx');exact ⟨q1,fun k2 hk2 => h2 k2 (q2 k2 hk2)⟩
theorem Al {adj : Nat → List Nat} {ni : Nat} (hadj : ∀ o,∀ k ∈ adj o,k < ni) {m : Mt} : ∀ (n : Nat) (b : Bl) (i : Nat) (b' : Bl),J7 ni b ≤ n → Q4 adj n m b i = (none,b') → Tn adj m (adj i) b b'
 | 0,b,i,b',hc,h => by
  obtain rfl : b = b':=by simpa [Q4] using h
  exact ⟨fun k hk => Su (Nat.le_zero.1 hc) k (hadj i k hk),fun k h => h,fun k h h' => by rw [h] at h';exact absurd h' (by decide)⟩
 | n + 1,b,i,b',hc,h => Tx (fun b j b' => Al hadj n b j b') (fun k hk => hadj i k hk) hc h
def Clo (adj : Nat → List Nat) (fx : Bl) (m : Nat → Int) (A R : Nat → Prop) : Prop:=(∀ o,A o → ∀ k ∈ adj o,R k ∨ fx k = true) ∧ ∀ k,R k → 0 ≤ m k ∧ A (m k).toNat
def Vu (adj : Nat → List Nat) (fx : Bl) (m : Nat → Int) (o : Nat) : Prop:=∃ A R,Clo adj fx m A R ∧ A o
theorem Ic {adj : Nat → List Nat} {ni n : Nat} {m : Mt} {fx : Bl} {i : Nat} (hadj : ∀ o,∀ k ∈ adj o,k < ni) (hc : J7 ni fx ≤ n) (h : (Q4 adj n m fx i).1 = none) : Vu adj fx m.1 i:=by
 obtain ⟨b',hb⟩ : ∃ b',Q4 adj n m fx i = (none,b'):=⟨(Q4 adj n m fx i).2,by rw [← h]⟩;obtain ⟨h1,h2,h3⟩:=Al hadj n fx i b' hc hb;refine ⟨fun o => o = i ∨ ∃ k,b' k = true ∧ fx k = false ∧ (m.1 k).toNat = o,fun k => b' k = true ∧ fx k = false,⟨fun o ho k hk => ?_,fun k hk => ?_⟩,.inl rfl⟩
 ·have hk' : b' k = true:=by
   rcases ho with rfl | ⟨k0,g1,g2,rfl⟩
   ·exact h1 k hk
   ·exact (h3 k0 g1 g2).2 k hk
  cases e : fx k
  ·exact .inl ⟨hk',e⟩
  ·exact .inr rfl
 ·exact ⟨(h3 k hk.1 hk.2).1,.inr ⟨k,hk.1,hk.2,rfl⟩⟩
theorem Ei {adj : Nat → List Nat} {fx : Bl} {m : Mt} {A R : Nat → Prop} (h : Clo adj fx m.1 A R) : ∀ (n : Nat) (b : Bl) (i : Nat),(∀ k,fx k = true → b k = true) → A i → (Q4 adj n m b i).1 = none
 | 0,_,_,_,_ => rfl
 | n + 1,b,i,hb,hi => by
  have go : ∀ (l : List Nat) (b : Bl),(∀ k ∈ l,k ∈ adj i) → (∀ k,fx k = true → b k = true) → (Z4 (Q4 adj n) i l m b).1 = none:=fun l => by
   induction l with
   | nil => intro b _ _;rfl
   | cons k r ih =>
    intro b hl hb;have hr : ∀ x ∈ r,x ∈ adj i:=fun x hx => hl x (List.mem_cons_of_mem _ hx)
    unfold Z4
    split
    ·exact ih b hr hb
    rename_i hbk
    have hR : R k:=by
     rcases h.1 i hi k (hl k List.mem_cons_self) with g | g
     ·exact g
     ·exact absurd (hb k g) hbk
    obtain ⟨g1,g2⟩:=h.2 k hR;rw [if_neg Qa]
    have hu : ∀ x,fx x = true → Qh b k true x = true:=fun x hx => by
     by_cases e : x = k
     ·subst e;exact Z9 _ _ _
     ·rw [Zp b true e];exact hb x hx
    have hn:=Ei h n (Qh b k true) (m.1 k).toNat hu g2;have hm:=fun x hx => Kg adj n m (Qh b k true) (m.1 k).toNat x (hu x hx)
    generalize Q4 adj n m (Qh b k true) (m.1 k).toNat = Q at *;obtain ⟨o,b2⟩:=Q;obtain rfl : o = none:=hn;exact ih b2 hr hm
  exact go (adj i) b (fun k hk => hk) hb
theorem Eh {adj : Nat → List Nat} {fx : Bl} {m : Mt} {A R : Nat → Prop} (h : Clo adj fx m.1 A R) : ∀ (n : Nat) (b : Bl) (i : Nat) (m' : Mt),(∀ k,fx k = true → b k = true) → (Q4 adj n m b i).1 = some m' → ∀ k,R k → m'.1 k = m.1 k
 | 0,_,_,_,_,hs => by simp [Q4] at hs
 | n + 1,b,i,m',hb,hs => by
  have go : ∀ (l : List Nat) (b : Bl),(∀ k,fx k = true → b k = true) → (Z4 (Q4 adj n) i l m b).1 = some m' → ∀ k,R k → m'.1 k = m.1 k:=fun l => by
   induction l with
   | nil => intro b _ hs;simp [Z4] at hs
   | cons k r ih =>
    intro b hb hs;unfold Z4 at hs
    split at hs
    ·exact ih b hb hs
    split at hs
    ·rename_i hm
     obtain rfl : Xf m k i = m':=by simpa using hs
     intro x hx;have:=(h.2 x hx).1;exact Zp _ _ (fun e => by subst e;omega)
    rename_i hm
    have hu : ∀ x,fx x = true → Qh b k true x = true:=fun x hx => by
     by_cases e : x = k
     ·subst e;exact Z9 _ _ _
     ·rw [Zp b true e];exact hb x hx
    have hk:=Eh h n (Qh b k true) (m.1 k).toNat;have hnn:=Ei h n (Qh b k true) (m.1 k).toNat hu;have hm2:=fun x hx => Kg adj n m (Qh b k true) (m.1 k).toNat x (hu x hx)
    generalize Q4 adj n m (Qh b k true) (m.1 k).toNat = Q at *;obtain ⟨o,b2⟩:=Q
    cases o with
    | none => exact ih b2 hm2 hs
    | some m1 =>
     obtain rfl : Xf m1 k i = m':=by simpa using hs
     intro x hx;have h1:=hk m1 hu rfl x hx;by_cases e : x = k
     ·subst e;exact absurd (hnn (h.2 x hx).2) (by simp)
     ·exact (Zp _ _ e).trans h1
  exact go (adj i) b hb hs
theorem Qhf {adj : Nat → List Nat} {fx : Bl} {m m' : Mt} {n i o : Nat} (hs : (Q4 adj n m fx i).1 = some m') (h : Vu adj fx m.1 o) : Vu adj fx m'.1 o:=by
 obtain ⟨A,R,hc,ho⟩:=h;refine ⟨A,R,⟨hc.1,fun k hk => ?_⟩,ho⟩;rw [Eh hc n fx i m' (fun _ h => h) hs k hk];exact hc.2 k hk
def Yb : Nat → (Nat → Int) → Int → Nat
 | 0,_,_ => 0
 | n + 1,m,x => Yb n m x + (if m n = x then 1 else 0)
theorem En {m m' : Nat → Int} {x : Int} : ∀ {n : Nat},(∀ k,k < n → m k = m' k) → Yb n m x = Yb n m' x
 | 0,_ => rfl
 | n + 1,h => by unfold Yb;rw [En fun k hk => h k Qa,h n Qa]
theorem Od (m : Nat → Int) {k : Nat} (v x : Int) : ∀ {n : Nat},k < n → Yb n (Qh m k v) x + (if m k = x then 1 else 0) = Yb n m x + (if v = x then 1 else 0)
 | n + 1,hk => by
  unfold Yb;by_cases e : n = k
  ·subst e;rw [En (m':=m) fun j hj => Zp m v Qa,Z9];omega
  ·have:=Od m v x (n:=n) (k:=k) Qa;rw [Zp m v e];omega
theorem Kj {m : Nat → Int} {x : Int} : ∀ {n : Nat},0 < Yb n m x → ∃ k,k < n ∧ m k = x
 | n + 1,h => by
  unfold Yb at h;by_cases e : m n = x
  ·exact ⟨n,by omega,e⟩
  ·rw [if_neg e] at h;obtain ⟨k,h1,h2⟩:=Kj (n:=n) Qa;exact ⟨k,by omega,h2⟩
theorem Lc {m : Nat → Int} {x : Int} {k : Nat} : ∀ {n : Nat},k < n → m k = x → 0 < Yb n m x
 | n + 1,hk,h => by
  unfold Yb;by_cases e : k = n
  ·subst e;rw [if_pos h];omega
  ·have:=Lc (n:=n) (show k < n by omega) h;omega
theorem Mc {m : Nat → Int} {x : Int} {k j : Nat} : ∀ {n : Nat},Yb n m x ≤ 1 → k < n → j < n → m k = x → m j = x → k = j
 | n + 1,h,hk,hj,h1,h2 => by
  unfold Yb at h;by_cases e : m n = x
  ·rw [if_pos e] at h;by_cases e1 : k = n
   ·by_cases e2 : j = n
    ·omega
    ·have:=Lc (n:=n) (show j < n by omega) h2;omega
   ·have:=Lc (n:=n) (show k < n by omega) h1;omega
  ·have h3 : k ≠ n:=fun e' => e (by rw [← e'];exact h1)
   have h4 : j ≠ n:=fun e' => e (by rw [← e'];exact h2)
   exact Mc (n:=n) Qa Qa Qa h1 h2
def Zx : Nat → Bl → (Nat → Int) → Nat
 | 0,_,_ => 0
 | n + 1,fx,m => Zx n fx m + (if fx n = false ∧ 0 ≤ m n then 1 else 0)
theorem Tb {fx fx' : Bl} {m m' : Nat → Int} : ∀ {n : Nat},(∀ k,k < n → fx k = fx' k ∧ (fx k = false → (0 ≤ m k ↔ 0 ≤ m' k))) → Zx n fx m = Zx n fx' m'
 | 0,_ => rfl
 | n + 1,h => by
  unfold Zx;rw [Tb fun k hk => h k Qa];obtain ⟨h1,h2⟩:=h n Qa;rw [← h1]
  congr 1
  by_cases e : fx n = false
  ·simp [e,h2 e]
  ·simp [e]
theorem Tc {fx : Bl} (m : Nat → Int) {k : Nat} (v : Int) (hf : fx k = false) : ∀ {n : Nat},k < n → Zx n fx (Qh m k v) + (if 0 ≤ m k then 1 else 0) = Zx n fx m + (if 0 ≤ v then 1 else 0)
 | n + 1,hk => by
  unfold Zx;by_cases e : n = k
  ·subst e;rw [Tb (fx':=fx) (m':=m) fun j hj => ⟨rfl,fun _ => by rw [Zp m v (show j ≠ n by omega)]⟩,Z9];simp [hf];omega
  ·have:=Tc m v hf (n:=n) (k:=k) Qa;rw [Zp m v e];omega
theorem Bk {fx : Bl} {m : Nat → Int} {k : Nat} (hf : fx k = false) (hm : 0 ≤ m k) : ∀ {n : Nat},k < n → Zx n (Qh fx k true) m + 1 = Zx n fx m
 | n + 1,hk => by
  unfold Zx;by_cases e : n = k
  ·subst e;rw [Tb (fx':=fx) (m':=m) fun j hj => ⟨Zp fx true (show j ≠ n by omega),fun _ => Iff.rfl⟩,Z9];simp [hf,hm]
  ·have:=Bk hf hm (n:=n) (k:=k) Qa;rw [Zp fx true e];omega
structure Vx (adj : Nat → List Nat) (ni : Nat) (fx : Bl) (m : Mt) (b : Bl) (i : Nat) (m' : Mt) : Prop where
 k : ∀ k,b k = true → m'.1 k = m.1 k
 a : ∀ k,m'.1 k = m.1 k ∨ (0 ≤ m'.1 k ∧ k ∈ adj (m'.1 k).toNat)
 c : ∀ x : Int,0 ≤ x → Yb ni m'.1 x = Yb ni m.1 x + (if x = i then 1 else 0)
 p : ∀ k,0 ≤ m.1 k → 0 ≤ m'.1 k
 s : Zx ni fx m'.1 = Zx ni fx m.1 + 1
theorem Qor {adj : Nat → List Nat} {ni : Nat} {fx b : Bl} {m : Mt} {k i : Nat} (hk : k ∈ adj i) (hn : k < ni) (hb : b k = false) (hf : ∀ x,fx x = true → b x = true) (hm : m.1 k < 0) : Vx adj ni fx m b i (Xf m k i):=by
 have hfk : fx k = false:=by
  cases e : fx k
  ·rfl
  ·rw [hf k e] at hb;exact absurd hb (by decide)
 refine ⟨fun x hx => Zp _ _ (fun e => by subst e;rw [hx] at hb;exact absurd hb (by decide)),fun x => ?_,fun x hx => ?_,fun x hx => ?_,?_⟩
 ·by_cases e : x = k
  ·subst e
   right
   show 0 ≤ Qh m.1 x i x ∧ x ∈ adj (Qh m.1 x i x).toNat
   rw [Z9];exact ⟨by omega,by simpa using hk⟩
  ·exact .inl (Zp _ _ e)
 ·have := Od m.1 (i : Int) x hn;rw [if_neg (show m.1 k ≠ x by omega)] at this
  show Yb ni (Qh m.1 k i) x = _
  by_cases e : x = i
  ·subst e;simpa using this
  ·rw [if_neg (fun e' => e e'.symm)] at this;simpa [e] using this
 ·show 0 ≤ Qh m.1 k i x
  by_cases e : x = k
  ·subst e;rw [Z9];omega
  ·rw [Zp _ _ e];exact hx
 ·have:=Tc m.1 (i : Int) hfk hn;rw [if_neg (show ¬ 0 ≤ m.1 k by omega),if_pos (show (0 : Int) ≤ i by omega)] at this;exact this
theorem Qos {adj : Nat → List Nat} {ni : Nat} {fx b : Bl} {m m1 : Mt} {k i : Nat} (hk : k ∈ adj i) (hn : k < ni) (hb : b k = false) (hf : ∀ x,fx x = true → b x = true) (hm : ¬ m.1 k < 0) (W : Vx adj ni fx m (Qh b k true) (m.1 k).toNat m1) : Vx adj ni fx m b i (Xf m1 k i):=by
 have hfk : fx k = false:=by
  cases e : fx k
  ·rfl
  ·rw [hf k e] at hb;exact absurd hb (by decide)
 have h1 : m1.1 k = m.1 k:=W.k k (Z9 _ _ _);have hp : ((m.1 k).toNat : Int) = m.1 k:=by omega
 refine ⟨fun x hx => ?_,fun x => ?_,fun x hx => ?_,fun x hx => ?_,?_⟩
 ·have e : x ≠ k := fun e => by subst e; rw [hx] at hb; exact absurd hb (by decide)
  exact (Zp _ _ e).trans (W.k x (by rw [Zp b true e];exact hx))
 ·by_cases e : x = k
  ·subst e
   right
   show 0 ≤ Qh m1.1 x i x ∧ x ∈ adj (Qh m1.1 x i x).toNat
   rw [Z9];exact ⟨by omega,by simpa using hk⟩
  ·show Qh m1.1 k i x = _ ∨ (0 ≤ Qh m1.1 k i x ∧ x ∈ adj (Qh m1.1 k i x).toNat)
   rw [Zp _ _ e];exact W.a x
 ·have h2:=Od m1.1 (i : Int) x hn;have h3:=W.c x hx;rw [hp] at h3;rw [h1] at h2
  show Yb ni (Qh m1.1 k i) x = _
  by_cases e : x = i
  ·subst e;by_cases e2 : m.1 k = (i : Int)
   ·simp [e2] at h2 h3;simp;omega
   ·have e3 : ¬ (i : Int) = m.1 k:=fun h => e2 h.symm
    simp [e2,e3] at h2 h3;simp;omega
  ·have e' : ¬ (i : Int) = x:=fun h => e h.symm
   by_cases e2 : m.1 k = x
   ·subst e2;simp [e,e'] at h2 h3 ⊢;omega
   ·have e3 : ¬ x = m.1 k:=fun h => e2 h.symm
    simp [e,e',e2,e3] at h2 h3 ⊢;omega
 ·show 0 ≤ Qh m1.1 k i x
  by_cases e : x = k
  ·subst e;rw [Z9];omega
  ·rw [Zp _ _ e];exact W.p x hx
 ·have h2 := Tc m1.1 (i : Int) hfk hn;have h3 := W.s;rw [h1, if_pos (show 0 ≤ m.1 k by omega), if_pos (show (0 : Int) ≤ i by omega)] at h2
  show Zx ni fx (Qh m1.1 k i) = _
  omega
theorem Sc {adj : Nat → List Nat} {ni : Nat} {fx : Bl} (hadj : ∀ o,∀ k ∈ adj o,k < ni) {m : Mt} : ∀ (n : Nat) (b : Bl) (i : Nat) (m' : Mt),(∀ k,fx k = true → b k = true) → (Q4 adj n m b i).1 = some m' → Vx adj ni fx m b i m'
 | 0,_,_,_,_,hs => by simp [Q4] at hs
 | n + 1,b,i,m',hb,hs => by
  have go : ∀ (l : List Nat) (b0 b : Bl),(∀ k ∈ l,k ∈ adj i) → (∀ k,fx k = true → b0 k = true) → (∀ k,b0 k = true → b k = true) → (Z4 (Q4 adj n) i l m b).1 = some m' → Vx adj ni fx m b0 i m':=fun l => by
   induction l with
   | nil => intro b0 b _ _ _ hs;simp [Z4] at hs
   | cons k r ih =>
    intro b0 b hl h0 hb hs;have hr : ∀ x ∈ r,x ∈ adj i:=fun x hx => hl x (List.mem_cons_of_mem _ hx)
    have hki:=hl k List.mem_cons_self;unfold Z4 at hs
    split at hs
    ·exact ih b0 b hr h0 hb hs
    rename_i hbk
    have hbk' : b k = false:=by simpa using hbk
    have hbk0 : b0 k = false:=by
     cases e : b0 k
     ·rfl
     ·rw [hb k e] at hbk';exact absurd hbk' (by decide)
    have weak : ∀ {m'' : Mt},Vx adj ni fx m b i m'' → Vx adj ni fx m b0 i m'':=fun W => ⟨fun x hx => W.k x (hb x hx),W.a,W.c,W.p,W.s⟩
    have hfb : ∀ x,fx x = true → b x = true:=fun x hx => hb x (h0 x hx)
    split at hs
    ·rename_i hm
     obtain rfl : Xf m k i = m':=by simpa using hs
     exact weak (Qor hki (hadj i k hki) hbk' hfb hm)
    rename_i hm
    have hu : ∀ x,b x = true → Qh b k true x = true:=fun x hx => by
     by_cases e : x = k
     ·subst e;exact Z9 _ _ _
     ·rw [Zp b true e];exact hx
    have hk:=fun m1 => Sc (fx:=fx) hadj (m:=m) n (Qh b k true) (m.1 k).toNat m1 (fun x hx => hu x (hfb x hx))
    have hm2:=fun x hx => Kg adj n m (Qh b k true) (m.1 k).toNat x (hu x hx)
    generalize Q4 adj n m (Qh b k true) (m.1 k).toNat = Q at *;obtain ⟨o,b2⟩:=Q
    cases o with
    | none => exact ih b0 b2 hr h0 (fun x hx => hm2 x (hb x hx)) hs
    | some m1 =>
     obtain rfl : Xf m1 k i = m':=by simpa using hs
     exact weak (Qos hki (hadj i k hki) hbk' hfb hm (hk m1 rfl))
  exact go (adj i) b b (fun k hk => hk) hb (fun _ h => h) hs
end
end Go.Proofs.YtoflcheopfppoaaGreatDoor
