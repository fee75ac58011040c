/- Walks of the program's functions and plain facts, packed; proved: the lemmas below; no conditions but those that each states. -/
import Derived.Test.YthmjpbafbohelaaGreatDoorL6
import Derived.Test.YthmjpbafbohelaaGreatDoorL8
import Derived.Test.YthmjpbafbohelaaGreatDoorL5
import Derived.Test.YthmjpbafbohelaaGreatDoorL4
set_option maxRecDepth 100000
set_option maxHeartbeats 4000000
namespace Go.Proofs.YthmjpbafbohelaaGreatDoor
open Go Go.RowKit Go.Shelf
attribute [local go_sem] gv_yes
def okTo (h : Hrd) : Nat → Bool
 | 0 => true
 | 1 => true && (decide (0 ≤ h.e) && decide (h.e ≤ 1048576))
 | 2 => (true && (decide (0 ≤ h.e) && decide (h.e ≤ 1048576))) && (decide (0 ≤ h.r) && decide (h.r ≤ 1048576))
 | _ => ((true && (decide (0 ≤ h.e) && decide (h.e ≤ 1048576))) && (decide (0 ≤ h.r) && decide (h.r ≤ 1048576))) && (decide (0 ≤ h.l) && decide (h.l ≤ 1048576))
section
variable {W w : World} {b : Nat} {t : TypeId} {v0 v1 v2 : Value}
theorem held3_0 (h : Held W b t #[v0, v1, v2]) (u : Value) : Held (W.setCell ⟨b, 0, none⟩ u) b t #[u, v1, v2] := by unfold Held at h ⊢; simp [World.setCell, Array.getElem?_modify, h]
theorem held3_1 (h : Held W b t #[v0, v1, v2]) (u : Value) : Held (W.setCell ⟨b, 1, none⟩ u) b t #[v0, u, v2] := by unfold Held at h ⊢; simp [World.setCell, Array.getElem?_modify, h]
theorem held3_2 (h : Held W b t #[v0, v1, v2]) (u : Value) : Held (W.setCell ⟨b, 2, none⟩ u) b t #[v0, v1, u] := by unfold Held at h ⊢; simp [World.setCell, Array.getElem?_modify, h]
theorem held3_all (h : Held W b t #[v0, v1, v2]) (u0 u1 u2 : Value) : Held (((W.setCell ⟨b, 0, none⟩ u0).setCell ⟨b, 1, none⟩ u1).setCell ⟨b, 2, none⟩ u2) b t #[u0, u1, u2] := by unfold Held at h ⊢; simp [World.setCell, Array.getElem?_modify, h]
theorem ext3 (h : Ext w W) (hb : w.heap.size ≤ b) (u0 u1 u2 : Value) : Ext w (((W.setCell ⟨b, 0, none⟩ u0).setCell ⟨b, 1, none⟩ u1).setCell ⟨b, 2, none⟩ u2) := ((h.setCell (p := ⟨b, 0, none⟩) hb u0).setCell (p := ⟨b, 1, none⟩) hb u1).setCell (p := ⟨b, 2, none⟩) hb u2
end
def stJ (d : Rt) (g : Hrd) : Nat → Hrd
 | 0 => g
 | 1 => ⟨died g.e d, g.r, g.l⟩
 | 2 => ⟨died g.e d, died g.r d, g.l⟩
 | _ => ⟨died g.e d, died g.r d, died g.l d⟩
theorem okTo_three (h : Hrd) : okTo h 3 = h.ok := rfl
theorem herd_any (h : Hrd) (w : World) :
  Calls Tryz.prog 110 #[.agg #[.int .i64 h.e, .int .i64 h.r, .int .i64 h.l]] w fun e w' => e = .returned (.bool h.ok) ∧ Ext w w' := by
 rw [show h.ok = okTo h 3 from (okTo_three h).symm]
 have hix0 : ∀ w, (Instr.index 191 (.agg #[.int .i64 h.e, .int .i64 h.r, .int .i64 h.l]) (.int .i64 0)).run Tryz.prog w = .ok (.int .i64 h.e) w := fun w => by kernel_rfl
 have hix1 : ∀ w, (Instr.index 191 (.agg #[.int .i64 h.e, .int .i64 h.r, .int .i64 h.l]) (.int .i64 1)).run Tryz.prog w = .ok (.int .i64 h.r) w := fun w => by kernel_rfl
 have hix2 : ∀ w, (Instr.index 191 (.agg #[.int .i64 h.e, .int .i64 h.r, .int .i64 h.l]) (.int .i64 2)).run Tryz.prog w = .ok (.int .i64 h.l) w := fun w => by kernel_rfl
 go_enter Tryz.func110, Tryz.ntmps110
 go_upto_region 1 with (fail)
 obtain ⟨v, hv⟩ := zgE (w.alloc (.cells #[.int .i64 h.e, .int .i64 h.r, .int .i64 h.l] 101))
 rw [← hv]
 have E : Ext w v := by rw [hv]; exact (Ext.refl _).alloc _
 have B1 : Held v w.heap.size 101 #[.int .i64 h.e, .int .i64 h.r, .int .i64 h.l] := by rw [hv]; exact (Held.new _ _ _)
 clear hv
 obtain ⟨b1, hb1⟩ := zgE (w.heap.size)
 rw [← hb1] at B1 ⊢
 have hbr : w.heap.size ≤ b1 := by omega
 clear hb1
 obtain ⟨k0, k1, k2⟩ := B1.c3
 have lk := B1.lt
 go_upto_region 3 with (fail)
 go_loopw [3, 13] (fun ov iv wr => ∃ k : Nat, k ≤ 3 ∧ iv = .int .i64 (k : Int) ∧ ov = .bool (okTo h k) ∧ Ext w wr) (fun _ iv _ => 3 - (intOf iv).toNat)
 case atStart => exact ⟨0, by decide, rfl, rfl, E⟩
 case round =>
  clear E k0 k1 k2 lk B1
  obtain ⟨k, hk, rfl, rfl, hE⟩ := hrel
  obtain ⟨wo, rfl⟩ := zgE wr
  by_cases hlt : k < 3
  ·have h3 : k = 0 ∨ k = 1 ∨ k = 2 := by omega
   rcases h3 with rfl | rfl | rfl
   ·skip
    have hh : Hid (okTo h 1 = (okTo h 0 && (decide (0 ≤ h.e) && decide (h.e ≤ 1048576)))) := rfl
    cases hq : okTo h 0
    ·rw [hq] at hh
     go_wp2
     exact ⟨⟨1, by decide, rfl, by rw [hh.out]; rfl, hE⟩, by simp [intOf]⟩
    ·rw [hq] at hh
     by_cases h1 : 0 ≤ h.e
     ·have g1 : decide (0 ≤ h.e) = true := decide_eq_true h1
      by_cases h2 : h.e ≤ 1048576
      ·have g2 : decide (h.e ≤ 1048576) = true := decide_eq_true h2
       go_wp2
       exact ⟨⟨1, by decide, rfl, by rw [hh.out, g1, g2]; rfl, hE⟩, by simp [intOf]⟩
      ·have g2 : decide (h.e ≤ 1048576) = false := decide_eq_false h2
       go_wp2
       exact ⟨⟨1, by decide, rfl, by rw [hh.out, g1, g2]; rfl, hE⟩, by simp [intOf]⟩
     ·have g1 : decide (0 ≤ h.e) = false := decide_eq_false h1
      go_wp2
      exact ⟨⟨1, by decide, rfl, by rw [hh.out, g1]; rfl, hE⟩, by simp [intOf]⟩
   ·skip
    have hh : Hid (okTo h 2 = (okTo h 1 && (decide (0 ≤ h.r) && decide (h.r ≤ 1048576)))) := rfl
    cases hq : okTo h 1
    ·rw [hq] at hh
     go_wp2
     exact ⟨⟨2, by decide, rfl, by rw [hh.out]; rfl, hE⟩, by simp [intOf]⟩
    ·rw [hq] at hh
     by_cases h1 : 0 ≤ h.r
     ·have g1 : decide (0 ≤ h.r) = true := decide_eq_true h1
      by_cases h2 : h.r ≤ 1048576
      ·have g2 : decide (h.r ≤ 1048576) = true := decide_eq_true h2
       go_wp2
       exact ⟨⟨2, by decide, rfl, by rw [hh.out, g1, g2]; rfl, hE⟩, by simp [intOf]⟩
      ·have g2 : decide (h.r ≤ 1048576) = false := decide_eq_false h2
       go_wp2
       exact ⟨⟨2, by decide, rfl, by rw [hh.out, g1, g2]; rfl, hE⟩, by simp [intOf]⟩
     ·have g1 : decide (0 ≤ h.r) = false := decide_eq_false h1
      go_wp2
      exact ⟨⟨2, by decide, rfl, by rw [hh.out, g1]; rfl, hE⟩, by simp [intOf]⟩
   ·skip
    have hh : Hid (okTo h 3 = (okTo h 2 && (decide (0 ≤ h.l) && decide (h.l ≤ 1048576)))) := rfl
    cases hq : okTo h 2
    ·rw [hq] at hh
     go_wp2
     exact ⟨⟨3, by decide, rfl, by rw [hh.out]; rfl, hE⟩, by simp [intOf]⟩
    ·rw [hq] at hh
     by_cases h1 : 0 ≤ h.l
     ·have g1 : decide (0 ≤ h.l) = true := decide_eq_true h1
      by_cases h2 : h.l ≤ 1048576
      ·have g2 : decide (h.l ≤ 1048576) = true := decide_eq_true h2
       go_wp2
       exact ⟨⟨3, by decide, rfl, by rw [hh.out, g1, g2]; rfl, hE⟩, by simp [intOf]⟩
      ·have g2 : decide (h.l ≤ 1048576) = false := decide_eq_false h2
       go_wp2
       exact ⟨⟨3, by decide, rfl, by rw [hh.out, g1, g2]; rfl, hE⟩, by simp [intOf]⟩
     ·have g1 : decide (0 ≤ h.l) = false := decide_eq_false h1
      go_wp2
      exact ⟨⟨3, by decide, rfl, by rw [hh.out, g1]; rfl, hE⟩, by simp [intOf]⟩
  ·obtain rfl : k = 3 := by omega
   go_wp2
   go_ret
   exact ⟨rfl, hE⟩
theorem grow_any (h : Hrd) (b d : Rt) (y : Int) (hb : b.In) (hd : d.In) (hy1 : -9223372036854775808 ≤ y) (hy2 : y ≤ 9223372036854775807) (w : World) :
  Calls Tryz.prog 60 #[.agg #[.int .i64 h.e, .int .i64 h.r, .int .i64 h.l], .agg #[.int .i64 b.n, .int .i64 b.d], .agg #[.int .i64 d.n, .int .i64 d.d], .int .i64 y] w fun e w' => e = .returned (.tuple #[.agg #[.int .i64 (growV h b d y).1.e, .int .i64 (growV h b d y).1.r, .int .i64 (growV h b d y).1.l], .int .i64 (growV h b d y).2]) ∧ Ext w w' := by
 obtain ⟨V, hV0⟩ := zgE (growV h b d y)
 rw [← hV0]
 replace hV0 := Lib.hid hV0
 have NH := fun h w => herd_any h w
 have NB := fun w => share_any b hb w
 have ND := fun w => share_any d hd w
 go_enter Tryz.func60, Tryz.ntmps60
 go_upto_region 1 with (fail)
 obtain ⟨v, hv⟩ := zgE ((((w.alloc (.cells #[.int .i64 h.e, .int .i64 h.r, .int .i64 h.l] 101)).alloc (.cells #[.int .i64 b.n, .int .i64 b.d] 23)).alloc (.cells #[.int .i64 d.n, .int .i64 d.d] 23)).alloc (.cells #[.int .i64 0, .int .i64 0, .int .i64 0] 101))
 rw [← hv]
 have E : Ext w v := by rw [hv]; exact ((((Ext.refl _).alloc _).alloc _).alloc _).alloc _
 have Hh : Held v w.heap.size 101 #[.int .i64 h.e, .int .i64 h.r, .int .i64 h.l] := by rw [hv]; exact (((Held.new _ _ _).alloc _).alloc _).alloc _
 have Hb : Held v (w.heap.size + 1) 23 #[.int .i64 b.n, .int .i64 b.d] := by rw [hv]; exact ((Held.at _ _ _ _ (by simp)).alloc _).alloc _
 have Hd : Held v (w.heap.size + 1 + 1) 23 #[.int .i64 d.n, .int .i64 d.d] := by rw [hv]; exact (Held.at _ _ _ _ (by simp)).alloc _
 have Hr : Held v (w.heap.size + 1 + 1 + 1) 101 #[.int .i64 0, .int .i64 0, .int .i64 0] := by rw [hv]; exact Held.at _ _ _ _ (by simp)
 clear hv
 obtain ⟨b4, hb4⟩ := zgE (w.heap.size + 1 + 1 + 1)
 rw [← hb4] at Hr ⊢
 obtain ⟨b3, hb3⟩ := zgE (w.heap.size + 1 + 1)
 rw [← hb3] at Hd ⊢
 obtain ⟨b2, hb2⟩ := zgE (w.heap.size + 1)
 rw [← hb2] at Hb ⊢
 obtain ⟨b1, hb1⟩ := zgE (w.heap.size)
 rw [← hb1] at Hh ⊢
 have hbr : w.heap.size ≤ b4 := by omega
 have hbr1 : w.heap.size ≤ b1 := by omega
 have hbr2 : w.heap.size ≤ b2 := by omega
 have hbr3 : w.heap.size ≤ b3 := by omega
 have hn21 : b2 ≠ b1 := by omega
 have hn31 : b3 ≠ b1 := by omega
 have hn32 : b3 ≠ b2 := by omega
 have hn41 : b4 ≠ b1 := by omega
 have hn42 : b4 ≠ b2 := by omega
 have hn43 : b4 ≠ b3 := by omega
 clear hb1 hb2 hb3 hb4
 have HE := E
 clear E
 obtain ⟨k0, k1, k2⟩ := Hh.c3
 have lk := Hh.lt
 obtain ⟨p0, p1⟩ := Hb.c2
 have lp := Hb.lt
 obtain ⟨q0, q1⟩ := Hd.c2
 have lq := Hd.lt
 have K1 := fun u (hu : Ext v u) => (Hb.ext hu).c2
 cases ho : h.ok
 ·have NH1 := fun w => NH h w
  simp only [ho] at NH1
  have hr := hV0.out
  unfold growV at hr
  rw [ho, if_neg (by decide)] at hr
  subst hr
  clear hV0 ho NH K1
  go_upto_region 2 with (go_at_call 110; (with_reducible refine Calls.mono (NH1 _) ?_); rintro e w1 ⟨rfl, h1⟩)
  replace HE := HE.trans h1
  replace Hr := Hr.ext h1
  have y0 := Hr.frozen 0
  have y1 := Hr.frozen 1
  have y2 := Hr.frozen 2
  obtain ⟨x0, x1, x2⟩ := Hr.c3
  have lx := Hr.lt
  have R3 := held3_all Hr (.int .i64 0) (.int .i64 0) (.int .i64 0)
  have EF := ext3 HE hbr (.int .i64 0) (.int .i64 0) (.int .i64 0)
  obtain ⟨r0, r1, r2⟩ := R3.c3
  go_wp2
  refine bodyPost_ret (v := .tuple #[.agg #[.int .i64 0, .int .i64 0, .int .i64 0], .int .i64 82]) (by simp [results, Tryz.results60, go_sem, r0, r1, r2]) rfl ⟨rfl, EF⟩
 ·have NH1 := fun w => NH h w
  simp only [ho] at NH1
  clear K1
  have A1 : ∀ u, Ext v u → True := fun _ _ => trivial
  go_upto_region 3 with (go_at_call 110; (with_reducible refine Calls.mono (NH1 _) ?_); rintro e w1 ⟨rfl, h1⟩)
  replace HE := HE.trans h1
  replace Hr := Hr.ext h1
  replace Hh := Hh.ext h1
  replace Hb := Hb.ext h1
  replace Hd := Hd.ext h1
  clear h1 k0 k1 k2 lk p0 p1 lp q0 q1 lq A1 NH1
  obtain ⟨p0, p1⟩ := Hb.c2
  have lp := Hb.lt
  obtain ⟨q0, q1⟩ := Hd.c2
  have lq := Hd.lt
  cases hbs : b.shr
  ·simp only [hbs] at NB
   have hr := hV0.out
   unfold growV at hr
   rw [ho, hbs, if_pos rfl, Bool.false_and, if_neg (by decide)] at hr
   subst hr
   clear hV0 ho hbs
   go_upto_region 4 with (go_at_call 64; (with_reducible refine Calls.mono (NB _) ?_); rintro e w2 ⟨rfl, h2⟩)
   replace HE := HE.trans h2
   replace Hr := Hr.ext h2
   have y0 := Hr.frozen 0
   have y1 := Hr.frozen 1
   have y2 := Hr.frozen 2
   obtain ⟨x0, x1, x2⟩ := Hr.c3
   have lx := Hr.lt
   have R3 := held3_all Hr (.int .i64 0) (.int .i64 0) (.int .i64 0)
   have EF := ext3 HE hbr (.int .i64 0) (.int .i64 0) (.int .i64 0)
   obtain ⟨r0, r1, r2⟩ := R3.c3
   go_wp2
   refine bodyPost_ret (v := .tuple #[.agg #[.int .i64 0, .int .i64 0, .int .i64 0], .int .i64 2]) (by simp [results, Tryz.results60, go_sem, r0, r1, r2]) rfl ⟨rfl, EF⟩
  ·simp only [hbs] at NB
   cases hds : d.shr
   ·simp only [hds] at ND
    have hr := hV0.out
    unfold growV at hr
    rw [ho, hbs, hds, if_pos rfl, Bool.and_false, if_neg (by decide)] at hr
    subst hr
    clear hV0 ho hbs hds
    go_upto_region 4 with (first | (go_at_call 64; (with_reducible refine Calls.mono (NB _) ?_); rintro e w2 ⟨rfl, h2⟩; clear q0 q1 lq; obtain ⟨q0, q1⟩ := (Hd.ext h2).c2; have lq := (Hd.ext h2).lt) | (go_at_call 64; (with_reducible refine Calls.mono (ND _) ?_); rintro e w3 ⟨rfl, h3⟩))
    replace HE := (HE.trans h2).trans h3
    replace Hr := (Hr.ext h2).ext h3
    have y0 := Hr.frozen 0
    have y1 := Hr.frozen 1
    have y2 := Hr.frozen 2
    obtain ⟨x0, x1, x2⟩ := Hr.c3
    have lx := Hr.lt
    have R3 := held3_all Hr (.int .i64 0) (.int .i64 0) (.int .i64 0)
    have EF := ext3 HE hbr (.int .i64 0) (.int .i64 0) (.int .i64 0)
    obtain ⟨r0, r1, r2⟩ := R3.c3
    go_wp2
    refine bodyPost_ret (v := .tuple #[.agg #[.int .i64 0, .int .i64 0, .int .i64 0], .int .i64 2]) (by simp [results, Tryz.results60, go_sem, r0, r1, r2]) rfl ⟨rfl, EF⟩
   ·simp only [hds] at ND
    have hV1 : Hid (V = if y < 0 ∨ 40 < y then (hrd0, 8) else growR b d y.toNat h) := by
     unfold Hid; rw [hV0.out]; unfold growV; rw [ho, hbs, hds, if_pos rfl, Bool.and_self, if_pos rfl]
    clear hV0
    go_upto_region 5 with (first | (go_at_call 64; (with_reducible refine Calls.mono (NB _) ?_); rintro e w2 ⟨rfl, h2⟩; clear q0 q1 lq; obtain ⟨q0, q1⟩ := (Hd.ext h2).c2; have lq := (Hd.ext h2).lt) | (go_at_call 64; (with_reducible refine Calls.mono (ND _) ?_); rintro e w3 ⟨rfl, h3⟩))
    replace HE := (HE.trans h2).trans h3
    replace Hr := (Hr.ext h2).ext h3
    replace Hh := (Hh.ext h2).ext h3
    replace Hb := (Hb.ext h2).ext h3
    replace Hd := (Hd.ext h2).ext h3
    clear h2 h3 p0 p1 lp q0 q1 lq NB ND
    by_cases y0 : y < 0
    ·have gy : decide (y < 0) = true := decide_eq_true y0
     have hr := hV1.out
     rw [if_pos (.inl y0)] at hr
     subst hr
     clear hV1 y0
     have y0 := Hr.frozen 0
     have y1 := Hr.frozen 1
     have y2 := Hr.frozen 2
     obtain ⟨x0, x1, x2⟩ := Hr.c3
     have lx := Hr.lt
     have R3 := held3_all Hr (.int .i64 0) (.int .i64 0) (.int .i64 0)
     have EF := ext3 HE hbr (.int .i64 0) (.int .i64 0) (.int .i64 0)
     obtain ⟨r0, r1, r2⟩ := R3.c3
     go_wp2
     refine bodyPost_ret (v := .tuple #[.agg #[.int .i64 0, .int .i64 0, .int .i64 0], .int .i64 8]) (by simp [results, Tryz.results60, go_sem, r0, r1, r2]) rfl ⟨rfl, EF⟩
    ·have gy : decide (y < 0) = false := decide_eq_false y0
     by_cases y1 : 40 < y
     ·have gy1 : decide (40 < y) = true := decide_eq_true y1
      have hr := hV1.out
      rw [if_pos (.inr y1)] at hr
      subst hr
      clear hV1 y0 y1
      have y0 := Hr.frozen 0
      have y1 := Hr.frozen 1
      have y2 := Hr.frozen 2
      obtain ⟨x0, x1, x2⟩ := Hr.c3
      have lx := Hr.lt
      have R3 := held3_all Hr (.int .i64 0) (.int .i64 0) (.int .i64 0)
      have EF := ext3 HE hbr (.int .i64 0) (.int .i64 0) (.int .i64 0)
      obtain ⟨r0, r1, r2⟩ := R3.c3
      go_wp2
      refine bodyPost_ret (v := .tuple #[.agg #[.int .i64 0, .int .i64 0, .int .i64 0], .int .i64 8]) (by simp [results, Tryz.results60, go_sem, r0, r1, r2]) rfl ⟨rfl, EF⟩
     ·have gy1 : decide (40 < y) = false := decide_eq_false y1
      obtain ⟨n, rfl⟩ : ∃ n : Nat, y = (n : Int) := ⟨y.toNat, by omega⟩
      have hV2 : Hid (V = growR b d n h) := by
       have := hV1.out
       rw [if_neg (by omega), Int.toNat_natCast] at this
       exact this
      clear hV1 hb hd
      replace ho := Lib.hid ho
      replace hbs := Lib.hid hbs
      replace hds := Lib.hid hds
      go_upto_region 8 with (fail)
      go_loopw [34] (fun iv wr => ∃ k : Nat, k ≤ n ∧ iv = .int .i64 (k : Int) ∧ ∃ g : Hrd, Hid (g.ok = true) ∧ Ext w wr ∧ Held wr b1 101 #[.int .i64 g.e, .int .i64 g.r, .int .i64 g.l] ∧ Held wr b2 23 #[.int .i64 b.n, .int .i64 b.d] ∧ Held wr b3 23 #[.int .i64 d.n, .int .i64 d.d] ∧ Held wr b4 101 #[.int .i64 0, .int .i64 0, .int .i64 0] ∧ Hid (V = growR b d (n - k) g)) (fun iv _ => n - (intOf iv).toNat)
      case atStart => exact ⟨0, Nat.zero_le _, rfl, h, ho, HE, Hh, Hb, Hd, Hr, hV2.out⟩
      case round =>
       clear HE Hh Hb Hd Hr hV2 ho
       obtain ⟨k, hk, rfl, g, hg, HE, Hh, Hb, Hd, Hr, hV⟩ := hrel
       obtain ⟨wo, rfl⟩ := zgE wr
       by_cases hlt : k < n
       ·obtain ⟨m, hm⟩ : ∃ m, n - k = m + 1 := ⟨n - k - 1, by omega⟩
        have hm2 : n - (k + 1) = m := by omega
        have hV' : Hid (V = if (growStep b d g).ok then growR b d m (growStep b d g) else (hrd0, 6)) := by unfold Hid; rw [hV.out, hm]; rfl
        clear hV hm
        have hgo := hg.out
        simp only [Hrd.ok, Bool.and_eq_true] at hgo
        obtain ⟨g01, g02⟩ := nOk_iff.1 hgo.1.1
        obtain ⟨g11, g12⟩ := nOk_iff.1 hgo.1.2
        obtain ⟨g21, g22⟩ := nOk_iff.1 hgo.2
        clear hgo
        have hds := hds.out
        have hdd := (shr_bd hds)
        go_upto_region 10 with (fail)
        obtain ⟨v4, hv⟩ := zgE (wo.alloc (.cells #[.pointer (some ⟨b1, 0, none⟩), .pointer (some ⟨b1, 1, none⟩), .pointer (some ⟨b1, 2, none⟩)] 152))
        rw [← hv]
        have E4 : Ext wo v4 := by rw [hv]; exact (Ext.refl _).alloc _
        have Hp : Held v4 wo.heap.size 152 #[.pointer (some ⟨b1, 0, none⟩), .pointer (some ⟨b1, 1, none⟩), .pointer (some ⟨b1, 2, none⟩)] := by rw [hv]; exact Held.new _ _ _
        clear hv
        have hlh := Hh.lt
        obtain ⟨bp, hbp⟩ := zgE (wo.heap.size)
        rw [← hbp] at Hp ⊢
        have hp1 : bp ≠ b1 := by omega
        clear hbp hlh
        replace HE := HE.trans E4
        replace Hh := Hh.ext E4
        replace Hb := Hb.ext E4
        replace Hd := Hd.ext E4
        replace Hr := Hr.ext E4
        clear E4
        go_loopw [41] (fun jv wr => ∃ j : Nat, j ≤ 3 ∧ jv = .int .i64 (j : Int) ∧ Ext w wr ∧ Held wr b1 101 #[.int .i64 (stJ d g j).e, .int .i64 (stJ d g j).r, .int .i64 (stJ d g j).l] ∧ Held wr b2 23 #[.int .i64 b.n, .int .i64 b.d] ∧ Held wr b3 23 #[.int .i64 d.n, .int .i64 d.d] ∧ Held wr bp 152 #[.pointer (some ⟨b1, 0, none⟩), .pointer (some ⟨b1, 1, none⟩), .pointer (some ⟨b1, 2, none⟩)] ∧ Held wr b4 101 #[.int .i64 0, .int .i64 0, .int .i64 0]) (fun jv _ => 3 - (intOf jv).toNat)
        case atStart => exact ⟨0, by decide, rfl, HE, Hh, Hb, Hd, Hp, Hr⟩
        case round =>
         clear HE Hh Hb Hd Hp Hr
         obtain ⟨j, hj, rfl, HE, Hh, Hb, Hd, Hp, Hr⟩ := hrel
         obtain ⟨wi, rfl⟩ := zgE wr
         by_cases hlt3 : j < 3
         ·have h3 : j = 0 ∨ j = 1 ∨ j = 2 := by omega
          rcases h3 with rfl | rfl | rfl
          ·have Hh : Held wi b1 101 #[.int .i64 (g.e), .int .i64 (g.r), .int .i64 (g.l)] := Hh
           have pb := part_bd hds g01 g02
           have v1 : IntKind.i64.wrap (d.n * g.e) = d.n * g.e := wrap64 (by omega) (by omega)
           have v2 : IntKind.i64.wrap ((d.n * g.e).tdiv d.d) = d.n * g.e / d.d := by
            rw [Int.tdiv_eq_ediv_of_nonneg pb.1]; exact wrap64 (by omega) (by omega)
           have v3 : IntKind.i64.wrap (g.e - d.n * g.e / d.d) = died g.e d := by
            unfold died; exact wrap64 (by omega) (by omega)
           clear pb
           obtain ⟨s0, s1, s2⟩ := Hp.c3
           have ls := Hp.lt
           go_upto_region 12 with (fail)
           clear s0 s1 s2 ls
           refine wp_region_z 15 [14] (fun x => Held x b1 101 #[.int .i64 (g.e), .int .i64 (g.r), .int .i64 (g.l)] ∧ Held x b3 23 #[.int .i64 d.n, .int .i64 d.d]) mixed rfl ?_
           intro vz hvz
           replace HE := HE.trans hvz
           replace Hh := Hh.ext hvz
           replace Hd := Hd.ext hvz
           replace Hb := Hb.ext hvz
           replace Hp := Hp.ext hvz
           replace Hr := Hr.ext hvz
           clear hvz
           refine z_stills (g := 1) [0, 1, 2, 3, 4, 5, 6, 7, 8, 9, 10, 11, 12, 13] [_, _, _, _, _, _, _, _, _, _, _, _, _, _] ⟨rfl, rfl, rfl, rfl, rfl, rfl, rfl, rfl, rfl, rfl, rfl, rfl, rfl, rfl, trivial⟩ (by kernel_rfl) (by kernel_rfl) ⟨Hh, Hd⟩ ?_
           simp only [zgA, zgB, zgC]
           apply Exists.intro
           refine ⟨fun u hu => ?_, ?_⟩
           ·obtain ⟨x0, x1, x2⟩ := hu.1.c3
            have lx := hu.1.lt
            obtain ⟨d0, d1⟩ := hu.2.c2
            have ld := hu.2.lt
            repeat (first | go_big_quiet_skip | (go_big_quiet_want; go_big_quiet_op; go_big_quiet_on))
            refine wpQuiet_nil ?_
            rfl
           refine z_end 14 rfl (by kernel_rfl) ?_
           simp only [zgA, zgB, zgC]
           have z0 := Hh.frozen 0
           obtain ⟨x0, x1, x2⟩ := Hh.c3; have lx := Hh.lt
           have Hh2 := held3_0 Hh (.int .i64 (died g.e d))
           have Hd := held_oth Hd hn31 0 (.int .i64 (died g.e d))
           have Hb := held_oth Hb hn21 0 (.int .i64 (died g.e d))
           have Hp := held_oth Hp hp1 0 (.int .i64 (died g.e d))
           have Hr := held_oth Hr hn41 0 (.int .i64 (died g.e d))
           have HE := HE.setCell (p := ⟨b1, 0, none⟩) hbr1 (.int .i64 (died g.e d))
           have Hh := Hh2
           go_wp2
           refine onQ_last ?_
           refine z_done (by kernel_rfl) ?_
           generalize World.setCell _ _ _ = wq at *
           clear z0 x0 x1 x2 lx Hh2
           go_wp2
           exact ⟨⟨1, by decide, rfl, HE, Hh, Hb, Hd, Hp, Hr⟩, by simp [intOf]⟩
          ·have Hh : Held wi b1 101 #[.int .i64 (died g.e d), .int .i64 (g.r), .int .i64 (g.l)] := Hh
           have pb := part_bd hds g11 g12
           have v1 : IntKind.i64.wrap (d.n * g.r) = d.n * g.r := wrap64 (by omega) (by omega)
           have v2 : IntKind.i64.wrap ((d.n * g.r).tdiv d.d) = d.n * g.r / d.d := by
            rw [Int.tdiv_eq_ediv_of_nonneg pb.1]; exact wrap64 (by omega) (by omega)
           have v3 : IntKind.i64.wrap (g.r - d.n * g.r / d.d) = died g.r d := by
            unfold died; exact wrap64 (by omega) (by omega)
           clear pb
           obtain ⟨s0, s1, s2⟩ := Hp.c3
           have ls := Hp.lt
           go_upto_region 12 with (fail)
           clear s0 s1 s2 ls
           refine wp_region_z 15 [14] (fun x => Held x b1 101 #[.int .i64 (died g.e d), .int .i64 (g.r), .int .i64 (g.l)] ∧ Held x b3 23 #[.int .i64 d.n, .int .i64 d.d]) mixed rfl ?_
           intro vz hvz
           replace HE := HE.trans hvz
           replace Hh := Hh.ext hvz
           replace Hd := Hd.ext hvz
           replace Hb := Hb.ext hvz
           replace Hp := Hp.ext hvz
           replace Hr := Hr.ext hvz
           clear hvz
           refine z_stills (g := 1) [0, 1, 2, 3, 4, 5, 6, 7, 8, 9, 10, 11, 12, 13] [_, _, _, _, _, _, _, _, _, _, _, _, _, _] ⟨rfl, rfl, rfl, rfl, rfl, rfl, rfl, rfl, rfl, rfl, rfl, rfl, rfl, rfl, trivial⟩ (by kernel_rfl) (by kernel_rfl) ⟨Hh, Hd⟩ ?_
           simp only [zgA, zgB, zgC]
           apply Exists.intro
           refine ⟨fun u hu => ?_, ?_⟩
           ·obtain ⟨x0, x1, x2⟩ := hu.1.c3
            have lx := hu.1.lt
            obtain ⟨d0, d1⟩ := hu.2.c2
            have ld := hu.2.lt
            repeat (first | go_big_quiet_skip | (go_big_quiet_want; go_big_quiet_op; go_big_quiet_on))
            refine wpQuiet_nil ?_
            rfl
           refine z_end 14 rfl (by kernel_rfl) ?_
           simp only [zgA, zgB, zgC]
           have z0 := Hh.frozen 1
           obtain ⟨x0, x1, x2⟩ := Hh.c3; have lx := Hh.lt
           have Hh2 := held3_1 Hh (.int .i64 (died g.r d))
           have Hd := held_oth Hd hn31 1 (.int .i64 (died g.r d))
           have Hb := held_oth Hb hn21 1 (.int .i64 (died g.r d))
           have Hp := held_oth Hp hp1 1 (.int .i64 (died g.r d))
           have Hr := held_oth Hr hn41 1 (.int .i64 (died g.r d))
           have HE := HE.setCell (p := ⟨b1, 1, none⟩) hbr1 (.int .i64 (died g.r d))
           have Hh := Hh2
           go_wp2
           refine onQ_last ?_
           refine z_done (by kernel_rfl) ?_
           generalize World.setCell _ _ _ = wq at *
           clear z0 x0 x1 x2 lx Hh2
           go_wp2
           exact ⟨⟨2, by decide, rfl, HE, Hh, Hb, Hd, Hp, Hr⟩, by simp [intOf]⟩
          ·have Hh : Held wi b1 101 #[.int .i64 (died g.e d), .int .i64 (died g.r d), .int .i64 (g.l)] := Hh
           have pb := part_bd hds g21 g22
           have v1 : IntKind.i64.wrap (d.n * g.l) = d.n * g.l := wrap64 (by omega) (by omega)
           have v2 : IntKind.i64.wrap ((d.n * g.l).tdiv d.d) = d.n * g.l / d.d := by
            rw [Int.tdiv_eq_ediv_of_nonneg pb.1]; exact wrap64 (by omega) (by omega)
           have v3 : IntKind.i64.wrap (g.l - d.n * g.l / d.d) = died g.l d := by
            unfold died; exact wrap64 (by omega) (by omega)
           clear pb
           obtain ⟨s0, s1, s2⟩ := Hp.c3
           have ls := Hp.lt
           go_upto_region 12 with (fail)
           clear s0 s1 s2 ls
           refine wp_region_z 15 [14] (fun x => Held x b1 101 #[.int .i64 (died g.e d), .int .i64 (died g.r d), .int .i64 (g.l)] ∧ Held x b3 23 #[.int .i64 d.n, .int .i64 d.d]) mixed rfl ?_
           intro vz hvz
           replace HE := HE.trans hvz
           replace Hh := Hh.ext hvz
           replace Hd := Hd.ext hvz
           replace Hb := Hb.ext hvz
           replace Hp := Hp.ext hvz
           replace Hr := Hr.ext hvz
           clear hvz
           refine z_stills (g := 1) [0, 1, 2, 3, 4, 5, 6, 7, 8, 9, 10, 11, 12, 13] [_, _, _, _, _, _, _, _, _, _, _, _, _, _] ⟨rfl, rfl, rfl, rfl, rfl, rfl, rfl, rfl, rfl, rfl, rfl, rfl, rfl, rfl, trivial⟩ (by kernel_rfl) (by kernel_rfl) ⟨Hh, Hd⟩ ?_
           simp only [zgA, zgB, zgC]
           apply Exists.intro
           refine ⟨fun u hu => ?_, ?_⟩
           ·obtain ⟨x0, x1, x2⟩ := hu.1.c3
            have lx := hu.1.lt
            obtain ⟨d0, d1⟩ := hu.2.c2
            have ld := hu.2.lt
            repeat (first | go_big_quiet_skip | (go_big_quiet_want; go_big_quiet_op; go_big_quiet_on))
            refine wpQuiet_nil ?_
            rfl
           refine z_end 14 rfl (by kernel_rfl) ?_
           simp only [zgA, zgB, zgC]
           have z0 := Hh.frozen 2
           obtain ⟨x0, x1, x2⟩ := Hh.c3; have lx := Hh.lt
           have Hh2 := held3_2 Hh (.int .i64 (died g.l d))
           have Hd := held_oth Hd hn31 2 (.int .i64 (died g.l d))
           have Hb := held_oth Hb hn21 2 (.int .i64 (died g.l d))
           have Hp := held_oth Hp hp1 2 (.int .i64 (died g.l d))
           have Hr := held_oth Hr hn41 2 (.int .i64 (died g.l d))
           have HE := HE.setCell (p := ⟨b1, 2, none⟩) hbr1 (.int .i64 (died g.l d))
           have Hh := Hh2
           go_wp2
           refine onQ_last ?_
           refine z_done (by kernel_rfl) ?_
           generalize World.setCell _ _ _ = wq at *
           clear z0 x0 x1 x2 lx Hh2
           go_wp2
           exact ⟨⟨3, by decide, rfl, HE, Hh, Hb, Hd, Hp, Hr⟩, by simp [intOf]⟩
         ·obtain rfl : j = 3 := by omega
          have Hh : Held wi b1 101 #[.int .i64 (died g.e d), .int .i64 (died g.r d), .int .i64 (died g.l d)] := Hh
          have hbs := hbs.out
          have hbb := shr_bd hbs
          have de := died_bd hds g01 g02
          have dr := died_bd hds g11 g12
          have dl := died_bd hds g21 g22
          have pb := part_bd hbs de.1 de.2
          have hst : Hid (growStep b d g = ⟨died g.e d + (died g.l d + 1) / 2, died g.r d + died g.l d / 2, b.n * died g.e d / b.d⟩) := rfl
          generalize died g.e d = xe at *
          generalize died g.r d = xr at *
          generalize died g.l d = xl at *
          have v1 : IntKind.i64.wrap (b.n * xe) = b.n * xe := wrap64 (by omega) (by omega)
          have v2 : IntKind.i64.wrap ((b.n * xe).tdiv b.d) = b.n * xe / b.d := by
           rw [Int.tdiv_eq_ediv_of_nonneg pb.1]; exact wrap64 (by omega) (by omega)
          have v3 : IntKind.i64.wrap (xl + 1) = xl + 1 := wrap64 (by omega) (by omega)
          have v4' : IntKind.i64.wrap ((xl + 1).tdiv 2) = (xl + 1) / 2 := by
           rw [Int.tdiv_eq_ediv_of_nonneg (by omega)]; exact wrap64 (by omega) (by omega)
          have v5 : IntKind.i64.wrap (xe + (xl + 1) / 2) = xe + (xl + 1) / 2 := wrap64 (by omega) (by omega)
          have v6 : IntKind.i64.wrap (xl.tdiv 2) = xl / 2 := by
           rw [Int.tdiv_eq_ediv_of_nonneg (by omega)]; exact wrap64 (by omega) (by omega)
          have v7 : IntKind.i64.wrap (xr + xl / 2) = xr + xl / 2 := wrap64 (by omega) (by omega)
          have hb0 : (b.d == 0) = false := beq_eq_false_iff_ne.2 (by omega)
          have hb1 : b.d ≠ 0 := by omega
          clear pb de dr dl hbb
          generalize b.n * xe / b.d = zl at *
          generalize hz1 : (xl + 1) / 2 = z1 at *
          generalize hz2 : xl / 2 = z2 at *
          clear hz1 hz2
          obtain ⟨k0, k1, k2⟩ := Hh.c3
          have lk := Hh.lt
          have f0 := Hh.frozen 0
          obtain ⟨p0, p1⟩ := Hb.c2
          have lp := Hb.lt
          have Ha := held3_0 Hh (.int .i64 (xe + z1))
          have Hba := held_oth Hb hn21 0 (.int .i64 (xe + z1))
          have Hda := held_oth Hd hn31 0 (.int .i64 (xe + z1))
          have Hra := held_oth Hr hn41 0 (.int .i64 (xe + z1))
          have Ea := HE.setCell (p := ⟨b1, 0, none⟩) hbr1 (.int .i64 (xe + z1))
          go_upto_region 16 with (fail)
          generalize World.setCell _ _ _ = wa at *
          clear k0 k1 k2 lk f0 p0 p1 lp Hh HE Hb Hd Hr Hp
          obtain ⟨k0, k1, k2⟩ := Ha.c3
          have lk := Ha.lt
          have f0 := Ha.frozen 1
          have Hb' := held3_1 Ha (.int .i64 (xr + z2))
          have Hbb := held_oth Hba hn21 1 (.int .i64 (xr + z2))
          have Hdb := held_oth Hda hn31 1 (.int .i64 (xr + z2))
          have Hrb := held_oth Hra hn41 1 (.int .i64 (xr + z2))
          have Eb := Ea.setCell (p := ⟨b1, 1, none⟩) hbr1 (.int .i64 (xr + z2))
          go_upto_region 17 with (fail)
          generalize World.setCell _ _ _ = wb at *
          clear k0 k1 k2 lk f0 Ha Hba Hda Hra Ea
          obtain ⟨k0, k1, k2⟩ := Hb'.c3
          have lk := Hb'.lt
          have f0 := Hb'.frozen 2
          have Hc' := held3_2 Hb' (.int .i64 zl)
          have Hbc := held_oth Hbb hn21 2 (.int .i64 zl)
          have Hdc := held_oth Hdb hn31 2 (.int .i64 zl)
          have Hrc := held_oth Hrb hn41 2 (.int .i64 zl)
          have Ec := Eb.setCell (p := ⟨b1, 2, none⟩) hbr1 (.int .i64 zl)
          go_upto_region 18 with (fail)
          generalize World.setCell _ _ _ = wc at *
          clear k0 k1 k2 lk f0 Hb' Hbb Hdb Hrb Eb v1 v2 v3 v4' v5 v6 v7 hb0 hb1
          have NG := fun w => NH ⟨xe + z1, xr + z2, zl⟩ w
          have hst2 : Hid (growStep b d g = ⟨xe + z1, xr + z2, zl⟩) := hst
          obtain ⟨k0, k1, k2⟩ := Hc'.c3
          have lk := Hc'.lt
          cases hgk : Hrd.ok ⟨xe + z1, xr + z2, zl⟩
          ·simp only [hgk] at NG
           have hr := hV'.out
           rw [hst2.out, hgk, if_neg (by decide)] at hr
           subst hr
           clear hV' hst hst2 hgk NH
           go_upto_region 19 with (go_at_call 110; (with_reducible refine Calls.mono (NG _) ?_); rintro e w6 ⟨rfl, h6⟩)
           have HE := Ec.trans h6
           have Hr := Hrc.ext h6
           have y0 := Hr.frozen 0
           have y1 := Hr.frozen 1
           have y2 := Hr.frozen 2
           obtain ⟨x0, x1, x2⟩ := Hr.c3
           have lx := Hr.lt
           have R3 := held3_all Hr (.int .i64 0) (.int .i64 0) (.int .i64 0)
           have EF := ext3 HE hbr (.int .i64 0) (.int .i64 0) (.int .i64 0)
           obtain ⟨r0, r1, r2⟩ := R3.c3
           go_wp2
           refine bodyPost_ret (v := .tuple #[.agg #[.int .i64 0, .int .i64 0, .int .i64 0], .int .i64 6]) (by simp [results, Tryz.results60, go_sem, r0, r1, r2]) rfl ⟨rfl, EF⟩
          ·simp only [hgk] at NG
           have hr := hV'.out
           rw [hst2.out, hgk, if_pos rfl, ← hm2] at hr
           replace hr := Lib.hid hr
           replace hgk := Lib.hid hgk
           clear hV' hst hst2 NH hm2
           go_wp2_with (go_at_call 110; (with_reducible refine Calls.mono (NG _) ?_); rintro e w6 ⟨rfl, h6⟩)
           exact ⟨⟨k + 1, by omega, by go_num, ⟨xe + z1, xr + z2, zl⟩, hgk, Ec.trans h6, Hc'.ext h6, Hbc.ext h6, Hdc.ext h6, Hrc.ext h6, hr⟩, by simp [intOf]; omega⟩
       ·obtain rfl : k = n := by omega
        have hr := hV.out
        rw [Nat.sub_self] at hr
        have hr2 : V = (g, 0) := hr
        subst hr2
        clear hV hr
        obtain ⟨k0, k1, k2⟩ := Hh.c3
        have lk := Hh.lt
        have y0 := Hr.frozen 0
        have y1 := Hr.frozen 1
        have y2 := Hr.frozen 2
        obtain ⟨x0, x1, x2⟩ := Hr.c3
        have lx := Hr.lt
        have R3 := held3_all Hr (.int .i64 g.e) (.int .i64 g.r) (.int .i64 g.l)
        have EF := ext3 HE hbr (.int .i64 g.e) (.int .i64 g.r) (.int .i64 g.l)
        obtain ⟨r0, r1, r2⟩ := R3.c3
        go_wp2
        refine bodyPost_ret (v := .tuple #[.agg #[.int .i64 g.e, .int .i64 g.r, .int .i64 g.l], .int .i64 0]) (by simp [results, Tryz.results60, go_sem, r0, r1, r2]) rfl ⟨rfl, EF⟩
end Go.Proofs.YthmjpbafbohelaaGreatDoor
namespace Go.Proofs.YthmjpbafbohelaaGreatDoor
open Go Go.RowKit Go.Shelf
attribute [local go_sem] gv_yes
theorem sizeR_any (n : Int) (h1 : -9223372036854775808 ≤ n) (h2 : n ≤ 9223372036854775807) (w : World) : Calls Tryz.prog 135 #[.int .i64 n] w fun e w' => e = .returned (.int .u64 (n.natAbs : Int)) ∧ Ext w w' := by
 by_cases h : n < 0
 ·have hb : decide (n < 0) = true := decide_eq_true h
  go_enter Tryz.func135, Tryz.ntmps135
  go_wp2
  go_ret
  refine ⟨?_, (by repeat (first | exact Ext.refl _ | (refine Ext.alloc ?_ _) | (refine Ext.trans ?_ (by assumption))))⟩
  simp
  omega
 ·have hb : decide (n < 0) = false := decide_eq_false h
  go_enter Tryz.func135, Tryz.ntmps135
  go_wp2
  go_ret
  refine ⟨?_, (by repeat (first | exact Ext.refl _ | (refine Ext.alloc ?_ _) | (refine Ext.trans ?_ (by assumption))))⟩
  simp
  omega
theorem gcdR_any (a b : Nat) (ha : a < 18446744073709551616) (w : World) : Calls Tryz.prog 150 #[.int .u64 (a : Int), .int .u64 (b : Int)] w fun e w' => e = .returned (.int .u64 (Nat.gcd a b : Int)) ∧ Ext w w' := by
 obtain ⟨G, hG⟩ := zgE (Nat.gcd a b)
 rw [← hG]
 have HG := Lib.hid hG
 clear hG
 go_enter Tryz.func150, Tryz.ntmps150
 go_wp2
 go_loopw [0, 1] (fun av bv wr => ∃ a b : Nat, av = .int .u64 (a : Int) ∧ bv = .int .u64 (b : Int) ∧ Hid (G = Nat.gcd a b) ∧ a < 18446744073709551616 ∧ Ext w wr) (fun av _ _ => (intOf av).toNat)
 case atStart => exact ⟨a, b, rfl, rfl, HG, ha, Ext.refl _⟩
 case round =>
  clear HG ha
  obtain ⟨x, y, rfl, rfl, hG, hx, hE⟩ := hrel
  obtain ⟨wo, rfl⟩ := zgE wr
  by_cases h0 : x = 0
  ·subst h0
   go_wp2
   go_ret
   exact ⟨by rw [hG.out]; simp, hE⟩
  ·have h0b : ((x : Int) != 0) = true := by rw [bne, beq_eq_false_iff_ne.2 (by omega)]; rfl
   have h0c : ((x : Int) == 0) = false := beq_eq_false_iff_ne.2 (by omega)
   have hlt : y % x < x := Nat.mod_lt _ (by omega)
   go_upto_region 2 with (fail)
   go_wp2
   exact ⟨⟨y % x, x, by simp, rfl, by unfold Hid; rw [hG.out, Nat.gcd_rec x y], by omega, hE⟩, by simp [intOf]; omega⟩
set_option maxHeartbeats 2000000 in
theorem isRatioR_any (n d : Int) (h1 : -9223372036854775808 ≤ n) (h2 : n ≤ 9223372036854775807) (h3 : -9223372036854775808 ≤ d) (h4 : d ≤ 9223372036854775807) (w : World) :
  Calls Tryz.prog 107 #[.agg #[.int .i64 n, .int .i64 d]] w fun e w' => e = .returned (.bool (Rt.ok ⟨n, d⟩)) ∧ Ext w w' := by
 have N1 := fun w => sizeR_any n h1 h2 w
 have N2 := fun w => sizeR_any d h3 h4 w
 have N3 := fun w => gcdR_any n.natAbs d.natAbs (by omega) w
 have HR : Hid (Rt.ok ⟨n, d⟩ = (decide (1 ≤ d) && decide (d ≤ 1048576) && decide (-1099511627776 ≤ n) && decide (n ≤ 1099511627776) && decide (Nat.gcd n.natAbs d.natAbs = 1))) := rfl
 generalize Rt.ok ⟨n, d⟩ = r at *
 clear h1 h2 h3 h4
 by_cases a1 : 1 ≤ d
 rotate_left
 ·rw [decide_eq_false a1] at HR
  simp only [Bool.false_and] at HR
  have a1b : decide (1 ≤ d) = false := decide_eq_false a1
  go_enter Tryz.func107, Tryz.ntmps107
  go_upto_region 1 with (fail)
  obtain ⟨v, hv⟩ := zgE (w.alloc (.cells #[.int .i64 n, .int .i64 d] 23))
  rw [← hv]
  have E : Ext w v := by rw [hv]; exact (Ext.refl _).alloc _
  have B1 : Held v w.heap.size 23 #[.int .i64 n, .int .i64 d] := by rw [hv]; exact Held.new _ _ _
  clear hv
  generalize w.heap.size = b1 at *
  obtain ⟨k0, k1⟩ := B1.c2
  have lk := B1.lt
  refine wp_region_xw v mixed (by kernel_rfl) (by repeat (first | exact Ext.refl _ | (refine Ext.alloc ?_ _) | (refine Ext.trans ?_ (by assumption)))) ?_
  intro hne hrx hry
  try simp only []
  try simp only [List.append_eq, List.cons_append, List.nil_append]
  skip
  repeat (first
   | go_big_quiet_skip
   | (go_big_quiet_want; go_big_quiet_op; go_big_quiet_on)
   | (go_big_quiet_want; go_big_quiet_op; apply Exists.intro; refine ⟨fun u => ?_, ?_⟩
      ·first
        | (go_at_call 135; (with_reducible refine Calls.mono (N1 _) ?_); rintro e w' ⟨rfl, hb⟩; exact ⟨rfl, u.back hb⟩)
        | (go_at_call 135; (with_reducible refine Calls.mono (N2 _) ?_); rintro e w' ⟨rfl, hb⟩; exact ⟨rfl, u.back hb⟩)
        | (go_at_call 150; (with_reducible refine Calls.mono (N3 _) ?_); rintro e w' ⟨rfl, hb⟩; exact ⟨rfl, u.back hb⟩)
      go_big_quiet_on))
  clear hne hry hrx
  refine wpQuiet_nil ?_
  intro w2 h
  obtain ⟨hcw2, hfw2, hzw2⟩ := Ext.rules h
  try simp only [World.size_alloc] at hzw2
  obtain ⟨hcbw2, hfbw2, hzbw2⟩ := Ext.rules (show Ext v w2 from (by repeat (first | exact Ext.refl _ | (refine Ext.alloc ?_ _) | (refine Ext.trans ?_ (by assumption)))))
  clear hcw2 hfw2
  go_wp2
  go_ret
  exact ⟨by rw [HR.out]; rfl, E.trans h⟩
 have a1b : decide (1 ≤ d) = true := decide_eq_true a1
 rw [a1b] at HR
 by_cases a2 : d ≤ 1048576
 rotate_left
 ·rw [decide_eq_false a2] at HR
  simp only [Bool.and_false, Bool.false_and] at HR
  have a2b : decide (d ≤ 1048576) = false := decide_eq_false a2
  go_enter Tryz.func107, Tryz.ntmps107
  go_upto_region 1 with (fail)
  obtain ⟨v, hv⟩ := zgE (w.alloc (.cells #[.int .i64 n, .int .i64 d] 23))
  rw [← hv]
  have E : Ext w v := by rw [hv]; exact (Ext.refl _).alloc _
  have B1 : Held v w.heap.size 23 #[.int .i64 n, .int .i64 d] := by rw [hv]; exact Held.new _ _ _
  clear hv
  generalize w.heap.size = b1 at *
  obtain ⟨k0, k1⟩ := B1.c2
  have lk := B1.lt
  refine wp_region_xw v mixed (by kernel_rfl) (by repeat (first | exact Ext.refl _ | (refine Ext.alloc ?_ _) | (refine Ext.trans ?_ (by assumption)))) ?_
  intro hne hrx hry
  try simp only []
  try simp only [List.append_eq, List.cons_append, List.nil_append]
  skip
  repeat (first
   | go_big_quiet_skip
   | (go_big_quiet_want; go_big_quiet_op; go_big_quiet_on)
   | (go_big_quiet_want; go_big_quiet_op; apply Exists.intro; refine ⟨fun u => ?_, ?_⟩
      ·first
        | (go_at_call 135; (with_reducible refine Calls.mono (N1 _) ?_); rintro e w' ⟨rfl, hb⟩; exact ⟨rfl, u.back hb⟩)
        | (go_at_call 135; (with_reducible refine Calls.mono (N2 _) ?_); rintro e w' ⟨rfl, hb⟩; exact ⟨rfl, u.back hb⟩)
        | (go_at_call 150; (with_reducible refine Calls.mono (N3 _) ?_); rintro e w' ⟨rfl, hb⟩; exact ⟨rfl, u.back hb⟩)
      go_big_quiet_on))
  clear hne hry hrx
  refine wpQuiet_nil ?_
  intro w2 h
  obtain ⟨hcw2, hfw2, hzw2⟩ := Ext.rules h
  try simp only [World.size_alloc] at hzw2
  obtain ⟨hcbw2, hfbw2, hzbw2⟩ := Ext.rules (show Ext v w2 from (by repeat (first | exact Ext.refl _ | (refine Ext.alloc ?_ _) | (refine Ext.trans ?_ (by assumption)))))
  clear hcw2 hfw2
  go_wp2
  go_ret
  exact ⟨by rw [HR.out]; rfl, E.trans h⟩
 have a2b : decide (d ≤ 1048576) = true := decide_eq_true a2
 rw [a2b] at HR
 by_cases a3 : -1099511627776 ≤ n
 rotate_left
 ·rw [decide_eq_false a3] at HR
  simp only [Bool.and_false, Bool.false_and] at HR
  have a3b : decide (-1099511627776 ≤ n) = false := decide_eq_false a3
  go_enter Tryz.func107, Tryz.ntmps107
  go_upto_region 1 with (fail)
  obtain ⟨v, hv⟩ := zgE (w.alloc (.cells #[.int .i64 n, .int .i64 d] 23))
  rw [← hv]
  have E : Ext w v := by rw [hv]; exact (Ext.refl _).alloc _
  have B1 : Held v w.heap.size 23 #[.int .i64 n, .int .i64 d] := by rw [hv]; exact Held.new _ _ _
  clear hv
  generalize w.heap.size = b1 at *
  obtain ⟨k0, k1⟩ := B1.c2
  have lk := B1.lt
  refine wp_region_xw v mixed (by kernel_rfl) (by repeat (first | exact Ext.refl _ | (refine Ext.alloc ?_ _) | (refine Ext.trans ?_ (by assumption)))) ?_
  intro hne hrx hry
  try simp only []
  try simp only [List.append_eq, List.cons_append, List.nil_append]
  skip
  repeat (first
   | go_big_quiet_skip
   | (go_big_quiet_want; go_big_quiet_op; go_big_quiet_on)
   | (go_big_quiet_want; go_big_quiet_op; apply Exists.intro; refine ⟨fun u => ?_, ?_⟩
      ·first
        | (go_at_call 135; (with_reducible refine Calls.mono (N1 _) ?_); rintro e w' ⟨rfl, hb⟩; exact ⟨rfl, u.back hb⟩)
        | (go_at_call 135; (with_reducible refine Calls.mono (N2 _) ?_); rintro e w' ⟨rfl, hb⟩; exact ⟨rfl, u.back hb⟩)
        | (go_at_call 150; (with_reducible refine Calls.mono (N3 _) ?_); rintro e w' ⟨rfl, hb⟩; exact ⟨rfl, u.back hb⟩)
      go_big_quiet_on))
  clear hne hry hrx
  refine wpQuiet_nil ?_
  intro w2 h
  obtain ⟨hcw2, hfw2, hzw2⟩ := Ext.rules h
  try simp only [World.size_alloc] at hzw2
  obtain ⟨hcbw2, hfbw2, hzbw2⟩ := Ext.rules (show Ext v w2 from (by repeat (first | exact Ext.refl _ | (refine Ext.alloc ?_ _) | (refine Ext.trans ?_ (by assumption)))))
  clear hcw2 hfw2
  go_wp2
  go_ret
  exact ⟨by rw [HR.out]; rfl, E.trans h⟩
 have a3b : decide (-1099511627776 ≤ n) = true := decide_eq_true a3
 rw [a3b] at HR
 by_cases a4 : n ≤ 1099511627776
 rotate_left
 ·rw [decide_eq_false a4] at HR
  simp only [Bool.and_false, Bool.false_and] at HR
  have a4b : decide (n ≤ 1099511627776) = false := decide_eq_false a4
  go_enter Tryz.func107, Tryz.ntmps107
  go_upto_region 1 with (fail)
  obtain ⟨v, hv⟩ := zgE (w.alloc (.cells #[.int .i64 n, .int .i64 d] 23))
  rw [← hv]
  have E : Ext w v := by rw [hv]; exact (Ext.refl _).alloc _
  have B1 : Held v w.heap.size 23 #[.int .i64 n, .int .i64 d] := by rw [hv]; exact Held.new _ _ _
  clear hv
  generalize w.heap.size = b1 at *
  obtain ⟨k0, k1⟩ := B1.c2
  have lk := B1.lt
  refine wp_region_xw v mixed (by kernel_rfl) (by repeat (first | exact Ext.refl _ | (refine Ext.alloc ?_ _) | (refine Ext.trans ?_ (by assumption)))) ?_
  intro hne hrx hry
  try simp only []
  try simp only [List.append_eq, List.cons_append, List.nil_append]
  skip
  repeat (first
   | go_big_quiet_skip
   | (go_big_quiet_want; go_big_quiet_op; go_big_quiet_on)
   | (go_big_quiet_want; go_big_quiet_op; apply Exists.intro; refine ⟨fun u => ?_, ?_⟩
      ·first
        | (go_at_call 135; (with_reducible refine Calls.mono (N1 _) ?_); rintro e w' ⟨rfl, hb⟩; exact ⟨rfl, u.back hb⟩)
        | (go_at_call 135; (with_reducible refine Calls.mono (N2 _) ?_); rintro e w' ⟨rfl, hb⟩; exact ⟨rfl, u.back hb⟩)
        | (go_at_call 150; (with_reducible refine Calls.mono (N3 _) ?_); rintro e w' ⟨rfl, hb⟩; exact ⟨rfl, u.back hb⟩)
      go_big_quiet_on))
  clear hne hry hrx
  refine wpQuiet_nil ?_
  intro w2 h
  obtain ⟨hcw2, hfw2, hzw2⟩ := Ext.rules h
  try simp only [World.size_alloc] at hzw2
  obtain ⟨hcbw2, hfbw2, hzbw2⟩ := Ext.rules (show Ext v w2 from (by repeat (first | exact Ext.refl _ | (refine Ext.alloc ?_ _) | (refine Ext.trans ?_ (by assumption)))))
  clear hcw2 hfw2
  go_wp2
  go_ret
  exact ⟨by rw [HR.out]; rfl, E.trans h⟩
 have a4b : decide (n ≤ 1099511627776) = true := decide_eq_true a4
 rw [a4b] at HR
 simp only [Bool.true_and] at HR
 by_cases hg : Nat.gcd n.natAbs d.natAbs = 1
 ·rw [decide_eq_true hg] at HR
  rw [hg] at N3
  go_enter Tryz.func107, Tryz.ntmps107
  go_upto_region 1 with (fail)
  obtain ⟨v, hv⟩ := zgE (w.alloc (.cells #[.int .i64 n, .int .i64 d] 23))
  rw [← hv]
  have E : Ext w v := by rw [hv]; exact (Ext.refl _).alloc _
  have B1 : Held v w.heap.size 23 #[.int .i64 n, .int .i64 d] := by rw [hv]; exact Held.new _ _ _
  clear hv
  generalize w.heap.size = b1 at *
  obtain ⟨k0, k1⟩ := B1.c2
  have lk := B1.lt
  refine wp_region_xw v mixed (by kernel_rfl) (by repeat (first | exact Ext.refl _ | (refine Ext.alloc ?_ _) | (refine Ext.trans ?_ (by assumption)))) ?_
  intro hne hrx hry
  try simp only []
  try simp only [List.append_eq, List.cons_append, List.nil_append]
  skip
  repeat (first
   | go_big_quiet_skip
   | (go_big_quiet_want; go_big_quiet_op; go_big_quiet_on)
   | (go_big_quiet_want; go_big_quiet_op; apply Exists.intro; refine ⟨fun u => ?_, ?_⟩
      ·first
        | (go_at_call 135; (with_reducible refine Calls.mono (N1 _) ?_); rintro e w' ⟨rfl, hb⟩; exact ⟨rfl, u.back hb⟩)
        | (go_at_call 135; (with_reducible refine Calls.mono (N2 _) ?_); rintro e w' ⟨rfl, hb⟩; exact ⟨rfl, u.back hb⟩)
        | (go_at_call 150; (with_reducible refine Calls.mono (N3 _) ?_); rintro e w' ⟨rfl, hb⟩; exact ⟨rfl, u.back hb⟩)
      go_big_quiet_on))
  clear hne hry hrx
  refine wpQuiet_nil ?_
  intro w2 h
  obtain ⟨hcw2, hfw2, hzw2⟩ := Ext.rules h
  try simp only [World.size_alloc] at hzw2
  obtain ⟨hcbw2, hfbw2, hzbw2⟩ := Ext.rules (show Ext v w2 from (by repeat (first | exact Ext.refl _ | (refine Ext.alloc ?_ _) | (refine Ext.trans ?_ (by assumption)))))
  clear hcw2 hfw2
  go_wp2
  go_ret
  exact ⟨by rw [HR.out]; rfl, E.trans h⟩
 ·rw [decide_eq_false hg] at HR
  have hgb : (((Nat.gcd n.natAbs d.natAbs : Nat) : Int) == 1) = false := beq_eq_false_iff_ne.2 (by omega)
  generalize Nat.gcd n.natAbs d.natAbs = gg at *
  go_enter Tryz.func107, Tryz.ntmps107
  go_upto_region 1 with (fail)
  obtain ⟨v, hv⟩ := zgE (w.alloc (.cells #[.int .i64 n, .int .i64 d] 23))
  rw [← hv]
  have E : Ext w v := by rw [hv]; exact (Ext.refl _).alloc _
  have B1 : Held v w.heap.size 23 #[.int .i64 n, .int .i64 d] := by rw [hv]; exact Held.new _ _ _
  clear hv
  generalize w.heap.size = b1 at *
  obtain ⟨k0, k1⟩ := B1.c2
  have lk := B1.lt
  refine wp_region_xw v mixed (by kernel_rfl) (by repeat (first | exact Ext.refl _ | (refine Ext.alloc ?_ _) | (refine Ext.trans ?_ (by assumption)))) ?_
  intro hne hrx hry
  try simp only []
  try simp only [List.append_eq, List.cons_append, List.nil_append]
  skip
  repeat (first
   | go_big_quiet_skip
   | (go_big_quiet_want; go_big_quiet_op; go_big_quiet_on)
   | (go_big_quiet_want; go_big_quiet_op; apply Exists.intro; refine ⟨fun u => ?_, ?_⟩
      ·first
        | (go_at_call 135; (with_reducible refine Calls.mono (N1 _) ?_); rintro e w' ⟨rfl, hb⟩; exact ⟨rfl, u.back hb⟩)
        | (go_at_call 135; (with_reducible refine Calls.mono (N2 _) ?_); rintro e w' ⟨rfl, hb⟩; exact ⟨rfl, u.back hb⟩)
        | (go_at_call 150; (with_reducible refine Calls.mono (N3 _) ?_); rintro e w' ⟨rfl, hb⟩; exact ⟨rfl, u.back hb⟩)
      go_big_quiet_on))
  clear hne hry hrx
  refine wpQuiet_nil ?_
  intro w2 h
  obtain ⟨hcw2, hfw2, hzw2⟩ := Ext.rules h
  try simp only [World.size_alloc] at hzw2
  obtain ⟨hcbw2, hfbw2, hzbw2⟩ := Ext.rules (show Ext v w2 from (by repeat (first | exact Ext.refl _ | (refine Ext.alloc ?_ _) | (refine Ext.trans ?_ (by assumption)))))
  clear hcw2 hfw2
  go_wp2
  go_ret
  exact ⟨by rw [HR.out]; rfl, E.trans h⟩
theorem cmpFR_any (a b : Rt) (hia : a.In) (hib : b.In) (w : World) :
  Calls Tryz.prog 106 #[.agg #[.int .i64 a.n, .int .i64 a.d], .agg #[.int .i64 b.n, .int .i64 b.d]] w fun e w' => e = .returned (.tuple #[.int .i64 (cmpR a b).1, .int .i64 (cmpR a b).2]) ∧ Ext w w' := by
 have NA := fun w => isRatioR_any a.n a.d hia.1 hia.2.1 hia.2.2.1 hia.2.2.2 w
 have NB := fun w => isRatioR_any b.n b.d hib.1 hib.2.1 hib.2.2.1 hib.2.2.2 w
 rw [show Rt.ok ⟨a.n, a.d⟩ = a.ok from rfl] at NA
 rw [show Rt.ok ⟨b.n, b.d⟩ = b.ok from rfl] at NB
 have HV : Hid (cmpR a b = if a.ok && b.ok then (cmpS (a.n * b.d) (b.n * a.d), 0) else (0, 2)) := rfl
 obtain ⟨R, hR0⟩ := zgE (cmpR a b)
 rw [← hR0] at HV ⊢
 clear hR0
 cases ha : a.ok
 ·simp only [ha] at NA
  have hr := HV.out
  rw [ha, Bool.false_and, if_neg (by decide)] at hr
  subst hr
  clear HV NB
  go_enter Tryz.func106, Tryz.ntmps106
  go_upto_region 1 with (fail)
  obtain ⟨v, hv⟩ := zgE ((w.alloc (.cells #[.int .i64 a.n, .int .i64 a.d] 23)).alloc (.cells #[.int .i64 b.n, .int .i64 b.d] 23))
  rw [← hv]
  have E : Ext w v := by rw [hv]; exact ((Ext.refl _).alloc _).alloc _
  have B1 : Held v w.heap.size 23 #[.int .i64 a.n, .int .i64 a.d] := by rw [hv]; exact (Held.new _ _ _).alloc _
  have B2 : Held v (w.heap.size + 1) 23 #[.int .i64 b.n, .int .i64 b.d] := by rw [hv]; exact Held.at _ _ _ _ (by simp)
  clear hv
  obtain ⟨b2, hb2⟩ := zgE (w.heap.size + 1)
  rw [← hb2] at B2 ⊢
  obtain ⟨b1, hb1⟩ := zgE (w.heap.size)
  rw [← hb1] at B1 ⊢
  have hbr : w.heap.size ≤ b2 := by omega
  have hbr1 : w.heap.size ≤ b1 := by omega
  have hn21 : b2 ≠ b1 := by omega
  clear hb1 hb2
  obtain ⟨k0, k1⟩ := B1.c2
  have lk := B1.lt
  obtain ⟨p0, p1⟩ := B2.c2
  have lp := B2.lt
  go_wp2_with (go_at_call 107; (with_reducible refine Calls.mono (NA _) ?_); rintro e w2 ⟨rfl, h⟩)
  go_ret2
  exact ⟨rfl, E.trans h⟩
 ·simp only [ha] at NA
  cases hb : b.ok
  ·simp only [hb] at NB
   have hr := HV.out
   rw [hb, Bool.and_false, if_neg (by decide)] at hr
   subst hr
   clear HV
   go_enter Tryz.func106, Tryz.ntmps106
   go_upto_region 1 with (fail)
   obtain ⟨v, hv⟩ := zgE ((w.alloc (.cells #[.int .i64 a.n, .int .i64 a.d] 23)).alloc (.cells #[.int .i64 b.n, .int .i64 b.d] 23))
   rw [← hv]
   have E : Ext w v := by rw [hv]; exact ((Ext.refl _).alloc _).alloc _
   have B1 : Held v w.heap.size 23 #[.int .i64 a.n, .int .i64 a.d] := by rw [hv]; exact (Held.new _ _ _).alloc _
   have B2 : Held v (w.heap.size + 1) 23 #[.int .i64 b.n, .int .i64 b.d] := by rw [hv]; exact Held.at _ _ _ _ (by simp)
   clear hv
   obtain ⟨b2, hb2⟩ := zgE (w.heap.size + 1)
   rw [← hb2] at B2 ⊢
   obtain ⟨b1, hb1⟩ := zgE (w.heap.size)
   rw [← hb1] at B1 ⊢
   have hbr : w.heap.size ≤ b2 := by omega
   have hbr1 : w.heap.size ≤ b1 := by omega
   have hn21 : b2 ≠ b1 := by omega
   clear hb1 hb2
   obtain ⟨k0, k1⟩ := B1.c2
   have lk := B1.lt
   obtain ⟨p0, p1⟩ := B2.c2
   have lp := B2.lt
   go_wp2_with (first | (go_at_call 107; (with_reducible refine Calls.mono (NA _) ?_); rintro e w1 ⟨rfl, h1⟩; clear p0 p1 lp; obtain ⟨p0, p1⟩ := (B2.ext h1).c2; have lp := (B2.ext h1).lt) | (go_at_call 107; (with_reducible refine Calls.mono (NB _) ?_); rintro e w2 ⟨rfl, h⟩))
   go_ret2
   exact ⟨rfl, (E.trans h1).trans h⟩
  ·simp only [hb] at NB
   have hr := HV.out
   rw [ha, hb, Bool.and_true, if_pos rfl] at hr
   obtain ⟨m1, m2, _, _⟩ := ok_mul ha hb
   obtain ⟨m5, m6, _, _⟩ := ok_mul hb ha
   have v1 : IntKind.i64.wrap (a.n * b.d) = a.n * b.d := wrap64 (by omega) (by omega)
   have v2 : IntKind.i64.wrap (b.n * a.d) = b.n * a.d := wrap64 (by omega) (by omega)
   have hc : Hid (R.1 = cmpS (a.n * b.d) (b.n * a.d) ∧ R.2 = 0) := ⟨by rw [hr], by rw [hr]⟩
   clear HV hr ha hb hia hib
   generalize hx : a.n * b.d = x at *
   generalize hy : b.n * a.d = y at *
   replace hx := Lib.hid hx
   replace hy := Lib.hid hy
   go_enter Tryz.func106, Tryz.ntmps106
   go_upto_region 1 with (fail)
   obtain ⟨v, hv⟩ := zgE ((w.alloc (.cells #[.int .i64 a.n, .int .i64 a.d] 23)).alloc (.cells #[.int .i64 b.n, .int .i64 b.d] 23))
   rw [← hv]
   have E : Ext w v := by rw [hv]; exact ((Ext.refl _).alloc _).alloc _
   have B1 : Held v w.heap.size 23 #[.int .i64 a.n, .int .i64 a.d] := by rw [hv]; exact (Held.new _ _ _).alloc _
   have B2 : Held v (w.heap.size + 1) 23 #[.int .i64 b.n, .int .i64 b.d] := by rw [hv]; exact Held.at _ _ _ _ (by simp)
   clear hv
   obtain ⟨b2, hb2⟩ := zgE (w.heap.size + 1)
   rw [← hb2] at B2 ⊢
   obtain ⟨b1, hb1⟩ := zgE (w.heap.size)
   rw [← hb1] at B1 ⊢
   have hbr : w.heap.size ≤ b2 := by omega
   have hbr1 : w.heap.size ≤ b1 := by omega
   have hn21 : b2 ≠ b1 := by omega
   clear hb1 hb2
   obtain ⟨k0, k1⟩ := B1.c2
   have lk := B1.lt
   obtain ⟨p0, p1⟩ := B2.c2
   have lp := B2.lt
   go_upto_region 3 with (first | (go_at_call 107; (with_reducible refine Calls.mono (NA _) ?_); rintro e w1 ⟨rfl, h1⟩; clear p0 p1 lp; obtain ⟨p0, p1⟩ := (B2.ext h1).c2; have lp := (B2.ext h1).lt) | (go_at_call 107; (with_reducible refine Calls.mono (NB _) ?_); rintro e w2 ⟨rfl, h⟩))
   replace E := (E.trans h1).trans h
   replace B1 := (B1.ext h1).ext h
   replace B2 := (B2.ext h1).ext h
   clear k0 k1 lk p0 p1 lp h h1
   obtain ⟨k0, k1⟩ := B1.c2
   have lk := B1.lt
   obtain ⟨p0, p1⟩ := B2.c2
   have lp := B2.lt
   have x1 := hx.out
   have y1 := hy.out
   refine wp_region_xw w2 mixed (by kernel_rfl) (by repeat (first | exact Ext.refl _ | (refine Ext.alloc ?_ _) | (refine Ext.trans ?_ (by assumption)))) ?_
   intro hne hrx hry
   try simp only []
   try simp only [List.append_eq, List.cons_append, List.nil_append]
   skip
   repeat (first
    | go_big_quiet_skip
    | (go_big_quiet_want; go_big_quiet_op; go_big_quiet_on))
   clear hne hry hrx
   refine wpQuiet_nil ?_
   intro w3 h3
   obtain ⟨hcw3, hfw3, hzw3⟩ := Ext.rules h3
   try simp only [World.size_alloc] at hzw3
   obtain ⟨hcbw3, hfbw3, hzbw3⟩ := Ext.rules (show Ext w2 w3 from (by repeat (first | exact Ext.refl _ | (refine Ext.alloc ?_ _) | (refine Ext.trans ?_ (by assumption)))))
   clear hcw3 hfw3
   clear x1 y1
   by_cases c1 : x < y
   ·have g1 : decide (x < y) = true := decide_eq_true c1
    have hR : R = (-1, 0) := Prod.ext (by rw [hc.out.1, cmpS, if_pos c1]) hc.out.2
    subst hR
    clear c1 hc
    go_wp2
    go_ret2
    exact ⟨rfl, E.trans h3⟩
   ·have g1 : decide (x < y) = false := decide_eq_false c1
    by_cases c2 : y < x
    ·have g2 : decide (y < x) = true := decide_eq_true c2
     have hR : R = (1, 0) := Prod.ext (by rw [hc.out.1, cmpS, if_neg c1, if_pos c2]) hc.out.2
     subst hR
     clear c1 c2 hc
     go_wp2
     go_ret2
     exact ⟨rfl, E.trans h3⟩
    ·have g2 : decide (y < x) = false := decide_eq_false c2
     have hR : R = (0, 0) := Prod.ext (by rw [hc.out.1, cmpS, if_neg c1, if_neg c2]) hc.out.2
     subst hR
     clear c1 c2 hc
     go_wp2
     go_ret2
     exact ⟨rfl, E.trans h3⟩
theorem wholeR_any (n : Int) (w : World) :
  Calls Tryz.prog 53 #[.int .i64 n] w fun e w' => e = .returned (.agg #[.int .i64 n, .int .i64 1]) ∧ Ext w w' := by
 go_enter Tryz.func53, Tryz.ntmps53
 go_wp2
 refine bodyPost_ret (v := .agg #[.int .i64 n, .int .i64 1]) (by simp [results, Tryz.results53, go_sem]) rfl ⟨rfl, (by repeat (first | exact Ext.refl _ | (refine Ext.alloc ?_ _) | (refine Ext.trans ?_ (by assumption))))⟩
theorem cmp_zero {r : Rt} (h : r.ok = true) : cmpR r (ratW 0) = (cmpS (r.n * 1) (0 * r.d), 0) := by
 unfold cmpR
 rw [h, whole_ok (by decide) (by decide)]
 rfl
theorem least_zero (r : Rt) : (decide ((cmpR r (ratW 0)).2 = 0) && decide (0 ≤ (cmpR r (ratW 0)).1)) = r.nn := by
 cases h : r.ok
 ·unfold cmpR Rt.nn
  rw [h]; rfl
 ·rw [cmp_zero h]
  unfold Rt.nn cmpS
  rw [h]
  simp only [Int.mul_one, Int.zero_mul, decide_true, Bool.true_and]
  by_cases h0 : r.n < 0
  ·rw [if_pos h0, decide_eq_false (by omega), decide_eq_false (by omega)]
  ·rw [if_neg h0, decide_eq_true (show 0 ≤ r.n by omega)]
   split <;> rfl
theorem atLeast_any (r : Rt) (hr : r.In) (w : World) :
  Calls Tryz.prog 51 #[.agg #[.int .i64 r.n, .int .i64 r.d], .int .i64 0] w fun e w' => e = .returned (.bool r.nn) ∧ Ext w w' := by
 have NW := fun w => wholeR_any 0 w
 have NC := fun w => cmpFR_any r (ratW 0) hr (by unfold Rt.In ratW; decide) w
 have HR := Lib.hid (least_zero r)
 generalize cmpR r (ratW 0) = P at *
 generalize r.nn = b at *
 obtain ⟨pc, pe⟩ := P
 simp only at NC HR
 go_enter Tryz.func51, Tryz.ntmps51
 go_upto_region 1 with (fail)
 obtain ⟨v, hv⟩ := zgE (w.alloc (.cells #[.int .i64 r.n, .int .i64 r.d] 23))
 rw [← hv]
 have E : Ext w v := by rw [hv]; exact (Ext.refl _).alloc _
 have B1 : Held v w.heap.size 23 #[.int .i64 r.n, .int .i64 r.d] := by rw [hv]; exact (Held.new _ _ _)
 clear hv
 obtain ⟨b1, hb1⟩ := zgE (w.heap.size)
 rw [← hb1] at B1 ⊢
 have hbr : w.heap.size ≤ b1 := by omega
 clear hb1
 obtain ⟨k0, k1⟩ := B1.c2
 have lk := B1.lt
 have NC2 : ∀ w, Calls Tryz.prog 106 #[.agg #[.int .i64 r.n, .int .i64 r.d], .agg #[.int .i64 0, .int .i64 1]] w fun e w' => e = .returned (.tuple #[.int .i64 pc, .int .i64 pe]) ∧ Ext w w' := NC
 clear NC
 refine wp_region_xw v mixed (by kernel_rfl) (by repeat (first | exact Ext.refl _ | (refine Ext.alloc ?_ _) | (refine Ext.trans ?_ (by assumption)))) ?_
 intro hne hrx hry
 try simp only []
 try simp only [List.append_eq, List.cons_append, List.nil_append]
 skip
 repeat (first
  | go_big_quiet_skip
  | (go_big_quiet_want; go_big_quiet_op; go_big_quiet_on)
  | (go_big_quiet_want; go_big_quiet_op; apply Exists.intro; refine ⟨fun u => ?_, ?_⟩
     ·first
       | (go_at_call 53; (with_reducible refine Calls.mono (NW _) ?_); rintro e w' ⟨rfl, hb⟩; exact ⟨rfl, u.back hb⟩)
       | (go_at_call 106; (with_reducible refine Calls.mono (NC2 _) ?_); rintro e w' ⟨rfl, hb⟩; exact ⟨rfl, u.back hb⟩)
     go_big_quiet_on))
 clear hne hry hrx
 refine wpQuiet_nil ?_
 intro v2 h2
 obtain ⟨hcv2, hfv2, hzv2⟩ := Ext.rules h2
 try simp only [World.size_alloc] at hzv2
 obtain ⟨hcbv2, hfbv2, hzbv2⟩ := Ext.rules (show Ext v v2 from (by repeat (first | exact Ext.refl _ | (refine Ext.alloc ?_ _) | (refine Ext.trans ?_ (by assumption)))))
 clear hcv2 hfv2
 clear k0 k1 lk B1 NC2 NW
 by_cases he : pe = 0
 ·subst he
  by_cases hc : 0 ≤ pc
  ·have g1 : decide (0 ≤ pc) = true := decide_eq_true hc
   have hb := HR.out
   rw [g1] at hb
   clear HR hc
   go_wp2
   go_ret
   exact ⟨by rw [← hb]; rfl, E.trans h2⟩
  ·have g1 : decide (0 ≤ pc) = false := decide_eq_false hc
   have hb := HR.out
   rw [g1] at hb
   clear HR hc
   go_wp2
   go_ret
   exact ⟨by rw [← hb]; rfl, E.trans h2⟩
 ·have g0 : (pe == 0) = false := beq_eq_false_iff_ne.2 he
  have hb := HR.out
  rw [decide_eq_false he] at hb
  clear HR he
  go_wp2
  go_ret
  exact ⟨by rw [← hb]; rfl, E.trans h2⟩
theorem rate_any (r : Rt) (hr : r.In) (w : World) :
  Calls Tryz.prog 83 #[.agg #[.int .i64 r.n, .int .i64 r.d]] w fun e w' => e = .returned (.bool r.shr) ∧ Ext w w' := by
 have NL := fun w => atLeast_any r hr w
 have HR : Hid (r.shr = (r.nn && decide (r.n ≤ r.d))) := rfl
 generalize r.nn = b at *
 generalize r.shr = c at *
 go_enter Tryz.func83, Tryz.ntmps83
 go_upto_region 1 with (fail)
 obtain ⟨v, hv⟩ := zgE (w.alloc (.cells #[.int .i64 r.n, .int .i64 r.d] 23))
 rw [← hv]
 have E : Ext w v := by rw [hv]; exact (Ext.refl _).alloc _
 have B1 : Held v w.heap.size 23 #[.int .i64 r.n, .int .i64 r.d] := by rw [hv]; exact (Held.new _ _ _)
 clear hv
 obtain ⟨b1, hb1⟩ := zgE (w.heap.size)
 rw [← hb1] at B1 ⊢
 have hbr : w.heap.size ≤ b1 := by omega
 clear hb1
 obtain ⟨k0, k1⟩ := B1.c2
 have lk := B1.lt
 cases b
 ·have hb := HR.out
  clear HR
  subst hb
  go_wp2_with (go_at_call 51; (with_reducible refine Calls.mono (NL _) ?_); rintro e w2 ⟨rfl, h2⟩; clear k0 k1 lk; obtain ⟨k0, k1⟩ := (B1.ext h2).c2; have lk := (B1.ext h2).lt)
  go_ret
  exact ⟨rfl, E.trans h2⟩
 ·have hb := HR.out
  clear HR
  rw [Bool.true_and] at hb
  subst hb
  go_wp2_with (go_at_call 51; (with_reducible refine Calls.mono (NL _) ?_); rintro e w2 ⟨rfl, h2⟩; clear k0 k1 lk; obtain ⟨k0, k1⟩ := (B1.ext h2).c2; have lk := (B1.ext h2).lt)
  go_ret
  exact ⟨rfl, E.trans h2⟩
end Go.Proofs.YthmjpbafbohelaaGreatDoor
