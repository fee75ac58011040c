/- Walks of the program's functions and plain facts, packed; proved: the lemmas below; no conditions but those that each states. -/
import Derived.Test.YtoflcheopfppoaaGreatDoorJ5
import Derived.Test.YtoflcheopfppoaaGreatDoorJ6
import Derived.LaidSub
import Derived.Test.YtoflcheopfppoaaGreatDoorJ1
import Derived.Test.YtoflcheopfppoaaGreatDoorJ4
set_option maxRecDepth 100000
set_option maxHeartbeats 4000000
namespace Go.Proofs.YtoflcheopfppoaaGreatDoor
section
open Go Go.RowKit Go.Shelf
attribute [local go_sem] Zq
def X5 (h : Yf) : Nat → Bool
 | 0 => true
 | 1 => true && (decide (0 ≤ h.e) && decide (h.e ≤ 1048576))
 | 2 => (true && (decide (0 ≤ h.e) && decide (h.e ≤ 1048576))) && (decide (0 ≤ h.r) && decide (h.r ≤ 1048576))
 | _ => ((true && (decide (0 ≤ h.e) && decide (h.e ≤ 1048576))) && (decide (0 ≤ h.r) && decide (h.r ≤ 1048576))) && (decide (0 ≤ h.l) && decide (h.l ≤ 1048576))
section
variable {W w : World} {b : Nat} {t : TypeId} {v0 v1 v2 : Value}
theorem Ps (h : Qb W b t #[v0, v1, v2]) (u : Value) : Qb (W.setCell ⟨b, 0, none⟩ u) b t #[u, v1, v2] := by unfold Qb at h ⊢; simp [World.setCell, Array.getElem?_modify, h]
theorem Pt (h : Qb W b t #[v0, v1, v2]) (u : Value) : Qb (W.setCell ⟨b, 1, none⟩ u) b t #[v0, u, v2] := by unfold Qb at h ⊢; simp [World.setCell, Array.getElem?_modify, h]
theorem Pu (h : Qb W b t #[v0, v1, v2]) (u : Value) : Qb (W.setCell ⟨b, 2, none⟩ u) b t #[v0, v1, u] := by unfold Qb at h ⊢; simp [World.setCell, Array.getElem?_modify, h]
theorem Vw (h : Qb W b t #[v0, v1, v2]) (u0 u1 u2 : Value) : Qb (((W.setCell ⟨b, 0, none⟩ u0).setCell ⟨b, 1, none⟩ u1).setCell ⟨b, 2, none⟩ u2) b t #[u0, u1, u2] := by unfold Qb at h ⊢; simp [World.setCell, Array.getElem?_modify, h]
theorem Vt (h : Qa w W) (hb : w.heap.size ≤ b) (u0 u1 u2 : Value) : Qa w (((W.setCell ⟨b, 0, none⟩ u0).setCell ⟨b, 1, none⟩ u1).setCell ⟨b, 2, none⟩ u2) := ((h.setCell (p := ⟨b, 0, none⟩) hb u0).setCell (p := ⟨b, 1, none⟩) hb u1).setCell (p := ⟨b, 2, none⟩) hb u2
end
def stJ (d : Rt) (g : Yf) : Nat → Yf
 | 0 => g
 | 1 => ⟨Zc g.e d, g.r, g.l⟩
 | 2 => ⟨Zc g.e d, Zc g.r d, g.l⟩
 | _ => ⟨Zc g.e d, Zc g.r d, Zc g.l d⟩
theorem Qeu (h : Yf) : X5 h 3 = h.ok := rfl
theorem Qci (h : Yf) (w : World) :
  Calls Tryz.prog 93 #[.agg #[.int .i64 h.e, .int .i64 h.r, .int .i64 h.l]] w fun e w' => e = .returned (.bool h.ok) ∧ Qa w w' := by
 rw [show h.ok = X5 h 3 from (Qeu h).symm]
 have hix0 : ∀ w, (Instr.index 225 (.agg #[.int .i64 h.e, .int .i64 h.r, .int .i64 h.l]) (.int .i64 0)).run Tryz.prog w = .ok (.int .i64 h.e) w := fun w => by kernel_rfl
 have hix1 : ∀ w, (Instr.index 225 (.agg #[.int .i64 h.e, .int .i64 h.r, .int .i64 h.l]) (.int .i64 1)).run Tryz.prog w = .ok (.int .i64 h.r) w := fun w => by kernel_rfl
 have hix2 : ∀ w, (Instr.index 225 (.agg #[.int .i64 h.e, .int .i64 h.r, .int .i64 h.l]) (.int .i64 2)).run Tryz.prog w = .ok (.int .i64 h.l) w := fun w => by kernel_rfl
 go_enter Tryz.func93, Tryz.ntmps93
 go_upto_region 1 with (fail)
 obtain ⟨v, hv⟩ := Qg (w.alloc (.cells #[.int .i64 h.e, .int .i64 h.r, .int .i64 h.l] 116))
 rw [← hv]
 have E : Qa w v := by rw [hv]; exact (Qa.refl _).alloc _
 have B1 : Qb v w.heap.size 116 #[.int .i64 h.e, .int .i64 h.r, .int .i64 h.l] := by rw [hv]; exact (Qb.new _ _ _)
 clear hv
 obtain ⟨b1, hb1⟩ := Qg (w.heap.size)
 rw [← hb1] at B1 ⊢
 have hbr : w.heap.size ≤ b1 := by omega
 clear hb1
 obtain ⟨k0, k1, k2⟩ := B1.c3
 have lk := B1.lt
 go_upto_region 3 with (fail)
 go_loopw [3, 13] (fun ov iv wr => ∃ k : Nat, k ≤ 3 ∧ iv = .int .i64 (k : Int) ∧ ov = .bool (X5 h k) ∧ Qa w wr) (fun _ iv _ => 3 - (intOf iv).toNat)
 case atStart => exact ⟨0, by decide, rfl, rfl, E⟩
 case round =>
  clear E k0 k1 k2 lk B1
  obtain ⟨k, hk, rfl, rfl, hE⟩ := hrel
  obtain ⟨wo, rfl⟩ := Qg wr
  by_cases hlt : k < 3
  ·have h3 : k = 0 ∨ k = 1 ∨ k = 2 := by omega
   rcases h3 with rfl | rfl | rfl
   ·skip
    have hh : Hid (X5 h 1 = (X5 h 0 && (decide (0 ≤ h.e) && decide (h.e ≤ 1048576)))) := rfl
    cases hq : X5 h 0
    ·rw [hq] at hh
     go_wp2
     exact ⟨⟨1, by decide, rfl, by rw [hh.out]; rfl, hE⟩, by simp [intOf]⟩
    ·rw [hq] at hh
     by_cases h1 : 0 ≤ h.e
     ·have g1 : decide (0 ≤ h.e) = true := decide_eq_true h1
      by_cases h2 : h.e ≤ 1048576
      ·have g2 : decide (h.e ≤ 1048576) = true := decide_eq_true h2
       go_wp2
       exact ⟨⟨1, by decide, rfl, by rw [hh.out, g1, g2]; rfl, hE⟩, by simp [intOf]⟩
      ·have g2 : decide (h.e ≤ 1048576) = false := decide_eq_false h2
       go_wp2
       exact ⟨⟨1, by decide, rfl, by rw [hh.out, g1, g2]; rfl, hE⟩, by simp [intOf]⟩
     ·have g1 : decide (0 ≤ h.e) = false := decide_eq_false h1
      go_wp2
      exact ⟨⟨1, by decide, rfl, by rw [hh.out, g1]; rfl, hE⟩, by simp [intOf]⟩
   ·skip
    have hh : Hid (X5 h 2 = (X5 h 1 && (decide (0 ≤ h.r) && decide (h.r ≤ 1048576)))) := rfl
    cases hq : X5 h 1
    ·rw [hq] at hh
     go_wp2
     exact ⟨⟨2, by decide, rfl, by rw [hh.out]; rfl, hE⟩, by simp [intOf]⟩
    ·rw [hq] at hh
     by_cases h1 : 0 ≤ h.r
     ·have g1 : decide (0 ≤ h.r) = true := decide_eq_true h1
      by_cases h2 : h.r ≤ 1048576
      ·have g2 : decide (h.r ≤ 1048576) = true := decide_eq_true h2
       go_wp2
       exact ⟨⟨2, by decide, rfl, by rw [hh.out, g1, g2]; rfl, hE⟩, by simp [intOf]⟩
      ·have g2 : decide (h.r ≤ 1048576) = false := decide_eq_false h2
       go_wp2
       exact ⟨⟨2, by decide, rfl, by rw [hh.out, g1, g2]; rfl, hE⟩, by simp [intOf]⟩
     ·have g1 : decide (0 ≤ h.r) = false := decide_eq_false h1
      go_wp2
      exact ⟨⟨2, by decide, rfl, by rw [hh.out, g1]; rfl, hE⟩, by simp [intOf]⟩
   ·skip
    have hh : Hid (X5 h 3 = (X5 h 2 && (decide (0 ≤ h.l) && decide (h.l ≤ 1048576)))) := rfl
    cases hq : X5 h 2
    ·rw [hq] at hh
     go_wp2
     exact ⟨⟨3, by decide, rfl, by rw [hh.out]; rfl, hE⟩, by simp [intOf]⟩
    ·rw [hq] at hh
     by_cases h1 : 0 ≤ h.l
     ·have g1 : decide (0 ≤ h.l) = true := decide_eq_true h1
      by_cases h2 : h.l ≤ 1048576
      ·have g2 : decide (h.l ≤ 1048576) = true := decide_eq_true h2
       go_wp2
       exact ⟨⟨3, by decide, rfl, by rw [hh.out, g1, g2]; rfl, hE⟩, by simp [intOf]⟩
      ·have g2 : decide (h.l ≤ 1048576) = false := decide_eq_false h2
       go_wp2
       exact ⟨⟨3, by decide, rfl, by rw [hh.out, g1, g2]; rfl, hE⟩, by simp [intOf]⟩
     ·have g1 : decide (0 ≤ h.l) = false := decide_eq_false h1
      go_wp2
      exact ⟨⟨3, by decide, rfl, by rw [hh.out, g1]; rfl, hE⟩, by simp [intOf]⟩
  ·obtain rfl : k = 3 := by omega
   go_wp2
   go_ret
   exact ⟨rfl, hE⟩
theorem Qb2 (h : Yf) (b d : Rt) (y : Int) (hb : b.In) (hd : d.In) (hy1 : -9223372036854775808 ≤ y) (hy2 : y ≤ 9223372036854775807) (w : World) :
  Calls Tryz.prog 42 #[.agg #[.int .i64 h.e, .int .i64 h.r, .int .i64 h.l], .agg #[.int .i64 b.n, .int .i64 b.d], .agg #[.int .i64 d.n, .int .i64 d.d], .int .i64 y] w fun e w' => e = .returned (.tuple #[.agg #[.int .i64 (W7 h b d y).1.e, .int .i64 (W7 h b d y).1.r, .int .i64 (W7 h b d y).1.l], .int .i64 (W7 h b d y).2]) ∧ Qa w w' := by
 obtain ⟨V, hV0⟩ := Qg (W7 h b d y)
 rw [← hV0]
 replace hV0 := Lib.hid hV0
 have NH := fun h w => Qci h w
 have NB := fun w => Mi b hb w
 have ND := fun w => Mi d hd w
 go_enter Tryz.func42, Tryz.ntmps42
 go_upto_region 1 with (fail)
 obtain ⟨v, hv⟩ := Qg ((((w.alloc (.cells #[.int .i64 h.e, .int .i64 h.r, .int .i64 h.l] 116)).alloc (.cells #[.int .i64 b.n, .int .i64 b.d] 65)).alloc (.cells #[.int .i64 d.n, .int .i64 d.d] 65)).alloc (.cells #[.int .i64 0, .int .i64 0, .int .i64 0] 116))
 rw [← hv]
 have E : Qa w v := by rw [hv]; exact ((((Qa.refl _).alloc _).alloc _).alloc _).alloc _
 have Hh : Qb v w.heap.size 116 #[.int .i64 h.e, .int .i64 h.r, .int .i64 h.l] := by rw [hv]; exact (((Qb.new _ _ _).alloc _).alloc _).alloc _
 have Hb : Qb v (w.heap.size + 1) 65 #[.int .i64 b.n, .int .i64 b.d] := by rw [hv]; exact ((Qb.at _ _ _ _ (by simp)).alloc _).alloc _
 have Hd : Qb v (w.heap.size + 1 + 1) 65 #[.int .i64 d.n, .int .i64 d.d] := by rw [hv]; exact (Qb.at _ _ _ _ (by simp)).alloc _
 have Hr : Qb v (w.heap.size + 1 + 1 + 1) 116 #[.int .i64 0, .int .i64 0, .int .i64 0] := by rw [hv]; exact Qb.at _ _ _ _ (by simp)
 clear hv
 obtain ⟨b4, hb4⟩ := Qg (w.heap.size + 1 + 1 + 1)
 rw [← hb4] at Hr ⊢
 obtain ⟨b3, hb3⟩ := Qg (w.heap.size + 1 + 1)
 rw [← hb3] at Hd ⊢
 obtain ⟨b2, hb2⟩ := Qg (w.heap.size + 1)
 rw [← hb2] at Hb ⊢
 obtain ⟨b1, hb1⟩ := Qg (w.heap.size)
 rw [← hb1] at Hh ⊢
 have hbr : w.heap.size ≤ b4 := by omega
 have hbr1 : w.heap.size ≤ b1 := by omega
 have hbr2 : w.heap.size ≤ b2 := by omega
 have hbr3 : w.heap.size ≤ b3 := by omega
 have hn21 : b2 ≠ b1 := by omega
 have hn31 : b3 ≠ b1 := by omega
 have hn32 : b3 ≠ b2 := by omega
 have hn41 : b4 ≠ b1 := by omega
 have hn42 : b4 ≠ b2 := by omega
 have hn43 : b4 ≠ b3 := by omega
 clear hb1 hb2 hb3 hb4
 have HE := E
 clear E
 obtain ⟨k0, k1, k2⟩ := Hh.c3
 have lk := Hh.lt
 obtain ⟨p0, p1⟩ := Hb.c2
 have lp := Hb.lt
 obtain ⟨q0, q1⟩ := Hd.c2
 have lq := Hd.lt
 have K1 := fun u (hu : Qa v u) => (Hb.ext hu).c2
 cases ho : h.ok
 ·have NH1 := fun w => NH h w
  simp only [ho] at NH1
  have hr := hV0.out
  unfold W7 at hr
  rw [ho, if_neg (by decide)] at hr
  subst hr
  clear hV0 ho NH K1
  go_upto_region 2 with (go_at_call 93; (with_reducible refine Calls.mono (NH1 _) ?_); rintro e w1 ⟨rfl, h1⟩)
  replace HE := HE.trans h1
  replace Hr := Hr.ext h1
  have y0 := Hr.frozen 0
  have y1 := Hr.frozen 1
  have y2 := Hr.frozen 2
  obtain ⟨x0, x1, x2⟩ := Hr.c3
  have lx := Hr.lt
  have R3 := Vw Hr (.int .i64 0) (.int .i64 0) (.int .i64 0)
  have EF := Vt HE hbr (.int .i64 0) (.int .i64 0) (.int .i64 0)
  obtain ⟨r0, r1, r2⟩ := R3.c3
  go_wp2
  refine bodyPost_ret (v := .tuple #[.agg #[.int .i64 0, .int .i64 0, .int .i64 0], .int .i64 82]) (by simp [results, Tryz.results42, go_sem, r0, r1, r2]) rfl ⟨rfl, EF⟩
 ·have NH1 := fun w => NH h w
  simp only [ho] at NH1
  clear K1
  have A1 : ∀ u, Qa v u → True := fun _ _ => trivial
  go_upto_region 3 with (go_at_call 93; (with_reducible refine Calls.mono (NH1 _) ?_); rintro e w1 ⟨rfl, h1⟩)
  replace HE := HE.trans h1
  replace Hr := Hr.ext h1
  replace Hh := Hh.ext h1
  replace Hb := Hb.ext h1
  replace Hd := Hd.ext h1
  clear h1 k0 k1 k2 lk p0 p1 lp q0 q1 lq A1 NH1
  obtain ⟨p0, p1⟩ := Hb.c2
  have lp := Hb.lt
  obtain ⟨q0, q1⟩ := Hd.c2
  have lq := Hd.lt
  cases hbs : b.shr
  ·simp only [hbs] at NB
   have hr := hV0.out
   unfold W7 at hr
   rw [ho, hbs, if_pos rfl, Bool.false_and, if_neg (by decide)] at hr
   subst hr
   clear hV0 ho hbs
   go_upto_region 4 with (go_at_call 90; (with_reducible refine Calls.mono (NB _) ?_); rintro e w2 ⟨rfl, h2⟩)
   replace HE := HE.trans h2
   replace Hr := Hr.ext h2
   have y0 := Hr.frozen 0
   have y1 := Hr.frozen 1
   have y2 := Hr.frozen 2
   obtain ⟨x0, x1, x2⟩ := Hr.c3
   have lx := Hr.lt
   have R3 := Vw Hr (.int .i64 0) (.int .i64 0) (.int .i64 0)
   have EF := Vt HE hbr (.int .i64 0) (.int .i64 0) (.int .i64 0)
   obtain ⟨r0, r1, r2⟩ := R3.c3
   go_wp2
   refine bodyPost_ret (v := .tuple #[.agg #[.int .i64 0, .int .i64 0, .int .i64 0], .int .i64 2]) (by simp [results, Tryz.results42, go_sem, r0, r1, r2]) rfl ⟨rfl, EF⟩
  ·simp only [hbs] at NB
   cases hds : d.shr
   ·simp only [hds] at ND
    have hr := hV0.out
    unfold W7 at hr
    rw [ho, hbs, hds, if_pos rfl, Bool.and_false, if_neg (by decide)] at hr
    subst hr
    clear hV0 ho hbs hds
    go_upto_region 4 with (first | (go_at_call 90; (with_reducible refine Calls.mono (NB _) ?_); rintro e w2 ⟨rfl, h2⟩; clear q0 q1 lq; obtain ⟨q0, q1⟩ := (Hd.ext h2).c2; have lq := (Hd.ext h2).lt) | (go_at_call 90; (with_reducible refine Calls.mono (ND _) ?_); rintro e w3 ⟨rfl, h3⟩))
    replace HE := (HE.trans h2).trans h3
    replace Hr := (Hr.ext h2).ext h3
    have y0 := Hr.frozen 0
    have y1 := Hr.frozen 1
    have y2 := Hr.frozen 2
    obtain ⟨x0, x1, x2⟩ := Hr.c3
    have lx := Hr.lt
    have R3 := Vw Hr (.int .i64 0) (.int .i64 0) (.int .i64 0)
    have EF := Vt HE hbr (.int .i64 0) (.int .i64 0) (.int .i64 0)
    obtain ⟨r0, r1, r2⟩ := R3.c3
    go_wp2
    refine bodyPost_ret (v := .tuple #[.agg #[.int .i64 0, .int .i64 0, .int .i64 0], .int .i64 2]) (by simp [results, Tryz.results42, go_sem, r0, r1, r2]) rfl ⟨rfl, EF⟩
   ·simp only [hds] at ND
    have hV1 : Hid (V = if y < 0 ∨ 40 < y then (Kp, 8) else Kl b d y.toNat h) := by
     unfold Hid; rw [hV0.out]; unfold W7; rw [ho, hbs, hds, if_pos rfl, Bool.and_self, if_pos rfl]
    clear hV0
    go_upto_region 5 with (first | (go_at_call 90; (with_reducible refine Calls.mono (NB _) ?_); rintro e w2 ⟨rfl, h2⟩; clear q0 q1 lq; obtain ⟨q0, q1⟩ := (Hd.ext h2).c2; have lq := (Hd.ext h2).lt) | (go_at_call 90; (with_reducible refine Calls.mono (ND _) ?_); rintro e w3 ⟨rfl, h3⟩))
    replace HE := (HE.trans h2).trans h3
    replace Hr := (Hr.ext h2).ext h3
    replace Hh := (Hh.ext h2).ext h3
    replace Hb := (Hb.ext h2).ext h3
    replace Hd := (Hd.ext h2).ext h3
    clear h2 h3 p0 p1 lp q0 q1 lq NB ND
    by_cases y0 : y < 0
    ·have gy : decide (y < 0) = true := decide_eq_true y0
     have hr := hV1.out
     rw [if_pos (.inl y0)] at hr
     subst hr
     clear hV1 y0
     have y0 := Hr.frozen 0
     have y1 := Hr.frozen 1
     have y2 := Hr.frozen 2
     obtain ⟨x0, x1, x2⟩ := Hr.c3
     have lx := Hr.lt
     have R3 := Vw Hr (.int .i64 0) (.int .i64 0) (.int .i64 0)
     have EF := Vt HE hbr (.int .i64 0) (.int .i64 0) (.int .i64 0)
     obtain ⟨r0, r1, r2⟩ := R3.c3
     go_wp2
     refine bodyPost_ret (v := .tuple #[.agg #[.int .i64 0, .int .i64 0, .int .i64 0], .int .i64 8]) (by simp [results, Tryz.results42, go_sem, r0, r1, r2]) rfl ⟨rfl, EF⟩
    ·have gy : decide (y < 0) = false := decide_eq_false y0
     by_cases y1 : 40 < y
     ·have gy1 : decide (40 < y) = true := decide_eq_true y1
      have hr := hV1.out
      rw [if_pos (.inr y1)] at hr
      subst hr
      clear hV1 y0 y1
      have y0 := Hr.frozen 0
      have y1 := Hr.frozen 1
      have y2 := Hr.frozen 2
      obtain ⟨x0, x1, x2⟩ := Hr.c3
      have lx := Hr.lt
      have R3 := Vw Hr (.int .i64 0) (.int .i64 0) (.int .i64 0)
      have EF := Vt HE hbr (.int .i64 0) (.int .i64 0) (.int .i64 0)
      obtain ⟨r0, r1, r2⟩ := R3.c3
      go_wp2
      refine bodyPost_ret (v := .tuple #[.agg #[.int .i64 0, .int .i64 0, .int .i64 0], .int .i64 8]) (by simp [results, Tryz.results42, go_sem, r0, r1, r2]) rfl ⟨rfl, EF⟩
     ·have gy1 : decide (40 < y) = false := decide_eq_false y1
      obtain ⟨n, rfl⟩ : ∃ n : Nat, y = (n : Int) := ⟨y.toNat, by omega⟩
      have hV2 : Hid (V = Kl b d n h) := by
       have := hV1.out
       rw [if_neg (by omega), Int.toNat_natCast] at this
       exact this
      clear hV1 hb hd
      replace ho := Lib.hid ho
      replace hbs := Lib.hid hbs
      replace hds := Lib.hid hds
      go_upto_region 8 with (fail)
      go_loopw [34] (fun iv wr => ∃ k : Nat, k ≤ n ∧ iv = .int .i64 (k : Int) ∧ ∃ g : Yf, Hid (g.ok = true) ∧ Qa w wr ∧ Qb wr b1 116 #[.int .i64 g.e, .int .i64 g.r, .int .i64 g.l] ∧ Qb wr b2 65 #[.int .i64 b.n, .int .i64 b.d] ∧ Qb wr b3 65 #[.int .i64 d.n, .int .i64 d.d] ∧ Qb wr b4 116 #[.int .i64 0, .int .i64 0, .int .i64 0] ∧ Hid (V = Kl b d (n - k) g)) (fun iv _ => n - (intOf iv).toNat)
      case atStart => exact ⟨0, Nat.zero_le _, rfl, h, ho, HE, Hh, Hb, Hd, Hr, hV2.out⟩
      case round =>
       clear HE Hh Hb Hd Hr hV2 ho
       obtain ⟨k, hk, rfl, g, hg, HE, Hh, Hb, Hd, Hr, hV⟩ := hrel
       obtain ⟨wo, rfl⟩ := Qg wr
       by_cases hlt : k < n
       ·obtain ⟨m, hm⟩ : ∃ m, n - k = m + 1 := ⟨n - k - 1, by omega⟩
        have hm2 : n - (k + 1) = m := by omega
        have hV' : Hid (V = if (Km b d g).ok then Kl b d m (Km b d g) else (Kp, 6)) := by unfold Hid; rw [hV.out, hm]; rfl
        clear hV hm
        have hgo := hg.out
        simp only [Yf.ok, Bool.and_eq_true] at hgo
        obtain ⟨g01, g02⟩ := Fq.1 hgo.1.1
        obtain ⟨g11, g12⟩ := Fq.1 hgo.1.2
        obtain ⟨g21, g22⟩ := Fq.1 hgo.2
        clear hgo
        have hds := hds.out
        have hdd := (Ru hds)
        go_upto_region 10 with (fail)
        obtain ⟨v4, hv⟩ := Qg (wo.alloc (.cells #[.pointer (some ⟨b1, 0, none⟩), .pointer (some ⟨b1, 1, none⟩), .pointer (some ⟨b1, 2, none⟩)] 180))
        rw [← hv]
        have E4 : Qa wo v4 := by rw [hv]; exact (Qa.refl _).alloc _
        have Hp : Qb v4 wo.heap.size 180 #[.pointer (some ⟨b1, 0, none⟩), .pointer (some ⟨b1, 1, none⟩), .pointer (some ⟨b1, 2, none⟩)] := by rw [hv]; exact Qb.new _ _ _
        clear hv
        have hlh := Hh.lt
        obtain ⟨bp, hbp⟩ := Qg (wo.heap.size)
        rw [← hbp] at Hp ⊢
        have hp1 : bp ≠ b1 := by omega
        clear hbp hlh
        replace HE := HE.trans E4
        replace Hh := Hh.ext E4
        replace Hb := Hb.ext E4
        replace Hd := Hd.ext E4
        replace Hr := Hr.ext E4
        clear E4
        go_loopw [41] (fun jv wr => ∃ j : Nat, j ≤ 3 ∧ jv = .int .i64 (j : Int) ∧ Qa w wr ∧ Qb wr b1 116 #[.int .i64 (stJ d g j).e, .int .i64 (stJ d g j).r, .int .i64 (stJ d g j).l] ∧ Qb wr b2 65 #[.int .i64 b.n, .int .i64 b.d] ∧ Qb wr b3 65 #[.int .i64 d.n, .int .i64 d.d] ∧ Qb wr bp 180 #[.pointer (some ⟨b1, 0, none⟩), .pointer (some ⟨b1, 1, none⟩), .pointer (some ⟨b1, 2, none⟩)] ∧ Qb wr b4 116 #[.int .i64 0, .int .i64 0, .int .i64 0]) (fun jv _ => 3 - (intOf jv).toNat)
        case atStart => exact ⟨0, by decide, rfl, HE, Hh, Hb, Hd, Hp, Hr⟩
        case round =>
         clear HE Hh Hb Hd Hp Hr
         obtain ⟨j, hj, rfl, HE, Hh, Hb, Hd, Hp, Hr⟩ := hrel
         obtain ⟨wi, rfl⟩ := Qg wr
         by_cases hlt3 : j < 3
         ·have h3 : j = 0 ∨ j = 1 ∨ j = 2 := by omega
          rcases h3 with rfl | rfl | rfl
          ·have Hh : Qb wi b1 116 #[.int .i64 (g.e), .int .i64 (g.r), .int .i64 (g.l)] := Hh
           have pb := Mb hds g01 g02
           have v1 : IntKind.i64.wrap (d.n * g.e) = d.n * g.e := Zr (by omega) (by omega)
           have v2 : IntKind.i64.wrap ((d.n * g.e).tdiv d.d) = d.n * g.e / d.d := by
            rw [Int.tdiv_eq_ediv_of_nonneg pb.1]; exact Zr (by omega) (by omega)
           have v3 : IntKind.i64.wrap (g.e - d.n * g.e / d.d) = Zc g.e d := by
            unfold Zc; exact Zr (by omega) (by omega)
           clear pb
           obtain ⟨s0, s1, s2⟩ := Hp.c3
           have ls := Hp.lt
           go_upto_region 12 with (fail)
           clear s0 s1 s2 ls
           refine Q1 15 [14] (fun x => Qb x b1 116 #[.int .i64 (g.e), .int .i64 (g.r), .int .i64 (g.l)] ∧ Qb x b3 65 #[.int .i64 d.n, .int .i64 d.d]) Qq rfl ?_
           intro vz hvz
           replace HE := HE.trans hvz
           replace Hh := Hh.ext hvz
           replace Hd := Hd.ext hvz
           replace Hb := Hb.ext hvz
           replace Hp := Hp.ext hvz
           replace Hr := Hr.ext hvz
           clear hvz
           refine Qr (g := 1) [0, 1, 2, 3, 4, 5, 6, 7, 8, 9, 10, 11, 12, 13] [_, _, _, _, _, _, _, _, _, _, _, _, _, _] ⟨rfl, rfl, rfl, rfl, rfl, rfl, rfl, rfl, rfl, rfl, rfl, rfl, rfl, rfl, trivial⟩ (by kernel_rfl) (by kernel_rfl) ⟨Hh, Hd⟩ ?_
           simp only [Qc, Qd, Qe]
           apply Exists.intro
           refine ⟨fun u hu => ?_, ?_⟩
           ·obtain ⟨x0, x1, x2⟩ := hu.1.c3
            have lx := hu.1.lt
            obtain ⟨d0, d1⟩ := hu.2.c2
            have ld := hu.2.lt
            repeat (first | go_big_quiet_skip | (go_big_quiet_want; go_big_quiet_op; go_big_quiet_on))
            refine wpQuiet_nil ?_
            rfl
           refine Qm 14 rfl (by kernel_rfl) ?_
           simp only [Qc, Qd, Qe]
           have z0 := Hh.frozen 0
           obtain ⟨x0, x1, x2⟩ := Hh.c3; have lx := Hh.lt
           have Hh2 := Ps Hh (.int .i64 (Zc g.e d))
           have Hd := Qi Hd hn31 0 (.int .i64 (Zc g.e d))
           have Hb := Qi Hb hn21 0 (.int .i64 (Zc g.e d))
           have Hp := Qi Hp hp1 0 (.int .i64 (Zc g.e d))
           have Hr := Qi Hr hn41 0 (.int .i64 (Zc g.e d))
           have HE := HE.setCell (p := ⟨b1, 0, none⟩) hbr1 (.int .i64 (Zc g.e d))
           have Hh := Hh2
           go_wp2
           refine Ql ?_
           refine Qs (by kernel_rfl) ?_
           generalize World.setCell _ _ _ = wq at *
           clear z0 x0 x1 x2 lx Hh2
           go_wp2
           exact ⟨⟨1, by decide, rfl, HE, Hh, Hb, Hd, Hp, Hr⟩, by simp [intOf]⟩
          ·have Hh : Qb wi b1 116 #[.int .i64 (Zc g.e d), .int .i64 (g.r), .int .i64 (g.l)] := Hh
           have pb := Mb hds g11 g12
           have v1 : IntKind.i64.wrap (d.n * g.r) = d.n * g.r := Zr (by omega) (by omega)
           have v2 : IntKind.i64.wrap ((d.n * g.r).tdiv d.d) = d.n * g.r / d.d := by
            rw [Int.tdiv_eq_ediv_of_nonneg pb.1]; exact Zr (by omega) (by omega)
           have v3 : IntKind.i64.wrap (g.r - d.n * g.r / d.d) = Zc g.r d := by
            unfold Zc; exact Zr (by omega) (by omega)
           clear pb
           obtain ⟨s0, s1, s2⟩ := Hp.c3
           have ls := Hp.lt
           go_upto_region 12 with (fail)
           clear s0 s1 s2 ls
           refine Q1 15 [14] (fun x => Qb x b1 116 #[.int .i64 (Zc g.e d), .int .i64 (g.r), .int .i64 (g.l)] ∧ Qb x b3 65 #[.int .i64 d.n, .int .i64 d.d]) Qq rfl ?_
           intro vz hvz
           replace HE := HE.trans hvz
           replace Hh := Hh.ext hvz
           replace Hd := Hd.ext hvz
           replace Hb := Hb.ext hvz
           replace Hp := Hp.ext hvz
           replace Hr := Hr.ext hvz
           clear hvz
           refine Qr (g := 1) [0, 1, 2, 3, 4, 5, 6, 7, 8, 9, 10, 11, 12, 13] [_, _, _, _, _, _, _, _, _, _, _, _, _, _] ⟨rfl, rfl, rfl, rfl, rfl, rfl, rfl, rfl, rfl, rfl, rfl, rfl, rfl, rfl, trivial⟩ (by kernel_rfl) (by kernel_rfl) ⟨Hh, Hd⟩ ?_
           simp only [Qc, Qd, Qe]
           apply Exists.intro
           refine ⟨fun u hu => ?_, ?_⟩
           ·obtain ⟨x0, x1, x2⟩ := hu.1.c3
            have lx := hu.1.lt
            obtain ⟨d0, d1⟩ := hu.2.c2
            have ld := hu.2.lt
            repeat (first | go_big_quiet_skip | (go_big_quiet_want; go_big_quiet_op; go_big_quiet_on))
            refine wpQuiet_nil ?_
            rfl
           refine Qm 14 rfl (by kernel_rfl) ?_
           simp only [Qc, Qd, Qe]
           have z0 := Hh.frozen 1
           obtain ⟨x0, x1, x2⟩ := Hh.c3; have lx := Hh.lt
           have Hh2 := Pt Hh (.int .i64 (Zc g.r d))
           have Hd := Qi Hd hn31 1 (.int .i64 (Zc g.r d))
           have Hb := Qi Hb hn21 1 (.int .i64 (Zc g.r d))
           have Hp := Qi Hp hp1 1 (.int .i64 (Zc g.r d))
           have Hr := Qi Hr hn41 1 (.int .i64 (Zc g.r d))
           have HE := HE.setCell (p := ⟨b1, 1, none⟩) hbr1 (.int .i64 (Zc g.r d))
           have Hh := Hh2
           go_wp2
           refine Ql ?_
           refine Qs (by kernel_rfl) ?_
           generalize World.setCell _ _ _ = wq at *
           clear z0 x0 x1 x2 lx Hh2
           go_wp2
           exact ⟨⟨2, by decide, rfl, HE, Hh, Hb, Hd, Hp, Hr⟩, by simp [intOf]⟩
          ·have Hh : Qb wi b1 116 #[.int .i64 (Zc g.e d), .int .i64 (Zc g.r d), .int .i64 (g.l)] := Hh
           have pb := Mb hds g21 g22
           have v1 : IntKind.i64.wrap (d.n * g.l) = d.n * g.l := Zr (by omega) (by omega)
           have v2 : IntKind.i64.wrap ((d.n * g.l).tdiv d.d) = d.n * g.l / d.d := by
            rw [Int.tdiv_eq_ediv_of_nonneg pb.1]; exact Zr (by omega) (by omega)
           have v3 : IntKind.i64.wrap (g.l - d.n * g.l / d.d) = Zc g.l d := by
            unfold Zc; exact Zr (by omega) (by omega)
           clear pb
           obtain ⟨s0, s1, s2⟩ := Hp.c3
           have ls := Hp.lt
           go_upto_region 12 with (fail)
           clear s0 s1 s2 ls
           refine Q1 15 [14] (fun x => Qb x b1 116 #[.int .i64 (Zc g.e d), .int .i64 (Zc g.r d), .int .i64 (g.l)] ∧ Qb x b3 65 #[.int .i64 d.n, .int .i64 d.d]) Qq rfl ?_
           intro vz hvz
           replace HE := HE.trans hvz
           replace Hh := Hh.ext hvz
           replace Hd := Hd.ext hvz
           replace Hb := Hb.ext hvz
           replace Hp := Hp.ext hvz
           replace Hr := Hr.ext hvz
           clear hvz
           refine Qr (g := 1) [0, 1, 2, 3, 4, 5, 6, 7, 8, 9, 10, 11, 12, 13] [_, _, _, _, _, _, _, _, _, _, _, _, _, _] ⟨rfl, rfl, rfl, rfl, rfl, rfl, rfl, rfl, rfl, rfl, rfl, rfl, rfl, rfl, trivial⟩ (by kernel_rfl) (by kernel_rfl) ⟨Hh, Hd⟩ ?_
           simp only [Qc, Qd, Qe]
           apply Exists.intro
           refine ⟨fun u hu => ?_, ?_⟩
           ·obtain ⟨x0, x1, x2⟩ := hu.1.c3
            have lx := hu.1.lt
            obtain ⟨d0, d1⟩ := hu.2.c2
            have ld := hu.2.lt
            repeat (first | go_big_quiet_skip | (go_big_quiet_want; go_big_quiet_op; go_big_quiet_on))
            refine wpQuiet_nil ?_
            rfl
           refine Qm 14 rfl (by kernel_rfl) ?_
           simp only [Qc, Qd, Qe]
           have z0 := Hh.frozen 2
           obtain ⟨x0, x1, x2⟩ := Hh.c3; have lx := Hh.lt
           have Hh2 := Pu Hh (.int .i64 (Zc g.l d))
           have Hd := Qi Hd hn31 2 (.int .i64 (Zc g.l d))
           have Hb := Qi Hb hn21 2 (.int .i64 (Zc g.l d))
           have Hp := Qi Hp hp1 2 (.int .i64 (Zc g.l d))
           have Hr := Qi Hr hn41 2 (.int .i64 (Zc g.l d))
           have HE := HE.setCell (p := ⟨b1, 2, none⟩) hbr1 (.int .i64 (Zc g.l d))
           have Hh := Hh2
           go_wp2
           refine Ql ?_
           refine Qs (by kernel_rfl) ?_
           generalize World.setCell _ _ _ = wq at *
           clear z0 x0 x1 x2 lx Hh2
           go_wp2
           exact ⟨⟨3, by decide, rfl, HE, Hh, Hb, Hd, Hp, Hr⟩, by simp [intOf]⟩
         ·obtain rfl : j = 3 := by omega
          have Hh : Qb wi b1 116 #[.int .i64 (Zc g.e d), .int .i64 (Zc g.r d), .int .i64 (Zc g.l d)] := Hh
          have hbs := hbs.out
          have hbb := Ru hbs
          have de := Gz hds g01 g02
          have dr := Gz hds g11 g12
          have dl := Gz hds g21 g22
          have pb := Mb hbs de.1 de.2
          have hst : Hid (Km b d g = ⟨Zc g.e d + (Zc g.l d + 1) / 2, Zc g.r d + Zc g.l d / 2, b.n * Zc g.e d / b.d⟩) := rfl
          generalize Zc g.e d = xe at *
          generalize Zc g.r d = xr at *
          generalize Zc g.l d = xl at *
          have v1 : IntKind.i64.wrap (b.n * xe) = b.n * xe := Zr (by omega) (by omega)
          have v2 : IntKind.i64.wrap ((b.n * xe).tdiv b.d) = b.n * xe / b.d := by
           rw [Int.tdiv_eq_ediv_of_nonneg pb.1]; exact Zr (by omega) (by omega)
          have v3 : IntKind.i64.wrap (xl + 1) = xl + 1 := Zr (by omega) (by omega)
          have v4' : IntKind.i64.wrap ((xl + 1).tdiv 2) = (xl + 1) / 2 := by
           rw [Int.tdiv_eq_ediv_of_nonneg (by omega)]; exact Zr (by omega) (by omega)
          have v5 : IntKind.i64.wrap (xe + (xl + 1) / 2) = xe + (xl + 1) / 2 := Zr (by omega) (by omega)
          have v6 : IntKind.i64.wrap (xl.tdiv 2) = xl / 2 := by
           rw [Int.tdiv_eq_ediv_of_nonneg (by omega)]; exact Zr (by omega) (by omega)
          have v7 : IntKind.i64.wrap (xr + xl / 2) = xr + xl / 2 := Zr (by omega) (by omega)
          have hb0 : (b.d == 0) = false := beq_eq_false_iff_ne.2 (by omega)
          have hb1 : b.d ≠ 0 := by omega
          clear pb de dr dl hbb
          generalize b.n * xe / b.d = zl at *
          generalize hz1 : (xl + 1) / 2 = z1 at *
          generalize hz2 : xl / 2 = z2 at *
          clear hz1 hz2
          obtain ⟨k0, k1, k2⟩ := Hh.c3
          have lk := Hh.lt
          have f0 := Hh.frozen 0
          obtain ⟨p0, p1⟩ := Hb.c2
          have lp := Hb.lt
          have Ha := Ps Hh (.int .i64 (xe + z1))
          have Hba := Qi Hb hn21 0 (.int .i64 (xe + z1))
          have Hda := Qi Hd hn31 0 (.int .i64 (xe + z1))
          have Hra := Qi Hr hn41 0 (.int .i64 (xe + z1))
          have Ea := HE.setCell (p := ⟨b1, 0, none⟩) hbr1 (.int .i64 (xe + z1))
          go_upto_region 16 with (fail)
          generalize World.setCell _ _ _ = wa at *
          clear k0 k1 k2 lk f0 p0 p1 lp Hh HE Hb Hd Hr Hp
          obtain ⟨k0, k1, k2⟩ := Ha.c3
          have lk := Ha.lt
          have f0 := Ha.frozen 1
          have Hb' := Pt Ha (.int .i64 (xr + z2))
          have Hbb := Qi Hba hn21 1 (.int .i64 (xr + z2))
          have Hdb := Qi Hda hn31 1 (.int .i64 (xr + z2))
          have Hrb := Qi Hra hn41 1 (.int .i64 (xr + z2))
          have Eb := Ea.setCell (p := ⟨b1, 1, none⟩) hbr1 (.int .i64 (xr + z2))
          go_upto_region 17 with (fail)
          generalize World.setCell _ _ _ = wb at *
          clear k0 k1 k2 lk f0 Ha Hba Hda Hra Ea
          obtain ⟨k0, k1, k2⟩ := Hb'.c3
          have lk := Hb'.lt
          have f0 := Hb'.frozen 2
          have Hc' := Pu Hb' (.int .i64 zl)
          have Hbc := Qi Hbb hn21 2 (.int .i64 zl)
          have Hdc := Qi Hdb hn31 2 (.int .i64 zl)
          have Hrc := Qi Hrb hn41 2 (.int .i64 zl)
          have Ec := Eb.setCell (p := ⟨b1, 2, none⟩) hbr1 (.int .i64 zl)
          go_upto_region 18 with (fail)
          generalize World.setCell _ _ _ = wc at *
          clear k0 k1 k2 lk f0 Hb' Hbb Hdb Hrb Eb v1 v2 v3 v4' v5 v6 v7 hb0 hb1
          have NG := fun w => NH ⟨xe + z1, xr + z2, zl⟩ w
          have hst2 : Hid (Km b d g = ⟨xe + z1, xr + z2, zl⟩) := hst
          obtain ⟨k0, k1, k2⟩ := Hc'.c3
          have lk := Hc'.lt
          cases hgk : Yf.ok ⟨xe + z1, xr + z2, zl⟩
          ·simp only [hgk] at NG
           have hr := hV'.out
           rw [hst2.out, hgk, if_neg (by decide)] at hr
           subst hr
           clear hV' hst hst2 hgk NH
           go_upto_region 19 with (go_at_call 93; (with_reducible refine Calls.mono (NG _) ?_); rintro e w6 ⟨rfl, h6⟩)
           have HE := Ec.trans h6
           have Hr := Hrc.ext h6
           have y0 := Hr.frozen 0
           have y1 := Hr.frozen 1
           have y2 := Hr.frozen 2
           obtain ⟨x0, x1, x2⟩ := Hr.c3
           have lx := Hr.lt
           have R3 := Vw Hr (.int .i64 0) (.int .i64 0) (.int .i64 0)
           have EF := Vt HE hbr (.int .i64 0) (.int .i64 0) (.int .i64 0)
           obtain ⟨r0, r1, r2⟩ := R3.c3
           go_wp2
           refine bodyPost_ret (v := .tuple #[.agg #[.int .i64 0, .int .i64 0, .int .i64 0], .int .i64 6]) (by simp [results, Tryz.results42, go_sem, r0, r1, r2]) rfl ⟨rfl, EF⟩
          ·simp only [hgk] at NG
           have hr := hV'.out
           rw [hst2.out, hgk, if_pos rfl, ← hm2] at hr
           replace hr := Lib.hid hr
           replace hgk := Lib.hid hgk
           clear hV' hst hst2 NH hm2
           go_wp2_with (go_at_call 93; (with_reducible refine Calls.mono (NG _) ?_); rintro e w6 ⟨rfl, h6⟩)
           exact ⟨⟨k + 1, by omega, by go_num, ⟨xe + z1, xr + z2, zl⟩, hgk, Ec.trans h6, Hc'.ext h6, Hbc.ext h6, Hdc.ext h6, Hrc.ext h6, hr⟩, by simp [intOf]; omega⟩
       ·obtain rfl : k = n := by omega
        have hr := hV.out
        rw [Nat.sub_self] at hr
        have hr2 : V = (g, 0) := hr
        subst hr2
        clear hV hr
        obtain ⟨k0, k1, k2⟩ := Hh.c3
        have lk := Hh.lt
        have y0 := Hr.frozen 0
        have y1 := Hr.frozen 1
        have y2 := Hr.frozen 2
        obtain ⟨x0, x1, x2⟩ := Hr.c3
        have lx := Hr.lt
        have R3 := Vw Hr (.int .i64 g.e) (.int .i64 g.r) (.int .i64 g.l)
        have EF := Vt HE hbr (.int .i64 g.e) (.int .i64 g.r) (.int .i64 g.l)
        obtain ⟨r0, r1, r2⟩ := R3.c3
        go_wp2
        refine bodyPost_ret (v := .tuple #[.agg #[.int .i64 g.e, .int .i64 g.r, .int .i64 g.l], .int .i64 0]) (by simp [results, Tryz.results42, go_sem, r0, r1, r2]) rfl ⟨rfl, EF⟩
end
section
open Go Go.ChangeShapes Go.WideShapes Go.ChangeAt Go.RowKit Go.Deep
theorem Qah : Tryz.prog.cellsOf 65 = 2 := by kernel_rfl
theorem Qhb : Tryz.prog.globalNamed "bulla/metro.zero" = some 0 := by kernel_rfl
theorem Qhc : (Tryz.prog.globals[0]?).map (·.type) = some 65 := by kernel_rfl
theorem Qhd {W : World} (h : laidMet Tryz.prog [("bulla/metro.zero", .agg [.lit (.int .i64 0), .lit (.int .i64 1)])] W) : Zu W := by
 obtain ⟨ps, ⟨g, t, cs, fuel, p, q, hg, ht, hvar, hd, _, _⟩, _⟩ := h
 obtain rfl := Option.some.inj (Qhb.symm.trans hg)
 obtain rfl := Option.some.inj (Qhc.symm.trans ht)
 obtain ⟨xs, m, _, hx, hlen, hxl, hf⟩ := DataW.trod_struct Tryz.underlying65 hd
 have hxl2 : xs.length = 2 := hxl
 simp only [Prod.mk.injEq, DataW.agg.injEq] at hx
 have hx1 := hx.1
 obtain ⟨cs⟩ := cs
 rw [Qah] at hlen
 match cs, hlen, xs, hxl2 with
 | [a, b], _, [y0, y1], _ =>
  have e0 := K5 (i := 0) (by simp) (hf 0 _ rfl) Xp
  have e1 := K5 (i := 1) (by simp) (hf 1 _ rfl) Xp
  obtain ⟨s0, h01, h02, _⟩ := DataW.trod_int Tryz.underlying3 e0
  obtain ⟨s1, h11, h12, _⟩ := DataW.trod_int Tryz.underlying3 e1
  simp only [List.map_cons, List.map_nil, List.cons.injEq] at hx1
  have f0 : y0.1 = .lit (.int .i64 0) := hx1.1.symm
  have f1 : y1.1 = .lit (.int .i64 1) := hx1.2.1.symm
  have g0 : y0.1 = .lit (.int .i64 s0) := by have := congrArg Prod.fst h02; simpa using this
  have g1 : y1.1 = .lit (.int .i64 s1) := by have := congrArg Prod.fst h12; simpa using this
  obtain rfl : s0 = 0 := by rw [f0] at g0; simpa using g0.symm
  obtain rfl : s1 = 1 := by rw [f1] at g1; simpa using g1.symm
  have ha : a = .int .i64 0 := by simpa using h01
  have hb : b = .int .i64 1 := by simpa using h11
  subst ha; subst hb
  have c0 := World.var?_cell hg hvar 0
  have c1 := World.var?_cell hg hvar 1
  refine ⟨by simpa using c0, by simpa using c1, ?_⟩
  rcases Nat.lt_or_ge 0 W.heap.size with h1 | h1
  ·exact h1
  ·have h2 : W.heap.size = 0 := by omega
   have : W.cell? ⟨0, 0, none⟩ = some (.int .i64 0) := by simpa using c0
   simp [World.cell?, Array.getElem?_eq_none (show W.heap.size ≤ 0 by omega)] at this
section
variable {H : Type} {enc : TypeId × Value → H} {w : World} {base : Nat} {spare : Nat → Bool} {held : Bool} {r : Reach} {b0 : Nat} {v : Value} {d : DataW H} {p : List MemPlace}
end
end
section
structure Lt where
 g : ByteArray
 n : Int
 deriving DecidableEq
/-- The Ua of goods: byte by byte. -/
def Yd (x y : ByteArray) : Bool := decide (x.toList < y.toList)
def U9 (f : Nat → Lt) (k : Nat) : Bool := Ja (f k).g && (decide (k = 0) || Yd (f (k - 1)).g (f k).g) && decide ((f k).n ≠ 0 ∧ (f k).n ≤ 1099511627776 ∧ -1099511627776 ≤ (f k).n)
def Nm (f : Nat → Lt) (n : Nat) : Bool := (List.range n).all (U9 f)
def Jt (f : Nat → Lt) (n : Nat) : Int := if 64 < n then 3 else if Nm f n then 0 else 51
theorem Qda (f : Nat → Lt) (k : Nat) : U9 f k = !(!Ja (f k).g || (decide (0 < k) && !Yd (f (k - 1)).g (f k).g) || ((f k).n == 0) || decide (1099511627776 < (f k).n) || decide ((f k).n < -1099511627776)) := by
 unfold U9
 rw [Bool.eq_iff_iff]
 cases Ja (f k).g <;> cases Yd (f (k - 1)).g (f k).g <;> simp <;> omega
theorem Qdc {f : Nat → Lt} {n : Nat} (h : ∀ j, j < n → U9 f j = true) (h64 : ¬ 64 < n) : Jt f n = 0 := by
 unfold Jt Nm
 rw [if_neg h64, if_pos (List.all_eq_true.2 fun j hj => h j (by simpa using hj))]
theorem Qdd {f : Nat → Lt} {n k : Nat} (hk : k < n) (h : U9 f k = false) (h64 : ¬ 64 < n) : Jt f n = 51 := by
 unfold Jt Nm
 rw [if_neg h64, if_neg (by rw [Bool.not_eq_true]; exact List.all_eq_false.2 ⟨k, by simpa using hk, by simp [h]⟩)]
theorem Qdf {f : Nat → Lt} {n : Nat} (h64 : 64 < n) : Jt f n = 3 := by unfold Jt; rw [if_pos h64]
/-- The good of Uf lots of which one may be zero. -/
def W9 (x y : Lt) : ByteArray := if x.g.size = 0 then y.g else x.g
def Ki (sg : Int) (x y : Lt) : Int := x.n + sg * y.n
def Xq (sg : Int) (x y : Lt) : Bool := !(decide (1099511627776 < Ki sg x y) || decide (Ki sg x y < -1099511627776))
def Y9 : Lt := ⟨⟨#[]⟩, 0⟩
/-- The pairs that a merge passes on. -/
def Yh : Nat → List Lt → List Lt → List (Lt × Lt)
 | 0, _, _ => []
 | _ + 1, [], [] => []
 | m + 1, x :: a, [] => (x, Y9) :: Yh m a []
 | m + 1, [], y :: b => (Y9, y) :: Yh m [] b
 | m + 1, x :: a, y :: b =>
  if Yd x.g y.g then (x, Y9) :: Yh m a (y :: b)
  else if Yd y.g x.g then (Y9, y) :: Yh m (x :: a) b
  else (x, y) :: Yh m a b
def U8 (sg : Int) (p : Lt × Lt) : List Lt := if Ki sg p.1 p.2 = 0 then [] else [⟨W9 p.1 p.2, Ki sg p.1 p.2⟩]
def Xk (sg : Int) (L : List (Lt × Lt)) : List Lt := L.flatMap (U8 sg)
def Y2 (sg : Int) (L : List (Lt × Lt)) : Bool := L.all fun p => Xq sg p.1 p.2
def Jo (f : Nat → Lt) (n : Nat) : List Lt := (List.range n).map f
def Wo (f : Nat → Lt) (n : Nat) (g : Nat → Lt) (m : Nat) : List (Lt × Lt) := Yh (n + m) (Jo f n) (Jo g m)
def V8 (f : Nat → Lt) (n : Nat) (g : Nat → Lt) (m : Nat) : Int := if Jt f n ≠ 0 then Jt f n else Jt g m
def Ys (sg : Int) (f : Nat → Lt) (n : Nat) (g : Nat → Lt) (m : Nat) : Int :=
 if V8 f n g m ≠ 0 then V8 f n g m else if Y2 sg (Wo f n g m) then (if 64 < (Xk sg (Wo f n g m)).length then 3 else 0) else 6
def Wh (sg : Int) (f : Nat → Lt) (n : Nat) (g : Nat → Lt) (m : Nat) : List Lt := if Ys sg f n g m = 0 then Xk sg (Wo f n g m) else []
structure Dl where
 on : Dt
 i : Bool
 w : ByteArray
 l : List Lt
structure Pd where
 h : ByteArray
 a : Dt
 b : Dt
 o : List Lt
 d : List Dl
 c : List Lt
def Zm (l : List Lt) (i : Nat) : Lt := l.getD i Y9
def Zn : Dl := ⟨⟨0, 0, false, 0⟩, false, ⟨#[]⟩, []⟩
def Pd.dl (p : Pd) (i : Nat) : Dl := p.d.getD i Zn
def Va (l : List Lt) : Int := Jt (Zm l) l.length
def Wl (l : List Lt) : Bool := decide (0 < l.length) && decide (Va l = 0) && !(l.any fun x => decide (x.n < 0))
def Qf.spanV (c : Qf) (a b : Dt) : Bool := decide (0 < c.numV a) && decide (c.numV a ≤ c.numV b)
def Qf.lastD (c : Qf) (p : Pd) : Nat → Int
 | 0 => c.numV p.a
 | k + 1 => c.numV (p.dl k).on
def Qf.dealOk (c : Qf) (p : Pd) (k : Nat) : Bool :=
 !(decide (c.numV (p.dl k).on < c.lastD p k) || decide (c.numV p.b < c.numV (p.dl k).on) || !Ja (p.dl k).w || decide ((p.dl k).w = p.h) || !Wl (p.dl k).l)
def Qf.perHead (c : Qf) (p : Pd) : Bool := Ja p.h && c.spanV p.a p.b && decide (Va p.o = 0) && decide (Va p.c = 0) && decide (p.d.length ≤ 64)
def Qf.perOk (c : Qf) (p : Pd) : Bool := c.perHead p && (List.range p.d.length).all (c.dealOk p)
def Qf.perE (c : Qf) (p : Pd) : Int := if c.valid then (if c.perOk p then 0 else 83) else 70
def Wa (i : Bool) : Int := if i then 1 else -1
def Y4 (sg : Int) (a b : List Lt) : Int := Ys sg (Zm a) a.length (Zm b) b.length
def W4 (sg : Int) (a b : List Lt) : List Lt := Wh sg (Zm a) a.length (Zm b) b.length
def J5 : List Lt → List Dl → List Lt × Int
 | s, [] => (s, 0)
 | s, d :: ds => if Y4 (Wa d.i) s d.l ≠ 0 then ([], Y4 (Wa d.i) s d.l) else J5 (W4 (Wa d.i) s d.l) ds
def Qf.closeV (c : Qf) (p : Pd) : List Lt × Int := if c.perE p ≠ 0 then ([], c.perE p) else J5 p.o p.d
theorem L8 {l : List Lt} {i : Nat} (h : i < l.length) : Zm l i = l[i] := by simp [Zm, List.getD_eq_getElem?_getD, h]
theorem Dh (l : List Lt) : Jo (Zm l) l.length = l := by
 refine List.ext_getElem (by simp [Jo]) fun i h1 h2 => ?_
 simp [Jo, L8 h2]
theorem Pd.dl_get {p : Pd} {i : Nat} (h : i < p.d.length) : p.dl i = p.d[i] := by simp [Pd.dl, List.getD_eq_getElem?_getD, h]
theorem Qa8 (c : Qf) (p : Pd) (k : Nat) : c.dealOk p k = !(decide (c.numV (p.dl k).on < c.lastD p k) || decide (c.numV p.b < c.numV (p.dl k).on) || !Ja (p.dl k).w || decide ((p.dl k).w = p.h) || !Wl (p.dl k).l) := rfl
theorem Qe9 {c : Qf} {p : Pd} (h0 : c.perHead p = false) : c.perOk p = false := by unfold Qf.perOk; rw [h0]; rfl
theorem Qb0 {l : List Lt} : Wl l = true ↔ 0 < l.length ∧ Va l = 0 ∧ ∀ x ∈ l, 0 ≤ x.n := by
 simp [Wl, and_assoc]
/-- The balance after k deals: what is left to do makes the whole. -/
theorem Qf7 (s : List Lt) (d : List Dl) {k : Nat} (hk : k < d.length) : J5 s (d.drop k) = if Y4 (Wa d[k].i) s d[k].l ≠ 0 then ([], Y4 (Wa d[k].i) s d[k].l) else J5 (W4 (Wa d[k].i) s d[k].l) (d.drop (k + 1)) := by
 rw [List.drop_eq_getElem_cons hk]; rfl
def noPd : Pd := ⟨⟨#[]⟩, ⟨0, 0, false, 0⟩, ⟨0, 0, false, 0⟩, [], [], []⟩
/-- What a valid period says. -/
structure Vm (c : Qf) (p : Pd) : Prop where
 a0 : 0 < c.numV p.a
 ab : c.numV p.a ≤ c.numV p.b
 o : p.o.length ≤ 64
 k : p.c.length ≤ 64
 d : p.d.length ≤ 64
 l : ∀ i, i < p.d.length → (p.d.getD i Zn).l.length ≤ 64
 lo : ∀ i, i < p.d.length → c.lastD p i ≤ c.numV (p.d.getD i Zn).on
 hi : ∀ i, i < p.d.length → c.numV (p.d.getD i Zn).on ≤ c.numV p.b
theorem Fm {l : List Lt} (h : Va l = 0) : l.length ≤ 64 := by
 unfold Va Jt at h
 split at h
 ·exact absurd h (by decide)
 ·omega
theorem pdOk {c : Qf} {p : Pd} (h : c.perOk p = true) : Vm c p := by
 unfold Qf.perOk at h
 rw [Bool.and_eq_true] at h
 obtain ⟨h1, h2⟩ := h
 unfold Qf.perHead Qf.spanV at h1
 simp only [Bool.and_eq_true, decide_eq_true_eq] at h1
 have h3 : ∀ i, i < p.d.length → c.dealOk p i = true := fun i hi => List.all_eq_true.1 h2 i (by simpa using hi)
 have h4 : ∀ i, i < p.d.length → c.lastD p i ≤ c.numV (p.dl i).on ∧ c.numV (p.dl i).on ≤ c.numV p.b ∧ Wl (p.dl i).l = true := fun i hi => by
  have := h3 i hi
  unfold Qf.dealOk at this
  simp only [Bool.not_eq_true', Bool.or_eq_false_iff, decide_eq_false_iff_not, Bool.not_eq_false'] at this
  exact ⟨by omega, by omega, this.2⟩
 exact ⟨h1.1.1.1.2.1, h1.1.1.1.2.2, Fm h1.1.1.2, Fm h1.1.2, h1.2, fun i hi => Fm (Qb0.1 (h4 i hi).2.2).2.1, fun i hi => (h4 i hi).1, fun i hi => (h4 i hi).2.1⟩
theorem Vm.pos {c : Qf} {p : Pd} (h : Vm c p) : ∀ i, i < p.d.length → 0 < c.numV (p.d.getD i Zn).on
 | 0, hi => by
  have h1 : c.numV p.a ≤ c.numV (p.d.getD 0 Zn).on := h.lo 0 hi
  have := h.a0
  omega
 | i + 1, hi => by
  have h1 := h.pos i (by omega)
  have h2 : c.numV (p.d.getD i Zn).on ≤ c.numV (p.d.getD (i + 1) Zn).on := h.lo (i + 1) hi
  omega
theorem Vm.mono {c : Qf} {p : Pd} (h : Vm c p) : ∀ {i j}, i ≤ j → j < p.d.length → c.numV (p.d.getD i Zn).on ≤ c.numV (p.d.getD j Zn).on
 | i, 0, hij, hj => by obtain rfl : i = 0 := by omega
                       exact Int.le_refl _
 | i, j + 1, hij, hj => by
  by_cases e : i = j + 1
  ·subst e; exact Int.le_refl _
  ·have h1 := h.mono (i := i) (j := j) (by omega) (by omega)
   have h2 : c.numV (p.d.getD j Zn).on ≤ c.numV (p.d.getD (j + 1) Zn).on := h.lo (j + 1) hj
   omega
theorem Vm.sorted {c : Qf} {p : Pd} (h : Vm c p) : p.d.Pairwise (fun a b => c.numV a.on ≤ c.numV b.on) := by
 rw [List.pairwise_iff_getElem]
 intro i j hi hj hij
 have := h.mono (i := i) (j := j) (by omega) hj
 simpa [List.getD_eq_getElem?_getD, hi, hj] using this
end
section
open Go Go.RowKit Go.Shelf
attribute [local go_sem] Zq
theorem sch_lo (c : Qf) (a b : Dt) : -9223372036854775808 ≤ c.schV a b := by
 by_cases h : c.in2E a b = 0
 ·have hv : c.valid = true := by
   rcases U6 c a b with ⟨_, hE⟩ | ⟨hv, _, _⟩ | ⟨hv, _, _⟩
   ·rw [hE] at h; exact absurd h (by decide)
   ·exact hv
   ·exact hv
  have hh : (c.has a && c.has b) = true := by
   rcases U6 c a b with ⟨_, hE⟩ | ⟨_, _, hE⟩ | ⟨_, hh, _⟩
   ·rw [hE] at h; exact absurd h (by decide)
   ·rw [hE] at h; exact absurd h (by decide)
   ·exact hh
  obtain ⟨h1, h2⟩ := Bool.and_eq_true_iff.1 hh
  rw [Mh hv h1 h2]
  have := Vc hv h1
  have := Vc hv h2
  omega
 ·unfold Qf.schV; rw [if_neg h]; decide
theorem sch_hi (c : Qf) (a b : Dt) : c.schV a b ≤ 9223372036854775807 := by
 by_cases h : c.in2E a b = 0
 ·have hv : c.valid = true := by
   rcases U6 c a b with ⟨_, hE⟩ | ⟨hv, _, _⟩ | ⟨hv, _, _⟩
   ·rw [hE] at h; exact absurd h (by decide)
   ·exact hv
   ·exact hv
  have hh : (c.has a && c.has b) = true := by
   rcases U6 c a b with ⟨_, hE⟩ | ⟨_, _, hE⟩ | ⟨_, hh, _⟩
   ·rw [hE] at h; exact absurd h (by decide)
   ·rw [hE] at h; exact absurd h (by decide)
   ·exact hh
  obtain ⟨h1, h2⟩ := Bool.and_eq_true_iff.1 hh
  rw [Mh hv h1 h2]
  have := Vc hv h1
  have := Vc hv h2
  omega
 ·unfold Qf.schV; rw [if_neg h]; decide
theorem Hm (A A' : Option Addr) (ca cb : Nat) (c : Qf) (l : Ln) (hr : l.r.In) (X : Db) (hX : X.In) (fr tu : Dt) (bt bd bl bb bf be : Nat) (v0 w : World) (hv0 : Qa v0 w) (C : Zg v0 A ca A' cb c) (Z : Zu v0) (ht : Qb w bt 200 #[.func (.func 117) #[] #[.pointer (some ⟨be, 0, none⟩)]]) (hd : Qb w bd 72 #[.int .i64 X.p.n, .int .i64 X.p.d, .int .i64 X.i.n, .int .i64 X.i.d, .int .i64 X.s.n, .int .i64 X.s.d]) (hl : Qb w bl 67 #[.int .i64 l.p.n, .int .i64 l.p.d, .int .i64 l.r.n, .int .i64 l.r.d, .int .i64 l.f.y, .int .i64 l.f.m, .bool l.f.s, .int .i64 l.f.d]) (hb : Qb w bb 130 #[.slice A c.nk ca, .slice A' c.ny cb]) (hf : Qb w bf 51 #[.int .i64 fr.y, .int .i64 fr.m, .bool fr.s, .int .i64 fr.d]) (he : Qb w be 29 #[.int .i64 0]) (g3 : v0.heap.size ≤ be) (n1 : bd ≠ bf) (n2 : bd ≠ be) (n3 : bf ≠ be) (n4 : bt ∉ [bd, bf, be]) (n5 : bl ∉ [bd, bf, be]) (n6 : bb ∉ [bd, bf, be]) :
  Calls Tryz.prog 118 #[.agg #[.int .i64 tu.y, .int .i64 tu.m, .bool tu.s, .int .i64 tu.d], .pointer (some ⟨bt, 0, none⟩), .pointer (some ⟨bd, 0, none⟩), .pointer (some ⟨bl, 0, none⟩), .pointer (some ⟨bb, 0, none⟩), .pointer (some ⟨bf, 0, none⟩), .pointer (some ⟨be, 0, none⟩)] w fun e w' => e = .returned (.tuple #[]) ∧ Qy [bd, bf, be] w w' ∧ Qb w' bf 51 #[.int .i64 tu.y, .int .i64 tu.m, .bool tu.s, .int .i64 tu.d] ∧ Qb w' be 29 #[.int .i64 (Zh c l.r X fr tu).2] ∧ ∃ Y : Db, Y.In ∧ Qb w' bd 72 #[.int .i64 Y.p.n, .int .i64 Y.p.d, .int .i64 Y.i.n, .int .i64 Y.i.d, .int .i64 Y.s.n, .int .i64 Y.s.d] ∧ ((Zh c l.r X fr tu).2 = 0 → Y = (Zh c l.r X fr tu).1) := by
 have NI := fun w z => Py X.p l.r (c.schV fr tu) hX.p hr (sch_lo c fr tu) (sch_hi c fr tu) w z
 have HV : Hid (Zh c l.r X fr tu = if (Z5 X.p l.r (c.schV fr tu)).2 ≠ 0 then (X, (Z5 X.p l.r (c.schV fr tu)).2) else if (Q4 X.i (Z5 X.p l.r (c.schV fr tu)).1).2 ≠ 0 then (X, (Q4 X.i (Z5 X.p l.r (c.schV fr tu)).1).2) else (⟨X.p, (Q4 X.i (Z5 X.p l.r (c.schV fr tu)).1).1, X.s⟩, 0)) := rfl
 have hMi := Qcp X.p l.r (c.schV fr tu)
 generalize Zh c l.r X fr tu = V at *
 generalize Z5 X.p l.r (c.schV fr tu) = M at *
 obtain ⟨⟨Mn, Md⟩, Me⟩ := M
 simp only [] at HV NI hMi
 go_enter Tryz.func118, Tryz.ntmps118
 go_upto_region 1 with (fail)
 obtain ⟨v, hv⟩ := Qg (w.alloc (.cells #[.int .i64 tu.y, .int .i64 tu.m, .bool tu.s, .int .i64 tu.d] 51))
 rw [← hv]
 have E : Qa w v := by rw [hv]; exact (Qa.refl _).alloc _
 have H7 : Qb v w.heap.size 51 #[.int .i64 tu.y, .int .i64 tu.m, .bool tu.s, .int .i64 tu.d] := by rw [hv]; exact (Qb.new _ _ _)
 clear hv
 obtain ⟨b1, hb1⟩ := Qg (w.heap.size)
 rw [← hb1] at H7 ⊢
 have hbr : w.heap.size ≤ b1 := by omega
 clear hb1
 have n7 : b1 ≠ be := by have := he.lt; omega
 have n8 : b1 ≠ bd := by have := hd.lt; omega
 have HE := hv0.trans E
 have HO : Qy [bd, bf, be] w v := Qy.of_ext E
 have Ht := ht.ext E
 have Hd := hd.ext E
 have Hl := hl.ext E
 have Hb := hb.ext E
 have Hf := hf.ext E
 have He := he.ext E
 clear E hv0
 apply Vf (S := fun w' b => Qa v0 w' ∧ w.heap.size ≤ b ∧ Qy [bd, bf, be] w w' ∧ Qb w' bt 200 #[.func (.func 117) #[] #[.pointer (some ⟨be, 0, none⟩)]] ∧ Qb w' bd 72 #[.int .i64 X.p.n, .int .i64 X.p.d, .int .i64 X.i.n, .int .i64 X.i.d, .int .i64 X.s.n, .int .i64 X.s.d] ∧ Qb w' bf 51 #[.int .i64 fr.y, .int .i64 fr.m, .bool fr.s, .int .i64 fr.d] ∧ Qb w' b1 51 #[.int .i64 tu.y, .int .i64 tu.m, .bool tu.s, .int .i64 tu.d] ∧ Qb w' be 29 #[.int .i64 Me] ∧ Qb w' b 65 #[.int .i64 Mn, .int .i64 Md] ∧ b1 ≠ b)
 ·refine Q1 15 [14] (fun x => Qa v0 x ∧ Qb x bt 200 #[.func (.func 117) #[] #[.pointer (some ⟨be, 0, none⟩)]] ∧ Qb x bd 72 #[.int .i64 X.p.n, .int .i64 X.p.d, .int .i64 X.i.n, .int .i64 X.i.d, .int .i64 X.s.n, .int .i64 X.s.d] ∧ Qb x bl 67 #[.int .i64 l.p.n, .int .i64 l.p.d, .int .i64 l.r.n, .int .i64 l.r.d, .int .i64 l.f.y, .int .i64 l.f.m, .bool l.f.s, .int .i64 l.f.d] ∧ Qb x bb 130 #[.slice A c.nk ca, .slice A' c.ny cb] ∧ Qb x bf 51 #[.int .i64 fr.y, .int .i64 fr.m, .bool fr.s, .int .i64 fr.d] ∧ Qb x b1 51 #[.int .i64 tu.y, .int .i64 tu.m, .bool tu.s, .int .i64 tu.d]) Qq rfl ?_
  intro vz hvz
  replace HO := HO.trans (Qy.of_ext hvz)
  replace HE := HE.trans hvz
  replace Ht := Ht.ext hvz
  replace Hd := Hd.ext hvz
  replace Hl := Hl.ext hvz
  replace Hb := Hb.ext hvz
  replace Hf := Hf.ext hvz
  replace H7 := H7.ext hvz
  replace He := He.ext hvz
  try replace Q := Q.ext hvz
  clear hvz
  refine Qr (g := 7) [0, 1, 2, 3, 4, 5, 6, 7] [_, _, _, _, _, _, _, _] ⟨rfl, rfl, rfl, rfl, rfl, rfl, rfl, rfl, trivial⟩ (by kernel_rfl) (by kernel_rfl) ⟨HE, Ht, Hd, Hl, Hb, Hf, H7⟩ ?_
  simp only [Qc, Qd, Qe]
  apply Exists.intro
  refine ⟨fun u hu => ?_, ?_⟩
  ·have t0 := hu.2.1.c1
   have lt := hu.2.1.lt
   obtain ⟨d0, d1, d2, d3, d4, d5⟩ := hu.2.2.1.c6
   have ld := hu.2.2.1.lt
   obtain ⟨p0, p1, p2, p3, p4, p5, p6, p7⟩ := hu.2.2.2.1.c8
   have lp := hu.2.2.2.1.lt
   obtain ⟨k0, k1⟩ := hu.2.2.2.2.1.c2
   have lk := hu.2.2.2.2.1.lt
   obtain ⟨f0, f1, f2, f3⟩ := hu.2.2.2.2.2.1.c4
   have lf := hu.2.2.2.2.2.1.lt
   obtain ⟨s0, s1, s2, s3⟩ := hu.2.2.2.2.2.2.c4
   have ls := hu.2.2.2.2.2.2.lt
   repeat (first | go_big_quiet_skip | (go_big_quiet_want; go_big_quiet_op; go_big_quiet_on))
   refine wpQuiet_nil ?_
   rfl
  refine Q8 8 13 rfl rfl (by kernel_rfl) ?_ ?_
  ·simp only [Qc, Qd, Qe]
   go_wp2_with (go_at_call 92; (with_reducible refine Calls.mono (Mu A A' ca cb c fr tu _ (C.ext HE)) ?_); rintro e wa ⟨rfl, h4⟩)
   replace HO := HO.trans (Qy.of_ext h4)
   replace HE := HE.trans h4
   replace Ht := Ht.ext h4
   replace Hd := Hd.ext h4
   replace Hl := Hl.ext h4
   replace Hb := Hb.ext h4
   replace Hf := Hf.ext h4
   replace H7 := H7.ext h4
   replace He := He.ext h4
   try replace Q := Q.ext h4
   clear h4
   refine Qh ⟨HE, Ht, Hd, Hl, Hb, Hf, H7⟩ ?_
   refine Q8 9 13 rfl rfl (by kernel_rfl) ?_ ?_
   ·simp only [Qc, Qd, Qe]
    go_wp2_with (go_at_call 28; (with_reducible refine Calls.mono (NI _ (Z.ext HE)) ?_); rintro e wc ⟨rfl, h4⟩)
    replace HO := HO.trans (Qy.of_ext h4)
    replace HE := HE.trans h4
    replace Ht := Ht.ext h4
    replace Hd := Hd.ext h4
    replace Hl := Hl.ext h4
    replace Hb := Hb.ext h4
    replace Hf := Hf.ext h4
    replace H7 := H7.ext h4
    replace He := He.ext h4
    try replace Q := Q.ext h4
    clear h4
    refine Qh ⟨HE, Ht, Hd, Hl, Hb, Hf, H7⟩ ?_
    refine Qr (g := 3) [10, 11] [_, _] ⟨rfl, rfl, trivial⟩ (by kernel_rfl) (by kernel_rfl) ⟨HE, Ht, Hd, Hl, Hb, Hf, H7⟩ ?_
    simp only [Qc, Qd, Qe]
    apply Exists.intro
    refine ⟨fun u hu => ?_, ?_⟩
    ·have t0 := hu.2.1.c1
     have lt := hu.2.1.lt
     obtain ⟨d0, d1, d2, d3, d4, d5⟩ := hu.2.2.1.c6
     have ld := hu.2.2.1.lt
     obtain ⟨p0, p1, p2, p3, p4, p5, p6, p7⟩ := hu.2.2.2.1.c8
     have lp := hu.2.2.2.1.lt
     obtain ⟨k0, k1⟩ := hu.2.2.2.2.1.c2
     have lk := hu.2.2.2.2.1.lt
     obtain ⟨f0, f1, f2, f3⟩ := hu.2.2.2.2.2.1.c4
     have lf := hu.2.2.2.2.2.1.lt
     obtain ⟨s0, s1, s2, s3⟩ := hu.2.2.2.2.2.2.c4
     have ls := hu.2.2.2.2.2.2.lt
     repeat (first | go_big_quiet_skip | (go_big_quiet_want; go_big_quiet_op; go_big_quiet_on))
     refine wpQuiet_nil ?_
     rfl
    refine Q8 12 13 rfl rfl (by kernel_rfl) ?_ ?_
    ·simp only [Qc, Qd, Qe]
     go_wp2_with (first | (go_at_call 117; (with_reducible refine Calls.mono (Y8 ⟨Mn, Md⟩ Me 0 be _ He) ?_); rintro e we ⟨rfl, h5, He2⟩) | (go_at_fn 117; (with_reducible refine Calls.mono (Y8 ⟨Mn, Md⟩ Me 0 be _ He) ?_); rintro e we ⟨rfl, h5, He2⟩))
     try rw [if_pos rfl] at He2
     have h5' := h5.mono (T := [bd, bf, be]) (fun k hk => by rw [List.mem_singleton.1 hk]; simp)
     replace HO := HO.trans h5'
     replace HE := h5.ext HE (fun k hk => by rw [List.mem_singleton.1 hk]; exact g3)
     replace Ht := h5.held Ht (by simp only [List.mem_singleton]; exact fun e => n4 (by rw [e]; simp))
     replace Hd := h5.held Hd (by simp only [List.mem_singleton]; exact n2)
     replace Hl := h5.held Hl (by simp only [List.mem_singleton]; exact fun e => n5 (by rw [e]; simp))
     replace Hb := h5.held Hb (by simp only [List.mem_singleton]; exact fun e => n6 (by rw [e]; simp))
     replace Hf := h5.held Hf (by simp only [List.mem_singleton]; exact n3)
     replace H7 := h5.held H7 (by simp only [List.mem_singleton]; exact n7)
     try replace Q := h5.held Q (by simp only [List.mem_singleton]; have := he.lt; omega)
     have He := He2
     clear h5 h5' He2
     refine Qh ⟨HE, Ht, Hd, Hl, Hb, Hf, H7⟩ ?_
     refine Qk 13 rfl (by kernel_rfl) ?_
     simp only [Qc, Qd, Qe]
     go_wp2
     obtain ⟨bq, hbq, Q, HE', hge⟩ := Xc HE 65 #[.int .i64 0, .int .i64 0]
     rw [← hbq]
     have hb1q : b1 ≠ bq := by have := H7.lt; omega
     have hwq : w.heap.size ≤ bq := by have := HO.size; omega
     have HO' := HO.trans (Qy.of_ext (S := [bd, bf, be]) ((Qa.refl _).alloc (.cells #[.int .i64 0, .int .i64 0] 65)))
     clear hbq
     replace Ht := Ht.alloc (.cells #[.int .i64 0, .int .i64 0] 65)
     replace Hd := Hd.alloc (.cells #[.int .i64 0, .int .i64 0] 65)
     replace Hl := Hl.alloc (.cells #[.int .i64 0, .int .i64 0] 65)
     replace Hb := Hb.alloc (.cells #[.int .i64 0, .int .i64 0] 65)
     replace Hf := Hf.alloc (.cells #[.int .i64 0, .int .i64 0] 65)
     replace H7 := H7.alloc (.cells #[.int .i64 0, .int .i64 0] 65)
     replace He := He.alloc (.cells #[.int .i64 0, .int .i64 0] 65)
     replace HE := HE'
     replace HO := HO'
     clear HE' HO'
     refine Qh ⟨HE, Ht, Hd, Hl, Hb, Hf, H7⟩ ?_
     refine Qm 14 rfl (by kernel_rfl) ?_
     simp only [Qc, Qd, Qe]
     have z0 := Q.frozen 0
     have z1 := Q.frozen 1
     obtain ⟨x0, x1⟩ := Q.c2
     have lx := Q.lt
     have Q2 := Qn Q (.int .i64 Mn) (.int .i64 Md)
     have hbq2 : ∀ b, b < w.heap.size → b ≠ bq := fun b h => by omega
     have Ht' := Qi (Qi Ht (hbq2 _ ht.lt) 0 (.int .i64 Mn)) (hbq2 _ ht.lt) 1 (.int .i64 Md)
     have Hd' := Qi (Qi Hd (hbq2 _ hd.lt) 0 (.int .i64 Mn)) (hbq2 _ hd.lt) 1 (.int .i64 Md)
     have Hl' := Qi (Qi Hl (hbq2 _ hl.lt) 0 (.int .i64 Mn)) (hbq2 _ hl.lt) 1 (.int .i64 Md)
     have Hb' := Qi (Qi Hb (hbq2 _ hb.lt) 0 (.int .i64 Mn)) (hbq2 _ hb.lt) 1 (.int .i64 Md)
     have Hf' := Qi (Qi Hf (hbq2 _ hf.lt) 0 (.int .i64 Mn)) (hbq2 _ hf.lt) 1 (.int .i64 Md)
     have He' := Qi (Qi He (hbq2 _ he.lt) 0 (.int .i64 Mn)) (hbq2 _ he.lt) 1 (.int .i64 Md)
     have H7' := Qi (Qi H7 hb1q 0 (.int .i64 Mn)) hb1q 1 (.int .i64 Md)
     have HO2 := HO.far hwq 0 1 (.int .i64 Mn) (.int .i64 Md)
     have HE2 := (HE.setCell (p := ⟨bq, 0, none⟩) hge (.int .i64 Mn)).setCell (p := ⟨bq, 1, none⟩) hge (.int .i64 Md)
     go_wp2
     refine Ql ?_
     refine Qs (by kernel_rfl) ?_
     exact J8 bq ⟨HE2, hwq, HO2, Ht', Hd', Hf', H7', He', Q2, hb1q⟩ rfl
    ·simp only [Qc, Qd, Qe]
     go_wp2
     obtain ⟨bq, hbq, Q, HE', hge⟩ := Xc HE 65 #[.int .i64 0, .int .i64 0]
     rw [← hbq]
     have hb1q : b1 ≠ bq := by have := H7.lt; omega
     have hwq : w.heap.size ≤ bq := by have := HO.size; omega
     have HO' := HO.trans (Qy.of_ext (S := [bd, bf, be]) ((Qa.refl _).alloc (.cells #[.int .i64 0, .int .i64 0] 65)))
     clear hbq
     replace Ht := Ht.alloc (.cells #[.int .i64 0, .int .i64 0] 65)
     replace Hd := Hd.alloc (.cells #[.int .i64 0, .int .i64 0] 65)
     replace Hl := Hl.alloc (.cells #[.int .i64 0, .int .i64 0] 65)
     replace Hb := Hb.alloc (.cells #[.int .i64 0, .int .i64 0] 65)
     replace Hf := Hf.alloc (.cells #[.int .i64 0, .int .i64 0] 65)
     replace H7 := H7.alloc (.cells #[.int .i64 0, .int .i64 0] 65)
     replace He := He.alloc (.cells #[.int .i64 0, .int .i64 0] 65)
     replace HE := HE'
     replace HO := HO'
     clear HE' HO'
     refine Qh ⟨HE, Ht, Hd, Hl, Hb, Hf, H7⟩ ?_
     refine Qk 12 rfl (by kernel_rfl) ?_
     simp only [Qc, Qd, Qe]
     go_wp2_with (first | (go_at_call 117; (with_reducible refine Calls.mono (Y8 ⟨Mn, Md⟩ Me 0 be _ He) ?_); rintro e we ⟨rfl, h5, He2⟩) | (go_at_fn 117; (with_reducible refine Calls.mono (Y8 ⟨Mn, Md⟩ Me 0 be _ He) ?_); rintro e we ⟨rfl, h5, He2⟩))
     try rw [if_pos rfl] at He2
     have h5' := h5.mono (T := [bd, bf, be]) (fun k hk => by rw [List.mem_singleton.1 hk]; simp)
     replace HO := HO.trans h5'
     replace HE := h5.ext HE (fun k hk => by rw [List.mem_singleton.1 hk]; exact g3)
     replace Ht := h5.held Ht (by simp only [List.mem_singleton]; exact fun e => n4 (by rw [e]; simp))
     replace Hd := h5.held Hd (by simp only [List.mem_singleton]; exact n2)
     replace Hl := h5.held Hl (by simp only [List.mem_singleton]; exact fun e => n5 (by rw [e]; simp))
     replace Hb := h5.held Hb (by simp only [List.mem_singleton]; exact fun e => n6 (by rw [e]; simp))
     replace Hf := h5.held Hf (by simp only [List.mem_singleton]; exact n3)
     replace H7 := h5.held H7 (by simp only [List.mem_singleton]; exact n7)
     try replace Q := h5.held Q (by simp only [List.mem_singleton]; have := he.lt; omega)
     have He := He2
     clear h5 h5' He2
     refine Qh ⟨HE, Ht, Hd, Hl, Hb, Hf, H7⟩ ?_
     refine Qm 14 rfl (by kernel_rfl) ?_
     simp only [Qc, Qd, Qe]
     have z0 := Q.frozen 0
     have z1 := Q.frozen 1
     obtain ⟨x0, x1⟩ := Q.c2
     have lx := Q.lt
     have Q2 := Qn Q (.int .i64 Mn) (.int .i64 Md)
     have hbq2 : ∀ b, b < w.heap.size → b ≠ bq := fun b h => by omega
     have Ht' := Qi (Qi Ht (hbq2 _ ht.lt) 0 (.int .i64 Mn)) (hbq2 _ ht.lt) 1 (.int .i64 Md)
     have Hd' := Qi (Qi Hd (hbq2 _ hd.lt) 0 (.int .i64 Mn)) (hbq2 _ hd.lt) 1 (.int .i64 Md)
     have Hl' := Qi (Qi Hl (hbq2 _ hl.lt) 0 (.int .i64 Mn)) (hbq2 _ hl.lt) 1 (.int .i64 Md)
     have Hb' := Qi (Qi Hb (hbq2 _ hb.lt) 0 (.int .i64 Mn)) (hbq2 _ hb.lt) 1 (.int .i64 Md)
     have Hf' := Qi (Qi Hf (hbq2 _ hf.lt) 0 (.int .i64 Mn)) (hbq2 _ hf.lt) 1 (.int .i64 Md)
     have He' := Qi (Qi He (hbq2 _ he.lt) 0 (.int .i64 Mn)) (hbq2 _ he.lt) 1 (.int .i64 Md)
     have H7' := Qi (Qi H7 hb1q 0 (.int .i64 Mn)) hb1q 1 (.int .i64 Md)
     have HO2 := HO.far hwq 0 1 (.int .i64 Mn) (.int .i64 Md)
     have HE2 := (HE.setCell (p := ⟨bq, 0, none⟩) hge (.int .i64 Mn)).setCell (p := ⟨bq, 1, none⟩) hge (.int .i64 Md)
     go_wp2
     refine Ql ?_
     refine Qs (by kernel_rfl) ?_
     exact J8 bq ⟨HE2, hwq, HO2, Ht', Hd', Hf', H7', He', Q2, hb1q⟩ rfl
   ·simp only [Qc, Qd, Qe]
    go_wp2
    obtain ⟨bq, hbq, Q, HE', hge⟩ := Xc HE 65 #[.int .i64 0, .int .i64 0]
    rw [← hbq]
    have hb1q : b1 ≠ bq := by have := H7.lt; omega
    have hwq : w.heap.size ≤ bq := by have := HO.size; omega
    have HO' := HO.trans (Qy.of_ext (S := [bd, bf, be]) ((Qa.refl _).alloc (.cells #[.int .i64 0, .int .i64 0] 65)))
    clear hbq
    replace Ht := Ht.alloc (.cells #[.int .i64 0, .int .i64 0] 65)
    replace Hd := Hd.alloc (.cells #[.int .i64 0, .int .i64 0] 65)
    replace Hl := Hl.alloc (.cells #[.int .i64 0, .int .i64 0] 65)
    replace Hb := Hb.alloc (.cells #[.int .i64 0, .int .i64 0] 65)
    replace Hf := Hf.alloc (.cells #[.int .i64 0, .int .i64 0] 65)
    replace H7 := H7.alloc (.cells #[.int .i64 0, .int .i64 0] 65)
    replace He := He.alloc (.cells #[.int .i64 0, .int .i64 0] 65)
    replace HE := HE'
    replace HO := HO'
    clear HE' HO'
    refine Qh ⟨HE, Ht, Hd, Hl, Hb, Hf, H7⟩ ?_
    refine Qk 9 rfl (by kernel_rfl) ?_
    simp only [Qc, Qd, Qe]
    go_wp2_with (go_at_call 28; (with_reducible refine Calls.mono (NI _ (Z.ext HE)) ?_); rintro e wc ⟨rfl, h4⟩)
    replace HO := HO.trans (Qy.of_ext h4)
    replace HE := HE.trans h4
    replace Ht := Ht.ext h4
    replace Hd := Hd.ext h4
    replace Hl := Hl.ext h4
    replace Hb := Hb.ext h4
    replace Hf := Hf.ext h4
    replace H7 := H7.ext h4
    replace He := He.ext h4
    try replace Q := Q.ext h4
    clear h4
    refine Qh ⟨HE, Ht, Hd, Hl, Hb, Hf, H7⟩ ?_
    refine Qr (g := 2) [10, 11] [_, _] ⟨rfl, rfl, trivial⟩ (by kernel_rfl) (by kernel_rfl) ⟨HE, Ht, Hd, Hl, Hb, Hf, H7⟩ ?_
    simp only [Qc, Qd, Qe]
    apply Exists.intro
    refine ⟨fun u hu => ?_, ?_⟩
    ·have t0 := hu.2.1.c1
     have lt := hu.2.1.lt
     obtain ⟨d0, d1, d2, d3, d4, d5⟩ := hu.2.2.1.c6
     have ld := hu.2.2.1.lt
     obtain ⟨p0, p1, p2, p3, p4, p5, p6, p7⟩ := hu.2.2.2.1.c8
     have lp := hu.2.2.2.1.lt
     obtain ⟨k0, k1⟩ := hu.2.2.2.2.1.c2
     have lk := hu.2.2.2.2.1.lt
     obtain ⟨f0, f1, f2, f3⟩ := hu.2.2.2.2.2.1.c4
     have lf := hu.2.2.2.2.2.1.lt
     obtain ⟨s0, s1, s2, s3⟩ := hu.2.2.2.2.2.2.c4
     have ls := hu.2.2.2.2.2.2.lt
     repeat (first | go_big_quiet_skip | (go_big_quiet_want; go_big_quiet_op; go_big_quiet_on))
     refine wpQuiet_nil ?_
     rfl
    refine Qk 12 rfl (by kernel_rfl) ?_
    simp only [Qc, Qd, Qe]
    go_wp2_with (first | (go_at_call 117; (with_reducible refine Calls.mono (Y8 ⟨Mn, Md⟩ Me 0 be _ He) ?_); rintro e we ⟨rfl, h5, He2⟩) | (go_at_fn 117; (with_reducible refine Calls.mono (Y8 ⟨Mn, Md⟩ Me 0 be _ He) ?_); rintro e we ⟨rfl, h5, He2⟩))
    try rw [if_pos rfl] at He2
    have h5' := h5.mono (T := [bd, bf, be]) (fun k hk => by rw [List.mem_singleton.1 hk]; simp)
    replace HO := HO.trans h5'
    replace HE := h5.ext HE (fun k hk => by rw [List.mem_singleton.1 hk]; exact g3)
    replace Ht := h5.held Ht (by simp only [List.mem_singleton]; exact fun e => n4 (by rw [e]; simp))
    replace Hd := h5.held Hd (by simp only [List.mem_singleton]; exact n2)
    replace Hl := h5.held Hl (by simp only [List.mem_singleton]; exact fun e => n5 (by rw [e]; simp))
    replace Hb := h5.held Hb (by simp only [List.mem_singleton]; exact fun e => n6 (by rw [e]; simp))
    replace Hf := h5.held Hf (by simp only [List.mem_singleton]; exact n3)
    replace H7 := h5.held H7 (by simp only [List.mem_singleton]; exact n7)
    try replace Q := h5.held Q (by simp only [List.mem_singleton]; have := he.lt; omega)
    have He := He2
    clear h5 h5' He2
    refine Qh ⟨HE, Ht, Hd, Hl, Hb, Hf, H7⟩ ?_
    refine Qm 14 rfl (by kernel_rfl) ?_
    simp only [Qc, Qd, Qe]
    have z0 := Q.frozen 0
    have z1 := Q.frozen 1
    obtain ⟨x0, x1⟩ := Q.c2
    have lx := Q.lt
    have Q2 := Qn Q (.int .i64 Mn) (.int .i64 Md)
    have hbq2 : ∀ b, b < w.heap.size → b ≠ bq := fun b h => by omega
    have Ht' := Qi (Qi Ht (hbq2 _ ht.lt) 0 (.int .i64 Mn)) (hbq2 _ ht.lt) 1 (.int .i64 Md)
    have Hd' := Qi (Qi Hd (hbq2 _ hd.lt) 0 (.int .i64 Mn)) (hbq2 _ hd.lt) 1 (.int .i64 Md)
    have Hl' := Qi (Qi Hl (hbq2 _ hl.lt) 0 (.int .i64 Mn)) (hbq2 _ hl.lt) 1 (.int .i64 Md)
    have Hb' := Qi (Qi Hb (hbq2 _ hb.lt) 0 (.int .i64 Mn)) (hbq2 _ hb.lt) 1 (.int .i64 Md)
    have Hf' := Qi (Qi Hf (hbq2 _ hf.lt) 0 (.int .i64 Mn)) (hbq2 _ hf.lt) 1 (.int .i64 Md)
    have He' := Qi (Qi He (hbq2 _ he.lt) 0 (.int .i64 Mn)) (hbq2 _ he.lt) 1 (.int .i64 Md)
    have H7' := Qi (Qi H7 hb1q 0 (.int .i64 Mn)) hb1q 1 (.int .i64 Md)
    have HO2 := HO.far hwq 0 1 (.int .i64 Mn) (.int .i64 Md)
    have HE2 := (HE.setCell (p := ⟨bq, 0, none⟩) hge (.int .i64 Mn)).setCell (p := ⟨bq, 1, none⟩) hge (.int .i64 Md)
    go_wp2
    refine Ql ?_
    refine Qs (by kernel_rfl) ?_
    exact J8 bq ⟨HE2, hwq, HO2, Ht', Hd', Hf', H7', He', Q2, hb1q⟩ rfl
  ·simp only [Qc, Qd, Qe]
   go_wp2
   obtain ⟨bq, hbq, Q, HE', hge⟩ := Xc HE 65 #[.int .i64 0, .int .i64 0]
   rw [← hbq]
   have hb1q : b1 ≠ bq := by have := H7.lt; omega
   have hwq : w.heap.size ≤ bq := by have := HO.size; omega
   have HO' := HO.trans (Qy.of_ext (S := [bd, bf, be]) ((Qa.refl _).alloc (.cells #[.int .i64 0, .int .i64 0] 65)))
   clear hbq
   replace Ht := Ht.alloc (.cells #[.int .i64 0, .int .i64 0] 65)
   replace Hd := Hd.alloc (.cells #[.int .i64 0, .int .i64 0] 65)
   replace Hl := Hl.alloc (.cells #[.int .i64 0, .int .i64 0] 65)
   replace Hb := Hb.alloc (.cells #[.int .i64 0, .int .i64 0] 65)
   replace Hf := Hf.alloc (.cells #[.int .i64 0, .int .i64 0] 65)
   replace H7 := H7.alloc (.cells #[.int .i64 0, .int .i64 0] 65)
   replace He := He.alloc (.cells #[.int .i64 0, .int .i64 0] 65)
   replace HE := HE'
   replace HO := HO'
   clear HE' HO'
   refine Qh ⟨HE, Ht, Hd, Hl, Hb, Hf, H7⟩ ?_
   refine Qk 8 rfl (by kernel_rfl) ?_
   simp only [Qc, Qd, Qe]
   go_wp2_with (go_at_call 92; (with_reducible refine Calls.mono (Mu A A' ca cb c fr tu _ (C.ext HE)) ?_); rintro e wa ⟨rfl, h4⟩)
   replace HO := HO.trans (Qy.of_ext h4)
   replace HE := HE.trans h4
   replace Ht := Ht.ext h4
   replace Hd := Hd.ext h4
   replace Hl := Hl.ext h4
   replace Hb := Hb.ext h4
   replace Hf := Hf.ext h4
   replace H7 := H7.ext h4
   replace He := He.ext h4
   try replace Q := Q.ext h4
   clear h4
   refine Qh ⟨HE, Ht, Hd, Hl, Hb, Hf, H7⟩ ?_
   refine Qk 9 rfl (by kernel_rfl) ?_
   simp only [Qc, Qd, Qe]
   go_wp2_with (go_at_call 28; (with_reducible refine Calls.mono (NI _ (Z.ext HE)) ?_); rintro e wc ⟨rfl, h4⟩)
   replace HO := HO.trans (Qy.of_ext h4)
   replace HE := HE.trans h4
   replace Ht := Ht.ext h4
   replace Hd := Hd.ext h4
   replace Hl := Hl.ext h4
   replace Hb := Hb.ext h4
   replace Hf := Hf.ext h4
   replace H7 := H7.ext h4
   replace He := He.ext h4
   try replace Q := Q.ext h4
   clear h4
   refine Qh ⟨HE, Ht, Hd, Hl, Hb, Hf, H7⟩ ?_
   refine Qr (g := 2) [10, 11] [_, _] ⟨rfl, rfl, trivial⟩ (by kernel_rfl) (by kernel_rfl) ⟨HE, Ht, Hd, Hl, Hb, Hf, H7⟩ ?_
   simp only [Qc, Qd, Qe]
   apply Exists.intro
   refine ⟨fun u hu => ?_, ?_⟩
   ·have t0 := hu.2.1.c1
    have lt := hu.2.1.lt
    obtain ⟨d0, d1, d2, d3, d4, d5⟩ := hu.2.2.1.c6
    have ld := hu.2.2.1.lt
    obtain ⟨p0, p1, p2, p3, p4, p5, p6, p7⟩ := hu.2.2.2.1.c8
    have lp := hu.2.2.2.1.lt
    obtain ⟨k0, k1⟩ := hu.2.2.2.2.1.c2
    have lk := hu.2.2.2.2.1.lt
    obtain ⟨f0, f1, f2, f3⟩ := hu.2.2.2.2.2.1.c4
    have lf := hu.2.2.2.2.2.1.lt
    obtain ⟨s0, s1, s2, s3⟩ := hu.2.2.2.2.2.2.c4
    have ls := hu.2.2.2.2.2.2.lt
    repeat (first | go_big_quiet_skip | (go_big_quiet_want; go_big_quiet_op; go_big_quiet_on))
    refine wpQuiet_nil ?_
    rfl
   refine Qk 12 rfl (by kernel_rfl) ?_
   simp only [Qc, Qd, Qe]
   go_wp2_with (first | (go_at_call 117; (with_reducible refine Calls.mono (Y8 ⟨Mn, Md⟩ Me 0 be _ He) ?_); rintro e we ⟨rfl, h5, He2⟩) | (go_at_fn 117; (with_reducible refine Calls.mono (Y8 ⟨Mn, Md⟩ Me 0 be _ He) ?_); rintro e we ⟨rfl, h5, He2⟩))
   try rw [if_pos rfl] at He2
   have h5' := h5.mono (T := [bd, bf, be]) (fun k hk => by rw [List.mem_singleton.1 hk]; simp)
   replace HO := HO.trans h5'
   replace HE := h5.ext HE (fun k hk => by rw [List.mem_singleton.1 hk]; exact g3)
   replace Ht := h5.held Ht (by simp only [List.mem_singleton]; exact fun e => n4 (by rw [e]; simp))
   replace Hd := h5.held Hd (by simp only [List.mem_singleton]; exact n2)
   replace Hl := h5.held Hl (by simp only [List.mem_singleton]; exact fun e => n5 (by rw [e]; simp))
   replace Hb := h5.held Hb (by simp only [List.mem_singleton]; exact fun e => n6 (by rw [e]; simp))
   replace Hf := h5.held Hf (by simp only [List.mem_singleton]; exact n3)
   replace H7 := h5.held H7 (by simp only [List.mem_singleton]; exact n7)
   try replace Q := h5.held Q (by simp only [List.mem_singleton]; have := he.lt; omega)
   have He := He2
   clear h5 h5' He2
   refine Qh ⟨HE, Ht, Hd, Hl, Hb, Hf, H7⟩ ?_
   refine Qm 14 rfl (by kernel_rfl) ?_
   simp only [Qc, Qd, Qe]
   have z0 := Q.frozen 0
   have z1 := Q.frozen 1
   obtain ⟨x0, x1⟩ := Q.c2
   have lx := Q.lt
   have Q2 := Qn Q (.int .i64 Mn) (.int .i64 Md)
   have hbq2 : ∀ b, b < w.heap.size → b ≠ bq := fun b h => by omega
   have Ht' := Qi (Qi Ht (hbq2 _ ht.lt) 0 (.int .i64 Mn)) (hbq2 _ ht.lt) 1 (.int .i64 Md)
   have Hd' := Qi (Qi Hd (hbq2 _ hd.lt) 0 (.int .i64 Mn)) (hbq2 _ hd.lt) 1 (.int .i64 Md)
   have Hl' := Qi (Qi Hl (hbq2 _ hl.lt) 0 (.int .i64 Mn)) (hbq2 _ hl.lt) 1 (.int .i64 Md)
   have Hb' := Qi (Qi Hb (hbq2 _ hb.lt) 0 (.int .i64 Mn)) (hbq2 _ hb.lt) 1 (.int .i64 Md)
   have Hf' := Qi (Qi Hf (hbq2 _ hf.lt) 0 (.int .i64 Mn)) (hbq2 _ hf.lt) 1 (.int .i64 Md)
   have He' := Qi (Qi He (hbq2 _ he.lt) 0 (.int .i64 Mn)) (hbq2 _ he.lt) 1 (.int .i64 Md)
   have H7' := Qi (Qi H7 hb1q 0 (.int .i64 Mn)) hb1q 1 (.int .i64 Md)
   have HO2 := HO.far hwq 0 1 (.int .i64 Mn) (.int .i64 Md)
   have HE2 := (HE.setCell (p := ⟨bq, 0, none⟩) hge (.int .i64 Mn)).setCell (p := ⟨bq, 1, none⟩) hge (.int .i64 Md)
   go_wp2
   refine Ql ?_
   refine Qs (by kernel_rfl) ?_
   exact J8 bq ⟨HE2, hwq, HO2, Ht', Hd', Hf', H7', He', Q2, hb1q⟩ rfl
 rintro b8 w3 ⟨HE3, hw8, HO3, Ht3, Hd3, Hf3, H73, He3, Q, n9⟩
 clear HE HO Ht Hd Hf He H7 Hl Hb NI
 have HE := HE3
 have HO := HO3
 have Ht := Ht3
 have Hd := Hd3
 have Hf := Hf3
 have H7 := H73
 have He := He3
 clear HE3 HO3 Ht3 Hd3 Hf3 H73 He3
 have e0 := He.c1
 have le := He.lt
 by_cases h0 : Me = 0
 ·subst h0
  have NA := fun w z => Lf X.i ⟨Mn, Md⟩ hX.i hMi w z
  have hSi := Vq X.i ⟨Mn, Md⟩
  have hV := HV.out
  rw [if_neg (by simp)] at hV
  generalize Q4 X.i ⟨Mn, Md⟩ = S at *
  obtain ⟨⟨Sn, Sd⟩, Se⟩ := S
  have hV2 : V.2 = Se ∧ (Se = 0 → V.1 = ⟨X.p, ⟨Sn, Sd⟩, X.s⟩) := by
   rw [hV]
   by_cases hs : Se = 0
   ·rw [if_neg (by simpa using hs)]; exact ⟨hs.symm, fun _ => rfl⟩
   ·rw [if_pos hs]; exact ⟨rfl, fun h => absurd h hs⟩
  replace hV2 := Lib.hid hV2
  clear HV hV
  go_upto_region 3 with (fail)
  clear e0 le
  refine Q1 10 [9] (fun x => Qa v0 x ∧ Qb x bt 200 #[.func (.func 117) #[] #[.pointer (some ⟨be, 0, none⟩)]] ∧ Qb x bd 72 #[.int .i64 X.p.n, .int .i64 X.p.d, .int .i64 X.i.n, .int .i64 X.i.d, .int .i64 X.s.n, .int .i64 X.s.d] ∧ Qb x b8 65 #[.int .i64 Mn, .int .i64 Md] ∧ True) Qq rfl ?_
  intro vz hvz
  replace HO := HO.trans (Qy.of_ext hvz)
  replace HE := HE.trans hvz
  replace Ht := Ht.ext hvz
  replace Hd := Hd.ext hvz
  replace Hf := Hf.ext hvz
  replace H7 := H7.ext hvz
  replace He := He.ext hvz
  replace Q := Q.ext hvz
  clear hvz
  refine Qr (g := 6) [0, 1, 2, 3] [_, _, _, _] ⟨rfl, rfl, rfl, rfl, trivial⟩ (by kernel_rfl) (by kernel_rfl) ⟨HE, Ht, Hd, Q, trivial⟩ ?_
  simp only [Qc, Qd, Qe]
  apply Exists.intro
  refine ⟨fun u hu => ?_, ?_⟩
  ·have t0 := hu.2.1.c1
   have lt := hu.2.1.lt
   obtain ⟨d0, d1, d2, d3, d4, d5⟩ := hu.2.2.1.c6
   have ld := hu.2.2.1.lt
   obtain ⟨r0, r1⟩ := hu.2.2.2.1.c2
   have lr := hu.2.2.2.1.lt
   repeat (first | go_big_quiet_skip | (go_big_quiet_want; go_big_quiet_op; go_big_quiet_on))
   refine wpQuiet_nil ?_
   rfl
  refine Qk 4 rfl (by kernel_rfl) ?_
  simp only [Qc, Qd, Qe]
  go_wp2_with (go_at_call 86; (with_reducible refine Calls.mono (NA _ (Z.ext HE)) ?_); rintro e wc ⟨rfl, h4⟩)
  replace HO := HO.trans (Qy.of_ext h4)
  replace HE := HE.trans h4
  replace Ht := Ht.ext h4
  replace Hd := Hd.ext h4
  replace Hf := Hf.ext h4
  replace H7 := H7.ext h4
  replace He := He.ext h4
  replace Q := Q.ext h4
  clear h4
  refine Qh ⟨HE, Ht, Hd, Q, trivial⟩ ?_
  refine Qr (g := 3) [5, 6] [_, _] ⟨rfl, rfl, trivial⟩ (by kernel_rfl) (by kernel_rfl) ⟨HE, Ht, Hd, Q, trivial⟩ ?_
  simp only [Qc, Qd, Qe]
  apply Exists.intro
  refine ⟨fun u hu => ?_, ?_⟩
  ·have t0 := hu.2.1.c1
   have lt := hu.2.1.lt
   obtain ⟨d0, d1, d2, d3, d4, d5⟩ := hu.2.2.1.c6
   have ld := hu.2.2.1.lt
   obtain ⟨r0, r1⟩ := hu.2.2.2.1.c2
   have lr := hu.2.2.2.1.lt
   repeat (first | go_big_quiet_skip | (go_big_quiet_want; go_big_quiet_op; go_big_quiet_on))
   refine wpQuiet_nil ?_
   rfl
  refine Qk 7 rfl (by kernel_rfl) ?_
  simp only [Qc, Qd, Qe]
  go_wp2_with (first | (go_at_call 117; (with_reducible refine Calls.mono (Y8 ⟨Sn, Sd⟩ Se 0 be _ He) ?_); rintro e we ⟨rfl, h5, He2⟩) | (go_at_fn 117; (with_reducible refine Calls.mono (Y8 ⟨Sn, Sd⟩ Se 0 be _ He) ?_); rintro e we ⟨rfl, h5, He2⟩))
  try rw [if_pos rfl] at He2
  have h5' := h5.mono (T := [bd, bf, be]) (fun k hk => by rw [List.mem_singleton.1 hk]; simp)
  replace HO := HO.trans h5'
  replace HE := h5.ext HE (fun k hk => by rw [List.mem_singleton.1 hk]; exact g3)
  replace Ht := h5.held Ht (by simp only [List.mem_singleton]; exact fun e => n4 (by rw [e]; simp))
  replace Hd := h5.held Hd (by simp only [List.mem_singleton]; exact n2)
  replace Hf := h5.held Hf (by simp only [List.mem_singleton]; exact n3)
  replace H7 := h5.held H7 (by simp only [List.mem_singleton]; exact n7)
  replace Q := h5.held Q (by simp only [List.mem_singleton]; have := he.lt; omega)
  have He := He2
  clear h5 h5' He2
  refine Qh ⟨HE, Ht, Hd, Q, trivial⟩ ?_
  refine Qr (g := 1) [8] [_] ⟨rfl, trivial⟩ (by kernel_rfl) (by kernel_rfl) ⟨HE, Ht, Hd, Q, trivial⟩ ?_
  simp only [Qc, Qd, Qe]
  apply Exists.intro
  refine ⟨fun u hu => ?_, ?_⟩
  ·have t0 := hu.2.1.c1
   have lt := hu.2.1.lt
   obtain ⟨d0, d1, d2, d3, d4, d5⟩ := hu.2.2.1.c6
   have ld := hu.2.2.1.lt
   obtain ⟨r0, r1⟩ := hu.2.2.2.1.c2
   have lr := hu.2.2.2.1.lt
   repeat (first | go_big_quiet_skip | (go_big_quiet_want; go_big_quiet_op; go_big_quiet_on))
   refine wpQuiet_nil ?_
   rfl
  refine Qm 9 rfl (by kernel_rfl) ?_
  simp only [Qc, Qd, Qe]
  have z2 := Hd.frozen 2
  have z3 := Hd.frozen 3
  obtain ⟨x0, x1, x2, x3, x4, x5⟩ := Hd.c6
  have lx := Hd.lt
  have Hd2 := Nc Hd (.int .i64 Sn) (.int .i64 Sd)
  have Hf := Qi (Qi Hf (Ne.symm n1) 2 (.int .i64 Sn)) (Ne.symm n1) 3 (.int .i64 Sd)
  have He := Qi (Qi He (Ne.symm n2) 2 (.int .i64 Sn)) (Ne.symm n2) 3 (.int .i64 Sd)
  have H7 := Qi (Qi H7 (n8) 2 (.int .i64 Sn)) (n8) 3 (.int .i64 Sd)
  have HO := (HO.trans (Qy.set _ (by simp : bd ∈ [bd, bf, be]) 2 (.int .i64 Sn))).trans (Qy.set _ (by simp : bd ∈ [bd, bf, be]) 3 (.int .i64 Sd))
  go_wp2
  refine Ql ?_
  refine Qs (by kernel_rfl) ?_
  have Hd := Hd2
  generalize World.setCell _ _ _ = wq at *
  clear z2 z3 x0 x1 x2 x3 x4 x5 lx
  have YY : ∃ Y : Db, Y.In ∧ Qb (World.setCell (World.setCell (World.setCell (World.setCell wq ⟨bf, 0, none⟩ (.int .i64 tu.y)) ⟨bf, 1, none⟩ (.int .i64 tu.m)) ⟨bf, 2, none⟩ (.bool tu.s)) ⟨bf, 3, none⟩ (.int .i64 tu.d)) bd 72 #[.int .i64 Y.p.n, .int .i64 Y.p.d, .int .i64 Y.i.n, .int .i64 Y.i.d, .int .i64 Y.s.n, .int .i64 Y.s.d] ∧ (V.2 = 0 → Y = V.1) :=
   ⟨⟨X.p, ⟨Sn, Sd⟩, X.s⟩, ⟨hX.p, hSi, hX.s⟩, Qi (Qi (Qi (Qi Hd n1 0 (.int .i64 tu.y)) n1 1 (.int .i64 tu.m)) n1 2 (.bool tu.s)) n1 3 (.int .i64 tu.d), fun h => (hV2.out.2 (hV2.out.1.symm.trans h)).symm⟩
  have hVe := Lib.hid hV2.out.1
  obtain ⟨s0, s1, s2, s3⟩ := H7.c4
  have ls := H7.lt
  obtain ⟨f0, f1, f2, f3⟩ := Hf.c4
  have lf := Hf.lt
  have z0 := Hf.frozen 0
  have z1 := Hf.frozen 1
  have z2 := Hf.frozen 2
  have z3 := Hf.frozen 3
  have Hf2 := Pv Hf (.int .i64 tu.y) (.int .i64 tu.m) (.bool tu.s) (.int .i64 tu.d)
  have He2 := Qi (Qi (Qi (Qi He (Ne.symm n3) 0 (.int .i64 tu.y)) (Ne.symm n3) 1 (.int .i64 tu.m)) (Ne.symm n3) 2 (.bool tu.s)) (Ne.symm n3) 3 (.int .i64 tu.d)
  have Hd2 := Qi (Qi (Qi (Qi Hd n1 0 (.int .i64 tu.y)) n1 1 (.int .i64 tu.m)) n1 2 (.bool tu.s)) n1 3 (.int .i64 tu.d)
  have OF := (((HO.trans (Qy.set _ (by simp : bf ∈ [bd, bf, be]) 0 (.int .i64 tu.y))).trans (Qy.set _ (by simp : bf ∈ [bd, bf, be]) 1 (.int .i64 tu.m))).trans (Qy.set _ (by simp : bf ∈ [bd, bf, be]) 2 (.bool tu.s))).trans (Qy.set _ (by simp : bf ∈ [bd, bf, be]) 3 (.int .i64 tu.d))
  go_wp2
  (try simp only [Exit.inBlock, Exit.then])
  refine bodyPost_end (results_none rfl _ _ _) rfl ⟨rfl, OF, Hf2, by rw [hVe.out]; exact He2, YY⟩
 ·have g0 : (Me == 0) = false := beq_eq_false_iff_ne.2 h0
  have hV := HV.out
  rw [if_pos h0] at hV
  have YY : ∃ Y : Db, Y.In ∧ Qb (World.setCell (World.setCell (World.setCell (World.setCell w3 ⟨bf, 0, none⟩ (.int .i64 tu.y)) ⟨bf, 1, none⟩ (.int .i64 tu.m)) ⟨bf, 2, none⟩ (.bool tu.s)) ⟨bf, 3, none⟩ (.int .i64 tu.d)) bd 72 #[.int .i64 Y.p.n, .int .i64 Y.p.d, .int .i64 Y.i.n, .int .i64 Y.i.d, .int .i64 Y.s.n, .int .i64 Y.s.d] ∧ (V.2 = 0 → Y = V.1) :=
   ⟨X, hX, Qi (Qi (Qi (Qi Hd n1 0 (.int .i64 tu.y)) n1 1 (.int .i64 tu.m)) n1 2 (.bool tu.s)) n1 3 (.int .i64 tu.d), fun h => by rw [hV]⟩
  have hVe : V.2 = Me := by rw [hV]
  clear HV hV h0
  replace hVe := Lib.hid hVe
  obtain ⟨s0, s1, s2, s3⟩ := H7.c4
  have ls := H7.lt
  obtain ⟨f0, f1, f2, f3⟩ := Hf.c4
  have lf := Hf.lt
  have z0 := Hf.frozen 0
  have z1 := Hf.frozen 1
  have z2 := Hf.frozen 2
  have z3 := Hf.frozen 3
  have Hf2 := Pv Hf (.int .i64 tu.y) (.int .i64 tu.m) (.bool tu.s) (.int .i64 tu.d)
  have He2 := Qi (Qi (Qi (Qi He (Ne.symm n3) 0 (.int .i64 tu.y)) (Ne.symm n3) 1 (.int .i64 tu.m)) (Ne.symm n3) 2 (.bool tu.s)) (Ne.symm n3) 3 (.int .i64 tu.d)
  have Hd2 := Qi (Qi (Qi (Qi Hd n1 0 (.int .i64 tu.y)) n1 1 (.int .i64 tu.m)) n1 2 (.bool tu.s)) n1 3 (.int .i64 tu.d)
  have OF := (((HO.trans (Qy.set _ (by simp : bf ∈ [bd, bf, be]) 0 (.int .i64 tu.y))).trans (Qy.set _ (by simp : bf ∈ [bd, bf, be]) 1 (.int .i64 tu.m))).trans (Qy.set _ (by simp : bf ∈ [bd, bf, be]) 2 (.bool tu.s))).trans (Qy.set _ (by simp : bf ∈ [bd, bf, be]) 3 (.int .i64 tu.d))
  go_wp2
  (try simp only [Exit.inBlock, Exit.then])
  refine bodyPost_end (results_none rfl _ _ _) rfl ⟨rfl, OF, Hf2, by rw [hVe.out]; exact He2, YY⟩
end
section
def Ut (v : Db × Int) : Db × Int := if v.2 ≠ 0 then (Jz, v.2) else v
def J7 (c : Qf) (r : Rt) (f : Nat → Z8) (on : Dt) (i m : Nat) (x : Db) (a : Dt) : Db × Int := Ut (Xl c r f on i m x a)
def Om (c : Qf) (r : Rt) (f : Nat → Z8) (on : Dt) (i m : Nat) (x : Db) (lf : Rt) : Db × Int := if (Q4 x.s lf).2 ≠ 0 then (Jz, (Q4 x.s lf).2) else J7 c r f on (i + 1) m ⟨x.p, x.i, (Q4 x.s lf).1⟩ (f i).on
def Ol (c : Qf) (r : Rt) (f : Nat → Z8) (on : Dt) (i m : Nat) (x : Db) (lf : Rt) : Db × Int := if (Qz x.p lf).2 ≠ 0 then (Jz, (Qz x.p lf).2) else Om c r f on i m ⟨(Qz x.p lf).1.1, x.i, x.s⟩ (Qz x.p lf).1.2
def Oj (c : Qf) (r : Rt) (f : Nat → Z8) (on : Dt) (i m : Nat) (x : Db) (lf : Rt) : Db × Int := if (Qz x.i lf).2 ≠ 0 then (Jz, (Qz x.i lf).2) else Ol c r f on i m ⟨x.p, (Qz x.i lf).1.1, x.s⟩ (Qz x.i lf).1.2
theorem Ku {v : Db × Int} (h : v.2 ≠ 0) : Ut v = (Jz, v.2) := by unfold Ut; rw [if_pos h]
theorem D8 {v : Db × Int} (h : v.2 = 0) : Ut v = v := by unfold Ut; rw [if_neg (by simpa using h)]
theorem Qfs {c : Qf} {r : Rt} {f : Nat → Z8} {on : Dt} {i m : Nat} {x : Db} {a : Dt} (h : c.numV on < c.numV (f i).on) : J7 c r f on i (m + 1) x a = Ut (Zh c r x a on) := by
 unfold J7; rw [Xl, if_pos h]
theorem Qfq {c : Qf} {r : Rt} {f : Nat → Z8} {on : Dt} {i m : Nat} {x : Db} {a : Dt} (h : ¬ c.numV on < c.numV (f i).on) (h2 : (Zh c r x a (f i).on).2 ≠ 0) : J7 c r f on i (m + 1) x a = (Jz, (Zh c r x a (f i).on).2) := by
 unfold J7; rw [Xl, if_neg h, if_pos h2]; exact Ku h2
theorem Qfr {c : Qf} {r : Rt} {f : Nat → Z8} {on : Dt} {i m : Nat} {x : Db} {a : Dt} (h : ¬ c.numV on < c.numV (f i).on) (h2 : (Zh c r x a (f i).on).2 = 0) : J7 c r f on i (m + 1) x a = Oj c r f on i m (Zh c r x a (f i).on).1 (f i).n := by
 unfold J7
 rw [Xl, if_neg h, if_neg (by simpa using h2)]
 generalize (Zh c r x a (f i).on).1 = X
 generalize (f i).n = n
 unfold Yb Oj Ol Om J7
 by_cases e1 : (Qz X.i n).2 ≠ 0
 ·rw [if_pos e1, if_pos e1, if_pos e1]; exact Ku e1
 ·rw [if_neg e1, if_neg e1]
  simp only
  by_cases e2 : (Qz X.p (Qz X.i n).1.2).2 ≠ 0
  ·rw [if_pos e2, if_pos e2, if_pos e2]; exact Ku e2
  ·rw [if_neg e2, if_neg e2]
   by_cases e3 : (Q4 X.s (Qz X.p (Qz X.i n).1.2).1.2).2 ≠ 0
   ·rw [if_pos e3, if_pos e3, if_pos e3]; exact Ku e3
   ·rw [if_neg e3, if_neg e3]
    simp
theorem Qex {c : Qf} {l : Ln} {f : Nat → Z8} {n : Nat} {on : Dt} (h1 : c.loanE l f n = 0) (h2 : c.numV on ≠ 0) (h3 : ¬ c.numV on < c.numV l.f) : c.owedV l f n on = J7 c l.r f on 0 n (start l) l.f := by
 unfold Qf.owedV J7 Ut
 rw [if_neg (by rw [h1]; decide), if_neg h2, if_neg h3]
 by_cases e : (Xl c l.r f on 0 n (start l) l.f).2 ≠ 0
 ·rw [if_pos e, if_pos e]
 ·rw [if_neg e, if_neg e]
  have e' := Decidable.not_not.1 e
  exact Prod.ext rfl e'.symm
end
end Go.Proofs.YtoflcheopfppoaaGreatDoor
