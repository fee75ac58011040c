/- Walks of the program's functions and plain facts, packed; proved: the lemmas below; no conditions but those that each states. -/
import Derived.Test.YtneiofnlmblglaaGreatDoorR6
import Derived.Test.YtneiofnlmblglaaGreatDoorR7
import Derived.Test.YtneiofnlmblglaaGreatDoorR5
set_option maxRecDepth 100000
set_option maxHeartbeats 4000000
namespace Go.Proofs.YtneiofnlmblglaaGreatDoor
section
open Go Go.RowKit Go.Shelf
attribute [local go_sem] Zs
def Xn (h : Jw) : Nat → Bool
 | 0 => true
 | 1 => true && (decide (0 ≤ h.e) && decide (h.e ≤ 1048576))
 | 2 => (true && (decide (0 ≤ h.e) && decide (h.e ≤ 1048576))) && (decide (0 ≤ h.r) && decide (h.r ≤ 1048576))
 | _ => ((true && (decide (0 ≤ h.e) && decide (h.e ≤ 1048576))) && (decide (0 ≤ h.r) && decide (h.r ≤ 1048576))) && (decide (0 ≤ h.l) && decide (h.l ≤ 1048576))
section
variable {W w : World} {b : Nat} {t : TypeId} {v0 v1 v2 : Value}
theorem Fi (h : Qb W b t #[v0, v1, v2]) (u : Value) : Qb (W.setCell ⟨b, 0, none⟩ u) b t #[u, v1, v2] := by unfold Qb at h ⊢; simp [World.setCell, Array.getElem?_modify, h]
theorem Fj (h : Qb W b t #[v0, v1, v2]) (u : Value) : Qb (W.setCell ⟨b, 1, none⟩ u) b t #[v0, u, v2] := by unfold Qb at h ⊢; simp [World.setCell, Array.getElem?_modify, h]
theorem Fk (h : Qb W b t #[v0, v1, v2]) (u : Value) : Qb (W.setCell ⟨b, 2, none⟩ u) b t #[v0, v1, u] := by unfold Qb at h ⊢; simp [World.setCell, Array.getElem?_modify, h]
theorem Un (h : Qb W b t #[v0, v1, v2]) (u0 u1 u2 : Value) : Qb (((W.setCell ⟨b, 0, none⟩ u0).setCell ⟨b, 1, none⟩ u1).setCell ⟨b, 2, none⟩ u2) b t #[u0, u1, u2] := by unfold Qb at h ⊢; simp [World.setCell, Array.getElem?_modify, h]
theorem Uk (h : Qa w W) (hb : w.heap.size ≤ b) (u0 u1 u2 : Value) : Qa w (((W.setCell ⟨b, 0, none⟩ u0).setCell ⟨b, 1, none⟩ u1).setCell ⟨b, 2, none⟩ u2) := ((h.setCell (p := ⟨b, 0, none⟩) hb u0).setCell (p := ⟨b, 1, none⟩) hb u1).setCell (p := ⟨b, 2, none⟩) hb u2
end
def stJ (d : Rt) (g : Jw) : Nat → Jw
 | 0 => g
 | 1 => ⟨Za g.e d, g.r, g.l⟩
 | 2 => ⟨Za g.e d, Za g.r d, g.l⟩
 | _ => ⟨Za g.e d, Za g.r d, Za g.l d⟩
theorem Qa6 (h : Jw) : Xn h 3 = h.ok := rfl
theorem Ew (h : Jw) (w : World) :
  Calls Tryz.prog 85 #[.agg #[.int .i64 h.e, .int .i64 h.r, .int .i64 h.l]] w fun e w' => e = .returned (.bool h.ok) ∧ Qa w w' := by
 rw [show h.ok = Xn h 3 from (Qa6 h).symm]
 have hix0 : ∀ w, (Instr.index 164 (.agg #[.int .i64 h.e, .int .i64 h.r, .int .i64 h.l]) (.int .i64 0)).run Tryz.prog w = .ok (.int .i64 h.e) w := fun w => by kernel_rfl
 have hix1 : ∀ w, (Instr.index 164 (.agg #[.int .i64 h.e, .int .i64 h.r, .int .i64 h.l]) (.int .i64 1)).run Tryz.prog w = .ok (.int .i64 h.r) w := fun w => by kernel_rfl
 have hix2 : ∀ w, (Instr.index 164 (.agg #[.int .i64 h.e, .int .i64 h.r, .int .i64 h.l]) (.int .i64 2)).run Tryz.prog w = .ok (.int .i64 h.l) w := fun w => by kernel_rfl
 go_enter Tryz.func85, Tryz.ntmps85
 go_upto_region 1 with (fail)
 obtain ⟨v, hv⟩ := Qg (w.alloc (.cells #[.int .i64 h.e, .int .i64 h.r, .int .i64 h.l] 99))
 rw [← hv]
 have E : Qa w v := by rw [hv]; exact (Qa.refl _).alloc _
 have B1 : Qb v w.heap.size 99 #[.int .i64 h.e, .int .i64 h.r, .int .i64 h.l] := by rw [hv]; exact (Qb.new _ _ _)
 clear hv
 obtain ⟨b1, hb1⟩ := Qg (w.heap.size)
 rw [← hb1] at B1 ⊢
 have hbr : w.heap.size ≤ b1 := by omega
 clear hb1
 obtain ⟨k0, k1, k2⟩ := B1.c3
 have lk := B1.lt
 go_upto_region 3 with (fail)
 go_loopw [3, 13] (fun ov iv wr => ∃ k : Nat, k ≤ 3 ∧ iv = .int .i64 (k : Int) ∧ ov = .bool (Xn h k) ∧ Qa w wr) (fun _ iv _ => 3 - (intOf iv).toNat)
 case atStart => exact ⟨0, by decide, rfl, rfl, E⟩
 case round =>
  clear E k0 k1 k2 lk B1
  obtain ⟨k, hk, rfl, rfl, hE⟩ := hrel
  obtain ⟨wo, rfl⟩ := Qg wr
  by_cases hlt : k < 3
  ·have h3 : k = 0 ∨ k = 1 ∨ k = 2 := by omega
   rcases h3 with rfl | rfl | rfl
   ·skip
    have hh : Hid (Xn h 1 = (Xn h 0 && (decide (0 ≤ h.e) && decide (h.e ≤ 1048576)))) := rfl
    cases hq : Xn h 0
    ·rw [hq] at hh
     go_wp2
     exact ⟨⟨1, by decide, rfl, by rw [hh.out]; rfl, hE⟩, by simp [intOf]⟩
    ·rw [hq] at hh
     by_cases h1 : 0 ≤ h.e
     ·have g1 : decide (0 ≤ h.e) = true := decide_eq_true h1
      by_cases h2 : h.e ≤ 1048576
      ·have g2 : decide (h.e ≤ 1048576) = true := decide_eq_true h2
       go_wp2
       exact ⟨⟨1, by decide, rfl, by rw [hh.out, g1, g2]; rfl, hE⟩, by simp [intOf]⟩
      ·have g2 : decide (h.e ≤ 1048576) = false := decide_eq_false h2
       go_wp2
       exact ⟨⟨1, by decide, rfl, by rw [hh.out, g1, g2]; rfl, hE⟩, by simp [intOf]⟩
     ·have g1 : decide (0 ≤ h.e) = false := decide_eq_false h1
      go_wp2
      exact ⟨⟨1, by decide, rfl, by rw [hh.out, g1]; rfl, hE⟩, by simp [intOf]⟩
   ·skip
    have hh : Hid (Xn h 2 = (Xn h 1 && (decide (0 ≤ h.r) && decide (h.r ≤ 1048576)))) := rfl
    cases hq : Xn h 1
    ·rw [hq] at hh
     go_wp2
     exact ⟨⟨2, by decide, rfl, by rw [hh.out]; rfl, hE⟩, by simp [intOf]⟩
    ·rw [hq] at hh
     by_cases h1 : 0 ≤ h.r
     ·have g1 : decide (0 ≤ h.r) = true := decide_eq_true h1
      by_cases h2 : h.r ≤ 1048576
      ·have g2 : decide (h.r ≤ 1048576) = true := decide_eq_true h2
       go_wp2
       exact ⟨⟨2, by decide, rfl, by rw [hh.out, g1, g2]; rfl, hE⟩, by simp [intOf]⟩
      ·have g2 : decide (h.r ≤ 1048576) = false := decide_eq_false h2
       go_wp2
       exact ⟨⟨2, by decide, rfl, by rw [hh.out, g1, g2]; rfl, hE⟩, by simp [intOf]⟩
     ·have g1 : decide (0 ≤ h.r) = false := decide_eq_false h1
      go_wp2
      exact ⟨⟨2, by decide, rfl, by rw [hh.out, g1]; rfl, hE⟩, by simp [intOf]⟩
   ·skip
    have hh : Hid (Xn h 3 = (Xn h 2 && (decide (0 ≤ h.l) && decide (h.l ≤ 1048576)))) := rfl
    cases hq : Xn h 2
    ·rw [hq] at hh
     go_wp2
     exact ⟨⟨3, by decide, rfl, by rw [hh.out]; rfl, hE⟩, by simp [intOf]⟩
    ·rw [hq] at hh
     by_cases h1 : 0 ≤ h.l
     ·have g1 : decide (0 ≤ h.l) = true := decide_eq_true h1
      by_cases h2 : h.l ≤ 1048576
      ·have g2 : decide (h.l ≤ 1048576) = true := decide_eq_true h2
       go_wp2
       exact ⟨⟨3, by decide, rfl, by rw [hh.out, g1, g2]; rfl, hE⟩, by simp [intOf]⟩
      ·have g2 : decide (h.l ≤ 1048576) = false := decide_eq_false h2
       go_wp2
       exact ⟨⟨3, by decide, rfl, by rw [hh.out, g1, g2]; rfl, hE⟩, by simp [intOf]⟩
     ·have g1 : decide (0 ≤ h.l) = false := decide_eq_false h1
      go_wp2
      exact ⟨⟨3, by decide, rfl, by rw [hh.out, g1]; rfl, hE⟩, by simp [intOf]⟩
  ·obtain rfl : k = 3 := by omega
   go_wp2
   go_ret
   exact ⟨rfl, hE⟩
theorem Az (h : Jw) (b d : Rt) (y : Int) (hb : b.In) (hd : d.In) (hy1 : -9223372036854775808 ≤ y) (hy2 : y ≤ 9223372036854775807) (w : World) :
  Calls Tryz.prog 43 #[.agg #[.int .i64 h.e, .int .i64 h.r, .int .i64 h.l], .agg #[.int .i64 b.n, .int .i64 b.d], .agg #[.int .i64 d.n, .int .i64 d.d], .int .i64 y] w fun e w' => e = .returned (.tuple #[.agg #[.int .i64 (X8 h b d y).1.e, .int .i64 (X8 h b d y).1.r, .int .i64 (X8 h b d y).1.l], .int .i64 (X8 h b d y).2]) ∧ Qa w w' := by
 obtain ⟨V, hV0⟩ := Qg (X8 h b d y)
 rw [← hV0]
 replace hV0 := Lib.hid hV0
 have NH := fun h w => Ew h w
 have NB := fun w => Ko b hb w
 have ND := fun w => Ko d hd w
 go_enter Tryz.func43, Tryz.ntmps43
 go_upto_region 1 with (fail)
 obtain ⟨v, hv⟩ := Qg ((((w.alloc (.cells #[.int .i64 h.e, .int .i64 h.r, .int .i64 h.l] 99)).alloc (.cells #[.int .i64 b.n, .int .i64 b.d] 73)).alloc (.cells #[.int .i64 d.n, .int .i64 d.d] 73)).alloc (.cells #[.int .i64 0, .int .i64 0, .int .i64 0] 99))
 rw [← hv]
 have E : Qa w v := by rw [hv]; exact ((((Qa.refl _).alloc _).alloc _).alloc _).alloc _
 have Hh : Qb v w.heap.size 99 #[.int .i64 h.e, .int .i64 h.r, .int .i64 h.l] := by rw [hv]; exact (((Qb.new _ _ _).alloc _).alloc _).alloc _
 have Hb : Qb v (w.heap.size + 1) 73 #[.int .i64 b.n, .int .i64 b.d] := by rw [hv]; exact ((Qb.at _ _ _ _ (by simp)).alloc _).alloc _
 have Hd : Qb v (w.heap.size + 1 + 1) 73 #[.int .i64 d.n, .int .i64 d.d] := by rw [hv]; exact (Qb.at _ _ _ _ (by simp)).alloc _
 have Hr : Qb v (w.heap.size + 1 + 1 + 1) 99 #[.int .i64 0, .int .i64 0, .int .i64 0] := by rw [hv]; exact Qb.at _ _ _ _ (by simp)
 clear hv
 obtain ⟨b4, hb4⟩ := Qg (w.heap.size + 1 + 1 + 1)
 rw [← hb4] at Hr ⊢
 obtain ⟨b3, hb3⟩ := Qg (w.heap.size + 1 + 1)
 rw [← hb3] at Hd ⊢
 obtain ⟨b2, hb2⟩ := Qg (w.heap.size + 1)
 rw [← hb2] at Hb ⊢
 obtain ⟨b1, hb1⟩ := Qg (w.heap.size)
 rw [← hb1] at Hh ⊢
 have hbr : w.heap.size ≤ b4 := by omega
 have hbr1 : w.heap.size ≤ b1 := by omega
 have hbr2 : w.heap.size ≤ b2 := by omega
 have hbr3 : w.heap.size ≤ b3 := by omega
 have hn21 : b2 ≠ b1 := by omega
 have hn31 : b3 ≠ b1 := by omega
 have hn32 : b3 ≠ b2 := by omega
 have hn41 : b4 ≠ b1 := by omega
 have hn42 : b4 ≠ b2 := by omega
 have hn43 : b4 ≠ b3 := by omega
 clear hb1 hb2 hb3 hb4
 have HE := E
 clear E
 obtain ⟨k0, k1, k2⟩ := Hh.c3
 have lk := Hh.lt
 obtain ⟨p0, p1⟩ := Hb.c2
 have lp := Hb.lt
 obtain ⟨q0, q1⟩ := Hd.c2
 have lq := Hd.lt
 have K1 := fun u (hu : Qa v u) => (Hb.ext hu).c2
 cases ho : h.ok
 ·have NH1 := fun w => NH h w
  simp only [ho] at NH1
  have hr := hV0.out
  unfold X8 at hr
  rw [ho, if_neg (by decide)] at hr
  subst hr
  clear hV0 ho NH K1
  go_upto_region 2 with (go_at_call 85; (with_reducible refine Calls.mono (NH1 _) ?_); rintro e w1 ⟨rfl, h1⟩)
  replace HE := HE.trans h1
  replace Hr := Hr.ext h1
  have y0 := Hr.frozen 0
  have y1 := Hr.frozen 1
  have y2 := Hr.frozen 2
  obtain ⟨x0, x1, x2⟩ := Hr.c3
  have lx := Hr.lt
  have R3 := Un Hr (.int .i64 0) (.int .i64 0) (.int .i64 0)
  have EF := Uk HE hbr (.int .i64 0) (.int .i64 0) (.int .i64 0)
  obtain ⟨r0, r1, r2⟩ := R3.c3
  go_wp2
  refine bodyPost_ret (v := .tuple #[.agg #[.int .i64 0, .int .i64 0, .int .i64 0], .int .i64 82]) (by simp [results, Tryz.results43, go_sem, r0, r1, r2]) rfl ⟨rfl, EF⟩
 ·have NH1 := fun w => NH h w
  simp only [ho] at NH1
  clear K1
  have A1 : ∀ u, Qa v u → True := fun _ _ => trivial
  go_upto_region 3 with (go_at_call 85; (with_reducible refine Calls.mono (NH1 _) ?_); rintro e w1 ⟨rfl, h1⟩)
  replace HE := HE.trans h1
  replace Hr := Hr.ext h1
  replace Hh := Hh.ext h1
  replace Hb := Hb.ext h1
  replace Hd := Hd.ext h1
  clear h1 k0 k1 k2 lk p0 p1 lp q0 q1 lq A1 NH1
  obtain ⟨p0, p1⟩ := Hb.c2
  have lp := Hb.lt
  obtain ⟨q0, q1⟩ := Hd.c2
  have lq := Hd.lt
  cases hbs : b.shr
  ·simp only [hbs] at NB
   have hr := hV0.out
   unfold X8 at hr
   rw [ho, hbs, if_pos rfl, Bool.false_and, if_neg (by decide)] at hr
   subst hr
   clear hV0 ho hbs
   go_upto_region 4 with (go_at_call 82; (with_reducible refine Calls.mono (NB _) ?_); rintro e w2 ⟨rfl, h2⟩)
   replace HE := HE.trans h2
   replace Hr := Hr.ext h2
   have y0 := Hr.frozen 0
   have y1 := Hr.frozen 1
   have y2 := Hr.frozen 2
   obtain ⟨x0, x1, x2⟩ := Hr.c3
   have lx := Hr.lt
   have R3 := Un Hr (.int .i64 0) (.int .i64 0) (.int .i64 0)
   have EF := Uk HE hbr (.int .i64 0) (.int .i64 0) (.int .i64 0)
   obtain ⟨r0, r1, r2⟩ := R3.c3
   go_wp2
   refine bodyPost_ret (v := .tuple #[.agg #[.int .i64 0, .int .i64 0, .int .i64 0], .int .i64 2]) (by simp [results, Tryz.results43, go_sem, r0, r1, r2]) rfl ⟨rfl, EF⟩
  ·simp only [hbs] at NB
   cases hds : d.shr
   ·simp only [hds] at ND
    have hr := hV0.out
    unfold X8 at hr
    rw [ho, hbs, hds, if_pos rfl, Bool.and_false, if_neg (by decide)] at hr
    subst hr
    clear hV0 ho hbs hds
    go_upto_region 4 with (first | (go_at_call 82; (with_reducible refine Calls.mono (NB _) ?_); rintro e w2 ⟨rfl, h2⟩; clear q0 q1 lq; obtain ⟨q0, q1⟩ := (Hd.ext h2).c2; have lq := (Hd.ext h2).lt) | (go_at_call 82; (with_reducible refine Calls.mono (ND _) ?_); rintro e w3 ⟨rfl, h3⟩))
    replace HE := (HE.trans h2).trans h3
    replace Hr := (Hr.ext h2).ext h3
    have y0 := Hr.frozen 0
    have y1 := Hr.frozen 1
    have y2 := Hr.frozen 2
    obtain ⟨x0, x1, x2⟩ := Hr.c3
    have lx := Hr.lt
    have R3 := Un Hr (.int .i64 0) (.int .i64 0) (.int .i64 0)
    have EF := Uk HE hbr (.int .i64 0) (.int .i64 0) (.int .i64 0)
    obtain ⟨r0, r1, r2⟩ := R3.c3
    go_wp2
    refine bodyPost_ret (v := .tuple #[.agg #[.int .i64 0, .int .i64 0, .int .i64 0], .int .i64 2]) (by simp [results, Tryz.results43, go_sem, r0, r1, r2]) rfl ⟨rfl, EF⟩
   ·simp only [hds] at ND
    have hV1 : Hid (V = if y < 0 ∨ 40 < y then (Vb, 8) else U8 b d y.toNat h) := by
     unfold Hid; rw [hV0.out]; unfold X8; rw [ho, hbs, hds, if_pos rfl, Bool.and_self, if_pos rfl]
    clear hV0
    go_upto_region 5 with (first | (go_at_call 82; (with_reducible refine Calls.mono (NB _) ?_); rintro e w2 ⟨rfl, h2⟩; clear q0 q1 lq; obtain ⟨q0, q1⟩ := (Hd.ext h2).c2; have lq := (Hd.ext h2).lt) | (go_at_call 82; (with_reducible refine Calls.mono (ND _) ?_); rintro e w3 ⟨rfl, h3⟩))
    replace HE := (HE.trans h2).trans h3
    replace Hr := (Hr.ext h2).ext h3
    replace Hh := (Hh.ext h2).ext h3
    replace Hb := (Hb.ext h2).ext h3
    replace Hd := (Hd.ext h2).ext h3
    clear h2 h3 p0 p1 lp q0 q1 lq NB ND
    by_cases y0 : y < 0
    ·have gy : decide (y < 0) = true := decide_eq_true y0
     have hr := hV1.out
     rw [if_pos (.inl y0)] at hr
     subst hr
     clear hV1 y0
     have y0 := Hr.frozen 0
     have y1 := Hr.frozen 1
     have y2 := Hr.frozen 2
     obtain ⟨x0, x1, x2⟩ := Hr.c3
     have lx := Hr.lt
     have R3 := Un Hr (.int .i64 0) (.int .i64 0) (.int .i64 0)
     have EF := Uk HE hbr (.int .i64 0) (.int .i64 0) (.int .i64 0)
     obtain ⟨r0, r1, r2⟩ := R3.c3
     go_wp2
     refine bodyPost_ret (v := .tuple #[.agg #[.int .i64 0, .int .i64 0, .int .i64 0], .int .i64 8]) (by simp [results, Tryz.results43, go_sem, r0, r1, r2]) rfl ⟨rfl, EF⟩
    ·have gy : decide (y < 0) = false := decide_eq_false y0
     by_cases y1 : 40 < y
     ·have gy1 : decide (40 < y) = true := decide_eq_true y1
      have hr := hV1.out
      rw [if_pos (.inr y1)] at hr
      subst hr
      clear hV1 y0 y1
      have y0 := Hr.frozen 0
      have y1 := Hr.frozen 1
      have y2 := Hr.frozen 2
      obtain ⟨x0, x1, x2⟩ := Hr.c3
      have lx := Hr.lt
      have R3 := Un Hr (.int .i64 0) (.int .i64 0) (.int .i64 0)
      have EF := Uk HE hbr (.int .i64 0) (.int .i64 0) (.int .i64 0)
      obtain ⟨r0, r1, r2⟩ := R3.c3
      go_wp2
      refine bodyPost_ret (v := .tuple #[.agg #[.int .i64 0, .int .i64 0, .int .i64 0], .int .i64 8]) (by simp [results, Tryz.results43, go_sem, r0, r1, r2]) rfl ⟨rfl, EF⟩
     ·have gy1 : decide (40 < y) = false := decide_eq_false y1
      obtain ⟨n, rfl⟩ : ∃ n : Nat, y = (n : Int) := ⟨y.toNat, by omega⟩
      have hV2 : Hid (V = U8 b d n h) := by
       have := hV1.out
       rw [if_neg (by omega), Int.toNat_natCast] at this
       exact this
      clear hV1 hb hd
      replace ho := Lib.hid ho
      replace hbs := Lib.hid hbs
      replace hds := Lib.hid hds
      go_upto_region 8 with (fail)
      go_loopw [34] (fun iv wr => ∃ k : Nat, k ≤ n ∧ iv = .int .i64 (k : Int) ∧ ∃ g : Jw, Hid (g.ok = true) ∧ Qa w wr ∧ Qb wr b1 99 #[.int .i64 g.e, .int .i64 g.r, .int .i64 g.l] ∧ Qb wr b2 73 #[.int .i64 b.n, .int .i64 b.d] ∧ Qb wr b3 73 #[.int .i64 d.n, .int .i64 d.d] ∧ Qb wr b4 99 #[.int .i64 0, .int .i64 0, .int .i64 0] ∧ Hid (V = U8 b d (n - k) g)) (fun iv _ => n - (intOf iv).toNat)
      case atStart => exact ⟨0, Nat.zero_le _, rfl, h, ho, HE, Hh, Hb, Hd, Hr, hV2.out⟩
      case round =>
       clear HE Hh Hb Hd Hr hV2 ho
       obtain ⟨k, hk, rfl, g, hg, HE, Hh, Hb, Hd, Hr, hV⟩ := hrel
       obtain ⟨wo, rfl⟩ := Qg wr
       by_cases hlt : k < n
       ·obtain ⟨m, hm⟩ : ∃ m, n - k = m + 1 := ⟨n - k - 1, by omega⟩
        have hm2 : n - (k + 1) = m := by omega
        have hV' : Hid (V = if (U9 b d g).ok then U8 b d m (U9 b d g) else (Vb, 6)) := by unfold Hid; rw [hV.out, hm]; rfl
        clear hV hm
        have hgo := hg.out
        simp only [Jw.ok, Bool.and_eq_true] at hgo
        obtain ⟨g01, g02⟩ := Oe.1 hgo.1.1
        obtain ⟨g11, g12⟩ := Oe.1 hgo.1.2
        obtain ⟨g21, g22⟩ := Oe.1 hgo.2
        clear hgo
        have hds := hds.out
        have hdd := (O3 hds)
        go_upto_region 10 with (fail)
        obtain ⟨v4, hv⟩ := Qg (wo.alloc (.cells #[.pointer (some ⟨b1, 0, none⟩), .pointer (some ⟨b1, 1, none⟩), .pointer (some ⟨b1, 2, none⟩)] 136))
        rw [← hv]
        have E4 : Qa wo v4 := by rw [hv]; exact (Qa.refl _).alloc _
        have Hp : Qb v4 wo.heap.size 136 #[.pointer (some ⟨b1, 0, none⟩), .pointer (some ⟨b1, 1, none⟩), .pointer (some ⟨b1, 2, none⟩)] := by rw [hv]; exact Qb.new _ _ _
        clear hv
        have hlh := Hh.lt
        obtain ⟨bp, hbp⟩ := Qg (wo.heap.size)
        rw [← hbp] at Hp ⊢
        have hp1 : bp ≠ b1 := by omega
        clear hbp hlh
        replace HE := HE.trans E4
        replace Hh := Hh.ext E4
        replace Hb := Hb.ext E4
        replace Hd := Hd.ext E4
        replace Hr := Hr.ext E4
        clear E4
        go_loopw [41] (fun jv wr => ∃ j : Nat, j ≤ 3 ∧ jv = .int .i64 (j : Int) ∧ Qa w wr ∧ Qb wr b1 99 #[.int .i64 (stJ d g j).e, .int .i64 (stJ d g j).r, .int .i64 (stJ d g j).l] ∧ Qb wr b2 73 #[.int .i64 b.n, .int .i64 b.d] ∧ Qb wr b3 73 #[.int .i64 d.n, .int .i64 d.d] ∧ Qb wr bp 136 #[.pointer (some ⟨b1, 0, none⟩), .pointer (some ⟨b1, 1, none⟩), .pointer (some ⟨b1, 2, none⟩)] ∧ Qb wr b4 99 #[.int .i64 0, .int .i64 0, .int .i64 0]) (fun jv _ => 3 - (intOf jv).toNat)
        case atStart => exact ⟨0, by decide, rfl, HE, Hh, Hb, Hd, Hp, Hr⟩
        case round =>
         clear HE Hh Hb Hd Hp Hr
         obtain ⟨j, hj, rfl, HE, Hh, Hb, Hd, Hp, Hr⟩ := hrel
         obtain ⟨wi, rfl⟩ := Qg wr
         by_cases hlt3 : j < 3
         ·have h3 : j = 0 ∨ j = 1 ∨ j = 2 := by omega
          rcases h3 with rfl | rfl | rfl
          ·have Hh : Qb wi b1 99 #[.int .i64 (g.e), .int .i64 (g.r), .int .i64 (g.l)] := Hh
           have pb := Kj hds g01 g02
           have v1 : IntKind.i64.wrap (d.n * g.e) = d.n * g.e := Zq (by omega) (by omega)
           have v2 : IntKind.i64.wrap ((d.n * g.e).tdiv d.d) = d.n * g.e / d.d := by
            rw [Int.tdiv_eq_ediv_of_nonneg pb.1]; exact Zq (by omega) (by omega)
           have v3 : IntKind.i64.wrap (g.e - d.n * g.e / d.d) = Za g.e d := by
            unfold Za; exact Zq (by omega) (by omega)
           clear pb
           obtain ⟨s0, s1, s2⟩ := Hp.c3
           have ls := Hp.lt
           go_upto_region 12 with (fail)
           clear s0 s1 s2 ls
           refine Zk 15 [14] (fun x => Qb x b1 99 #[.int .i64 (g.e), .int .i64 (g.r), .int .i64 (g.l)] ∧ Qb x b3 73 #[.int .i64 d.n, .int .i64 d.d]) Qo rfl ?_
           intro vz hvz
           replace HE := HE.trans hvz
           replace Hh := Hh.ext hvz
           replace Hd := Hd.ext hvz
           replace Hb := Hb.ext hvz
           replace Hp := Hp.ext hvz
           replace Hr := Hr.ext hvz
           clear hvz
           refine Qp (g := 1) [0, 1, 2, 3, 4, 5, 6, 7, 8, 9, 10, 11, 12, 13] [_, _, _, _, _, _, _, _, _, _, _, _, _, _] ⟨rfl, rfl, rfl, rfl, rfl, rfl, rfl, rfl, rfl, rfl, rfl, rfl, rfl, rfl, trivial⟩ (by kernel_rfl) (by kernel_rfl) ⟨Hh, Hd⟩ ?_
           simp only [Qc, Qd, Qe]
           apply Exists.intro
           refine ⟨fun u hu => ?_, ?_⟩
           ·obtain ⟨x0, x1, x2⟩ := hu.1.c3
            have lx := hu.1.lt
            obtain ⟨d0, d1⟩ := hu.2.c2
            have ld := hu.2.lt
            repeat (first | go_big_quiet_skip | (go_big_quiet_want; go_big_quiet_op; go_big_quiet_on))
            refine wpQuiet_nil ?_
            rfl
           refine Qm 14 rfl (by kernel_rfl) ?_
           simp only [Qc, Qd, Qe]
           have z0 := Hh.frozen 0
           obtain ⟨x0, x1, x2⟩ := Hh.c3; have lx := Hh.lt
           have Hh2 := Fi Hh (.int .i64 (Za g.e d))
           have Hd := Qh Hd hn31 0 (.int .i64 (Za g.e d))
           have Hb := Qh Hb hn21 0 (.int .i64 (Za g.e d))
           have Hp := Qh Hp hp1 0 (.int .i64 (Za g.e d))
           have Hr := Qh Hr hn41 0 (.int .i64 (Za g.e d))
           have HE := HE.setCell (p := ⟨b1, 0, none⟩) hbr1 (.int .i64 (Za g.e d))
           have Hh := Hh2
           go_wp2
           refine Ql ?_
           refine Qt (by kernel_rfl) ?_
           generalize World.setCell _ _ _ = wq at *
           clear z0 x0 x1 x2 lx Hh2
           go_wp2
           exact ⟨⟨1, by decide, rfl, HE, Hh, Hb, Hd, Hp, Hr⟩, by simp [intOf]⟩
          ·have Hh : Qb wi b1 99 #[.int .i64 (Za g.e d), .int .i64 (g.r), .int .i64 (g.l)] := Hh
           have pb := Kj hds g11 g12
           have v1 : IntKind.i64.wrap (d.n * g.r) = d.n * g.r := Zq (by omega) (by omega)
           have v2 : IntKind.i64.wrap ((d.n * g.r).tdiv d.d) = d.n * g.r / d.d := by
            rw [Int.tdiv_eq_ediv_of_nonneg pb.1]; exact Zq (by omega) (by omega)
           have v3 : IntKind.i64.wrap (g.r - d.n * g.r / d.d) = Za g.r d := by
            unfold Za; exact Zq (by omega) (by omega)
           clear pb
           obtain ⟨s0, s1, s2⟩ := Hp.c3
           have ls := Hp.lt
           go_upto_region 12 with (fail)
           clear s0 s1 s2 ls
           refine Zk 15 [14] (fun x => Qb x b1 99 #[.int .i64 (Za g.e d), .int .i64 (g.r), .int .i64 (g.l)] ∧ Qb x b3 73 #[.int .i64 d.n, .int .i64 d.d]) Qo rfl ?_
           intro vz hvz
           replace HE := HE.trans hvz
           replace Hh := Hh.ext hvz
           replace Hd := Hd.ext hvz
           replace Hb := Hb.ext hvz
           replace Hp := Hp.ext hvz
           replace Hr := Hr.ext hvz
           clear hvz
           refine Qp (g := 1) [0, 1, 2, 3, 4, 5, 6, 7, 8, 9, 10, 11, 12, 13] [_, _, _, _, _, _, _, _, _, _, _, _, _, _] ⟨rfl, rfl, rfl, rfl, rfl, rfl, rfl, rfl, rfl, rfl, rfl, rfl, rfl, rfl, trivial⟩ (by kernel_rfl) (by kernel_rfl) ⟨Hh, Hd⟩ ?_
           simp only [Qc, Qd, Qe]
           apply Exists.intro
           refine ⟨fun u hu => ?_, ?_⟩
           ·obtain ⟨x0, x1, x2⟩ := hu.1.c3
            have lx := hu.1.lt
            obtain ⟨d0, d1⟩ := hu.2.c2
            have ld := hu.2.lt
            repeat (first | go_big_quiet_skip | (go_big_quiet_want; go_big_quiet_op; go_big_quiet_on))
            refine wpQuiet_nil ?_
            rfl
           refine Qm 14 rfl (by kernel_rfl) ?_
           simp only [Qc, Qd, Qe]
           have z0 := Hh.frozen 1
           obtain ⟨x0, x1, x2⟩ := Hh.c3; have lx := Hh.lt
           have Hh2 := Fj Hh (.int .i64 (Za g.r d))
           have Hd := Qh Hd hn31 1 (.int .i64 (Za g.r d))
           have Hb := Qh Hb hn21 1 (.int .i64 (Za g.r d))
           have Hp := Qh Hp hp1 1 (.int .i64 (Za g.r d))
           have Hr := Qh Hr hn41 1 (.int .i64 (Za g.r d))
           have HE := HE.setCell (p := ⟨b1, 1, none⟩) hbr1 (.int .i64 (Za g.r d))
           have Hh := Hh2
           go_wp2
           refine Ql ?_
           refine Qt (by kernel_rfl) ?_
           generalize World.setCell _ _ _ = wq at *
           clear z0 x0 x1 x2 lx Hh2
           go_wp2
           exact ⟨⟨2, by decide, rfl, HE, Hh, Hb, Hd, Hp, Hr⟩, by simp [intOf]⟩
          ·have Hh : Qb wi b1 99 #[.int .i64 (Za g.e d), .int .i64 (Za g.r d), .int .i64 (g.l)] := Hh
           have pb := Kj hds g21 g22
           have v1 : IntKind.i64.wrap (d.n * g.l) = d.n * g.l := Zq (by omega) (by omega)
           have v2 : IntKind.i64.wrap ((d.n * g.l).tdiv d.d) = d.n * g.l / d.d := by
            rw [Int.tdiv_eq_ediv_of_nonneg pb.1]; exact Zq (by omega) (by omega)
           have v3 : IntKind.i64.wrap (g.l - d.n * g.l / d.d) = Za g.l d := by
            unfold Za; exact Zq (by omega) (by omega)
           clear pb
           obtain ⟨s0, s1, s2⟩ := Hp.c3
           have ls := Hp.lt
           go_upto_region 12 with (fail)
           clear s0 s1 s2 ls
           refine Zk 15 [14] (fun x => Qb x b1 99 #[.int .i64 (Za g.e d), .int .i64 (Za g.r d), .int .i64 (g.l)] ∧ Qb x b3 73 #[.int .i64 d.n, .int .i64 d.d]) Qo rfl ?_
           intro vz hvz
           replace HE := HE.trans hvz
           replace Hh := Hh.ext hvz
           replace Hd := Hd.ext hvz
           replace Hb := Hb.ext hvz
           replace Hp := Hp.ext hvz
           replace Hr := Hr.ext hvz
           clear hvz
           refine Qp (g := 1) [0, 1, 2, 3, 4, 5, 6, 7, 8, 9, 10, 11, 12, 13] [_, _, _, _, _, _, _, _, _, _, _, _, _, _] ⟨rfl, rfl, rfl, rfl, rfl, rfl, rfl, rfl, rfl, rfl, rfl, rfl, rfl, rfl, trivial⟩ (by kernel_rfl) (by kernel_rfl) ⟨Hh, Hd⟩ ?_
           simp only [Qc, Qd, Qe]
           apply Exists.intro
           refine ⟨fun u hu => ?_, ?_⟩
           ·obtain ⟨x0, x1, x2⟩ := hu.1.c3
            have lx := hu.1.lt
            obtain ⟨d0, d1⟩ := hu.2.c2
            have ld := hu.2.lt
            repeat (first | go_big_quiet_skip | (go_big_quiet_want; go_big_quiet_op; go_big_quiet_on))
            refine wpQuiet_nil ?_
            rfl
           refine Qm 14 rfl (by kernel_rfl) ?_
           simp only [Qc, Qd, Qe]
           have z0 := Hh.frozen 2
           obtain ⟨x0, x1, x2⟩ := Hh.c3; have lx := Hh.lt
           have Hh2 := Fk Hh (.int .i64 (Za g.l d))
           have Hd := Qh Hd hn31 2 (.int .i64 (Za g.l d))
           have Hb := Qh Hb hn21 2 (.int .i64 (Za g.l d))
           have Hp := Qh Hp hp1 2 (.int .i64 (Za g.l d))
           have Hr := Qh Hr hn41 2 (.int .i64 (Za g.l d))
           have HE := HE.setCell (p := ⟨b1, 2, none⟩) hbr1 (.int .i64 (Za g.l d))
           have Hh := Hh2
           go_wp2
           refine Ql ?_
           refine Qt (by kernel_rfl) ?_
           generalize World.setCell _ _ _ = wq at *
           clear z0 x0 x1 x2 lx Hh2
           go_wp2
           exact ⟨⟨3, by decide, rfl, HE, Hh, Hb, Hd, Hp, Hr⟩, by simp [intOf]⟩
         ·obtain rfl : j = 3 := by omega
          have Hh : Qb wi b1 99 #[.int .i64 (Za g.e d), .int .i64 (Za g.r d), .int .i64 (Za g.l d)] := Hh
          have hbs := hbs.out
          have hbb := O3 hbs
          have de := Nl hds g01 g02
          have dr := Nl hds g11 g12
          have dl := Nl hds g21 g22
          have pb := Kj hbs de.1 de.2
          have hst : Hid (U9 b d g = ⟨Za g.e d + (Za g.l d + 1) / 2, Za g.r d + Za g.l d / 2, b.n * Za g.e d / b.d⟩) := rfl
          generalize Za g.e d = xe at *
          generalize Za g.r d = xr at *
          generalize Za g.l d = xl at *
          have v1 : IntKind.i64.wrap (b.n * xe) = b.n * xe := Zq (by omega) (by omega)
          have v2 : IntKind.i64.wrap ((b.n * xe).tdiv b.d) = b.n * xe / b.d := by
           rw [Int.tdiv_eq_ediv_of_nonneg pb.1]; exact Zq (by omega) (by omega)
          have v3 : IntKind.i64.wrap (xl + 1) = xl + 1 := Zq (by omega) (by omega)
          have v4' : IntKind.i64.wrap ((xl + 1).tdiv 2) = (xl + 1) / 2 := by
           rw [Int.tdiv_eq_ediv_of_nonneg (by omega)]; exact Zq (by omega) (by omega)
          have v5 : IntKind.i64.wrap (xe + (xl + 1) / 2) = xe + (xl + 1) / 2 := Zq (by omega) (by omega)
          have v6 : IntKind.i64.wrap (xl.tdiv 2) = xl / 2 := by
           rw [Int.tdiv_eq_ediv_of_nonneg (by omega)]; exact Zq (by omega) (by omega)
          have v7 : IntKind.i64.wrap (xr + xl / 2) = xr + xl / 2 := Zq (by omega) (by omega)
          have hb0 : (b.d == 0) = false := beq_eq_false_iff_ne.2 (by omega)
          have hb1 : b.d ≠ 0 := by omega
          clear pb de dr dl hbb
          generalize b.n * xe / b.d = zl at *
          generalize hz1 : (xl + 1) / 2 = z1 at *
          generalize hz2 : xl / 2 = z2 at *
          clear hz1 hz2
          obtain ⟨k0, k1, k2⟩ := Hh.c3
          have lk := Hh.lt
          have f0 := Hh.frozen 0
          obtain ⟨p0, p1⟩ := Hb.c2
          have lp := Hb.lt
          have Ha := Fi Hh (.int .i64 (xe + z1))
          have Hba := Qh Hb hn21 0 (.int .i64 (xe + z1))
          have Hda := Qh Hd hn31 0 (.int .i64 (xe + z1))
          have Hra := Qh Hr hn41 0 (.int .i64 (xe + z1))
          have Ea := HE.setCell (p := ⟨b1, 0, none⟩) hbr1 (.int .i64 (xe + z1))
          go_upto_region 16 with (fail)
          generalize World.setCell _ _ _ = wa at *
          clear k0 k1 k2 lk f0 p0 p1 lp Hh HE Hb Hd Hr Hp
          obtain ⟨k0, k1, k2⟩ := Ha.c3
          have lk := Ha.lt
          have f0 := Ha.frozen 1
          have Hb' := Fj Ha (.int .i64 (xr + z2))
          have Hbb := Qh Hba hn21 1 (.int .i64 (xr + z2))
          have Hdb := Qh Hda hn31 1 (.int .i64 (xr + z2))
          have Hrb := Qh Hra hn41 1 (.int .i64 (xr + z2))
          have Eb := Ea.setCell (p := ⟨b1, 1, none⟩) hbr1 (.int .i64 (xr + z2))
          go_upto_region 17 with (fail)
          generalize World.setCell _ _ _ = wb at *
          clear k0 k1 k2 lk f0 Ha Hba Hda Hra Ea
          obtain ⟨k0, k1, k2⟩ := Hb'.c3
          have lk := Hb'.lt
          have f0 := Hb'.frozen 2
          have Hc' := Fk Hb' (.int .i64 zl)
          have Hbc := Qh Hbb hn21 2 (.int .i64 zl)
          have Hdc := Qh Hdb hn31 2 (.int .i64 zl)
          have Hrc := Qh Hrb hn41 2 (.int .i64 zl)
          have Ec := Eb.setCell (p := ⟨b1, 2, none⟩) hbr1 (.int .i64 zl)
          go_upto_region 18 with (fail)
          generalize World.setCell _ _ _ = wc at *
          clear k0 k1 k2 lk f0 Hb' Hbb Hdb Hrb Eb v1 v2 v3 v4' v5 v6 v7 hb0 hb1
          have NG := fun w => NH ⟨xe + z1, xr + z2, zl⟩ w
          have hst2 : Hid (U9 b d g = ⟨xe + z1, xr + z2, zl⟩) := hst
          obtain ⟨k0, k1, k2⟩ := Hc'.c3
          have lk := Hc'.lt
          cases hgk : Jw.ok ⟨xe + z1, xr + z2, zl⟩
          ·simp only [hgk] at NG
           have hr := hV'.out
           rw [hst2.out, hgk, if_neg (by decide)] at hr
           subst hr
           clear hV' hst hst2 hgk NH
           go_upto_region 19 with (go_at_call 85; (with_reducible refine Calls.mono (NG _) ?_); rintro e w6 ⟨rfl, h6⟩)
           have HE := Ec.trans h6
           have Hr := Hrc.ext h6
           have y0 := Hr.frozen 0
           have y1 := Hr.frozen 1
           have y2 := Hr.frozen 2
           obtain ⟨x0, x1, x2⟩ := Hr.c3
           have lx := Hr.lt
           have R3 := Un Hr (.int .i64 0) (.int .i64 0) (.int .i64 0)
           have EF := Uk HE hbr (.int .i64 0) (.int .i64 0) (.int .i64 0)
           obtain ⟨r0, r1, r2⟩ := R3.c3
           go_wp2
           refine bodyPost_ret (v := .tuple #[.agg #[.int .i64 0, .int .i64 0, .int .i64 0], .int .i64 6]) (by simp [results, Tryz.results43, go_sem, r0, r1, r2]) rfl ⟨rfl, EF⟩
          ·simp only [hgk] at NG
           have hr := hV'.out
           rw [hst2.out, hgk, if_pos rfl, ← hm2] at hr
           replace hr := Lib.hid hr
           replace hgk := Lib.hid hgk
           clear hV' hst hst2 NH hm2
           go_wp2_with (go_at_call 85; (with_reducible refine Calls.mono (NG _) ?_); rintro e w6 ⟨rfl, h6⟩)
           exact ⟨⟨k + 1, by omega, by go_num, ⟨xe + z1, xr + z2, zl⟩, hgk, Ec.trans h6, Hc'.ext h6, Hbc.ext h6, Hdc.ext h6, Hrc.ext h6, hr⟩, by simp [intOf]; omega⟩
       ·obtain rfl : k = n := by omega
        have hr := hV.out
        rw [Nat.sub_self] at hr
        have hr2 : V = (g, 0) := hr
        subst hr2
        clear hV hr
        obtain ⟨k0, k1, k2⟩ := Hh.c3
        have lk := Hh.lt
        have y0 := Hr.frozen 0
        have y1 := Hr.frozen 1
        have y2 := Hr.frozen 2
        obtain ⟨x0, x1, x2⟩ := Hr.c3
        have lx := Hr.lt
        have R3 := Un Hr (.int .i64 g.e) (.int .i64 g.r) (.int .i64 g.l)
        have EF := Uk HE hbr (.int .i64 g.e) (.int .i64 g.r) (.int .i64 g.l)
        obtain ⟨r0, r1, r2⟩ := R3.c3
        go_wp2
        refine bodyPost_ret (v := .tuple #[.agg #[.int .i64 g.e, .int .i64 g.r, .int .i64 g.l], .int .i64 0]) (by simp [results, Tryz.results43, go_sem, r0, r1, r2]) rfl ⟨rfl, EF⟩
theorem sch_lo (c : Qf) (a b : Dt) : -9223372036854775808 ≤ c.schV a b := by
 by_cases h : c.in2E a b = 0
 ·have hv : c.valid = true := by
   rcases Up c a b with ⟨_, hE⟩ | ⟨hv, _, _⟩ | ⟨hv, _, _⟩
   ·rw [hE] at h; exact absurd h (by decide)
   ·exact hv
   ·exact hv
  have hh : (c.has a && c.has b) = true := by
   rcases Up c a b with ⟨_, hE⟩ | ⟨_, _, hE⟩ | ⟨_, hh, _⟩
   ·rw [hE] at h; exact absurd h (by decide)
   ·rw [hE] at h; exact absurd h (by decide)
   ·exact hh
  obtain ⟨h1, h2⟩ := Bool.and_eq_true_iff.1 hh
  rw [Kn hv h1 h2]
  have := Uc hv h1
  have := Uc hv h2
  omega
 ·unfold Qf.schV; rw [if_neg h]; decide
theorem sch_hi (c : Qf) (a b : Dt) : c.schV a b ≤ 9223372036854775807 := by
 by_cases h : c.in2E a b = 0
 ·have hv : c.valid = true := by
   rcases Up c a b with ⟨_, hE⟩ | ⟨hv, _, _⟩ | ⟨hv, _, _⟩
   ·rw [hE] at h; exact absurd h (by decide)
   ·exact hv
   ·exact hv
  have hh : (c.has a && c.has b) = true := by
   rcases Up c a b with ⟨_, hE⟩ | ⟨_, _, hE⟩ | ⟨_, hh, _⟩
   ·rw [hE] at h; exact absurd h (by decide)
   ·rw [hE] at h; exact absurd h (by decide)
   ·exact hh
  obtain ⟨h1, h2⟩ := Bool.and_eq_true_iff.1 hh
  rw [Kn hv h1 h2]
  have := Uc hv h1
  have := Uc hv h2
  omega
 ·unfold Qf.schV; rw [if_neg h]; decide
theorem M5 (A A' : Option Addr) (ca cb : Nat) (c : Qf) (l : Ln) (hr : l.r.In) (X : Db) (hX : X.In) (fr tu : Dt) (bt bd bl bb bf be : Nat) (v0 w : World) (hv0 : Qa v0 w) (C : Q0 v0 A ca A' cb c) (Z : Zv v0) (ht : Qb w bt 153 #[.func (.func 105) #[] #[.pointer (some ⟨be, 0, none⟩)]]) (hd : Qb w bd 85 #[.int .i64 X.p.n, .int .i64 X.p.d, .int .i64 X.i.n, .int .i64 X.i.d, .int .i64 X.s.n, .int .i64 X.s.d]) (hl : Qb w bl 80 #[.int .i64 l.p.n, .int .i64 l.p.d, .int .i64 l.r.n, .int .i64 l.r.d, .int .i64 l.f.y, .int .i64 l.f.m, .bool l.f.s, .int .i64 l.f.d]) (hb : Qb w bb 61 #[.slice A c.nk ca, .slice A' c.ny cb]) (hf : Qb w bf 27 #[.int .i64 fr.y, .int .i64 fr.m, .bool fr.s, .int .i64 fr.d]) (he : Qb w be 33 #[.int .i64 0]) (g3 : v0.heap.size ≤ be) (n1 : bd ≠ bf) (n2 : bd ≠ be) (n3 : bf ≠ be) (n4 : bt ∉ [bd, bf, be]) (n5 : bl ∉ [bd, bf, be]) (n6 : bb ∉ [bd, bf, be]) :
  Calls Tryz.prog 106 #[.agg #[.int .i64 tu.y, .int .i64 tu.m, .bool tu.s, .int .i64 tu.d], .pointer (some ⟨bt, 0, none⟩), .pointer (some ⟨bd, 0, none⟩), .pointer (some ⟨bl, 0, none⟩), .pointer (some ⟨bb, 0, none⟩), .pointer (some ⟨bf, 0, none⟩), .pointer (some ⟨be, 0, none⟩)] w fun e w' => e = .returned (.tuple #[]) ∧ Qu [bd, bf, be] w w' ∧ Qb w' bf 27 #[.int .i64 tu.y, .int .i64 tu.m, .bool tu.s, .int .i64 tu.d] ∧ Qb w' be 33 #[.int .i64 (Zc c l.r X fr tu).2] ∧ ∃ Y : Db, Y.In ∧ Qb w' bd 85 #[.int .i64 Y.p.n, .int .i64 Y.p.d, .int .i64 Y.i.n, .int .i64 Y.i.d, .int .i64 Y.s.n, .int .i64 Y.s.d] ∧ ((Zc c l.r X fr tu).2 = 0 → Y = (Zc c l.r X fr tu).1) := by
 have NI := fun w z => Fp X.p l.r (c.schV fr tu) hX.p hr (sch_lo c fr tu) (sch_hi c fr tu) w z
 have HV : Hid (Zc c l.r X fr tu = if (Zx X.p l.r (c.schV fr tu)).2 ≠ 0 then (X, (Zx X.p l.r (c.schV fr tu)).2) else if (Q3 X.i (Zx X.p l.r (c.schV fr tu)).1).2 ≠ 0 then (X, (Q3 X.i (Zx X.p l.r (c.schV fr tu)).1).2) else (⟨X.p, (Q3 X.i (Zx X.p l.r (c.schV fr tu)).1).1, X.s⟩, 0)) := rfl
 have hMi := Ib X.p l.r (c.schV fr tu)
 generalize Zc c l.r X fr tu = V at *
 generalize Zx X.p l.r (c.schV fr tu) = M at *
 obtain ⟨⟨Mn, Md⟩, Me⟩ := M
 simp only [] at HV NI hMi
 go_enter Tryz.func106, Tryz.ntmps106
 go_upto_region 1 with (fail)
 obtain ⟨v, hv⟩ := Qg (w.alloc (.cells #[.int .i64 tu.y, .int .i64 tu.m, .bool tu.s, .int .i64 tu.d] 27))
 rw [← hv]
 have E : Qa w v := by rw [hv]; exact (Qa.refl _).alloc _
 have H7 : Qb v w.heap.size 27 #[.int .i64 tu.y, .int .i64 tu.m, .bool tu.s, .int .i64 tu.d] := by rw [hv]; exact (Qb.new _ _ _)
 clear hv
 obtain ⟨b1, hb1⟩ := Qg (w.heap.size)
 rw [← hb1] at H7 ⊢
 have hbr : w.heap.size ≤ b1 := by omega
 clear hb1
 have n7 : b1 ≠ be := by have := he.lt; omega
 have n8 : b1 ≠ bd := by have := hd.lt; omega
 have HE := hv0.trans E
 have HO : Qu [bd, bf, be] w v := Qu.of_ext E
 have Ht := ht.ext E
 have Hd := hd.ext E
 have Hl := hl.ext E
 have Hb := hb.ext E
 have Hf := hf.ext E
 have He := he.ext E
 clear E hv0
 apply Ug (S := fun w' b => Qa v0 w' ∧ w.heap.size ≤ b ∧ Qu [bd, bf, be] w w' ∧ Qb w' bt 153 #[.func (.func 105) #[] #[.pointer (some ⟨be, 0, none⟩)]] ∧ Qb w' bd 85 #[.int .i64 X.p.n, .int .i64 X.p.d, .int .i64 X.i.n, .int .i64 X.i.d, .int .i64 X.s.n, .int .i64 X.s.d] ∧ Qb w' bf 27 #[.int .i64 fr.y, .int .i64 fr.m, .bool fr.s, .int .i64 fr.d] ∧ Qb w' b1 27 #[.int .i64 tu.y, .int .i64 tu.m, .bool tu.s, .int .i64 tu.d] ∧ Qb w' be 33 #[.int .i64 Me] ∧ Qb w' b 73 #[.int .i64 Mn, .int .i64 Md] ∧ b1 ≠ b)
 ·refine Zk 15 [14] (fun x => Qa v0 x ∧ Qb x bt 153 #[.func (.func 105) #[] #[.pointer (some ⟨be, 0, none⟩)]] ∧ Qb x bd 85 #[.int .i64 X.p.n, .int .i64 X.p.d, .int .i64 X.i.n, .int .i64 X.i.d, .int .i64 X.s.n, .int .i64 X.s.d] ∧ Qb x bl 80 #[.int .i64 l.p.n, .int .i64 l.p.d, .int .i64 l.r.n, .int .i64 l.r.d, .int .i64 l.f.y, .int .i64 l.f.m, .bool l.f.s, .int .i64 l.f.d] ∧ Qb x bb 61 #[.slice A c.nk ca, .slice A' c.ny cb] ∧ Qb x bf 27 #[.int .i64 fr.y, .int .i64 fr.m, .bool fr.s, .int .i64 fr.d] ∧ Qb x b1 27 #[.int .i64 tu.y, .int .i64 tu.m, .bool tu.s, .int .i64 tu.d]) Qo rfl ?_
  intro vz hvz
  replace HO := HO.trans (Qu.of_ext hvz)
  replace HE := HE.trans hvz
  replace Ht := Ht.ext hvz
  replace Hd := Hd.ext hvz
  replace Hl := Hl.ext hvz
  replace Hb := Hb.ext hvz
  replace Hf := Hf.ext hvz
  replace H7 := H7.ext hvz
  replace He := He.ext hvz
  try replace Q := Q.ext hvz
  clear hvz
  refine Qp (g := 7) [0, 1, 2, 3, 4, 5, 6, 7] [_, _, _, _, _, _, _, _] ⟨rfl, rfl, rfl, rfl, rfl, rfl, rfl, rfl, trivial⟩ (by kernel_rfl) (by kernel_rfl) ⟨HE, Ht, Hd, Hl, Hb, Hf, H7⟩ ?_
  simp only [Qc, Qd, Qe]
  apply Exists.intro
  refine ⟨fun u hu => ?_, ?_⟩
  ·have t0 := hu.2.1.c1
   have lt := hu.2.1.lt
   obtain ⟨d0, d1, d2, d3, d4, d5⟩ := hu.2.2.1.c6
   have ld := hu.2.2.1.lt
   obtain ⟨p0, p1, p2, p3, p4, p5, p6, p7⟩ := hu.2.2.2.1.c8
   have lp := hu.2.2.2.1.lt
   obtain ⟨k0, k1⟩ := hu.2.2.2.2.1.c2
   have lk := hu.2.2.2.2.1.lt
   obtain ⟨f0, f1, f2, f3⟩ := hu.2.2.2.2.2.1.c4
   have lf := hu.2.2.2.2.2.1.lt
   obtain ⟨s0, s1, s2, s3⟩ := hu.2.2.2.2.2.2.c4
   have ls := hu.2.2.2.2.2.2.lt
   repeat (first | go_big_quiet_skip | (go_big_quiet_want; go_big_quiet_op; go_big_quiet_on))
   refine wpQuiet_nil ?_
   rfl
  refine Zm 8 13 rfl rfl (by kernel_rfl) ?_ ?_
  ·simp only [Qc, Qd, Qe]
   go_wp2_with (go_at_call 84; (with_reducible refine Calls.mono (Kv A A' ca cb c fr tu _ (C.ext HE)) ?_); rintro e wa ⟨rfl, h4⟩)
   replace HO := HO.trans (Qu.of_ext h4)
   replace HE := HE.trans h4
   replace Ht := Ht.ext h4
   replace Hd := Hd.ext h4
   replace Hl := Hl.ext h4
   replace Hb := Hb.ext h4
   replace Hf := Hf.ext h4
   replace H7 := H7.ext h4
   replace He := He.ext h4
   try replace Q := Q.ext h4
   clear h4
   refine Qi ⟨HE, Ht, Hd, Hl, Hb, Hf, H7⟩ ?_
   refine Zm 9 13 rfl rfl (by kernel_rfl) ?_ ?_
   ·simp only [Qc, Qd, Qe]
    go_wp2_with (go_at_call 34; (with_reducible refine Calls.mono (NI _ (Z.ext HE)) ?_); rintro e wc ⟨rfl, h4⟩)
    replace HO := HO.trans (Qu.of_ext h4)
    replace HE := HE.trans h4
    replace Ht := Ht.ext h4
    replace Hd := Hd.ext h4
    replace Hl := Hl.ext h4
    replace Hb := Hb.ext h4
    replace Hf := Hf.ext h4
    replace H7 := H7.ext h4
    replace He := He.ext h4
    try replace Q := Q.ext h4
    clear h4
    refine Qi ⟨HE, Ht, Hd, Hl, Hb, Hf, H7⟩ ?_
    refine Qp (g := 3) [10, 11] [_, _] ⟨rfl, rfl, trivial⟩ (by kernel_rfl) (by kernel_rfl) ⟨HE, Ht, Hd, Hl, Hb, Hf, H7⟩ ?_
    simp only [Qc, Qd, Qe]
    apply Exists.intro
    refine ⟨fun u hu => ?_, ?_⟩
    ·have t0 := hu.2.1.c1
     have lt := hu.2.1.lt
     obtain ⟨d0, d1, d2, d3, d4, d5⟩ := hu.2.2.1.c6
     have ld := hu.2.2.1.lt
     obtain ⟨p0, p1, p2, p3, p4, p5, p6, p7⟩ := hu.2.2.2.1.c8
     have lp := hu.2.2.2.1.lt
     obtain ⟨k0, k1⟩ := hu.2.2.2.2.1.c2
     have lk := hu.2.2.2.2.1.lt
     obtain ⟨f0, f1, f2, f3⟩ := hu.2.2.2.2.2.1.c4
     have lf := hu.2.2.2.2.2.1.lt
     obtain ⟨s0, s1, s2, s3⟩ := hu.2.2.2.2.2.2.c4
     have ls := hu.2.2.2.2.2.2.lt
     repeat (first | go_big_quiet_skip | (go_big_quiet_want; go_big_quiet_op; go_big_quiet_on))
     refine wpQuiet_nil ?_
     rfl
    refine Zm 12 13 rfl rfl (by kernel_rfl) ?_ ?_
    ·simp only [Qc, Qd, Qe]
     go_wp2_with (first | (go_at_call 105; (with_reducible refine Calls.mono (Yw ⟨Mn, Md⟩ Me 0 be _ He) ?_); rintro e we ⟨rfl, h5, He2⟩) | (go_at_fn 105; (with_reducible refine Calls.mono (Yw ⟨Mn, Md⟩ Me 0 be _ He) ?_); rintro e we ⟨rfl, h5, He2⟩))
     try rw [if_pos rfl] at He2
     have h5' := h5.mono (T := [bd, bf, be]) (fun k hk => by rw [List.mem_singleton.1 hk]; simp)
     replace HO := HO.trans h5'
     replace HE := h5.ext HE (fun k hk => by rw [List.mem_singleton.1 hk]; exact g3)
     replace Ht := h5.held Ht (by simp only [List.mem_singleton]; exact fun e => n4 (by rw [e]; simp))
     replace Hd := h5.held Hd (by simp only [List.mem_singleton]; exact n2)
     replace Hl := h5.held Hl (by simp only [List.mem_singleton]; exact fun e => n5 (by rw [e]; simp))
     replace Hb := h5.held Hb (by simp only [List.mem_singleton]; exact fun e => n6 (by rw [e]; simp))
     replace Hf := h5.held Hf (by simp only [List.mem_singleton]; exact n3)
     replace H7 := h5.held H7 (by simp only [List.mem_singleton]; exact n7)
     try replace Q := h5.held Q (by simp only [List.mem_singleton]; have := he.lt; omega)
     have He := He2
     clear h5 h5' He2
     refine Qi ⟨HE, Ht, Hd, Hl, Hb, Hf, H7⟩ ?_
     refine Qj 13 rfl (by kernel_rfl) ?_
     simp only [Qc, Qd, Qe]
     go_wp2
     obtain ⟨bq, hbq, Q, HE', hge⟩ := Yy HE 73 #[.int .i64 0, .int .i64 0]
     rw [← hbq]
     have hb1q : b1 ≠ bq := by have := H7.lt; omega
     have hwq : w.heap.size ≤ bq := by have := HO.size; omega
     have HO' := HO.trans (Qu.of_ext (S := [bd, bf, be]) ((Qa.refl _).alloc (.cells #[.int .i64 0, .int .i64 0] 73)))
     clear hbq
     replace Ht := Ht.alloc (.cells #[.int .i64 0, .int .i64 0] 73)
     replace Hd := Hd.alloc (.cells #[.int .i64 0, .int .i64 0] 73)
     replace Hl := Hl.alloc (.cells #[.int .i64 0, .int .i64 0] 73)
     replace Hb := Hb.alloc (.cells #[.int .i64 0, .int .i64 0] 73)
     replace Hf := Hf.alloc (.cells #[.int .i64 0, .int .i64 0] 73)
     replace H7 := H7.alloc (.cells #[.int .i64 0, .int .i64 0] 73)
     replace He := He.alloc (.cells #[.int .i64 0, .int .i64 0] 73)
     replace HE := HE'
     replace HO := HO'
     clear HE' HO'
     refine Qi ⟨HE, Ht, Hd, Hl, Hb, Hf, H7⟩ ?_
     refine Qm 14 rfl (by kernel_rfl) ?_
     simp only [Qc, Qd, Qe]
     have z0 := Q.frozen 0
     have z1 := Q.frozen 1
     obtain ⟨x0, x1⟩ := Q.c2
     have lx := Q.lt
     have Q2 := Qk Q (.int .i64 Mn) (.int .i64 Md)
     have hbq2 : ∀ b, b < w.heap.size → b ≠ bq := fun b h => by omega
     have Ht' := Qh (Qh Ht (hbq2 _ ht.lt) 0 (.int .i64 Mn)) (hbq2 _ ht.lt) 1 (.int .i64 Md)
     have Hd' := Qh (Qh Hd (hbq2 _ hd.lt) 0 (.int .i64 Mn)) (hbq2 _ hd.lt) 1 (.int .i64 Md)
     have Hl' := Qh (Qh Hl (hbq2 _ hl.lt) 0 (.int .i64 Mn)) (hbq2 _ hl.lt) 1 (.int .i64 Md)
     have Hb' := Qh (Qh Hb (hbq2 _ hb.lt) 0 (.int .i64 Mn)) (hbq2 _ hb.lt) 1 (.int .i64 Md)
     have Hf' := Qh (Qh Hf (hbq2 _ hf.lt) 0 (.int .i64 Mn)) (hbq2 _ hf.lt) 1 (.int .i64 Md)
     have He' := Qh (Qh He (hbq2 _ he.lt) 0 (.int .i64 Mn)) (hbq2 _ he.lt) 1 (.int .i64 Md)
     have H7' := Qh (Qh H7 hb1q 0 (.int .i64 Mn)) hb1q 1 (.int .i64 Md)
     have HO2 := HO.far hwq 0 1 (.int .i64 Mn) (.int .i64 Md)
     have HE2 := (HE.setCell (p := ⟨bq, 0, none⟩) hge (.int .i64 Mn)).setCell (p := ⟨bq, 1, none⟩) hge (.int .i64 Md)
     go_wp2
     refine Ql ?_
     refine Qt (by kernel_rfl) ?_
     exact Js bq ⟨HE2, hwq, HO2, Ht', Hd', Hf', H7', He', Q2, hb1q⟩ rfl
    ·simp only [Qc, Qd, Qe]
     go_wp2
     obtain ⟨bq, hbq, Q, HE', hge⟩ := Yy HE 73 #[.int .i64 0, .int .i64 0]
     rw [← hbq]
     have hb1q : b1 ≠ bq := by have := H7.lt; omega
     have hwq : w.heap.size ≤ bq := by have := HO.size; omega
     have HO' := HO.trans (Qu.of_ext (S := [bd, bf, be]) ((Qa.refl _).alloc (.cells #[.int .i64 0, .int .i64 0] 73)))
     clear hbq
     replace Ht := Ht.alloc (.cells #[.int .i64 0, .int .i64 0] 73)
     replace Hd := Hd.alloc (.cells #[.int .i64 0, .int .i64 0] 73)
     replace Hl := Hl.alloc (.cells #[.int .i64 0, .int .i64 0] 73)
     replace Hb := Hb.alloc (.cells #[.int .i64 0, .int .i64 0] 73)
     replace Hf := Hf.alloc (.cells #[.int .i64 0, .int .i64 0] 73)
     replace H7 := H7.alloc (.cells #[.int .i64 0, .int .i64 0] 73)
     replace He := He.alloc (.cells #[.int .i64 0, .int .i64 0] 73)
     replace HE := HE'
     replace HO := HO'
     clear HE' HO'
     refine Qi ⟨HE, Ht, Hd, Hl, Hb, Hf, H7⟩ ?_
     refine Qj 12 rfl (by kernel_rfl) ?_
     simp only [Qc, Qd, Qe]
     go_wp2_with (first | (go_at_call 105; (with_reducible refine Calls.mono (Yw ⟨Mn, Md⟩ Me 0 be _ He) ?_); rintro e we ⟨rfl, h5, He2⟩) | (go_at_fn 105; (with_reducible refine Calls.mono (Yw ⟨Mn, Md⟩ Me 0 be _ He) ?_); rintro e we ⟨rfl, h5, He2⟩))
     try rw [if_pos rfl] at He2
     have h5' := h5.mono (T := [bd, bf, be]) (fun k hk => by rw [List.mem_singleton.1 hk]; simp)
     replace HO := HO.trans h5'
     replace HE := h5.ext HE (fun k hk => by rw [List.mem_singleton.1 hk]; exact g3)
     replace Ht := h5.held Ht (by simp only [List.mem_singleton]; exact fun e => n4 (by rw [e]; simp))
     replace Hd := h5.held Hd (by simp only [List.mem_singleton]; exact n2)
     replace Hl := h5.held Hl (by simp only [List.mem_singleton]; exact fun e => n5 (by rw [e]; simp))
     replace Hb := h5.held Hb (by simp only [List.mem_singleton]; exact fun e => n6 (by rw [e]; simp))
     replace Hf := h5.held Hf (by simp only [List.mem_singleton]; exact n3)
     replace H7 := h5.held H7 (by simp only [List.mem_singleton]; exact n7)
     try replace Q := h5.held Q (by simp only [List.mem_singleton]; have := he.lt; omega)
     have He := He2
     clear h5 h5' He2
     refine Qi ⟨HE, Ht, Hd, Hl, Hb, Hf, H7⟩ ?_
     refine Qm 14 rfl (by kernel_rfl) ?_
     simp only [Qc, Qd, Qe]
     have z0 := Q.frozen 0
     have z1 := Q.frozen 1
     obtain ⟨x0, x1⟩ := Q.c2
     have lx := Q.lt
     have Q2 := Qk Q (.int .i64 Mn) (.int .i64 Md)
     have hbq2 : ∀ b, b < w.heap.size → b ≠ bq := fun b h => by omega
     have Ht' := Qh (Qh Ht (hbq2 _ ht.lt) 0 (.int .i64 Mn)) (hbq2 _ ht.lt) 1 (.int .i64 Md)
     have Hd' := Qh (Qh Hd (hbq2 _ hd.lt) 0 (.int .i64 Mn)) (hbq2 _ hd.lt) 1 (.int .i64 Md)
     have Hl' := Qh (Qh Hl (hbq2 _ hl.lt) 0 (.int .i64 Mn)) (hbq2 _ hl.lt) 1 (.int .i64 Md)
     have Hb' := Qh (Qh Hb (hbq2 _ hb.lt) 0 (.int .i64 Mn)) (hbq2 _ hb.lt) 1 (.int .i64 Md)
     have Hf' := Qh (Qh Hf (hbq2 _ hf.lt) 0 (.int .i64 Mn)) (hbq2 _ hf.lt) 1 (.int .i64 Md)
     have He' := Qh (Qh He (hbq2 _ he.lt) 0 (.int .i64 Mn)) (hbq2 _ he.lt) 1 (.int .i64 Md)
     have H7' := Qh (Qh H7 hb1q 0 (.int .i64 Mn)) hb1q 1 (.int .i64 Md)
     have HO2 := HO.far hwq 0 1 (.int .i64 Mn) (.int .i64 Md)
     have HE2 := (HE.setCell (p := ⟨bq, 0, none⟩) hge (.int .i64 Mn)).setCell (p := ⟨bq, 1, none⟩) hge (.int .i64 Md)
     go_wp2
     refine Ql ?_
     refine Qt (by kernel_rfl) ?_
     exact Js bq ⟨HE2, hwq, HO2, Ht', Hd', Hf', H7', He', Q2, hb1q⟩ rfl
   ·simp only [Qc, Qd, Qe]
    go_wp2
    obtain ⟨bq, hbq, Q, HE', hge⟩ := Yy HE 73 #[.int .i64 0, .int .i64 0]
    rw [← hbq]
    have hb1q : b1 ≠ bq := by have := H7.lt; omega
    have hwq : w.heap.size ≤ bq := by have := HO.size; omega
    have HO' := HO.trans (Qu.of_ext (S := [bd, bf, be]) ((Qa.refl _).alloc (.cells #[.int .i64 0, .int .i64 0] 73)))
    clear hbq
    replace Ht := Ht.alloc (.cells #[.int .i64 0, .int .i64 0] 73)
    replace Hd := Hd.alloc (.cells #[.int .i64 0, .int .i64 0] 73)
    replace Hl := Hl.alloc (.cells #[.int .i64 0, .int .i64 0] 73)
    replace Hb := Hb.alloc (.cells #[.int .i64 0, .int .i64 0] 73)
    replace Hf := Hf.alloc (.cells #[.int .i64 0, .int .i64 0] 73)
    replace H7 := H7.alloc (.cells #[.int .i64 0, .int .i64 0] 73)
    replace He := He.alloc (.cells #[.int .i64 0, .int .i64 0] 73)
    replace HE := HE'
    replace HO := HO'
    clear HE' HO'
    refine Qi ⟨HE, Ht, Hd, Hl, Hb, Hf, H7⟩ ?_
    refine Qj 9 rfl (by kernel_rfl) ?_
    simp only [Qc, Qd, Qe]
    go_wp2_with (go_at_call 34; (with_reducible refine Calls.mono (NI _ (Z.ext HE)) ?_); rintro e wc ⟨rfl, h4⟩)
    replace HO := HO.trans (Qu.of_ext h4)
    replace HE := HE.trans h4
    replace Ht := Ht.ext h4
    replace Hd := Hd.ext h4
    replace Hl := Hl.ext h4
    replace Hb := Hb.ext h4
    replace Hf := Hf.ext h4
    replace H7 := H7.ext h4
    replace He := He.ext h4
    try replace Q := Q.ext h4
    clear h4
    refine Qi ⟨HE, Ht, Hd, Hl, Hb, Hf, H7⟩ ?_
    refine Qp (g := 2) [10, 11] [_, _] ⟨rfl, rfl, trivial⟩ (by kernel_rfl) (by kernel_rfl) ⟨HE, Ht, Hd, Hl, Hb, Hf, H7⟩ ?_
    simp only [Qc, Qd, Qe]
    apply Exists.intro
    refine ⟨fun u hu => ?_, ?_⟩
    ·have t0 := hu.2.1.c1
     have lt := hu.2.1.lt
     obtain ⟨d0, d1, d2, d3, d4, d5⟩ := hu.2.2.1.c6
     have ld := hu.2.2.1.lt
     obtain ⟨p0, p1, p2, p3, p4, p5, p6, p7⟩ := hu.2.2.2.1.c8
     have lp := hu.2.2.2.1.lt
     obtain ⟨k0, k1⟩ := hu.2.2.2.2.1.c2
     have lk := hu.2.2.2.2.1.lt
     obtain ⟨f0, f1, f2, f3⟩ := hu.2.2.2.2.2.1.c4
     have lf := hu.2.2.2.2.2.1.lt
     obtain ⟨s0, s1, s2, s3⟩ := hu.2.2.2.2.2.2.c4
     have ls := hu.2.2.2.2.2.2.lt
     repeat (first | go_big_quiet_skip | (go_big_quiet_want; go_big_quiet_op; go_big_quiet_on))
     refine wpQuiet_nil ?_
     rfl
    refine Qj 12 rfl (by kernel_rfl) ?_
    simp only [Qc, Qd, Qe]
    go_wp2_with (first | (go_at_call 105; (with_reducible refine Calls.mono (Yw ⟨Mn, Md⟩ Me 0 be _ He) ?_); rintro e we ⟨rfl, h5, He2⟩) | (go_at_fn 105; (with_reducible refine Calls.mono (Yw ⟨Mn, Md⟩ Me 0 be _ He) ?_); rintro e we ⟨rfl, h5, He2⟩))
    try rw [if_pos rfl] at He2
    have h5' := h5.mono (T := [bd, bf, be]) (fun k hk => by rw [List.mem_singleton.1 hk]; simp)
    replace HO := HO.trans h5'
    replace HE := h5.ext HE (fun k hk => by rw [List.mem_singleton.1 hk]; exact g3)
    replace Ht := h5.held Ht (by simp only [List.mem_singleton]; exact fun e => n4 (by rw [e]; simp))
    replace Hd := h5.held Hd (by simp only [List.mem_singleton]; exact n2)
    replace Hl := h5.held Hl (by simp only [List.mem_singleton]; exact fun e => n5 (by rw [e]; simp))
    replace Hb := h5.held Hb (by simp only [List.mem_singleton]; exact fun e => n6 (by rw [e]; simp))
    replace Hf := h5.held Hf (by simp only [List.mem_singleton]; exact n3)
    replace H7 := h5.held H7 (by simp only [List.mem_singleton]; exact n7)
    try replace Q := h5.held Q (by simp only [List.mem_singleton]; have := he.lt; omega)
    have He := He2
    clear h5 h5' He2
    refine Qi ⟨HE, Ht, Hd, Hl, Hb, Hf, H7⟩ ?_
    refine Qm 14 rfl (by kernel_rfl) ?_
    simp only [Qc, Qd, Qe]
    have z0 := Q.frozen 0
    have z1 := Q.frozen 1
    obtain ⟨x0, x1⟩ := Q.c2
    have lx := Q.lt
    have Q2 := Qk Q (.int .i64 Mn) (.int .i64 Md)
    have hbq2 : ∀ b, b < w.heap.size → b ≠ bq := fun b h => by omega
    have Ht' := Qh (Qh Ht (hbq2 _ ht.lt) 0 (.int .i64 Mn)) (hbq2 _ ht.lt) 1 (.int .i64 Md)
    have Hd' := Qh (Qh Hd (hbq2 _ hd.lt) 0 (.int .i64 Mn)) (hbq2 _ hd.lt) 1 (.int .i64 Md)
    have Hl' := Qh (Qh Hl (hbq2 _ hl.lt) 0 (.int .i64 Mn)) (hbq2 _ hl.lt) 1 (.int .i64 Md)
    have Hb' := Qh (Qh Hb (hbq2 _ hb.lt) 0 (.int .i64 Mn)) (hbq2 _ hb.lt) 1 (.int .i64 Md)
    have Hf' := Qh (Qh Hf (hbq2 _ hf.lt) 0 (.int .i64 Mn)) (hbq2 _ hf.lt) 1 (.int .i64 Md)
    have He' := Qh (Qh He (hbq2 _ he.lt) 0 (.int .i64 Mn)) (hbq2 _ he.lt) 1 (.int .i64 Md)
    have H7' := Qh (Qh H7 hb1q 0 (.int .i64 Mn)) hb1q 1 (.int .i64 Md)
    have HO2 := HO.far hwq 0 1 (.int .i64 Mn) (.int .i64 Md)
    have HE2 := (HE.setCell (p := ⟨bq, 0, none⟩) hge (.int .i64 Mn)).setCell (p := ⟨bq, 1, none⟩) hge (.int .i64 Md)
    go_wp2
    refine Ql ?_
    refine Qt (by kernel_rfl) ?_
    exact Js bq ⟨HE2, hwq, HO2, Ht', Hd', Hf', H7', He', Q2, hb1q⟩ rfl
  ·simp only [Qc, Qd, Qe]
   go_wp2
   obtain ⟨bq, hbq, Q, HE', hge⟩ := Yy HE 73 #[.int .i64 0, .int .i64 0]
   rw [← hbq]
   have hb1q : b1 ≠ bq := by have := H7.lt; omega
   have hwq : w.heap.size ≤ bq := by have := HO.size; omega
   have HO' := HO.trans (Qu.of_ext (S := [bd, bf, be]) ((Qa.refl _).alloc (.cells #[.int .i64 0, .int .i64 0] 73)))
   clear hbq
   replace Ht := Ht.alloc (.cells #[.int .i64 0, .int .i64 0] 73)
   replace Hd := Hd.alloc (.cells #[.int .i64 0, .int .i64 0] 73)
   replace Hl := Hl.alloc (.cells #[.int .i64 0, .int .i64 0] 73)
   replace Hb := Hb.alloc (.cells #[.int .i64 0, .int .i64 0] 73)
   replace Hf := Hf.alloc (.cells #[.int .i64 0, .int .i64 0] 73)
   replace H7 := H7.alloc (.cells #[.int .i64 0, .int .i64 0] 73)
   replace He := He.alloc (.cells #[.int .i64 0, .int .i64 0] 73)
   replace HE := HE'
   replace HO := HO'
   clear HE' HO'
   refine Qi ⟨HE, Ht, Hd, Hl, Hb, Hf, H7⟩ ?_
   refine Qj 8 rfl (by kernel_rfl) ?_
   simp only [Qc, Qd, Qe]
   go_wp2_with (go_at_call 84; (with_reducible refine Calls.mono (Kv A A' ca cb c fr tu _ (C.ext HE)) ?_); rintro e wa ⟨rfl, h4⟩)
   replace HO := HO.trans (Qu.of_ext h4)
   replace HE := HE.trans h4
   replace Ht := Ht.ext h4
   replace Hd := Hd.ext h4
   replace Hl := Hl.ext h4
   replace Hb := Hb.ext h4
   replace Hf := Hf.ext h4
   replace H7 := H7.ext h4
   replace He := He.ext h4
   try replace Q := Q.ext h4
   clear h4
   refine Qi ⟨HE, Ht, Hd, Hl, Hb, Hf, H7⟩ ?_
   refine Qj 9 rfl (by kernel_rfl) ?_
   simp only [Qc, Qd, Qe]
   go_wp2_with (go_at_call 34; (with_reducible refine Calls.mono (NI _ (Z.ext HE)) ?_); rintro e wc ⟨rfl, h4⟩)
   replace HO := HO.trans (Qu.of_ext h4)
   replace HE := HE.trans h4
   replace Ht := Ht.ext h4
   replace Hd := Hd.ext h4
   replace Hl := Hl.ext h4
   replace Hb := Hb.ext h4
   replace Hf := Hf.ext h4
   replace H7 := H7.ext h4
   replace He := He.ext h4
   try replace Q := Q.ext h4
   clear h4
   refine Qi ⟨HE, Ht, Hd, Hl, Hb, Hf, H7⟩ ?_
   refine Qp (g := 2) [10, 11] [_, _] ⟨rfl, rfl, trivial⟩ (by kernel_rfl) (by kernel_rfl) ⟨HE, Ht, Hd, Hl, Hb, Hf, H7⟩ ?_
   simp only [Qc, Qd, Qe]
   apply Exists.intro
   refine ⟨fun u hu => ?_, ?_⟩
   ·have t0 := hu.2.1.c1
    have lt := hu.2.1.lt
    obtain ⟨d0, d1, d2, d3, d4, d5⟩ := hu.2.2.1.c6
    have ld := hu.2.2.1.lt
    obtain ⟨p0, p1, p2, p3, p4, p5, p6, p7⟩ := hu.2.2.2.1.c8
    have lp := hu.2.2.2.1.lt
    obtain ⟨k0, k1⟩ := hu.2.2.2.2.1.c2
    have lk := hu.2.2.2.2.1.lt
    obtain ⟨f0, f1, f2, f3⟩ := hu.2.2.2.2.2.1.c4
    have lf := hu.2.2.2.2.2.1.lt
    obtain ⟨s0, s1, s2, s3⟩ := hu.2.2.2.2.2.2.c4
    have ls := hu.2.2.2.2.2.2.lt
    repeat (first | go_big_quiet_skip | (go_big_quiet_want; go_big_quiet_op; go_big_quiet_on))
    refine wpQuiet_nil ?_
    rfl
   refine Qj 12 rfl (by kernel_rfl) ?_
   simp only [Qc, Qd, Qe]
   go_wp2_with (first | (go_at_call 105; (with_reducible refine Calls.mono (Yw ⟨Mn, Md⟩ Me 0 be _ He) ?_); rintro e we ⟨rfl, h5, He2⟩) | (go_at_fn 105; (with_reducible refine Calls.mono (Yw ⟨Mn, Md⟩ Me 0 be _ He) ?_); rintro e we ⟨rfl, h5, He2⟩))
   try rw [if_pos rfl] at He2
   have h5' := h5.mono (T := [bd, bf, be]) (fun k hk => by rw [List.mem_singleton.1 hk]; simp)
   replace HO := HO.trans h5'
   replace HE := h5.ext HE (fun k hk => by rw [List.mem_singleton.1 hk]; exact g3)
   replace Ht := h5.held Ht (by simp only [List.mem_singleton]; exact fun e => n4 (by rw [e]; simp))
   replace Hd := h5.held Hd (by simp only [List.mem_singleton]; exact n2)
   replace Hl := h5.held Hl (by simp only [List.mem_singleton]; exact fun e => n5 (by rw [e]; simp))
   replace Hb := h5.held Hb (by simp only [List.mem_singleton]; exact fun e => n6 (by rw [e]; simp))
   replace Hf := h5.held Hf (by simp only [List.mem_singleton]; exact n3)
   replace H7 := h5.held H7 (by simp only [List.mem_singleton]; exact n7)
   try replace Q := h5.held Q (by simp only [List.mem_singleton]; have := he.lt; omega)
   have He := He2
   clear h5 h5' He2
   refine Qi ⟨HE, Ht, Hd, Hl, Hb, Hf, H7⟩ ?_
   refine Qm 14 rfl (by kernel_rfl) ?_
   simp only [Qc, Qd, Qe]
   have z0 := Q.frozen 0
   have z1 := Q.frozen 1
   obtain ⟨x0, x1⟩ := Q.c2
   have lx := Q.lt
   have Q2 := Qk Q (.int .i64 Mn) (.int .i64 Md)
   have hbq2 : ∀ b, b < w.heap.size → b ≠ bq := fun b h => by omega
   have Ht' := Qh (Qh Ht (hbq2 _ ht.lt) 0 (.int .i64 Mn)) (hbq2 _ ht.lt) 1 (.int .i64 Md)
   have Hd' := Qh (Qh Hd (hbq2 _ hd.lt) 0 (.int .i64 Mn)) (hbq2 _ hd.lt) 1 (.int .i64 Md)
   have Hl' := Qh (Qh Hl (hbq2 _ hl.lt) 0 (.int .i64 Mn)) (hbq2 _ hl.lt) 1 (.int .i64 Md)
   have Hb' := Qh (Qh Hb (hbq2 _ hb.lt) 0 (.int .i64 Mn)) (hbq2 _ hb.lt) 1 (.int .i64 Md)
   have Hf' := Qh (Qh Hf (hbq2 _ hf.lt) 0 (.int .i64 Mn)) (hbq2 _ hf.lt) 1 (.int .i64 Md)
   have He' := Qh (Qh He (hbq2 _ he.lt) 0 (.int .i64 Mn)) (hbq2 _ he.lt) 1 (.int .i64 Md)
   have H7' := Qh (Qh H7 hb1q 0 (.int .i64 Mn)) hb1q 1 (.int .i64 Md)
   have HO2 := HO.far hwq 0 1 (.int .i64 Mn) (.int .i64 Md)
   have HE2 := (HE.setCell (p := ⟨bq, 0, none⟩) hge (.int .i64 Mn)).setCell (p := ⟨bq, 1, none⟩) hge (.int .i64 Md)
   go_wp2
   refine Ql ?_
   refine Qt (by kernel_rfl) ?_
   exact Js bq ⟨HE2, hwq, HO2, Ht', Hd', Hf', H7', He', Q2, hb1q⟩ rfl
 rintro b8 w3 ⟨HE3, hw8, HO3, Ht3, Hd3, Hf3, H73, He3, Q, n9⟩
 clear HE HO Ht Hd Hf He H7 Hl Hb NI
 have HE := HE3
 have HO := HO3
 have Ht := Ht3
 have Hd := Hd3
 have Hf := Hf3
 have H7 := H73
 have He := He3
 clear HE3 HO3 Ht3 Hd3 Hf3 H73 He3
 have e0 := He.c1
 have le := He.lt
 by_cases h0 : Me = 0
 ·subst h0
  have NA := fun w z => Vy X.i ⟨Mn, Md⟩ hX.i hMi w z
  have hSi := Uj X.i ⟨Mn, Md⟩
  have hV := HV.out
  rw [if_neg (by simp)] at hV
  generalize Q3 X.i ⟨Mn, Md⟩ = S at *
  obtain ⟨⟨Sn, Sd⟩, Se⟩ := S
  have hV2 : V.2 = Se ∧ (Se = 0 → V.1 = ⟨X.p, ⟨Sn, Sd⟩, X.s⟩) := by
   rw [hV]
   by_cases hs : Se = 0
   ·rw [if_neg (by simpa using hs)]; exact ⟨hs.symm, fun _ => rfl⟩
   ·rw [if_pos hs]; exact ⟨rfl, fun h => absurd h hs⟩
  replace hV2 := Lib.hid hV2
  clear HV hV
  go_upto_region 3 with (fail)
  clear e0 le
  refine Zk 10 [9] (fun x => Qa v0 x ∧ Qb x bt 153 #[.func (.func 105) #[] #[.pointer (some ⟨be, 0, none⟩)]] ∧ Qb x bd 85 #[.int .i64 X.p.n, .int .i64 X.p.d, .int .i64 X.i.n, .int .i64 X.i.d, .int .i64 X.s.n, .int .i64 X.s.d] ∧ Qb x b8 73 #[.int .i64 Mn, .int .i64 Md] ∧ True) Qo rfl ?_
  intro vz hvz
  replace HO := HO.trans (Qu.of_ext hvz)
  replace HE := HE.trans hvz
  replace Ht := Ht.ext hvz
  replace Hd := Hd.ext hvz
  replace Hf := Hf.ext hvz
  replace H7 := H7.ext hvz
  replace He := He.ext hvz
  replace Q := Q.ext hvz
  clear hvz
  refine Qp (g := 6) [0, 1, 2, 3] [_, _, _, _] ⟨rfl, rfl, rfl, rfl, trivial⟩ (by kernel_rfl) (by kernel_rfl) ⟨HE, Ht, Hd, Q, trivial⟩ ?_
  simp only [Qc, Qd, Qe]
  apply Exists.intro
  refine ⟨fun u hu => ?_, ?_⟩
  ·have t0 := hu.2.1.c1
   have lt := hu.2.1.lt
   obtain ⟨d0, d1, d2, d3, d4, d5⟩ := hu.2.2.1.c6
   have ld := hu.2.2.1.lt
   obtain ⟨r0, r1⟩ := hu.2.2.2.1.c2
   have lr := hu.2.2.2.1.lt
   repeat (first | go_big_quiet_skip | (go_big_quiet_want; go_big_quiet_op; go_big_quiet_on))
   refine wpQuiet_nil ?_
   rfl
  refine Qj 4 rfl (by kernel_rfl) ?_
  simp only [Qc, Qd, Qe]
  go_wp2_with (go_at_call 78; (with_reducible refine Calls.mono (NA _ (Z.ext HE)) ?_); rintro e wc ⟨rfl, h4⟩)
  replace HO := HO.trans (Qu.of_ext h4)
  replace HE := HE.trans h4
  replace Ht := Ht.ext h4
  replace Hd := Hd.ext h4
  replace Hf := Hf.ext h4
  replace H7 := H7.ext h4
  replace He := He.ext h4
  replace Q := Q.ext h4
  clear h4
  refine Qi ⟨HE, Ht, Hd, Q, trivial⟩ ?_
  refine Qp (g := 3) [5, 6] [_, _] ⟨rfl, rfl, trivial⟩ (by kernel_rfl) (by kernel_rfl) ⟨HE, Ht, Hd, Q, trivial⟩ ?_
  simp only [Qc, Qd, Qe]
  apply Exists.intro
  refine ⟨fun u hu => ?_, ?_⟩
  ·have t0 := hu.2.1.c1
   have lt := hu.2.1.lt
   obtain ⟨d0, d1, d2, d3, d4, d5⟩ := hu.2.2.1.c6
   have ld := hu.2.2.1.lt
   obtain ⟨r0, r1⟩ := hu.2.2.2.1.c2
   have lr := hu.2.2.2.1.lt
   repeat (first | go_big_quiet_skip | (go_big_quiet_want; go_big_quiet_op; go_big_quiet_on))
   refine wpQuiet_nil ?_
   rfl
  refine Qj 7 rfl (by kernel_rfl) ?_
  simp only [Qc, Qd, Qe]
  go_wp2_with (first | (go_at_call 105; (with_reducible refine Calls.mono (Yw ⟨Sn, Sd⟩ Se 0 be _ He) ?_); rintro e we ⟨rfl, h5, He2⟩) | (go_at_fn 105; (with_reducible refine Calls.mono (Yw ⟨Sn, Sd⟩ Se 0 be _ He) ?_); rintro e we ⟨rfl, h5, He2⟩))
  try rw [if_pos rfl] at He2
  have h5' := h5.mono (T := [bd, bf, be]) (fun k hk => by rw [List.mem_singleton.1 hk]; simp)
  replace HO := HO.trans h5'
  replace HE := h5.ext HE (fun k hk => by rw [List.mem_singleton.1 hk]; exact g3)
  replace Ht := h5.held Ht (by simp only [List.mem_singleton]; exact fun e => n4 (by rw [e]; simp))
  replace Hd := h5.held Hd (by simp only [List.mem_singleton]; exact n2)
  replace Hf := h5.held Hf (by simp only [List.mem_singleton]; exact n3)
  replace H7 := h5.held H7 (by simp only [List.mem_singleton]; exact n7)
  replace Q := h5.held Q (by simp only [List.mem_singleton]; have := he.lt; omega)
  have He := He2
  clear h5 h5' He2
  refine Qi ⟨HE, Ht, Hd, Q, trivial⟩ ?_
  refine Qp (g := 1) [8] [_] ⟨rfl, trivial⟩ (by kernel_rfl) (by kernel_rfl) ⟨HE, Ht, Hd, Q, trivial⟩ ?_
  simp only [Qc, Qd, Qe]
  apply Exists.intro
  refine ⟨fun u hu => ?_, ?_⟩
  ·have t0 := hu.2.1.c1
   have lt := hu.2.1.lt
   obtain ⟨d0, d1, d2, d3, d4, d5⟩ := hu.2.2.1.c6
   have ld := hu.2.2.1.lt
   obtain ⟨r0, r1⟩ := hu.2.2.2.1.c2
   have lr := hu.2.2.2.1.lt
   repeat (first | go_big_quiet_skip | (go_big_quiet_want; go_big_quiet_op; go_big_quiet_on))
   refine wpQuiet_nil ?_
   rfl
  refine Qm 9 rfl (by kernel_rfl) ?_
  simp only [Qc, Qd, Qe]
  have z2 := Hd.frozen 2
  have z3 := Hd.frozen 3
  obtain ⟨x0, x1, x2, x3, x4, x5⟩ := Hd.c6
  have lx := Hd.lt
  have Hd2 := K8 Hd (.int .i64 Sn) (.int .i64 Sd)
  have Hf := Qh (Qh Hf (Ne.symm n1) 2 (.int .i64 Sn)) (Ne.symm n1) 3 (.int .i64 Sd)
  have He := Qh (Qh He (Ne.symm n2) 2 (.int .i64 Sn)) (Ne.symm n2) 3 (.int .i64 Sd)
  have H7 := Qh (Qh H7 (n8) 2 (.int .i64 Sn)) (n8) 3 (.int .i64 Sd)
  have HO := (HO.trans (Qu.set _ (by simp : bd ∈ [bd, bf, be]) 2 (.int .i64 Sn))).trans (Qu.set _ (by simp : bd ∈ [bd, bf, be]) 3 (.int .i64 Sd))
  go_wp2
  refine Ql ?_
  refine Qt (by kernel_rfl) ?_
  have Hd := Hd2
  generalize World.setCell _ _ _ = wq at *
  clear z2 z3 x0 x1 x2 x3 x4 x5 lx
  have YY : ∃ Y : Db, Y.In ∧ Qb (World.setCell (World.setCell (World.setCell (World.setCell wq ⟨bf, 0, none⟩ (.int .i64 tu.y)) ⟨bf, 1, none⟩ (.int .i64 tu.m)) ⟨bf, 2, none⟩ (.bool tu.s)) ⟨bf, 3, none⟩ (.int .i64 tu.d)) bd 85 #[.int .i64 Y.p.n, .int .i64 Y.p.d, .int .i64 Y.i.n, .int .i64 Y.i.d, .int .i64 Y.s.n, .int .i64 Y.s.d] ∧ (V.2 = 0 → Y = V.1) :=
   ⟨⟨X.p, ⟨Sn, Sd⟩, X.s⟩, ⟨hX.p, hSi, hX.s⟩, Qh (Qh (Qh (Qh Hd n1 0 (.int .i64 tu.y)) n1 1 (.int .i64 tu.m)) n1 2 (.bool tu.s)) n1 3 (.int .i64 tu.d), fun h => (hV2.out.2 (hV2.out.1.symm.trans h)).symm⟩
  have hVe := Lib.hid hV2.out.1
  obtain ⟨s0, s1, s2, s3⟩ := H7.c4
  have ls := H7.lt
  obtain ⟨f0, f1, f2, f3⟩ := Hf.c4
  have lf := Hf.lt
  have z0 := Hf.frozen 0
  have z1 := Hf.frozen 1
  have z2 := Hf.frozen 2
  have z3 := Hf.frozen 3
  have Hf2 := Fl Hf (.int .i64 tu.y) (.int .i64 tu.m) (.bool tu.s) (.int .i64 tu.d)
  have He2 := Qh (Qh (Qh (Qh He (Ne.symm n3) 0 (.int .i64 tu.y)) (Ne.symm n3) 1 (.int .i64 tu.m)) (Ne.symm n3) 2 (.bool tu.s)) (Ne.symm n3) 3 (.int .i64 tu.d)
  have Hd2 := Qh (Qh (Qh (Qh Hd n1 0 (.int .i64 tu.y)) n1 1 (.int .i64 tu.m)) n1 2 (.bool tu.s)) n1 3 (.int .i64 tu.d)
  have OF := (((HO.trans (Qu.set _ (by simp : bf ∈ [bd, bf, be]) 0 (.int .i64 tu.y))).trans (Qu.set _ (by simp : bf ∈ [bd, bf, be]) 1 (.int .i64 tu.m))).trans (Qu.set _ (by simp : bf ∈ [bd, bf, be]) 2 (.bool tu.s))).trans (Qu.set _ (by simp : bf ∈ [bd, bf, be]) 3 (.int .i64 tu.d))
  go_wp2
  (try simp only [Exit.inBlock, Exit.then])
  refine bodyPost_end (results_none rfl _ _ _) rfl ⟨rfl, OF, Hf2, by rw [hVe.out]; exact He2, YY⟩
 ·have g0 : (Me == 0) = false := beq_eq_false_iff_ne.2 h0
  have hV := HV.out
  rw [if_pos h0] at hV
  have YY : ∃ Y : Db, Y.In ∧ Qb (World.setCell (World.setCell (World.setCell (World.setCell w3 ⟨bf, 0, none⟩ (.int .i64 tu.y)) ⟨bf, 1, none⟩ (.int .i64 tu.m)) ⟨bf, 2, none⟩ (.bool tu.s)) ⟨bf, 3, none⟩ (.int .i64 tu.d)) bd 85 #[.int .i64 Y.p.n, .int .i64 Y.p.d, .int .i64 Y.i.n, .int .i64 Y.i.d, .int .i64 Y.s.n, .int .i64 Y.s.d] ∧ (V.2 = 0 → Y = V.1) :=
   ⟨X, hX, Qh (Qh (Qh (Qh Hd n1 0 (.int .i64 tu.y)) n1 1 (.int .i64 tu.m)) n1 2 (.bool tu.s)) n1 3 (.int .i64 tu.d), fun h => by rw [hV]⟩
  have hVe : V.2 = Me := by rw [hV]
  clear HV hV h0
  replace hVe := Lib.hid hVe
  obtain ⟨s0, s1, s2, s3⟩ := H7.c4
  have ls := H7.lt
  obtain ⟨f0, f1, f2, f3⟩ := Hf.c4
  have lf := Hf.lt
  have z0 := Hf.frozen 0
  have z1 := Hf.frozen 1
  have z2 := Hf.frozen 2
  have z3 := Hf.frozen 3
  have Hf2 := Fl Hf (.int .i64 tu.y) (.int .i64 tu.m) (.bool tu.s) (.int .i64 tu.d)
  have He2 := Qh (Qh (Qh (Qh He (Ne.symm n3) 0 (.int .i64 tu.y)) (Ne.symm n3) 1 (.int .i64 tu.m)) (Ne.symm n3) 2 (.bool tu.s)) (Ne.symm n3) 3 (.int .i64 tu.d)
  have Hd2 := Qh (Qh (Qh (Qh Hd n1 0 (.int .i64 tu.y)) n1 1 (.int .i64 tu.m)) n1 2 (.bool tu.s)) n1 3 (.int .i64 tu.d)
  have OF := (((HO.trans (Qu.set _ (by simp : bf ∈ [bd, bf, be]) 0 (.int .i64 tu.y))).trans (Qu.set _ (by simp : bf ∈ [bd, bf, be]) 1 (.int .i64 tu.m))).trans (Qu.set _ (by simp : bf ∈ [bd, bf, be]) 2 (.bool tu.s))).trans (Qu.set _ (by simp : bf ∈ [bd, bf, be]) 3 (.int .i64 tu.d))
  go_wp2
  (try simp only [Exit.inBlock, Exit.then])
  refine bodyPost_end (results_none rfl _ _ _) rfl ⟨rfl, OF, Hf2, by rw [hVe.out]; exact He2, YY⟩
end
section
def Wn (v : Db × Int) : Db × Int := if v.2 ≠ 0 then (Jl, v.2) else v
def Jr (c : Qf) (r : Rt) (f : Nat → Zy) (on : Dt) (i m : Nat) (x : Db) (a : Dt) : Db × Int := Wn (Y7 c r f on i m x a)
def Mg (c : Qf) (r : Rt) (f : Nat → Zy) (on : Dt) (i m : Nat) (x : Db) (lf : Rt) : Db × Int := if (Q3 x.s lf).2 ≠ 0 then (Jl, (Q3 x.s lf).2) else Jr c r f on (i + 1) m ⟨x.p, x.i, (Q3 x.s lf).1⟩ (f i).on
def Mf (c : Qf) (r : Rt) (f : Nat → Zy) (on : Dt) (i m : Nat) (x : Db) (lf : Rt) : Db × Int := if (Qw x.p lf).2 ≠ 0 then (Jl, (Qw x.p lf).2) else Mg c r f on i m ⟨(Qw x.p lf).1.1, x.i, x.s⟩ (Qw x.p lf).1.2
def Mc (c : Qf) (r : Rt) (f : Nat → Zy) (on : Dt) (i m : Nat) (x : Db) (lf : Rt) : Db × Int := if (Qw x.i lf).2 ≠ 0 then (Jl, (Qw x.i lf).2) else Mf c r f on i m ⟨x.p, (Qw x.i lf).1.1, x.s⟩ (Qw x.i lf).1.2
theorem Vk {v : Db × Int} (h : v.2 ≠ 0) : Wn v = (Jl, v.2) := by unfold Wn; rw [if_pos h]
theorem Tm {v : Db × Int} (h : v.2 = 0) : Wn v = v := by unfold Wn; rw [if_neg (by simpa using h)]
theorem Qb1 {c : Qf} {r : Rt} {f : Nat → Zy} {on : Dt} {i m : Nat} {x : Db} {a : Dt} (h : c.numV on < c.numV (f i).on) : Jr c r f on i (m + 1) x a = Wn (Zc c r x a on) := by
 unfold Jr; rw [Y7, if_pos h]
theorem Qbz {c : Qf} {r : Rt} {f : Nat → Zy} {on : Dt} {i m : Nat} {x : Db} {a : Dt} (h : ¬ c.numV on < c.numV (f i).on) (h2 : (Zc c r x a (f i).on).2 ≠ 0) : Jr c r f on i (m + 1) x a = (Jl, (Zc c r x a (f i).on).2) := by
 unfold Jr; rw [Y7, if_neg h, if_pos h2]; exact Vk h2
theorem Qb0 {c : Qf} {r : Rt} {f : Nat → Zy} {on : Dt} {i m : Nat} {x : Db} {a : Dt} (h : ¬ c.numV on < c.numV (f i).on) (h2 : (Zc c r x a (f i).on).2 = 0) : Jr c r f on i (m + 1) x a = Mc c r f on i m (Zc c r x a (f i).on).1 (f i).n := by
 unfold Jr
 rw [Y7, if_neg h, if_neg (by simpa using h2)]
 generalize (Zc c r x a (f i).on).1 = X
 generalize (f i).n = n
 unfold Ju Mc Mf Mg Jr
 by_cases e1 : (Qw X.i n).2 ≠ 0
 ·rw [if_pos e1, if_pos e1, if_pos e1]; exact Vk e1
 ·rw [if_neg e1, if_neg e1]
  simp only
  by_cases e2 : (Qw X.p (Qw X.i n).1.2).2 ≠ 0
  ·rw [if_pos e2, if_pos e2, if_pos e2]; exact Vk e2
  ·rw [if_neg e2, if_neg e2]
   by_cases e3 : (Q3 X.s (Qw X.p (Qw X.i n).1.2).1.2).2 ≠ 0
   ·rw [if_pos e3, if_pos e3, if_pos e3]; exact Vk e3
   ·rw [if_neg e3, if_neg e3]
    simp
theorem Qa9 {c : Qf} {l : Ln} {f : Nat → Zy} {n : Nat} {on : Dt} (h1 : c.loanE l f n = 0) (h2 : c.numV on ≠ 0) (h3 : ¬ c.numV on < c.numV l.f) : c.owedV l f n on = Jr c l.r f on 0 n (start l) l.f := by
 unfold Qf.owedV Jr Wn
 rw [if_neg (by rw [h1]; decide), if_neg h2, if_neg h3]
 by_cases e : (Y7 c l.r f on 0 n (start l) l.f).2 ≠ 0
 ·rw [if_pos e, if_pos e]
 ·rw [if_neg e, if_neg e]
  have e' := Decidable.not_not.1 e
  exact Prod.ext rfl e'.symm
end
end Go.Proofs.YtneiofnlmblglaaGreatDoor
