/- The walks of the exported functions: Length. -/
import Derived.Test.YtfchchmmjabjnaaDoorWa
namespace Go.Proofs.YtfchchmmjabjnaaDoor
open Go Go.RowKit
attribute [local go_sem] gv_yes

def Cal.noMonth (c : Cal) (y m : Int) (s : Bool) : Bool := decide (m < 1) || decide (12 < m) || (s && ((c.yrI y).db != m))
def Cal.lenR (c : Cal) (y m : Int) (s : Bool) : Int × Int :=
  if c.valid then (if 0 ≤ y ∧ y < c.ny then (if c.noMonth y m s then (0, 4) else ((c.yrI y).len m s, 0)) else (0, 8)) else (0, 70)
set_option maxRecDepth 100000 in
set_option maxHeartbeats 1000000 in
theorem lengthX_any (A A' : Option Addr) (ca cb : Nat) (c : Cal) (y m : Int) (s : Bool) (w : World) (hC : CalAt w A ca A' cb c) :
    Calls Tryd.prog 65 #[.agg #[.slice A c.nk ca, .slice A' c.ny cb], .int .i64 y, .int .i64 m, .bool s] w fun e w' => e = .returned (.tuple #[.int .i64 (c.lenR y m s).1, .int .i64 (c.lenR y m s).2]) ∧ Ext w w' := by
  have hny := hC.ny_le
  go_enter Tryd.func65, Tryd.ntmps65
  go_upto_region 1 with (fail)
  refine wp_region_xl w (by repeat (first | exact Ext.refl _ | (refine Ext.alloc ?_ _) | (refine Ext.trans ?_ (by assumption)))) ?_
  intro hne hrx hry
  try simp only []
  try simp only [List.append_eq, List.cons_append, List.nil_append]
  have hrx0 := fun u o => hrx u (w.heap.size) o (by first | omega | (simp; done) | (simp; omega))
  skip
  repeat (first
    | go_big_quiet_skip
    | ((with_reducible apply q_and)
       · exact rfl
       · exact rfl
       · exact rfl
       intro K hK
       unfold Then; go_big_quiet_op; (with_reducible refine hK _ ?_); clear hK K)
    | ((with_reducible apply q_or)
       · exact rfl
       · exact rfl
       · exact rfl
       intro K hK
       unfold Then; go_big_quiet_op; (with_reducible refine hK _ ?_); clear hK K)
    | (go_big_quiet_want; go_big_quiet_op; go_big_quiet_on)
    | (go_big_quiet_want; go_big_quiet_op; apply Exists.intro; refine ⟨fun u => ?_, ?_⟩
       · first
           | (go_at_call 75; refine (checks_any _ _ _ _ c none 0 0 (fun _ => ⟨0, 0, false, 0⟩) _ (hC.ext (Ext.trans (by repeat (first | exact Ext.refl _ | (refine Ext.alloc ?_ _) | (refine Ext.trans ?_ (by assumption)))) u.e)) (rows_none _ _ _) (by omega)).mono ?_; rintro e w' ⟨rfl, hb⟩; exact ⟨rfl, u.back hb⟩)
       go_big_quiet_on)
    | ((with_reducible apply q_and_g)
       · first | exact wanted_pt rfl rfl rfl | exact wanted_pf rfl rfl rfl | exact wanted_gt rfl rfl rfl | exact wanted_gf rfl rfl rfl
       · exact rfl
       · exact rfl
       · exact rfl
       intro K hK
       unfold Then; go_big_quiet_op; (with_reducible refine hK _ ?_); clear hK K)
    | ((with_reducible apply q_or_g)
       · first | exact wanted_pt rfl rfl rfl | exact wanted_pf rfl rfl rfl | exact wanted_gt rfl rfl rfl | exact wanted_gf rfl rfl rfl
       · exact rfl
       · exact rfl
       · exact rfl
       intro K hK
       unfold Then; go_big_quiet_op; (with_reducible refine hK _ ?_); clear hK K)
    | ((with_reducible apply q_sym)
       · first | exact wanted_pt rfl rfl rfl | exact wanted_pf rfl rfl rfl | exact wanted_gt rfl rfl rfl | exact wanted_gf rfl rfl rfl
       apply Exists.intro
       refine And.intro (fun hgb => ?_) ?_
       · intro u
         try simp at hgb
         go_simp
         try simp only [if_pos hsl]
         try simp only [if_pos (hin (by omega))]
         try (simp only [hd0 (by omega)]; go_simp)
         try (rw [hlook _ (Ext.trans (by repeat (first | exact Ext.refl _ | (refine Ext.alloc ?_ _) | (refine Ext.trans ?_ (by assumption)))) u.e) (hlk0 hgb)]; go_simp)
         first
           | (with_reducible exact rfl)
           | (go_at_call 75; refine (checks_any _ _ _ _ c none 0 0 (fun _ => ⟨0, 0, false, 0⟩) _ (hC.ext (Ext.trans (by repeat (first | exact Ext.refl _ | (refine Ext.alloc ?_ _) | (refine Ext.trans ?_ (by assumption)))) u.e)) (rows_none _ _ _) (by omega)).mono ?_; rintro e w' ⟨rfl, hb⟩; exact ⟨rfl, u.back hb⟩)
       intro K hK
       unfold Then; go_big_quiet_op; (with_reducible refine hK _ ?_); clear hK K))
  clear hne hry hrx hrx0
  refine wpQuiet_nil ?_
  intro wq hq
  obtain ⟨hcwq, hfwq, hzwq⟩ := Ext.rules hq
  try simp only [World.size_alloc] at hzwq
  have hk0wq := fun o => hcwq (w.heap.size) o (by first | omega | (simp; done) | (simp; omega))
  have hj0wq := fun o => hfwq (w.heap.size) o (by first | omega | (simp; done) | (simp; omega))
  have hl0wq : w.heap.size < wq.heap.size := (by first | omega | (simp; done) | (simp; omega))
  obtain ⟨hcbwq, hfbwq, hzbwq⟩ := Ext.rules (show Ext w wq from (by repeat (first | exact Ext.refl _ | (refine Ext.alloc ?_ _) | (refine Ext.trans ?_ (by assumption)))))
  clear hcwq hfwq
  simp only [checks_none]
  cases hv : c.valid
  · rw [chk_no hv]
    go_wp2
    go_ret2
    exact ⟨by simp [Cal.lenR, hv], (by repeat (first | exact Ext.refl _ | (refine Ext.alloc ?_ _) | (refine Ext.trans ?_ (by assumption))))⟩
  · rw [chk_yes hv]
    go_upto_region 4 with (fail)
    refine wp_region_xl w (by repeat (first | exact Ext.refl _ | (refine Ext.alloc ?_ _) | (refine Ext.trans ?_ (by assumption)))) ?_
    intro hne hrx hry
    try simp only []
    try simp only [List.append_eq, List.cons_append, List.nil_append]
    have hrx0 := fun u o => hrx u (w.heap.size) o (by first | omega | (simp; done) | (simp; omega))
    skip
    repeat (first
      | go_big_quiet_skip
      | ((with_reducible apply q_and)
         · exact rfl
         · exact rfl
         · exact rfl
         intro K hK
         unfold Then; go_big_quiet_op; (with_reducible refine hK _ ?_); clear hK K)
      | ((with_reducible apply q_or)
         · exact rfl
         · exact rfl
         · exact rfl
         intro K hK
         unfold Then; go_big_quiet_op; (with_reducible refine hK _ ?_); clear hK K)
      | (go_big_quiet_want; go_big_quiet_op; go_big_quiet_on)
      | (go_big_quiet_want; go_big_quiet_op; apply Exists.intro; refine ⟨fun u => ?_, ?_⟩
         · first
             | (go_at_call 102; refine (hasYear_any _ _ _ _ c y _ hny).mono ?_; rintro e w' ⟨rfl, hb⟩; exact ⟨rfl, u.back hb⟩)
         go_big_quiet_on)
      | ((with_reducible apply q_and_g)
         · first | exact wanted_pt rfl rfl rfl | exact wanted_pf rfl rfl rfl | exact wanted_gt rfl rfl rfl | exact wanted_gf rfl rfl rfl
         · exact rfl
         · exact rfl
         · exact rfl
         intro K hK
         unfold Then; go_big_quiet_op; (with_reducible refine hK _ ?_); clear hK K)
      | ((with_reducible apply q_or_g)
         · first | exact wanted_pt rfl rfl rfl | exact wanted_pf rfl rfl rfl | exact wanted_gt rfl rfl rfl | exact wanted_gf rfl rfl rfl
         · exact rfl
         · exact rfl
         · exact rfl
         intro K hK
         unfold Then; go_big_quiet_op; (with_reducible refine hK _ ?_); clear hK K)
      | ((with_reducible apply q_sym)
         · first | exact wanted_pt rfl rfl rfl | exact wanted_pf rfl rfl rfl | exact wanted_gt rfl rfl rfl | exact wanted_gf rfl rfl rfl
         apply Exists.intro
         refine And.intro (fun hgb => ?_) ?_
         · intro u
           try simp at hgb
           go_simp
           try simp only [if_pos hsl]
           try simp only [if_pos (hin (by omega))]
           try (simp only [hd0 (by omega)]; go_simp)
           try (rw [hlook _ (Ext.trans (by repeat (first | exact Ext.refl _ | (refine Ext.alloc ?_ _) | (refine Ext.trans ?_ (by assumption)))) u.e) (hlk0 hgb)]; go_simp)
           first
             | (with_reducible exact rfl)
             | (go_at_call 102; refine (hasYear_any _ _ _ _ c y _ hny).mono ?_; rintro e w' ⟨rfl, hb⟩; exact ⟨rfl, u.back hb⟩)
         intro K hK
         unfold Then; go_big_quiet_op; (with_reducible refine hK _ ?_); clear hK K))
    clear hne hry hrx hrx0
    refine wpQuiet_nil ?_
    intro wn hwn
    obtain ⟨hcwn, hfwn, hzwn⟩ := Ext.rules hwn
    try simp only [World.size_alloc] at hzwn
    have hk0wn := fun o => hcwn (w.heap.size) o (by first | omega | (simp; done) | (simp; omega))
    have hj0wn := fun o => hfwn (w.heap.size) o (by first | omega | (simp; done) | (simp; omega))
    have hl0wn : w.heap.size < wn.heap.size := (by first | omega | (simp; done) | (simp; omega))
    obtain ⟨hcbwn, hfbwn, hzbwn⟩ := Ext.rules (show Ext w wn from (by repeat (first | exact Ext.refl _ | (refine Ext.alloc ?_ _) | (refine Ext.trans ?_ (by assumption)))))
    clear hcwn hfwn
    by_cases hy : 0 ≤ y ∧ y < c.ny
    · obtain ⟨b, off, rfl, hb, c0, c1, c2, c3⟩ := hC.yearI hy.1 hy.2
      have hbo : b < wn.heap.size := by omega
      have hlg := valid_lg hv y.toNat (by omega)
      simp only [decide_eq_true hy.1, decide_eq_true hy.2, decide_eq_true hy, Bool.not_true, Bool.or_false]
      go_upto_region 7 with (fail)
      refine wp_region_xl wn (by repeat (first | exact Ext.refl _ | (refine Ext.alloc ?_ _) | (refine Ext.trans ?_ (by assumption)))) ?_
      intro hne hrx hry
      try simp only []
      try simp only [List.append_eq, List.cons_append, List.nil_append]
      have hrx0 := fun u o => hrx u (wn.heap.size) o (by first | omega | (simp; done) | (simp; omega))
      skip
      repeat (first
        | go_big_quiet_skip
        | ((with_reducible apply q_and)
           · exact rfl
           · exact rfl
           · exact rfl
           intro K hK
           unfold Then; go_big_quiet_op; (with_reducible refine hK _ ?_); clear hK K)
        | ((with_reducible apply q_or)
           · exact rfl
           · exact rfl
           · exact rfl
           intro K hK
           unfold Then; go_big_quiet_op; (with_reducible refine hK _ ?_); clear hK K)
        | (go_big_quiet_want; go_big_quiet_op; go_big_quiet_on)
        | ((with_reducible apply q_and_g)
           · first | exact wanted_pt rfl rfl rfl | exact wanted_pf rfl rfl rfl | exact wanted_gt rfl rfl rfl | exact wanted_gf rfl rfl rfl
           · exact rfl
           · exact rfl
           · exact rfl
           intro K hK
           unfold Then; go_big_quiet_op; (with_reducible refine hK _ ?_); clear hK K)
        | ((with_reducible apply q_or_g)
           · first | exact wanted_pt rfl rfl rfl | exact wanted_pf rfl rfl rfl | exact wanted_gt rfl rfl rfl | exact wanted_gf rfl rfl rfl
           · exact rfl
           · exact rfl
           · exact rfl
           intro K hK
           unfold Then; go_big_quiet_op; (with_reducible refine hK _ ?_); clear hK K)
        | ((with_reducible apply q_sym)
           · first | exact wanted_pt rfl rfl rfl | exact wanted_pf rfl rfl rfl | exact wanted_gt rfl rfl rfl | exact wanted_gf rfl rfl rfl
           apply Exists.intro
           refine And.intro (fun hgb => ?_) ?_
           · intro u
             try simp at hgb
             go_simp
             try simp only [if_pos hsl]
             try simp only [if_pos (hin (by omega))]
             try (simp only [hd0 (by omega)]; go_simp)
             try (rw [hlook _ (Ext.trans (by repeat (first | exact Ext.refl _ | (refine Ext.alloc ?_ _) | (refine Ext.trans ?_ (by assumption)))) u.e) (hlk0 hgb)]; go_simp)
             first
               | (with_reducible exact rfl)
           intro K hK
           unfold Then; go_big_quiet_op; (with_reducible refine hK _ ?_); clear hK K))
      clear hne hry hrx hrx0
      refine wpQuiet_nil ?_
      intro wm hwm
      obtain ⟨hcwm, hfwm, hzwm⟩ := Ext.rules hwm
      try simp only [World.size_alloc] at hzwm
      have hk0wm := fun o => hcwm (wn.heap.size) o (by first | omega | (simp; done) | (simp; omega))
      have hj0wm := fun o => hfwm (wn.heap.size) o (by first | omega | (simp; done) | (simp; omega))
      have hl0wm : wn.heap.size < wm.heap.size := (by first | omega | (simp; done) | (simp; omega))
      obtain ⟨hcbwm, hfbwm, hzbwm⟩ := Ext.rules (show Ext wn wm from (by repeat (first | exact Ext.refl _ | (refine Ext.alloc ?_ _) | (refine Ext.trans ?_ (by assumption)))))
      clear hcwm hfwm
      generalize hs : (decide (m < 1) || decide (12 < m) || (s && ((c.yrI y).db != m))) = x at *
      cases x
      · have hm : 1 ≤ m ∧ m ≤ 12 := by simp at hs; omega
        go_upto_region 9 with (fail)
        refine wp_region_xl wn (by repeat (first | exact Ext.refl _ | (refine Ext.alloc ?_ _) | (refine Ext.trans ?_ (by assumption)))) ?_
        intro hne hrx hry
        try simp only []
        try simp only [List.append_eq, List.cons_append, List.nil_append]
        have hrx0 := fun u o => hrx u (wn.heap.size) o (by first | omega | (simp; done) | (simp; omega))
        skip
        repeat (first
          | go_big_quiet_skip
          | ((with_reducible apply q_and)
             · exact rfl
             · exact rfl
             · exact rfl
             intro K hK
             unfold Then; go_big_quiet_op; (with_reducible refine hK _ ?_); clear hK K)
          | ((with_reducible apply q_or)
             · exact rfl
             · exact rfl
             · exact rfl
             intro K hK
             unfold Then; go_big_quiet_op; (with_reducible refine hK _ ?_); clear hK K)
          | (go_big_quiet_want; go_big_quiet_op; go_big_quiet_on)
          | (go_big_quiet_want; go_big_quiet_op; apply Exists.intro; refine ⟨fun u => ?_, ?_⟩
             · first
                 | (go_at_call 106; refine (length_any _ _ _ _ hm.1 hm.2 hlg.1 hlg.2).mono ?_; rintro e w' ⟨rfl, hb⟩; exact ⟨rfl, u.back hb⟩)
             go_big_quiet_on)
          | ((with_reducible apply q_and_g)
             · first | exact wanted_pt rfl rfl rfl | exact wanted_pf rfl rfl rfl | exact wanted_gt rfl rfl rfl | exact wanted_gf rfl rfl rfl
             · exact rfl
             · exact rfl
             · exact rfl
             intro K hK
             unfold Then; go_big_quiet_op; (with_reducible refine hK _ ?_); clear hK K)
          | ((with_reducible apply q_or_g)
             · first | exact wanted_pt rfl rfl rfl | exact wanted_pf rfl rfl rfl | exact wanted_gt rfl rfl rfl | exact wanted_gf rfl rfl rfl
             · exact rfl
             · exact rfl
             · exact rfl
             intro K hK
             unfold Then; go_big_quiet_op; (with_reducible refine hK _ ?_); clear hK K)
          | ((with_reducible apply q_sym)
             · first | exact wanted_pt rfl rfl rfl | exact wanted_pf rfl rfl rfl | exact wanted_gt rfl rfl rfl | exact wanted_gf rfl rfl rfl
             apply Exists.intro
             refine And.intro (fun hgb => ?_) ?_
             · intro u
               try simp at hgb
               go_simp
               try simp only [if_pos hsl]
               try simp only [if_pos (hin (by omega))]
               try (simp only [hd0 (by omega)]; go_simp)
               try (rw [hlook _ (Ext.trans (by repeat (first | exact Ext.refl _ | (refine Ext.alloc ?_ _) | (refine Ext.trans ?_ (by assumption)))) u.e) (hlk0 hgb)]; go_simp)
               first
                 | (with_reducible exact rfl)
                 | (go_at_call 106; refine (length_any _ _ _ _ hm.1 hm.2 hlg.1 hlg.2).mono ?_; rintro e w' ⟨rfl, hb⟩; exact ⟨rfl, u.back hb⟩)
             intro K hK
             unfold Then; go_big_quiet_op; (with_reducible refine hK _ ?_); clear hK K))
        clear hne hry hrx hrx0
        refine wpQuiet_nil ?_
        intro wz hwz
        obtain ⟨hcwz, hfwz, hzwz⟩ := Ext.rules hwz
        try simp only [World.size_alloc] at hzwz
        have hk0wz := fun o => hcwz (wn.heap.size) o (by first | omega | (simp; done) | (simp; omega))
        have hj0wz := fun o => hfwz (wn.heap.size) o (by first | omega | (simp; done) | (simp; omega))
        have hl0wz : wn.heap.size < wz.heap.size := (by first | omega | (simp; done) | (simp; omega))
        obtain ⟨hcbwz, hfbwz, hzbwz⟩ := Ext.rules (show Ext wn wz from (by repeat (first | exact Ext.refl _ | (refine Ext.alloc ?_ _) | (refine Ext.trans ?_ (by assumption)))))
        clear hcwz hfwz
        go_wp2
        go_ret2
        exact ⟨by simp [Cal.lenR, hv, hy, Cal.noMonth, hs]; rfl, (by repeat (first | exact Ext.refl _ | (refine Ext.alloc ?_ _) | (refine Ext.trans ?_ (by assumption))))⟩
      · go_wp2
        go_ret2
        exact ⟨by simp [Cal.lenR, hv, hy, Cal.noMonth, hs], (by repeat (first | exact Ext.refl _ | (refine Ext.alloc ?_ _) | (refine Ext.trans ?_ (by assumption))))⟩
    · have hy' : (!decide (0 ≤ y) || !decide (y < (c.ny : Int))) = true := by simp; omega
      try simp only [hy', decide_eq_false hy]
      go_wp2
      go_ret2
      exact ⟨by simp [Cal.lenR, hv, hy], (by repeat (first | exact Ext.refl _ | (refine Ext.alloc ?_ _) | (refine Ext.trans ?_ (by assumption))))⟩
end Go.Proofs.YtfchchmmjabjnaaDoor
