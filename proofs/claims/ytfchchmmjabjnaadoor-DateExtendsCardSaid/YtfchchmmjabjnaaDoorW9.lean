/- The walk of checks: a calendar and dates. -/
import Derived.Test.YtfchchmmjabjnaaDoorW8
namespace Go.Proofs.YtfchchmmjabjnaaDoor
open Go Go.RowKit
attribute [local go_sem] gv_yes

def dcells (d : Dt) : List Value := [.int .i64 d.y, .int .i64 d.m, .bool d.s, .int .i64 d.d]
def InTo (c : Cal) (f : Nat → Dt) (k : Nat) : Prop := ∀ i, i < k → c.has (f i) = true
def Cal.checks (c : Cal) (f : Nat → Dt) (n : Nat) : Int := if c.valid then (if (List.range n).all (fun i => c.has (f i)) then 0 else 71) else 70
theorem checks_no {c : Cal} {f : Nat → Dt} {n : Nat} (h : c.valid = false) : c.checks f n = 70 := by simp [Cal.checks, h]
theorem checks_out {c : Cal} {f : Nat → Dt} {n k : Nat} (h : c.valid = true) (hk : k < n) (ho : c.has (f k) = false) : c.checks f n = 71 := by
  have : (List.range n).all (fun i => c.has (f i)) = false := by
    rw [List.all_eq_false]; exact ⟨k, by simpa using hk, by simp [ho]⟩
  simp only [Cal.checks, h, this]; rfl
theorem checks_yes {c : Cal} {f : Nat → Dt} {n : Nat} (h : c.valid = true) (hI : InTo c f n) : c.checks f n = 0 := by
  have : (List.range n).all (fun i => c.has (f i)) = true := by
    rw [List.all_eq_true]; intro i hi; exact hI i (by simpa using hi)
  simp only [Cal.checks, h, this]; rfl
theorem valid_lg {c : Cal} (h : c.valid = true) : ∀ i, i < c.ny → 0 ≤ (c.yr i).lg ∧ (c.yr i).lg ≤ 8191 := fun i hi => by
  simp only [Cal.valid, Bool.and_eq_true, List.all_eq_true, List.mem_range] at h
  have h1 := h.2 i hi
  simp only [Cal.yearOk, Bool.and_eq_true] at h1
  have h2 := h1.2
  rw [shape_eq] at h2
  simp at h2
  omega
set_option maxRecDepth 100000 in
set_option maxHeartbeats 1000000 in
theorem checks_any (A A' : Option Addr) (ca cb : Nat) (c : Cal) (B : Option Addr) (n cap : Nat) (f : Nat → Dt) (w : World) (hC : CalAt w A ca A' cb c) (hD : RowsAt w B n 4 (fun i => dcells (f i))) (hn : n ≤ 9223372036854775807) :
    Calls Tryd.prog 75 #[.agg #[.slice A c.nk ca, .slice A' c.ny cb], .slice B n cap] w fun e w' => e = .returned (.int .i64 (c.checks f n)) ∧ Ext w w' := by
  go_enter Tryd.func75, Tryd.ntmps75
  go_upto_region 1 with (fail)
  refine wp_region_xl w (by repeat (first | exact Ext.refl _ | (refine Ext.alloc ?_ _) | (refine Ext.trans ?_ (by assumption)))) ?_
  intro hne hrx hry
  try simp only []
  try simp only [List.append_eq, List.cons_append, List.nil_append]
  have hrx0 := fun u o => hrx u (w.heap.size) o (by first | omega | (simp; done) | (simp; omega))
  skip
  repeat (first
    | go_big_quiet_skip
    | ((with_reducible apply q_and)
       · exact rfl
       · exact rfl
       · exact rfl
       intro K hK
       unfold Then; go_big_quiet_op; (with_reducible refine hK _ ?_); clear hK K)
    | ((with_reducible apply q_or)
       · exact rfl
       · exact rfl
       · exact rfl
       intro K hK
       unfold Then; go_big_quiet_op; (with_reducible refine hK _ ?_); clear hK K)
    | (go_big_quiet_want; go_big_quiet_op; go_big_quiet_on)
    | (go_big_quiet_want; go_big_quiet_op; apply Exists.intro; refine ⟨fun u => ?_, ?_⟩
       · first
           | (go_at_call 90; refine (valid_any _ _ _ _ c _ (hC.ext (Ext.trans (by repeat (first | exact Ext.refl _ | (refine Ext.alloc ?_ _) | (refine Ext.trans ?_ (by assumption)))) u.e))).mono ?_; rintro e w' ⟨rfl, hb⟩; exact ⟨rfl, u.back hb⟩)
       go_big_quiet_on)
    | ((with_reducible apply q_and_g)
       · first | exact wanted_pt rfl rfl rfl | exact wanted_pf rfl rfl rfl | exact wanted_gt rfl rfl rfl | exact wanted_gf rfl rfl rfl
       · exact rfl
       · exact rfl
       · exact rfl
       intro K hK
       unfold Then; go_big_quiet_op; (with_reducible refine hK _ ?_); clear hK K)
    | ((with_reducible apply q_or_g)
       · first | exact wanted_pt rfl rfl rfl | exact wanted_pf rfl rfl rfl | exact wanted_gt rfl rfl rfl | exact wanted_gf rfl rfl rfl
       · exact rfl
       · exact rfl
       · exact rfl
       intro K hK
       unfold Then; go_big_quiet_op; (with_reducible refine hK _ ?_); clear hK K)
    | ((with_reducible apply q_sym)
       · first | exact wanted_pt rfl rfl rfl | exact wanted_pf rfl rfl rfl | exact wanted_gt rfl rfl rfl | exact wanted_gf rfl rfl rfl
       apply Exists.intro
       refine And.intro (fun hgb => ?_) ?_
       · intro u
         try simp at hgb
         go_simp
         try simp only [if_pos hsl]
         try simp only [if_pos (hin (by omega))]
         try (simp only [hd0 (by omega)]; go_simp)
         try (rw [hlook _ (Ext.trans (by repeat (first | exact Ext.refl _ | (refine Ext.alloc ?_ _) | (refine Ext.trans ?_ (by assumption)))) u.e) (hlk0 hgb)]; go_simp)
         first
           | (with_reducible exact rfl)
           | (go_at_call 90; refine (valid_any _ _ _ _ c _ (hC.ext (Ext.trans (by repeat (first | exact Ext.refl _ | (refine Ext.alloc ?_ _) | (refine Ext.trans ?_ (by assumption)))) u.e))).mono ?_; rintro e w' ⟨rfl, hb⟩; exact ⟨rfl, u.back hb⟩)
       intro K hK
       unfold Then; go_big_quiet_op; (with_reducible refine hK _ ?_); clear hK K))
  clear hne hry hrx hrx0
  refine wpQuiet_nil ?_
  intro wq hq
  obtain ⟨hcwq, hfwq, hzwq⟩ := Ext.rules hq
  try simp only [World.size_alloc] at hzwq
  have hk0wq := fun o => hcwq (w.heap.size) o (by first | omega | (simp; done) | (simp; omega))
  have hj0wq := fun o => hfwq (w.heap.size) o (by first | omega | (simp; done) | (simp; omega))
  have hl0wq : w.heap.size < wq.heap.size := (by first | omega | (simp; done) | (simp; omega))
  obtain ⟨hcbwq, hfbwq, hzbwq⟩ := Ext.rules (show Ext w wq from (by repeat (first | exact Ext.refl _ | (refine Ext.alloc ?_ _) | (refine Ext.trans ?_ (by assumption)))))
  clear hcwq hfwq
  generalize hv : c.valid = v at *
  cases v
  · go_wp2
    go_ret
    exact ⟨ret_int (checks_no hv).symm, (by repeat (first | exact Ext.refl _ | (refine Ext.alloc ?_ _) | (refine Ext.trans ?_ (by assumption))))⟩
  · go_wp2
    go_loopw [12] (fun i wr => ∃ k : Nat, k ≤ n ∧ i = .int .i64 k ∧ InTo c f k ∧ Ext (w.alloc (.cells #[.slice A c.nk ca, .slice A' c.ny cb] 25)) wr) (fun i _ => n - (intOf i).toNat)
    case atStart => exact ⟨0, Nat.zero_le _, rfl, (fun i h => absurd h (by omega)), hq⟩
    case round =>
      obtain ⟨k, hk, rfl, hI, hB⟩ := hrel
      clear hzwq hk0wq hj0wq hl0wq hcbwq hfbwq hzbwq hq
      obtain ⟨wo, rfl⟩ : ∃ wo : World, wo = wr := ⟨_, rfl⟩
      obtain ⟨hcwo, hfwo, hzwo⟩ := Ext.rules hB
      try simp only [World.size_alloc] at hzwo
      have hk0wo := fun o => hcwo (w.heap.size) o (by first | omega | (simp; done) | (simp; omega))
      have hj0wo := fun o => hfwo (w.heap.size) o (by first | omega | (simp; done) | (simp; omega))
      have hl0wo : w.heap.size < wo.heap.size := (by first | omega | (simp; done) | (simp; omega))
      obtain ⟨hcbwo, hfbwo, hzbwo⟩ := Ext.rules (show Ext w wo from (by repeat (first | exact Ext.refl _ | (refine Ext.alloc ?_ _) | (refine Ext.trans ?_ (by assumption)))))
      clear hcwo hfwo
      by_cases hlt : k < n
      · obtain ⟨b, off, rfl, hb, hc⟩ := hD (by omega)
        have c0 : w.cell? ⟨b, off + k * 4, none⟩ = some (.int .i64 (f k).y) := by simpa using hc k 0 _ hlt rfl
        have c1 : w.cell? ⟨b, off + k * 4 + 1, none⟩ = some (.int .i64 (f k).m) := hc k 1 _ hlt rfl
        have c2 : w.cell? ⟨b, off + k * 4 + 2, none⟩ = some (.bool (f k).s) := hc k 2 _ hlt rfl
        have c3 : w.cell? ⟨b, off + k * 4 + 3, none⟩ = some (.int .i64 (f k).d) := hc k 3 _ hlt rfl
        clear hc hD
        have hbo : b < wo.heap.size := by omega
        go_upto_region 6 with (fail)
        refine wp_region_xl wo (by repeat (first | exact Ext.refl _ | (refine Ext.alloc ?_ _) | (refine Ext.trans ?_ (by assumption)))) ?_
        intro hne hrx hry
        try simp only []
        try simp only [List.append_eq, List.cons_append, List.nil_append]
        have hrx0 := fun u o => hrx u (wo.heap.size) o (by first | omega | (simp; done) | (simp; omega))
        skip
        repeat (first
          | go_big_quiet_skip
          | ((with_reducible apply q_and)
             · exact rfl
             · exact rfl
             · exact rfl
             intro K hK
             unfold Then; go_big_quiet_op; (with_reducible refine hK _ ?_); clear hK K)
          | ((with_reducible apply q_or)
             · exact rfl
             · exact rfl
             · exact rfl
             intro K hK
             unfold Then; go_big_quiet_op; (with_reducible refine hK _ ?_); clear hK K)
          | (go_big_quiet_want; go_big_quiet_op; go_big_quiet_on)
          | (go_big_quiet_want; go_big_quiet_op; apply Exists.intro; refine ⟨fun u => ?_, ?_⟩
             · first
                 | (go_at_call 100; refine (in_any _ _ _ _ c (f k) _ (hC.ext (Ext.trans (by repeat (first | exact Ext.refl _ | (refine Ext.alloc ?_ _) | (refine Ext.trans ?_ (by assumption)))) u.e)) (valid_lg hv)).mono ?_; rintro e w' ⟨rfl, hb⟩; exact ⟨rfl, u.back hb⟩)
             go_big_quiet_on)
          | ((with_reducible apply q_and_g)
             · first | exact wanted_pt rfl rfl rfl | exact wanted_pf rfl rfl rfl | exact wanted_gt rfl rfl rfl | exact wanted_gf rfl rfl rfl
             · exact rfl
             · exact rfl
             · exact rfl
             intro K hK
             unfold Then; go_big_quiet_op; (with_reducible refine hK _ ?_); clear hK K)
          | ((with_reducible apply q_or_g)
             · first | exact wanted_pt rfl rfl rfl | exact wanted_pf rfl rfl rfl | exact wanted_gt rfl rfl rfl | exact wanted_gf rfl rfl rfl
             · exact rfl
             · exact rfl
             · exact rfl
             intro K hK
             unfold Then; go_big_quiet_op; (with_reducible refine hK _ ?_); clear hK K)
          | ((with_reducible apply q_sym)
             · first | exact wanted_pt rfl rfl rfl | exact wanted_pf rfl rfl rfl | exact wanted_gt rfl rfl rfl | exact wanted_gf rfl rfl rfl
             apply Exists.intro
             refine And.intro (fun hgb => ?_) ?_
             · intro u
               try simp at hgb
               go_simp
               try simp only [if_pos hsl]
               try simp only [if_pos (hin (by omega))]
               try (simp only [hd0 (by omega)]; go_simp)
               try (rw [hlook _ (Ext.trans (by repeat (first | exact Ext.refl _ | (refine Ext.alloc ?_ _) | (refine Ext.trans ?_ (by assumption)))) u.e) (hlk0 hgb)]; go_simp)
               first
                 | (with_reducible exact rfl)
                 | (go_at_call 100; refine (in_any _ _ _ _ c (f k) _ (hC.ext (Ext.trans (by repeat (first | exact Ext.refl _ | (refine Ext.alloc ?_ _) | (refine Ext.trans ?_ (by assumption)))) u.e)) (valid_lg hv)).mono ?_; rintro e w' ⟨rfl, hb⟩; exact ⟨rfl, u.back hb⟩)
             intro K hK
             unfold Then; go_big_quiet_op; (with_reducible refine hK _ ?_); clear hK K))
        clear hne hry hrx hrx0
        refine wpQuiet_nil ?_
        intro wn hwn
        obtain ⟨hcwn, hfwn, hzwn⟩ := Ext.rules hwn
        try simp only [World.size_alloc] at hzwn
        have hk0wn := fun o => hcwn (wo.heap.size) o (by first | omega | (simp; done) | (simp; omega))
        have hj0wn := fun o => hfwn (wo.heap.size) o (by first | omega | (simp; done) | (simp; omega))
        have hl0wn : wo.heap.size < wn.heap.size := (by first | omega | (simp; done) | (simp; omega))
        obtain ⟨hcbwn, hfbwn, hzbwn⟩ := Ext.rules (show Ext wo wn from (by repeat (first | exact Ext.refl _ | (refine Ext.alloc ?_ _) | (refine Ext.trans ?_ (by assumption)))))
        clear hcwn hfwn
        generalize hs : c.has (f k) = s at *
        cases s
        · go_wp2
          go_ret
          exact ⟨ret_int (checks_out hv hlt hs).symm, (by repeat (first | exact Ext.refl _ | (refine Ext.alloc ?_ _) | (refine Ext.trans ?_ (by assumption))))⟩
        · go_wp2
          exact ⟨⟨k + 1, by omega, by go_num, to_snoc hI hs, (by repeat (first | exact Ext.refl _ | (refine Ext.alloc ?_ _) | (refine Ext.trans ?_ (by assumption))))⟩, by simp [intOf]; omega⟩
      · go_wp2
        go_ret
        exact ⟨ret_int (checks_yes hv (fun i hi => hI i (by omega))).symm, (by repeat (first | exact Ext.refl _ | (refine Ext.alloc ?_ _) | (refine Ext.trans ?_ (by assumption))))⟩
end Go.Proofs.YtfchchmmjabjnaaDoor
