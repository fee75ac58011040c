/- The walk of the reference's check of a calendar. -/
import Derived.Test.YtfchchmmjabjnaaDoorW4
namespace Go.Proofs.YtfchchmmjabjnaaDoor
open Go Go.RowKit
attribute [local go_sem] gv_yes

def KingsTo (c : Cal) (k : Nat) : Prop := ∀ i, i < k → c.kingOk i = true
def YearsTo (c : Cal) (k : Nat) : Prop := ∀ i, i < k → c.yearOk i = true
theorem findS_neg {f : Nat → ByteArray} {s : ByteArray} {n : Nat} : (decide (0 ≤ findS f s n)) = !((List.range n).all fun j => decide (f j ≠ s)) := by
  by_cases h : NotTo f s n
  · rw [findS_none h]
    have : ((List.range n).all fun j => decide (f j ≠ s)) = true := by
      simp only [List.all_eq_true, List.mem_range, decide_eq_true_eq]; exact h
    rw [this]; rfl
  · have : ((List.range n).all fun j => decide (f j ≠ s)) = false := by
      rw [Bool.eq_false_iff]; intro hh
      simp only [List.all_eq_true, List.mem_range, decide_eq_true_eq] at hh
      exact h hh
    rw [this]
    have h2 : ((List.range n).find? (fun j => decide (f j = s))).isSome = true := by
      rw [List.find?_isSome]
      unfold NotTo at h
      simp only [Classical.not_forall] at h
      obtain ⟨j, hj, hne⟩ := h
      exact ⟨j, by simpa using hj, by simpa using hne⟩
    obtain ⟨k, hk⟩ := Option.isSome_iff_exists.1 h2
    rw [findS, hk]
    simp
theorem kingOk_eq (c : Cal) (k : Nat) : c.kingOk k = !(!isName (c.kg k) || decide (0 ≤ findS c.kg (c.kg k) k)) := by
  rw [findS_neg, Cal.kingOk]; cases isName (c.kg k) <;> simp
theorem hadTo_eq (c : Cal) (y : Yr) (k : Nat) : c.hadTo y k = hadF c.yr y k := rfl
theorem prevK_eq {c : Cal} {k : Nat} (h : YearsTo c k) : 0 ≤ c.prevK k ∧ (0 < k → c.prevK k = (c.yr (k - 1)).k) := by
  induction k with
  | zero => exact ⟨Int.le_refl _, fun h => absurd h (by omega)⟩
  | succ k ih =>
    have h1 := ih (fun i hi => h i (by omega))
    have h2 := h k (by omega)
    simp only [Cal.yearOk, Bool.and_eq_true, decide_eq_true_eq] at h2
    refine ⟨?_, fun _ => rfl⟩
    show 0 ≤ (c.yr k).k
    omega
theorem shape_eq (y : Yr) : y.shapeOk = !(decide (y.db < 0) || decide (12 < y.db) || decide (y.lg < 0) || decide (8191 < y.lg) || (y.db == 0 && decide (4096 ≤ y.lg))) := by
  rw [Yr.shapeOk, Bool.eq_iff_iff]; simp; omega
theorem yearOk_eq {c : Cal} {k : Nat} (h : YearsTo c k) : c.yearOk k =
    !((decide ((c.yr k).k < 0) || decide ((c.nk : Int) ≤ (c.yr k).k) || (decide (0 < k) && decide ((c.yr k).k < (c.yr (k - 1)).k)) || !isName (c.yr k).nm || hadF c.yr (c.yr k) k) || !(c.yr k).shapeOk) := by
  obtain ⟨h1, h2⟩ := prevK_eq h
  rw [Cal.yearOk, hadTo_eq, Bool.eq_iff_iff]
  rcases Nat.eq_zero_or_pos k with rfl | hk
  · rw [show c.prevK 0 = 0 from rfl, show decide ((0 : Nat) < 0) = false from rfl, Bool.false_and, Bool.or_false]
    cases isName (c.yr 0).nm <;> cases hadF c.yr (c.yr 0) 0 <;> cases (c.yr 0).shapeOk <;> simp <;> omega
  · rw [h2 hk]
    have := h2 hk
    cases isName (c.yr k).nm <;> cases hadF c.yr (c.yr k) k <;> cases (c.yr k).shapeOk <;> simp <;> omega
theorem valid_size {c : Cal} (h : (decide ((c.nk : Int) < 1) || decide (40 < (c.nk : Int)) || decide ((c.ny : Int) < 1) || decide (400 < (c.ny : Int))) = true) : c.valid = false := by
  rw [Bool.eq_false_iff]; intro hh
  simp only [Cal.valid, Cal.kingsOk, Bool.and_eq_true, decide_eq_true_eq] at hh
  simp only [Bool.or_eq_true, decide_eq_true_eq] at h
  omega
theorem valid_king {c : Cal} {k : Nat} (hk : k < c.nk) (h : c.kingOk k = false) : c.valid = false := by
  rw [Bool.eq_false_iff]; intro hh
  simp only [Cal.valid, Cal.kingsOk, Bool.and_eq_true, List.all_eq_true, List.mem_range] at hh
  rw [hh.1.1.1.2 k hk] at h; cases h
theorem valid_year {c : Cal} {k : Nat} (hk : k < c.ny) (h : c.yearOk k = false) : c.valid = false := by
  rw [Bool.eq_false_iff]; intro hh
  simp only [Cal.valid, Bool.and_eq_true, List.all_eq_true, List.mem_range] at hh
  rw [hh.2 k hk] at h; cases h
theorem valid_yes {c : Cal} (h : (decide ((c.nk : Int) < 1) || decide (40 < (c.nk : Int)) || decide ((c.ny : Int) < 1) || decide (400 < (c.ny : Int))) = false) (hk : KingsTo c c.nk) (hy : YearsTo c c.ny) : c.valid = true := by
  simp only [Bool.or_eq_false_iff, decide_eq_false_iff_not] at h
  simp only [Cal.valid, Cal.kingsOk, Bool.and_eq_true, List.all_eq_true, List.mem_range, decide_eq_true_eq]
  exact ⟨⟨⟨⟨⟨by omega, by omega⟩, hk⟩, by omega⟩, by omega⟩, hy⟩
theorem to_snoc {p : Nat → Bool} {k : Nat} (h : ∀ i, i < k → p i = true) (hk : p k = true) : ∀ i, i < k + 1 → p i = true := fun i hi => by
  rcases Nat.lt_or_ge i k with h' | h'
  · exact h i h'
  · rw [show i = k from by omega]; exact hk

set_option maxRecDepth 100000 in
set_option maxHeartbeats 4000000 in
theorem validR_any (A A' : Option Addr) (ca cb : Nat) (c : Cal) (w : World) (hC : CalAt w A ca A' cb c) :
    Calls Tryd.prog 78 #[.agg #[.slice A c.nk ca, .slice A' c.ny cb]] w fun e w' => e = .returned (.bool c.valid) ∧ Ext w w' := by
  have hnk := hC.nk_le
  have hny := hC.ny_le
  have hcapk := hC.nk_cap
  have hcapy := hC.ny_cap
  go_enter Tryd.func78, Tryd.ntmps78
  go_upto_region 1 with (fail)
  refine wp_region_xl w (by repeat (first | exact Ext.refl _ | (refine Ext.alloc ?_ _) | (refine Ext.trans ?_ (by assumption)))) ?_
  intro hne hrx hry
  try simp only []
  try simp only [List.append_eq, List.cons_append, List.nil_append]
  have hrx0 := fun u o => hrx u (w.heap.size) o (by first | omega | (simp; done) | (simp; omega))
  skip
  repeat (first
    | go_big_quiet_skip
    | ((with_reducible apply q_and)
       · exact rfl
       · exact rfl
       · exact rfl
       intro K hK
       unfold Then; go_big_quiet_op; (with_reducible refine hK _ ?_); clear hK K)
    | ((with_reducible apply q_or)
       · exact rfl
       · exact rfl
       · exact rfl
       intro K hK
       unfold Then; go_big_quiet_op; (with_reducible refine hK _ ?_); clear hK K)
    | (go_big_quiet_want; go_big_quiet_op; go_big_quiet_on)
    | ((with_reducible apply q_and_g)
       · first | exact wanted_pt rfl rfl rfl | exact wanted_pf rfl rfl rfl | exact wanted_gt rfl rfl rfl | exact wanted_gf rfl rfl rfl
       · exact rfl
       · exact rfl
       · exact rfl
       intro K hK
       unfold Then; go_big_quiet_op; (with_reducible refine hK _ ?_); clear hK K)
    | ((with_reducible apply q_or_g)
       · first | exact wanted_pt rfl rfl rfl | exact wanted_pf rfl rfl rfl | exact wanted_gt rfl rfl rfl | exact wanted_gf rfl rfl rfl
       · exact rfl
       · exact rfl
       · exact rfl
       intro K hK
       unfold Then; go_big_quiet_op; (with_reducible refine hK _ ?_); clear hK K)
    | ((with_reducible apply q_sym)
       · first | exact wanted_pt rfl rfl rfl | exact wanted_pf rfl rfl rfl | exact wanted_gt rfl rfl rfl | exact wanted_gf rfl rfl rfl
       apply Exists.intro
       refine And.intro (fun hgb => ?_) ?_
       · intro u
         try simp at hgb
         go_simp
         try simp only [if_pos hsl]
         try simp only [if_pos (hin (by omega))]
         try (simp only [hd0 (by omega)]; go_simp)
         try (rw [hlook _ (Ext.trans (by repeat (first | exact Ext.refl _ | (refine Ext.alloc ?_ _) | (refine Ext.trans ?_ (by assumption)))) u.e) (hlk0 hgb)]; go_simp)
         first
           | (with_reducible exact rfl)
       intro K hK
       unfold Then; go_big_quiet_op; (with_reducible refine hK _ ?_); clear hK K))
  clear hne hry hrx hrx0
  refine wpQuiet_nil ?_
  intro wq hq
  obtain ⟨hcwq, hfwq, hzwq⟩ := Ext.rules hq
  try simp only [World.size_alloc] at hzwq
  have hk0wq := fun o => hcwq (w.heap.size) o (by first | omega | (simp; done) | (simp; omega))
  have hj0wq := fun o => hfwq (w.heap.size) o (by first | omega | (simp; done) | (simp; omega))
  have hl0wq : w.heap.size < wq.heap.size := (by first | omega | (simp; done) | (simp; omega))
  obtain ⟨hcbwq, hfbwq, hzbwq⟩ := Ext.rules (show Ext w wq from (by repeat (first | exact Ext.refl _ | (refine Ext.alloc ?_ _) | (refine Ext.trans ?_ (by assumption)))))
  clear hcwq hfwq
  generalize hf : (decide ((c.nk : Int) < 1) || decide (40 < (c.nk : Int)) || decide ((c.ny : Int) < 1) || decide (400 < (c.ny : Int))) = f at *
  have HF : Hid (_ = f) := hf
  clear hf
  cases f
  · go_wp2
    go_loopw [3] (fun i wr => ∃ k : Nat, k ≤ c.nk ∧ i = .int .i64 k ∧ KingsTo c k ∧ Ext (w.alloc (.cells #[.slice A c.nk ca, .slice A' c.ny cb] 25)) wr) (fun i _ => c.nk - (intOf i).toNat)
    case atStart => exact ⟨0, Nat.zero_le _, rfl, (fun i h => absurd h (by omega)), hq⟩
    case round =>
      obtain ⟨k, hk, rfl, hK, hB⟩ := hrel
      clear hq hzwq hk0wq hj0wq hl0wq hcbwq hfbwq hzbwq
      obtain ⟨wo, rfl⟩ : ∃ wo : World, wo = wr := ⟨_, rfl⟩
      obtain ⟨hcwo, hfwo, hzwo⟩ := Ext.rules hB
      try simp only [World.size_alloc] at hzwo
      have hk0wo := fun o => hcwo (w.heap.size) o (by first | omega | (simp; done) | (simp; omega))
      have hj0wo := fun o => hfwo (w.heap.size) o (by first | omega | (simp; done) | (simp; omega))
      have hl0wo : w.heap.size < wo.heap.size := (by first | omega | (simp; done) | (simp; omega))
      obtain ⟨hcbwo, hfbwo, hzbwo⟩ := Ext.rules (show Ext w wo from (by repeat (first | exact Ext.refl _ | (refine Ext.alloc ?_ _) | (refine Ext.trans ?_ (by assumption)))))
      clear hcwo hfwo
      by_cases hlt : k < c.nk
      · obtain ⟨b, off, rfl, hb, c0⟩ := hC.king hlt
        have HK : Hid (c.kingOk k = _) := kingOk_eq c k
        have hsl : k ≤ ca := by omega
        go_upto_region 6 with (fail)
        refine wp_region_xw w mixed (by kernel_rfl) (by repeat (first | exact Ext.refl _ | (refine Ext.alloc ?_ _) | (refine Ext.trans ?_ (by assumption)))) ?_
        intro hne hrx hry
        try simp only []
        try simp only [List.append_eq, List.cons_append, List.nil_append]
        have hrx0 := fun u o => hrx u (w.heap.size) o (by first | omega | (simp; done) | (simp; omega))
        skip
        repeat (first
          | go_big_quiet_skip
          | ((with_reducible apply q_and)
             · exact rfl
             · exact rfl
             · exact rfl
             intro K hK
             unfold Then; go_big_quiet_op; (with_reducible refine hK _ ?_); clear hK K)
          | ((with_reducible apply q_or)
             · exact rfl
             · exact rfl
             · exact rfl
             intro K hK
             unfold Then; go_big_quiet_op; (with_reducible refine hK _ ?_); clear hK K)
          | (go_big_quiet_want; go_big_quiet_op; go_big_quiet_on)
          | (go_big_quiet_want; go_big_quiet_op; apply Exists.intro; refine ⟨fun u => ?_, ?_⟩
             · first
                 | (go_at_call 95; refine (isNameR_any _ _).mono ?_; rintro e w' ⟨rfl, rfl⟩; exact ⟨rfl, u, rfl⟩)
                 | (go_at_call 117; refine (atR_any _ k _ c.kg _ _ ((hC.kings.take hk).ext (Ext.trans (by repeat (first | exact Ext.refl _ | (refine Ext.alloc ?_ _) | (refine Ext.trans ?_ (by assumption)))) u.e)) (by omega)).mono ?_; rintro e w' ⟨rfl, rfl⟩; exact ⟨rfl, u, rfl⟩)
             go_big_quiet_on)
          | ((with_reducible apply q_and_g)
             · first | exact wanted_pt rfl rfl rfl | exact wanted_pf rfl rfl rfl | exact wanted_gt rfl rfl rfl | exact wanted_gf rfl rfl rfl
             · exact rfl
             · exact rfl
             · exact rfl
             intro K hK
             unfold Then; go_big_quiet_op; (with_reducible refine hK _ ?_); clear hK K)
          | ((with_reducible apply q_or_g)
             · first | exact wanted_pt rfl rfl rfl | exact wanted_pf rfl rfl rfl | exact wanted_gt rfl rfl rfl | exact wanted_gf rfl rfl rfl
             · exact rfl
             · exact rfl
             · exact rfl
             intro K hK
             unfold Then; go_big_quiet_op; (with_reducible refine hK _ ?_); clear hK K)
          | ((with_reducible apply q_sym)
             · first | exact wanted_pt rfl rfl rfl | exact wanted_pf rfl rfl rfl | exact wanted_gt rfl rfl rfl | exact wanted_gf rfl rfl rfl
             apply Exists.intro
             refine And.intro (fun hgb => ?_) ?_
             · intro u
               try simp at hgb
               go_simp
               try simp only [if_pos hsl]
               try simp only [if_pos (hin (by omega))]
               try (simp only [hd0 (by omega)]; go_simp)
               try (rw [hlook _ (Ext.trans (by repeat (first | exact Ext.refl _ | (refine Ext.alloc ?_ _) | (refine Ext.trans ?_ (by assumption)))) u.e) (hlk0 hgb)]; go_simp)
               first
                 | (with_reducible exact rfl)
                 | (go_at_call 95; refine (isNameR_any _ _).mono ?_; rintro e w' ⟨rfl, rfl⟩; exact ⟨rfl, u, rfl⟩)
                 | (go_at_call 117; refine (atR_any _ k _ c.kg _ _ ((hC.kings.take hk).ext (Ext.trans (by repeat (first | exact Ext.refl _ | (refine Ext.alloc ?_ _) | (refine Ext.trans ?_ (by assumption)))) u.e)) (by omega)).mono ?_; rintro e w' ⟨rfl, rfl⟩; exact ⟨rfl, u, rfl⟩)
             intro K hK
             unfold Then; go_big_quiet_op; (with_reducible refine hK _ ?_); clear hK K))
        clear hne hry hrx hrx0
        refine wpQuiet_nil ?_
        intro wn hwn
        obtain ⟨hcwn, hfwn, hzwn⟩ := Ext.rules hwn
        try simp only [World.size_alloc] at hzwn
        have hk0wn := fun o => hcwn (w.heap.size) o (by first | omega | (simp; done) | (simp; omega))
        have hj0wn := fun o => hfwn (w.heap.size) o (by first | omega | (simp; done) | (simp; omega))
        have hl0wn : w.heap.size < wn.heap.size := (by first | omega | (simp; done) | (simp; omega))
        obtain ⟨hcbwn, hfbwn, hzbwn⟩ := Ext.rules (show Ext w wn from (by repeat (first | exact Ext.refl _ | (refine Ext.alloc ?_ _) | (refine Ext.trans ?_ (by assumption)))))
        clear hcwn hfwn
        generalize hg : (!isName (c.kg k) || decide (0 ≤ findS c.kg (c.kg k) k)) = g at *
        cases g
        · go_wp2
          exact ⟨⟨k + 1, by omega, by go_num, to_snoc hK HK.out, (by repeat (first | exact Ext.refl _ | (refine Ext.alloc ?_ _) | (refine Ext.trans ?_ (by assumption))))⟩, by simp [intOf]; omega⟩
        · go_wp2
          go_ret
          exact ⟨ret_bool (valid_king hlt HK.out).symm, (by repeat (first | exact Ext.refl _ | (refine Ext.alloc ?_ _) | (refine Ext.trans ?_ (by assumption))))⟩
      · have hK' : KingsTo c c.nk := fun i hi => hK i (by omega)
        go_wp2
        go_loopw [4] (fun i wr => ∃ k : Nat, k ≤ c.ny ∧ i = .int .i64 k ∧ YearsTo c k ∧ Ext (w.alloc (.cells #[.slice A c.nk ca, .slice A' c.ny cb] 25)) wr) (fun i _ => c.ny - (intOf i).toNat)
        case atStart => exact ⟨0, Nat.zero_le _, rfl, (fun i h => absurd h (by omega)), hB⟩
        case round =>
          clear hK hlt hk hB hzwo hk0wo hj0wo hl0wo hcbwo hfbwo hzbwo
          obtain ⟨k, hk, rfl, hY, hB⟩ := hrel
          obtain ⟨wo, rfl⟩ : ∃ wo : World, wo = wr := ⟨_, rfl⟩
          obtain ⟨hcwo, hfwo, hzwo⟩ := Ext.rules hB
          try simp only [World.size_alloc] at hzwo
          have hk0wo := fun o => hcwo (w.heap.size) o (by first | omega | (simp; done) | (simp; omega))
          have hj0wo := fun o => hfwo (w.heap.size) o (by first | omega | (simp; done) | (simp; omega))
          have hl0wo : w.heap.size < wo.heap.size := (by first | omega | (simp; done) | (simp; omega))
          obtain ⟨hcbwo, hfbwo, hzbwo⟩ := Ext.rules (show Ext w wo from (by repeat (first | exact Ext.refl _ | (refine Ext.alloc ?_ _) | (refine Ext.trans ?_ (by assumption)))))
          clear hcwo hfwo
          by_cases hlt : k < c.ny
          · obtain ⟨b, off, rfl, hb, c0, c1, c2, c3⟩ := hC.year hlt
            have HY : Hid (c.yearOk k = _) := yearOk_eq hY
            have hsl : k ≤ cb := by omega
            have hin : 0 < k → (0 ≤ IntKind.i64.wrap ((k : Int) - 1) ∧ IntKind.i64.wrap ((k : Int) - 1) < (c.ny : Int)) := fun h => by rw [IntKind.wrap_i64]; omega
            have hbo : b < wo.heap.size := by omega
            have hd0 : 0 < k → w.cell? ⟨b, off + (IntKind.i64.wrap ((k : Int) - 1)).toNat * 4, none⟩ = some (.int .i64 (c.yr (k - 1)).k) := fun h => by
              obtain ⟨b', off', hbb, hb', d0, -⟩ := hC.year (i := k - 1) (by omega)
              obtain ⟨rfl, rfl⟩ : b' = b ∧ off' = off := by simp at hbb; exact ⟨hbb.1.symm, hbb.2.symm⟩
              rw [show (IntKind.i64.wrap ((k : Int) - 1)).toNat = k - 1 from by rw [IntKind.wrap_i64]; omega]; exact d0
            go_upto_region 12 with (fail)
            refine wp_region_xw wo mixed (by kernel_rfl) (by repeat (first | exact Ext.refl _ | (refine Ext.alloc ?_ _) | (refine Ext.trans ?_ (by assumption)))) ?_
            intro hne hrx hry
            try simp only []
            try simp only [List.append_eq, List.cons_append, List.nil_append]
            have hrx0 := fun u o => hrx u (wo.heap.size) o (by first | omega | (simp; done) | (simp; omega))
            skip
            repeat (first
              | go_big_quiet_skip
              | ((with_reducible apply q_and)
                 · exact rfl
                 · exact rfl
                 · exact rfl
                 intro K hK
                 unfold Then; go_big_quiet_op; (with_reducible refine hK _ ?_); clear hK K)
              | ((with_reducible apply q_or)
                 · exact rfl
                 · exact rfl
                 · exact rfl
                 intro K hK
                 unfold Then; go_big_quiet_op; (with_reducible refine hK _ ?_); clear hK K)
              | (go_big_quiet_want; go_big_quiet_op; go_big_quiet_on)
              | (go_big_quiet_want; go_big_quiet_op; apply Exists.intro; refine ⟨fun u => ?_, ?_⟩
                 · first
                     | (go_at_call 95; refine (isNameR_any _ _).mono ?_; rintro e w' ⟨rfl, rfl⟩; exact ⟨rfl, u, rfl⟩)
                     | (go_at_call 116; refine (had_any _ _ _ c.yr _ _ ((hC.years.take hk).ext (Ext.trans (by repeat (first | exact Ext.refl _ | (refine Ext.alloc ?_ _) | (refine Ext.trans ?_ (by assumption)))) u.e)) (by omega)).mono ?_; rintro e w' ⟨rfl, hb⟩; exact ⟨rfl, u.back hb⟩)
                 go_big_quiet_on)
              | ((with_reducible apply q_and_g)
                 · first | exact wanted_pt rfl rfl rfl | exact wanted_pf rfl rfl rfl | exact wanted_gt rfl rfl rfl | exact wanted_gf rfl rfl rfl
                 · exact rfl
                 · exact rfl
                 · exact rfl
                 intro K hK
                 unfold Then; go_big_quiet_op; (with_reducible refine hK _ ?_); clear hK K)
              | ((with_reducible apply q_or_g)
                 · first | exact wanted_pt rfl rfl rfl | exact wanted_pf rfl rfl rfl | exact wanted_gt rfl rfl rfl | exact wanted_gf rfl rfl rfl
                 · exact rfl
                 · exact rfl
                 · exact rfl
                 intro K hK
                 unfold Then; go_big_quiet_op; (with_reducible refine hK _ ?_); clear hK K)
              | ((with_reducible apply q_sym)
                 · first | exact wanted_pt rfl rfl rfl | exact wanted_pf rfl rfl rfl | exact wanted_gt rfl rfl rfl | exact wanted_gf rfl rfl rfl
                 apply Exists.intro
                 refine And.intro (fun hgb => ?_) ?_
                 · intro u
                   try simp at hgb
                   go_simp
                   try simp only [if_pos hsl]
                   try simp only [if_pos (hin (by omega))]
                   try (simp only [hd0 (by omega)]; go_simp)
                   try (rw [hlook _ (Ext.trans (by repeat (first | exact Ext.refl _ | (refine Ext.alloc ?_ _) | (refine Ext.trans ?_ (by assumption)))) u.e) (hlk0 hgb)]; go_simp)
                   first
                     | (with_reducible exact rfl)
                     | (go_at_call 95; refine (isNameR_any _ _).mono ?_; rintro e w' ⟨rfl, rfl⟩; exact ⟨rfl, u, rfl⟩)
                     | (go_at_call 116; refine (had_any _ _ _ c.yr _ _ ((hC.years.take hk).ext (Ext.trans (by repeat (first | exact Ext.refl _ | (refine Ext.alloc ?_ _) | (refine Ext.trans ?_ (by assumption)))) u.e)) (by omega)).mono ?_; rintro e w' ⟨rfl, hb⟩; exact ⟨rfl, u.back hb⟩)
                 intro K hK
                 unfold Then; go_big_quiet_op; (with_reducible refine hK _ ?_); clear hK K))
            clear hne hry hrx hrx0
            refine wpQuiet_nil ?_
            intro wn hwn
            obtain ⟨hcwn, hfwn, hzwn⟩ := Ext.rules hwn
            try simp only [World.size_alloc] at hzwn
            have hk0wn := fun o => hcwn (wo.heap.size) o (by first | omega | (simp; done) | (simp; omega))
            have hj0wn := fun o => hfwn (wo.heap.size) o (by first | omega | (simp; done) | (simp; omega))
            have hl0wn : wo.heap.size < wn.heap.size := (by first | omega | (simp; done) | (simp; omega))
            obtain ⟨hcbwn, hfbwn, hzbwn⟩ := Ext.rules (show Ext wo wn from (by repeat (first | exact Ext.refl _ | (refine Ext.alloc ?_ _) | (refine Ext.trans ?_ (by assumption)))))
            clear hcwn hfwn
            generalize hg : (decide ((c.yr k).k < 0) || decide ((c.nk : Int) ≤ (c.yr k).k) || (decide (0 < k) && decide ((c.yr k).k < (c.yr (k - 1)).k)) || !isName (c.yr k).nm || hadF c.yr (c.yr k) k) = g at *
            cases g
            · go_upto_region 14 with (fail)
              refine wp_region_xl wo (by repeat (first | exact Ext.refl _ | (refine Ext.alloc ?_ _) | (refine Ext.trans ?_ (by assumption)))) ?_
              intro hne hrx hry
              try simp only []
              try simp only [List.append_eq, List.cons_append, List.nil_append]
              have hrx0 := fun u o => hrx u (wo.heap.size) o (by first | omega | (simp; done) | (simp; omega))
              skip
              repeat (first
                | go_big_quiet_skip
                | ((with_reducible apply q_and)
                   · exact rfl
                   · exact rfl
                   · exact rfl
                   intro K hK
                   unfold Then; go_big_quiet_op; (with_reducible refine hK _ ?_); clear hK K)
                | ((with_reducible apply q_or)
                   · exact rfl
                   · exact rfl
                   · exact rfl
                   intro K hK
                   unfold Then; go_big_quiet_op; (with_reducible refine hK _ ?_); clear hK K)
                | (go_big_quiet_want; go_big_quiet_op; go_big_quiet_on)
                | ((with_reducible apply q_and_g)
                   · first | exact wanted_pt rfl rfl rfl | exact wanted_pf rfl rfl rfl | exact wanted_gt rfl rfl rfl | exact wanted_gf rfl rfl rfl
                   · exact rfl
                   · exact rfl
                   · exact rfl
                   intro K hK
                   unfold Then; go_big_quiet_op; (with_reducible refine hK _ ?_); clear hK K)
                | ((with_reducible apply q_or_g)
                   · first | exact wanted_pt rfl rfl rfl | exact wanted_pf rfl rfl rfl | exact wanted_gt rfl rfl rfl | exact wanted_gf rfl rfl rfl
                   · exact rfl
                   · exact rfl
                   · exact rfl
                   intro K hK
                   unfold Then; go_big_quiet_op; (with_reducible refine hK _ ?_); clear hK K)
                | ((with_reducible apply q_sym)
                   · first | exact wanted_pt rfl rfl rfl | exact wanted_pf rfl rfl rfl | exact wanted_gt rfl rfl rfl | exact wanted_gf rfl rfl rfl
                   apply Exists.intro
                   refine And.intro (fun hgb => ?_) ?_
                   · intro u
                     try simp at hgb
                     go_simp
                     try simp only [if_pos hsl]
                     try simp only [if_pos (hin (by omega))]
                     try (simp only [hd0 (by omega)]; go_simp)
                     try (rw [hlook _ (Ext.trans (by repeat (first | exact Ext.refl _ | (refine Ext.alloc ?_ _) | (refine Ext.trans ?_ (by assumption)))) u.e) (hlk0 hgb)]; go_simp)
                     first
                       | (with_reducible exact rfl)
                   intro K hK
                   unfold Then; go_big_quiet_op; (with_reducible refine hK _ ?_); clear hK K))
              clear hne hry hrx hrx0
              refine wpQuiet_nil ?_
              intro wm hwm
              obtain ⟨hcwm, hfwm, hzwm⟩ := Ext.rules hwm
              try simp only [World.size_alloc] at hzwm
              have hk0wm := fun o => hcwm (wo.heap.size) o (by first | omega | (simp; done) | (simp; omega))
              have hj0wm := fun o => hfwm (wo.heap.size) o (by first | omega | (simp; done) | (simp; omega))
              have hl0wm : wo.heap.size < wm.heap.size := (by first | omega | (simp; done) | (simp; omega))
              obtain ⟨hcbwm, hfbwm, hzbwm⟩ := Ext.rules (show Ext wo wm from (by repeat (first | exact Ext.refl _ | (refine Ext.alloc ?_ _) | (refine Ext.trans ?_ (by assumption)))))
              clear hcwm hfwm
              generalize hs : (decide ((c.yr k).db < 0) || decide (12 < (c.yr k).db) || decide ((c.yr k).lg < 0) || decide (8191 < (c.yr k).lg) || ((c.yr k).db == 0 && decide (4096 ≤ (c.yr k).lg))) = s at *
              have HS : Hid ((c.yr k).shapeOk = !s) := by rw [← hs]; exact shape_eq _
              clear hs
              cases s
              · go_wp2
                exact ⟨⟨k + 1, by omega, by go_num, to_snoc hY (by rw [HY.out, HS.out]; rfl), (by repeat (first | exact Ext.refl _ | (refine Ext.alloc ?_ _) | (refine Ext.trans ?_ (by assumption))))⟩, by simp [intOf]; omega⟩
              · go_wp2
                go_ret
                exact ⟨ret_bool (valid_year hlt (by rw [HY.out, HS.out]; rfl)).symm, (by repeat (first | exact Ext.refl _ | (refine Ext.alloc ?_ _) | (refine Ext.trans ?_ (by assumption))))⟩
            · go_wp2
              go_ret
              exact ⟨ret_bool (valid_year hlt (by rw [HY.out, Bool.true_or]; rfl)).symm, (by repeat (first | exact Ext.refl _ | (refine Ext.alloc ?_ _) | (refine Ext.trans ?_ (by assumption))))⟩
          · have hY' : YearsTo c c.ny := fun i hi => hY i (by omega)
            go_wp2
            go_ret
            exact ⟨ret_bool (valid_yes HF.out hK' hY').symm, (by repeat (first | exact Ext.refl _ | (refine Ext.alloc ?_ _) | (refine Ext.trans ?_ (by assumption))))⟩
  · go_wp2
    go_ret
    exact ⟨ret_bool (valid_size HF.out).symm, (by repeat (first | exact Ext.refl _ | (refine Ext.alloc ?_ _) | (refine Ext.trans ?_ (by assumption))))⟩
end Go.Proofs.YtfchchmmjabjnaaDoor
