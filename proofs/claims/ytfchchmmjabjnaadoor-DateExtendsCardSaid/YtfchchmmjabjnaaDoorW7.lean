/- The walk of the program's check of a calendar. -/
import Derived.Test.YtfchchmmjabjnaaDoorW6
namespace Go.Proofs.YtfchchmmjabjnaaDoor
open Go Go.RowKit
open Go.Maps
attribute [local go_sem] gv_yes

theorem ownsMap_ext {H : Type} {P : Program} {k : TypeId} {R : Value → Option (DataW H × List MemPlace)} {w w' : World} {b n : Nat} {D : DataW H} (h : w.ownsMap P k R b n D) (e : Ext w w') : w'.ownsMap P k R b n D := by
  have hlt := h.lt
  obtain ⟨es, clock, hb, F, hs, hD⟩ := h
  exact ⟨es, clock, (e.block hlt).trans hb, F, hs, hD⟩
theorem keyOk_of {y : Yr} {n : Int} (h0 : 0 ≤ y.k) (h1 : y.k < n) (hn : n ≤ 9223372036854775807) (hs : isName y.nm = true) : KeyOk y := by
  refine ⟨?_, ?_⟩
  · simp [Lit.wf, IntKind.min, IntKind.max, IntKind.signed, IntKind.bits]; omega
  · simp only [isName, Bool.and_eq_true, decide_eq_true_eq] at hs
    have : maxLen = 9223372036854775807 := rfl
    omega
theorem prevK_nn {c : Cal} {k : Nat} (h : YearsTo c k) : 0 ≤ c.prevK k := (prevK_eq h).1
theorem keyOk_to {c : Cal} {k : Nat} (h : YearsTo c k) (hn : c.nk ≤ 9223372036854775807) : ∀ j, j < k → KeyOk (c.yr j) := fun j hj => by
  have h1 := h j hj
  have h2 := prevK_nn (c := c) (k := j) (fun i hi => h i (by omega))
  simp only [Cal.yearOk, Bool.and_eq_true, decide_eq_true_eq] at h1
  exact keyOk_of (n := c.nk) (by omega) (by omega) (by omega) (by simp_all)
theorem yearOk_go (c : Cal) (k : Nat) : c.yearOk k =
    !(decide ((c.yr k).k < c.prevK k) || decide ((c.nk : Int) ≤ (c.yr k).k) || !isName (c.yr k).nm || hadF c.yr (c.yr k) k || decide ((c.yr k).db < 0) || decide (12 < (c.yr k).db) || decide ((c.yr k).lg < 0) || decide (8191 < (c.yr k).lg) || ((c.yr k).db == 0 && decide (4096 ≤ (c.yr k).lg))) := by
  rw [Cal.yearOk, hadTo_eq, shape_eq, Bool.eq_iff_iff]
  cases isName (c.yr k).nm <;> cases hadF c.yr (c.yr k) k <;> simp <;> omega
theorem valid_size' {c : Cal} (h : (!c.kingsOk || decide ((c.ny : Int) < 1) || decide (400 < (c.ny : Int))) = true) : c.valid = false := by
  rw [Bool.eq_false_iff]; intro hh
  simp only [Cal.valid, Bool.and_eq_true, decide_eq_true_eq] at hh
  simp only [Bool.or_eq_true, decide_eq_true_eq, Bool.not_eq_true'] at h
  rcases h with (h | h) | h
  · rw [hh.1.1.1] at h; cases h
  · omega
  · omega
theorem valid_yes' {c : Cal} (h : (!c.kingsOk || decide ((c.ny : Int) < 1) || decide (400 < (c.ny : Int))) = false) (hy : YearsTo c c.ny) : c.valid = true := by
  simp only [Bool.or_eq_false_iff, decide_eq_false_iff_not, Bool.not_eq_false'] at h
  simp only [Cal.valid, Bool.and_eq_true, List.all_eq_true, List.mem_range, decide_eq_true_eq]
  exact ⟨⟨⟨h.1.1, by omega⟩, by omega⟩, hy⟩

set_option maxRecDepth 100000 in
set_option maxHeartbeats 4000000 in
theorem valid_any (A A' : Option Addr) (ca cb : Nat) (c : Cal) (w : World) (hC : CalAt w A ca A' cb c) :
    Calls Tryd.prog 90 #[.agg #[.slice A c.nk ca, .slice A' c.ny cb]] w fun e w' => e = .returned (.bool c.valid) ∧ Ext w w' := by
  have hnk := hC.nk_le
  have hny := hC.ny_le
  have hcapk := hC.nk_cap
  have hcapy := hC.ny_cap
  have hmm := @run_makeMap Tryd.prog
  go_enter Tryd.func90, Tryd.ntmps90
  go_upto_region 1 with (fail)
  refine wp_region_xl w (by repeat (first | exact Ext.refl _ | (refine Ext.alloc ?_ _) | (refine Ext.trans ?_ (by assumption)))) ?_
  intro hne hrx hry
  try simp only []
  try simp only [List.append_eq, List.cons_append, List.nil_append]
  have hrx0 := fun u o => hrx u (w.heap.size) o (by first | omega | (simp; done) | (simp; omega))
  skip
  repeat (first
    | go_big_quiet_skip
    | ((with_reducible apply q_and)
       · exact rfl
       · exact rfl
       · exact rfl
       intro K hK
       unfold Then; go_big_quiet_op; (with_reducible refine hK _ ?_); clear hK K)
    | ((with_reducible apply q_or)
       · exact rfl
       · exact rfl
       · exact rfl
       intro K hK
       unfold Then; go_big_quiet_op; (with_reducible refine hK _ ?_); clear hK K)
    | (go_big_quiet_want; go_big_quiet_op; go_big_quiet_on)
    | (go_big_quiet_want; go_big_quiet_op; apply Exists.intro; refine ⟨fun u => ?_, ?_⟩
       · first
           | (go_at_call 119; refine (validKings_any _ _ c _ (hC.kings.ext (Ext.trans (by repeat (first | exact Ext.refl _ | (refine Ext.alloc ?_ _) | (refine Ext.trans ?_ (by assumption)))) u.e)) (by omega) (by omega)).mono ?_; rintro e w' ⟨rfl, hb⟩; exact ⟨rfl, u.back hb⟩)
       go_big_quiet_on)
    | ((with_reducible apply q_and_g)
       · first | exact wanted_pt rfl rfl rfl | exact wanted_pf rfl rfl rfl | exact wanted_gt rfl rfl rfl | exact wanted_gf rfl rfl rfl
       · exact rfl
       · exact rfl
       · exact rfl
       intro K hK
       unfold Then; go_big_quiet_op; (with_reducible refine hK _ ?_); clear hK K)
    | ((with_reducible apply q_or_g)
       · first | exact wanted_pt rfl rfl rfl | exact wanted_pf rfl rfl rfl | exact wanted_gt rfl rfl rfl | exact wanted_gf rfl rfl rfl
       · exact rfl
       · exact rfl
       · exact rfl
       intro K hK
       unfold Then; go_big_quiet_op; (with_reducible refine hK _ ?_); clear hK K)
    | ((with_reducible apply q_sym)
       · first | exact wanted_pt rfl rfl rfl | exact wanted_pf rfl rfl rfl | exact wanted_gt rfl rfl rfl | exact wanted_gf rfl rfl rfl
       apply Exists.intro
       refine And.intro (fun hgb => ?_) ?_
       · intro u
         try simp at hgb
         go_simp
         try simp only [if_pos hsl]
         try simp only [if_pos (hin (by omega))]
         try (simp only [hd0 (by omega)]; go_simp)
         try (rw [hlook _ (Ext.trans (by repeat (first | exact Ext.refl _ | (refine Ext.alloc ?_ _) | (refine Ext.trans ?_ (by assumption)))) u.e) (hlk0 hgb)]; go_simp)
         first
           | (with_reducible exact rfl)
           | (go_at_call 119; refine (validKings_any _ _ c _ (hC.kings.ext (Ext.trans (by repeat (first | exact Ext.refl _ | (refine Ext.alloc ?_ _) | (refine Ext.trans ?_ (by assumption)))) u.e)) (by omega) (by omega)).mono ?_; rintro e w' ⟨rfl, hb⟩; exact ⟨rfl, u.back hb⟩)
       intro K hK
       unfold Then; go_big_quiet_op; (with_reducible refine hK _ ?_); clear hK K))
  clear hne hry hrx hrx0
  refine wpQuiet_nil ?_
  intro wq hq
  obtain ⟨hcwq, hfwq, hzwq⟩ := Ext.rules hq
  try simp only [World.size_alloc] at hzwq
  have hk0wq := fun o => hcwq (w.heap.size) o (by first | omega | (simp; done) | (simp; omega))
  have hj0wq := fun o => hfwq (w.heap.size) o (by first | omega | (simp; done) | (simp; omega))
  have hl0wq : w.heap.size < wq.heap.size := (by first | omega | (simp; done) | (simp; omega))
  obtain ⟨hcbwq, hfbwq, hzbwq⟩ := Ext.rules (show Ext w wq from (by repeat (first | exact Ext.refl _ | (refine Ext.alloc ?_ _) | (refine Ext.trans ?_ (by assumption)))))
  clear hcwq hfwq
  generalize hf : (!c.kingsOk || decide ((c.ny : Int) < 1) || decide (400 < (c.ny : Int))) = f at *
  have HF : Hid (_ = f) := hf
  clear hf
  cases f
  · go_wp2
    have hB0 : Ext (w.alloc (.cells #[.slice A c.nk ca, .slice A' c.ny cb] 25)) wq := hq
    go_loopw [4, 27] (fun kg i wr => ∃ k : Nat, k ≤ c.ny ∧ i = .int .i64 k ∧ kg = .int .i64 (c.prevK k) ∧ YearsTo c k ∧ Ext (w.alloc (.cells #[.slice A c.nk ca, .slice A' c.ny cb] 25)) wr ∧
      wr.ownsMap Tryd.prog 153 (plainElem (H := Unit) Tryd.prog 4) wq.heap.size k (hadD c.yr k)) (fun _ i _ => c.ny - (intOf i).toNat)
    case atStart => exact ⟨0, Nat.zero_le _, rfl, rfl, (fun i h => absurd h (by omega)), Ext.alloc hq _, World.ownsMap_made _ _ _ _⟩
    case round =>
      obtain ⟨k, hk, rfl, rfl, hY, hB, hM⟩ := hrel
      clear hzwq hk0wq hj0wq hl0wq hcbwq hfbwq hzbwq
      obtain ⟨wo, rfl⟩ : ∃ wo : World, wo = wr := ⟨_, rfl⟩
      obtain ⟨hcwo, hfwo, hzwo⟩ := Ext.rules hB
      try simp only [World.size_alloc] at hzwo
      have hk0wo := fun o => hcwo (w.heap.size) o (by first | omega | (simp; done) | (simp; omega))
      have hj0wo := fun o => hfwo (w.heap.size) o (by first | omega | (simp; done) | (simp; omega))
      have hl0wo : w.heap.size < wo.heap.size := (by first | omega | (simp; done) | (simp; omega))
      obtain ⟨hcbwo, hfbwo, hzbwo⟩ := Ext.rules (show Ext w wo from (by repeat (first | exact Ext.refl _ | (refine Ext.alloc ?_ _) | (refine Ext.trans ?_ (by assumption)))))
      clear hcwo hfwo
      by_cases hlt : k < c.ny
      · obtain ⟨b, off, rfl, hb, c0, c1, c2, c3⟩ := hC.year hlt
        have HY : Hid (c.yearOk k = _) := yearOk_go c k
        have hbo : b < wo.heap.size := by omega
        have h0 := prevK_nn hY
        have hlook : ∀ w', Ext wo w' → KeyOk (c.yr k) → (Instr.lookup 151 (.map (some wq.heap.size)) (.agg #[.int .i64 (c.yr k).k, .string (c.yr k).nm]) false).run Tryd.prog w' = .ok (.bool (hadF c.yr (c.yr k) k)) w' :=
          fun w' e hy => had_look (ownsMap_ext hM e) hy (keyOk_to hY hnk)
        have hlk0 : (c.prevK k ≤ (c.yr k).k ∧ (c.yr k).k < c.nk) ∧ isName (c.yr k).nm = true → KeyOk (c.yr k) := fun h => keyOk_of (by omega) h.1.2 (by omega) h.2
        go_upto_region 8 with (fail)
        refine wp_region_xl wo (by repeat (first | exact Ext.refl _ | (refine Ext.alloc ?_ _) | (refine Ext.trans ?_ (by assumption)))) ?_
        intro hne hrx hry
        try simp only []
        try simp only [List.append_eq, List.cons_append, List.nil_append]
        have hrx0 := fun u o => hrx u (wo.heap.size) o (by first | omega | (simp; done) | (simp; omega))
        skip
        repeat (first
          | go_big_quiet_skip
          | ((with_reducible apply q_and)
             · exact rfl
             · exact rfl
             · exact rfl
             intro K hK
             unfold Then; go_big_quiet_op; (with_reducible refine hK _ ?_); clear hK K)
          | ((with_reducible apply q_or)
             · exact rfl
             · exact rfl
             · exact rfl
             intro K hK
             unfold Then; go_big_quiet_op; (with_reducible refine hK _ ?_); clear hK K)
          | (go_big_quiet_want; go_big_quiet_op; go_big_quiet_on)
          | (go_big_quiet_want; go_big_quiet_op; apply Exists.intro; refine ⟨fun u => ?_, ?_⟩
             · first
                 | (go_at_call 111; refine (isName_any _ _).mono ?_; rintro e w' ⟨rfl, rfl⟩; exact ⟨rfl, u, rfl⟩)
             go_big_quiet_on)
          | ((with_reducible apply q_and_g)
             · first | exact wanted_pt rfl rfl rfl | exact wanted_pf rfl rfl rfl | exact wanted_gt rfl rfl rfl | exact wanted_gf rfl rfl rfl
             · exact rfl
             · exact rfl
             · exact rfl
             intro K hK
             unfold Then; go_big_quiet_op; (with_reducible refine hK _ ?_); clear hK K)
          | ((with_reducible apply q_or_g)
             · first | exact wanted_pt rfl rfl rfl | exact wanted_pf rfl rfl rfl | exact wanted_gt rfl rfl rfl | exact wanted_gf rfl rfl rfl
             · exact rfl
             · exact rfl
             · exact rfl
             intro K hK
             unfold Then; go_big_quiet_op; (with_reducible refine hK _ ?_); clear hK K)
          | ((with_reducible apply q_sym)
             · first | exact wanted_pt rfl rfl rfl | exact wanted_pf rfl rfl rfl | exact wanted_gt rfl rfl rfl | exact wanted_gf rfl rfl rfl
             apply Exists.intro
             refine And.intro (fun hgb => ?_) ?_
             · intro u
               try simp at hgb
               go_simp
               try simp only [if_pos hsl]
               try simp only [if_pos (hin (by omega))]
               try (simp only [hd0 (by omega)]; go_simp)
               try (rw [hlook _ (Ext.trans (by repeat (first | exact Ext.refl _ | (refine Ext.alloc ?_ _) | (refine Ext.trans ?_ (by assumption)))) u.e) (hlk0 hgb)]; go_simp)
               first
                 | (with_reducible exact rfl)
                 | (go_at_call 111; refine (isName_any _ _).mono ?_; rintro e w' ⟨rfl, rfl⟩; exact ⟨rfl, u, rfl⟩)
             intro K hK
             unfold Then; go_big_quiet_op; (with_reducible refine hK _ ?_); clear hK K))
        clear hne hry hrx hrx0
        refine wpQuiet_nil ?_
        intro wn hwn
        obtain ⟨hcwn, hfwn, hzwn⟩ := Ext.rules hwn
        try simp only [World.size_alloc] at hzwn
        have hk0wn := fun o => hcwn (wo.heap.size) o (by first | omega | (simp; done) | (simp; omega))
        have hj0wn := fun o => hfwn (wo.heap.size) o (by first | omega | (simp; done) | (simp; omega))
        have hl0wn : wo.heap.size < wn.heap.size := (by first | omega | (simp; done) | (simp; omega))
        obtain ⟨hcbwn, hfbwn, hzbwn⟩ := Ext.rules (show Ext wo wn from (by repeat (first | exact Ext.refl _ | (refine Ext.alloc ?_ _) | (refine Ext.trans ?_ (by assumption)))))
        clear hcwn hfwn
        generalize hs : (decide ((c.yr k).k < c.prevK k) || decide ((c.nk : Int) ≤ (c.yr k).k) || !isName (c.yr k).nm || hadF c.yr (c.yr k) k || decide ((c.yr k).db < 0) || decide (12 < (c.yr k).db) || decide ((c.yr k).lg < 0) || decide (8191 < (c.yr k).lg) || ((c.yr k).db == 0 && decide (4096 ≤ (c.yr k).lg))) = s at *
        have HS : Hid (c.yearOk k = !s) := HY.out
        clear hs HY
        cases s
        · have hY1 : YearsTo c (k + 1) := to_snoc hY HS.out
          have hyk : KeyOk (c.yr k) := keyOk_to hY1 hnk k (by omega)
          have hMn := ownsMap_ext hM (w' := wn) (Ext.trans (by repeat (first | exact Ext.refl _ | (refine Ext.alloc ?_ _) | (refine Ext.trans ?_ (by assumption)))) hwn)
          obtain ⟨w1, hrun1, hM1, hg1⟩ := hMn.update named_law named_map (show k < 9223372036854775807 by omega) (keyOf_named hyk.1 hyk.2) (plainElem_bool bool_under true)
          have hsz : (w.alloc (.cells #[.slice A c.nk ca, .slice (some ⟨b, off, none⟩) c.ny cb] 25)).heap.size ≤ wq.heap.size := hB0.size
          have hE1 : Ext (w.alloc (.cells #[.slice A c.nk ca, .slice (some ⟨b, off, none⟩) c.ny cb] 25)) w1 := Ext.grown (w := wn) (by repeat (first | exact Ext.refl _ | (refine Ext.alloc ?_ _) | (refine Ext.trans ?_ (by assumption)))) hg1 (fun j hj => by cases hj; exact hsz)
          go_wp2
          exact ⟨⟨k + 1, by omega, by go_num, rfl, hY1, hE1, hM1⟩, by simp [intOf]; omega⟩
        · go_wp2
          go_ret
          exact ⟨ret_bool (valid_year hlt HS.out).symm, (by repeat (first | exact Ext.refl _ | (refine Ext.alloc ?_ _) | (refine Ext.trans ?_ (by assumption))))⟩
      · have hY' : YearsTo c c.ny := fun i hi => hY i (by omega)
        go_wp2
        go_ret
        exact ⟨ret_bool (valid_yes' HF.out hY').symm, (by repeat (first | exact Ext.refl _ | (refine Ext.alloc ?_ _) | (refine Ext.trans ?_ (by assumption))))⟩
  · go_wp2
    go_ret
    exact ⟨ret_bool (valid_size' HF.out).symm, (by repeat (first | exact Ext.refl _ | (refine Ext.alloc ?_ _) | (refine Ext.trans ?_ (by assumption))))⟩
end Go.Proofs.YtfchchmmjabjnaaDoor
