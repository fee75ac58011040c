/- The walks of Spans and Fits. -/
import Derived.Test.YtfchchmmjabjnaaDoorWs
namespace Go.Proofs.YtfchchmmjabjnaaDoor
open Go Go.RowKit Go.Shelf
attribute [local go_sem] gv_yes

theorem Held.c7 {W : World} {b : Nat} {t : TypeId} {v0 v1 v2 v3 v4 v5 v6 : Value} (h : Held W b t #[v0, v1, v2, v3, v4, v5, v6]) : W.cell? ⟨b, 0, none⟩ = some v0 ∧ W.cell? ⟨b, 1, none⟩ = some v1 ∧ W.cell? ⟨b, 2, none⟩ = some v2 ∧ W.cell? ⟨b, 3, none⟩ = some v3 ∧ W.cell? ⟨b, 4, none⟩ = some v4 ∧ W.cell? ⟨b, 5, none⟩ = some v5 ∧ W.cell? ⟨b, 6, none⟩ = some v6 :=
  ⟨h.cell 0, h.cell 1, h.cell 2, h.cell 3, h.cell 4, h.cell 5, h.cell 6⟩
theorem ok_af {t : Tr} (h : t.ok = true) : 0 ≤ t.af ∧ t.af ≤ 3 := by
  simp only [Tr.ok, Bool.and_eq_true, decide_eq_true_eq] at h
  omega
theorem spansAt_nil (w : World) : SpansAt w (.slice none 0 0) [] := ⟨none, 0, rfl, fun h => absurd h (by simp), Nat.le_refl _, by decide⟩
set_option maxRecDepth 100000 in
set_option maxHeartbeats 1000000 in
theorem spansX_any (A A' : Option Addr) (ca cb : Nat) (c : Cal) (t : Tr) (w : World) (hC : CalAt w A ca A' cb c) :
    Calls Tryd.prog 33 #[.agg #[.slice A c.nk ca, .slice A' c.ny cb], .agg #[.int .i64 t.d, .bool t.more, .int .i64 t.m, .bool t.s, .string t.nm, .int .i64 t.af, .string t.kg]] w fun e w' => ∃ v, e = .returned (.tuple #[v, .int .i64 (c.spE t)]) ∧ Ext w w' ∧ SpansAt w' v (c.spV t) := by
  cases hv : c.valid
  · have HE := Lib.hid (chk_no hv)
    have HR : Hid (c.spE t = 70) := by unfold Hid Cal.spE; rw [hv]; rfl
    have HV : Hid (c.spV t = []) := by unfold Hid Cal.spV; rw [HR.out]; rfl
    clear hv
    go_enter Tryd.func33, Tryd.ntmps33
    go_wp2_with (go_at_call 75; refine (checks_any _ _ _ _ c none 0 0 (fun _ => ⟨0, 0, false, 0⟩) _ (hC.ext (by repeat (first | exact Ext.refl _ | (refine Ext.alloc ?_ _) | (refine Ext.trans ?_ (by assumption))))) (rows_none _ _ _) (by omega)).mono ?_; rw [checks_none, HE.out]; rintro e wq ⟨rfl, hq⟩)
    go_ret2
    exact ⟨_, by rw [HR.out]; rfl, (by repeat (first | exact Ext.refl _ | (refine Ext.alloc ?_ _) | (refine Ext.trans ?_ (by assumption)))), by rw [HV.out]; exact spansAt_nil _⟩
  · have HE := Lib.hid (chk_yes hv)
    have HL := Lib.hid (valid_lg hv)
    have HY := Lib.hid (valid_ny hv)
    have HK := Lib.hid (valid_kg hv)
    cases hk : t.ok
    · have HO := Lib.hid hk
      have HR : Hid (c.spE t = 72) := by unfold Hid Cal.spE trChk; rw [hv, hk]; rfl
      have HV : Hid (c.spV t = []) := by unfold Hid Cal.spV; rw [HR.out]; rfl
      clear hv hk
      go_enter Tryd.func33, Tryd.ntmps33
      go_wp2_with (first | (go_at_call 75; refine (checks_any _ _ _ _ c none 0 0 (fun _ => ⟨0, 0, false, 0⟩) _ (hC.ext (by repeat (first | exact Ext.refl _ | (refine Ext.alloc ?_ _) | (refine Ext.trans ?_ (by assumption))))) (rows_none _ _ _) (by omega)).mono ?_; rw [checks_none, HE.out]; rintro e wq ⟨rfl, hq⟩; have htb := (Held.ext (b := w.heap.size + 1) (t := 33) (cs := #[.int .i64 t.d, .bool t.more, .int .i64 t.m, .bool t.s, .string t.nm, .int .i64 t.af, .string t.kg]) (by repeat (first | (refine Held.at _ _ _ _ ?_; (simp; done)) | refine Held.alloc ?_ _)) hq); obtain ⟨t0, t1, t2, t3, t4, t5, t6⟩ := htb.c7) | (go_at_call 76; refine (validTrace_any t _).mono ?_; rw [HO.out]; rintro e wn ⟨rfl, hn⟩))
      go_ret2
      exact ⟨_, by rw [HR.out]; rfl, (by repeat (first | exact Ext.refl _ | (refine Ext.alloc ?_ _) | (refine Ext.trans ?_ (by assumption)))), by rw [HV.out]; exact spansAt_nil _⟩
    · have HO := Lib.hid hk
      have HA := Lib.hid (ok_af hk)
      have HR : Hid (c.spE t = 0) := by unfold Hid Cal.spE trChk; rw [hv, hk]; rfl
      have HV : Hid (c.spV t = c.spans t) := by unfold Hid Cal.spV; rw [HR.out]; rfl
      clear hv hk
      go_enter Tryd.func33, Tryd.ntmps33
      go_wp2_with (first | (go_at_call 75; refine (checks_any _ _ _ _ c none 0 0 (fun _ => ⟨0, 0, false, 0⟩) _ (hC.ext (by repeat (first | exact Ext.refl _ | (refine Ext.alloc ?_ _) | (refine Ext.trans ?_ (by assumption))))) (rows_none _ _ _) (by omega)).mono ?_; rw [checks_none, HE.out]; rintro e wq ⟨rfl, hq⟩; have hcb := (Held.ext (b := w.heap.size) (t := 25) (cs := #[.slice A c.nk ca, .slice A' c.ny cb]) (by repeat (first | (refine Held.at _ _ _ _ ?_; (simp; done)) | refine Held.alloc ?_ _)) hq); obtain ⟨k0, k1⟩ := hcb.c2; have htb := (Held.ext (b := w.heap.size + 1) (t := 33) (cs := #[.int .i64 t.d, .bool t.more, .int .i64 t.m, .bool t.s, .string t.nm, .int .i64 t.af, .string t.kg]) (by repeat (first | (refine Held.at _ _ _ _ ?_; (simp; done)) | refine Held.alloc ?_ _)) hq); obtain ⟨t0, t1, t2, t3, t4, t5, t6⟩ := htb.c7) | (go_at_call 76; refine (validTrace_any t _).mono ?_; rw [HO.out]; rintro e wn ⟨rfl, hn⟩; obtain ⟨k0, k1⟩ := (hcb.ext hn).c2; obtain ⟨t0, t1, t2, t3, t4, t5, t6⟩ := (htb.ext hn).c7))
      refine (spans_any _ _ _ _ c t _ (hC.ext (by repeat (first | exact Ext.refl _ | (refine Ext.alloc ?_ _) | (refine Ext.trans ?_ (by assumption))))) HL.out HY.out HK.out HA.out.1 HA.out.2).mono ?_
      rintro e wm ⟨v, rfl, hm, hS⟩
      go_wp2
      go_ret2
      exact ⟨_, by rw [HR.out]; rfl, (by repeat (first | exact Ext.refl _ | (refine Ext.alloc ?_ _) | (refine Ext.trans ?_ (by assumption)))), by rw [HV.out]; exact hS⟩
set_option maxRecDepth 100000 in
set_option maxHeartbeats 2000000 in
theorem fitsX_any (A A' : Option Addr) (ca cb : Nat) (c : Cal) (t : Tr) (d : Dt) (w : World) (hC : CalAt w A ca A' cb c) :
    Calls Tryd.prog 36 #[.agg #[.slice A c.nk ca, .slice A' c.ny cb], .agg #[.int .i64 t.d, .bool t.more, .int .i64 t.m, .bool t.s, .string t.nm, .int .i64 t.af, .string t.kg], .agg #[.int .i64 d.y, .int .i64 d.m, .bool d.s, .int .i64 d.d]] w fun e w' => e = .returned (.tuple #[.bool (c.fitV t d), .int .i64 (c.fitE t d)]) ∧ Ext w w' := by
  rcases inE_cases c d with ⟨hv, hE⟩ | ⟨hv, hh, hE⟩ | ⟨hv, hh, hE⟩
  · have HE := Lib.hid hE
    have HR : Hid (c.fitE t d = 70) := by unfold Hid Cal.fitE; rw [hE]; rfl
    have HV : Hid (c.fitV t d = false) := by unfold Hid Cal.fitV; rw [HR.out]; rfl
    clear hE hv
    go_enter Tryd.func36, Tryd.ntmps36
    go_wp2_with (go_at_call 75; refine (checks_any _ _ _ _ c _ 1 1 (fun _ => d) _ (hC.ext (by repeat (first | exact Ext.refl _ | (refine Ext.alloc ?_ _) | (refine Ext.trans ?_ (by assumption))))) (rows_one (t := 39) (by repeat (first | (refine Held.at _ _ _ _ ?_; (simp; done)) | refine Held.alloc ?_ _))) (by omega)).mono ?_; rw [checks_one, HE.out]; rintro e wq ⟨rfl, hq⟩)
    go_ret2
    exact ⟨by rw [HR.out, HV.out]; rfl, (by repeat (first | exact Ext.refl _ | (refine Ext.alloc ?_ _) | (refine Ext.trans ?_ (by assumption))))⟩
  · have HE := Lib.hid hE
    have HR : Hid (c.fitE t d = 71) := by unfold Hid Cal.fitE; rw [hE]; rfl
    have HV : Hid (c.fitV t d = false) := by unfold Hid Cal.fitV; rw [HR.out]; rfl
    clear hE hv
    go_enter Tryd.func36, Tryd.ntmps36
    go_wp2_with (go_at_call 75; refine (checks_any _ _ _ _ c _ 1 1 (fun _ => d) _ (hC.ext (by repeat (first | exact Ext.refl _ | (refine Ext.alloc ?_ _) | (refine Ext.trans ?_ (by assumption))))) (rows_one (t := 39) (by repeat (first | (refine Held.at _ _ _ _ ?_; (simp; done)) | refine Held.alloc ?_ _))) (by omega)).mono ?_; rw [checks_one, HE.out]; rintro e wq ⟨rfl, hq⟩)
    go_ret2
    exact ⟨by rw [HR.out, HV.out]; rfl, (by repeat (first | exact Ext.refl _ | (refine Ext.alloc ?_ _) | (refine Ext.trans ?_ (by assumption))))⟩
  · have HE := Lib.hid hE
    have HL := Lib.hid (valid_lg hv)
    have hny := valid_ny hv
    have HK := Lib.hid (valid_kg hv)
    cases hk : t.ok
    · have HO := Lib.hid hk
      have HR : Hid (c.fitE t d = 72) := by unfold Hid Cal.fitE trChk; rw [hE, hk]; rfl
      have HV : Hid (c.fitV t d = false) := by unfold Hid Cal.fitV; rw [HR.out]; rfl
      clear hv hk hE hh
      go_enter Tryd.func36, Tryd.ntmps36
      go_wp2_with (first | (go_at_call 75; refine (checks_any _ _ _ _ c _ 1 1 (fun _ => d) _ (hC.ext (by repeat (first | exact Ext.refl _ | (refine Ext.alloc ?_ _) | (refine Ext.trans ?_ (by assumption))))) (rows_one (t := 39) (by repeat (first | (refine Held.at _ _ _ _ ?_; (simp; done)) | refine Held.alloc ?_ _))) (by omega)).mono ?_; rw [checks_one, HE.out]; rintro e wq ⟨rfl, hq⟩; have htb := (Held.ext (b := w.heap.size + 1) (t := 33) (cs := #[.int .i64 t.d, .bool t.more, .int .i64 t.m, .bool t.s, .string t.nm, .int .i64 t.af, .string t.kg]) (by repeat (first | (refine Held.at _ _ _ _ ?_; (simp; done)) | refine Held.alloc ?_ _)) hq); obtain ⟨t0, t1, t2, t3, t4, t5, t6⟩ := htb.c7) | (go_at_call 76; refine (validTrace_any t _).mono ?_; rw [HO.out]; rintro e wn ⟨rfl, hn⟩))
      go_ret2
      exact ⟨by rw [HR.out, HV.out]; rfl, (by repeat (first | exact Ext.refl _ | (refine Ext.alloc ?_ _) | (refine Ext.trans ?_ (by assumption))))⟩
    · have HO := Lib.hid hk
      have hA := ok_af hk
      have HR : Hid (c.fitE t d = 0) := by unfold Hid Cal.fitE trChk; rw [hE, hk]; rfl
      have HV : Hid (c.fitV t d = (c.inMonth t d.y d.m d.s && t.onDay d.d)) := by unfold Hid Cal.fitV; rw [HR.out]; rfl
      have hy : 0 ≤ d.y ∧ d.y < c.ny := by simp only [Cal.has, Bool.and_eq_true, decide_eq_true_eq] at hh; omega
      obtain ⟨i, m, s, dd⟩ := d
      obtain ⟨i, rfl⟩ := Int.eq_ofNat_of_zero_le hy.1
      have hi : i < c.ny := by have := hy.2; simp only at this; omega
      have hkx := HK.out i hi
      clear hv hk hE hh hy
      go_enter Tryd.func36, Tryd.ntmps36
      go_wp2_with (first | (go_at_call 75; refine (checks_any _ _ _ _ c _ 1 1 (fun _ => ⟨i, m, s, dd⟩) _ (hC.ext (by repeat (first | exact Ext.refl _ | (refine Ext.alloc ?_ _) | (refine Ext.trans ?_ (by assumption))))) (rows_one (d := ⟨i, m, s, dd⟩) (t := 39) (by repeat (first | (refine Held.at _ _ _ _ ?_; (simp; done)) | refine Held.alloc ?_ _))) (by omega)).mono ?_; rw [checks_one, HE.out]; rintro e wq ⟨rfl, hq⟩; have hcb := (Held.ext (b := w.heap.size) (t := 25) (cs := #[.slice A c.nk ca, .slice A' c.ny cb]) (by repeat (first | (refine Held.at _ _ _ _ ?_; (simp; done)) | refine Held.alloc ?_ _)) hq); have htb := (Held.ext (b := w.heap.size + 1) (t := 33) (cs := #[.int .i64 t.d, .bool t.more, .int .i64 t.m, .bool t.s, .string t.nm, .int .i64 t.af, .string t.kg]) (by repeat (first | (refine Held.at _ _ _ _ ?_; (simp; done)) | refine Held.alloc ?_ _)) hq); have hdb := (Held.ext (b := w.heap.size + 1 + 1) (t := 39) (cs := #[.int .i64 (i : Int), .int .i64 m, .bool s, .int .i64 dd]) (by repeat (first | (refine Held.at _ _ _ _ ?_; (simp; done)) | refine Held.alloc ?_ _)) hq); obtain ⟨t0, t1, t2, t3, t4, t5, t6⟩ := htb.c7) | (go_at_call 76; refine (validTrace_any t _).mono ?_; rw [HO.out]; rintro e wn ⟨rfl, hn⟩))
      have hcn := hcb.ext hn
      have htn := htb.ext hn
      have hdn := hdb.ext hn
      clear t0 t1 t2 t3 t4 t5 t6
      obtain ⟨t0, t1, t2, t3, t4, t5, t6⟩ := htn.c7
      obtain ⟨k0, k1⟩ := hcn.c2
      obtain ⟨e0, e1, e2, e3⟩ := hdn.c4
      have l0 := htn.lt
      have l1 := hcn.lt
      have l2 := hdn.lt
      have hCn := hC.ext (w' := wn) (by repeat (first | exact Ext.refl _ | (refine Ext.alloc ?_ _) | (refine Ext.trans ?_ (by assumption))))
      have hEn : Ext w wn := (by repeat (first | exact Ext.refl _ | (refine Ext.alloc ?_ _) | (refine Ext.trans ?_ (by assumption))))
      refine wp_region_xw wn mixed (by kernel_rfl) (by repeat (first | exact Ext.refl _ | (refine Ext.alloc ?_ _) | (refine Ext.trans ?_ (by assumption)))) ?_
      intro hne hrx hry
      try simp only []
      try simp only [List.append_eq, List.cons_append, List.nil_append]
      skip
      repeat (first
        | go_big_quiet_skip
        | ((with_reducible apply q_and)
           · exact rfl
           · exact rfl
           · exact rfl
           intro K hK
           unfold Then; go_big_quiet_op; (with_reducible refine hK _ ?_); clear hK K)
        | ((with_reducible apply q_or)
           · exact rfl
           · exact rfl
           · exact rfl
           intro K hK
           unfold Then; go_big_quiet_op; (with_reducible refine hK _ ?_); clear hK K)
        | (go_big_quiet_want; go_big_quiet_op; go_big_quiet_on)
        | (go_big_quiet_want; go_big_quiet_op; apply Exists.intro; refine ⟨fun u => ?_, ?_⟩
           · first
               | (go_at_call 85; refine (monthOf_any ⟨i, m, s, dd⟩ _).mono ?_; rintro e w' ⟨rfl, hb⟩; exact ⟨rfl, u.back hb⟩)
               | (go_at_call 84; refine (inMonth_any _ _ _ _ c t i _ _ _ (hCn.ext (Ext.trans (by repeat (first | exact Ext.refl _ | (refine Ext.alloc ?_ _) | (refine Ext.trans ?_ (by assumption)))) u.e)) hi hny hkx.1 hkx.2 hA.1 hA.2).mono ?_; rintro e w' ⟨rfl, hb⟩; exact ⟨rfl, u.back hb⟩)
               | (go_at_call 86; refine (onDay_any t _ _).mono ?_; rintro e w' ⟨rfl, hb⟩; exact ⟨rfl, u.back hb⟩)
           go_big_quiet_on)
        | ((with_reducible apply q_and_g)
           · first | exact wanted_pt rfl rfl rfl | exact wanted_pf rfl rfl rfl | exact wanted_gt rfl rfl rfl | exact wanted_gf rfl rfl rfl
           · exact rfl
           · exact rfl
           · exact rfl
           intro K hK
           unfold Then; go_big_quiet_op; (with_reducible refine hK _ ?_); clear hK K)
        | ((with_reducible apply q_or_g)
           · first | exact wanted_pt rfl rfl rfl | exact wanted_pf rfl rfl rfl | exact wanted_gt rfl rfl rfl | exact wanted_gf rfl rfl rfl
           · exact rfl
           · exact rfl
           · exact rfl
           intro K hK
           unfold Then; go_big_quiet_op; (with_reducible refine hK _ ?_); clear hK K)
        | ((with_reducible apply q_sym)
           · first | exact wanted_pt rfl rfl rfl | exact wanted_pf rfl rfl rfl | exact wanted_gt rfl rfl rfl | exact wanted_gf rfl rfl rfl
           apply Exists.intro
           refine And.intro (fun hgb => ?_) ?_
           · intro u
             try simp at hgb
             go_simp
             try simp only [if_pos hsl]
             try simp only [if_pos (hin (by omega))]
             try (simp only [hd0 (by omega)]; go_simp)
             try (rw [hlook _ (Ext.trans (by repeat (first | exact Ext.refl _ | (refine Ext.alloc ?_ _) | (refine Ext.trans ?_ (by assumption)))) u.e) (hlk0 hgb)]; go_simp)
             first
               | (with_reducible exact rfl)
               | (go_at_call 85; refine (monthOf_any ⟨i, m, s, dd⟩ _).mono ?_; rintro e w' ⟨rfl, hb⟩; exact ⟨rfl, u.back hb⟩)
               | (go_at_call 84; refine (inMonth_any _ _ _ _ c t i _ _ _ (hCn.ext (Ext.trans (by repeat (first | exact Ext.refl _ | (refine Ext.alloc ?_ _) | (refine Ext.trans ?_ (by assumption)))) u.e)) hi hny hkx.1 hkx.2 hA.1 hA.2).mono ?_; rintro e w' ⟨rfl, hb⟩; exact ⟨rfl, u.back hb⟩)
               | (go_at_call 86; refine (onDay_any t _ _).mono ?_; rintro e w' ⟨rfl, hb⟩; exact ⟨rfl, u.back hb⟩)
           intro K hK
           unfold Then; go_big_quiet_op; (with_reducible refine hK _ ?_); clear hK K))
      clear hne hry hrx
      refine wpQuiet_nil ?_
      intro wz hz
      obtain ⟨hcwz, hfwz, hzwz⟩ := Ext.rules hz
      try simp only [World.size_alloc] at hzwz
      obtain ⟨hcbwz, hfbwz, hzbwz⟩ := Ext.rules (show Ext wn wz from (by repeat (first | exact Ext.refl _ | (refine Ext.alloc ?_ _) | (refine Ext.trans ?_ (by assumption)))))
      clear hcwz hfwz
      go_wp2
      go_ret2
      exact ⟨by rw [HR.out, HV.out]; rfl, hEn.trans hz⟩
end Go.Proofs.YtfchchmmjabjnaaDoor
