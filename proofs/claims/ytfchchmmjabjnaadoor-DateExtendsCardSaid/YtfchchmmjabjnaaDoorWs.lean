/- The walks of At and Add. -/
import Derived.Test.YtfchchmmjabjnaaDoorWr
import Derived.Test.YtfchchmmjabjnaaDoorPl2
namespace Go.Proofs.YtfchchmmjabjnaaDoor
open Go Go.RowKit Go.Shelf
attribute [local go_sem] gv_yes Dt.val

theorem four_set {W : World} {b : Nat} {t : TypeId} {v0 v1 v2 v3 : Value} (h : Held W b t #[v0, v1, v2, v3]) (u0 u1 u2 u3 : Value) :
    ((((((W.setCell ⟨b, 0, none⟩ u0).setCell ⟨b, 1, none⟩ u1).setCell ⟨b, 2, none⟩ u2).setCell ⟨b, 3, none⟩ u3).cell? ⟨b, 0, none⟩ = some u0) ∧ (((((W.setCell ⟨b, 0, none⟩ u0).setCell ⟨b, 1, none⟩ u1).setCell ⟨b, 2, none⟩ u2).setCell ⟨b, 3, none⟩ u3).cell? ⟨b, 1, none⟩ = some u1) ∧
      (((((W.setCell ⟨b, 0, none⟩ u0).setCell ⟨b, 1, none⟩ u1).setCell ⟨b, 2, none⟩ u2).setCell ⟨b, 3, none⟩ u3).cell? ⟨b, 2, none⟩ = some u2) ∧ (((((W.setCell ⟨b, 0, none⟩ u0).setCell ⟨b, 1, none⟩ u1).setCell ⟨b, 2, none⟩ u2).setCell ⟨b, 3, none⟩ u3).cell? ⟨b, 3, none⟩ = some u3)) ∧
    ∀ wd, Ext wd W → wd.heap.size ≤ b → Ext wd ((((W.setCell ⟨b, 0, none⟩ u0).setCell ⟨b, 1, none⟩ u1).setCell ⟨b, 2, none⟩ u2).setCell ⟨b, 3, none⟩ u3) :=
  ⟨(held_set4 h u0 u1 u2 u3).c4, fun _ e h1 => (((e.setCell h1 _).setCell h1 _).setCell h1 _).setCell h1 _⟩
set_option maxRecDepth 100000 in
set_option maxHeartbeats 1000000 in
theorem atX_any (A A' : Option Addr) (ca cb : Nat) (c : Cal) (n : Int) (w : World) (hC : CalAt w A ca A' cb c) (hn1 : -9223372036854775808 ≤ n) (hn2 : n ≤ 9223372036854775807) :
    Calls Tryd.prog 39 #[.agg #[.slice A c.nk ca, .slice A' c.ny cb], .int .i64 n] w fun e w' => e = .returned (.tuple #[(c.atV n).val, .int .i64 (c.atE n)]) ∧ Ext w w' := by
  cases hv : c.valid
  · have HE := Lib.hid (chk_no hv)
    have HV : Hid (c.atV n = zeroDt) := by unfold Hid Cal.atV; rw [hv]; rfl
    have HR : Hid (c.atE n = 70) := by unfold Hid Cal.atE; rw [hv]; rfl
    clear hv
    go_enter Tryd.func39, Tryd.ntmps39
    go_wp2_with (go_at_call 75; refine (checks_any _ _ _ _ c none 0 0 (fun _ => ⟨0, 0, false, 0⟩) _ (hC.ext (by repeat (first | exact Ext.refl _ | (refine Ext.alloc ?_ _) | (refine Ext.trans ?_ (by assumption))))) (rows_none _ _ _) (by omega)).mono ?_; rw [checks_none, HE.out]; rintro e wq ⟨rfl, hq⟩; have hrb := (Held.ext (b := w.heap.size + 1) (t := 39) (cs := #[.int .i64 0, .int .i64 0, .bool false, .int .i64 0]) (by repeat (first | (refine Held.at _ _ _ _ ?_; (simp; done)) | refine Held.alloc ?_ _)) hq); obtain ⟨r0, r1, r2, r3⟩ := hrb.c4; have f0 := hrb.frozen 0; have f1 := hrb.frozen 1; have f2 := hrb.frozen 2; have f3 := hrb.frozen 3)
    obtain ⟨⟨c0, c1, c2, c3⟩, gE⟩ := four_set hrb (.int .i64 0) (.int .i64 0) (.bool false) (.int .i64 0)
    refine bodyPost_ret (v := .tuple #[.agg #[.int .i64 0, .int .i64 0, .bool false, .int .i64 0], .int .i64 70]) (by simp [results, Tryd.results39, go_sem, c0, c1, c2, c3]) rfl ⟨by rw [HV.out, HR.out]; rfl, gE w (by repeat (first | exact Ext.refl _ | (refine Ext.alloc ?_ _) | (refine Ext.trans ?_ (by assumption)))) (by omega)⟩
  · have HE := Lib.hid (chk_yes hv)
    have HL := Lib.hid (valid_lg hv)
    have HY := Lib.hid (valid_ny hv)
    have HV : Hid (c.atV n = (c.at? n).getD zeroDt) := by unfold Hid Cal.atV; rw [hv]; rfl
    have HR : Hid (c.atE n = atOk (c.at? n)) := by unfold Hid Cal.atE; rw [hv]; rfl
    clear hv
    go_enter Tryd.func39, Tryd.ntmps39
    go_wp2_with (go_at_call 75; refine (checks_any _ _ _ _ c none 0 0 (fun _ => ⟨0, 0, false, 0⟩) _ (hC.ext (by repeat (first | exact Ext.refl _ | (refine Ext.alloc ?_ _) | (refine Ext.trans ?_ (by assumption))))) (rows_none _ _ _) (by omega)).mono ?_; rw [checks_none, HE.out]; rintro e wq ⟨rfl, hq⟩; obtain ⟨k0, k1⟩ := (Held.ext (b := w.heap.size) (t := 25) (cs := #[.slice A c.nk ca, .slice A' c.ny cb]) (by repeat (first | (refine Held.at _ _ _ _ ?_; (simp; done)) | refine Held.alloc ?_ _)) hq).c2; have hrb := (Held.ext (b := w.heap.size + 1) (t := 39) (cs := #[.int .i64 0, .int .i64 0, .bool false, .int .i64 0]) (by repeat (first | (refine Held.at _ _ _ _ ?_; (simp; done)) | refine Held.alloc ?_ _)) hq); obtain ⟨r0, r1, r2, r3⟩ := hrb.c4; have f0 := hrb.frozen 0; have f1 := hrb.frozen 1; have f2 := hrb.frozen 2; have f3 := hrb.frozen 3)
    refine (at_any _ _ _ _ c n _ (hC.ext (by repeat (first | exact Ext.refl _ | (refine Ext.alloc ?_ _) | (refine Ext.trans ?_ (by assumption))))) HL.out HY.out hn1 hn2).mono ?_
    rintro e wn ⟨rfl, hn⟩
    clear r0 r1 r2 r3 f0 f1 f2 f3
    have hrb := hrb.ext hn
    obtain ⟨r0, r1, r2, r3⟩ := hrb.c4
    have f0 := hrb.frozen 0
    have f1 := hrb.frozen 1
    have f2 := hrb.frozen 2
    have f3 := hrb.frozen 3
    generalize (c.at? n).getD zeroDt = dd at *
    generalize atOk (c.at? n) = ee at *
    go_wp2
    obtain ⟨⟨c0, c1, c2, c3⟩, gE⟩ := four_set hrb (.int .i64 dd.y) (.int .i64 dd.m) (.bool dd.s) (.int .i64 dd.d)
    refine bodyPost_ret (v := .tuple #[.agg #[.int .i64 dd.y, .int .i64 dd.m, .bool dd.s, .int .i64 dd.d], .int .i64 ee]) (by simp [results, Tryd.results39, go_sem, c0, c1, c2, c3]) rfl ⟨by rw [HV.out, HR.out]; rfl, gE w (by repeat (first | exact Ext.refl _ | (refine Ext.alloc ?_ _) | (refine Ext.trans ?_ (by assumption)))) (by omega)⟩
set_option maxRecDepth 100000 in
set_option maxHeartbeats 2000000 in
theorem addX_any (A A' : Option Addr) (ca cb : Nat) (c : Cal) (d : Dt) (n : Int) (w : World) (hC : CalAt w A ca A' cb c) :
    Calls Tryd.prog 42 #[.agg #[.slice A c.nk ca, .slice A' c.ny cb], .agg #[.int .i64 d.y, .int .i64 d.m, .bool d.s, .int .i64 d.d], .int .i64 n] w fun e w' => e = .returned (.tuple #[(c.addV d n).val, .int .i64 (c.addE d n)]) ∧ Ext w w' := by
  rcases inE_cases c d with ⟨hv, hE⟩ | ⟨hv, hh, hE⟩ | ⟨hv, hh, hE⟩
  · have HE := Lib.hid hE
    have HV : Hid (c.addV d n = zeroDt) := by unfold Hid Cal.addV; rw [hE]; rfl
    have HR : Hid (c.addE d n = 70) := by unfold Hid Cal.addE; rw [hE]; rfl
    clear hE hv
    go_enter Tryd.func42, Tryd.ntmps42
    go_wp2_with (go_at_call 75; refine (checks_any _ _ _ _ c _ 1 1 (fun _ => d) _ (hC.ext (by repeat (first | exact Ext.refl _ | (refine Ext.alloc ?_ _) | (refine Ext.trans ?_ (by assumption))))) (rows_one (t := 39) (by repeat (first | (refine Held.at _ _ _ _ ?_; (simp; done)) | refine Held.alloc ?_ _))) (by omega)).mono ?_; rw [checks_one, HE.out]; rintro e wq ⟨rfl, hq⟩; have hrb := (Held.ext (b := w.heap.size + 1 + 1) (t := 39) (cs := #[.int .i64 0, .int .i64 0, .bool false, .int .i64 0]) (by repeat (first | (refine Held.at _ _ _ _ ?_; (simp; done)) | refine Held.alloc ?_ _)) hq); obtain ⟨r0, r1, r2, r3⟩ := hrb.c4; have f0 := hrb.frozen 0; have f1 := hrb.frozen 1; have f2 := hrb.frozen 2; have f3 := hrb.frozen 3)
    obtain ⟨⟨c0, c1, c2, c3⟩, gE⟩ := four_set hrb (.int .i64 0) (.int .i64 0) (.bool false) (.int .i64 0)
    refine bodyPost_ret (v := .tuple #[.agg #[.int .i64 0, .int .i64 0, .bool false, .int .i64 0], .int .i64 70]) (by simp [results, Tryd.results42, go_sem, c0, c1, c2, c3]) rfl ⟨by rw [HV.out, HR.out]; rfl, gE w (by repeat (first | exact Ext.refl _ | (refine Ext.alloc ?_ _) | (refine Ext.trans ?_ (by assumption)))) (by omega)⟩
  · have HE := Lib.hid hE
    have HV : Hid (c.addV d n = zeroDt) := by unfold Hid Cal.addV; rw [hE]; rfl
    have HR : Hid (c.addE d n = 71) := by unfold Hid Cal.addE; rw [hE]; rfl
    clear hE hv
    go_enter Tryd.func42, Tryd.ntmps42
    go_wp2_with (go_at_call 75; refine (checks_any _ _ _ _ c _ 1 1 (fun _ => d) _ (hC.ext (by repeat (first | exact Ext.refl _ | (refine Ext.alloc ?_ _) | (refine Ext.trans ?_ (by assumption))))) (rows_one (t := 39) (by repeat (first | (refine Held.at _ _ _ _ ?_; (simp; done)) | refine Held.alloc ?_ _))) (by omega)).mono ?_; rw [checks_one, HE.out]; rintro e wq ⟨rfl, hq⟩; have hrb := (Held.ext (b := w.heap.size + 1 + 1) (t := 39) (cs := #[.int .i64 0, .int .i64 0, .bool false, .int .i64 0]) (by repeat (first | (refine Held.at _ _ _ _ ?_; (simp; done)) | refine Held.alloc ?_ _)) hq); obtain ⟨r0, r1, r2, r3⟩ := hrb.c4; have f0 := hrb.frozen 0; have f1 := hrb.frozen 1; have f2 := hrb.frozen 2; have f3 := hrb.frozen 3)
    obtain ⟨⟨c0, c1, c2, c3⟩, gE⟩ := four_set hrb (.int .i64 0) (.int .i64 0) (.bool false) (.int .i64 0)
    refine bodyPost_ret (v := .tuple #[.agg #[.int .i64 0, .int .i64 0, .bool false, .int .i64 0], .int .i64 71]) (by simp [results, Tryd.results42, go_sem, c0, c1, c2, c3]) rfl ⟨by rw [HV.out, HR.out]; rfl, gE w (by repeat (first | exact Ext.refl _ | (refine Ext.alloc ?_ _) | (refine Ext.trans ?_ (by assumption)))) (by omega)⟩
  · have HE := Lib.hid hE
    by_cases hr : 156000 < n ∨ n < -156000
    · have hno := add_out hh (valid_ny hv) hr
      have HV : Hid (c.addV d n = zeroDt) := by unfold Hid Cal.addV; rw [hE, hno]; rfl
      have HR : Hid (c.addE d n = 8) := by unfold Hid Cal.addE; rw [hE, hno]; rfl
      clear hE hv hh hno
      by_cases h1 : 156000 < n
      · have hb : decide (156000 < n) = true := decide_eq_true h1
        clear hr
        go_enter Tryd.func42, Tryd.ntmps42
        go_wp2_with (go_at_call 75; refine (checks_any _ _ _ _ c _ 1 1 (fun _ => d) _ (hC.ext (by repeat (first | exact Ext.refl _ | (refine Ext.alloc ?_ _) | (refine Ext.trans ?_ (by assumption))))) (rows_one (t := 39) (by repeat (first | (refine Held.at _ _ _ _ ?_; (simp; done)) | refine Held.alloc ?_ _))) (by omega)).mono ?_; rw [checks_one, HE.out]; rintro e wq ⟨rfl, hq⟩; have hrb := (Held.ext (b := w.heap.size + 1 + 1) (t := 39) (cs := #[.int .i64 0, .int .i64 0, .bool false, .int .i64 0]) (by repeat (first | (refine Held.at _ _ _ _ ?_; (simp; done)) | refine Held.alloc ?_ _)) hq); obtain ⟨r0, r1, r2, r3⟩ := hrb.c4; have f0 := hrb.frozen 0; have f1 := hrb.frozen 1; have f2 := hrb.frozen 2; have f3 := hrb.frozen 3)
        obtain ⟨⟨c0, c1, c2, c3⟩, gE⟩ := four_set hrb (.int .i64 0) (.int .i64 0) (.bool false) (.int .i64 0)
        refine bodyPost_ret (v := .tuple #[.agg #[.int .i64 0, .int .i64 0, .bool false, .int .i64 0], .int .i64 8]) (by simp [results, Tryd.results42, go_sem, c0, c1, c2, c3]) rfl ⟨by rw [HV.out, HR.out]; rfl, gE w (by repeat (first | exact Ext.refl _ | (refine Ext.alloc ?_ _) | (refine Ext.trans ?_ (by assumption)))) (by omega)⟩
      · have hb : decide (156000 < n) = false := decide_eq_false h1
        have hb2 : decide (n < -156000) = true := decide_eq_true (by omega)
        clear hr h1
        go_enter Tryd.func42, Tryd.ntmps42
        go_wp2_with (go_at_call 75; refine (checks_any _ _ _ _ c _ 1 1 (fun _ => d) _ (hC.ext (by repeat (first | exact Ext.refl _ | (refine Ext.alloc ?_ _) | (refine Ext.trans ?_ (by assumption))))) (rows_one (t := 39) (by repeat (first | (refine Held.at _ _ _ _ ?_; (simp; done)) | refine Held.alloc ?_ _))) (by omega)).mono ?_; rw [checks_one, HE.out]; rintro e wq ⟨rfl, hq⟩; have hrb := (Held.ext (b := w.heap.size + 1 + 1) (t := 39) (cs := #[.int .i64 0, .int .i64 0, .bool false, .int .i64 0]) (by repeat (first | (refine Held.at _ _ _ _ ?_; (simp; done)) | refine Held.alloc ?_ _)) hq); obtain ⟨r0, r1, r2, r3⟩ := hrb.c4; have f0 := hrb.frozen 0; have f1 := hrb.frozen 1; have f2 := hrb.frozen 2; have f3 := hrb.frozen 3)
        obtain ⟨⟨c0, c1, c2, c3⟩, gE⟩ := four_set hrb (.int .i64 0) (.int .i64 0) (.bool false) (.int .i64 0)
        refine bodyPost_ret (v := .tuple #[.agg #[.int .i64 0, .int .i64 0, .bool false, .int .i64 0], .int .i64 8]) (by simp [results, Tryd.results42, go_sem, c0, c1, c2, c3]) rfl ⟨by rw [HV.out, HR.out]; rfl, gE w (by repeat (first | exact Ext.refl _ | (refine Ext.alloc ?_ _) | (refine Ext.trans ?_ (by assumption)))) (by omega)⟩
    · have h1 : n ≤ 156000 := by omega
      have h2 : -156000 ≤ n := by omega
      have hb : decide (156000 < n) = false := decide_eq_false (by omega)
      have hb2 : decide (n < -156000) = false := decide_eq_false (by omega)
      have HL := Lib.hid (valid_lg hv)
      have hny := valid_ny hv
      have HY := Lib.hid hny
      have hnm := num_le hh
      have hda := dayAt_bd c c.ny
      obtain ⟨hn1, hn2⟩ := hnm
      have hn3 : (c.num d).1 ≤ 156000 := by omega
      have HD := Lib.hid (has_day hh)
      have HV : Hid (c.addV d n = (c.at? ((c.num d).1 + n)).getD zeroDt) := by unfold Hid Cal.addV; rw [hE]; rfl
      have HR : Hid (c.addE d n = atOk (c.at? ((c.num d).1 + n))) := by unfold Hid Cal.addE; rw [hE]; rfl
      clear hE hv hh hr hn2 hda
      go_enter Tryd.func42, Tryd.ntmps42
      go_wp2_with (go_at_call 75; refine (checks_any _ _ _ _ c _ 1 1 (fun _ => d) _ (hC.ext (by repeat (first | exact Ext.refl _ | (refine Ext.alloc ?_ _) | (refine Ext.trans ?_ (by assumption))))) (rows_one (t := 39) (by repeat (first | (refine Held.at _ _ _ _ ?_; (simp; done)) | refine Held.alloc ?_ _))) (by omega)).mono ?_; rw [checks_one, HE.out]; rintro e wq ⟨rfl, hq⟩; have hcb := (Held.ext (b := w.heap.size) (t := 25) (cs := #[.slice A c.nk ca, .slice A' c.ny cb]) (by repeat (first | (refine Held.at _ _ _ _ ?_; (simp; done)) | refine Held.alloc ?_ _)) hq); obtain ⟨k0, k1⟩ := hcb.c2; obtain ⟨e0, e1, e2, e3⟩ := (Held.ext (b := w.heap.size + 1) (t := 39) (cs := #[.int .i64 d.y, .int .i64 d.m, .bool d.s, .int .i64 d.d]) (by repeat (first | (refine Held.at _ _ _ _ ?_; (simp; done)) | refine Held.alloc ?_ _)) hq).c4; have hrb := (Held.ext (b := w.heap.size + 1 + 1) (t := 39) (cs := #[.int .i64 0, .int .i64 0, .bool false, .int .i64 0]) (by repeat (first | (refine Held.at _ _ _ _ ?_; (simp; done)) | refine Held.alloc ?_ _)) hq); obtain ⟨r0, r1, r2, r3⟩ := hrb.c4; have f0 := hrb.frozen 0; have f1 := hrb.frozen 1; have f2 := hrb.frozen 2; have f3 := hrb.frozen 3)
      refine (number_any _ _ _ _ c d _ (hC.ext (by repeat (first | exact Ext.refl _ | (refine Ext.alloc ?_ _) | (refine Ext.trans ?_ (by assumption))))) HL.out HY.out HD.out).mono ?_
      rintro e wn ⟨rfl, hn⟩
      obtain ⟨k0, k1⟩ := (hcb.ext hn).c2
      generalize (c.num d).1 = nn at *
      go_wp2_with (fail)
      refine (at_any _ _ _ _ c (nn + n) _ (hC.ext (by repeat (first | exact Ext.refl _ | (refine Ext.alloc ?_ _) | (refine Ext.trans ?_ (by assumption))))) HL.out HY.out (by omega) (by omega)).mono ?_
      rintro e wm ⟨rfl, hm⟩
      clear r0 r1 r2 r3 f0 f1 f2 f3
      have hrb := (hrb.ext hn).ext hm
      obtain ⟨r0, r1, r2, r3⟩ := hrb.c4
      have f0 := hrb.frozen 0
      have f1 := hrb.frozen 1
      have f2 := hrb.frozen 2
      have f3 := hrb.frozen 3
      generalize (c.at? (nn + n)).getD zeroDt = dd at *
      generalize atOk (c.at? (nn + n)) = ee at *
      go_wp2
      obtain ⟨⟨c0, c1, c2, c3⟩, gE⟩ := four_set hrb (.int .i64 dd.y) (.int .i64 dd.m) (.bool dd.s) (.int .i64 dd.d)
      refine bodyPost_ret (v := .tuple #[.agg #[.int .i64 dd.y, .int .i64 dd.m, .bool dd.s, .int .i64 dd.d], .int .i64 ee]) (by simp [results, Tryd.results42, go_sem, c0, c1, c2, c3]) rfl ⟨by rw [HV.out, HR.out]; rfl, gE w (by repeat (first | exact Ext.refl _ | (refine Ext.alloc ?_ _) | (refine Ext.trans ?_ (by assumption)))) (by omega)⟩
end Go.Proofs.YtfchchmmjabjnaaDoor
