/- The walks of Number, At, Add, Between and Scheme. -/
import Derived.Test.YtfchchmmjabjnaaDoorWq
namespace Go.Proofs.YtfchchmmjabjnaaDoor
open Go Go.RowKit Go.Shelf
attribute [local go_sem] gv_yes

theorem runs_ok {c : Cal} {i : Nat} (hi : i < c.ny) : ∀ (k : Nat), k ≤ 12 → ∀ x, x ∈ runs i (c.yr i) (c.dayAt i) ((c.yr i).moTo k) → c.okIt x
  | 0, _, x, hx => by simp [Yr.moTo, runs] at hx
  | k + 1, hk, x, hx => by
    rw [moTo_succ, runs_append, List.mem_append] at hx
    rcases hx with hx | hx
    · exact runs_ok hi k (by omega) x hx
    · by_cases h : (c.yr i).db = (k : Int) + 1
      · rw [if_pos h] at hx
        rcases List.mem_cons.1 hx with rfl | hx
        · exact it1_ok hi (by omega)
        · rcases List.mem_cons.1 hx with rfl | hx
          · exact it2_ok hi (by omega)
          · cases hx
      · rw [if_neg h] at hx
        rcases List.mem_cons.1 hx with rfl | hx
        · exact it1_ok hi (by omega)
        · cases hx
theorem itemsTo_ok (c : Cal) : ∀ i : Nat, i ≤ c.ny → ∀ x, x ∈ c.itemsTo i → c.okIt x
  | 0, _, x, hx => by cases hx
  | i + 1, hi, x, hx => by
    rw [Cal.itemsTo, List.mem_append] at hx
    rcases hx with hx | hx
    · exact itemsTo_ok c i (by omega) x hx
    · exact runs_ok (by omega) 12 (by omega) x hx
theorem items_ok (c : Cal) : ∀ x, x ∈ c.items → c.okIt x := itemsTo_ok c c.ny (Nat.le_refl _)
theorem checks_one (c : Cal) (d : Dt) : c.checks (fun _ => d) 1 = c.inE d := by simp [Cal.checks, Cal.inE]
def two (a b : Dt) (i : Nat) : Dt := if i = 0 then a else b
theorem checks_two (c : Cal) (a b : Dt) : c.checks (two a b) 2 = c.in2E a b := by
  simp only [Cal.checks, Cal.in2E, show List.range 2 = [0, 1] from rfl, List.all_cons, List.all_nil, Bool.and_true]
  rfl
theorem inE_cases (c : Cal) (d : Dt) : (c.valid = false ∧ c.inE d = 70) ∨ (c.valid = true ∧ c.has d = false ∧ c.inE d = 71) ∨ (c.valid = true ∧ c.has d = true ∧ c.inE d = 0) := by
  unfold Cal.inE
  cases c.valid <;> cases c.has d <;> simp
theorem in2E_cases (c : Cal) (a b : Dt) : (c.valid = false ∧ c.in2E a b = 70) ∨ (c.valid = true ∧ (c.has a && c.has b) = false ∧ c.in2E a b = 71) ∨ (c.valid = true ∧ (c.has a && c.has b) = true ∧ c.in2E a b = 0) := by
  unfold Cal.in2E
  cases c.valid <;> cases c.has a <;> cases c.has b <;> simp
theorem has_day {c : Cal} {d : Dt} (h : c.has d = true) : 1 ≤ d.d ∧ d.d ≤ 30 := by
  simp only [Cal.has, Bool.and_eq_true, decide_eq_true_eq] at h
  have := len_29 (c.yrI d.y) d.m d.s
  omega
theorem valid_kg {c : Cal} (h : c.valid = true) : ∀ i, i < c.ny → 0 ≤ (c.yr i).k ∧ (c.yr i).k < c.nk := fun i hi => by
  simp only [Cal.valid, Bool.and_eq_true, List.all_eq_true, List.mem_range] at h
  have h2 : YearsTo c c.ny := h.2
  have h1 := h2 i hi
  have h3 := prevK_nn (c := c) (k := i) (fun j hj => h2 j (by omega))
  simp only [Cal.yearOk, Bool.and_eq_true, decide_eq_true_eq] at h1
  omega
theorem rows_one {w : World} {b : Nat} {t : TypeId} {d : Dt} (h : Held w b t #[.int .i64 d.y, .int .i64 d.m, .bool d.s, .int .i64 d.d]) : RowsAt w (some ⟨b, 0, none⟩) 1 4 (fun _ => dcells d) := fun _ =>
  ⟨b, 0, rfl, h.lt, fun i j v hi hv => by
    obtain rfl : i = 0 := by omega
    rw [show 0 + 0 * 4 + j = j by omega, h.cell j, List.getElem?_toArray]; exact hv⟩
theorem rows_two {w : World} {b : Nat} {t : TypeId} {x y : Dt} (h : Held w b t #[.int .i64 x.y, .int .i64 x.m, .bool x.s, .int .i64 x.d, .int .i64 y.y, .int .i64 y.m, .bool y.s, .int .i64 y.d]) : RowsAt w (some ⟨b, 0, none⟩) 2 4 (fun i => dcells (two x y i)) := fun _ =>
  ⟨b, 0, rfl, h.lt, fun i j v hi hv => by
    have hj : j < 4 := (List.getElem?_eq_some_iff.1 hv).1
    rw [Nat.zero_add, h.cell]
    match i, j, hi, hj, hv with
    | 0, 0, _, _, hv => exact hv
    | 0, 1, _, _, hv => exact hv
    | 0, 2, _, _, hv => exact hv
    | 0, 3, _, _, hv => exact hv
    | 1, 0, _, _, hv => exact hv
    | 1, 1, _, _, hv => exact hv
    | 1, 2, _, _, hv => exact hv
    | 1, 3, _, _, hv => exact hv⟩
set_option maxRecDepth 100000 in
set_option maxHeartbeats 1000000 in
theorem numberX_any (A A' : Option Addr) (ca cb : Nat) (c : Cal) (d : Dt) (w : World) (hC : CalAt w A ca A' cb c) :
    Calls Tryd.prog 29 #[.agg #[.slice A c.nk ca, .slice A' c.ny cb], .agg #[.int .i64 d.y, .int .i64 d.m, .bool d.s, .int .i64 d.d]] w fun e w' => e = .returned (.tuple #[.int .i64 (c.numV d), .int .i64 (c.inE d)]) ∧ Ext w w' := by
  rcases inE_cases c d with ⟨hv, hE⟩ | ⟨hv, hh, hE⟩ | ⟨hv, hh, hE⟩
  · have HE := Lib.hid hE
    have HV : Hid (c.numV d = 0) := by unfold Hid Cal.numV; rw [hE]; rfl
    clear hE hv
    go_enter Tryd.func29, Tryd.ntmps29
    go_wp2_with (go_at_call 75; refine (checks_any _ _ _ _ c _ 1 1 (fun _ => d) _ (hC.ext (by repeat (first | exact Ext.refl _ | (refine Ext.alloc ?_ _) | (refine Ext.trans ?_ (by assumption))))) (rows_one (t := 39) (by repeat (first | (refine Held.at _ _ _ _ ?_; (simp; done)) | refine Held.alloc ?_ _))) (by omega)).mono ?_; rw [checks_one, HE.out]; rintro e wq ⟨rfl, hq⟩)
    go_ret2
    exact ⟨by rw [HE.out, HV.out]; rfl, (by repeat (first | exact Ext.refl _ | (refine Ext.alloc ?_ _) | (refine Ext.trans ?_ (by assumption))))⟩
  · have HE := Lib.hid hE
    have HV : Hid (c.numV d = 0) := by unfold Hid Cal.numV; rw [hE]; rfl
    clear hE hv
    go_enter Tryd.func29, Tryd.ntmps29
    go_wp2_with (go_at_call 75; refine (checks_any _ _ _ _ c _ 1 1 (fun _ => d) _ (hC.ext (by repeat (first | exact Ext.refl _ | (refine Ext.alloc ?_ _) | (refine Ext.trans ?_ (by assumption))))) (rows_one (t := 39) (by repeat (first | (refine Held.at _ _ _ _ ?_; (simp; done)) | refine Held.alloc ?_ _))) (by omega)).mono ?_; rw [checks_one, HE.out]; rintro e wq ⟨rfl, hq⟩)
    go_ret2
    exact ⟨by rw [HE.out, HV.out]; rfl, (by repeat (first | exact Ext.refl _ | (refine Ext.alloc ?_ _) | (refine Ext.trans ?_ (by assumption))))⟩
  · have HE := Lib.hid hE
    have HV : Hid (c.numV d = (c.num d).1) := by unfold Hid Cal.numV; rw [hE]; rfl
    have HL := Lib.hid (valid_lg hv)
    have HY := Lib.hid (valid_ny hv)
    have HD := Lib.hid (has_day hh)
    clear hE hv hh
    go_enter Tryd.func29, Tryd.ntmps29
    go_wp2_with (go_at_call 75; refine (checks_any _ _ _ _ c _ 1 1 (fun _ => d) _ (hC.ext (by repeat (first | exact Ext.refl _ | (refine Ext.alloc ?_ _) | (refine Ext.trans ?_ (by assumption))))) (rows_one (t := 39) (by repeat (first | (refine Held.at _ _ _ _ ?_; (simp; done)) | refine Held.alloc ?_ _))) (by omega)).mono ?_; rw [checks_one, HE.out]; rintro e wq ⟨rfl, hq⟩; obtain ⟨k0, k1⟩ := (Held.ext (b := w.heap.size) (t := 25) (cs := #[.slice A c.nk ca, .slice A' c.ny cb]) (by repeat (first | (refine Held.at _ _ _ _ ?_; (simp; done)) | refine Held.alloc ?_ _)) hq).c2; obtain ⟨e0, e1, e2, e3⟩ := (Held.ext (b := w.heap.size + 1) (t := 39) (cs := #[.int .i64 d.y, .int .i64 d.m, .bool d.s, .int .i64 d.d]) (by repeat (first | (refine Held.at _ _ _ _ ?_; (simp; done)) | refine Held.alloc ?_ _)) hq).c4)
    refine (number_any _ _ _ _ c d _ (hC.ext (by repeat (first | exact Ext.refl _ | (refine Ext.alloc ?_ _) | (refine Ext.trans ?_ (by assumption))))) HL.out HY.out HD.out).mono ?_
    rintro e wn ⟨rfl, hn⟩
    go_wp2
    go_ret2
    exact ⟨by rw [HE.out, HV.out]; rfl, (by repeat (first | exact Ext.refl _ | (refine Ext.alloc ?_ _) | (refine Ext.trans ?_ (by assumption))))⟩
theorem num_bd (c : Cal) (d : Dt) (h1 : 1 ≤ d.d) (h2 : d.d ≤ 30) : 0 ≤ (c.num d).1 ∧ (c.num d).1 ≤ 390 * (c.ny : Int) + 421 ∧ 0 ≤ (c.num d).2 ∧ (c.num d).2 ≤ 13 * (c.ny : Int) := by
  have hi : ∀ x, x ∈ c.items → c.okIt x := items_ok c
  have hl := itemsTo_length c c.ny
  have h : ∀ (l : List It) (k : Int), 0 ≤ k → (∀ x, x ∈ l → c.okIt x) → 0 ≤ (numFrom d l k).1 ∧ (numFrom d l k).1 ≤ 390 * (c.ny : Int) + 421 ∧ 0 ≤ (numFrom d l k).2 ∧ (numFrom d l k).2 ≤ k + l.length := by
    intro l
    induction l with
    | nil => intro k hk _; simp [numFrom]; omega
    | cons x l ih =>
      intro k hk hx
      have hx0 := hx x (List.mem_cons_self ..)
      have f1 := hx0.f1
      have f2 := hx0.f2
      have := ih (k + 1) (by omega) (fun y hy => hx y (List.mem_cons_of_mem _ hy))
      rw [numFrom, List.length_cons]
      split
      · simp only; omega
      · omega
  have := h c.items 0 (by omega) hi
  have e : (c.items.length : Int) ≤ 13 * (c.ny : Int) := by unfold Cal.items; omega
  unfold Cal.num
  omega
set_option maxRecDepth 100000 in
set_option maxHeartbeats 2000000 in
theorem betweenX_any (A A' : Option Addr) (ca cb : Nat) (c : Cal) (a b : Dt) (w : World) (hC : CalAt w A ca A' cb c) :
    Calls Tryd.prog 31 #[.agg #[.slice A c.nk ca, .slice A' c.ny cb], .agg #[.int .i64 a.y, .int .i64 a.m, .bool a.s, .int .i64 a.d], .agg #[.int .i64 b.y, .int .i64 b.m, .bool b.s, .int .i64 b.d]] w fun e w' => e = .returned (.tuple #[.int .i64 (c.betV a b), .int .i64 (c.in2E a b)]) ∧ Ext w w' := by
  rcases in2E_cases c a b with ⟨hv, hE⟩ | ⟨hv, hh, hE⟩ | ⟨hv, hh, hE⟩
  · have HE := Lib.hid hE
    have HV : Hid (c.betV a b = 0) := by unfold Hid Cal.betV; rw [hE]; rfl
    clear hE hv
    go_enter Tryd.func31, Tryd.ntmps31
    go_wp2_with (go_at_call 75; refine (checks_any _ _ _ _ c _ 2 2 (two a b) _ (hC.ext (by repeat (first | exact Ext.refl _ | (refine Ext.alloc ?_ _) | (refine Ext.trans ?_ (by assumption))))) (rows_two (t := 39) (by repeat (first | (refine Held.at _ _ _ _ ?_; (simp; done)) | refine Held.alloc ?_ _))) (by omega)).mono ?_; rw [checks_two, HE.out]; rintro e wq ⟨rfl, hq⟩)
    go_ret2
    exact ⟨by rw [HE.out, HV.out]; rfl, (by repeat (first | exact Ext.refl _ | (refine Ext.alloc ?_ _) | (refine Ext.trans ?_ (by assumption))))⟩
  · have HE := Lib.hid hE
    have HV : Hid (c.betV a b = 0) := by unfold Hid Cal.betV; rw [hE]; rfl
    clear hE hv
    go_enter Tryd.func31, Tryd.ntmps31
    go_wp2_with (go_at_call 75; refine (checks_any _ _ _ _ c _ 2 2 (two a b) _ (hC.ext (by repeat (first | exact Ext.refl _ | (refine Ext.alloc ?_ _) | (refine Ext.trans ?_ (by assumption))))) (rows_two (t := 39) (by repeat (first | (refine Held.at _ _ _ _ ?_; (simp; done)) | refine Held.alloc ?_ _))) (by omega)).mono ?_; rw [checks_two, HE.out]; rintro e wq ⟨rfl, hq⟩)
    go_ret2
    exact ⟨by rw [HE.out, HV.out]; rfl, (by repeat (first | exact Ext.refl _ | (refine Ext.alloc ?_ _) | (refine Ext.trans ?_ (by assumption))))⟩
  · have HE := Lib.hid hE
    have HV : Hid (c.betV a b = (c.num b).1 - (c.num a).1) := by unfold Hid Cal.betV; rw [hE]; rfl
    have HL := Lib.hid (valid_lg hv)
    have hny := valid_ny hv
    have HY := Lib.hid hny
    rw [Bool.and_eq_true] at hh
    have hda := has_day hh.1
    have hdb := has_day hh.2
    have HDa := Lib.hid hda
    have HDb := Lib.hid hdb
    obtain ⟨hda1, hda2⟩ := hda
    obtain ⟨hdb1, hdb2⟩ := hdb
    have hna := num_bd c a hda1 hda2
    have hnb := num_bd c b hdb1 hdb2
    obtain ⟨hna1, hna2, hna3, hna4⟩ := hna
    obtain ⟨hnb1, hnb2, hnb3, hnb4⟩ := hnb
    clear hE hv hh
    go_enter Tryd.func31, Tryd.ntmps31
    go_wp2_with (go_at_call 75; refine (checks_any _ _ _ _ c _ 2 2 (two a b) _ (hC.ext (by repeat (first | exact Ext.refl _ | (refine Ext.alloc ?_ _) | (refine Ext.trans ?_ (by assumption))))) (rows_two (t := 39) (by repeat (first | (refine Held.at _ _ _ _ ?_; (simp; done)) | refine Held.alloc ?_ _))) (by omega)).mono ?_; rw [checks_two, HE.out]; rintro e wq ⟨rfl, hq⟩; have hcb := (Held.ext (b := w.heap.size) (t := 25) (cs := #[.slice A c.nk ca, .slice A' c.ny cb]) (by repeat (first | (refine Held.at _ _ _ _ ?_; (simp; done)) | refine Held.alloc ?_ _)) hq); have hab := (Held.ext (b := w.heap.size + 1) (t := 39) (cs := #[.int .i64 a.y, .int .i64 a.m, .bool a.s, .int .i64 a.d]) (by repeat (first | (refine Held.at _ _ _ _ ?_; (simp; done)) | refine Held.alloc ?_ _)) hq); have hbb := (Held.ext (b := w.heap.size + 1 + 1) (t := 39) (cs := #[.int .i64 b.y, .int .i64 b.m, .bool b.s, .int .i64 b.d]) (by repeat (first | (refine Held.at _ _ _ _ ?_; (simp; done)) | refine Held.alloc ?_ _)) hq); obtain ⟨k0, k1⟩ := hcb.c2; obtain ⟨e0, e1, e2, e3⟩ := hab.c4)
    refine (number_any _ _ _ _ c a _ (hC.ext (by repeat (first | exact Ext.refl _ | (refine Ext.alloc ?_ _) | (refine Ext.trans ?_ (by assumption))))) HL.out HY.out HDa.out).mono ?_
    rintro e wn ⟨rfl, hn⟩
    obtain ⟨k0, k1⟩ := (hcb.ext hn).c2
    obtain ⟨g0, g1, g2, g3⟩ := (hbb.ext hn).c4
    go_wp2_with (fail)
    refine (number_any _ _ _ _ c b _ (hC.ext (by repeat (first | exact Ext.refl _ | (refine Ext.alloc ?_ _) | (refine Ext.trans ?_ (by assumption))))) HL.out HY.out HDb.out).mono ?_
    rintro e wm ⟨rfl, hm⟩
    obtain ⟨y0, y1, y2, y3⟩ := ((hab.ext hn).ext hm).c4
    obtain ⟨z0, z1, z2, z3⟩ := ((hbb.ext hn).ext hm).c4
    go_wp2
    go_ret2
    exact ⟨by rw [HE.out, HV.out]; rfl, (by repeat (first | exact Ext.refl _ | (refine Ext.alloc ?_ _) | (refine Ext.trans ?_ (by assumption))))⟩
set_option maxRecDepth 100000 in
set_option maxHeartbeats 2000000 in
theorem schemeX_any (A A' : Option Addr) (ca cb : Nat) (c : Cal) (a b : Dt) (w : World) (hC : CalAt w A ca A' cb c) :
    Calls Tryd.prog 32 #[.agg #[.slice A c.nk ca, .slice A' c.ny cb], .agg #[.int .i64 a.y, .int .i64 a.m, .bool a.s, .int .i64 a.d], .agg #[.int .i64 b.y, .int .i64 b.m, .bool b.s, .int .i64 b.d]] w fun e w' => e = .returned (.tuple #[.int .i64 (c.schV a b), .int .i64 (c.in2E a b)]) ∧ Ext w w' := by
  rcases in2E_cases c a b with ⟨hv, hE⟩ | ⟨hv, hh, hE⟩ | ⟨hv, hh, hE⟩
  · have HE := Lib.hid hE
    have HV : Hid (c.schV a b = 0) := by unfold Hid Cal.schV; rw [hE]; rfl
    clear hE hv
    go_enter Tryd.func32, Tryd.ntmps32
    go_wp2_with (go_at_call 75; refine (checks_any _ _ _ _ c _ 2 2 (two a b) _ (hC.ext (by repeat (first | exact Ext.refl _ | (refine Ext.alloc ?_ _) | (refine Ext.trans ?_ (by assumption))))) (rows_two (t := 39) (by repeat (first | (refine Held.at _ _ _ _ ?_; (simp; done)) | refine Held.alloc ?_ _))) (by omega)).mono ?_; rw [checks_two, HE.out]; rintro e wq ⟨rfl, hq⟩)
    go_ret2
    exact ⟨by rw [HE.out, HV.out]; rfl, (by repeat (first | exact Ext.refl _ | (refine Ext.alloc ?_ _) | (refine Ext.trans ?_ (by assumption))))⟩
  · have HE := Lib.hid hE
    have HV : Hid (c.schV a b = 0) := by unfold Hid Cal.schV; rw [hE]; rfl
    clear hE hv
    go_enter Tryd.func32, Tryd.ntmps32
    go_wp2_with (go_at_call 75; refine (checks_any _ _ _ _ c _ 2 2 (two a b) _ (hC.ext (by repeat (first | exact Ext.refl _ | (refine Ext.alloc ?_ _) | (refine Ext.trans ?_ (by assumption))))) (rows_two (t := 39) (by repeat (first | (refine Held.at _ _ _ _ ?_; (simp; done)) | refine Held.alloc ?_ _))) (by omega)).mono ?_; rw [checks_two, HE.out]; rintro e wq ⟨rfl, hq⟩)
    go_ret2
    exact ⟨by rw [HE.out, HV.out]; rfl, (by repeat (first | exact Ext.refl _ | (refine Ext.alloc ?_ _) | (refine Ext.trans ?_ (by assumption))))⟩
  · have HE := Lib.hid hE
    have HV : Hid (c.schV a b = 30 * ((c.num b).2 - (c.num a).2) + b.d - a.d) := by unfold Hid Cal.schV; rw [hE]; rfl
    have HL := Lib.hid (valid_lg hv)
    have hny := valid_ny hv
    have HY := Lib.hid hny
    rw [Bool.and_eq_true] at hh
    have hda := has_day hh.1
    have hdb := has_day hh.2
    have HDa := Lib.hid hda
    have HDb := Lib.hid hdb
    obtain ⟨hda1, hda2⟩ := hda
    obtain ⟨hdb1, hdb2⟩ := hdb
    have hna := num_bd c a hda1 hda2
    have hnb := num_bd c b hdb1 hdb2
    obtain ⟨hna1, hna2, hna3, hna4⟩ := hna
    obtain ⟨hnb1, hnb2, hnb3, hnb4⟩ := hnb
    clear hE hv hh
    go_enter Tryd.func32, Tryd.ntmps32
    go_wp2_with (go_at_call 75; refine (checks_any _ _ _ _ c _ 2 2 (two a b) _ (hC.ext (by repeat (first | exact Ext.refl _ | (refine Ext.alloc ?_ _) | (refine Ext.trans ?_ (by assumption))))) (rows_two (t := 39) (by repeat (first | (refine Held.at _ _ _ _ ?_; (simp; done)) | refine Held.alloc ?_ _))) (by omega)).mono ?_; rw [checks_two, HE.out]; rintro e wq ⟨rfl, hq⟩; have hcb := (Held.ext (b := w.heap.size) (t := 25) (cs := #[.slice A c.nk ca, .slice A' c.ny cb]) (by repeat (first | (refine Held.at _ _ _ _ ?_; (simp; done)) | refine Held.alloc ?_ _)) hq); have hab := (Held.ext (b := w.heap.size + 1) (t := 39) (cs := #[.int .i64 a.y, .int .i64 a.m, .bool a.s, .int .i64 a.d]) (by repeat (first | (refine Held.at _ _ _ _ ?_; (simp; done)) | refine Held.alloc ?_ _)) hq); have hbb := (Held.ext (b := w.heap.size + 1 + 1) (t := 39) (cs := #[.int .i64 b.y, .int .i64 b.m, .bool b.s, .int .i64 b.d]) (by repeat (first | (refine Held.at _ _ _ _ ?_; (simp; done)) | refine Held.alloc ?_ _)) hq); obtain ⟨k0, k1⟩ := hcb.c2; obtain ⟨e0, e1, e2, e3⟩ := hab.c4)
    refine (number_any _ _ _ _ c a _ (hC.ext (by repeat (first | exact Ext.refl _ | (refine Ext.alloc ?_ _) | (refine Ext.trans ?_ (by assumption))))) HL.out HY.out HDa.out).mono ?_
    rintro e wn ⟨rfl, hn⟩
    obtain ⟨k0, k1⟩ := (hcb.ext hn).c2
    obtain ⟨g0, g1, g2, g3⟩ := (hbb.ext hn).c4
    go_wp2_with (fail)
    refine (number_any _ _ _ _ c b _ (hC.ext (by repeat (first | exact Ext.refl _ | (refine Ext.alloc ?_ _) | (refine Ext.trans ?_ (by assumption))))) HL.out HY.out HDb.out).mono ?_
    rintro e wm ⟨rfl, hm⟩
    obtain ⟨y0, y1, y2, y3⟩ := ((hab.ext hn).ext hm).c4
    obtain ⟨z0, z1, z2, z3⟩ := ((hbb.ext hn).ext hm).c4
    go_wp2
    go_ret2
    exact ⟨by rw [HE.out, HV.out]; rfl, (by repeat (first | exact Ext.refl _ | (refine Ext.alloc ?_ _) | (refine Ext.trans ?_ (by assumption))))⟩
end Go.Proofs.YtfchchmmjabjnaaDoor
