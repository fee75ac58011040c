/- The reference's year, fits and Fits. -/
import Derived.Test.YtfchchmmjabjnaaDoorY1
import Derived.Test.YtfchchmmjabjnaaDoorPlA
import Derived.Test.YtfchchmmjabjnaaDoorWt
namespace Go.Proofs.YtfchchmmjabjnaaDoor
open Go Go.RowKit
attribute [local go_sem] gv_yes
theorem ok_parts {t : Tr} (h : t.ok = true) : 0 ≤ t.d ∧ 0 ≤ t.m ∧ 0 ≤ t.af ∧ t.af ≤ 3 ∧ (t.s = true → 0 < t.m) := by
  simp only [Tr.ok, Bool.and_eq_true, decide_eq_true_eq, Bool.or_eq_true, Bool.not_eq_true'] at h
  obtain ⟨⟨⟨⟨⟨⟨⟨⟨⟨⟨h1, h2⟩, h3⟩, h4⟩, h5⟩, h6⟩, h7⟩, h8⟩, h9⟩, h10⟩, h11⟩ := h
  exact ⟨h1, h4, h8, h9, fun e => by rcases h6 with h6 | h6; rw [h6] at e; cases e; exact h6⟩
set_option maxRecDepth 100000 in
set_option maxHeartbeats 4000000 in
theorem year_any_r (A A' : Option Addr) (ca cb : Nat) (c : Cal) (t : Tr) (i : Nat) (w : World) (hC : CalAt w A ca A' cb c) (hi : i < c.ny) (hy : c.ny ≤ 400) (hk : 0 ≤ (c.yr i).k) (hk' : (c.yr i).k < c.nk) (ha : 0 ≤ t.af) (ha' : t.af ≤ 3) :
    Calls Tryd.prog 118 #[.agg #[.slice A c.nk ca, .slice A' c.ny cb], .agg #[.int .i64 t.d, .bool t.more, .int .i64 t.m, .bool t.s, .string t.nm, .int .i64 t.af, .string t.kg], .int .i64 i] w fun e w' => e = .returned (.bool (c.yearFits t i)) ∧ Ext w w' := by
  have hny := hC.ny_le
  have hnk := hC.nk_le
  have H : Hid (c.yearFits t i = ((t.nm.toList.isEmpty || (decide (t.af ≤ i) && ((c.yrI (i - t.af)).nm.toList == t.nm.toList))) && (t.kg.toList.isEmpty || ((c.kg (c.yr i).k.toNat).toList == t.kg.toList)))) := by
    unfold Hid Cal.yearFits
    rw [emptyB_eq, emptyB_eq, same_eq, same_eq, show c.yrI (i : Int) = c.yr i from rfl]
  generalize c.yearFits t i = r at *
  go_enter Tryd.func118, Tryd.ntmps118
  go_upto_region 1 with (fail)
  obtain ⟨v, hv⟩ : ∃ v, v = ((w.alloc (.cells #[.slice A c.nk ca, .slice A' c.ny cb] 25)).alloc (.cells #[.int .i64 t.d, .bool t.more, .int .i64 t.m, .bool t.s, .string t.nm, .int .i64 t.af, .string t.kg] 33)) := ⟨_, rfl⟩
  rw [← hv]
  have E : Ext w v := by rw [hv]; exact ((Ext.refl _).alloc _).alloc _
  have B1 : Held v w.heap.size 25 #[.slice A c.nk ca, .slice A' c.ny cb] := by rw [hv]; exact (Held.new _ _ _).alloc _
  have B2 : Held v (w.heap.size + 1) 33 #[.int .i64 t.d, .bool t.more, .int .i64 t.m, .bool t.s, .string t.nm, .int .i64 t.af, .string t.kg] := by rw [hv]; exact Held.at _ _ _ _ (by simp)
  clear hv
  have C := hC.ext E
  clear hC
  generalize w.heap.size = b1 at *
  obtain ⟨k0, k1⟩ := B1.c2; have lk := B1.lt
  obtain ⟨p0, p1, p2, p3, p4, p5, p6⟩ := B2.c7; have lp := B2.lt
  obtain ⟨kb, ko, hA, hkb, q9⟩ := C.kingI hk hk'
  obtain ⟨yb, yo, hA', hyb, y0, y1, y2, y3⟩ := C.year hi
  generalize c.kg (c.yr i).k.toNat = kg at *
  subst hA
  subst hA'
  by_cases hf : t.af ≤ (i : Int)
  · obtain ⟨yb', yo', he', hyb', d0, d1, d2, d3⟩ := C.yearI (y := (i : Int) - t.af) (by omega) (by omega)
    obtain ⟨rfl, rfl⟩ : yb' = yb ∧ yo' = yo := by simpa using he'.symm
    clear he' d0 d2 d3
    generalize (c.yrI (↑i - t.af)).nm = nm' at *
    have hf1 : decide ((i : Int) < t.af) = false := decide_eq_false (by omega)
    have hf2 : decide (t.af ≤ (i : Int)) = true := decide_eq_true hf
    have x0 : (0 : Int) ≤ ↑i - t.af := by omega
    have x1 : decide ((i : Int) - t.af < 0) = false := decide_eq_false (by omega)
    generalize h1 : t.nm.toList.isEmpty = e1 at *
    generalize h2 : t.kg.toList.isEmpty = e2 at *
    generalize h3 : (nm'.toList == t.nm.toList) = e3 at *
    generalize h4 : (kg.toList == t.kg.toList) = e4 at *
    clear C
    cases e1 <;> cases e3 <;> cases e2 <;> cases e4
    all_goals
      go_upto_region 1 with (fail)
      refine wp_region_xw v mixed (by kernel_rfl) (by repeat (first | exact Ext.refl _ | (refine Ext.alloc ?_ _) | (refine Ext.trans ?_ (by assumption)))) ?_
      intro hne hrx hry
      try simp only []
      try simp only [List.append_eq, List.cons_append, List.nil_append]
      skip
      repeat (first
        | go_big_quiet_skip
        | (go_big_quiet_want; go_big_quiet_op; go_big_quiet_on))
      clear hne hry hrx
      refine wpQuiet_nil ?_
      intro w1 hw1
      obtain ⟨hcw1, hfw1, hzw1⟩ := Ext.rules hw1
      try simp only [World.size_alloc] at hzw1
      obtain ⟨hcbw1, hfbw1, hzbw1⟩ := Ext.rules (show Ext v w1 from (by repeat (first | exact Ext.refl _ | (refine Ext.alloc ?_ _) | (refine Ext.trans ?_ (by assumption)))))
      clear hcw1 hfw1
      first
        | (go_wp2; go_ret; exact ⟨ret_bool (by rw [H.out]; simp [hf]), E.trans hw1⟩)
        | (go_upto_region 3 with (fail)
           refine wp_region_xw v mixed (by kernel_rfl) (by repeat (first | exact Ext.refl _ | (refine Ext.alloc ?_ _) | (refine Ext.trans ?_ (by assumption)))) ?_
           intro hne hrx hry
           try simp only []
           try simp only [List.append_eq, List.cons_append, List.nil_append]
           skip
           repeat (first
             | go_big_quiet_skip
             | (go_big_quiet_want; go_big_quiet_op; go_big_quiet_on))
           clear hne hry hrx
           refine wpQuiet_nil ?_
           intro w2 hw2
           obtain ⟨hcw2, hfw2, hzw2⟩ := Ext.rules hw2
           try simp only [World.size_alloc] at hzw2
           obtain ⟨hcbw2, hfbw2, hzbw2⟩ := Ext.rules (show Ext v w2 from (by repeat (first | exact Ext.refl _ | (refine Ext.alloc ?_ _) | (refine Ext.trans ?_ (by assumption)))))
           clear hcw2 hfw2
           go_wp2
           go_ret
           exact ⟨ret_bool (by rw [H.out]; simp [hf]), E.trans (hw1.trans hw2)⟩)
  · have hf1 : decide ((i : Int) < t.af) = true := decide_eq_true (by omega)
    have hf2 : decide (t.af ≤ (i : Int)) = false := decide_eq_false hf
    generalize h1 : t.nm.toList.isEmpty = e1 at *
    generalize h2 : t.kg.toList.isEmpty = e2 at *
    generalize h4 : (kg.toList == t.kg.toList) = e4 at *
    clear C
    cases e1 <;> cases e2 <;> cases e4
    all_goals
      go_upto_region 1 with (fail)
      refine wp_region_xw v mixed (by kernel_rfl) (by repeat (first | exact Ext.refl _ | (refine Ext.alloc ?_ _) | (refine Ext.trans ?_ (by assumption)))) ?_
      intro hne hrx hry
      try simp only []
      try simp only [List.append_eq, List.cons_append, List.nil_append]
      skip
      repeat (first
        | go_big_quiet_skip
        | (go_big_quiet_want; go_big_quiet_op; go_big_quiet_on))
      clear hne hry hrx
      refine wpQuiet_nil ?_
      intro w1 hw1
      obtain ⟨hcw1, hfw1, hzw1⟩ := Ext.rules hw1
      try simp only [World.size_alloc] at hzw1
      obtain ⟨hcbw1, hfbw1, hzbw1⟩ := Ext.rules (show Ext v w1 from (by repeat (first | exact Ext.refl _ | (refine Ext.alloc ?_ _) | (refine Ext.trans ?_ (by assumption)))))
      clear hcw1 hfw1
      first
        | (go_wp2; go_ret; exact ⟨ret_bool (by rw [H.out]; simp; try (intro h; omega)), E.trans hw1⟩)
        | (go_upto_region 3 with (fail)
           refine wp_region_xw v mixed (by kernel_rfl) (by repeat (first | exact Ext.refl _ | (refine Ext.alloc ?_ _) | (refine Ext.trans ?_ (by assumption)))) ?_
           intro hne hrx hry
           try simp only []
           try simp only [List.append_eq, List.cons_append, List.nil_append]
           skip
           repeat (first
             | go_big_quiet_skip
             | (go_big_quiet_want; go_big_quiet_op; go_big_quiet_on))
           clear hne hry hrx
           refine wpQuiet_nil ?_
           intro w2 hw2
           obtain ⟨hcw2, hfw2, hzw2⟩ := Ext.rules hw2
           try simp only [World.size_alloc] at hzw2
           obtain ⟨hcbw2, hfbw2, hzbw2⟩ := Ext.rules (show Ext v w2 from (by repeat (first | exact Ext.refl _ | (refine Ext.alloc ?_ _) | (refine Ext.trans ?_ (by assumption)))))
           clear hcw2 hfw2
           go_wp2
           go_ret
           exact ⟨ret_bool (by rw [H.out]; simp), E.trans (hw1.trans hw2)⟩)
set_option maxRecDepth 100000 in
set_option maxHeartbeats 4000000 in
theorem fits_any_r (A A' : Option Addr) (ca cb : Nat) (c : Cal) (t : Tr) (i : Nat) (m : Int) (s : Bool) (d : Int) (w : World) (hC : CalAt w A ca A' cb c) (hi : i < c.ny) (hy : c.ny ≤ 400) (hk : 0 ≤ (c.yr i).k) (hk' : (c.yr i).k < c.nk) (hd : 1 ≤ d) (ht : t.ok = true) :
    Calls Tryd.prog 88 #[.agg #[.slice A c.nk ca, .slice A' c.ny cb], .agg #[.int .i64 t.d, .bool t.more, .int .i64 t.m, .bool t.s, .string t.nm, .int .i64 t.af, .string t.kg], .agg #[.int .i64 i, .int .i64 m, .bool s, .int .i64 d]] w fun e w' => e = .returned (.bool (c.fits t ⟨i, m, s, d⟩)) ∧ Ext w w' := by
  obtain ⟨ht0, ht1, ha, ha', ht4⟩ := ok_parts ht
  have NY := fun v (h : CalAt v A ca A' cb c) => year_any_r A A' ca cb c t i v h hi hy hk hk' ha ha'
  have H : Hid (c.fits t ⟨i, m, s, d⟩ = ((decide (t.m = 0) || (decide (t.m = m) && (t.s == s))) && c.yearFits t i && (decide (t.d = 0) || decide (d = t.d) || (t.more && decide (t.d < d))))) := rfl
  generalize c.fits t ⟨i, m, s, d⟩ = r at *
  generalize c.yearFits t i = yf at *
  clear ht
  have HD : ∀ b : Bool, Hid (b = (decide (t.d = 0) || decide (d = t.d) || (t.more && decide (t.d < d)))) → (t.d = 0 ∧ Hid (b = true)) ∨ (0 < t.d ∧ d = t.d ∧ Hid (b = true)) ∨ (0 < t.d ∧ ¬ d = t.d ∧ t.more = true ∧ t.d < d ∧ Hid (b = true)) ∨ (0 < t.d ∧ ¬ d = t.d ∧ t.more = true ∧ ¬ t.d < d ∧ Hid (b = false)) ∨ (0 < t.d ∧ ¬ d = t.d ∧ t.more = false ∧ Hid (b = false)) := by
    intro b hb
    have hb := hb.out
    subst hb
    by_cases y0 : t.d = 0
    · exact .inl ⟨y0, by unfold Hid; simp [y0]⟩
    · by_cases y1 : d = t.d
      · exact .inr (.inl ⟨by omega, y1, by unfold Hid; simp [y1]⟩)
      · cases y2 : t.more
        · exact .inr (.inr (.inr (.inr ⟨by omega, y1, rfl, by unfold Hid; simp [y0, y1]⟩)))
        · by_cases y3 : t.d < d
          · exact .inr (.inr (.inl ⟨by omega, y1, rfl, y3, by unfold Hid; simp [y3]⟩))
          · exact .inr (.inr (.inr (.inl ⟨by omega, y1, rfl, y3, by unfold Hid; simp [y0, y1, y3]⟩)))
  have HM : ∀ b : Bool, Hid (b = (decide (t.m = 0) || (decide (t.m = m) && (t.s == s)))) → (t.m = 0 ∧ Hid (b = true)) ∨ (0 < t.m ∧ m = t.m ∧ s = t.s ∧ Hid (b = true)) ∨ (0 < t.m ∧ m = t.m ∧ ¬ s = t.s ∧ Hid (b = false)) ∨ (0 < t.m ∧ ¬ m = t.m ∧ Hid (b = false)) := by
    intro b hb
    have hb := hb.out
    subst hb
    by_cases y0 : t.m = 0
    · exact .inl ⟨y0, by unfold Hid; simp [y0]⟩
    · by_cases y1 : m = t.m
      · by_cases y2 : s = t.s
        · exact .inr (.inl ⟨by omega, y1, y2, by unfold Hid; simp [y1, y2]⟩)
        · exact .inr (.inr (.inl ⟨by omega, y1, y2, by unfold Hid; rw [show (t.s == s) = false from beq_eq_false_iff_ne.2 (fun e => y2 e.symm), decide_eq_false y0]; simp⟩))
      · exact .inr (.inr (.inr ⟨by omega, y1, by unfold Hid; rw [decide_eq_false y0, decide_eq_false (fun e => y1 e.symm)]; rfl⟩))
  have HD := HD _ rfl
  have HM := HM _ rfl
  generalize (decide (t.d = 0) || decide (d = t.d) || (t.more && decide (t.d < d))) = bd at *
  generalize (decide (t.m = 0) || (decide (t.m = m) && (t.s == s))) = bm at *
  rcases HD with ⟨x0, xr⟩ | ⟨x0, x1, xr⟩ | ⟨x0, x1, x2, x3, xr⟩ | ⟨x0, x1, x2, x3, xr⟩ | ⟨x0, x1, x2, xr⟩
  · have f0 : decide (0 < t.d) = false := decide_eq_false (by omega)
    clear x0
    rcases HM with ⟨z0, zr⟩ | ⟨z0, z1, z2, zr⟩ | ⟨z0, z1, z2, zr⟩ | ⟨z0, z1, zr⟩
    · have g0 : decide (0 < t.m) = false := decide_eq_false (by omega)
      clear z0
      go_enter Tryd.func88, Tryd.ntmps88
      go_upto_region 1 with (fail)
      obtain ⟨v, hv⟩ : ∃ v, v = (((w.alloc (.cells #[.slice A c.nk ca, .slice A' c.ny cb] 25)).alloc (.cells #[.int .i64 t.d, .bool t.more, .int .i64 t.m, .bool t.s, .string t.nm, .int .i64 t.af, .string t.kg] 33)).alloc (.cells #[.int .i64 i, .int .i64 m, .bool s, .int .i64 d] 39)) := ⟨_, rfl⟩
      rw [← hv]
      have E : Ext w v := by rw [hv]; exact (((Ext.refl _).alloc _).alloc _).alloc _
      have B1 : Held v w.heap.size 25 #[.slice A c.nk ca, .slice A' c.ny cb] := by rw [hv]; exact ((Held.new _ _ _).alloc _).alloc _
      have B2 : Held v (w.heap.size + 1) 33 #[.int .i64 t.d, .bool t.more, .int .i64 t.m, .bool t.s, .string t.nm, .int .i64 t.af, .string t.kg] := by rw [hv]; exact (Held.at _ _ _ _ (by simp)).alloc _
      have B3 : Held v (w.heap.size + 1 + 1) 39 #[.int .i64 i, .int .i64 m, .bool s, .int .i64 d] := by rw [hv]; exact Held.at _ _ _ _ (by simp)
      clear hv
      have C := hC.ext E
      clear hC
      generalize w.heap.size = b1 at *
      obtain ⟨k0, k1⟩ := B1.c2; have lk := B1.lt
      obtain ⟨p0, p1, p2, p3, p4, p5, p6⟩ := B2.c7; have lp := B2.lt
      obtain ⟨q0, q1, q2, q3⟩ := B3.c4; have lq := B3.lt
      go_wp2_with (go_at_call 118; (with_reducible refine Calls.mono (NY _ C) ?_); rintro e v2 ⟨rfl, h⟩)
      go_ret
      exact ⟨ret_bool (by rw [H.out, xr.out, zr.out]; simp), E.trans h⟩
    · have g0 : decide (0 < t.m) = true := decide_eq_true z0
      have g1 : (m == t.m) = true := beq_iff_eq.2 z1
      have g1n : (m != t.m) = false := by rw [bne, g1]; rfl
      have g2 : (s == t.s) = true := beq_iff_eq.2 z2
      have g2n : (s != t.s) = false := by rw [bne, g2]; rfl
      clear z0 z1 z2
      go_enter Tryd.func88, Tryd.ntmps88
      go_upto_region 1 with (fail)
      obtain ⟨v, hv⟩ : ∃ v, v = (((w.alloc (.cells #[.slice A c.nk ca, .slice A' c.ny cb] 25)).alloc (.cells #[.int .i64 t.d, .bool t.more, .int .i64 t.m, .bool t.s, .string t.nm, .int .i64 t.af, .string t.kg] 33)).alloc (.cells #[.int .i64 i, .int .i64 m, .bool s, .int .i64 d] 39)) := ⟨_, rfl⟩
      rw [← hv]
      have E : Ext w v := by rw [hv]; exact (((Ext.refl _).alloc _).alloc _).alloc _
      have B1 : Held v w.heap.size 25 #[.slice A c.nk ca, .slice A' c.ny cb] := by rw [hv]; exact ((Held.new _ _ _).alloc _).alloc _
      have B2 : Held v (w.heap.size + 1) 33 #[.int .i64 t.d, .bool t.more, .int .i64 t.m, .bool t.s, .string t.nm, .int .i64 t.af, .string t.kg] := by rw [hv]; exact (Held.at _ _ _ _ (by simp)).alloc _
      have B3 : Held v (w.heap.size + 1 + 1) 39 #[.int .i64 i, .int .i64 m, .bool s, .int .i64 d] := by rw [hv]; exact Held.at _ _ _ _ (by simp)
      clear hv
      have C := hC.ext E
      clear hC
      generalize w.heap.size = b1 at *
      obtain ⟨k0, k1⟩ := B1.c2; have lk := B1.lt
      obtain ⟨p0, p1, p2, p3, p4, p5, p6⟩ := B2.c7; have lp := B2.lt
      obtain ⟨q0, q1, q2, q3⟩ := B3.c4; have lq := B3.lt
      go_wp2_with (go_at_call 118; (with_reducible refine Calls.mono (NY _ C) ?_); rintro e v2 ⟨rfl, h⟩)
      go_ret
      exact ⟨ret_bool (by rw [H.out, xr.out, zr.out]; simp), E.trans h⟩
    · have g0 : decide (0 < t.m) = true := decide_eq_true z0
      have g1 : (m == t.m) = true := beq_iff_eq.2 z1
      have g1n : (m != t.m) = false := by rw [bne, g1]; rfl
      have g2 : (s == t.s) = false := beq_eq_false_iff_ne.2 z2
      have g2n : (s != t.s) = true := by rw [bne, g2]; rfl
      clear z0 z1 z2
      go_enter Tryd.func88, Tryd.ntmps88
      go_upto_region 1 with (fail)
      obtain ⟨v, hv⟩ : ∃ v, v = (((w.alloc (.cells #[.slice A c.nk ca, .slice A' c.ny cb] 25)).alloc (.cells #[.int .i64 t.d, .bool t.more, .int .i64 t.m, .bool t.s, .string t.nm, .int .i64 t.af, .string t.kg] 33)).alloc (.cells #[.int .i64 i, .int .i64 m, .bool s, .int .i64 d] 39)) := ⟨_, rfl⟩
      rw [← hv]
      have E : Ext w v := by rw [hv]; exact (((Ext.refl _).alloc _).alloc _).alloc _
      have B1 : Held v w.heap.size 25 #[.slice A c.nk ca, .slice A' c.ny cb] := by rw [hv]; exact ((Held.new _ _ _).alloc _).alloc _
      have B2 : Held v (w.heap.size + 1) 33 #[.int .i64 t.d, .bool t.more, .int .i64 t.m, .bool t.s, .string t.nm, .int .i64 t.af, .string t.kg] := by rw [hv]; exact (Held.at _ _ _ _ (by simp)).alloc _
      have B3 : Held v (w.heap.size + 1 + 1) 39 #[.int .i64 i, .int .i64 m, .bool s, .int .i64 d] := by rw [hv]; exact Held.at _ _ _ _ (by simp)
      clear hv
      have C := hC.ext E
      clear hC
      generalize w.heap.size = b1 at *
      obtain ⟨k0, k1⟩ := B1.c2; have lk := B1.lt
      obtain ⟨p0, p1, p2, p3, p4, p5, p6⟩ := B2.c7; have lp := B2.lt
      obtain ⟨q0, q1, q2, q3⟩ := B3.c4; have lq := B3.lt
      go_wp2
      go_ret
      exact ⟨ret_bool (by rw [H.out, zr.out]; simp), E⟩
    · have g0 : decide (0 < t.m) = true := decide_eq_true z0
      have g1 : (m == t.m) = false := beq_eq_false_iff_ne.2 z1
      have g1n : (m != t.m) = true := by rw [bne, g1]; rfl
      clear z0 z1
      go_enter Tryd.func88, Tryd.ntmps88
      go_upto_region 1 with (fail)
      obtain ⟨v, hv⟩ : ∃ v, v = (((w.alloc (.cells #[.slice A c.nk ca, .slice A' c.ny cb] 25)).alloc (.cells #[.int .i64 t.d, .bool t.more, .int .i64 t.m, .bool t.s, .string t.nm, .int .i64 t.af, .string t.kg] 33)).alloc (.cells #[.int .i64 i, .int .i64 m, .bool s, .int .i64 d] 39)) := ⟨_, rfl⟩
      rw [← hv]
      have E : Ext w v := by rw [hv]; exact (((Ext.refl _).alloc _).alloc _).alloc _
      have B1 : Held v w.heap.size 25 #[.slice A c.nk ca, .slice A' c.ny cb] := by rw [hv]; exact ((Held.new _ _ _).alloc _).alloc _
      have B2 : Held v (w.heap.size + 1) 33 #[.int .i64 t.d, .bool t.more, .int .i64 t.m, .bool t.s, .string t.nm, .int .i64 t.af, .string t.kg] := by rw [hv]; exact (Held.at _ _ _ _ (by simp)).alloc _
      have B3 : Held v (w.heap.size + 1 + 1) 39 #[.int .i64 i, .int .i64 m, .bool s, .int .i64 d] := by rw [hv]; exact Held.at _ _ _ _ (by simp)
      clear hv
      have C := hC.ext E
      clear hC
      generalize w.heap.size = b1 at *
      obtain ⟨k0, k1⟩ := B1.c2; have lk := B1.lt
      obtain ⟨p0, p1, p2, p3, p4, p5, p6⟩ := B2.c7; have lp := B2.lt
      obtain ⟨q0, q1, q2, q3⟩ := B3.c4; have lq := B3.lt
      go_wp2
      go_ret
      exact ⟨ret_bool (by rw [H.out, zr.out]; simp), E⟩
  · have f0 : decide (0 < t.d) = true := decide_eq_true x0
    have f1 : (d == t.d) = true := beq_iff_eq.2 x1
    have f1n : (d != t.d) = false := by rw [bne, f1]; rfl
    clear x0 x1
    rcases HM with ⟨z0, zr⟩ | ⟨z0, z1, z2, zr⟩ | ⟨z0, z1, z2, zr⟩ | ⟨z0, z1, zr⟩
    · have g0 : decide (0 < t.m) = false := decide_eq_false (by omega)
      clear z0
      go_enter Tryd.func88, Tryd.ntmps88
      go_upto_region 1 with (fail)
      obtain ⟨v, hv⟩ : ∃ v, v = (((w.alloc (.cells #[.slice A c.nk ca, .slice A' c.ny cb] 25)).alloc (.cells #[.int .i64 t.d, .bool t.more, .int .i64 t.m, .bool t.s, .string t.nm, .int .i64 t.af, .string t.kg] 33)).alloc (.cells #[.int .i64 i, .int .i64 m, .bool s, .int .i64 d] 39)) := ⟨_, rfl⟩
      rw [← hv]
      have E : Ext w v := by rw [hv]; exact (((Ext.refl _).alloc _).alloc _).alloc _
      have B1 : Held v w.heap.size 25 #[.slice A c.nk ca, .slice A' c.ny cb] := by rw [hv]; exact ((Held.new _ _ _).alloc _).alloc _
      have B2 : Held v (w.heap.size + 1) 33 #[.int .i64 t.d, .bool t.more, .int .i64 t.m, .bool t.s, .string t.nm, .int .i64 t.af, .string t.kg] := by rw [hv]; exact (Held.at _ _ _ _ (by simp)).alloc _
      have B3 : Held v (w.heap.size + 1 + 1) 39 #[.int .i64 i, .int .i64 m, .bool s, .int .i64 d] := by rw [hv]; exact Held.at _ _ _ _ (by simp)
      clear hv
      have C := hC.ext E
      clear hC
      generalize w.heap.size = b1 at *
      obtain ⟨k0, k1⟩ := B1.c2; have lk := B1.lt
      obtain ⟨p0, p1, p2, p3, p4, p5, p6⟩ := B2.c7; have lp := B2.lt
      obtain ⟨q0, q1, q2, q3⟩ := B3.c4; have lq := B3.lt
      go_wp2_with (go_at_call 118; (with_reducible refine Calls.mono (NY _ C) ?_); rintro e v2 ⟨rfl, h⟩)
      go_ret
      exact ⟨ret_bool (by rw [H.out, xr.out, zr.out]; simp), E.trans h⟩
    · have g0 : decide (0 < t.m) = true := decide_eq_true z0
      have g1 : (m == t.m) = true := beq_iff_eq.2 z1
      have g1n : (m != t.m) = false := by rw [bne, g1]; rfl
      have g2 : (s == t.s) = true := beq_iff_eq.2 z2
      have g2n : (s != t.s) = false := by rw [bne, g2]; rfl
      clear z0 z1 z2
      go_enter Tryd.func88, Tryd.ntmps88
      go_upto_region 1 with (fail)
      obtain ⟨v, hv⟩ : ∃ v, v = (((w.alloc (.cells #[.slice A c.nk ca, .slice A' c.ny cb] 25)).alloc (.cells #[.int .i64 t.d, .bool t.more, .int .i64 t.m, .bool t.s, .string t.nm, .int .i64 t.af, .string t.kg] 33)).alloc (.cells #[.int .i64 i, .int .i64 m, .bool s, .int .i64 d] 39)) := ⟨_, rfl⟩
      rw [← hv]
      have E : Ext w v := by rw [hv]; exact (((Ext.refl _).alloc _).alloc _).alloc _
      have B1 : Held v w.heap.size 25 #[.slice A c.nk ca, .slice A' c.ny cb] := by rw [hv]; exact ((Held.new _ _ _).alloc _).alloc _
      have B2 : Held v (w.heap.size + 1) 33 #[.int .i64 t.d, .bool t.more, .int .i64 t.m, .bool t.s, .string t.nm, .int .i64 t.af, .string t.kg] := by rw [hv]; exact (Held.at _ _ _ _ (by simp)).alloc _
      have B3 : Held v (w.heap.size + 1 + 1) 39 #[.int .i64 i, .int .i64 m, .bool s, .int .i64 d] := by rw [hv]; exact Held.at _ _ _ _ (by simp)
      clear hv
      have C := hC.ext E
      clear hC
      generalize w.heap.size = b1 at *
      obtain ⟨k0, k1⟩ := B1.c2; have lk := B1.lt
      obtain ⟨p0, p1, p2, p3, p4, p5, p6⟩ := B2.c7; have lp := B2.lt
      obtain ⟨q0, q1, q2, q3⟩ := B3.c4; have lq := B3.lt
      go_wp2_with (go_at_call 118; (with_reducible refine Calls.mono (NY _ C) ?_); rintro e v2 ⟨rfl, h⟩)
      go_ret
      exact ⟨ret_bool (by rw [H.out, xr.out, zr.out]; simp), E.trans h⟩
    · have g0 : decide (0 < t.m) = true := decide_eq_true z0
      have g1 : (m == t.m) = true := beq_iff_eq.2 z1
      have g1n : (m != t.m) = false := by rw [bne, g1]; rfl
      have g2 : (s == t.s) = false := beq_eq_false_iff_ne.2 z2
      have g2n : (s != t.s) = true := by rw [bne, g2]; rfl
      clear z0 z1 z2
      go_enter Tryd.func88, Tryd.ntmps88
      go_upto_region 1 with (fail)
      obtain ⟨v, hv⟩ : ∃ v, v = (((w.alloc (.cells #[.slice A c.nk ca, .slice A' c.ny cb] 25)).alloc (.cells #[.int .i64 t.d, .bool t.more, .int .i64 t.m, .bool t.s, .string t.nm, .int .i64 t.af, .string t.kg] 33)).alloc (.cells #[.int .i64 i, .int .i64 m, .bool s, .int .i64 d] 39)) := ⟨_, rfl⟩
      rw [← hv]
      have E : Ext w v := by rw [hv]; exact (((Ext.refl _).alloc _).alloc _).alloc _
      have B1 : Held v w.heap.size 25 #[.slice A c.nk ca, .slice A' c.ny cb] := by rw [hv]; exact ((Held.new _ _ _).alloc _).alloc _
      have B2 : Held v (w.heap.size + 1) 33 #[.int .i64 t.d, .bool t.more, .int .i64 t.m, .bool t.s, .string t.nm, .int .i64 t.af, .string t.kg] := by rw [hv]; exact (Held.at _ _ _ _ (by simp)).alloc _
      have B3 : Held v (w.heap.size + 1 + 1) 39 #[.int .i64 i, .int .i64 m, .bool s, .int .i64 d] := by rw [hv]; exact Held.at _ _ _ _ (by simp)
      clear hv
      have C := hC.ext E
      clear hC
      generalize w.heap.size = b1 at *
      obtain ⟨k0, k1⟩ := B1.c2; have lk := B1.lt
      obtain ⟨p0, p1, p2, p3, p4, p5, p6⟩ := B2.c7; have lp := B2.lt
      obtain ⟨q0, q1, q2, q3⟩ := B3.c4; have lq := B3.lt
      go_wp2
      go_ret
      exact ⟨ret_bool (by rw [H.out, zr.out]; simp), E⟩
    · have g0 : decide (0 < t.m) = true := decide_eq_true z0
      have g1 : (m == t.m) = false := beq_eq_false_iff_ne.2 z1
      have g1n : (m != t.m) = true := by rw [bne, g1]; rfl
      clear z0 z1
      go_enter Tryd.func88, Tryd.ntmps88
      go_upto_region 1 with (fail)
      obtain ⟨v, hv⟩ : ∃ v, v = (((w.alloc (.cells #[.slice A c.nk ca, .slice A' c.ny cb] 25)).alloc (.cells #[.int .i64 t.d, .bool t.more, .int .i64 t.m, .bool t.s, .string t.nm, .int .i64 t.af, .string t.kg] 33)).alloc (.cells #[.int .i64 i, .int .i64 m, .bool s, .int .i64 d] 39)) := ⟨_, rfl⟩
      rw [← hv]
      have E : Ext w v := by rw [hv]; exact (((Ext.refl _).alloc _).alloc _).alloc _
      have B1 : Held v w.heap.size 25 #[.slice A c.nk ca, .slice A' c.ny cb] := by rw [hv]; exact ((Held.new _ _ _).alloc _).alloc _
      have B2 : Held v (w.heap.size + 1) 33 #[.int .i64 t.d, .bool t.more, .int .i64 t.m, .bool t.s, .string t.nm, .int .i64 t.af, .string t.kg] := by rw [hv]; exact (Held.at _ _ _ _ (by simp)).alloc _
      have B3 : Held v (w.heap.size + 1 + 1) 39 #[.int .i64 i, .int .i64 m, .bool s, .int .i64 d] := by rw [hv]; exact Held.at _ _ _ _ (by simp)
      clear hv
      have C := hC.ext E
      clear hC
      generalize w.heap.size = b1 at *
      obtain ⟨k0, k1⟩ := B1.c2; have lk := B1.lt
      obtain ⟨p0, p1, p2, p3, p4, p5, p6⟩ := B2.c7; have lp := B2.lt
      obtain ⟨q0, q1, q2, q3⟩ := B3.c4; have lq := B3.lt
      go_wp2
      go_ret
      exact ⟨ret_bool (by rw [H.out, zr.out]; simp), E⟩
  · have f0 : decide (0 < t.d) = true := decide_eq_true x0
    have f1 : (d == t.d) = false := beq_eq_false_iff_ne.2 x1
    have f1n : (d != t.d) = true := by rw [bne, f1]; rfl
    have f3 : decide (t.d < d) = true := decide_eq_true x3
    clear x0 x1 x3
    replace x2 := Lib.hid x2
    rcases HM with ⟨z0, zr⟩ | ⟨z0, z1, z2, zr⟩ | ⟨z0, z1, z2, zr⟩ | ⟨z0, z1, zr⟩
    · have g0 : decide (0 < t.m) = false := decide_eq_false (by omega)
      clear z0
      go_enter Tryd.func88, Tryd.ntmps88
      go_upto_region 1 with (fail)
      obtain ⟨v, hv⟩ : ∃ v, v = (((w.alloc (.cells #[.slice A c.nk ca, .slice A' c.ny cb] 25)).alloc (.cells #[.int .i64 t.d, .bool t.more, .int .i64 t.m, .bool t.s, .string t.nm, .int .i64 t.af, .string t.kg] 33)).alloc (.cells #[.int .i64 i, .int .i64 m, .bool s, .int .i64 d] 39)) := ⟨_, rfl⟩
      rw [← hv]
      have E : Ext w v := by rw [hv]; exact (((Ext.refl _).alloc _).alloc _).alloc _
      have B1 : Held v w.heap.size 25 #[.slice A c.nk ca, .slice A' c.ny cb] := by rw [hv]; exact ((Held.new _ _ _).alloc _).alloc _
      have B2 : Held v (w.heap.size + 1) 33 #[.int .i64 t.d, .bool t.more, .int .i64 t.m, .bool t.s, .string t.nm, .int .i64 t.af, .string t.kg] := by rw [hv]; exact (Held.at _ _ _ _ (by simp)).alloc _
      have B3 : Held v (w.heap.size + 1 + 1) 39 #[.int .i64 i, .int .i64 m, .bool s, .int .i64 d] := by rw [hv]; exact Held.at _ _ _ _ (by simp)
      clear hv
      have C := hC.ext E
      clear hC
      generalize w.heap.size = b1 at *
      obtain ⟨k0, k1⟩ := B1.c2; have lk := B1.lt
      obtain ⟨p0, p1, p2, p3, p4, p5, p6⟩ := B2.c7; have lp := B2.lt
      obtain ⟨q0, q1, q2, q3⟩ := B3.c4; have lq := B3.lt
      have x2 := x2.out
      simp only [x2] at NY
      go_wp2_with (go_at_call 118; (with_reducible refine Calls.mono (NY _ C) ?_); rintro e v2 ⟨rfl, h⟩)
      go_ret
      exact ⟨ret_bool (by rw [H.out, xr.out, zr.out]; simp), E.trans h⟩
    · have g0 : decide (0 < t.m) = true := decide_eq_true z0
      have g1 : (m == t.m) = true := beq_iff_eq.2 z1
      have g1n : (m != t.m) = false := by rw [bne, g1]; rfl
      have g2 : (s == t.s) = true := beq_iff_eq.2 z2
      have g2n : (s != t.s) = false := by rw [bne, g2]; rfl
      clear z0 z1 z2
      go_enter Tryd.func88, Tryd.ntmps88
      go_upto_region 1 with (fail)
      obtain ⟨v, hv⟩ : ∃ v, v = (((w.alloc (.cells #[.slice A c.nk ca, .slice A' c.ny cb] 25)).alloc (.cells #[.int .i64 t.d, .bool t.more, .int .i64 t.m, .bool t.s, .string t.nm, .int .i64 t.af, .string t.kg] 33)).alloc (.cells #[.int .i64 i, .int .i64 m, .bool s, .int .i64 d] 39)) := ⟨_, rfl⟩
      rw [← hv]
      have E : Ext w v := by rw [hv]; exact (((Ext.refl _).alloc _).alloc _).alloc _
      have B1 : Held v w.heap.size 25 #[.slice A c.nk ca, .slice A' c.ny cb] := by rw [hv]; exact ((Held.new _ _ _).alloc _).alloc _
      have B2 : Held v (w.heap.size + 1) 33 #[.int .i64 t.d, .bool t.more, .int .i64 t.m, .bool t.s, .string t.nm, .int .i64 t.af, .string t.kg] := by rw [hv]; exact (Held.at _ _ _ _ (by simp)).alloc _
      have B3 : Held v (w.heap.size + 1 + 1) 39 #[.int .i64 i, .int .i64 m, .bool s, .int .i64 d] := by rw [hv]; exact Held.at _ _ _ _ (by simp)
      clear hv
      have C := hC.ext E
      clear hC
      generalize w.heap.size = b1 at *
      obtain ⟨k0, k1⟩ := B1.c2; have lk := B1.lt
      obtain ⟨p0, p1, p2, p3, p4, p5, p6⟩ := B2.c7; have lp := B2.lt
      obtain ⟨q0, q1, q2, q3⟩ := B3.c4; have lq := B3.lt
      have x2 := x2.out
      simp only [x2] at NY
      go_wp2_with (go_at_call 118; (with_reducible refine Calls.mono (NY _ C) ?_); rintro e v2 ⟨rfl, h⟩)
      go_ret
      exact ⟨ret_bool (by rw [H.out, xr.out, zr.out]; simp), E.trans h⟩
    · have g0 : decide (0 < t.m) = true := decide_eq_true z0
      have g1 : (m == t.m) = true := beq_iff_eq.2 z1
      have g1n : (m != t.m) = false := by rw [bne, g1]; rfl
      have g2 : (s == t.s) = false := beq_eq_false_iff_ne.2 z2
      have g2n : (s != t.s) = true := by rw [bne, g2]; rfl
      clear z0 z1 z2
      go_enter Tryd.func88, Tryd.ntmps88
      go_upto_region 1 with (fail)
      obtain ⟨v, hv⟩ : ∃ v, v = (((w.alloc (.cells #[.slice A c.nk ca, .slice A' c.ny cb] 25)).alloc (.cells #[.int .i64 t.d, .bool t.more, .int .i64 t.m, .bool t.s, .string t.nm, .int .i64 t.af, .string t.kg] 33)).alloc (.cells #[.int .i64 i, .int .i64 m, .bool s, .int .i64 d] 39)) := ⟨_, rfl⟩
      rw [← hv]
      have E : Ext w v := by rw [hv]; exact (((Ext.refl _).alloc _).alloc _).alloc _
      have B1 : Held v w.heap.size 25 #[.slice A c.nk ca, .slice A' c.ny cb] := by rw [hv]; exact ((Held.new _ _ _).alloc _).alloc _
      have B2 : Held v (w.heap.size + 1) 33 #[.int .i64 t.d, .bool t.more, .int .i64 t.m, .bool t.s, .string t.nm, .int .i64 t.af, .string t.kg] := by rw [hv]; exact (Held.at _ _ _ _ (by simp)).alloc _
      have B3 : Held v (w.heap.size + 1 + 1) 39 #[.int .i64 i, .int .i64 m, .bool s, .int .i64 d] := by rw [hv]; exact Held.at _ _ _ _ (by simp)
      clear hv
      have C := hC.ext E
      clear hC
      generalize w.heap.size = b1 at *
      obtain ⟨k0, k1⟩ := B1.c2; have lk := B1.lt
      obtain ⟨p0, p1, p2, p3, p4, p5, p6⟩ := B2.c7; have lp := B2.lt
      obtain ⟨q0, q1, q2, q3⟩ := B3.c4; have lq := B3.lt
      have x2 := x2.out
      simp only [x2] at NY
      go_wp2
      go_ret
      exact ⟨ret_bool (by rw [H.out, zr.out]; simp), E⟩
    · have g0 : decide (0 < t.m) = true := decide_eq_true z0
      have g1 : (m == t.m) = false := beq_eq_false_iff_ne.2 z1
      have g1n : (m != t.m) = true := by rw [bne, g1]; rfl
      clear z0 z1
      go_enter Tryd.func88, Tryd.ntmps88
      go_upto_region 1 with (fail)
      obtain ⟨v, hv⟩ : ∃ v, v = (((w.alloc (.cells #[.slice A c.nk ca, .slice A' c.ny cb] 25)).alloc (.cells #[.int .i64 t.d, .bool t.more, .int .i64 t.m, .bool t.s, .string t.nm, .int .i64 t.af, .string t.kg] 33)).alloc (.cells #[.int .i64 i, .int .i64 m, .bool s, .int .i64 d] 39)) := ⟨_, rfl⟩
      rw [← hv]
      have E : Ext w v := by rw [hv]; exact (((Ext.refl _).alloc _).alloc _).alloc _
      have B1 : Held v w.heap.size 25 #[.slice A c.nk ca, .slice A' c.ny cb] := by rw [hv]; exact ((Held.new _ _ _).alloc _).alloc _
      have B2 : Held v (w.heap.size + 1) 33 #[.int .i64 t.d, .bool t.more, .int .i64 t.m, .bool t.s, .string t.nm, .int .i64 t.af, .string t.kg] := by rw [hv]; exact (Held.at _ _ _ _ (by simp)).alloc _
      have B3 : Held v (w.heap.size + 1 + 1) 39 #[.int .i64 i, .int .i64 m, .bool s, .int .i64 d] := by rw [hv]; exact Held.at _ _ _ _ (by simp)
      clear hv
      have C := hC.ext E
      clear hC
      generalize w.heap.size = b1 at *
      obtain ⟨k0, k1⟩ := B1.c2; have lk := B1.lt
      obtain ⟨p0, p1, p2, p3, p4, p5, p6⟩ := B2.c7; have lp := B2.lt
      obtain ⟨q0, q1, q2, q3⟩ := B3.c4; have lq := B3.lt
      have x2 := x2.out
      simp only [x2] at NY
      go_wp2
      go_ret
      exact ⟨ret_bool (by rw [H.out, zr.out]; simp), E⟩
  · have f0 : decide (0 < t.d) = true := decide_eq_true x0
    have f1 : (d == t.d) = false := beq_eq_false_iff_ne.2 x1
    have f1n : (d != t.d) = true := by rw [bne, f1]; rfl
    have f3 : decide (t.d < d) = false := decide_eq_false x3
    clear x0 x1 x3
    replace x2 := Lib.hid x2
    go_enter Tryd.func88, Tryd.ntmps88
    go_upto_region 1 with (fail)
    obtain ⟨v, hv⟩ : ∃ v, v = (((w.alloc (.cells #[.slice A c.nk ca, .slice A' c.ny cb] 25)).alloc (.cells #[.int .i64 t.d, .bool t.more, .int .i64 t.m, .bool t.s, .string t.nm, .int .i64 t.af, .string t.kg] 33)).alloc (.cells #[.int .i64 i, .int .i64 m, .bool s, .int .i64 d] 39)) := ⟨_, rfl⟩
    rw [← hv]
    have E : Ext w v := by rw [hv]; exact (((Ext.refl _).alloc _).alloc _).alloc _
    have B1 : Held v w.heap.size 25 #[.slice A c.nk ca, .slice A' c.ny cb] := by rw [hv]; exact ((Held.new _ _ _).alloc _).alloc _
    have B2 : Held v (w.heap.size + 1) 33 #[.int .i64 t.d, .bool t.more, .int .i64 t.m, .bool t.s, .string t.nm, .int .i64 t.af, .string t.kg] := by rw [hv]; exact (Held.at _ _ _ _ (by simp)).alloc _
    have B3 : Held v (w.heap.size + 1 + 1) 39 #[.int .i64 i, .int .i64 m, .bool s, .int .i64 d] := by rw [hv]; exact Held.at _ _ _ _ (by simp)
    clear hv
    have C := hC.ext E
    clear hC
    generalize w.heap.size = b1 at *
    obtain ⟨k0, k1⟩ := B1.c2; have lk := B1.lt
    obtain ⟨p0, p1, p2, p3, p4, p5, p6⟩ := B2.c7; have lp := B2.lt
    obtain ⟨q0, q1, q2, q3⟩ := B3.c4; have lq := B3.lt
    have x2 := x2.out
    simp only [x2] at NY
    go_wp2
    go_ret
    exact ⟨ret_bool (by rw [H.out, xr.out]; simp), E⟩
  · have f0 : decide (0 < t.d) = true := decide_eq_true x0
    have f1 : (d == t.d) = false := beq_eq_false_iff_ne.2 x1
    have f1n : (d != t.d) = true := by rw [bne, f1]; rfl
    clear x0 x1
    replace x2 := Lib.hid x2
    go_enter Tryd.func88, Tryd.ntmps88
    go_upto_region 1 with (fail)
    obtain ⟨v, hv⟩ : ∃ v, v = (((w.alloc (.cells #[.slice A c.nk ca, .slice A' c.ny cb] 25)).alloc (.cells #[.int .i64 t.d, .bool t.more, .int .i64 t.m, .bool t.s, .string t.nm, .int .i64 t.af, .string t.kg] 33)).alloc (.cells #[.int .i64 i, .int .i64 m, .bool s, .int .i64 d] 39)) := ⟨_, rfl⟩
    rw [← hv]
    have E : Ext w v := by rw [hv]; exact (((Ext.refl _).alloc _).alloc _).alloc _
    have B1 : Held v w.heap.size 25 #[.slice A c.nk ca, .slice A' c.ny cb] := by rw [hv]; exact ((Held.new _ _ _).alloc _).alloc _
    have B2 : Held v (w.heap.size + 1) 33 #[.int .i64 t.d, .bool t.more, .int .i64 t.m, .bool t.s, .string t.nm, .int .i64 t.af, .string t.kg] := by rw [hv]; exact (Held.at _ _ _ _ (by simp)).alloc _
    have B3 : Held v (w.heap.size + 1 + 1) 39 #[.int .i64 i, .int .i64 m, .bool s, .int .i64 d] := by rw [hv]; exact Held.at _ _ _ _ (by simp)
    clear hv
    have C := hC.ext E
    clear hC
    generalize w.heap.size = b1 at *
    obtain ⟨k0, k1⟩ := B1.c2; have lk := B1.lt
    obtain ⟨p0, p1, p2, p3, p4, p5, p6⟩ := B2.c7; have lp := B2.lt
    obtain ⟨q0, q1, q2, q3⟩ := B3.c4; have lq := B3.lt
    have x2 := x2.out
    simp only [x2] at NY
    go_wp2
    go_ret
    exact ⟨ret_bool (by rw [H.out, xr.out]; simp), E⟩
end Go.Proofs.YtfchchmmjabjnaaDoor
