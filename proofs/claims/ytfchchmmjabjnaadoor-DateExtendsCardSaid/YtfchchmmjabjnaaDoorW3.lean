/- The walks of the checks of traces, of kings and of years. -/
import Derived.Test.YtfchchmmjabjnaaDoorW2
namespace Go.Proofs.YtfchchmmjabjnaaDoor
open Go Go.RowKit
attribute [local go_sem] gv_yes

theorem trOk_eq (t : Tr) : t.ok = (decide (0 ≤ t.d) && decide (t.d ≤ 30) && (!t.more || decide (0 < t.d)) && decide (0 ≤ t.m) && decide (t.m ≤ 12) && (!t.s || decide (0 < t.m)) && (t.nm.toList.isEmpty || isName t.nm) && decide (0 ≤ t.af) && decide (t.af ≤ 3) &&
    (!t.nm.toList.isEmpty || t.af == 0) && (t.kg.toList.isEmpty || isName t.kg)) := by
  rw [Tr.ok, emptyB_eq, emptyB_eq]; rfl

set_option maxRecDepth 100000 in
set_option maxHeartbeats 4000000 in
theorem validTrace_any (t : Tr) (w : World) :
    Calls Tryd.prog 76 #[.agg #[.int .i64 t.d, .bool t.more, .int .i64 t.m, .bool t.s, .string t.nm, .int .i64 t.af, .string t.kg]] w fun e w' => e = .returned (.bool t.ok) ∧ Ext w w' := by
  have H : Hid (t.ok = _) := trOk_eq t
  generalize t.ok = r at *
  go_enter Tryd.func76, Tryd.ntmps76
  go_upto_region 1 with (fail)
  refine wp_region_xl w (by repeat (first | exact Ext.refl _ | (refine Ext.alloc ?_ _) | (refine Ext.trans ?_ (by assumption)))) ?_
  intro hne hrx hry
  try simp only []
  try simp only [List.append_eq, List.cons_append, List.nil_append]
  have hrx0 := fun u o => hrx u (w.heap.size) o (by first | omega | (simp; done) | (simp; omega))
  skip
  repeat (first
    | go_big_quiet_skip
    | ((with_reducible apply q_and)
       · exact rfl
       · exact rfl
       · exact rfl
       intro K hK
       unfold Then; go_big_quiet_op; (with_reducible refine hK _ ?_); clear hK K)
    | ((with_reducible apply q_or)
       · exact rfl
       · exact rfl
       · exact rfl
       intro K hK
       unfold Then; go_big_quiet_op; (with_reducible refine hK _ ?_); clear hK K)
    | (go_big_quiet_want; go_big_quiet_op; go_big_quiet_on)
    | (go_big_quiet_want; go_big_quiet_op; apply Exists.intro; refine ⟨fun u => ?_, ?_⟩
       · first
           | (go_at_call 111; refine (isName_any _ _).mono ?_; rintro e w' ⟨rfl, rfl⟩; exact ⟨rfl, u, rfl⟩)
       go_big_quiet_on)
    | ((with_reducible apply q_and_g)
       · first | exact wanted_pt rfl rfl rfl | exact wanted_pf rfl rfl rfl | exact wanted_gt rfl rfl rfl | exact wanted_gf rfl rfl rfl
       · exact rfl
       · exact rfl
       · exact rfl
       intro K hK
       unfold Then; go_big_quiet_op; (with_reducible refine hK _ ?_); clear hK K)
    | ((with_reducible apply q_or_g)
       · first | exact wanted_pt rfl rfl rfl | exact wanted_pf rfl rfl rfl | exact wanted_gt rfl rfl rfl | exact wanted_gf rfl rfl rfl
       · exact rfl
       · exact rfl
       · exact rfl
       intro K hK
       unfold Then; go_big_quiet_op; (with_reducible refine hK _ ?_); clear hK K)
    | ((with_reducible apply q_sym)
       · first | exact wanted_pt rfl rfl rfl | exact wanted_pf rfl rfl rfl | exact wanted_gt rfl rfl rfl | exact wanted_gf rfl rfl rfl
       apply Exists.intro
       refine And.intro (fun hgb => ?_) ?_
       · intro u
         try simp at hgb
         go_simp
         try simp only [if_pos hsl]
         try simp only [if_pos (hin (by omega))]
         try (simp only [hd0 (by omega)]; go_simp)
         try (rw [hlook _ (Ext.trans (by repeat (first | exact Ext.refl _ | (refine Ext.alloc ?_ _) | (refine Ext.trans ?_ (by assumption)))) u.e) (hlk0 hgb)]; go_simp)
         first
           | (with_reducible exact rfl)
           | (go_at_call 111; refine (isName_any _ _).mono ?_; rintro e w' ⟨rfl, rfl⟩; exact ⟨rfl, u, rfl⟩)
       intro K hK
       unfold Then; go_big_quiet_op; (with_reducible refine hK _ ?_); clear hK K))
  clear hne hry hrx hrx0
  refine wpQuiet_nil ?_
  intro wq hq
  obtain ⟨hcwq, hfwq, hzwq⟩ := Ext.rules hq
  try simp only [World.size_alloc] at hzwq
  have hk0wq := fun o => hcwq (w.heap.size) o (by first | omega | (simp; done) | (simp; omega))
  have hj0wq := fun o => hfwq (w.heap.size) o (by first | omega | (simp; done) | (simp; omega))
  have hl0wq : w.heap.size < wq.heap.size := (by first | omega | (simp; done) | (simp; omega))
  obtain ⟨hcbwq, hfbwq, hzbwq⟩ := Ext.rules (show Ext w wq from (by repeat (first | exact Ext.refl _ | (refine Ext.alloc ?_ _) | (refine Ext.trans ?_ (by assumption)))))
  clear hcwq hfwq
  go_wp2
  go_ret
  exact ⟨ret_bool H.out.symm, (by repeat (first | exact Ext.refl _ | (refine Ext.alloc ?_ _) | (refine Ext.trans ?_ (by assumption))))⟩

set_option maxHeartbeats 400000 in
theorem checkTrace_any (t : Tr) (w : World) :
    Calls Tryd.prog 48 #[.agg #[.int .i64 t.d, .bool t.more, .int .i64 t.m, .bool t.s, .string t.nm, .int .i64 t.af, .string t.kg]] w fun e w' => e = .returned (.int .i64 (trChk t)) ∧ Ext w w' := by
  have H : Hid (trChk t = if t.ok then 0 else 72) := rfl
  generalize trChk t = r at *
  cases hk : t.ok
  all_goals
    go_enter Tryd.func48, Tryd.ntmps48
    go_wp2_with (go_at_call 76; refine (validTrace_any t _).mono ?_; rw [hk]; rintro e w' ⟨rfl, hb⟩)
    go_ret
    exact ⟨ret_int (by rw [H.out, hk]; rfl), (by repeat (first | exact Ext.refl _ | (refine Ext.alloc ?_ _) | (refine Ext.trans ?_ (by assumption))))⟩

theorem trOkR (t : Tr) : t.ok = !((decide (t.d < 0) || decide (30 < t.d) || (t.d == 0 && t.more) || decide (t.m < 0) || decide (12 < t.m) || (t.m == 0 && t.s)) ||
    ((!t.nm.toList.isEmpty && !isName t.nm) || decide (t.af < 0) || decide (3 < t.af) || (t.nm.toList.isEmpty && decide (0 < t.af)) || (!t.kg.toList.isEmpty && !isName t.kg))) := by
  rw [trOk_eq]
  rw [Bool.eq_iff_iff]
  cases t.more <;> cases t.s <;> cases t.nm.toList.isEmpty <;> cases isName t.nm <;> cases t.kg.toList.isEmpty <;> cases isName t.kg <;> simp <;> omega
set_option maxRecDepth 100000 in
set_option maxHeartbeats 4000000 in
theorem checkTraceR_any (t : Tr) (w : World) :
    Calls Tryd.prog 49 #[.agg #[.int .i64 t.d, .bool t.more, .int .i64 t.m, .bool t.s, .string t.nm, .int .i64 t.af, .string t.kg]] w fun e w' => e = .returned (.int .i64 (trChk t)) ∧ Ext w w' := by
  have H : Hid (trChk t = if t.ok then 0 else 72) := rfl
  have H2 : Hid (t.ok = _) := trOkR t
  generalize trChk t = r at *
  generalize t.ok = ok at *
  go_enter Tryd.func49, Tryd.ntmps49
  go_upto_region 1 with (fail)
  refine wp_region_xl w (by repeat (first | exact Ext.refl _ | (refine Ext.alloc ?_ _) | (refine Ext.trans ?_ (by assumption)))) ?_
  intro hne hrx hry
  try simp only []
  try simp only [List.append_eq, List.cons_append, List.nil_append]
  have hrx0 := fun u o => hrx u (w.heap.size) o (by first | omega | (simp; done) | (simp; omega))
  skip
  repeat (first
    | go_big_quiet_skip
    | ((with_reducible apply q_and)
       · exact rfl
       · exact rfl
       · exact rfl
       intro K hK
       unfold Then; go_big_quiet_op; (with_reducible refine hK _ ?_); clear hK K)
    | ((with_reducible apply q_or)
       · exact rfl
       · exact rfl
       · exact rfl
       intro K hK
       unfold Then; go_big_quiet_op; (with_reducible refine hK _ ?_); clear hK K)
    | (go_big_quiet_want; go_big_quiet_op; go_big_quiet_on)
    | ((with_reducible apply q_and_g)
       · first | exact wanted_pt rfl rfl rfl | exact wanted_pf rfl rfl rfl | exact wanted_gt rfl rfl rfl | exact wanted_gf rfl rfl rfl
       · exact rfl
       · exact rfl
       · exact rfl
       intro K hK
       unfold Then; go_big_quiet_op; (with_reducible refine hK _ ?_); clear hK K)
    | ((with_reducible apply q_or_g)
       · first | exact wanted_pt rfl rfl rfl | exact wanted_pf rfl rfl rfl | exact wanted_gt rfl rfl rfl | exact wanted_gf rfl rfl rfl
       · exact rfl
       · exact rfl
       · exact rfl
       intro K hK
       unfold Then; go_big_quiet_op; (with_reducible refine hK _ ?_); clear hK K)
    | ((with_reducible apply q_sym)
       · first | exact wanted_pt rfl rfl rfl | exact wanted_pf rfl rfl rfl | exact wanted_gt rfl rfl rfl | exact wanted_gf rfl rfl rfl
       apply Exists.intro
       refine And.intro (fun hgb => ?_) ?_
       · intro u
         try simp at hgb
         go_simp
         try simp only [if_pos hsl]
         try simp only [if_pos (hin (by omega))]
         try (simp only [hd0 (by omega)]; go_simp)
         try (rw [hlook _ (Ext.trans (by repeat (first | exact Ext.refl _ | (refine Ext.alloc ?_ _) | (refine Ext.trans ?_ (by assumption)))) u.e) (hlk0 hgb)]; go_simp)
         first
           | (with_reducible exact rfl)
       intro K hK
       unfold Then; go_big_quiet_op; (with_reducible refine hK _ ?_); clear hK K))
  clear hne hry hrx hrx0
  refine wpQuiet_nil ?_
  intro wq hq
  obtain ⟨hcwq, hfwq, hzwq⟩ := Ext.rules hq
  try simp only [World.size_alloc] at hzwq
  have hk0wq := fun o => hcwq (w.heap.size) o (by first | omega | (simp; done) | (simp; omega))
  have hj0wq := fun o => hfwq (w.heap.size) o (by first | omega | (simp; done) | (simp; omega))
  have hl0wq : w.heap.size < wq.heap.size := (by first | omega | (simp; done) | (simp; omega))
  obtain ⟨hcbwq, hfbwq, hzbwq⟩ := Ext.rules (show Ext w wq from (by repeat (first | exact Ext.refl _ | (refine Ext.alloc ?_ _) | (refine Ext.trans ?_ (by assumption)))))
  clear hcwq hfwq
  generalize hf : (decide (t.d < 0) || decide (30 < t.d) || (t.d == 0 && t.more) || decide (t.m < 0) || decide (12 < t.m) || (t.m == 0 && t.s)) = f at *
  cases f
  · go_upto_region 3 with (fail)
    refine wp_region_xl w (by repeat (first | exact Ext.refl _ | (refine Ext.alloc ?_ _) | (refine Ext.trans ?_ (by assumption)))) ?_
    intro hne hrx hry
    try simp only []
    try simp only [List.append_eq, List.cons_append, List.nil_append]
    have hrx0 := fun u o => hrx u (w.heap.size) o (by first | omega | (simp; done) | (simp; omega))
    skip
    repeat (first
      | go_big_quiet_skip
      | ((with_reducible apply q_and)
         · exact rfl
         · exact rfl
         · exact rfl
         intro K hK
         unfold Then; go_big_quiet_op; (with_reducible refine hK _ ?_); clear hK K)
      | ((with_reducible apply q_or)
         · exact rfl
         · exact rfl
         · exact rfl
         intro K hK
         unfold Then; go_big_quiet_op; (with_reducible refine hK _ ?_); clear hK K)
      | (go_big_quiet_want; go_big_quiet_op; go_big_quiet_on)
      | (go_big_quiet_want; go_big_quiet_op; apply Exists.intro; refine ⟨fun u => ?_, ?_⟩
         · first
             | (go_at_call 95; refine (isNameR_any _ _).mono ?_; rintro e w' ⟨rfl, rfl⟩; exact ⟨rfl, u, rfl⟩)
         go_big_quiet_on)
      | ((with_reducible apply q_and_g)
         · first | exact wanted_pt rfl rfl rfl | exact wanted_pf rfl rfl rfl | exact wanted_gt rfl rfl rfl | exact wanted_gf rfl rfl rfl
         · exact rfl
         · exact rfl
         · exact rfl
         intro K hK
         unfold Then; go_big_quiet_op; (with_reducible refine hK _ ?_); clear hK K)
      | ((with_reducible apply q_or_g)
         · first | exact wanted_pt rfl rfl rfl | exact wanted_pf rfl rfl rfl | exact wanted_gt rfl rfl rfl | exact wanted_gf rfl rfl rfl
         · exact rfl
         · exact rfl
         · exact rfl
         intro K hK
         unfold Then; go_big_quiet_op; (with_reducible refine hK _ ?_); clear hK K)
      | ((with_reducible apply q_sym)
         · first | exact wanted_pt rfl rfl rfl | exact wanted_pf rfl rfl rfl | exact wanted_gt rfl rfl rfl | exact wanted_gf rfl rfl rfl
         apply Exists.intro
         refine And.intro (fun hgb => ?_) ?_
         · intro u
           try simp at hgb
           go_simp
           try simp only [if_pos hsl]
           try simp only [if_pos (hin (by omega))]
           try (simp only [hd0 (by omega)]; go_simp)
           try (rw [hlook _ (Ext.trans (by repeat (first | exact Ext.refl _ | (refine Ext.alloc ?_ _) | (refine Ext.trans ?_ (by assumption)))) u.e) (hlk0 hgb)]; go_simp)
           first
             | (with_reducible exact rfl)
             | (go_at_call 95; refine (isNameR_any _ _).mono ?_; rintro e w' ⟨rfl, rfl⟩; exact ⟨rfl, u, rfl⟩)
         intro K hK
         unfold Then; go_big_quiet_op; (with_reducible refine hK _ ?_); clear hK K))
    clear hne hry hrx hrx0
    refine wpQuiet_nil ?_
    intro wr hr
    obtain ⟨hcwr, hfwr, hzwr⟩ := Ext.rules hr
    try simp only [World.size_alloc] at hzwr
    have hk0wr := fun o => hcwr (w.heap.size) o (by first | omega | (simp; done) | (simp; omega))
    have hj0wr := fun o => hfwr (w.heap.size) o (by first | omega | (simp; done) | (simp; omega))
    have hl0wr : w.heap.size < wr.heap.size := (by first | omega | (simp; done) | (simp; omega))
    obtain ⟨hcbwr, hfbwr, hzbwr⟩ := Ext.rules (show Ext w wr from (by repeat (first | exact Ext.refl _ | (refine Ext.alloc ?_ _) | (refine Ext.trans ?_ (by assumption)))))
    clear hcwr hfwr
    generalize hg : ((!t.nm.toList.isEmpty && !isName t.nm) || decide (t.af < 0) || decide (3 < t.af) || (t.nm.toList.isEmpty && decide (0 < t.af)) || (!t.kg.toList.isEmpty && !isName t.kg)) = g at *
    cases g
    all_goals
      go_wp2
      go_ret
      exact ⟨ret_int (by rw [H.out, H2.out]; rfl), (by repeat (first | exact Ext.refl _ | (refine Ext.alloc ?_ _) | (refine Ext.trans ?_ (by assumption))))⟩
  · go_wp2
    go_ret
    exact ⟨ret_int (by rw [H.out, H2.out]; rfl), (by repeat (first | exact Ext.refl _ | (refine Ext.alloc ?_ _) | (refine Ext.trans ?_ (by assumption))))⟩

set_option maxRecDepth 100000 in
set_option maxHeartbeats 1000000 in
theorem in_any (A A' : Option Addr) (ca cb : Nat) (c : Cal) (d : Dt) (w : World) (hC : CalAt w A ca A' cb c) (hlg : ∀ i, i < c.ny → 0 ≤ (c.yr i).lg ∧ (c.yr i).lg ≤ 8191) :
    Calls Tryd.prog 100 #[.agg #[.slice A c.nk ca, .slice A' c.ny cb], .agg #[.int .i64 d.y, .int .i64 d.m, .bool d.s, .int .i64 d.d]] w fun e w' => e = .returned (.bool (c.has d)) ∧ Ext w w' := by
  have hny := hC.ny_le
  have H : Hid (c.has d = (!(decide (d.y < 0) || decide ((c.ny : Int) ≤ d.y) || decide (d.m < 1) || decide (12 < d.m)) && ((!d.s || ((c.yrI d.y).db == d.m)) && decide (1 ≤ d.d) && decide (d.d ≤ (c.yrI d.y).len d.m d.s)))) := by
    unfold Hid Cal.has
    rw [Bool.eq_iff_iff]
    cases d.s <;> simp <;> omega
  generalize c.has d = r at *
  go_enter Tryd.func100, Tryd.ntmps100
  go_upto_region 1 with (fail)
  refine wp_region_xl w (by repeat (first | exact Ext.refl _ | (refine Ext.alloc ?_ _) | (refine Ext.trans ?_ (by assumption)))) ?_
  intro hne hrx hry
  try simp only []
  try simp only [List.append_eq, List.cons_append, List.nil_append]
  have hrx0 := fun u o => hrx u (w.heap.size) o (by first | omega | (simp; done) | (simp; omega))
  have hrx1 := fun u o => hrx u (w.heap.size + 1) o (by first | omega | (simp; done) | (simp; omega))
  skip
  repeat (first
    | go_big_quiet_skip
    | ((with_reducible apply q_and)
       · exact rfl
       · exact rfl
       · exact rfl
       intro K hK
       unfold Then; go_big_quiet_op; (with_reducible refine hK _ ?_); clear hK K)
    | ((with_reducible apply q_or)
       · exact rfl
       · exact rfl
       · exact rfl
       intro K hK
       unfold Then; go_big_quiet_op; (with_reducible refine hK _ ?_); clear hK K)
    | (go_big_quiet_want; go_big_quiet_op; go_big_quiet_on)
    | ((with_reducible apply q_and_g)
       · first | exact wanted_pt rfl rfl rfl | exact wanted_pf rfl rfl rfl | exact wanted_gt rfl rfl rfl | exact wanted_gf rfl rfl rfl
       · exact rfl
       · exact rfl
       · exact rfl
       intro K hK
       unfold Then; go_big_quiet_op; (with_reducible refine hK _ ?_); clear hK K)
    | ((with_reducible apply q_or_g)
       · first | exact wanted_pt rfl rfl rfl | exact wanted_pf rfl rfl rfl | exact wanted_gt rfl rfl rfl | exact wanted_gf rfl rfl rfl
       · exact rfl
       · exact rfl
       · exact rfl
       intro K hK
       unfold Then; go_big_quiet_op; (with_reducible refine hK _ ?_); clear hK K)
    | ((with_reducible apply q_sym)
       · first | exact wanted_pt rfl rfl rfl | exact wanted_pf rfl rfl rfl | exact wanted_gt rfl rfl rfl | exact wanted_gf rfl rfl rfl
       apply Exists.intro
       refine And.intro (fun hgb => ?_) ?_
       · intro u
         try simp at hgb
         go_simp
         try simp only [if_pos hsl]
         try simp only [if_pos (hin (by omega))]
         try (simp only [hd0 (by omega)]; go_simp)
         try (rw [hlook _ (Ext.trans (by repeat (first | exact Ext.refl _ | (refine Ext.alloc ?_ _) | (refine Ext.trans ?_ (by assumption)))) u.e) (hlk0 hgb)]; go_simp)
         first
           | (with_reducible exact rfl)
       intro K hK
       unfold Then; go_big_quiet_op; (with_reducible refine hK _ ?_); clear hK K))
  clear hne hry hrx hrx0 hrx1
  refine wpQuiet_nil ?_
  intro wp hp
  obtain ⟨hcwp, hfwp, hzwp⟩ := Ext.rules hp
  try simp only [World.size_alloc] at hzwp
  have hk0wp := fun o => hcwp (w.heap.size) o (by first | omega | (simp; done) | (simp; omega))
  have hj0wp := fun o => hfwp (w.heap.size) o (by first | omega | (simp; done) | (simp; omega))
  have hl0wp : w.heap.size < wp.heap.size := (by first | omega | (simp; done) | (simp; omega))
  have hk1wp := fun o => hcwp (w.heap.size + 1) o (by first | omega | (simp; done) | (simp; omega))
  have hj1wp := fun o => hfwp (w.heap.size + 1) o (by first | omega | (simp; done) | (simp; omega))
  have hl1wp : w.heap.size + 1 < wp.heap.size := (by first | omega | (simp; done) | (simp; omega))
  obtain ⟨hcbwp, hfbwp, hzbwp⟩ := Ext.rules (show Ext w wp from (by repeat (first | exact Ext.refl _ | (refine Ext.alloc ?_ _) | (refine Ext.trans ?_ (by assumption)))))
  clear hcwp hfwp
  generalize hf : (decide (d.y < 0) || decide ((c.ny : Int) ≤ d.y) || decide (d.m < 1) || decide (12 < d.m)) = f at *
  cases f
  · have hb4 : 0 ≤ d.y ∧ d.y < c.ny ∧ 1 ≤ d.m ∧ d.m ≤ 12 := by simp only [Bool.or_eq_false_iff, decide_eq_false_iff_not] at hf; omega
    obtain ⟨hy0, hy1, hm0, hm1⟩ := hb4
    clear hf
    obtain ⟨b, off, rfl, hb, c0, c1, c2, c3⟩ := hC.yearI hy0 hy1
    obtain ⟨hl, hl'⟩ : 0 ≤ (c.yrI d.y).lg ∧ (c.yrI d.y).lg ≤ 8191 := hlg _ (by omega)
    clear hlg hC
    generalize c.yrI d.y = yy at *
    go_upto_region 4 with (fail)
    refine wp_region_xw w mixed (by kernel_rfl) (by repeat (first | exact Ext.refl _ | (refine Ext.alloc ?_ _) | (refine Ext.trans ?_ (by assumption)))) ?_
    intro hne hrx hry
    try simp only []
    try simp only [List.append_eq, List.cons_append, List.nil_append]
    have hrx0 := fun u o => hrx u (w.heap.size) o (by first | omega | (simp; done) | (simp; omega))
    have hrx1 := fun u o => hrx u (w.heap.size + 1) o (by first | omega | (simp; done) | (simp; omega))
    skip
    repeat (first
      | go_big_quiet_skip
      | ((with_reducible apply q_and)
         · exact rfl
         · exact rfl
         · exact rfl
         intro K hK
         unfold Then; go_big_quiet_op; (with_reducible refine hK _ ?_); clear hK K)
      | ((with_reducible apply q_or)
         · exact rfl
         · exact rfl
         · exact rfl
         intro K hK
         unfold Then; go_big_quiet_op; (with_reducible refine hK _ ?_); clear hK K)
      | (go_big_quiet_want; go_big_quiet_op; go_big_quiet_on)
      | (go_big_quiet_want; go_big_quiet_op; apply Exists.intro; refine ⟨fun u => ?_, ?_⟩
         · first
             | (go_at_call 106; refine (length_any yy _ _ _ hm0 hm1 hl hl').mono ?_; rintro e w' ⟨rfl, hb⟩; exact ⟨rfl, u.back hb⟩)
         go_big_quiet_on)
      | ((with_reducible apply q_and_g)
         · first | exact wanted_pt rfl rfl rfl | exact wanted_pf rfl rfl rfl | exact wanted_gt rfl rfl rfl | exact wanted_gf rfl rfl rfl
         · exact rfl
         · exact rfl
         · exact rfl
         intro K hK
         unfold Then; go_big_quiet_op; (with_reducible refine hK _ ?_); clear hK K)
      | ((with_reducible apply q_or_g)
         · first | exact wanted_pt rfl rfl rfl | exact wanted_pf rfl rfl rfl | exact wanted_gt rfl rfl rfl | exact wanted_gf rfl rfl rfl
         · exact rfl
         · exact rfl
         · exact rfl
         intro K hK
         unfold Then; go_big_quiet_op; (with_reducible refine hK _ ?_); clear hK K)
      | ((with_reducible apply q_sym)
         · first | exact wanted_pt rfl rfl rfl | exact wanted_pf rfl rfl rfl | exact wanted_gt rfl rfl rfl | exact wanted_gf rfl rfl rfl
         apply Exists.intro
         refine And.intro (fun hgb => ?_) ?_
         · intro u
           try simp at hgb
           go_simp
           try simp only [if_pos hsl]
           try simp only [if_pos (hin (by omega))]
           try (simp only [hd0 (by omega)]; go_simp)
           try (rw [hlook _ (Ext.trans (by repeat (first | exact Ext.refl _ | (refine Ext.alloc ?_ _) | (refine Ext.trans ?_ (by assumption)))) u.e) (hlk0 hgb)]; go_simp)
           first
             | (with_reducible exact rfl)
             | (go_at_call 106; refine (length_any yy _ _ _ hm0 hm1 hl hl').mono ?_; rintro e w' ⟨rfl, hb⟩; exact ⟨rfl, u.back hb⟩)
         intro K hK
         unfold Then; go_big_quiet_op; (with_reducible refine hK _ ?_); clear hK K))
    clear hne hry hrx hrx0 hrx1
    refine wpQuiet_nil ?_
    intro wq hq
    obtain ⟨hcwq, hfwq, hzwq⟩ := Ext.rules hq
    try simp only [World.size_alloc] at hzwq
    have hk0wq := fun o => hcwq (w.heap.size) o (by first | omega | (simp; done) | (simp; omega))
    have hj0wq := fun o => hfwq (w.heap.size) o (by first | omega | (simp; done) | (simp; omega))
    have hl0wq : w.heap.size < wq.heap.size := (by first | omega | (simp; done) | (simp; omega))
    have hk1wq := fun o => hcwq (w.heap.size + 1) o (by first | omega | (simp; done) | (simp; omega))
    have hj1wq := fun o => hfwq (w.heap.size + 1) o (by first | omega | (simp; done) | (simp; omega))
    have hl1wq : w.heap.size + 1 < wq.heap.size := (by first | omega | (simp; done) | (simp; omega))
    obtain ⟨hcbwq, hfbwq, hzbwq⟩ := Ext.rules (show Ext w wq from (by repeat (first | exact Ext.refl _ | (refine Ext.alloc ?_ _) | (refine Ext.trans ?_ (by assumption)))))
    clear hcwq hfwq
    go_wp2
    go_ret
    refine ⟨ret_bool ?_, (by repeat (first | exact Ext.refl _ | (refine Ext.alloc ?_ _) | (refine Ext.trans ?_ (by assumption))))⟩
    rw [H.out]
    rfl
  · go_wp2
    go_ret
    exact ⟨ret_bool (by rw [H.out]; rfl), (by repeat (first | exact Ext.refl _ | (refine Ext.alloc ?_ _) | (refine Ext.trans ?_ (by assumption))))⟩

/-- The first of n strings that is s; -1: none. -/
def findS (f : Nat → ByteArray) (s : ByteArray) (n : Nat) : Int := (((List.range n).find? (fun j => decide (f j = s))).map Int.ofNat).getD (-1)
theorem findS_here {f : Nat → ByteArray} {s : ByteArray} {n k : Nat} (hk : k < n) (h : ∀ j, j < k → f j ≠ s) (e : f k = s) : findS f s n = k := by
  have : (List.range n).find? (fun j => decide (f j = s)) = some k := by
    rw [List.find?_range_eq_some]
    exact ⟨by simpa using e, by simpa using hk, fun j hj => by simpa using h j hj⟩
  rw [findS, this]; rfl
theorem findS_none {f : Nat → ByteArray} {s : ByteArray} {n : Nat} (h : ∀ j, j < n → f j ≠ s) : findS f s n = -1 := by
  have : (List.range n).find? (fun j => decide (f j = s)) = none := by
    rw [List.find?_eq_none]
    intro j hj
    simpa using h j (by simpa using hj)
  rw [findS, this]; rfl
def NotTo (f : Nat → ByteArray) (s : ByteArray) (k : Nat) : Prop := ∀ j, j < k → f j ≠ s
theorem same_yes {a b : ByteArray} (h : (a.toList == b.toList) = true) : a = b := by rw [← same_eq] at h; simpa using h
theorem same_no {a b : ByteArray} (h : (a.toList == b.toList) = false) : a ≠ b := by rw [← same_eq] at h; simpa using h

set_option maxHeartbeats 1000000 in
theorem atR_any (A : Option Addr) (n cap : Nat) (f : Nat → ByteArray) (s : ByteArray) (w : World) (hA : RowsAt w A n 1 (fun i => [.string (f i)])) (hn : n ≤ 9223372036854775807) :
    Calls Tryd.prog 117 #[.slice A n cap, .string s] w fun e w' => e = .returned (.int .i64 (findS f s n)) ∧ w = w' := by
  generalize hr : findS f s n = r
  have H : Hid (findS f s n = r) := hr
  clear hr
  go_enter Tryd.func117, Tryd.ntmps117
  go_wp2
  go_loop [5] (fun i => ∃ k : Nat, k ≤ n ∧ i = .int .i64 k ∧ NotTo f s k) (fun i => n - (intOf i).toNat)
  case atStart => exact ⟨0, Nat.zero_le _, rfl, fun j hj => absurd hj (by omega)⟩
  case round =>
    obtain ⟨k, hk, rfl, hN⟩ := hrel
    by_cases hlt : k < n
    · obtain ⟨b, off, rfl, hb, hc⟩ := hA (by omega)
      have c0 : w.cell? ⟨b, off + k, none⟩ = some (.string (f k)) := by simpa using hc k 0 _ hlt rfl
      clear hc hA
      go_wp2
      · go_ret
        exact ⟨ret_int (by rw [← H.out]; exact (findS_here hlt hN (same_yes ‹_›)).symm), rfl⟩
      · have hne := same_no (a := f k) (b := s) ‹_›
        exact ⟨⟨k + 1, by omega, by go_num, fun j hj => by rcases Nat.lt_or_ge j k with h | h; exact hN j h; rw [show j = k from by omega]; exact hne⟩, by simp [intOf]; omega⟩
    · go_wp2
      go_ret
      exact ⟨ret_int (by rw [← H.out]; exact (findS_none (fun j hj => hN j (by omega))).symm), rfl⟩
end Go.Proofs.YtfchchmmjabjnaaDoor
