/- CopyTexts and Copy once more, with what they hand back owned; the reference's Extend. -/
import Derived.Test.YtfchchmmjabjnaaDoorYq
namespace Go.Proofs.YtfchchmmjabjnaaDoor
open Go Go.RowKit
attribute [local go_sem] gv_yes
set_option maxHeartbeats 1000000 in
theorem copyTexts_own (A : Option Addr) (n cap : Nat) (g : Nat → ByteArray) (w : World) (hA : RowsAt w A n 1 (strRow g)) (hnil : A = none → n = 0 ∧ cap = 0) (hn : n * 16 ≤ 140737488351232) :
    Calls Tryd.prog 71 #[.slice A n cap] w fun e w' => ∃ B m, e = .returned (.slice B n m) ∧ Ext w w' ∧ w'.ownsRow w.heap.size 9 1 (.slice B n m) n (flatL (strRow g) n) := by
  obtain ⟨i0, hi, hz0, hz1, hz2⟩ := info_parts info_str
  have hN := flat_news (f := strRow g) (sz := 1) (fun _ => rfl) (by decide) hA
  have hlen := flatL_len (f := strRow g) (sz := 1) (fun _ => rfl) n
  have hone := flat_one (f := strRow g) (n := n) (fun i u hu => by simp [strRow] at hu; subst hu; simp [Value.oneCell'])
  go_enter Tryd.func71, Tryd.ntmps71
  go_wp2_with (at_builtin; refine wpList_append_copy rfl _ _ 22 rfl w.heap.size 9 i0 (.string ⟨#[]⟩) 1 16 Tryd.underlying22 hi hz0 hz1 hz2 rfl (by decide) rfl A n cap (flatL (strRow g) n) rfl hnil hlen hN hone (by unfold maxLen; omega) (by omega) (Nat.le_refl _) ?_; intro v' w1 hown hgrow)
  obtain ⟨B, m, rfl⟩ := own_slice hown
  go_ret
  exact ⟨B, m, rfl, (Ext.refl w).grown hgrow (fun q hq => by cases hq), hown⟩
set_option maxRecDepth 100000 in
set_option maxHeartbeats 4000000 in
theorem copy_own (A A' : Option Addr) (ca cb : Nat) (c : Cal) (w : World) (hC : CalAt w A ca A' cb c) (hnA : A = none → c.nk = 0 ∧ ca = 0) (hnA' : A' = none → c.ny = 0 ∧ cb = 0) (hk : c.nk * 16 ≤ 140737488351232) (hy : c.ny * 40 ≤ 140737488351232) :
    Calls Tryd.prog 23 #[.agg #[.slice A c.nk ca, .slice A' c.ny cb]] w fun e w' => ∃ B B' da db, e = .returned (.agg #[.slice B c.nk da, .slice B' c.ny db]) ∧ Ext w w' ∧ w'.ownsRow w.heap.size 9 1 (.slice B c.nk da) c.nk (flatL (strRow c.kg) c.nk) ∧ w'.ownsRow w.heap.size 99 4 (.slice B' c.ny db) c.ny (flatL (fun i => (c.yr i).cells) c.ny) := by
  obtain ⟨i0, hi, hz0, hz1, hz2⟩ := info_parts info_year
  have NT := fun v (h : RowsAt v A c.nk 1 (fun i => [.string (c.kg i)])) => copyTexts_own A c.nk ca c.kg v h hnA hk
  have hlen := flatL_len (f := fun i => (c.yr i).cells) (sz := 4) (fun _ => rfl) c.ny
  have hone := flat_one (f := fun i => (c.yr i).cells) (n := c.ny) (yr_one c)
  have HN := fun v (h : RowsAt v A' c.ny 4 (fun i => (c.yr i).cells)) => flat_news (f := fun i => (c.yr i).cells) (sz := 4) (fun _ => rfl) (by decide) h
  have hkm : maxLen ≤ 9223372036854775807 := by decide
  go_enter Tryd.func23, Tryd.ntmps23
  go_upto_region 2 with (fail)
  obtain ⟨v, hv⟩ : ∃ v, v = w.alloc (.cells #[.slice A c.nk ca, .slice A' c.ny cb] 25) := ⟨_, rfl⟩
  rw [← hv]
  have E : Ext w v := by rw [hv]; exact (Ext.refl _).alloc _
  have B1 : Held v w.heap.size 25 #[.slice A c.nk ca, .slice A' c.ny cb] := by rw [hv]; exact Held.new _ _ _
  have hvs : v.heap.size = w.heap.size + 1 := by rw [hv]; simp
  clear hv
  have C := hC.ext E
  have hC0 := And.intro hC.nk_le hC.ny_le
  clear hC
  obtain ⟨vz, hv⟩ : ∃ x, x = v.alloc (.cells #[.slice none 0 0, .slice none 0 0] 25) := ⟨_, rfl⟩
  rw [← hv]
  have EZ : Ext v vz := by rw [hv]; exact (Ext.refl _).alloc _
  have B2 : Held vz (w.heap.size + 1) 25 #[.slice none 0 0, .slice none 0 0] := by rw [← hvs, hv]; exact Held.new _ _ _
  have hb2 : v.heap.size ≤ w.heap.size + 1 := by omega
  clear hv hvs
  generalize w.heap.size + 1 = b2 at *
  generalize w.heap.size = b1 at *
  obtain ⟨k0, k1⟩ := B1.c2
  have lk := B1.lt
  refine wp_region_stepsW 9 v mixed rfl EZ ?_
  intro hne hrx v3 hz3
  have h3 := EZ.trans hz3
  replace B2 := B2.ext hz3
  clear EZ hz3
  refine any_stills (g := 4) [0, 1, 3, 4, 5] [_, _, _, _, _] ⟨rfl, rfl, rfl, rfl, rfl, trivial⟩ (by kernel_rfl) (by kernel_rfl) h3 ?_
  simp only [List.getElem_toArray, List.getElem_cons_succ, List.getElem_cons_zero]
  apply Exists.intro
  refine ⟨fun u => ?_, ?_⟩
  · repeat (first | go_big_quiet_skip | (go_big_quiet_want; go_big_quiet_op; go_big_quiet_on))
    refine wpQuiet_nil ?_
    rfl
  refine any_one 2 rfl (by kernel_rfl) ?_
  simp only [List.getElem_toArray, List.getElem_cons_succ, List.getElem_cons_zero]
  go_wp2_with (go_at_call 71; (with_reducible refine Calls.mono (NT _ (C.kings.ext h3)) ?_); rintro e w4 ⟨B, m, rfl, h4, hr⟩)
  have e4 := h3.trans h4
  refine onQ_in e4 ?_
  refine any_one 6 rfl (by kernel_rfl) ?_
  simp only [List.getElem_toArray, List.getElem_cons_succ, List.getElem_cons_zero]
  go_wp2_with (at_builtin; refine wpList_append_copy rfl _ _ 23 rfl w4.heap.size 99 i0 (.agg #[.int .i64 0, .string ⟨#[]⟩, .int .i64 0, .int .i64 0]) 4 40 Tryd.underlying23 hi hz0 hz1 hz2 rfl (by decide) rfl A' c.ny cb (flatL (fun i => (c.yr i).cells) c.ny) rfl hnA' hlen (HN _ (C.years.ext e4)) hone (by unfold maxLen; omega) (by omega) (Nat.le_refl _) ?_; intro v' w5 hown hgrow)
  obtain ⟨B', m', rfl⟩ := own_slice hown
  have hr' := hown
  have e5 := (e4).grown hgrow (fun q hq => by cases hq)
  have h45 : Ext w4 w5 := (Ext.refl _).grown hgrow (fun q hq => by cases hq)
  clear hown hgrow
  refine onQ_in e5 ?_
  replace hr := ownsRow_ext hr h45
  have hbl := (B2.ext h4).lt
  have hbl3 := B2.lt
  refine any_stills (g := 1) [7] [_] ⟨rfl, trivial⟩ (by kernel_rfl) (by kernel_rfl) e5 ?_
  simp only [List.getElem_toArray, List.getElem_cons_succ, List.getElem_cons_zero]
  apply Exists.intro
  refine ⟨fun u => ?_, ?_⟩
  · repeat (first | go_big_quiet_skip | (go_big_quiet_want; go_big_quiet_op; go_big_quiet_on))
    refine wpQuiet_nil ?_
    rfl
  refine any_one 8 rfl (by kernel_rfl) ?_
  simp only [List.getElem_toArray, List.getElem_cons_succ, List.getElem_cons_zero]
  have B2e := B2.ext (h4.trans h45)
  have f0 := B2e.frozen 0
  have f1 := B2e.frozen 1
  obtain ⟨z0, z1⟩ := B2e.c2
  have lz := B2e.lt
  go_wp2
  have E2 := (e5.setCell (p := ⟨b2, 0, none⟩) hb2 (.slice B c.nk m)).setCell (p := ⟨b2, 1, none⟩) hb2 (.slice B' c.ny m')
  refine onQ_in E2 ?_
  refine any_done (by kernel_rfl) ?_
  replace hr := own_set (held_fst B2e (.slice B c.nk m)) (by decide) (own_set B2e (by decide) hr 0 (.slice B c.nk m)) 1 (.slice B' c.ny m')
  replace hr' := own_set (held_fst B2e (.slice B c.nk m)) (by decide) (own_set B2e (by decide) hr' 0 (.slice B c.nk m)) 1 (.slice B' c.ny m')
  have H2 := held_two B2e (.slice B c.nk m) (.slice B' c.ny m')
  obtain ⟨y0, y1⟩ := H2.c2
  generalize (w5.setCell ⟨b2, 0, none⟩ (.slice B c.nk m)).setCell ⟨b2, 1, none⟩ (.slice B' c.ny m') = wf at *
  go_wp2
  refine bodyPost_ret (v := .agg #[.slice B c.nk m, .slice B' c.ny m']) (by simp [results, Tryd.results23, go_sem, y0, y1]) rfl ⟨B, B', m, m', rfl, E.trans E2, World.ownsRow.mono hr (E.trans h3).size, World.ownsRow.mono hr' (E.trans e4).size⟩
end Go.Proofs.YtfchchmmjabjnaaDoor
