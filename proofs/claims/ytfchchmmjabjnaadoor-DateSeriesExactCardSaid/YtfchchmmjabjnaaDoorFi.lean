/- DateSeriesExact: for every input the law returns true, and each argument reads as before; the tables listed in the row are as the program's text lays them. -/
import Derived.Test.YtfchchmmjabjnaaDoorSh
import Derived.Test.YtfchchmmjabjnaaDoorOq
import Derived.Test.YtfchchmmjabjnaaDoorX4
import Derived.Test.YtfchchmmjabjnaaDoorLh
import Derived.Test.YtfchchmmjabjnaaDoorW8
namespace Go.Proofs.YtfchchmmjabjnaaDoor
open Go Go.RowKit
attribute [local go_sem] gv_yes

theorem exact_sum {c : Cal} {f : Nat → Tr} {g : Nat → Int} {n m : Nat} (hv : c.valid = true) (h64 : n ≤ 64) (h : c.fitting f n g m = true) : c.serE f n = 0 ∧ (c.serV f n).length = n ∧ ∀ i, i < n → ((c.serV f n).getD i zSp).a ≤ g i ∧ g i ≤ ((c.serV f n).getD i zSp).b := by
  obtain ⟨_, hok, hA, _⟩ := fitting_asg h
  have hS : ∀ i, SpOk (c.spans (f i)) := fun i => spans_ok (valid_ny hv) _
  have hE := serE_of hv h64 hok (asg_fail hS hA)
  have hV := (serE_ok hE).2.2.2.2
  refine ⟨hE, by rw [hV]; exact serL_len _ _, fun i hi => ?_⟩
  rw [hV, serL_get hi]
  exact ⟨(early_le hS hA i hi).1, (late_ge hS hA (n - i - 1) i (by omega)).1⟩
set_option maxRecDepth 100000 in
set_option maxHeartbeats 8000000 in
theorem dateSeriesExact_walk (hwk : WorksOk) (A A' : Option Addr) (ca cb : Nat) (c : Cal) (B D : Option Addr) (n cap m capd : Nat) (f : Nat → Tr) (g : Nat → Int) (w : World) (hC : CalAt w A ca A' cb c) (hT : RowsAt w B n 7 (fun i => (f i).cells)) (hD : RowsAt w D m 1 (fun i => [.int .i64 (g i)]))
    (hn : n ≤ 9223372036854775807) (hm : m ≤ 9223372036854775807) (hg : ∀ i, i < m → -9223372036854775808 ≤ g i ∧ g i ≤ 9223372036854775807) :
    Calls Tryd.prog 10 #[.agg #[.slice A c.nk ca, .slice A' c.ny cb], .slice B n cap, .slice D m capd] w fun e w' => e = .returned (.bool true) ∧ Ext w w' := by
  have hwk : ∀ w : World, Calls Tryd.prog 28 #[] w fun e w' => e = .returned (.bool true) ∧ Ext w w' := hwk
  by_cases h64 : 64 < n
  · have hb : decide (64 < (n : Int)) = true := decide_eq_true (by omega)
    go_enter Tryd.func10, Tryd.ntmps10
    go_upto_region 1 with (fail)
    obtain ⟨v, hv⟩ : ∃ v, v = (w.alloc (.cells #[.slice A c.nk ca, .slice A' c.ny cb] 25)) := ⟨_, rfl⟩
    rw [← hv]
    have E : Ext w v := by rw [hv]; exact (Ext.refl _).alloc _
    have B1 : Held v w.heap.size 25 #[.slice A c.nk ca, .slice A' c.ny cb] := by rw [hv]; exact (Held.new _ _ _)
    clear hv
    have C := hC.ext E
    clear hC
    generalize w.heap.size = b1 at *
    obtain ⟨k0, k1⟩ := B1.c2; have lk := B1.lt
    have HT := hT.ext E
    have HD := hD.ext E
    clear hT hD
    go_wp2_with (go_at_call 28; (with_reducible refine Calls.mono (hwk _) ?_); rintro e v3 ⟨rfl, h⟩)
    go_ret
    exact ⟨rfl, E.trans h⟩
  · have hb : decide (64 < (n : Int)) = false := decide_eq_false (by omega)
    have NF := fun v (h : CalAt v A ca A' cb c) (hT : RowsAt v B n 7 (fun i => (f i).cells)) (hD : RowsAt v D m 1 (fun i => [.int .i64 (g i)])) => fitting_any A A' ca cb c B D n cap m capd f g v h hT hD hn hm hg
    cases hf : c.fitting f n g m
    · rw [hf] at NF
      clear hf
      go_enter Tryd.func10, Tryd.ntmps10
      go_upto_region 1 with (fail)
      obtain ⟨v, hv⟩ : ∃ v, v = (w.alloc (.cells #[.slice A c.nk ca, .slice A' c.ny cb] 25)) := ⟨_, rfl⟩
      rw [← hv]
      have E : Ext w v := by rw [hv]; exact (Ext.refl _).alloc _
      have B1 : Held v w.heap.size 25 #[.slice A c.nk ca, .slice A' c.ny cb] := by rw [hv]; exact (Held.new _ _ _)
      clear hv
      have C := hC.ext E
      clear hC
      generalize w.heap.size = b1 at *
      obtain ⟨k0, k1⟩ := B1.c2; have lk := B1.lt
      have HT := hT.ext E
      have HD := hD.ext E
      clear hT hD
      go_upto_region 2 with (go_at_call 40; (with_reducible refine Calls.mono (NF _ C HT HD) ?_); rintro e v2 ⟨rfl, h⟩)
      replace E := Ext.trans E h
      replace C := C.ext h
      replace B1 := B1.ext h
      clear h
      clear k0 k1 lk
      obtain ⟨k0, k1⟩ := B1.c2; have lk := B1.lt
      go_wp2_with (go_at_call 28; (with_reducible refine Calls.mono (hwk _) ?_); rintro e v3 ⟨rfl, h⟩)
      go_ret
      exact ⟨rfl, E.trans h⟩
    · have NS := fun v (h : CalAt v A ca A' cb c) (hT : RowsAt v B n 7 (fun i => (f i).cells)) => seriesX_any A A' ca cb c B n cap f v h hT hn
      have NC := fun v (h : CalAt v A ca A' cb c) => check_any A A' ca cb c v h
      cases hv : c.valid
      · have h1 : c.chk = 70 := by unfold Cal.chk; rw [hv]; rfl
        have h2 : c.serE f n = 70 := by unfold Cal.serE; rw [hv]; rfl
        simp only [h1] at NC
        simp only [h2] at NS
        simp only [hf] at NF
        clear h1 h2 hf hv
        generalize c.serV f n = l at *
        go_enter Tryd.func10, Tryd.ntmps10
        go_upto_region 1 with (fail)
        obtain ⟨v, hv⟩ : ∃ v, v = (w.alloc (.cells #[.slice A c.nk ca, .slice A' c.ny cb] 25)) := ⟨_, rfl⟩
        rw [← hv]
        have E : Ext w v := by rw [hv]; exact (Ext.refl _).alloc _
        have B1 : Held v w.heap.size 25 #[.slice A c.nk ca, .slice A' c.ny cb] := by rw [hv]; exact (Held.new _ _ _)
        clear hv
        have C := hC.ext E
        clear hC
        generalize w.heap.size = b1 at *
        obtain ⟨k0, k1⟩ := B1.c2; have lk := B1.lt
        have HT := hT.ext E
        have HD := hD.ext E
        clear hT hD
        go_upto_region 3 with (go_at_call 40; (with_reducible refine Calls.mono (NF _ C HT HD) ?_); rintro e v2 ⟨rfl, h⟩)
        replace HT := HT.ext h
        replace HD := HD.ext h
        replace E := Ext.trans E h
        replace C := C.ext h
        replace B1 := B1.ext h
        clear h
        clear k0 k1 lk
        obtain ⟨k0, k1⟩ := B1.c2; have lk := B1.lt
        go_upto_region 4 with (go_at_call 24; (with_reducible refine Calls.mono (NS _ C HT) ?_); rintro e v3 ⟨sv, rfl, h, S⟩)
        replace HD := HD.ext h
        replace E := Ext.trans E h
        replace C := C.ext h
        replace B1 := B1.ext h
        clear h
        clear k0 k1 lk
        obtain ⟨k0, k1⟩ := B1.c2; have lk := B1.lt
        go_upto_region 5 with (go_at_call 41; (with_reducible refine Calls.mono (NC _ C) ?_); rintro e v4 ⟨rfl, h⟩)
        replace E := Ext.trans E h
        replace C := C.ext h
        replace B1 := B1.ext h
        clear h
        clear k0 k1 lk
        obtain ⟨k0, k1⟩ := B1.c2; have lk := B1.lt
        go_wp2_with (go_at_call 28; (with_reducible refine Calls.mono (hwk _) ?_); rintro e v5 ⟨rfl, h⟩)
        go_ret
        exact ⟨rfl, E.trans h⟩
      · have h1 : c.chk = 0 := by unfold Cal.chk; rw [hv]; rfl
        obtain ⟨h2, hl, hx⟩ := exact_sum hv (by omega) hf
        obtain rfl := (fitting_asg hf).1
        simp only [h1] at NC
        simp only [h2] at NS
        simp only [hf] at NF
        clear h1 h2 hf hv
        generalize c.serV f m = l at *
        subst hl
        have HX := Lib.hid hx
        clear hx
        go_enter Tryd.func10, Tryd.ntmps10
        go_upto_region 1 with (fail)
        obtain ⟨v, hv⟩ : ∃ v, v = (w.alloc (.cells #[.slice A c.nk ca, .slice A' c.ny cb] 25)) := ⟨_, rfl⟩
        rw [← hv]
        have E : Ext w v := by rw [hv]; exact (Ext.refl _).alloc _
        have B1 : Held v w.heap.size 25 #[.slice A c.nk ca, .slice A' c.ny cb] := by rw [hv]; exact (Held.new _ _ _)
        clear hv
        have C := hC.ext E
        clear hC
        generalize w.heap.size = b1 at *
        obtain ⟨k0, k1⟩ := B1.c2; have lk := B1.lt
        have HT := hT.ext E
        have HD := hD.ext E
        clear hT hD
        go_upto_region 3 with (go_at_call 40; (with_reducible refine Calls.mono (NF _ C HT HD) ?_); rintro e v2 ⟨rfl, h⟩)
        replace HT := HT.ext h
        replace HD := HD.ext h
        replace E := Ext.trans E h
        replace C := C.ext h
        replace B1 := B1.ext h
        clear h
        clear k0 k1 lk
        obtain ⟨k0, k1⟩ := B1.c2; have lk := B1.lt
        go_upto_region 4 with (go_at_call 24; (with_reducible refine Calls.mono (NS _ C HT) ?_); rintro e v3 ⟨sv, rfl, h, S⟩)
        replace HD := HD.ext h
        replace E := Ext.trans E h
        replace C := C.ext h
        replace B1 := B1.ext h
        clear h
        clear k0 k1 lk
        obtain ⟨k0, k1⟩ := B1.c2; have lk := B1.lt
        obtain ⟨Z, zc, rfl, hZ, hcap, hmax⟩ := S
        have h63 : l.length ≤ 9223372036854775807 := Nat.le_trans hcap (Nat.le_trans hmax (by decide))
        clear hcap hmax
        go_upto_region 6 with (go_at_call 41; (with_reducible refine Calls.mono (NC _ C) ?_); rintro e v4 ⟨rfl, h⟩)
        replace HD := HD.ext h
        replace hZ := hZ.ext h
        replace E := Ext.trans E h
        replace C := C.ext h
        clear h
        clear NC NS NF k0 k1 lk B1 C HT
        go_upto_region 9 with (fail)
        go_loopw [9] (fun i wr => ∃ k : Nat, k ≤ l.length ∧ i = .int .i64 k ∧ Ext v4 wr) (fun i _ => l.length - (intOf i).toNat)
        case atStart => exact ⟨0, Nat.zero_le _, rfl, Ext.refl _⟩
        case round =>
          obtain ⟨k, hk, rfl, hE⟩ := hrel
          obtain ⟨wo, rfl⟩ : ∃ wo : World, wo = wr := ⟨_, rfl⟩
          by_cases hlt : k < l.length
          · obtain ⟨zb, zo, rfl, hzb, c0, c1⟩ := span_get (hZ.ext hE) hlt
            obtain ⟨db, do_, rfl, hdb, d0⟩ := int_row (HD.ext hE) hlt
            obtain ⟨x1, x2⟩ := HX.out k hlt
            generalize (l.getD k zSp).a = x at *
            generalize (l.getD k zSp).b = y at *
            generalize g k = z at *
            have f1 : decide (z < x) = false := decide_eq_false (by omega)
            have f2 : decide (y < z) = false := decide_eq_false (by omega)
            go_upto_region 11 with (fail)
            refine wp_region_xw wo mixed (by kernel_rfl) (by repeat (first | exact Ext.refl _ | (refine Ext.alloc ?_ _) | (refine Ext.trans ?_ (by assumption)))) ?_
            intro hne hrx hry
            try simp only []
            try simp only [List.append_eq, List.cons_append, List.nil_append]
            skip
            repeat (first
              | go_big_quiet_skip
              | (go_big_quiet_want; go_big_quiet_op; go_big_quiet_on))
            clear hne hry hrx
            refine wpQuiet_nil ?_
            intro wn hwn
            obtain ⟨hcwn, hfwn, hzwn⟩ := Ext.rules hwn
            try simp only [World.size_alloc] at hzwn
            obtain ⟨hcbwn, hfbwn, hzbwn⟩ := Ext.rules (show Ext wo wn from (by repeat (first | exact Ext.refl _ | (refine Ext.alloc ?_ _) | (refine Ext.trans ?_ (by assumption)))))
            clear hcwn hfwn
            go_wp2
            exact ⟨⟨k + 1, by omega, by go_num, (by repeat (first | exact Ext.refl _ | (refine Ext.alloc ?_ _) | (refine Ext.trans ?_ (by assumption))))⟩, by simp [intOf]; omega⟩
          · go_wp2_with (go_at_call 28; (with_reducible refine Calls.mono (hwk _) ?_); rintro e v7 ⟨rfl, h⟩)
            go_ret
            exact ⟨rfl, (E.trans hE).trans h⟩
end Go.Proofs.YtfchchmmjabjnaaDoor

set_option maxRecDepth 100000
namespace Go.Proofs.YtfchchmmjabjnaaDoor.dateSeriesExact
open Go Go.ChangeShapes Go.WideShapes Go.ChangeAt Go.RowKit

theorem reads (os : Os) {H : Type} (enc : TypeId × Value → H) : ∃ places, DataW.whole enc Tryd.prog ((World.doorLaid Tryd.prog 29 os).forCall (fun _ _ => 0) ⟨#[], #[.agg #[.slice none 0 0, .slice none 0 0], .slice none 0 0, .slice none 0 0], []⟩).memory Tryd.f10.params.toList Rows.dateSeriesExactSpec.vars false (#[.agg #[.slice none 0 0, .slice none 0 0], .slice none 0 0, .slice none 0 0] : Array Value).toList 8 = some ([.agg [.nil, .nil], .nil, .nil], [], places) :=
  ⟨[], by kernel_rfl⟩
theorem contract (H : Type) (enc : TypeId × Value → H) (W : World) (base : Nat) (args : Array Value) (ds gs : List (DataW H)) (before : List MemPlace)
    (hval : ∀ (j : Nat) t v, Tryd.f10.params[j]? = some t → args[j]? = some v → Value.okWide Tryd.prog W .any base t v)
    (hW : DataW.Whole enc Tryd.prog Tryd.f10.params.toList Rows.dateSeriesExactSpec.vars false W args.toList ds gs before) :
    Calls Tryd.prog 10 args W fun e W' => ∃ v, e = .returned v ∧ Rows.dateSeriesExactSpec.post enc Tryd.prog Tryd.f10 false true false false W args v W' := by
  have hW' := hW
  obtain ⟨p, q, hA0, hV, rfl, _, _⟩ := hW
  obtain ⟨rfl, rfl⟩ := trodVars_none hV
  simp only [List.append_nil] at hW'
  have hA : DataW.TrodAll enc Tryd.prog W 0 (fun _ => true) true Tryd.f10.params.toList args.toList ds p := hA0
  rw [Tryd.params10] at hA hval
  obtain ⟨v0, vs0, d0, ds0, p0, q0, ha0, rfl, rfl, h0, r0⟩ := trodAll_cons hA
  obtain ⟨v1, vs1, d1, ds1, p1, q1, rfl, rfl, rfl, h1, r1⟩ := trodAll_cons r0
  obtain ⟨v2, vs2, d2, ds2, p2, q2, rfl, rfl, rfl, h2, r2⟩ := trodAll_cons r1
  obtain ⟨rfl, rfl, rfl⟩ := trodAll_nil r2
  obtain rfl : args = #[v0, v1, v2] := by cases args; simp_all
  obtain ⟨A, A', ca, cb, c, rfl, hC⟩ := cal_open (hval 0 25 v0 rfl rfl) h0
  obtain ⟨B, n, cap, f, rfl, hT, hcap, hmax⟩ := traces_open (hval 1 26 v1 rfl rfl) h1
  obtain ⟨D, nd, capd, g, rfl, hD, hcapd, hmaxd, hg⟩ := ints_open (hval 2 63 v2 rfl rfl) h2
  refine (dateSeriesExact_walk works_any A A' ca cb c B D n cap nd capd f g W hC hT hD (Nat.le_trans hcap (Nat.le_trans hmax (by decide))) (Nat.le_trans hcapd (Nat.le_trans hmaxd (by decide))) hg).mono fun e W' ⟨he, hx⟩ => ⟨_, he, ?_⟩
  exact law_post (by rw [Tryd.params10]; decide) rfl rfl rfl rfl rfl hA0 hW' hx
theorem lifted (os : Os) (started : os.Started) (H : Type) (enc : TypeId × Value → H) (F : Stop.Interp) :
    ReturnsInHanded {} Tryd.checked os 10 .any ((OpenSpec.ofChange Rows.dateSeriesExactSpec).preRow enc Tryd.prog Tryd.f10 Rows.dateSeriesExactRow.domain false Rows.dateSeriesExactRow.laid) (((OpenSpec.ofChange Rows.dateSeriesExactSpec).at F).post enc Tryd.prog Tryd.f10 false true false false) := by
  obtain ⟨places, hx⟩ := reads os enc
  refine returnsInHanded_of_row (C := Tryd.checked) (s := (OpenSpec.ofChange Rows.dateSeriesExactSpec)) own_none started (by kernel_rfl) Tryd.func10
    (witness_row_at (enc := enc) (C := Tryd.checked) false (World.doorLaid Tryd.prog 29 os) #[.agg #[.slice none 0 0, .slice none 0 0], .slice none 0 0, .slice none 0 0] rfl (by kernel_rfl) (by kernel_rfl) (by kernel_rfl)
      (OpenSpec.preRow_of_cond 8 hx (by kernel_rfl) (fun k hk => by cases hk) (by kernel_rfl) (laid_met os _))) ?_
  intro W base args ds gs before hval hW _ _ _ _ _ _
  exact contract H enc W base args ds gs before hval hW
set_option maxHeartbeats 40000000 in
theorem closed : joinedFacts Tryd.prog 10 Tryd.f10 Rows.dateSeriesExactSpec Rows.dateSeriesExactRow = true := by
  unfold joinedFacts
  rw [sh_laid, sh_maps, sh_keys, sh_heard, sh_may, sh_lift, sh_make]
  repeat' (with_reducible refine (Bool.and_eq_true_iff).2 ⟨?_, ?_⟩)
  all_goals (as_aux_lemma => kernel_rfl)
theorem said : Rows.DateSeriesExactSaid :=
  OpenClaim.holds_of_cond 10 Tryd.f10 rfl rfl rfl rfl rfl rfl rfl ⟨rfl, rfl, rfl, rfl, rfl⟩ rfl rfl rfl rfl rfl (by kernel_rfl) Tryd.func10 closed
    (of_decide_eq_true (by kernel_rfl)) (by unfold Func.isWrapper; first | (rw [if_pos (by decide +kernel)]; kernel_rfl) | (rw [if_neg (by decide +kernel)]; exact ⟨rfl, rfl⟩))
    (fun os started H enc _ F => by rw [OpenClaim.pre_eq_preRow]; exact lifted os started H enc F)
theorem plain (f : FuncId) (fn : Func) (hf : Tryd.pinned.checked.prog.funcNamed Rows.dateSeriesExactRow.func = some f) (hfn : Tryd.pinned.checked.prog.funcs[f]? = some fn) :
    false = Tryd.pinned.checked.prog.looks [] ∧ ∀ (j : Nat) t, fn.params[j]? = some t → Tryd.pinned.checked.prog.wantsStandIn t = false := by
  obtain rfl : f = 10 := Option.some.inj ((show Tryd.prog.funcNamed Rows.dateSeriesExactRow.func = some 10 by kernel_rfl).symm.trans hf) |>.symm
  obtain rfl : fn = Tryd.f10 := (Option.some.inj (Tryd.func10.symm.trans hfn)).symm
  refine ⟨by kernel_rfl, fun j t ht => ?_⟩
  rw [Tryd.params10] at ht
  have h := Array.mem_of_getElem? ht
  have h0 : ∀ t ∈ (#[25, 26, 63] : Array TypeId), Tryd.prog.wantsStandIn t = false := by
    intro t ht
    simp only [List.mem_toArray, List.mem_cons, List.not_mem_nil, or_false] at ht
    rcases ht with rfl | rfl | rfl <;> kernel_rfl
  exact h0 t h
theorem card : Rows.DateSeriesExactCardSaid :=
  Claim7.holds_tied_plain_at .later [] _ _ _ _ said (fun _ h => by cases h) (by kernel_rfl) (fun _ h => by cases h) dateSeriesExact_row_tie rfl ⟨rfl, rfl⟩ (by kernel_rfl) rfl plain (by kernel_rfl)
end Go.Proofs.YtfchchmmjabjnaaDoor.dateSeriesExact
