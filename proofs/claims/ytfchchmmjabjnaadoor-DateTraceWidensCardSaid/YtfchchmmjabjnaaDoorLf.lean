/- The walk of DateTraceWidens. -/
import Derived.Test.YtfchchmmjabjnaaDoorLd
import Derived.Test.YtfchchmmjabjnaaDoorLc
import Derived.Test.YtfchchmmjabjnaaDoorRg
namespace Go.Proofs.YtfchchmmjabjnaaDoor
open Go Go.RowKit
attribute [local go_sem] gv_yes

/-- The first k spans of m end where p holds. -/
def Low (m : List Sp) (k : Nat) (p : Int → Prop) : Prop := ∀ j, j < k → p (m.getD j zSp).b
theorem low_snoc {m : List Sp} {k : Nat} {p : Int → Prop} (h : Low m k p) (hk : p (m.getD k zSp).b) : Low m (k + 1) p := fun j hj => by
  by_cases e : j = k
  · subst e; exact hk
  · exact h j (by omega)
theorem spE_ok {c : Cal} {t : Tr} (h : c.spE t = 0) : c.valid = true ∧ t.ok = true := by
  unfold Cal.spE trChk at h
  cases hv : c.valid <;> rw [hv] at h
  · cases h
  · cases hk : t.ok <;> rw [hk] at h
    · cases h
    · exact ⟨rfl, rfl⟩
theorem spE_of {c : Cal} {t : Tr} (hv : c.valid = true) (hk : t.ok = true) : c.spE t = 0 := by unfold Cal.spE trChk; rw [hv, hk]; rfl
set_option maxRecDepth 100000 in
set_option maxHeartbeats 8000000 in
theorem dateTraceWidens_walk (hwk : WorksOk) (A A' : Option Addr) (ca cb : Nat) (c : Cal) (t : Tr) (x y : Int) (w : World) (hC : CalAt w A ca A' cb c) :
    Calls Tryd.prog 5 #[.agg #[.slice A c.nk ca, .slice A' c.ny cb], .agg #[.int .i64 t.d, .bool t.more, .int .i64 t.m, .bool t.s, .string t.nm, .int .i64 t.af, .string t.kg], .agg #[.int .i64 x, .int .i64 y]] w fun e w' => e = .returned (.bool true) ∧ Ext w w' := by
  have hwk : ∀ w : World, Calls Tryd.prog 28 #[] w fun e w' => e = .returned (.bool true) ∧ Ext w w' := hwk
  have N1 := fun v (h : CalAt v A ca A' cb c) => spansX_any A A' ca cb c t v h
  by_cases h1 : c.spE t = 0
  · obtain ⟨hv, hk⟩ := spE_ok h1
    have hd := (ok_iff.1 hk).2.1
    have hk2 := hide_ok (bringI x 5) y hk
    have hL : Good (c.Fit t) (c.spV t) (c.dayAt c.ny) := by have := spans_good c t; unfold Cal.spV; rwa [if_pos h1]
    have h2 := spE_of hv hk2
    have hM : Good (c.Fit (t.hide (bringI x 5) y)) (c.spV (t.hide (bringI x 5) y)) (c.dayAt c.ny) := by have := spans_good c (t.hide (bringI x 5) y); unfold Cal.spV; rwa [if_pos h2]
    have HF : Hid (∀ n, c.Fit t n → c.Fit (t.hide (bringI x 5) y) n) := fun n ⟨d, h3, h4⟩ => ⟨d, h3, hide_fits _ _ h4⟩
    have HL := Lib.hid hL
    have HM := Lib.hid hM
    have NB := fun w => bring_any x 5 w (by decide) (by decide)
    have NH := fun w => hidden_any t (bringI x 5) y w hd
    have N2 := fun v (h : CalAt v A ca A' cb c) => spansX_any A A' ca cb c (t.hide (bringI x 5) y) v h
    simp only [h1] at N1
    simp only [h2] at N2
    clear h1 h2 hv hk hd hk2 hL hM
    generalize t.hide (bringI x 5) y = u at *
    generalize bringI x 5 = wh at *
    generalize c.spV t = l at *
    generalize c.spV u = m at *
    go_enter Tryd.func5, Tryd.ntmps5
    go_upto_region 1 with (fail)
    obtain ⟨v, hv⟩ : ∃ v, v = (((w.alloc (.cells #[.slice A c.nk ca, .slice A' c.ny cb] 25)).alloc (.cells #[.int .i64 t.d, .bool t.more, .int .i64 t.m, .bool t.s, .string t.nm, .int .i64 t.af, .string t.kg] 33)).alloc (.cells #[.int .i64 x, .int .i64 y] 47)) := ⟨_, rfl⟩
    rw [← hv]
    have E : Ext w v := by rw [hv]; exact (((Ext.refl _).alloc _).alloc _).alloc _
    have B1 : Held v w.heap.size 25 #[.slice A c.nk ca, .slice A' c.ny cb] := by rw [hv]; exact ((Held.new _ _ _).alloc _).alloc _
    have B2 : Held v (w.heap.size + 1) 33 #[.int .i64 t.d, .bool t.more, .int .i64 t.m, .bool t.s, .string t.nm, .int .i64 t.af, .string t.kg] := by rw [hv]; exact (Held.at _ _ _ _ (by simp)).alloc _
    have B3 : Held v (w.heap.size + 1 + 1) 47 #[.int .i64 x, .int .i64 y] := by rw [hv]; exact Held.at _ _ _ _ (by simp)
    clear hv
    have C := hC.ext E
    clear hC
    generalize w.heap.size = b1 at *
    obtain ⟨k0, k1⟩ := B1.c2; have lk := B1.lt
    obtain ⟨p0, p1, p2, p3, p4, p5, p6⟩ := B2.c7; have lp := B2.lt
    obtain ⟨q0, q1⟩ := B3.c2; have lq := B3.lt
    go_upto_region 2 with (go_at_call 33; (with_reducible refine Calls.mono (N1 _ C) ?_); rintro e v2 ⟨sv, rfl, h, S⟩)
    replace E := Ext.trans E h
    replace C := C.ext h
    replace B1 := B1.ext h
    replace B2 := B2.ext h
    replace B3 := B3.ext h
    clear h
    clear k0 k1 lk
    clear p0 p1 p2 p3 p4 p5 p6 lp
    clear q0 q1 lq
    obtain ⟨k0, k1⟩ := B1.c2; have lk := B1.lt
    obtain ⟨p0, p1, p2, p3, p4, p5, p6⟩ := B2.c7; have lp := B2.lt
    obtain ⟨q0, q1⟩ := B3.c2; have lq := B3.lt
    go_upto_region 4 with (fail)
    apply wp_cutP (S := fun w' p => ∃ b, p = .pointer (some ⟨b, 0, none⟩) ∧ Ext v2 w' ∧ Held w' b 33 #[.int .i64 u.d, .bool u.more, .int .i64 u.m, .bool u.s, .string u.nm, .int .i64 u.af, .string u.kg])
    · refine wp_region_two 6 v2 mixed (by kernel_rfl) rfl rfl (by repeat (first | exact Ext.refl _ | (refine Ext.alloc ?_ _) | (refine Ext.trans ?_ (by assumption)))) (by kernel_rfl) ?_
      intro hne hrx hry
      simp only [List.take_succ_cons, List.take_zero]
      apply Exists.intro
      refine ⟨fun u => ?_, ?_⟩
      · repeat (first
          | go_big_quiet_skip
          | (go_big_quiet_want; go_big_quiet_op; go_big_quiet_on)
          | (go_big_quiet_want; go_big_quiet_op; apply Exists.intro; refine ⟨?_, ?_⟩
             · (go_at_call 35; (with_reducible refine Calls.mono (NB _) ?_); rintro e w' ⟨rfl, rfl⟩; exact ⟨rfl, rfl⟩)
             go_big_quiet_on))
        refine wpQuiet_nil ?_
        rfl
      · intro v3 h3
        clear hne hrx hry
        constructor
        · refine wpSeqC_go ?_
          go_wp2_with (go_at_call 34; (with_reducible refine Calls.mono (NH _) ?_); rintro e v4 ⟨rfl, h4⟩)
          refine onQ_in (h3.trans h4) ?_
          refine wpSeqC_go ?_
          go_wp2
          refine onQ_in ((h3.trans h4).alloc _) ?_
          refine wpSeqC_go ?_
          go_wp2
          refine onQ_in ((h3.trans h4).alloc _) ?_
          refine wpSeqC_nil ?_
          obtain ⟨p, hp⟩ : ∃ p, p = Value.pointer (some ⟨v4.heap.size, 0, none⟩) := ⟨_, rfl⟩
          rw [← hp]
          exact cutP_is p ⟨_, hp, (h3.trans h4).alloc _, Held.new _ _ _⟩ rfl
        · refine wpSeqC_go ?_
          go_wp2
          have h3a := h3.alloc (.cells #[.int .i64 0, .bool false, .int .i64 0, .bool false, .string ⟨#[]⟩, .int .i64 0, .string ⟨#[]⟩] 33)
          refine onQ_in h3a ?_
          have hz := Held.new v3 33 #[.int .i64 0, .bool false, .int .i64 0, .bool false, .string ⟨#[]⟩, .int .i64 0, .string ⟨#[]⟩]
          have hle := h3.size
          generalize v3.alloc (.cells #[.int .i64 0, .bool false, .int .i64 0, .bool false, .string ⟨#[]⟩, .int .i64 0, .string ⟨#[]⟩] 33) = va at *
          generalize v3.heap.size = b at *
          refine wpSeqC_go ?_
          go_wp2_with (go_at_call 34; (with_reducible refine Calls.mono (NH _) ?_); rintro e v4 ⟨rfl, h4⟩)
          refine onQ_in (h3a.trans h4) ?_
          replace hz := hz.ext h4
          have hx := h3a.trans h4
          obtain ⟨z0, z1, z2, z3, z4, z5, z6⟩ := hz.c7
          obtain ⟨f0, f1, f2, f3, f4, f5, f6⟩ := frozen7 hz
          have lz := hz.lt
          clear h3 h3a h4
          refine wpSeqC_go ?_
          go_wp2
          obtain ⟨hs, gE⟩ := seven_set hz (.int .i64 u.d) (.bool u.more) (.int .i64 u.m) (.bool u.s) (.string u.nm) (.int .i64 u.af) (.string u.kg)
          have hx2 := gE v2 hx hle
          refine onQ_in hx2 ?_
          refine wpSeqC_nil ?_
          obtain ⟨p, hp⟩ : ∃ p, p = Value.pointer (some ⟨b, 0, none⟩) := ⟨_, rfl⟩
          rw [← hp]
          exact cutP_is p ⟨_, hp, hx2, hs⟩ rfl
    rintro p v4 ⟨b4, rfl, h, B4⟩
    replace S := S.ext h
    replace E := Ext.trans E h
    replace C := C.ext h
    replace B1 := B1.ext h
    replace B2 := B2.ext h
    replace B3 := B3.ext h
    clear h
    clear k0 k1 lk
    clear p0 p1 p2 p3 p4 p5 p6 lp
    clear q0 q1 lq
    obtain ⟨k0, k1⟩ := B1.c2; have lk := B1.lt
    obtain ⟨p0, p1, p2, p3, p4, p5, p6⟩ := B2.c7; have lp := B2.lt
    obtain ⟨q0, q1⟩ := B3.c2; have lq := B3.lt
    obtain ⟨r0, r1, r2, r3, r4, r5, r6⟩ := B4.c7; have lr := B4.lt
    go_upto_region 6 with (go_at_call 33; (with_reducible refine Calls.mono (N2 _ C) ?_); rintro e v5 ⟨sm, rfl, h, T⟩)
    replace S := S.ext h
    replace E := Ext.trans E h
    replace C := C.ext h
    clear h
    clear N1 N2 NB NH k0 k1 lk p0 p1 p2 p3 p4 p5 p6 lp q0 q1 lq r0 r1 r2 r3 r4 r5 r6 lr B1 B2 B3 B4 C
    obtain ⟨Z, cap, rfl, hZ, hcap, hmax⟩ := S
    obtain ⟨Y, cap', rfl, hY, hcap', hmax'⟩ := T
    have h63 : l.length ≤ 9223372036854775807 := Nat.le_trans hcap (Nat.le_trans hmax (by decide))
    have g63 : m.length ≤ 9223372036854775807 := Nat.le_trans hcap' (Nat.le_trans hmax' (by decide))
    go_upto_region 10 with (fail)
    go_loopw [12, 13] (fun kk i wr => ∃ j k : Nat, j ≤ l.length ∧ k ≤ m.length ∧ i = .int .i64 j ∧ kk = .int .i64 k ∧ Low m k (fun a => j < l.length → a < (l.getD j zSp).a) ∧ Ext v5 wr) (fun _ i _ => l.length - (intOf i).toNat)
    case atStart => exact ⟨0, 0, Nat.zero_le _, Nat.zero_le _, rfl, rfl, (fun j hj => absurd hj (by omega)), Ext.refl _⟩
    case round =>
      obtain ⟨j, k, hj, hk, rfl, rfl, hlow, hE⟩ := hrel
      obtain ⟨wo, rfl⟩ : ∃ wo : World, wo = wr := ⟨_, rfl⟩
      by_cases hlt : j < l.length
      · obtain ⟨zb, zo, rfl, hzb, c0, c1⟩ := span_get (hZ.ext hE) hlt
        have hlow' : Low m k (fun a => a < (l.getD j zSp).a) := fun q hq => hlow q hq hlt
        have hnx : Hid (j + 1 < l.length → (l.getD j zSp).b + 2 ≤ (l.getD (j + 1) zSp).a) := fun h => good_next HL.out (show j < j + 1 by omega) h
        have HW : Hid (∀ k, k ≤ m.length → Low m k (fun a => a < (l.getD j zSp).a) → (l.getD j zSp).a ≤ (l.getD j zSp).b ∧ k < m.length ∧ ((l.getD j zSp).a ≤ (m.getD k zSp).b → (m.getD k zSp).a ≤ (l.getD j zSp).a ∧ (l.getD j zSp).b ≤ (m.getD k zSp).b)) := fun k h1 h2 => widen_at HL.out HM.out HF.out hlt h2 h1
        have hab := (HW.out k hk hlow').1
        clear hlow
        generalize (l.getD j zSp).a = x at *
        generalize (l.getD j zSp).b = y at *
        go_upto_region 12 with (fail)
        go_loopw [12] (fun kk wr => ∃ k : Nat, k ≤ m.length ∧ kk = .int .i64 k ∧ Low m k (fun a => a < x) ∧ Ext wo wr) (fun kk _ => m.length - (intOf kk).toNat)
        case atStart => exact ⟨k, hk, rfl, hlow', Ext.refl _⟩
        case round =>
          clear hk hlow'
          obtain ⟨k, hk, rfl, hlow, hF⟩ := hrel
          obtain ⟨wi, rfl⟩ : ∃ wi : World, wi = wr := ⟨_, rfl⟩
          obtain ⟨_, hkm, hlast⟩ := HW.out k hk hlow
          obtain ⟨yb, yo, rfl, hyb, d0, d1⟩ := span_get ((hY.ext hE).ext hF) hkm
          obtain ⟨hcwi, hfwi, hzwi⟩ := Ext.rules hF
          try simp only [World.size_alloc] at hzwi
          obtain ⟨hcbwi, hfbwi, hzbwi⟩ := Ext.rules (show Ext wo wi from (by repeat (first | exact Ext.refl _ | (refine Ext.alloc ?_ _) | (refine Ext.trans ?_ (by assumption)))))
          clear hcwi hfwi
          have e0 := (hF.cell (p := ⟨zb, zo + j * 2, none⟩) hzb).trans c0
          have e1 := (hF.cell (p := ⟨zb, zo + j * 2 + 1, none⟩) hzb).trans c1
          have hzi : zb < wi.heap.size := Nat.lt_of_lt_of_le hzb hF.size
          have hnkm : ((k : Int) == (m.length : Int)) = false := beq_eq_false_iff_ne.2 (by omega)
          have HK := Lib.hid (hlast)
          have HLo := Lib.hid hlow
          clear hlast hlow
          by_cases hin : (m.getD k zSp).b < x
          · have hlow2 : Hid (Low m (k + 1) (fun a => a < x)) := low_snoc HLo.out hin
            generalize (m.getD k zSp).b = z at *
            generalize (m.getD k zSp).a = z' at *
            go_upto_region 12 with (fail)
            refine wp_region_xw wi mixed (by kernel_rfl) (by repeat (first | exact Ext.refl _ | (refine Ext.alloc ?_ _) | (refine Ext.trans ?_ (by assumption)))) ?_
            intro hne hrx hry
            try simp only []
            try simp only [List.append_eq, List.cons_append, List.nil_append]
            skip
            repeat (first
              | go_big_quiet_skip
              | (go_big_quiet_want; go_big_quiet_op; go_big_quiet_on))
            clear hne hry hrx
            refine wpQuiet_nil ?_
            intro wn hwn
            obtain ⟨hcwn, hfwn, hzwn⟩ := Ext.rules hwn
            try simp only [World.size_alloc] at hzwn
            obtain ⟨hcbwn, hfbwn, hzbwn⟩ := Ext.rules (show Ext wi wn from (by repeat (first | exact Ext.refl _ | (refine Ext.alloc ?_ _) | (refine Ext.trans ?_ (by assumption)))))
            clear hcwn hfwn
            go_wp2
            exact ⟨⟨k + 1, by omega, by go_num, hlow2.out, (by repeat (first | exact Ext.refl _ | (refine Ext.alloc ?_ _) | (refine Ext.trans ?_ (by assumption))))⟩, by simp [intOf]; omega⟩
          · have hz := HK.out (by omega)
            have hlow3 : Hid (Low m k (fun a => j + 1 < l.length → a < (l.getD (j + 1) zSp).a)) := fun q hq h => by have h1 := HLo.out q hq; have h2 := hnx.out h; simp only at h1; omega
            generalize (m.getD k zSp).b = z at *
            generalize (m.getD k zSp).a = z' at *
            obtain ⟨hz1, hz2⟩ := hz
            have f0 : decide (z < x) = false := decide_eq_false hin
            have f1 : decide (y < x) = false := decide_eq_false (by omega)
            have f2 : decide (x < z') = false := decide_eq_false (by omega)
            have f3 : decide (z < y) = false := decide_eq_false (by omega)
            clear hin
            go_upto_region 12 with (fail)
            refine wp_region_xw wi mixed (by kernel_rfl) (by repeat (first | exact Ext.refl _ | (refine Ext.alloc ?_ _) | (refine Ext.trans ?_ (by assumption)))) ?_
            intro hne hrx hry
            try simp only []
            try simp only [List.append_eq, List.cons_append, List.nil_append]
            skip
            repeat (first
              | go_big_quiet_skip
              | (go_big_quiet_want; go_big_quiet_op; go_big_quiet_on))
            clear hne hry hrx
            refine wpQuiet_nil ?_
            intro wn hwn
            obtain ⟨hcwn, hfwn, hzwn⟩ := Ext.rules hwn
            try simp only [World.size_alloc] at hzwn
            obtain ⟨hcbwn, hfbwn, hzbwn⟩ := Ext.rules (show Ext wi wn from (by repeat (first | exact Ext.refl _ | (refine Ext.alloc ?_ _) | (refine Ext.trans ?_ (by assumption)))))
            clear hcwn hfwn
            go_upto_region 14 with (fail)
            refine wp_region_xw wi mixed (by kernel_rfl) (by repeat (first | exact Ext.refl _ | (refine Ext.alloc ?_ _) | (refine Ext.trans ?_ (by assumption)))) ?_
            intro hne hrx hry
            try simp only []
            try simp only [List.append_eq, List.cons_append, List.nil_append]
            skip
            repeat (first
              | go_big_quiet_skip
              | (go_big_quiet_want; go_big_quiet_op; go_big_quiet_on))
            clear hne hry hrx
            refine wpQuiet_nil ?_
            intro wm hwm
            obtain ⟨hcwm, hfwm, hzwm⟩ := Ext.rules hwm
            try simp only [World.size_alloc] at hzwm
            obtain ⟨hcbwm, hfbwm, hzbwm⟩ := Ext.rules (show Ext wi wm from (by repeat (first | exact Ext.refl _ | (refine Ext.alloc ?_ _) | (refine Ext.trans ?_ (by assumption)))))
            clear hcwm hfwm
            go_wp2
            exact ⟨⟨j + 1, k, by omega, hk, by go_num, rfl, hlow3.out, (by repeat (first | exact Ext.refl _ | (refine Ext.alloc ?_ _) | (refine Ext.trans ?_ (by assumption))))⟩, by simp [intOf]; omega⟩
      · go_wp2_with (go_at_call 28; (with_reducible refine Calls.mono (hwk _) ?_); rintro e v7 ⟨rfl, h⟩)
        go_ret
        exact ⟨rfl, (E.trans hE).trans h⟩
  · have hl : c.spV t = [] := by unfold Cal.spV; rw [if_neg h1]
    simp only [hl] at N1
    clear hl
    generalize c.spE t = e at *
    have he : (e == 0) = false := beq_eq_false_iff_ne.2 h1
    go_enter Tryd.func5, Tryd.ntmps5
    go_upto_region 1 with (fail)
    obtain ⟨v, hv⟩ : ∃ v, v = (((w.alloc (.cells #[.slice A c.nk ca, .slice A' c.ny cb] 25)).alloc (.cells #[.int .i64 t.d, .bool t.more, .int .i64 t.m, .bool t.s, .string t.nm, .int .i64 t.af, .string t.kg] 33)).alloc (.cells #[.int .i64 x, .int .i64 y] 47)) := ⟨_, rfl⟩
    rw [← hv]
    have E : Ext w v := by rw [hv]; exact (((Ext.refl _).alloc _).alloc _).alloc _
    have B1 : Held v w.heap.size 25 #[.slice A c.nk ca, .slice A' c.ny cb] := by rw [hv]; exact ((Held.new _ _ _).alloc _).alloc _
    have B2 : Held v (w.heap.size + 1) 33 #[.int .i64 t.d, .bool t.more, .int .i64 t.m, .bool t.s, .string t.nm, .int .i64 t.af, .string t.kg] := by rw [hv]; exact (Held.at _ _ _ _ (by simp)).alloc _
    have B3 : Held v (w.heap.size + 1 + 1) 47 #[.int .i64 x, .int .i64 y] := by rw [hv]; exact Held.at _ _ _ _ (by simp)
    clear hv
    have C := hC.ext E
    clear hC
    generalize w.heap.size = b1 at *
    obtain ⟨k0, k1⟩ := B1.c2; have lk := B1.lt
    obtain ⟨p0, p1, p2, p3, p4, p5, p6⟩ := B2.c7; have lp := B2.lt
    obtain ⟨q0, q1⟩ := B3.c2; have lq := B3.lt
    go_upto_region 2 with (go_at_call 33; (with_reducible refine Calls.mono (N1 _ C) ?_); rintro e v2 ⟨sv, rfl, h, S⟩)
    replace E := Ext.trans E h
    replace C := C.ext h
    replace B1 := B1.ext h
    replace B2 := B2.ext h
    replace B3 := B3.ext h
    clear h
    clear k0 k1 lk
    clear p0 p1 p2 p3 p4 p5 p6 lp
    clear q0 q1 lq
    obtain ⟨k0, k1⟩ := B1.c2; have lk := B1.lt
    obtain ⟨p0, p1, p2, p3, p4, p5, p6⟩ := B2.c7; have lp := B2.lt
    obtain ⟨q0, q1⟩ := B3.c2; have lq := B3.lt
    obtain ⟨Z, cap, rfl, _, _, _⟩ := S
    go_wp2_with (go_at_call 28; (with_reducible refine Calls.mono (hwk _) ?_); rintro e v3 ⟨rfl, h⟩)
    go_ret
    exact ⟨rfl, E.trans h⟩
end Go.Proofs.YtfchchmmjabjnaaDoor
