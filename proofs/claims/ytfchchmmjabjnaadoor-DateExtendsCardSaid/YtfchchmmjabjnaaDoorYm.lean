/- The reference's Fits, spans and Spans. -/
import Derived.Test.YtfchchmmjabjnaaDoorYj
import Derived.Test.YtfchchmmjabjnaaDoorPl9
namespace Go.Proofs.YtfchchmmjabjnaaDoor
open Go Go.RowKit Go.Shelf
attribute [local go_sem] gv_yes
set_option maxRecDepth 100000 in
set_option maxHeartbeats 4000000 in
theorem fitsX_any_r (A A' : Option Addr) (ca cb : Nat) (c : Cal) (t : Tr) (d : Dt) (w : World) (hC : CalAt w A ca A' cb c) :
    Calls Tryd.prog 37 #[.agg #[.slice A c.nk ca, .slice A' c.ny cb], .agg #[.int .i64 t.d, .bool t.more, .int .i64 t.m, .bool t.s, .string t.nm, .int .i64 t.af, .string t.kg], .agg #[.int .i64 d.y, .int .i64 d.m, .bool d.s, .int .i64 d.d]] w fun e w' => e = .returned (.tuple #[.bool (c.fitV t d), .int .i64 (c.fitE t d)]) ∧ Ext w w' := by
  have NT := fun v (h : CalAt v A ca A' cb c) => two_any_r A A' ca cb c d d v h
  simp only [in2E_same] at NT
  have NC := fun w => checkTraceR_any t w
  by_cases hE : c.inE d = 0
  · have hvh : c.valid = true ∧ c.has d = true := by rcases inE_cases c d with ⟨_, h⟩ | ⟨_, _, h⟩ | ⟨h1, h2, _⟩ <;> first | exact ⟨h1, h2⟩ | omega
    simp only [hE] at NT
    cases ht : t.ok
    · have HR : Hid (c.fitV t d = false ∧ c.fitE t d = 72) := by unfold Hid Cal.fitV Cal.fitE trChk; rw [if_pos hE, ht]; exact ⟨rfl, rfl⟩
      have hz : trChk t = 72 := by unfold trChk; rw [ht]; rfl
      simp only [hz] at NC
      clear hz hvh hE ht
      go_enter Tryd.func37, Tryd.ntmps37
      go_upto_region 1 with (fail)
      obtain ⟨v, hv⟩ : ∃ v, v = (((w.alloc (.cells #[.slice A c.nk ca, .slice A' c.ny cb] 25)).alloc (.cells #[.int .i64 t.d, .bool t.more, .int .i64 t.m, .bool t.s, .string t.nm, .int .i64 t.af, .string t.kg] 33)).alloc (.cells #[.int .i64 d.y, .int .i64 d.m, .bool d.s, .int .i64 d.d] 39)) := ⟨_, rfl⟩
      rw [← hv]
      have E : Ext w v := by rw [hv]; exact (((Ext.refl _).alloc _).alloc _).alloc _
      have B1 : Held v w.heap.size 25 #[.slice A c.nk ca, .slice A' c.ny cb] := by rw [hv]; exact ((Held.new _ _ _).alloc _).alloc _
      have B2 : Held v (w.heap.size + 1) 33 #[.int .i64 t.d, .bool t.more, .int .i64 t.m, .bool t.s, .string t.nm, .int .i64 t.af, .string t.kg] := by rw [hv]; exact (Held.at _ _ _ _ (by simp)).alloc _
      have B3 : Held v (w.heap.size + 1 + 1) 39 #[.int .i64 d.y, .int .i64 d.m, .bool d.s, .int .i64 d.d] := by rw [hv]; exact Held.at _ _ _ _ (by simp)
      clear hv
      have C := hC.ext E
      clear hC
      generalize w.heap.size = b1 at *
      obtain ⟨k0, k1⟩ := B1.c2; have lk := B1.lt
      obtain ⟨p0, p1, p2, p3, p4, p5, p6⟩ := B2.c7; have lp := B2.lt
      obtain ⟨q0, q1, q2, q3⟩ := B3.c4; have lq := B3.lt
      go_upto_region 2 with (go_at_call 87; (with_reducible refine Calls.mono (NT _ C) ?_); rintro e v2 ⟨rfl, h⟩)
      replace E := Ext.trans E h
      replace C := C.ext h
      replace B1 := B1.ext h
      replace B2 := B2.ext h
      replace B3 := B3.ext h
      clear h
      clear k0 k1 lk
      clear p0 p1 p2 p3 p4 p5 p6 lp
      clear q0 q1 q2 q3 lq
      obtain ⟨k0, k1⟩ := B1.c2; have lk := B1.lt
      obtain ⟨p0, p1, p2, p3, p4, p5, p6⟩ := B2.c7; have lp := B2.lt
      obtain ⟨q0, q1, q2, q3⟩ := B3.c4; have lq := B3.lt
      go_wp2_with (go_at_call 49; (with_reducible refine Calls.mono (NC _) ?_); rintro e v3 ⟨rfl, h⟩)
      go_ret2
      exact ⟨by rw [HR.out.1, HR.out.2]; rfl, E.trans h⟩
    · have HR : Hid (c.fitV t d = c.fits t d ∧ c.fitE t d = 0) := by unfold Hid Cal.fitV Cal.fitE trChk; rw [if_pos hE, ht]; exact ⟨rfl, rfl⟩
      have hz : trChk t = 0 := by unfold trChk; rw [ht]; rfl
      simp only [hz] at NC
      obtain ⟨⟨hy0, hy1⟩, _, _, hd0, _⟩ := has_iff.1 hvh.2
      have ok := valid_iff.1 hvh.1
      obtain ⟨dy, dm, ds, dd⟩ := d
      simp only at hy0 hy1 hd0
      obtain ⟨i, rfl⟩ := Int.eq_ofNat_of_zero_le hy0
      have hi : i < c.ny := by omega
      have NF := fun v (h : CalAt v A ca A' cb c) => fits_any_r A A' ca cb c t i dm ds dd v h hi ok.ny.2 (ok.k0 hi) (ok.yk i hi).2 hd0 ht
      simp only at NT
      generalize c.fits t ⟨i, dm, ds, dd⟩ = r at *
      clear hz hvh hE ht ok hy0 hy1
      go_enter Tryd.func37, Tryd.ntmps37
      go_upto_region 1 with (fail)
      obtain ⟨v, hv⟩ : ∃ v, v = (((w.alloc (.cells #[.slice A c.nk ca, .slice A' c.ny cb] 25)).alloc (.cells #[.int .i64 t.d, .bool t.more, .int .i64 t.m, .bool t.s, .string t.nm, .int .i64 t.af, .string t.kg] 33)).alloc (.cells #[.int .i64 (i : Int), .int .i64 dm, .bool ds, .int .i64 dd] 39)) := ⟨_, rfl⟩
      rw [← hv]
      have E : Ext w v := by rw [hv]; exact (((Ext.refl _).alloc _).alloc _).alloc _
      have B1 : Held v w.heap.size 25 #[.slice A c.nk ca, .slice A' c.ny cb] := by rw [hv]; exact ((Held.new _ _ _).alloc _).alloc _
      have B2 : Held v (w.heap.size + 1) 33 #[.int .i64 t.d, .bool t.more, .int .i64 t.m, .bool t.s, .string t.nm, .int .i64 t.af, .string t.kg] := by rw [hv]; exact (Held.at _ _ _ _ (by simp)).alloc _
      have B3 : Held v (w.heap.size + 1 + 1) 39 #[.int .i64 (i : Int), .int .i64 dm, .bool ds, .int .i64 dd] := by rw [hv]; exact Held.at _ _ _ _ (by simp)
      clear hv
      have C := hC.ext E
      clear hC
      generalize w.heap.size = b1 at *
      obtain ⟨k0, k1⟩ := B1.c2; have lk := B1.lt
      obtain ⟨p0, p1, p2, p3, p4, p5, p6⟩ := B2.c7; have lp := B2.lt
      obtain ⟨q0, q1, q2, q3⟩ := B3.c4; have lq := B3.lt
      go_upto_region 2 with (go_at_call 87; (with_reducible refine Calls.mono (NT _ C) ?_); rintro e v2 ⟨rfl, h⟩)
      replace E := Ext.trans E h
      replace C := C.ext h
      replace B1 := B1.ext h
      replace B2 := B2.ext h
      replace B3 := B3.ext h
      clear h
      clear k0 k1 lk
      clear p0 p1 p2 p3 p4 p5 p6 lp
      clear q0 q1 q2 q3 lq
      obtain ⟨k0, k1⟩ := B1.c2; have lk := B1.lt
      obtain ⟨p0, p1, p2, p3, p4, p5, p6⟩ := B2.c7; have lp := B2.lt
      obtain ⟨q0, q1, q2, q3⟩ := B3.c4; have lq := B3.lt
      go_upto_region 6 with (go_at_call 49; (with_reducible refine Calls.mono (NC _) ?_); rintro e v3 ⟨rfl, h⟩)
      replace E := Ext.trans E h
      replace C := C.ext h
      replace B1 := B1.ext h
      replace B2 := B2.ext h
      replace B3 := B3.ext h
      clear h
      clear k0 k1 lk
      clear p0 p1 p2 p3 p4 p5 p6 lp
      clear q0 q1 q2 q3 lq
      obtain ⟨k0, k1⟩ := B1.c2; have lk := B1.lt
      obtain ⟨p0, p1, p2, p3, p4, p5, p6⟩ := B2.c7; have lp := B2.lt
      obtain ⟨q0, q1, q2, q3⟩ := B3.c4; have lq := B3.lt
      go_wp2_with (go_at_call 88; (with_reducible refine Calls.mono (NF _ C) ?_); rintro e v4 ⟨rfl, h⟩)
      go_ret2
      exact ⟨by rw [HR.out.1, HR.out.2]; rfl, E.trans h⟩
  · have hne : (c.inE d == 0) = false := beq_eq_false_iff_ne.2 hE
    have HR : Hid (c.fitV t d = false ∧ c.fitE t d = c.inE d) := by
      unfold Hid Cal.fitV Cal.fitE
      rw [if_neg hE, decide_eq_false hE]
      exact ⟨rfl, rfl⟩
    clear hE
    generalize c.inE d = ee at *
    go_enter Tryd.func37, Tryd.ntmps37
    go_upto_region 1 with (fail)
    obtain ⟨v, hv⟩ : ∃ v, v = (((w.alloc (.cells #[.slice A c.nk ca, .slice A' c.ny cb] 25)).alloc (.cells #[.int .i64 t.d, .bool t.more, .int .i64 t.m, .bool t.s, .string t.nm, .int .i64 t.af, .string t.kg] 33)).alloc (.cells #[.int .i64 d.y, .int .i64 d.m, .bool d.s, .int .i64 d.d] 39)) := ⟨_, rfl⟩
    rw [← hv]
    have E : Ext w v := by rw [hv]; exact (((Ext.refl _).alloc _).alloc _).alloc _
    have B1 : Held v w.heap.size 25 #[.slice A c.nk ca, .slice A' c.ny cb] := by rw [hv]; exact ((Held.new _ _ _).alloc _).alloc _
    have B2 : Held v (w.heap.size + 1) 33 #[.int .i64 t.d, .bool t.more, .int .i64 t.m, .bool t.s, .string t.nm, .int .i64 t.af, .string t.kg] := by rw [hv]; exact (Held.at _ _ _ _ (by simp)).alloc _
    have B3 : Held v (w.heap.size + 1 + 1) 39 #[.int .i64 d.y, .int .i64 d.m, .bool d.s, .int .i64 d.d] := by rw [hv]; exact Held.at _ _ _ _ (by simp)
    clear hv
    have C := hC.ext E
    clear hC
    generalize w.heap.size = b1 at *
    obtain ⟨k0, k1⟩ := B1.c2; have lk := B1.lt
    obtain ⟨p0, p1, p2, p3, p4, p5, p6⟩ := B2.c7; have lp := B2.lt
    obtain ⟨q0, q1, q2, q3⟩ := B3.c4; have lq := B3.lt
    go_upto_region 2 with (go_at_call 87; (with_reducible refine Calls.mono (NT _ C) ?_); rintro e v2 ⟨rfl, h⟩)
    replace E := Ext.trans E h
    replace C := C.ext h
    replace B1 := B1.ext h
    replace B2 := B2.ext h
    replace B3 := B3.ext h
    clear h
    clear k0 k1 lk
    clear p0 p1 p2 p3 p4 p5 p6 lp
    clear q0 q1 q2 q3 lq
    obtain ⟨k0, k1⟩ := B1.c2; have lk := B1.lt
    obtain ⟨p0, p1, p2, p3, p4, p5, p6⟩ := B2.c7; have lp := B2.lt
    obtain ⟨q0, q1, q2, q3⟩ := B3.c4; have lq := B3.lt
    go_wp2
    go_ret2
    exact ⟨by rw [HR.out.1, HR.out.2]; rfl, E⟩
set_option maxRecDepth 100000 in
set_option maxHeartbeats 2000000 in
theorem months_own_r (y : Yr) (w : World) (hl : 0 ≤ y.lg) (hl' : y.lg ≤ 8191) :
    Calls Tryd.prog 107 #[.agg #[.int .i64 y.k, .string y.nm, .int .i64 y.lg, .int .i64 y.db]] w fun e w' => ∃ v, e = .returned v ∧ Ext w w' ∧ w'.ownsRow w.heap.size 141 3 v y.mos.length (mcells y y.mos) := by
  obtain ⟨i0, hi, hz0, hz1, hz2⟩ := info_parts info_mon
  go_enter Tryd.func107, Tryd.ntmps107
  go_upto_region 1 with (fail)
  obtain ⟨v, hv⟩ : ∃ v, v = (w.alloc (.cells #[.int .i64 y.k, .string y.nm, .int .i64 y.lg, .int .i64 y.db] 99)) := ⟨_, rfl⟩
  rw [← hv]
  have E : Ext w v := by rw [hv]; exact (Ext.refl _).alloc _
  have B : Held v w.heap.size 99 #[.int .i64 y.k, .string y.nm, .int .i64 y.lg, .int .i64 y.db] := by rw [hv]; exact Held.new _ _ _
  clear hv
  generalize w.heap.size = b at *
  go_upto_region 3 with (fail)
  go_loopw [3, 4] (fun o i wr => ∃ k : Nat, k ≤ 12 ∧ i = .int .i64 (k + 1) ∧ Ext v wr ∧ wr.ownsRow v.heap.size 141 3 o (y.moTo k).length (mcells y (y.moTo k))) (fun _ i _ => 13 - (intOf i).toNat)
  case atStart => exact ⟨0, by omega, rfl, Ext.refl _, ⟨rfl, Or.inl ⟨rfl, rfl⟩⟩⟩
  case round =>
    obtain ⟨k, hk, rfl, hB, hO⟩ := hrel
    obtain ⟨wo, rfl⟩ : ∃ wo : World, wo = wr := ⟨_, rfl⟩
    have B1 := B.ext hB
    obtain ⟨c0, c1, c2, c3⟩ := B1.c4
    have lb := B1.lt
    by_cases hlt : k < 12
    · have hlen := moTo_length y k
      have hml : (y.moTo k).length ≤ 13 := by rw [hlen]; split <;> omega
      clear hlen
      have HM := Lib.hid hml
      clear hml
      have L1 : ∀ w, Calls Tryd.prog 127 #[.agg #[.int .i64 y.k, .string y.nm, .int .i64 y.lg, .int .i64 y.db], .int .i64 k] w fun e w' => e = .returned (.int .i64 (y.len ((k : Int) + 1) false)) ∧ Ext w w' := fun w => by
        have := long_any y k w (by omega) (by omega) hl hl'
        rwa [show mlen y.lg (k : Int).toNat = y.len ((k : Int) + 1) false by unfold Yr.len; congr 1] at this
      have L2 : ∀ w, Calls Tryd.prog 127 #[.agg #[.int .i64 y.k, .string y.nm, .int .i64 y.lg, .int .i64 y.db], .int .i64 12] w fun e w' => e = .returned (.int .i64 (y.len ((k : Int) + 1) true)) ∧ Ext w w' := fun w => long_any y 12 w (by omega) (by omega) hl hl'
      have M1 : Hid (mcells y (y.moTo k) ++ [.int .i64 ((k : Int) + 1), .bool false, .int .i64 (y.len ((k : Int) + 1) false)] = mcells y (y.moTo k ++ [((k : Int) + 1, false)])) := (mcells_snoc y (y.moTo k) [((k : Int) + 1, false)]).symm
      have M2 : Hid (mcells y (y.moTo k ++ [((k : Int) + 1, false)]) ++ [.int .i64 ((k : Int) + 1), .bool true, .int .i64 (y.len ((k : Int) + 1) true)] = mcells y ((y.moTo k ++ [((k : Int) + 1, false)]) ++ [((k : Int) + 1, true)])) := (mcells_snoc y (y.moTo k ++ [((k : Int) + 1, false)]) [((k : Int) + 1, true)]).symm
      generalize y.len ((k : Int) + 1) false = q1 at *
      generalize y.len ((k : Int) + 1) true = q2 at *
      have hkb : decide ((k : Int) + 1 ≤ 12) = true := decide_eq_true (by omega)
      go_upto_region 6 with (first
        | (go_at_call 127; (with_reducible refine Calls.mono (L1 _) ?_); rintro e w1 ⟨rfl, h1⟩)
        | (at_builtin; refine wpList_append_own_at _ rfl _ _ 138 rfl v.heap.size 141 i0 (.agg #[.int .i64 0, .bool false, .int .i64 0]) 3 24 Tryd.underlying138 hi hz0 hz1 hz2 rfl (by decide) _ _ _ rfl ((owns_ext hO h1).alloc _) ⟨w1.heap.size, 0, none⟩ 1 1 [.int .i64 ((k : Int) + 1), .bool false, .int .i64 q1] rfl rfl (cells_newL _ _ _) (by simp [Value.oneCell']) (by have := HM.out; unfold maxLen; omega) (by have := HM.out; omega) (by have := hB.size; have := h1.size; simp; omega) ?_; intro o' w2 hown hgrow _ _))
      have E2 : Ext v w2 := ((hB.trans h1).alloc _).grown hgrow (fun q hq => (hO.lt q hq).1)
      rw [M1.out] at hown
      clear hgrow h1 c0 c1 c2 c3 lb B1
      have B1 := B.ext E2
      obtain ⟨c0, c1, c2, c3⟩ := B1.c4
      have lb := B1.lt
      clear hO
      by_cases hdb : y.db = (k : Int) + 1
      · have hdbb : (y.db == (k : Int) + 1) = true := by rw [hdb]; exact beq_self_eq_true _
        have HS : Hid ((y.moTo k ++ [((k : Int) + 1, false)]) ++ [((k : Int) + 1, true)] = y.moTo (k + 1)) := by unfold Hid; rw [moTo_succ, if_pos hdb, List.append_assoc]; rfl
        clear hdb
        go_upto_region 4 with (first
          | (go_at_call 127; (with_reducible refine Calls.mono (L2 _) ?_); rintro e w3 ⟨rfl, h3⟩)
          | (at_builtin; refine wpList_append_own_at _ rfl _ _ 138 rfl v.heap.size 141 i0 (.agg #[.int .i64 0, .bool false, .int .i64 0]) 3 24 Tryd.underlying138 hi hz0 hz1 hz2 rfl (by decide) _ _ _ rfl ((owns_ext hown h3).alloc _) ⟨w3.heap.size, 0, none⟩ 1 1 [.int .i64 ((k : Int) + 1), .bool true, .int .i64 q2] rfl rfl (cells_newL _ _ _) (by simp [Value.oneCell']) (by have := HM.out; unfold maxLen; omega) (by have := HM.out; omega) (by have := E2.size; have := h3.size; simp; omega) ?_; intro o2 w4 hown2 hgrow2 _ _))
        have E4 : Ext v w4 := ((E2.trans h3).alloc _).grown hgrow2 (fun q hq => (hown.lt q hq).1)
        rw [M2.out, HS.out] at hown2
        have hl4 : (y.moTo k).length + 1 + 1 = (y.moTo (k + 1)).length := by rw [← HS.out]; simp
        rw [hl4] at hown2
        clear M1 M2 HS hgrow2
        go_wp2
        exact ⟨⟨k + 1, by omega, by go_num, E4, hown2⟩, by simp [intOf]; omega⟩
      · have hdbb : (y.db == (k : Int) + 1) = false := beq_eq_false_iff_ne.2 hdb
        have HS : Hid ((y.moTo k ++ [((k : Int) + 1, false)]) = y.moTo (k + 1)) := by unfold Hid; rw [moTo_succ, if_neg hdb]
        clear hdb
        rw [HS.out] at hown
        have hl4 : (y.moTo k).length + 1 = (y.moTo (k + 1)).length := by rw [← HS.out]; simp
        rw [hl4] at hown
        clear M1 M2 HS
        go_wp2
        exact ⟨⟨k + 1, by omega, by go_num, E2, hown⟩, by simp [intOf]; omega⟩
    · obtain rfl : k = 12 := by omega
      go_wp2
      go_ret
      exact ⟨_, rfl, E.trans hB, World.ownsRow.mono hO E.size⟩
theorem rows_apart {W : World} {b s1 s2 k1 k2 : Nat} {e1 e2 : TypeId} {v1 v2 : Value} {x1 x2 : List Value} (h1 : W.ownsRow b e1 s1 v1 k1 x1) (h2 : W.ownsRow b e2 s2 v2 k2 x2) (hne : e1 ≠ e2) : v1.ownBlock = none ∨ v1.ownBlock ≠ v2.ownBlock := by
  cases hb : v1.ownBlock with
  | none => exact .inl rfl
  | some r =>
    refine .inr fun e => ?_
    obtain ⟨_, c1, g1⟩ := row_type h1 r hb
    obtain ⟨_, c2, g2⟩ := row_type h2 r e.symm
    rw [g1] at g2
    simp at g2
    exact hne g2.2
/-- What a step of the innermost loop leaves: the row of out, and that of the months. -/
structure RsStep (b W : World) (mv : Value) (n : Nat) (ms : List Value) (L : List Sp) (v : Value) : Prop where
  e : Ext b W
  m : W.ownsRow b.heap.size 141 3 mv n ms
  r : W.ownsRow b.heap.size 52 2 v L.length (spc L)
namespace RsStep
variable {b W W' : World} {mv v : Value} {n : Nat} {ms : List Value} {L : List Sp}
theorem ext (h : RsStep b W mv n ms L v) (e : Ext W W') : RsStep b W' mv n ms L v := ⟨h.e.trans e, ownsRow_ext h.m e, ownsRow_ext h.r e⟩
theorem toL {L2 : List Sp} (h : RsStep b W mv n ms L v) (e : L2 = L) : RsStep b W mv n ms L2 v := e ▸ h
theorem stored {L' : List Sp} {x y : Int} {g cap : Nat} (h : RsStep b W mv n ms (L' ++ [⟨x, y⟩]) (.slice (some ⟨g, 0, none⟩) (L'.length + 1) cap)) (z : Int) :
    RsStep b (W.setCell ⟨g, L'.length * 2 + 1, none⟩ (.int .i64 z)) mv n ms (L' ++ [⟨x, z⟩]) (.slice (some ⟨g, 0, none⟩) (L'.length + 1) cap) := by
  have hr := h.r
  rw [List.length_append] at hr
  obtain ⟨h1, h2⟩ := World.ownsRow.stored hr (L'.length * 2 + 1) (.int .i64 z)
  obtain ⟨hg, cur, hc⟩ := row_type h.r g rfl
  rw [spc_set] at h1
  exact ⟨h.e.setCell (p := ⟨g, L'.length * 2 + 1, none⟩) hg _, h.m.kept h2 (rows_apart h.m hr (by decide)), by rw [List.length_append]; exact h1⟩
theorem appended {w1 : World} {v' : Value} {z : Int} (h : RsStep b W mv n ms L v) {o : Obj}
    (hown : w1.ownsRow b.heap.size 52 2 v' (L.length + 1) (spc L ++ [.int .i64 z, .int .i64 z])) (hgrow : (W.alloc o).grownBy w1 v.ownBlock) : RsStep b w1 mv n ms (L ++ [⟨z, z⟩]) v' := by
  have ha := h.ext ((Ext.refl W).alloc o)
  refine ⟨ha.e.grown hgrow (fun q hq => (row_type ha.r q hq).1), ha.m.kept hgrow (rows_apart ha.m ha.r (by decide)), ?_⟩
  rw [List.length_append, spc_append]; exact hown
end RsStep
theorem fold_items (c : Cal) (t : Tr) (k : Nat) : foldTo c t (c.itemsTo (k + 1)) = foldTo c t (c.itemsTo k ++ runs k (c.yr k) (c.dayAt k) (c.yr k).mos) := rfl
/-- The months of year k up to the j-th. -/
def itRun (c : Cal) (k j : Nat) : List It := c.itemsTo k ++ runs k (c.yr k) (c.dayAt k) ((c.yr k).mos.take j)
theorem itRun_zero (c : Cal) (k : Nat) : itRun c k 0 = c.itemsTo k := by simp [itRun, runs]
theorem itRun_full (c : Cal) (k : Nat) : itRun c k (c.yr k).mos.length = c.itemsTo (k + 1) := by unfold itRun; rw [List.take_length]; rfl
theorem itRun_succ {c : Cal} {k j : Nat} (h : j < (c.yr k).mos.length) : itRun c k (j + 1) = itRun c k j ++ [⟨k, moI (c.yr k) j, moS (c.yr k) j, c.dayAt k + pre (c.yr k) j⟩] := by
  unfold itRun
  rw [List.take_succ_eq_append_getElem h, runs_append, ← List.append_assoc]
  congr 1
  have e : (c.yr k).mos[j] = (moI (c.yr k) j, moS (c.yr k) j) := by
    have : (c.yr k).mos.getD j (0, false) = (c.yr k).mos[j] := by rw [List.getD_eq_getElem?_getD, List.getElem?_eq_getElem h]; rfl
    unfold moI moS
    rw [this]
  rw [e]; rfl
theorem itRun_length (c : Cal) {k j : Nat} (hk : k < c.ny) : (itRun c k j).length ≤ 13 * c.ny := by
  unfold itRun
  rw [List.length_append, runs_length]
  have h1 := itemsTo_length c k
  have h2 := (mos_length (c.yr k)).2
  have h3 : ((c.yr k).mos.take j).length ≤ (c.yr k).mos.length := by rw [List.length_take]; omega
  have : 13 * (k + 1) ≤ 13 * c.ny := Nat.mul_le_mul_left 13 hk
  omega
set_option maxRecDepth 100000 in
set_option maxHeartbeats 4000000 in
theorem spans_any_r (A A' : Option Addr) (ca cb : Nat) (c : Cal) (t : Tr) (w : World) (hC : CalAt w A ca A' cb c) (hv : c.valid = true) (ht : t.ok = true) :
    Calls Tryd.prog 79 #[.agg #[.slice A c.nk ca, .slice A' c.ny cb], .agg #[.int .i64 t.d, .bool t.more, .int .i64 t.m, .bool t.s, .string t.nm, .int .i64 t.af, .string t.kg]] w fun e w' => ∃ v, e = .returned v ∧ Ext w w' ∧ SpansAt w' v (c.spans t) := by
  have ok := valid_iff.1 hv
  have hny := ok.ny.2
  have hlg := valid_lg hv
  have hkk : ∀ i, i < c.ny → 0 ≤ (c.yr i).k ∧ (c.yr i).k < c.nk := fun i hi => ⟨ok.k0 hi, (ok.yk i hi).2⟩
  obtain ⟨i0, hi, hz0, hz1, hz2⟩ := info_parts info_span
  clear hv ok
  go_enter Tryd.func79, Tryd.ntmps79
  go_upto_region 1 with (fail)
  obtain ⟨v, hv⟩ : ∃ v, v = ((w.alloc (.cells #[.slice A c.nk ca, .slice A' c.ny cb] 25)).alloc (.cells #[.int .i64 t.d, .bool t.more, .int .i64 t.m, .bool t.s, .string t.nm, .int .i64 t.af, .string t.kg] 33)) := ⟨_, rfl⟩
  rw [← hv]
  have E : Ext w v := by rw [hv]; exact ((Ext.refl _).alloc _).alloc _
  have B1 : Held v w.heap.size 25 #[.slice A c.nk ca, .slice A' c.ny cb] := by rw [hv]; exact (Held.new _ _ _).alloc _
  have B2 : Held v (w.heap.size + 1) 33 #[.int .i64 t.d, .bool t.more, .int .i64 t.m, .bool t.s, .string t.nm, .int .i64 t.af, .string t.kg] := by rw [hv]; exact Held.at _ _ _ _ (by simp)
  clear hv
  have C := hC.ext E
  clear hC
  generalize w.heap.size = b1 at *
  obtain ⟨k0, k1⟩ := B1.c2; have lk := B1.lt
  obtain ⟨p0, p1, p2, p3, p4, p5, p6⟩ := B2.c7; have lp := B2.lt
  go_upto_region 4 with (fail)
  clear k0 k1 lk p0 p1 p2 p3 p4 p5 p6 lp
  go_loopw [5, 6, 7, 8, 9, 10] (fun ov nv yv _ _ _ wr => ∃ k : Nat, k ≤ c.ny ∧ yv = .int .i64 (k : Int) ∧ nv = .int .i64 (c.dayAt k - 1) ∧ Ext v wr ∧ wr.ownsRow v.heap.size 52 2 ov (foldTo c t (c.itemsTo k)).length (spc (foldTo c t (c.itemsTo k)))) (fun _ _ yv _ _ _ _ => c.ny - (intOf yv).toNat)
  case atStart => exact ⟨0, Nat.zero_le _, rfl, rfl, Ext.refl _, World.ownsRow_nil _ _ _ _⟩
  case round =>
    obtain ⟨k, hk, rfl, rfl, hE, hO⟩ := hrel
    obtain ⟨wo, rfl⟩ : ∃ wo : World, wo = wr := ⟨_, rfl⟩
    have B1o := B1.ext hE
    obtain ⟨k0, k1⟩ := B1o.c2
    have lk := B1o.lt
    by_cases hlt : k < c.ny
    · obtain ⟨yb, yo, hA', hyb, y0, y1, y2, y3⟩ := (C.ext hE).year hlt
      subst hA'
      have hmo := fun w => months_own_r (c.yr k) w (hlg k hlt).1 (hlg k hlt).2
      have hlk := (mos_length (c.yr k)).2
      have hdk := dayAt_bd c k
      go_upto_region 7 with (go_at_call 107; (with_reducible refine Calls.mono (hmo _) ?_); rintro e v2 ⟨mv, rfl, h, MA⟩)
      obtain ⟨MB, mcap, rfl, -⟩ := monAt_own (World.ownsRow.mono MA (Nat.zero_le _))
      clear y0 y1 y2 y3 hyb hmo k0 k1 lk
      have hO2 := ownsRow_ext hO h
      have hM2 := World.ownsRow.mono MA hE.size
      have hE2 := hE.trans h
      clear h hO MA
      go_upto_region 8 with (fail)
      have HFX := Lib.hid (fun j (h : j < (c.yr k).mos.length) => itRun_succ (c := c) (k := k) h)
      have HLN := Lib.hid (fun j => itRun_length c (k := k) (j := j) hlt)
      have HPB := Lib.hid (fun j (h : j ≤ (c.yr k).mos.length) => pre_bd (y := c.yr k) h)
      have HPS := Lib.hid (fun j (h : j < (c.yr k).mos.length) => pre_succ (y := c.yr k) h)
      have hkk0 := hkk k hlt
      have HA := Lib.hid (pre_all (c.yr k))
      have HDn : Hid (c.dayAt (k + 1) = c.dayAt k + (c.yr k).days) := rfl
      go_loopw [5, 6, 9, 10] (fun ov nv iv _ wr => ∃ j : Nat, j ≤ (c.yr k).mos.length ∧ iv = .int .i64 (j : Int) ∧ nv = .int .i64 (c.dayAt k - 1 + pre (c.yr k) j) ∧ RsStep v wr (.slice MB (c.yr k).mos.length mcap) (c.yr k).mos.length (mcells (c.yr k) (c.yr k).mos) (foldTo c t (itRun c k j)) ov) (fun _ _ iv _ _ => (c.yr k).mos.length - (intOf iv).toNat)
      case atStart => exact ⟨0, Nat.zero_le _, rfl, by rw [pre_zero]; simp, ⟨hE2, hM2, by rw [itRun_zero]; exact hO2⟩⟩
      case round =>
        obtain ⟨j, hj, rfl, rfl, hS⟩ := hrel
        obtain ⟨wi, rfl⟩ : ∃ wi : World, wi = wr := ⟨_, rfl⟩
        have hpb := HPB.out j hj
        by_cases hjl : j < (c.yr k).mos.length
        · obtain ⟨MA, cap', he, MM⟩ := monAt_own (World.ownsRow.mono hS.m (Nat.zero_le _))
          cases he
          obtain ⟨mb, mo, rfl, hmb, c0, c1, c2⟩ := mon_at MM hjl
          have HX := Lib.hid (HFX.out j hjl)
          have hps := Lib.hid (HPS.out j hjl)
          have hml := moL_bd (c.yr k) j
          have HI : Hid (foldTo c t (itRun c k (j + 1)) = c.refFold t (foldTo c t (itRun c k j)) ⟨k, moI (c.yr k) j, moS (c.yr k) j, c.dayAt k + pre (c.yr k) j⟩ (moL (c.yr k) j).toNat) := by
            unfold Hid; rw [HX.out, foldTo_snoc]; rfl
          have hfl := foldTo_length c t (itRun c k j)
          have hfl2 := HLN.out j
          have hmo := mos_of hjl
          have hdd : Hid (c.dayAt k - 1 + pre (c.yr k) j = c.dayAt k + pre (c.yr k) j - 1) := by show _ = _; omega
          have hD0 : 0 ≤ c.dayAt k - 1 + pre (c.yr k) j := by omega
          have hD1 : c.dayAt k - 1 + pre (c.yr k) j ≤ 400000 := by omega
          clear c0 c1 c2 hmb MM hpb
          generalize hq : moL (c.yr k) j = q at *
          generalize c.dayAt k - 1 + pre (c.yr k) j = D at *
          generalize hF : c.dayAt k + pre (c.yr k) j = FF at *
          generalize hO3 : foldTo c t (itRun c k j) = O at *
          have hOl : O.length ≤ 156000 := by omega
          clear hfl hfl2
          go_upto_region 11 with (fail)
          go_loopw [5, 6, 10] (fun ov nv dv wr => ∃ e : Nat, (e : Int) ≤ q ∧ dv = .int .i64 ((e : Int) + 1) ∧ nv = .int .i64 (D + e) ∧ RsStep v wr (.slice (some ⟨mb, mo, none⟩) (c.yr k).mos.length mcap) (c.yr k).mos.length (mcells (c.yr k) (c.yr k).mos) (c.refFold t O ⟨k, moI (c.yr k) j, moS (c.yr k) j, FF⟩ e) ov) (fun _ _ dv _ => 32 - (intOf dv).toNat)
          case atStart => exact ⟨0, by omega, rfl, by simp, hS.toL (refFold_zero _ _ _ _)⟩
          case round =>
            clear hS
            obtain ⟨e, he, rfl, rfl, hS⟩ := hrel
            obtain ⟨w6, rfl⟩ : ∃ w6 : World, w6 = wr := ⟨_, rfl⟩
            obtain ⟨MA, cap', hee, MM⟩ := monAt_own (World.ownsRow.mono hS.m (Nat.zero_le _))
            cases hee
            obtain ⟨mb', mo', hee, hmb, c0, c1, c2⟩ := mon_at MM hjl
            cases hee
            rw [hq] at c2
            by_cases hle : (e : Int) + 1 ≤ q
            · have hleb : decide ((e : Int) + 1 ≤ q) = true := decide_eq_true hle
              have Ci := C.ext hS.e
              obtain ⟨k0, k1⟩ := (B1.ext hS.e).c2
              have lk := (B1.ext hS.e).lt
              obtain ⟨p0, p1, p2, p3, p4, p5, p6⟩ := (B2.ext hS.e).c7
              have lp := (B2.ext hS.e).lt
              have NF := fun w (h : CalAt w A ca (some ⟨yb, yo, none⟩) cb c) => fits_any_r A _ ca cb c t k (moI (c.yr k) j) (moS (c.yr k) j) ((e : Int) + 1) w h hlt hny hkk0.1 hkk0.2 (by omega) ht
              have HS := Lib.hid (refFold_step c t O ⟨k, moI (c.yr k) j, moS (c.yr k) j, FF⟩ e)
              have hrl : (c.refFold t O ⟨k, moI (c.yr k) j, moS (c.yr k) j, FF⟩ e).length ≤ O.length + e := by
                unfold Cal.refFold; split
                · exact dayFold_length _ _ _ _
                · omega
              generalize c.refFold t O ⟨k, moI (c.yr k) j, moS (c.yr k) j, FF⟩ e = L at *
              simp only at HS
              generalize moI (c.yr k) j = x at *
              generalize moS (c.yr k) j = z at *
              go_upto_region 14 with (fail)
              refine wp_region_xw w6 mixed (by kernel_rfl) (by repeat (first | exact Ext.refl _ | (refine Ext.alloc ?_ _) | (refine Ext.trans ?_ (by assumption)))) ?_
              intro hne hrx hry
              try simp only []
              try simp only [List.append_eq, List.cons_append, List.nil_append]
              skip
              repeat (first
                | go_big_quiet_skip
                | (go_big_quiet_want; go_big_quiet_op; go_big_quiet_on)
                | (go_big_quiet_want; go_big_quiet_op; apply Exists.intro; refine ⟨fun u => ?_, ?_⟩
                   · first
                       | (go_at_call 88; (with_reducible refine Calls.mono (NF _ (Ci.ext (Ext.trans (by repeat (first | exact Ext.refl _ | (refine Ext.alloc ?_ _) | (refine Ext.trans ?_ (by assumption)))) u.e))) ?_); rintro e' w' ⟨rfl, hb⟩; exact ⟨rfl, u.back hb⟩)
                   go_big_quiet_on))
              clear hne hry hrx
              refine wpQuiet_nil ?_
              intro w7 h7
              obtain ⟨hcw7, hfw7, hzw7⟩ := Ext.rules h7
              try simp only [World.size_alloc] at hzw7
              obtain ⟨hcbw7, hfbw7, hzbw7⟩ := Ext.rules (show Ext w6 w7 from (by repeat (first | exact Ext.refl _ | (refine Ext.alloc ?_ _) | (refine Ext.trans ?_ (by assumption)))))
              clear hcw7 hfw7
              have h7S := hS.ext h7
              have hdF := hdd.out
              clear hS c0 c1 c2 k0 k1 lk p0 p1 p2 p3 p4 p5 p6 lp NF Ci hmb hcbw7 hfbw7 hzw7 hzbw7 MM
              generalize c.fits t ⟨k, x, z, (e : Int) + 1⟩ = fb at *
              have hnd : FF + (e : Int) = D + (e : Int) + 1 := by omega
              rw [hnd] at HS
              clear hdF
              cases fb
              · go_wp2
                exact ⟨⟨e + 1, by omega, by go_num, by go_num, h7S.toL (by rw [HS.out]; rfl)⟩, by simp [intOf]; omega⟩
              · have hm1 : L.length + 1 ≤ maxLen := by unfold maxLen; omega
                have hm2 : (L.length + 1) * 16 ≤ 140737488355328 := by omega
                have hLl : L.length ≤ 1000000 := by omega
                rcases List.eq_nil_or_concat L with rfl | ⟨L', ⟨sa, sb⟩, rfl⟩
                · obtain ⟨A0, cap0, rfl⟩ : ∃ A0 cap0, u5 = .slice A0 0 cap0 := by
                    rcases h7S.r.2 with ⟨h, _⟩ | ⟨g, cap, cur, h, _⟩
                    · exact ⟨_, _, h⟩
                    · exact ⟨_, _, h⟩
                  go_wp2_with (at_builtin; refine wpList_append_own _ rfl _ _ 28 rfl v.heap.size 52 i0 (.agg #[.int .i64 0, .int .i64 0]) 2 16 Tryd.underlying28 hi hz0 hz1 hz2 rfl (by decide) _ _ _ rfl (h7S.r.alloc _) ⟨w7.heap.size, 0, none⟩ 1 1 [.int .i64 (D + (e : Int) + 1), .int .i64 (D + (e : Int) + 1)] rfl rfl (cells_new2 _ _ _ _) (by simp [Value.oneCell']) hm1 hm2 (by have := h7S.e.size; simp; omega) ?_; intro v' w8 hown' hgrow _; have hst1 := h7S.appended hown' hgrow)
                  exact ⟨⟨e + 1, by omega, by go_num, by go_num, hst1.toL (by rw [HS.out, if_pos rfl, addDay_nil]; rfl)⟩, by simp [intOf]; omega⟩
                · rw [List.concat_eq_append] at *
                  obtain ⟨g, cap, rfl⟩ := ownsRow_succ (show w7.ownsRow v.heap.size 52 2 u5 (L'.length + 1) _ by have := h7S.r; rwa [List.length_append] at this)
                  have hr9 := h7S.r
                  have hlast : w7.cell? ⟨g, L'.length * 2 + 1, none⟩ = some (.int .i64 sb) := by
                    rw [List.length_append] at hr9
                    exact (World.ownsRow.cellAt hr9 (L'.length * 2 + 1) (by omega)).trans (spc_last L' sa sb)
                  have hfl : w7.frozen? ⟨g, L'.length * 2 + 1, none⟩ = false := by
                    rw [List.length_append] at hr9
                    exact World.ownsRow.frozenAt hr9 _
                  have hLn : L'.length ≤ 1000000 := by rw [List.length_append] at hLl; omega
                  clear hr9
                  by_cases hbn : sb = D + (e : Int)
                  · have hbb : (sb == D + (e : Int)) = true := beq_iff_eq.2 hbn
                    have hbb' : (sb == D + (e : Int) + 1 - 1) = true := beq_iff_eq.2 (by omega)
                    have HB := Lib.hid hbn
                    clear hbn
                    have hs1 := h7S.stored (D + (e : Int) + 1)
                    go_wp2
                    exact ⟨⟨e + 1, by omega, by go_num, by go_num, hs1.toL (by rw [HS.out, if_pos rfl, addDay_join _ _ _ _ (by have := HB.out; omega)])⟩, by simp [intOf]; omega⟩
                  · have hbb : (sb == D + (e : Int)) = false := beq_eq_false_iff_ne.2 hbn
                    have hbb' : (sb == D + (e : Int) + 1 - 1) = false := beq_eq_false_iff_ne.2 (by omega)
                    have HB := Lib.hid hbn
                    clear hbn
                    go_wp2_with (at_builtin; refine wpList_append_own _ rfl _ _ 28 rfl v.heap.size 52 i0 (.agg #[.int .i64 0, .int .i64 0]) 2 16 Tryd.underlying28 hi hz0 hz1 hz2 rfl (by decide) _ _ _ rfl (h7S.r.alloc _) ⟨w7.heap.size, 0, none⟩ 1 1 [.int .i64 (D + (e : Int) + 1), .int .i64 (D + (e : Int) + 1)] rfl rfl (cells_new2 _ _ _ _) (by simp [Value.oneCell']) hm1 hm2 (by have := h7S.e.size; simp; omega) ?_; intro v' w8 hown' hgrow _; have hst1 := h7S.appended hown' hgrow)
                    exact ⟨⟨e + 1, by omega, by go_num, by go_num, hst1.toL (by rw [HS.out, if_pos rfl, addDay_apart _ _ _ _ (by have := HB.out; omega)])⟩, by simp [intOf]; omega⟩
            · have hleb : decide ((e : Int) + 1 ≤ q) = false := decide_eq_false hle
              have hee : e = q.toNat := by omega
              go_wp2
              exact ⟨⟨j + 1, by omega, by go_num, by have := hps.out; have := hdd.out; go_num, hS.toL (by rw [HI.out, hee])⟩, by simp [intOf]; omega⟩
        · obtain rfl : j = (c.yr k).mos.length := by omega
          go_wp2
          refine ⟨⟨k + 1, by omega, by go_num, ?_, hS.e, ?_⟩, by simp [intOf]; omega⟩
          · have := HA.out
            have := HDn.out
            go_num
          · have := hS.r
            rwa [itRun_full] at this
    · obtain rfl : k = c.ny := by omega
      go_wp2
      go_ret
      exact ⟨_, rfl, E.trans hE, spansAt_own hO⟩
set_option maxRecDepth 100000 in
set_option maxHeartbeats 4000000 in
theorem spansX_any_r (A A' : Option Addr) (ca cb : Nat) (c : Cal) (t : Tr) (w : World) (hC : CalAt w A ca A' cb c) :
    Calls Tryd.prog 38 #[.agg #[.slice A c.nk ca, .slice A' c.ny cb], .agg #[.int .i64 t.d, .bool t.more, .int .i64 t.m, .bool t.s, .string t.nm, .int .i64 t.af, .string t.kg]] w fun e w' => ∃ v, e = .returned (.tuple #[v, .int .i64 (c.spE t)]) ∧ Ext w w' ∧ SpansAt w' v (c.spV t) := by
  have NT := fun v (h : CalAt v A ca A' cb c) => validR_any A A' ca cb c v h
  have NC := fun w => checkTraceR_any t w
  cases hv : c.valid
  · have HR : Hid (c.spE t = 70) := by unfold Hid Cal.spE; rw [hv]; rfl
    have HV : Hid (c.spV t = []) := by unfold Hid Cal.spV; rw [HR.out]; rfl
    rw [hv] at NT
    clear hv
    go_enter Tryd.func38, Tryd.ntmps38
    go_upto_region 1 with (fail)
    obtain ⟨v, hv⟩ : ∃ v, v = ((w.alloc (.cells #[.slice A c.nk ca, .slice A' c.ny cb] 25)).alloc (.cells #[.int .i64 t.d, .bool t.more, .int .i64 t.m, .bool t.s, .string t.nm, .int .i64 t.af, .string t.kg] 33)) := ⟨_, rfl⟩
    rw [← hv]
    have E : Ext w v := by rw [hv]; exact ((Ext.refl _).alloc _).alloc _
    have B1 : Held v w.heap.size 25 #[.slice A c.nk ca, .slice A' c.ny cb] := by rw [hv]; exact (Held.new _ _ _).alloc _
    have B2 : Held v (w.heap.size + 1) 33 #[.int .i64 t.d, .bool t.more, .int .i64 t.m, .bool t.s, .string t.nm, .int .i64 t.af, .string t.kg] := by rw [hv]; exact Held.at _ _ _ _ (by simp)
    clear hv
    have C := hC.ext E
    clear hC
    generalize w.heap.size = b1 at *
    obtain ⟨k0, k1⟩ := B1.c2; have lk := B1.lt
    obtain ⟨p0, p1, p2, p3, p4, p5, p6⟩ := B2.c7; have lp := B2.lt
    go_upto_region 2 with (go_at_call 78; (with_reducible refine Calls.mono (NT _ C) ?_); rintro e v2 ⟨rfl, h⟩)
    replace E := Ext.trans E h
    replace C := C.ext h
    replace B1 := B1.ext h
    replace B2 := B2.ext h
    clear h
    clear k0 k1 lk
    clear p0 p1 p2 p3 p4 p5 p6 lp
    obtain ⟨k0, k1⟩ := B1.c2; have lk := B1.lt
    obtain ⟨p0, p1, p2, p3, p4, p5, p6⟩ := B2.c7; have lp := B2.lt
    go_wp2
    go_ret2
    exact ⟨_, by rw [HR.out]; rfl, E, by rw [HV.out]; exact spansAt_nil _⟩
  · cases ht : t.ok
    · have HR : Hid (c.spE t = 72) := by unfold Hid Cal.spE trChk; rw [hv, ht]; rfl
      have HV : Hid (c.spV t = []) := by unfold Hid Cal.spV; rw [HR.out]; rfl
      have hz : trChk t = 72 := by unfold trChk; rw [ht]; rfl
      simp only [hz] at NC
      rw [hv] at NT
      clear hz hv ht
      go_enter Tryd.func38, Tryd.ntmps38
      go_upto_region 1 with (fail)
      obtain ⟨v, hv⟩ : ∃ v, v = ((w.alloc (.cells #[.slice A c.nk ca, .slice A' c.ny cb] 25)).alloc (.cells #[.int .i64 t.d, .bool t.more, .int .i64 t.m, .bool t.s, .string t.nm, .int .i64 t.af, .string t.kg] 33)) := ⟨_, rfl⟩
      rw [← hv]
      have E : Ext w v := by rw [hv]; exact ((Ext.refl _).alloc _).alloc _
      have B1 : Held v w.heap.size 25 #[.slice A c.nk ca, .slice A' c.ny cb] := by rw [hv]; exact (Held.new _ _ _).alloc _
      have B2 : Held v (w.heap.size + 1) 33 #[.int .i64 t.d, .bool t.more, .int .i64 t.m, .bool t.s, .string t.nm, .int .i64 t.af, .string t.kg] := by rw [hv]; exact Held.at _ _ _ _ (by simp)
      clear hv
      have C := hC.ext E
      clear hC
      generalize w.heap.size = b1 at *
      obtain ⟨k0, k1⟩ := B1.c2; have lk := B1.lt
      obtain ⟨p0, p1, p2, p3, p4, p5, p6⟩ := B2.c7; have lp := B2.lt
      go_upto_region 3 with (go_at_call 78; (with_reducible refine Calls.mono (NT _ C) ?_); rintro e v2 ⟨rfl, h⟩)
      replace E := Ext.trans E h
      replace C := C.ext h
      replace B1 := B1.ext h
      replace B2 := B2.ext h
      clear h
      clear k0 k1 lk
      clear p0 p1 p2 p3 p4 p5 p6 lp
      obtain ⟨k0, k1⟩ := B1.c2; have lk := B1.lt
      obtain ⟨p0, p1, p2, p3, p4, p5, p6⟩ := B2.c7; have lp := B2.lt
      go_wp2_with (go_at_call 49; (with_reducible refine Calls.mono (NC _) ?_); rintro e v3 ⟨rfl, h⟩)
      go_ret2
      exact ⟨_, by rw [HR.out]; rfl, E.trans h, by rw [HV.out]; exact spansAt_nil _⟩
    · have HR : Hid (c.spE t = 0) := by unfold Hid Cal.spE trChk; rw [hv, ht]; rfl
      have HV : Hid (c.spV t = c.spans t) := by unfold Hid Cal.spV; rw [HR.out]; rfl
      have hz : trChk t = 0 := by unfold trChk; rw [ht]; rfl
      have NS := fun v (h : CalAt v A ca A' cb c) => spans_any_r A A' ca cb c t v h hv ht
      simp only [hz] at NC
      rw [hv] at NT
      clear hz hv ht
      go_enter Tryd.func38, Tryd.ntmps38
      go_upto_region 1 with (fail)
      obtain ⟨v, hv⟩ : ∃ v, v = ((w.alloc (.cells #[.slice A c.nk ca, .slice A' c.ny cb] 25)).alloc (.cells #[.int .i64 t.d, .bool t.more, .int .i64 t.m, .bool t.s, .string t.nm, .int .i64 t.af, .string t.kg] 33)) := ⟨_, rfl⟩
      rw [← hv]
      have E : Ext w v := by rw [hv]; exact ((Ext.refl _).alloc _).alloc _
      have B1 : Held v w.heap.size 25 #[.slice A c.nk ca, .slice A' c.ny cb] := by rw [hv]; exact (Held.new _ _ _).alloc _
      have B2 : Held v (w.heap.size + 1) 33 #[.int .i64 t.d, .bool t.more, .int .i64 t.m, .bool t.s, .string t.nm, .int .i64 t.af, .string t.kg] := by rw [hv]; exact Held.at _ _ _ _ (by simp)
      clear hv
      have C := hC.ext E
      clear hC
      generalize w.heap.size = b1 at *
      obtain ⟨k0, k1⟩ := B1.c2; have lk := B1.lt
      obtain ⟨p0, p1, p2, p3, p4, p5, p6⟩ := B2.c7; have lp := B2.lt
      go_upto_region 3 with (go_at_call 78; (with_reducible refine Calls.mono (NT _ C) ?_); rintro e v2 ⟨rfl, h⟩)
      replace E := Ext.trans E h
      replace C := C.ext h
      replace B1 := B1.ext h
      replace B2 := B2.ext h
      clear h
      clear k0 k1 lk
      clear p0 p1 p2 p3 p4 p5 p6 lp
      obtain ⟨k0, k1⟩ := B1.c2; have lk := B1.lt
      obtain ⟨p0, p1, p2, p3, p4, p5, p6⟩ := B2.c7; have lp := B2.lt
      go_upto_region 5 with (go_at_call 49; (with_reducible refine Calls.mono (NC _) ?_); rintro e v3 ⟨rfl, h⟩)
      replace E := Ext.trans E h
      replace C := C.ext h
      replace B1 := B1.ext h
      replace B2 := B2.ext h
      clear h
      clear k0 k1 lk
      clear p0 p1 p2 p3 p4 p5 p6 lp
      obtain ⟨k0, k1⟩ := B1.c2; have lk := B1.lt
      obtain ⟨p0, p1, p2, p3, p4, p5, p6⟩ := B2.c7; have lp := B2.lt
      go_wp2_with (go_at_call 79; (with_reducible refine Calls.mono (NS _ C) ?_); rintro e v4 ⟨sv, rfl, h, hS⟩)
      go_ret2
      exact ⟨_, by rw [HR.out]; rfl, E.trans h, by rw [HV.out]; exact hS⟩
end Go.Proofs.YtfchchmmjabjnaaDoor
