/- The reference's Series. -/
import Derived.Test.YtfchchmmjabjnaaDoorYm
import Derived.Test.YtfchchmmjabjnaaDoorWu
namespace Go.Proofs.YtfchchmmjabjnaaDoor
open Go Go.RowKit Go.Shelf
attribute [local go_sem] gv_yes

structure SerO (wo wr : World) (O n : Nat) (F L : Nat → Int) : Prop where
  e : Ext wo wr
  o : wr.rowIs O 52 (n * 2) (outF F L)
namespace SerO
variable {wo wr w' : World} {O n : Nat} {F L : Nat → Int}
theorem ext (h : SerO wo wr O n F L) (e : Ext wr w') : SerO wo w' O n F L := ⟨h.e.trans e, h.o.of_block (e.block h.o.lt)⟩
theorem first (h : SerO wo wr O n F L) (hO : wo.heap.size ≤ O) (i : Nat) (v : Int) : SerO wo (wr.setCell ⟨O, i * 2, none⟩ (.int .i64 v)) O n (fun j => if j = i then v else F j) L :=
  ⟨h.e.setCell (p := ⟨O, i * 2, none⟩) hO _, rowIs_first h.o i v⟩
theorem last (h : SerO wo wr O n F L) (hO : wo.heap.size ≤ O) (i : Nat) (v : Int) : SerO wo (wr.setCell ⟨O, i * 2 + 1, none⟩ (.int .i64 v)) O n F (fun j => if j = i then v else L j) :=
  ⟨h.e.setCell (p := ⟨O, i * 2 + 1, none⟩) hO _, rowIs_last h.o i v⟩
theorem upF {F' : Nat → Int} (h : SerO wo wr O n F L) (e : F = F') : SerO wo wr O n F' L := e ▸ h
theorem upL {L' : Nat → Int} (h : SerO wo wr O n F L) (e : L = L') : SerO wo wr O n F L' := e ▸ h
end SerO
theorem lateF_set {sp : Nat → List Sp} {n j : Nat} (hj : j < n) {v : Int} (h : v = late sp n j) : (fun i => if i = j then v else lateF sp n (j + 1) i) = lateF sp n j := by
  subst h
  funext i
  unfold lateF
  by_cases e : i = j
  · subst e; rw [if_pos rfl, if_pos ⟨Nat.le_refl _, hj⟩]
  · rw [if_neg e]
    by_cases h : j + 1 ≤ i ∧ i < n
    · rw [if_pos h, if_pos ⟨by omega, h.2⟩]
    · rw [if_neg h, if_neg (by omega)]
set_option maxRecDepth 100000 in
set_option maxHeartbeats 8000000 in
theorem series_any_r (A A' : Option Addr) (ca cb : Nat) (c : Cal) (B : Option Addr) (n cap : Nat) (f : Nat → Tr) (w : World) (hC : CalAt w A ca A' cb c) (hT : RowsAt w B n 7 (fun i => (f i).cells)) (hn : n ≤ 9223372036854775807) :
    Calls Tryd.prog 25 #[.agg #[.slice A c.nk ca, .slice A' c.ny cb], .slice B n cap] w fun e w' => ∃ v, e = .returned (.tuple #[v, .int .i64 (c.serE f n)]) ∧ Ext w w' ∧ SpansAt w' v (c.serV f n) := by
  have NT := fun v (h : CalAt v A ca A' cb c) => validR_any A A' ca cb c v h
  cases hv : c.valid
  · have HR : Hid (c.serE f n = 70) := by unfold Hid Cal.serE; rw [hv]; rfl
    have HV : Hid (c.serV f n = []) := by unfold Hid Cal.serV; rw [HR.out]; rfl
    rw [hv] at NT
    clear hv
    go_enter Tryd.func25, Tryd.ntmps25
    go_upto_region 1 with (fail)
    obtain ⟨v, hv⟩ : ∃ v, v = (w.alloc (.cells #[.slice A c.nk ca, .slice A' c.ny cb] 25)) := ⟨_, rfl⟩
    rw [← hv]
    have E : Ext w v := by rw [hv]; exact (Ext.refl _).alloc _
    have B1 : Held v w.heap.size 25 #[.slice A c.nk ca, .slice A' c.ny cb] := by rw [hv]; exact (Held.new _ _ _)
    clear hv
    have C := hC.ext E
    clear hC
    generalize w.heap.size = b1 at *
    obtain ⟨k0, k1⟩ := B1.c2; have lk := B1.lt
    go_upto_region 2 with (go_at_call 78; (with_reducible refine Calls.mono (NT _ C) ?_); rintro e v2 ⟨rfl, h⟩)
    replace E := Ext.trans E h
    replace C := C.ext h
    replace B1 := B1.ext h
    clear h
    clear k0 k1 lk
    obtain ⟨k0, k1⟩ := B1.c2; have lk := B1.lt
    go_wp2
    go_ret2
    exact ⟨_, by rw [HR.out]; rfl, E, by rw [HV.out]; exact spansAt_nil _⟩
  · by_cases h64 : 64 < n
    · have HR : Hid (c.serE f n = 3) := by unfold Hid Cal.serE; rw [hv, if_pos h64]; rfl
      have HV : Hid (c.serV f n = []) := by unfold Hid Cal.serV; rw [HR.out]; rfl
      rw [hv] at NT
      clear hv
      have hb : decide (64 < (n : Int)) = true := decide_eq_true (by omega)
      go_enter Tryd.func25, Tryd.ntmps25
      go_upto_region 1 with (fail)
      obtain ⟨v, hv⟩ : ∃ v, v = (w.alloc (.cells #[.slice A c.nk ca, .slice A' c.ny cb] 25)) := ⟨_, rfl⟩
      rw [← hv]
      have E : Ext w v := by rw [hv]; exact (Ext.refl _).alloc _
      have B1 : Held v w.heap.size 25 #[.slice A c.nk ca, .slice A' c.ny cb] := by rw [hv]; exact (Held.new _ _ _)
      clear hv
      have C := hC.ext E
      clear hC
      generalize w.heap.size = b1 at *
      obtain ⟨k0, k1⟩ := B1.c2; have lk := B1.lt
      go_upto_region 3 with (go_at_call 78; (with_reducible refine Calls.mono (NT _ C) ?_); rintro e v2 ⟨rfl, h⟩)
      replace E := Ext.trans E h
      replace C := C.ext h
      replace B1 := B1.ext h
      clear h
      clear k0 k1 lk
      obtain ⟨k0, k1⟩ := B1.c2; have lk := B1.lt
      go_wp2
      go_ret2
      exact ⟨_, by rw [HR.out]; rfl, E, by rw [HV.out]; exact spansAt_nil _⟩
    · have h64' : n ≤ 64 := by omega
      have hb : decide (64 < (n : Int)) = false := decide_eq_false (by omega)
      have hny := valid_ny hv
      have HR : Hid (c.serE f n = if serOk f n then (if serFail (fun i => c.spans (f i)) n then 73 else 0) else 72) := by unfold Hid Cal.serE; rw [hv, if_neg h64]; rfl
      have NA := fun v (h : CalAt v A ca A' cb c) => all_any_r A A' ca cb c v h hv
      have NSp := fun i (hi : (f i).ok = true) v (h : CalAt v A ca A' cb c) => spans_any_r A A' ca cb c (f i) v h hv hi
      rw [hv] at NT
      clear hv h64
      obtain ⟨i0, hi, hz0, hz1, hz2⟩ := info_parts info_span
      have hmk1 := fun W => run_make_cells (P := Tryd.prog) 28 52 i0 _ Tryd.underlying28 hi hz0 .i64 .i64 n (by rw [hz2]; omega) (by omega) W
      rw [hz1] at hmk1
      clear hi hz0 hz1 hz2
      go_enter Tryd.func25, Tryd.ntmps25
      go_upto_region 1 with (fail)
      obtain ⟨v, hv⟩ : ∃ v, v = (w.alloc (.cells #[.slice A c.nk ca, .slice A' c.ny cb] 25)) := ⟨_, rfl⟩
      rw [← hv]
      have E : Ext w v := by rw [hv]; exact (Ext.refl _).alloc _
      have B1 : Held v w.heap.size 25 #[.slice A c.nk ca, .slice A' c.ny cb] := by rw [hv]; exact (Held.new _ _ _)
      clear hv
      have C := hC.ext E
      clear hC
      generalize w.heap.size = b1 at *
      obtain ⟨k0, k1⟩ := B1.c2; have lk := B1.lt
      go_upto_region 3 with (go_at_call 78; (with_reducible refine Calls.mono (NT _ C) ?_); rintro e v2 ⟨rfl, h⟩)
      replace E := Ext.trans E h
      replace C := C.ext h
      replace B1 := B1.ext h
      clear h
      clear k0 k1 lk
      obtain ⟨k0, k1⟩ := B1.c2; have lk := B1.lt
      go_wp2
      clear k0 k1 lk
      go_loopw [6] (fun i wr => ∃ k : Nat, k ≤ n ∧ i = .int .i64 (k : Int) ∧ OksTo f k ∧ Ext v2 wr) (fun i _ => n - (intOf i).toNat)
      case atStart => exact ⟨0, Nat.zero_le _, rfl, (fun i h => absurd h (by omega)), Ext.refl _⟩
      case round =>
        obtain ⟨k, hk, rfl, hO, hB⟩ := hrel
        obtain ⟨wo, rfl⟩ : ∃ wo : World, wo = wr := ⟨_, rfl⟩
        by_cases hlt : k < n
        · obtain ⟨b, off, rfl, hbl, c0, c1, c2, c3, c4, c5, c6⟩ := Tr.row (hT.ext (E.trans hB)) hlt
          have NC := fun w => checkTraceR_any (f k) w
          cases hok : (f k).ok
          · have hz : trChk (f k) = 72 := by unfold trChk; rw [hok]; rfl
            simp only [hz] at NC
            have HO := Lib.hid hok
            clear hz hok
            go_wp2_with (go_at_call 49; (with_reducible refine Calls.mono (NC _) ?_); rintro e wn ⟨rfl, hn'⟩)
            go_ret2
            have HR2 : c.serE f n = 72 := by rw [HR.out, serOk_no hlt HO.out]; rfl
            exact ⟨_, by rw [HR2]; rfl, (by repeat (first | exact Ext.refl _ | (refine Ext.alloc ?_ _) | (refine Ext.trans ?_ (by assumption)))), by unfold Cal.serV; rw [HR2]; exact spansAt_nil _⟩
          · have hz : trChk (f k) = 0 := by unfold trChk; rw [hok]; rfl
            simp only [hz] at NC
            have HO := Lib.hid hok
            clear hz hok
            go_wp2_with (go_at_call 49; (with_reducible refine Calls.mono (NC _) ?_); rintro e wn ⟨rfl, hn'⟩)
            exact ⟨⟨k + 1, by omega, by go_num, to_snoc hO HO.out, (by repeat (first | exact Ext.refl _ | (refine Ext.alloc ?_ _) | (refine Ext.trans ?_ (by assumption))))⟩, by simp [intOf]; omega⟩
        · obtain rfl : k = n := by omega
          have hOn : Hid (OksTo f k) := hO
          have hE1 : Ext w wo := E.trans hB
          clear hO hlt hk
          replace B1 := B1.ext hB
          have Co := C.ext hB
          have hTo := hT.ext hE1
          clear hB C hT
          go_upto_region 11 with (fail)
          clear hmk1
          obtain ⟨W2, hW2⟩ : ∃ W2, W2 = wo.alloc (.cells (madeCells #[.int .i64 0, .int .i64 0] (k * 2)) 52) := ⟨_, rfl⟩
          rw [← hW2]
          have hE2 : Ext wo W2 := by rw [hW2]; exact (Ext.refl _).alloc _
          have hO0 : W2.rowIs wo.heap.size 52 (k * 2) (outF (fun _ => 0) (fun _ => 0)) := by rw [hW2]; exact rowIs_madeSpan wo k
          clear hW2
          generalize hOb : wo.heap.size = O at *
          have hO1 := Nat.le_of_eq hOb
          clear hOb
          have hk63 : k ≤ 64 := h64'
          obtain ⟨sp, hsp⟩ : ∃ sp : Nat → List Sp, sp = fun i => c.spans (f i) := ⟨_, rfl⟩
          have HSP : Hid (∀ i, c.spans (f i) = sp i) := fun i => by rw [hsp]
          have HLR : Hid (∀ j m, j < k → m < (sp j).length → ((sp j).getD m ⟨0, 0⟩).a ≤ c.lateR sp k (j + 1) → (∀ i, m < i → i < (sp j).length → c.lateR sp k (j + 1) < ((sp j).getD i ⟨0, 0⟩).a) → min (c.lateR sp k (j + 1)) ((sp j).getD m ⟨0, 0⟩).b = late sp k j) := by
            rw [hsp]; intro j m hj hm h ha; exact lateR_here hny hj hm h ha
          have HLS : Hid (serFail sp k = false → ∀ j, j < k → ∃ m, m < (sp j).length ∧ ((sp j).getD m ⟨0, 0⟩).a ≤ c.lateR sp k (j + 1)) := by
            rw [hsp]; intro hF j hj; exact lateR_some hny hj hF
          have HR2 : Hid (c.serE f k = if serOk f k then (if serFail sp k then 73 else 0) else 72) := by unfold Hid; rw [hsp]; exact HR.out
          have HV2 : Hid (c.serE f k = 0 → c.serV f k = serL sp k) := by intro h; unfold Cal.serV; rw [if_pos h, hsp]
          have HLT : Hid (c.lateR sp k k = c.all) := by unfold Hid Cal.lateR; rw [if_pos rfl]
          have HLJ : Hid (∀ j, j < k → c.lateR sp k j = late sp k j) := fun j hj => by unfold Cal.lateR; rw [if_neg (by omega)]
          have NS := fun i (hi : i < k) v (h : CalAt v A ca A' cb c) => NSp i (hOn.out i hi) v h
          have hall := all_bd hny
          have HAL : Hid (∀ j, j < k → ∀ s, s ∈ sp j → s.b ≤ c.all) := by
            rw [hsp]; intro j _ s hs; exact (spans_all s hs).2
          clear hsp HR NSp
          have hS0 : SerO wo W2 O k (fun _ => 0) (fun _ => 0) := ⟨hE2, hO0⟩
          clear hO0 hE2
          go_upto_region 13 with (fail)
          go_loopw [8, 9, 10, 11] (fun dv iv _ _ wr => ∃ j : Nat, j ≤ k ∧ iv = .int .i64 (j : Int) ∧ dv = .int .i64 (early sp j) ∧ 1 ≤ early sp j ∧ NoFail sp j ∧ SerO wo wr O k (fun i => if i < j then early sp (i + 1) else 0) (fun _ => 0)) (fun _ iv _ _ _ => k - (intOf iv).toNat)
          case atStart => exact ⟨0, Nat.zero_le _, rfl, rfl, Int.le_refl _, (fun j h => absurd h (by omega)), hS0⟩
          case round =>
            clear hS0
            obtain ⟨j, hj, rfl, rfl, he1, hNF, hS⟩ := hrel
            obtain ⟨w1, rfl⟩ : ∃ w1 : World, w1 = wr := ⟨_, rfl⟩
            have Co1 := Co.ext hS.e
            obtain ⟨k0, k1⟩ := (B1.ext hS.e).c2
            have lk := (B1.ext hS.e).lt
            by_cases hlt : j < k
            · obtain ⟨b, off, hBB, hbl, c0, c1, c2, c3, c4, c5, c6⟩ := Tr.row (hTo.ext hS.e) hlt
              subst hBB
              go_upto_region 15 with (fail)
              refine wp_region_stepsW 7 w1 mixed rfl (Ext.refl _) ?_
              intro hne hrx v3 h3
              refine any_stills (g := 2) [0, 1, 2, 3, 4] [_, _, _, _, _] ⟨rfl, rfl, rfl, rfl, rfl, trivial⟩ (by kernel_rfl) (by kernel_rfl) h3 ?_
              simp only [List.getElem_toArray, List.getElem_cons_succ, List.getElem_cons_zero]
              apply Exists.intro
              refine ⟨fun u => ?_, ?_⟩
              · repeat (first | go_big_quiet_skip | (go_big_quiet_want; go_big_quiet_op; go_big_quiet_on))
                refine wpQuiet_nil ?_
                rfl
              refine any_one 5 rfl (by kernel_rfl) ?_
              simp only [List.getElem_toArray, List.getElem_cons_succ, List.getElem_cons_zero]
              go_wp2_with (go_at_call 79; (with_reducible refine Calls.mono (NS j hlt _ (Co1.ext h3)) ?_); rintro e w4 ⟨sv, rfl, h4, hSA⟩)
              have e4 := h3.trans h4
              refine onQ_in e4 ?_
              clear hne hrx h3 h4
              refine any_one 6 rfl (by kernel_rfl) ?_
              simp only [List.getElem_toArray, List.getElem_cons_succ, List.getElem_cons_zero]
              go_wp2
              refine onQ_in e4 ?_
              refine any_done (by kernel_rfl) ?_
              rw [HSP.out] at hSA
              have hS := hS.ext e4
              obtain ⟨A2, cap2, rfl, hRA, hl1, hl2⟩ := hSA
              have hSA : SpansAt w4 (.slice A2 (sp j).length cap2) (sp j) := ⟨A2, cap2, rfl, hRA, hl1, hl2⟩
              have hlk : (sp j).length ≤ 9223372036854775807 := by unfold maxLen at hl2; omega
              clear hl1 hl2 hRA
              clear c0 c1 c2 c3 c4 c5 c6 k0 k1 lk
              have hS0 := hS
              clear hS
              go_upto_region 17 with (fail)
              go_loopw [11] (fun iv wr => ∃ m : Nat, m ≤ (sp j).length ∧ iv = .int .i64 (m : Int) ∧ Before (sp j) (early sp j) m ∧ Ext w4 wr) (fun iv _ => (sp j).length - (intOf iv).toNat)
              case atStart => exact ⟨0, Nat.zero_le _, rfl, (fun j h => absurd h (by omega)), Ext.refl _⟩
              case round =>
                obtain ⟨m, hm, rfl, hBf, hE6⟩ := hrel
                obtain ⟨w6, rfl⟩ : ∃ w6 : World, w6 = wr := ⟨_, rfl⟩
                have hS := hS0.ext hE6
                clear hS0
                by_cases hml : m < (sp j).length
                · have hmb : decide ((m : Int) < ((sp j).length : Int)) = true := decide_eq_true (by omega)
                  have hme : ((m : Int) == ((sp j).length : Int)) = false := beq_eq_false_iff_ne.2 (by omega)
                  obtain ⟨b3, off3, hbb, hb3, a0, a1⟩ := spans_cell (hSA.ext hE6) hml
                  subst hbb
                  generalize hx : (sp j).getD m ⟨0, 0⟩ = x at *
                  by_cases hxe : early sp j ≤ x.b
                  · have hxd : decide (x.b < early sp j) = false := decide_eq_false (by omega)
                    have hfx : Hid (early sp (j + 1) = max x.a (early sp j)) := firstFrom_here hml hBf (by rw [hx]; exact hxe) |>.trans (by rw [hx])
                    have ho := hS.o.cell (i := j * 2) (by omega)
                    rw [outF_first] at ho
                    have hfo := hS.o.frozen (j * 2)
                    have hOl := hS.o.lt
                    by_cases hab : early sp j < x.a
                    · have hmx : Hid (early sp (j + 1) = x.a) := hfx.out.trans (by omega)
                      have hS7 := (hS.first hO1 j x.a).upF (serF_step hmx.out)
                      clear hfx hx
                      go_wp2
                      exact ⟨⟨j + 1, by omega, by go_num, by rw [hmx.out], by rw [hmx.out]; omega, noFail_snoc hNF (by rw [hmx.out]; omega), hS7⟩, by simp [intOf]; omega⟩
                    · have hab' : x.a ≤ early sp j := by omega
                      have hmx : Hid (early sp (j + 1) = early sp j) := hfx.out.trans (by omega)
                      have hS7 := (hS.first hO1 j (early sp j)).upF (serF_step hmx.out)
                      clear hfx hx hab
                      go_wp2
                      exact ⟨⟨j + 1, by omega, by go_num, by rw [hmx.out], by rw [hmx.out]; exact he1, noFail_snoc hNF (by rw [hmx.out]; omega), hS7⟩, by simp [intOf]; omega⟩
                  · have hxd : decide (x.b < early sp j) = true := decide_eq_true (by omega)
                    have HXE := Lib.hid hxe
                    have HX := Lib.hid hx
                    clear hxe hx
                    go_wp2
                    exact ⟨⟨m + 1, by omega, by go_num, before_snoc hBf (by rw [HX.out]; have := HXE.out; omega), hE6⟩, by simp [intOf]; omega⟩
                · obtain rfl : m = (sp j).length := by omega
                  have hmb : decide ((((sp j).length : Nat) : Int) < ((sp j).length : Int)) = false := decide_eq_false (by omega)
                  have hfl : Hid (early sp (j + 1) = 0) := firstFrom_none (e := early sp j) hBf
                  go_wp2
                  go_ret2
                  have HR3 : c.serE f k = 73 := by rw [HR2.out, serOk_yes hOn.out, serFail_yes hlt hfl.out]; rfl
                  exact ⟨_, by rw [HR3]; rfl, hE1.trans hS.e, by unfold Cal.serV; rw [HR3]; exact spansAt_nil _⟩
            · obtain rfl : j = k := by omega
              have hF := serFail_no hNF
              have HR3 : Hid (c.serE f j = 0) := by unfold Hid; rw [HR2.out, serOk_yes hOn.out, hF]; rfl
              have HV3 : Hid (c.serV f j = serL sp j) := HV2.out HR3.out
              have HLS := Lib.hid (HLS.out hF)
              clear hNF hlt hj hF HV2 HR2
              go_upto_region 24 with (go_at_call 80; (with_reducible refine Calls.mono (NA _ Co1) ?_); rintro e w3 ⟨rfl, h⟩)
              replace hS := hS.ext h
              clear k0 k1 lk h Co1
              go_upto_region 25 with (fail)
              go_loopw [8, 12, 13, 14] (fun dv iv _ _ wr => ∃ i : Nat, i ≤ j ∧ iv = .int .i64 ((i : Int) - 1) ∧ dv = .int .i64 (c.lateR sp j i) ∧ SerO wo wr O j (fun i => if i < j then early sp (i + 1) else 0) (lateF sp j i)) (fun _ iv _ _ _ => (intOf iv + 1).toNat)
              case atStart => exact ⟨j, Nat.le_refl _, rfl, by rw [HLT.out], hS.upL (lateF_top sp j).symm⟩
              case round =>
                clear hS
                obtain ⟨i, hi, rfl, rfl, hS⟩ := hrel
                obtain ⟨w5, rfl⟩ : ∃ w5 : World, w5 = wr := ⟨_, rfl⟩
                have Co1 := Co.ext hS.e
                obtain ⟨k0, k1⟩ := (B1.ext hS.e).c2
                have lk := (B1.ext hS.e).lt
                cases i with
                | zero =>
                  go_wp2
                  go_ret2
                  refine ⟨_, by rw [HR3.out]; rfl, hE1.trans hS.e, ?_⟩
                  rw [HV3.out]
                  exact serL_at hS.o (by unfold maxLen; omega)
                | succ i =>
                  rw [show ((i + 1 : Nat) : Int) - 1 = i by omega]
                  have hlt : i < j := by omega
                  obtain ⟨b, off, hBB, hbl, c0, c1, c2, c3, c4, c5, c6⟩ := Tr.row (hTo.ext hS.e) hlt
                  subst hBB
                  go_upto_region 27 with (fail)
                  refine wp_region_stepsW 7 w5 mixed rfl (Ext.refl _) ?_
                  intro hne hrx v3 h3
                  refine any_stills (g := 2) [0, 1, 2, 3, 4] [_, _, _, _, _] ⟨rfl, rfl, rfl, rfl, rfl, trivial⟩ (by kernel_rfl) (by kernel_rfl) h3 ?_
                  simp only [List.getElem_toArray, List.getElem_cons_succ, List.getElem_cons_zero]
                  apply Exists.intro
                  refine ⟨fun u => ?_, ?_⟩
                  · repeat (first | go_big_quiet_skip | (go_big_quiet_want; go_big_quiet_op; go_big_quiet_on))
                    refine wpQuiet_nil ?_
                    rfl
                  refine any_one 5 rfl (by kernel_rfl) ?_
                  simp only [List.getElem_toArray, List.getElem_cons_succ, List.getElem_cons_zero]
                  go_wp2_with (go_at_call 79; (with_reducible refine Calls.mono (NS i hlt _ (Co1.ext h3)) ?_); rintro e w4 ⟨sv, rfl, h4, hSA⟩)
                  have e4 := h3.trans h4
                  refine onQ_in e4 ?_
                  clear hne hrx h3 h4
                  refine any_one 6 rfl (by kernel_rfl) ?_
                  simp only [List.getElem_toArray, List.getElem_cons_succ, List.getElem_cons_zero]
                  go_wp2
                  refine onQ_in e4 ?_
                  refine any_done (by kernel_rfl) ?_
                  rw [HSP.out] at hSA
                  have hS := hS.ext e4
                  obtain ⟨A2, cap2, rfl, hRA, hl1, hl2⟩ := hSA
                  have hSA : SpansAt w4 (.slice A2 (sp i).length cap2) (sp i) := ⟨A2, cap2, rfl, hRA, hl1, hl2⟩
                  have hlk : (sp i).length ≤ 9223372036854775807 := by unfold maxLen at hl2; omega
                  clear hl1 hl2 hRA
                  clear c0 c1 c2 c3 c4 c5 c6 k0 k1 lk
                  obtain ⟨m0, hm0, hm1⟩ := HLS.out i hlt
                  have HHR := Lib.hid (fun m => HLR.out i m hlt)
                  have hS0 := hS
                  clear hS
                  obtain ⟨dR, hdR⟩ : ∃ d, d = c.lateR sp j (i + 1) := ⟨_, rfl⟩
                  rw [← hdR] at hm1 HHR ⊢
                  clear hdR
                  go_upto_region 29 with (fail)
                  go_loopw [14] (fun kv wr => ∃ m : Nat, m < (sp i).length ∧ kv = .int .i64 (m : Int) ∧ (∀ q, m < q → q < (sp i).length → dR < ((sp i).getD q ⟨0, 0⟩).a) ∧ Ext w4 wr) (fun kv _ => (intOf kv).toNat)
                  case atStart => exact ⟨(sp i).length - 1, by omega, by go_num, (fun q h1 h2 => absurd h1 (by omega)), Ext.refl _⟩
                  case round =>
                    obtain ⟨m, hml, rfl, hAf, hE6⟩ := hrel
                    obtain ⟨w6, rfl⟩ : ∃ w6 : World, w6 = wr := ⟨_, rfl⟩
                    have hS := hS0.ext hE6
                    clear hS0
                    obtain ⟨b3, off3, hbb, hb3, a0, a1⟩ := spans_cell (hSA.ext hE6) hml
                    subst hbb
                    have hle0 : m0 ≤ m := by
                      rcases Nat.lt_or_ge m m0 with h | h
                      · have := hAf m0 h hm0; omega
                      · exact h
                    by_cases hxe : ((sp i).getD m ⟨0, 0⟩).a ≤ dR
                    · have hlast := Lib.hid (HHR.out m hml hxe hAf)
                      generalize hx : (sp i).getD m ⟨0, 0⟩ = x at *
                      have hxd : decide (dR < x.a) = false := decide_eq_false (by omega)
                      have ho := hS.o.cell (i := i * 2 + 1) (by omega)
                      rw [outF_last] at ho
                      have hfo := hS.o.frozen (i * 2 + 1)
                      have hOl := hS.o.lt
                      by_cases hab : x.b < dR
                      · have hmx : Hid (x.b = late sp j i) := (show x.b = min dR x.b by omega).trans hlast.out
                        have hS7 := (hS.last hO1 i x.b).upL (lateF_set hlt hmx.out)
                        clear hlast hx
                        go_wp2
                        exact ⟨⟨i, by omega, by go_num, by rw [HLJ.out i hlt, ← hmx.out], hS7⟩, by first | (simp [intOf]; done) | (simp [intOf]; omega)⟩
                      · have hab' : dR ≤ x.b := by omega
                        have hmx : Hid (dR = late sp j i) := (show dR = min dR x.b by omega).trans hlast.out
                        have hS7 := (hS.last hO1 i dR).upL (lateF_set hlt hmx.out)
                        clear hlast hx hab
                        go_wp2
                        exact ⟨⟨i, by omega, by go_num, by rw [HLJ.out i hlt, ← hmx.out], hS7⟩, by first | (simp [intOf]; done) | (simp [intOf]; omega)⟩
                    · have hm2 : 0 < m := by
                        rcases Nat.lt_or_ge m0 m with h | h
                        · omega
                        · obtain rfl : m = m0 := by omega
                          exact absurd hm1 hxe
                      have hAf2 : ∀ q, m - 1 < q → q < (sp i).length → dR < ((sp i).getD q ⟨0, 0⟩).a := fun q h1 h2 => by
                        by_cases e : q = m
                        · subst e; omega
                        · exact hAf q (by omega) h2
                      have hxd : decide (dR < ((sp i).getD m ⟨0, 0⟩).a) = true := decide_eq_true (by omega)
                      generalize (sp i).getD m ⟨0, 0⟩ = x at *
                      clear hxe
                      go_wp2
                      exact ⟨⟨m - 1, by omega, by go_num, hAf2, hE6⟩, by simp [intOf]; omega⟩
end Go.Proofs.YtfchchmmjabjnaaDoor
